/- Each Go function computes its plain twin, by program. -/
import Derived.Test.YtmngaaffadcccaaGreatDoorWk1
namespace Go.Proofs.YtmngaaffadcccaaGreatDoor
open Go
theorem cmp_Compare_int_ok (w : World) (p_x : Int) (p_y : Int) (r : Int) (h : cmp_Compare_int p_x p_y = r) :
    Calls Tryz.prog 73 [iV p_x, iV p_y].toArray w (Ret w [] fun _ v _ => v = iV r) := by
 refine f_enter [] [] Tryz.func73 rfl Tryz.ntmps73 rfl (by simp) (by simp [fps]) (by simp [fps]) fun a S => ?_
 unfold cmp_Compare_int at h
 replace S := S.nk [] [(0, iV p_x), (1, iV p_y)] [] rfl (subR rfl)
 refine f_seq (f_region (lv S (rn_assign rfl) rfl ?_)); clear S; intro a S
 refine l_done (then_n (f_seq (f_region (lv S (rn_move (S.tm rfl)) rfl ?_)))); clear S; intro a S
 refine l_enter S (fun _ => run_call (vs := [iV p_x]) ⟨(S.tm rfl), trivial⟩ Tryz.call91) (cmp_isNaN_int_ok _ p_x _ rfl) rfl ?_; clear S; intro v1 a w1 hv1 hk1 hn1 S
 subst hv1
 refine lv S (rn_assign (S.tm rfl)) rfl ?_; clear S; intro a S
 refine l_done (then_n (f_seq (f_region (lv S (rn_move (S.tm rfl)) rfl ?_)))); clear S; intro a S
 refine l_enter S (fun _ => run_call (vs := [iV p_y]) ⟨(S.tm rfl), trivial⟩ Tryz.call91) (cmp_isNaN_int_ok _ p_y _ rfl) rfl ?_; clear S; intro v2 a w2 hv2 hk2 hn2 S
 subst hv2
 refine lv S (rn_assign (S.tm rfl)) rfl ?_; clear S; intro a S
 refine l_done (then_n (f_seq (f_seq (f_region (lv S (rn_move (S.tm rfl)) rfl ?_))))); clear S; intro a S
 refine l_done (then_n (f_cond (S.tm rfl) (fun hb1 => ?_) (fun hb1 => ?_)))
 ·replace h := iteT h hb1
  refine f_seq (f_seq (f_region (lv S (rn_move (S.tm rfl)) rfl ?_))); clear S; intro a S
  refine l_done (then_n (f_cond (S.tm rfl) (fun hb2 => ?_) (fun hb2 => ?_)))
  ·replace h := iteT h hb2
   refine f_seq (f_region (lv S (rn_assign rfl) rfl ?_)); clear S; intro a S
   refine l_done (then_n (wp_ret (then_r (then_r ?_))))
   subst h
   exact f_ret S Tryz.results73 rfl rfl
  ·replace h := iteF h hb2
   refine wp_skip (then_n (f_seq (f_region (lv S (rn_assign rfl) rfl ?_)))); clear S; intro a S
   refine l_done (then_n (wp_ret (then_r ?_)))
   subst h
   exact f_ret S Tryz.results73 rfl rfl
 ·replace h := iteF h hb1
  refine wp_skip (then_n (f_seq (f_seq (f_region (lv S (rn_move (S.tm rfl)) rfl ?_))))); clear S; intro a S
  refine l_done (then_n (f_cond (S.tm rfl) (fun hb3 => ?_) (fun hb3 => ?_)))
  ·replace h := iteT h hb3
   refine f_seq (f_region (lv S (rn_assign rfl) rfl ?_)); clear S; intro a S
   refine l_done (then_n (wp_ret (then_r ?_)))
   subst h
   exact f_ret S Tryz.results73 rfl rfl
  ·replace h := iteF h hb3
   refine wp_skip (then_n (f_seq (f_seq (f_region (lv S (rn_move (S.tm rfl)) rfl ?_))))); clear S; intro a S
   refine lv S (rn_move (S.tm rfl)) rfl ?_; clear S; intro a S
   refine lv S (rn_lss (S.tm rfl) (S.tm rfl)) rfl ?_; clear S; intro a S
   refine l_done (then_n (f_cond (S.tm rfl) (fun hb4 => ?_) (fun hb4 => ?_)))
   ·replace h := iteT h hb4
    refine f_seq (f_region (lv S (rn_assign rfl) rfl ?_)); clear S; intro a S
    refine l_done (then_n (wp_ret (then_r ?_)))
    subst h
    exact f_ret S Tryz.results73 rfl rfl
   ·replace h := iteF h hb4
    refine wp_skip (then_n (f_seq (f_seq (f_region (lv S (rn_move (S.tm rfl)) rfl ?_))))); clear S; intro a S
    refine lv S (rn_move (S.tm rfl)) rfl ?_; clear S; intro a S
    refine lv S (rn_gtr (S.tm rfl) (S.tm rfl)) rfl ?_; clear S; intro a S
    refine l_done ?_
    replace S := S.nk [] [(19, bV (decide (p_y < p_x)))] [] rfl ⟨rfl, trivial⟩
    refine then_n (f_cond (S.tm rfl) (fun hb5 => ?_) (fun hb5 => ?_))
    ·replace h := iteT h hb5
     refine f_seq (f_region (lv S (rn_assign rfl) rfl ?_)); clear S; intro a S
     refine l_done (then_n (wp_ret (then_r ?_)))
     subst h
     exact f_ret S Tryz.results73 rfl rfl
    ·replace h := iteF h hb5
     refine wp_skip (then_n (f_seq (f_region (lv S (rn_assign rfl) rfl ?_)))); clear S; intro a S
     refine l_done (then_n (wp_ret ?_))
     subst h
     exact f_ret S Tryz.results73 rfl rfl
theorem cmp_Or_int_ok (w : World) (v_p_vals : Value) (p_vals : List Int) (hs_p_vals : Slc (view w []) 1 v_p_vals (p_vals.map eInt)) (r : Int) (h : cmp_Or_int p_vals = r) :
    Calls Tryz.prog 72 [v_p_vals].toArray w (Ret w [] fun _ v _ => v = iV r) := by
 refine f_enter [] [] Tryz.func72 rfl Tryz.ntmps72 rfl (by simp) (by simp [fps]) (by simp [fps]) fun a S => ?_
 unfold cmp_Or_int at h
 replace S := S.nk [] [(0, v_p_vals)] [] rfl ⟨rfl, trivial⟩
 refine f_seq (f_region (lv S (rn_assign rfl) rfl ?_)); clear S; intro a S
 refine l_done (then_n (f_seq (f_region (lv S (rn_assign rfl) rfl ?_)))); clear S; intro a S
 refine l_done (then_n (f_seq (f_seq (f_region (lv S (rn_move (S.tm rfl)) rfl ?_))))); clear S; intro a S
 refine lv S (rn_lenT sl_22 (S.tm rfl) (slc_len hs_p_vals)) rfl ?_; clear S; intro a S
 refine lv S (rn_move rfl) rfl ?_; clear S; intro a S
 refine l_done (then_n ?_)
 replace S := S.nk [] [(3, iV 0), (6, v_p_vals), (7, iV (p_vals.length : Int)), (8, iV 0)] [] rfl (subR rfl)
 obtain ⟨j1, hj1, h⟩ := joinE h
 refine f_join (fun a w' => j1 = r ∧ Sx w [] nov [] [(3, iV 0)] 18 a w') ?_ ?_
 ·refine wp_block (f_loop (fun (ys1 : List Int) a w' => ∃ i1 : Nat, (∃ dn, p_vals = dn ++ ys1 ∧ dn.length = i1) ∧ cmp_Or_int_l1 j1 ys1 i1 = r ∧ Sx w [] nov [] [(3, iV 0), (6, v_p_vals), (7, iV (p_vals.length : Int)), (8, iV (i1 : Int))] 18 a w') List.length p_vals ⟨0, ⟨[], rfl, rfl⟩, h, S.nf [] rfl (subR rfl)⟩ ?_)
  clear S h; rintro ys1 a w1 ⟨i1, ⟨dn, hd1, hi1⟩, h, S⟩
  cases ys1 with
  | nil =>
   rw [cmp_Or_int_l1.eq_1] at h
   refine f_seq (f_region (lv S (rn_lss (S.tm rfl) (S.tm rfl)) rfl ?_)); clear S; intro a S
   refine l_done ?_
   replace S := S.nk [] [(3, iV 0), (6, v_p_vals), (7, iV (p_vals.length : Int)), (8, iV (i1 : Int)), (9, bV (decide ((i1 : Int) < (p_vals.length : Int))))] [] rfl (subR rfl)
   refine then_n (f_seq (wp_cond_false ((S.tm rfl).trans (congrArg Value.bool (rng_nil hd1 hi1))) (wp_exit (then_x (then_x (x_same ?_))))))
   refine then_n ?_
   exact ⟨h, S.nf [] rfl ⟨rfl, trivial⟩⟩
  | cons y1 ys1 =>
   rw [cmp_Or_int_l1.eq_2] at h
   refine f_seq (f_region (lv S (rn_lss (S.tm rfl) (S.tm rfl)) rfl ?_)); clear S; intro a S
   refine l_done ?_
   replace S := S.nk [] [(3, iV 0), (6, v_p_vals), (7, iV (p_vals.length : Int)), (8, iV (i1 : Int)), (9, bV (decide ((i1 : Int) < (p_vals.length : Int))))] [] rfl (subR rfl)
   refine then_n (f_seq (wp_cond_true ((S.tm rfl).trans (congrArg Value.bool (rng_cons hd1 hi1))) (wp_skip (then_n (f_seq (wp_block ?_))))))
   refine f_seq (f_region ?_)
   obtain ⟨b1, o1, hm1, hr1⟩ := rn_indexT (a := a) (x := .tmp 6) (y := .tmp 8) (ty := 0) sl_22 hs_p_vals (get_mid hd1 hi1) rfl (S.tm rfl) (S.tm rfl)
   refine lv S (hr1 _) rfl ?_; clear S; intro a S
   clear hr1
   refine lv S (rn_ld Tryz.isAgg3 (off := o1) (o := 0) (S.tm rfl) (hm1.at S.emb0) rfl) rfl ?_; clear S; intro a S
   refine lv S (rn_assign (S.tm rfl)) rfl ?_; clear S; intro a S
   refine l_done (then_n (f_seq (f_region (lv S (rn_move (S.tm rfl)) rfl ?_)))); clear S; intro a S
   refine lv S (rn_move (S.tm rfl)) rfl ?_; clear S; intro a S
   refine lv S (rn_neq (S.tm rfl) (S.tm rfl)) rfl ?_; clear S; intro a S
   refine l_done (then_n (f_cond (S.tm rfl) (fun hb1 => ?_) (fun hb1 => ?_)))
   ·replace h := iteT h hb1
    refine f_seq (f_region (lv S (rn_move (S.tm rfl)) rfl ?_)); clear S; intro a S
    refine lv S (rn_assign (S.tm rfl)) rfl ?_; clear S; intro a S
    refine l_done (then_n (wp_ret (blk_r (then_r (then_r (blk_r ?_))))))
    refine then_r (then_r ?_)
    subst h
    exact f_ret S Tryz.results72 rfl rfl
   ·replace h := iteF h hb1
    refine wp_skip (blk_n (then_n (f_region (lv S (rn_add (S.tm rfl) rfl) rfl ?_)))); clear S; intro a S
    refine lv S (rn_move (S.tm rfl)) rfl ?_; clear S; intro a S
    refine l_done (then_n ?_)
    exact ⟨ys1, ⟨i1 + 1, ⟨_, (hd1).trans (List.append_cons _ _ _), by simp [hi1]⟩, h, S.nf [] rfl ⟨rfl, rfl, rfl, (congrArg (fun z => some (Value.int .i64 z)) (rng_next hd1 hi1 (slc_max hs_p_vals))), trivial⟩⟩, Nat.lt_succ_self _⟩
 clear S h; rintro a w2 ⟨h, S⟩; rw [hj1] at h; clear hj1 j1
 refine then_n (f_seq (f_region (lv S (rn_move (S.tm rfl)) rfl ?_))); clear S; intro a S
 refine lv S (rn_assign (S.tm rfl)) rfl ?_; clear S; intro a S
 refine l_done (then_n (wp_ret ?_))
 subst h
 exact f_ret S Tryz.results72 rfl rfl
set_option maxRecDepth 20000 in
theorem swimmer_CheckMoves_ok (w : World) (v_p_l : Value) (p_l : List GMove) (hs_p_l : Slc (view w []) 3 v_p_l (p_l.map GMove.enc)) (r : Int) (h : swimmer_CheckMoves p_l = some r) :
    Calls Tryz.prog 65 [v_p_l].toArray w (Ret w [] fun _ v _ => v = iV r) := by
 refine f_enter [] [] Tryz.func65 rfl Tryz.ntmps65 rfl (by simp) (by simp [fps]) (by simp [fps]) fun a S => ?_
 unfold swimmer_CheckMoves at h
 replace S := S.nk [] [(0, v_p_l)] [] rfl ⟨rfl, trivial⟩
 refine f_seq (f_region (lv S (rn_assign rfl) rfl ?_)); clear S; intro a S
 refine l_done (then_n (f_seq (f_seq (f_region (lv S (rn_move (S.tm rfl)) rfl ?_))))); clear S; intro a S
 refine lv S (rn_lenT sl_30 (S.tm rfl) (slc_len hs_p_l)) rfl ?_; clear S; intro a S
 refine lv S (rn_gtr (S.tm rfl) rfl) rfl ?_; clear S; intro a S
 refine l_done (then_n (f_cond (S.tm rfl) (fun hb1 => ?_) (fun hb1 => ?_)))
 ·replace h := iteT h hb1
  refine f_seq (f_region (lv S (rn_assign rfl) rfl ?_)); clear S; intro a S
  refine l_done (then_n (wp_ret (then_r ?_)))
  obtain rfl := Option.some.inj h
  exact f_ret S Tryz.results65 rfl rfl
 ·replace h := iteF h hb1
  refine wp_skip (then_n (f_seq (f_seq (f_region (lv S (rn_move (S.tm rfl)) rfl ?_))))); clear S; intro a S
  refine lv S (rn_lenT sl_30 (S.tm rfl) (slc_len hs_p_l)) rfl ?_; clear S; intro a S
  refine lv S (rn_move rfl) rfl ?_; clear S; intro a S
  refine l_done (then_n ?_)
  replace S := S.nk [] [(0, v_p_l), (9, v_p_l), (10, iV (p_l.length : Int)), (11, iV 0)] [] rfl (subR rfl)
  obtain ⟨j1, hj1, h⟩ := joinE h
  refine f_join (fun a w' => j1 = some r ∧ Sx w [] nov [] [] 97 a w') ?_ ?_
  ·refine wp_block (f_loop (fun (ys1 : List GMove) a w' => ∃ i1 : Nat, (∃ dn, p_l = dn ++ ys1 ∧ dn.length = i1) ∧ swimmer_CheckMoves_l1 p_l j1 ys1 i1 = some r ∧ Sx w [] nov [] [(0, v_p_l), (9, v_p_l), (10, iV (p_l.length : Int)), (11, iV (i1 : Int))] 97 a w') List.length p_l ⟨0, ⟨[], rfl, rfl⟩, h, S.nf [] rfl (subR rfl)⟩ ?_)
   clear S h; rintro ys1 a w1 ⟨i1, ⟨dn, hd1, hi1⟩, h, S⟩
   cases ys1 with
   | nil =>
    rw [swimmer_CheckMoves_l1.eq_1] at h
    refine f_seq (f_region (lv S (rn_lss (S.tm rfl) (S.tm rfl)) rfl ?_)); clear S; intro a S
    refine l_done ?_
    replace S := S.nk [] [(0, v_p_l), (9, v_p_l), (10, iV (p_l.length : Int)), (11, iV (i1 : Int)), (12, bV (decide ((i1 : Int) < (p_l.length : Int))))] [] rfl (subR rfl)
    refine then_n (f_seq (wp_cond_false ((S.tm rfl).trans (congrArg Value.bool (rng_nil hd1 hi1))) (wp_exit (then_x (then_x (x_same ?_))))))
    refine then_n ?_
    exact ⟨h, S.nf [] rfl trivial⟩
   | cons y1 ys1 =>
    rw [swimmer_CheckMoves_l1.eq_2] at h
    refine f_seq (f_region (lv S (rn_lss (S.tm rfl) (S.tm rfl)) rfl ?_)); clear S; intro a S
    refine l_done ?_
    replace S := S.nk [] [(0, v_p_l), (9, v_p_l), (10, iV (p_l.length : Int)), (11, iV (i1 : Int)), (12, bV (decide ((i1 : Int) < (p_l.length : Int))))] [] rfl (subR rfl)
    refine then_n (f_seq (wp_cond_true ((S.tm rfl).trans (congrArg Value.bool (rng_cons hd1 hi1))) (wp_skip (then_n (f_seq (wp_block ?_))))))
    refine f_seq (f_region (lv S (rn_move (S.tm rfl)) rfl ?_)); clear S; intro a S
    obtain ⟨b1, o1, hm1, hr1⟩ := rn_indexT (a := a) (x := .tmp 9) (y := .tmp 11) (ty := 0) sl_30 hs_p_l (get_mid hd1 hi1) rfl (S.tm rfl) (S.tm rfl)
    refine lv S (hr1 _) rfl ?_; clear S; intro a S
    clear hr1
    refine lv S (rn_ldA Tryz.isAgg74 Tryz.sizeOf74 (off := o1) (o := 0) (part := (GMove.enc y1)) rfl rfl (S.tm rfl) (hm1.at S.emb0)) rfl ?_; clear S; intro a S
    refine l_alloc S Tryz.zeroValue74 (cs := [sV k_empty, sV k_empty, iV 0]) rfl rfl ?_; clear S; intro a w3 b2 hz1 hk1 S
    refine lv S (rn_assign (S.tm rfl)) rfl ?_; clear S; intro a S
    refine l_store S (S.tm rfl) (S.tm rfl) (i := 0) (off := 0) rfl Tryz.sizeOf74 (vs := (GMove.enc y1)) rfl rfl rfl rfl ?_; clear S; intro w4 hk2 S
    refine l_done (then_n (f_seq (d_region [] ([]) Tryz.mixed S rfl (by kernel_rfl) ?_))); clear S; intro w5 hk3 hsel S
    refine d_rest [0, 1, 2, 3, 4, 5, 6, 7, 8, 9, 10, 11, 12, 13] hsel (by kernel_rfl) rfl ?_
    clear hsel
    refine s_lv S rfl (rn_move (S.tm rfl)) rfl ?_; clear S; intro a S
    refine s_lv S rfl (rn_eql (S.tm rfl) rfl) rfl ?_; clear S; intro a S
    refine s_lv S rfl (rn_move (S.tm rfl)) rfl ?_; clear S; intro a S
    obtain ⟨j2, hj2, h⟩ := joinE h
    refine s_cutm 10 (fun a w' => ∃ c1, j2 c1 = some r ∧ Keep [] w5 w' ∧ Sx w [] nov [.blk b2 (GMove.enc y1) 74] [(0, v_p_l), (3, iV (i1 : Int)), (4, .pointer (some ⟨b2, 0, none⟩)), (9, v_p_l), (10, iV (p_l.length : Int)), (11, iV (i1 : Int)), (28, bV c1)] 97 a w') ?_ ?_
    ·rcases Bool.eq_false_or_eq_true (decide ((i1 : Int) = 0)) with hb2 | hb2
     ·replace h := iteT h hb2
      iterate 9 (refine s_skip S rfl rfl rfl rfl (neq_t hb2) rfl ?_ rfl; clear S; intro a S)
      refine s_lv S rfl (rn_or_t true hb2 (S.tm rfl) rfl) rfl ?_; clear S; intro a S
      refine s_done ?_
      exact ⟨_, h, Keep.refl _ _, S.nf [true] rfl (subR rfl)⟩
     ·replace h := iteF h hb2
      refine s_want S rfl rfl rfl rfl hb2 (s_lv0 S (rn_move (S.tm rfl)) rfl ?_); clear S; intro a S
      refine s_want S rfl rfl rfl rfl hb2 (s_lv0 S (rn_move (S.tm rfl)) rfl ?_); clear S; intro a S
      refine s_want S rfl rfl rfl rfl hb2 (s_lv0 S (rn_sub (S.tm rfl) rfl) rfl ?_); clear S; intro a S
      refine s_want S rfl rfl rfl rfl hb2 ?_
      obtain ⟨hc1, h⟩ := chkE h
      obtain ⟨b3, o2, hm2, hr2⟩ := rn_indexT (a := a) (x := .tmp 19) (y := .tmp 21) (ty := 0) sl_30 hs_p_l (inB_get hc1).1 (inB_get hc1).2 (S.tm rfl) (S.tm rfl)
      refine s_lv0 S (hr2 _) rfl ?_; clear S; intro a S
      clear hr2
      refine s_want S rfl rfl rfl rfl hb2 (s_lv0 S (rn_fld fa_74_0 (S.tm rfl)) rfl ?_); clear S; intro a S
      refine s_want S rfl rfl rfl rfl hb2 (s_lv0 S (rn_ld Tryz.isAgg9 (off := o2) (o := 0) (S.tm rfl) (hm2.at S.emb0) rfl) rfl ?_); clear S; intro a S
      refine s_want S rfl rfl rfl rfl hb2 (s_lv0 S (rn_fld fa_74_0 (S.tm rfl)) rfl ?_); clear S; intro a S
      refine s_want S rfl rfl rfl rfl hb2 (s_lv0 S (rn_load Tryz.isAgg9 (S.tm rfl) (S.cell (i := 0) rfl rfl)) rfl ?_); clear S; intro a S
      refine s_want S rfl rfl rfl rfl hb2 (s_lv0 S (rn_sneq (S.tm rfl) (S.tm rfl)) rfl ?_); clear S; intro a S
      refine s_lv S rfl (rn_or_f hb2 (S.tm rfl) (S.tm rfl)) rfl ?_; clear S; intro a S
      refine s_done ?_
      exact ⟨_, h, Keep.refl _ _, S.nf [true] rfl (subR rfl)⟩
    clear S h; rintro a w6 ⟨c1, h, hk4, S⟩; rw [hj2] at h; clear hj2 j2
    refine s_lv S rfl (rn_assign (S.tm rfl)) rfl ?_; clear S; intro a S
    refine s_done ?_
    replace S := S.nk [.blk b2 (GMove.enc y1) 74] [(0, v_p_l), (3, iV (i1 : Int)), (4, .pointer (some ⟨b2, 0, none⟩)), (5, bV c1), (9, v_p_l), (10, iV (p_l.length : Int)), (11, iV (i1 : Int))] [true] rfl (subR rfl)
    refine then_n (wp_block (f_seq (f_region (lv S (rn_fld fa_74_0 (S.tm rfl)) rfl ?_)))); clear S; intro a S
    refine lv S (rn_load Tryz.isAgg9 (S.tm rfl) (S.cell (i := 0) rfl rfl)) rfl ?_; clear S; intro a S
    obtain ⟨r1, hr3, h⟩ := bindE h
    refine l_enter S (fun _ => run_call (vs := [sV y1.Who]) ⟨(S.tm rfl), trivial⟩ Tryz.call53) (words_IsKey_ok _ y1.Who _ hr3) rfl ?_; clear S; intro v1 a w7 hv1 hk5 hn1 S
    subst hv1
    refine lv S (rn_not (S.tm rfl)) rfl ?_; clear S; intro a S
    refine lv S (rn_move (S.tm rfl)) rfl ?_; clear S; intro a S
    obtain ⟨j3, hj3, h⟩ := joinE h
    refine f_cutm 10 (fun a w' => ∃ c2, j3 c2 = some r ∧ Keep [] w7 w' ∧ Sx w [] nov [.blk b2 (GMove.enc y1) 74] [(0, v_p_l), (3, iV (i1 : Int)), (4, .pointer (some ⟨b2, 0, none⟩)), (5, bV c1), (9, v_p_l), (10, iV (p_l.length : Int)), (11, iV (i1 : Int)), (44, bV c2)] 97 a w') ?_ ?_
    ·rcases Bool.eq_false_or_eq_true (!r1) with hb3 | hb3
     ·replace h := iteT h hb3
      iterate 4 (refine l_skip S rfl rfl rfl (neq_t hb3) rfl ?_ rfl; clear S; intro a S)
      iterate 4 (refine l_skipU S rfl rfl rfl rfl ?_; clear S; intro a S)
      refine l_skip S rfl rfl rfl (neq_t hb3) rfl ?_ rfl; clear S; intro a S
      refine lv S (rn_or_t true hb3 (S.tm rfl) rfl) rfl ?_; clear S; intro a S
      refine l_done (then_n ?_)
      exact ⟨_, h, Keep.refl _ _, S.nf [true] rfl (subR rfl)⟩
     ·replace h := iteF h hb3
      refine l_want S rfl rfl rfl hb3 (lv S (rn_fld fa_74_1 (S.tm rfl)) rfl ?_); clear S; intro a S
      refine l_want S rfl rfl rfl hb3 (lv S (rn_load Tryz.isAgg9 (S.tm rfl) (S.cell (i := 0) rfl rfl)) rfl ?_); clear S; intro a S
      refine l_want S rfl rfl rfl hb3 (lv S (rn_sneq (S.tm rfl) rfl) rfl ?_); clear S; intro a S
      refine l_want S rfl rfl rfl hb3 (lv S (rn_move (S.tm rfl)) rfl ?_); clear S; intro a S
      obtain ⟨j4, hj4, h⟩ := joinE h
      refine f_cutm 5 (fun a w' => ∃ c3, j4 c3 = some r ∧ Keep [] w7 w' ∧ Sx w [] nov [.blk b2 (GMove.enc y1) 74] [(0, v_p_l), (3, iV (i1 : Int)), (4, .pointer (some ⟨b2, 0, none⟩)), (5, bV c1), (9, v_p_l), (10, iV (p_l.length : Int)), (11, iV (i1 : Int)), (34, bV (!r1)), (35, .pointer (some ⟨b2, 1, none⟩)), (36, sV y1.Club), (37, bV (!decide (y1.Club = k_empty))), (38, bV (!decide (y1.Club = k_empty))), (43, bV c3)] 97 a w') ?_ ?_
      ·rcases Bool.eq_false_or_eq_true (!decide (y1.Club = k_empty)) with hb4 | hb4
       ·replace h := iteT h hb4
        refine l_want S rfl rfl rfl hb4 (lv S (rn_fld fa_74_1 (S.tm rfl)) rfl ?_); clear S; intro a S
        refine l_want S rfl rfl rfl hb4 (lv S (rn_load Tryz.isAgg9 (S.tm rfl) (S.cell (i := 0) rfl rfl)) rfl ?_); clear S; intro a S
        refine l_want S rfl rfl rfl hb4 ?_
        obtain ⟨r2, hr4, h⟩ := bindE h
        refine l_enter S (fun _ => run_call (vs := [sV y1.Club]) ⟨(S.tm rfl), trivial⟩ Tryz.call53) (words_IsKey_ok _ y1.Club _ hr4) rfl ?_; clear S; intro v2 a w10 hv2 hk6 hn2 S
        subst hv2
        refine l_want S rfl rfl rfl hb4 (lv S (rn_not (S.tm rfl)) rfl ?_); clear S; intro a S
        refine l_want S rfl rfl rfl hb3 (lv S (rn_and_t hb4 (S.tm rfl) (S.tm rfl)) rfl ?_); clear S; intro a S
        refine l_done (then_n ?_)
        exact ⟨_, h, hk6, S.nf [true] rfl (subR rfl)⟩
       ·replace h := iteF h hb4
        iterate 4 (refine l_skip S rfl rfl rfl (neq_f hb4) rfl ?_ rfl; clear S; intro a S)
        refine l_want S rfl rfl rfl hb3 (lv S (rn_and_f true hb4 (S.tm rfl) rfl) rfl ?_); clear S; intro a S
        refine l_done (then_n ?_)
        exact ⟨_, h, Keep.refl _ _, S.nf [true] rfl (subR rfl)⟩
      clear S h; rintro a w9 ⟨c3, h, hk7, S⟩; rw [hj4] at h; clear hj4 j4
      refine lv S (rn_or_f hb3 (S.tm rfl) (S.tm rfl)) rfl ?_; clear S; intro a S
      refine l_done (then_n ?_)
      exact ⟨_, h, hk7, S.nf [true] rfl (subR rfl)⟩
    clear S h; rintro a w8 ⟨c2, h, hk8, S⟩; rw [hj3] at h; clear hj3 j3
    refine lv S (rn_assign (S.tm rfl)) rfl ?_; clear S; intro a S
    refine l_done (then_n (f_cond (S.tm rfl) (fun hb5 => ?_) (fun hb5 => ?_)))
    ·replace h := iteT h hb5
     refine f_seq (f_region (lv S (rn_assign rfl) rfl ?_)); clear S; intro a S
     refine l_done (then_n (wp_ret (blk_r (blk_r (then_r (then_r ?_))))))
     refine blk_r (then_r (then_r ?_))
     obtain rfl := Option.some.inj h
     exact f_ret S Tryz.results65 rfl rfl
    ·replace h := iteF h hb5
     refine f_seq (f_region (lv S (rn_fld fa_74_2 (S.tm rfl)) rfl ?_)); clear S; intro a S
     refine lv S (rn_load Tryz.isAgg3 (S.tm rfl) (S.cell (i := 0) rfl rfl)) rfl ?_; clear S; intro a S
     refine l_enter S (fun _ => run_call (vs := [iV y1.Day]) ⟨(S.tm rfl), trivial⟩ Tryz.call88) (swimmer_isDay_ok _ y1.Day _ rfl) rfl ?_; clear S; intro v3 a w11 hv3 hk9 hn3 S
     subst hv3
     refine lv S (rn_not (S.tm rfl)) rfl ?_; clear S; intro a S
     refine lv S (rn_assign (S.tm rfl)) rfl ?_; clear S; intro a S
     refine l_done (then_n (f_cond (S.tm rfl) (fun hb6 => ?_) (fun hb6 => ?_)))
     ·replace h := iteT h hb6
      refine f_seq (f_region (lv S (rn_assign rfl) rfl ?_)); clear S; intro a S
      refine l_done ?_
      replace S := S.nk [] [(2, iV 1)] [false] rfl ⟨rfl, trivial⟩
      refine then_n (wp_ret (blk_r (blk_r (then_r (then_r (blk_r ?_))))))
      refine then_r (then_r ?_)
      obtain rfl := Option.some.inj h
      exact f_ret S Tryz.results65 rfl rfl
     ·replace h := iteF h hb6
      refine f_seq ?_
      obtain ⟨j5, hj5, h⟩ := joinE h
      refine f_join (fun a w' => ∃ x1 : Bool, j5 x1 = some r ∧ Sx w [] nov [.blk b2 (GMove.enc y1) 74] [(0, v_p_l), (3, iV (i1 : Int)), (4, .pointer (some ⟨b2, 0, none⟩)), (5, bV c1), (9, v_p_l), (10, iV (p_l.length : Int)), (11, iV (i1 : Int)), (50, bV x1)] 97 a w') ?_ ?_
      ·rcases Bool.eq_false_or_eq_true (decide (0 < (i1 : Int))) with hb7 | hb7
       ·replace h := iteT h hb7
        obtain ⟨hc2, h⟩ := chkE h
        obtain ⟨hc3, h⟩ := chkE h
        refine d_region [] ([]) Tryz.mixed S rfl (by kernel_rfl) ?_; clear S; intro w17 hk14 hsel S
        refine d_quiet 0 S hsel rfl rfl rfl (by kernel_rfl) (by kernel_rfl) rfl (fun _ hw => (rn_move (S.tm rfl))) ?_; clear S; intro a S
        refine d_quiet 1 S hsel rfl rfl rfl (by kernel_rfl) (by kernel_rfl) rfl (fun _ hw => (rn_gtr (S.tm rfl) rfl)) ?_; clear S; intro a S
        refine d_quiet 2 S hsel rfl rfl rfl (by kernel_rfl) (by kernel_rfl) rfl (fun _ hw => (rn_move (S.tm rfl))) ?_; clear S; intro a S
        refine d_quiet_g 3 S hsel rfl rfl rfl rfl hb7 rfl rfl (by kernel_rfl) (by kernel_rfl) rfl (fun _ hw => (rn_move (S.tm rfl))) ?_; clear S; intro a S
        refine d_quiet_g 4 S hsel rfl rfl rfl rfl hb7 rfl rfl (by kernel_rfl) (by kernel_rfl) rfl (fun _ hw => (rn_move (S.tm rfl))) ?_; clear S; intro a S
        refine d_quiet_g 5 S hsel rfl rfl rfl rfl hb7 rfl rfl (by kernel_rfl) (by kernel_rfl) rfl (fun _ hw => (rn_sub (S.tm rfl) rfl)) ?_; clear S; intro a S
        obtain ⟨b7, o5, hm5, hr7⟩ := rn_indexT (a := a) (x := .tmp 54) (y := .tmp 56) (ty := 0) sl_30 (hs_p_l.mono (S.le_arg nil_sub)) (inB_get hc2).1 (inB_get hc2).2 (S.tm rfl) (S.tm rfl)
        refine d_quiet_g 6 S hsel rfl rfl rfl rfl hb7 rfl rfl (by kernel_rfl) (by kernel_rfl) rfl (fun _ hw => hr7 _) ?_; clear S; intro a S
        clear hr7
        refine d_quiet_g 7 S hsel rfl rfl rfl rfl hb7 rfl rfl (by kernel_rfl) (by kernel_rfl) rfl (fun _ hw => (rn_fld fa_74_0 (S.tm rfl))) ?_; clear S; intro a S
        refine d_quiet_g 8 S hsel rfl rfl rfl rfl hb7 rfl rfl (by kernel_rfl) (by kernel_rfl) rfl (fun _ hw => (rn_ld Tryz.isAgg9 (off := o5) (o := 0) (S.tm rfl) (hm5.kept hw) rfl)) ?_; clear S; intro a S
        refine d_quiet_g 9 S hsel rfl rfl rfl rfl hb7 rfl rfl (by kernel_rfl) (by kernel_rfl) rfl (fun _ hw => (rn_fld fa_74_0 (S.tm rfl))) ?_; clear S; intro a S
        refine d_quiet_g 10 S hsel rfl rfl rfl rfl hb7 rfl rfl (by kernel_rfl) (by kernel_rfl) rfl (fun _ hw => (rn_ld Tryz.isAgg9 (off := 0) (o := 0) (S.tm rfl) ((S.blk_mem (i := 0) (cells := (GMove.enc y1)) (b := b2) (T := 74) rfl (ne_nil (e' := .blk b2 (GMove.enc y1) 74))).kept hw) rfl)) ?_; clear S; intro a S
        refine d_quiet_g 12 S hsel rfl rfl rfl rfl hb7 rfl rfl (by kernel_rfl) (by kernel_rfl) rfl (fun _ hw => (rn_move (S.tm rfl))) ?_; clear S; intro a S
        refine d_quiet_g 13 S hsel rfl rfl rfl rfl hb7 rfl rfl (by kernel_rfl) (by kernel_rfl) rfl (fun _ hw => (rn_move (S.tm rfl))) ?_; clear S; intro a S
        refine d_quiet_g 14 S hsel rfl rfl rfl rfl hb7 rfl rfl (by kernel_rfl) (by kernel_rfl) rfl (fun _ hw => (rn_sub (S.tm rfl) rfl)) ?_; clear S; intro a S
        obtain ⟨b8, o6, hm6, hr8⟩ := rn_indexT (a := a) (x := .tmp 63) (y := .tmp 65) (ty := 0) sl_30 (hs_p_l.mono (S.le_arg nil_sub)) (inB_get hc3).1 (inB_get hc3).2 (S.tm rfl) (S.tm rfl)
        refine d_quiet_g 15 S hsel rfl rfl rfl rfl hb7 rfl rfl (by kernel_rfl) (by kernel_rfl) rfl (fun _ hw => hr8 _) ?_; clear S; intro a S
        clear hr8
        refine d_quiet_g 16 S hsel rfl rfl rfl rfl hb7 rfl rfl (by kernel_rfl) (by kernel_rfl) rfl (fun _ hw => (rn_fld fa_74_2 (S.tm rfl))) ?_; clear S; intro a S
        refine d_quiet_g 17 S hsel rfl rfl rfl rfl hb7 rfl rfl (by kernel_rfl) (by kernel_rfl) rfl (fun _ hw => (rn_ld Tryz.isAgg3 (off := o6) (o := 2) (S.tm rfl) (hm6.kept hw) rfl)) ?_; clear S; intro a S
        refine d_quiet_g 18 S hsel rfl rfl rfl rfl hb7 rfl rfl (by kernel_rfl) (by kernel_rfl) rfl (fun _ hw => (rn_fld fa_74_2 (S.tm rfl))) ?_; clear S; intro a S
        refine d_quiet_g 19 S hsel rfl rfl rfl rfl hb7 rfl rfl (by kernel_rfl) (by kernel_rfl) rfl (fun _ hw => (rn_ld Tryz.isAgg3 (off := 0) (o := 2) (S.tm rfl) ((S.blk_mem (i := 0) (cells := (GMove.enc y1)) (b := b2) (T := 74) rfl (ne_nil (e' := .blk b2 (GMove.enc y1) 74))).kept hw) rfl)) ?_; clear S; intro a S
        refine d_loud1 11 (by kernel_rfl) rfl (l_want S rfl rfl rfl hb7 (l_enter S (fun _ => run_call (vs := [sV ((nth p_l (W ((i1 : Int) - 1))).Who), sV y1.Who]) ⟨(S.tm rfl), (S.tm rfl), trivial⟩ Tryz.call77) (strings_Compare_ok _ ((nth p_l (W ((i1 : Int) - 1))).Who) y1.Who _ rfl) rfl ?_)); clear S; intro v7 a w18 hv7 hk15 hn7 S
        subst hv7
        refine l_done (d_next hk15 (d_loud1 20 (by kernel_rfl) rfl (l_want S rfl rfl rfl hb7 (l_enter S (fun _ => run_call (vs := [iV ((nth p_l (W ((i1 : Int) - 1))).Day), iV y1.Day]) ⟨(S.tm rfl), (S.tm rfl), trivial⟩ Tryz.call73) (cmp_Compare_int_ok _ ((nth p_l (W ((i1 : Int) - 1))).Day) y1.Day _ rfl) rfl ?_)))); clear S; intro v8 a w19 hv8 hk16 hn8 S
        subst hv8
        refine l_done (d_next hk16 (d_loud1 21 (by kernel_rfl) rfl (l_want S rfl rfl rfl hb7 (l_buildSlice S Tryz.underlying22 Tryz.sizeOf3 Tryz.zeroValue3 rfl rfl (pv := [(0, iV (strings_Compare ((nth p_l (W ((i1 : Int) - 1))).Who) y1.Who)), (1, iV (cmp_Compare_int ((nth p_l (W ((i1 : Int) - 1))).Day) y1.Day))]) ⟨rfl, (S.tm rfl), rfl, (S.tm rfl), trivial⟩ (cs := [iV (strings_Compare ((nth p_l (W ((i1 : Int) - 1))).Who) y1.Who), iV (cmp_Compare_int ((nth p_l (W ((i1 : Int) - 1))).Day) y1.Day)]) (by kernel_rfl) rfl ?_)))); clear S; intro a w20 b9 hz3 hk17 S
        refine l_done (d_next hk17 (d_loud1 22 (by kernel_rfl) rfl (l_want S rfl rfl rfl hb7 (l_enter S (fun _ => run_call (vs := [.slice (some ⟨b9, 0, none⟩) 2 2]) ⟨(S.tm rfl), trivial⟩ Tryz.call72) (cmp_Or_int_ok _ (.slice (some ⟨b9, 0, none⟩) 2 2) [(strings_Compare ((nth p_l (W ((i1 : Int) - 1))).Who) y1.Who), (cmp_Compare_int ((nth p_l (W ((i1 : Int) - 1))).Day) y1.Day)] (lit_slcT enc_int S (i := 0) rfl rfl rfl rfl ((ne_nil (e' := .blk b9 [iV (strings_Compare ((nth p_l (W ((i1 : Int) - 1))).Who) y1.Who), iV (cmp_Compare_int ((nth p_l (W ((i1 : Int) - 1))).Day) y1.Day)] 3)) _ rfl)) _ rfl) rfl ?_)))); clear S; intro v9 a w21 hv9 hk18 hn9 S
        subst hv9
        refine l_done (d_next hk18 (d_rest [23, 24, 25] hsel (by kernel_rfl) rfl ?_))
        clear hsel
        refine s_want S rfl rfl rfl rfl hb7 (s_lv0 S (rn_geq (S.tm rfl) rfl) rfl ?_); clear S; intro a S
        refine s_lv S rfl (rn_pick_b hb7 (S.tm rfl) (S.tm rfl)) rfl ?_; clear S; intro a S
        refine s_lv S rfl (rn_assign (S.tm rfl)) rfl ?_; clear S; intro a S
        refine s_done ?_
        replace S := S.nk [.blk b9 [iV (strings_Compare ((nth p_l (W ((i1 : Int) - 1))).Who) y1.Who), iV (cmp_Compare_int ((nth p_l (W ((i1 : Int) - 1))).Day) y1.Day)] 3, .blk b2 (GMove.enc y1) 74] [(0, v_p_l), (3, iV (i1 : Int)), (4, .pointer (some ⟨b2, 0, none⟩)), (5, bV c1), (9, v_p_l), (10, iV (p_l.length : Int)), (11, iV (i1 : Int)), (50, bV (decide (0 ≤ (cmp_Or_int [(strings_Compare ((nth p_l (W ((i1 : Int) - 1))).Who) y1.Who), (cmp_Compare_int ((nth p_l (W ((i1 : Int) - 1))).Day) y1.Day)])))), (54, v_p_l), (55, iV (i1 : Int)), (56, iV (W ((i1 : Int) - 1))), (57, .pointer (some ⟨b7, o5, none⟩)), (58, .pointer (some ⟨b7, o5, none⟩)), (59, sV ((nth p_l (W ((i1 : Int) - 1))).Who)), (60, .pointer (some ⟨b2, 0, none⟩)), (61, sV y1.Who), (62, iV (strings_Compare ((nth p_l (W ((i1 : Int) - 1))).Who) y1.Who)), (63, v_p_l), (64, iV (i1 : Int)), (65, iV (W ((i1 : Int) - 1))), (66, .pointer (some ⟨b8, o6, none⟩)), (67, .pointer (some ⟨b8, o6 + 2, none⟩)), (68, iV ((nth p_l (W ((i1 : Int) - 1))).Day)), (69, .pointer (some ⟨b2, 2, none⟩)), (70, iV y1.Day), (71, iV (cmp_Compare_int ((nth p_l (W ((i1 : Int) - 1))).Day) y1.Day)), (72, .slice (some ⟨b9, 0, none⟩) 2 2), (73, iV (cmp_Or_int [(strings_Compare ((nth p_l (W ((i1 : Int) - 1))).Who) y1.Who), (cmp_Compare_int ((nth p_l (W ((i1 : Int) - 1))).Day) y1.Day)])), (74, bV (decide (0 ≤ (cmp_Or_int [(strings_Compare ((nth p_l (W ((i1 : Int) - 1))).Who) y1.Who), (cmp_Compare_int ((nth p_l (W ((i1 : Int) - 1))).Day) y1.Day)]))))] [true, true] rfl (subR rfl)
        refine then_n ?_
        exact ⟨decide (0 ≤ (cmp_Or_int [(strings_Compare ((nth p_l (W ((i1 : Int) - 1))).Who) y1.Who), (cmp_Compare_int ((nth p_l (W ((i1 : Int) - 1))).Day) y1.Day)])), h, S.nf [false, true] rfl (subR rfl)⟩
       ·replace h := iteF h hb7
        refine d_region [] ([]) Tryz.mixed S rfl (by kernel_rfl) ?_; clear S; intro w22 hk19 hsel S
        refine d_rest [0, 1, 2, 3, 4, 5, 6, 7, 8, 9, 10, 11, 12, 13, 14, 15, 16, 17, 18, 19, 20, 21, 22, 23, 24, 25] hsel (by kernel_rfl) rfl ?_
        clear hsel
        refine s_lv S rfl (rn_move (S.tm rfl)) rfl ?_; clear S; intro a S
        refine s_lv S rfl (rn_gtr (S.tm rfl) rfl) rfl ?_; clear S; intro a S
        refine s_lv S rfl (rn_move (S.tm rfl)) rfl ?_; clear S; intro a S
        iterate 21 (refine s_skip S rfl rfl rfl rfl (neq_f hb7) rfl ?_ rfl; clear S; intro a S)
        refine s_lv S rfl (rn_pick_c hb7 (S.tm rfl) rfl) rfl ?_; clear S; intro a S
        refine s_lv S rfl (rn_assign (S.tm rfl)) rfl ?_; clear S; intro a S
        refine s_done ?_
        replace S := S.nk [.blk b2 (GMove.enc y1) 74] [(0, v_p_l), (3, iV (i1 : Int)), (4, .pointer (some ⟨b2, 0, none⟩)), (5, bV c1), (9, v_p_l), (10, iV (p_l.length : Int)), (11, iV (i1 : Int)), (50, bV false)] [true] rfl (subR rfl)
        refine then_n ?_
        exact ⟨false, h, S.nf [true] rfl (subR rfl)⟩
      clear S h; rintro a w12 ⟨x1, h, S⟩; rw [hj5] at h; clear hj5 j5
      refine then_n (f_cond (S.tm rfl) (fun hb8 => ?_) (fun hb8 => ?_))
      ·replace h := iteT h hb8
       refine f_seq (f_region (lv S (rn_assign rfl) rfl ?_)); clear S; intro a S
       refine l_done (then_n (wp_ret (blk_r (blk_r (then_r (then_r ?_))))))
       refine blk_r (then_r (then_r ?_))
       obtain rfl := Option.some.inj h
       exact f_ret S Tryz.results65 rfl rfl
      ·replace h := iteF h hb8
       refine f_seq (f_seq (f_region (lv S (rn_move (S.tm rfl)) rfl ?_))); clear S; intro a S
       refine lv S (rn_move (S.tm rfl)) rfl ?_; clear S; intro a S
       refine f_cutm 4 (fun a w' => Keep [] w12 w' ∧ Sx w [] nov [.blk b2 (GMove.enc y1) 74] [(0, v_p_l), (3, iV (i1 : Int)), (4, .pointer (some ⟨b2, 0, none⟩)), (5, bV c1), (9, v_p_l), (10, iV (p_l.length : Int)), (11, iV (i1 : Int)), (82, bV (c1 && (decide (y1.Club = k_empty))))] 97 a w') ?_ ?_
       ·rcases Bool.eq_false_or_eq_true c1 with hb9 | hb9
        ·refine l_want S rfl rfl rfl hb9 (lv S (rn_fld fa_74_1 (S.tm rfl)) rfl ?_); clear S; intro a S
         refine l_want S rfl rfl rfl hb9 (lv S (rn_load Tryz.isAgg9 (S.tm rfl) (S.cell (i := 0) rfl rfl)) rfl ?_); clear S; intro a S
         refine l_want S rfl rfl rfl hb9 (lv S (rn_seql (S.tm rfl) rfl) rfl ?_); clear S; intro a S
         refine lv S (rn_and_t hb9 (S.tm rfl) (S.tm rfl)) rfl ?_; clear S; intro a S
         refine l_done (then_n ?_)
         exact ⟨Keep.refl _ _, S.nf [true] rfl (subR rfl)⟩
        ·iterate 3 (refine l_skip S rfl rfl rfl (neq_f hb9) rfl ?_ rfl; clear S; intro a S)
         refine lv S (rn_and_f (decide (y1.Club = k_empty)) hb9 (S.tm rfl) rfl) rfl ?_; clear S; intro a S
         refine l_done (then_n ?_)
         exact ⟨Keep.refl _ _, S.nf [true] rfl (subR rfl)⟩
       clear S; rintro a w23 ⟨hk20, S⟩
       refine lv S (rn_assign (S.tm rfl)) rfl ?_; clear S; intro a S
       refine l_done (then_n ?_)
       obtain ⟨j6, hj6, h⟩ := joinE h
       refine f_join (fun a w' => ∃ x2 : Bool, j6 x2 = some r ∧ Sx w [] nov [] [(0, v_p_l), (9, v_p_l), (10, iV (p_l.length : Int)), (11, iV (i1 : Int)), (76, bV x2)] 97 a w') ?_ ?_
       ·refine f_cond (S.tm rfl) (fun hb10 => ?_) (fun hb10 => ?_)
        ·replace h := iteT h hb10
         refine wp_skip (then_n ?_)
         exact ⟨(c1 && (decide (y1.Club = k_empty))), h, S.nf [false] rfl (subR rfl)⟩
        ·replace h := iteF h hb10
         refine d_region [] ([]) Tryz.mixed S rfl (by kernel_rfl) ?_; clear S; intro w25 hk21 hsel S
         refine d_rest [0, 1, 2, 3, 4, 5, 6, 7, 8, 9, 10, 11, 12, 13] hsel (by kernel_rfl) rfl ?_
         clear hsel
         refine s_lv S rfl (rn_move (S.tm rfl)) rfl ?_; clear S; intro a S
         refine s_lv S rfl (rn_not (S.tm rfl)) rfl ?_; clear S; intro a S
         refine s_lv S rfl (rn_move (S.tm rfl)) rfl ?_; clear S; intro a S
         obtain ⟨j7, hj7, h⟩ := joinE h
         refine s_cutm 10 (fun a w' => ∃ c4, j7 c4 = some r ∧ Keep [] w25 w' ∧ Sx w [] nov [.blk b2 (GMove.enc y1) 74] [(0, v_p_l), (9, v_p_l), (10, iV (p_l.length : Int)), (11, iV (i1 : Int)), (95, bV c4)] 97 a w') ?_ ?_
         ·rcases Bool.eq_false_or_eq_true (!c1) with hb11 | hb11
          ·replace h := iteT h hb11
           refine s_want S rfl rfl rfl rfl hb11 (s_lv0 S (rn_move (S.tm rfl)) rfl ?_); clear S; intro a S
           refine s_want S rfl rfl rfl rfl hb11 (s_lv0 S (rn_move (S.tm rfl)) rfl ?_); clear S; intro a S
           refine s_want S rfl rfl rfl rfl hb11 (s_lv0 S (rn_sub (S.tm rfl) rfl) rfl ?_); clear S; intro a S
           refine s_want S rfl rfl rfl rfl hb11 ?_
           obtain ⟨hc4, h⟩ := chkE h
           obtain ⟨b10, o7, hm7, hr9⟩ := rn_indexT (a := a) (x := .tmp 86) (y := .tmp 88) (ty := 0) sl_30 hs_p_l (inB_get hc4).1 (inB_get hc4).2 (S.tm rfl) (S.tm rfl)
           refine s_lv0 S (hr9 _) rfl ?_; clear S; intro a S
           clear hr9
           refine s_want S rfl rfl rfl rfl hb11 (s_lv0 S (rn_fld fa_74_1 (S.tm rfl)) rfl ?_); clear S; intro a S
           refine s_want S rfl rfl rfl rfl hb11 (s_lv0 S (rn_ld Tryz.isAgg9 (off := o7) (o := 1) (S.tm rfl) (hm7.at S.emb0) rfl) rfl ?_); clear S; intro a S
           refine s_want S rfl rfl rfl rfl hb11 (s_lv0 S (rn_fld fa_74_1 (S.tm rfl)) rfl ?_); clear S; intro a S
           refine s_want S rfl rfl rfl rfl hb11 (s_lv0 S (rn_load Tryz.isAgg9 (S.tm rfl) (S.cell (i := 0) rfl rfl)) rfl ?_); clear S; intro a S
           refine s_want S rfl rfl rfl rfl hb11 (s_lv0 S (rn_seql (S.tm rfl) (S.tm rfl)) rfl ?_); clear S; intro a S
           refine s_lv S rfl (rn_and_t hb11 (S.tm rfl) (S.tm rfl)) rfl ?_; clear S; intro a S
           refine s_done ?_
           exact ⟨_, h, Keep.refl _ _, S.nf [true] rfl (subR rfl)⟩
          ·replace h := iteF h hb11
           iterate 9 (refine s_skip S rfl rfl rfl rfl (neq_f hb11) rfl ?_ rfl; clear S; intro a S)
           refine s_lv S rfl (rn_and_f true hb11 (S.tm rfl) rfl) rfl ?_; clear S; intro a S
           refine s_done ?_
           exact ⟨_, h, Keep.refl _ _, S.nf [true] rfl (subR rfl)⟩
         clear S h; rintro a w26 ⟨c4, h, hk22, S⟩; rw [hj7] at h; clear hj7 j7
         refine s_lv S rfl (rn_assign (S.tm rfl)) rfl ?_; clear S; intro a S
         refine s_done ?_
         replace S := S.nk [] [(0, v_p_l), (9, v_p_l), (10, iV (p_l.length : Int)), (11, iV (i1 : Int)), (76, bV c4)] [false] rfl (subR rfl)
         refine then_n ?_
         exact ⟨c4, h, S.nf [] rfl (subR rfl)⟩
       clear S h; rintro a w24 ⟨x2, h, S⟩; rw [hj6] at h; clear hj6 j6
       refine then_n (f_cond (S.tm rfl) (fun hb12 => ?_) (fun hb12 => ?_))
       ·replace h := iteT h hb12
        refine f_seq (f_region (lv S (rn_assign rfl) rfl ?_)); clear S; intro a S
        refine l_done (then_n (wp_ret (blk_r (blk_r (then_r (then_r ?_))))))
        refine blk_r (then_r (then_r ?_))
        obtain rfl := Option.some.inj h
        exact f_ret S Tryz.results65 rfl rfl
       ·replace h := iteF h hb12
        refine wp_skip (blk_n (blk_n (then_n (f_region (lv S (rn_add (S.tm rfl) rfl) rfl ?_))))); clear S; intro a S
        refine lv S (rn_move (S.tm rfl)) rfl ?_; clear S; intro a S
        refine l_done (then_n ?_)
        exact ⟨ys1, ⟨i1 + 1, ⟨_, (hd1).trans (List.append_cons _ _ _), by simp [hi1]⟩, h, S.nf [] rfl ⟨rfl, rfl, rfl, (congrArg (fun z => some (Value.int .i64 z)) (rng_next hd1 hi1 (slc_max hs_p_l))), trivial⟩⟩, Nat.lt_succ_self _⟩
  clear S h; rintro a w2 ⟨h, S⟩; rw [hj1] at h; clear hj1 j1
  refine then_n (f_seq (f_region (lv S (rn_assign rfl) rfl ?_))); clear S; intro a S
  refine l_done (then_n (wp_ret ?_))
  obtain rfl := Option.some.inj h
  exact f_ret S Tryz.results65 rfl rfl
theorem swimmer_isWay_ok (w : World) (p_n : Int) (r : Bool) (h : swimmer_isWay p_n = r) :
    Calls Tryz.prog 90 [iV p_n].toArray w (Ret w [] fun _ v _ => v = bV r) := by
 refine f_enter [] [] Tryz.func90 rfl Tryz.ntmps90 rfl (by simp) (by simp [fps]) (by simp [fps]) fun a S => ?_
 unfold swimmer_isWay at h
 replace S := S.nk [] [(0, iV p_n)] [] rfl ⟨rfl, trivial⟩
 refine f_seq (f_region (lv S (rn_assign rfl) rfl ?_)); clear S; intro a S
 refine l_done (then_n (f_seq (f_region (lv S (rn_move (S.tm rfl)) rfl ?_)))); clear S; intro a S
 refine lv S (rn_eql (S.tm rfl) rfl) rfl ?_; clear S; intro a S
 refine lv S (rn_move (S.tm rfl)) rfl ?_; clear S; intro a S
 refine f_cutm 3 (fun a w' => Keep [] w w' ∧ Sx w [] nov [] [(8, bV ((decide (p_n = 1)) || (decide (p_n = 2))))] 9 a w') ?_ ?_
 ·rcases Bool.eq_false_or_eq_true (decide (p_n = 1)) with hb1 | hb1
  ·refine l_skip S rfl rfl rfl (neq_t hb1) rfl ?_ rfl; clear S; intro a S
   refine l_skip S rfl rfl rfl (neq_t hb1) rfl ?_ rfl; clear S; intro a S
   refine lv S (rn_or_t (decide (p_n = 2)) hb1 (S.tm rfl) rfl) rfl ?_; clear S; intro a S
   refine l_done (then_n ?_)
   exact ⟨Keep.refl _ _, S.nf [] rfl ⟨rfl, trivial⟩⟩
  ·refine l_want S rfl rfl rfl hb1 (lv S (rn_move (S.tm rfl)) rfl ?_); clear S; intro a S
   refine l_want S rfl rfl rfl hb1 (lv S (rn_eql (S.tm rfl) rfl) rfl ?_); clear S; intro a S
   refine lv S (rn_or_f hb1 (S.tm rfl) (S.tm rfl)) rfl ?_; clear S; intro a S
   refine l_done (then_n ?_)
   exact ⟨Keep.refl _ _, S.nf [] rfl ⟨rfl, trivial⟩⟩
 clear S; rintro a w1 ⟨hk1, S⟩
 refine lv S (rn_assign (S.tm rfl)) rfl ?_; clear S; intro a S
 refine l_done (then_n (wp_ret ?_))
 subst h
 exact f_ret S Tryz.results90 rfl rfl
theorem swimmer_checkBounds_ok (w : World) (p_b : GBounds) (r : Int) (h : swimmer_checkBounds p_b = r) :
    Calls Tryz.prog 66 [.agg (GBounds.enc p_b).toArray].toArray w (Ret w [] fun _ v _ => v = iV r) := by
 refine f_enter [] [] Tryz.func66 rfl Tryz.ntmps66 rfl (by simp) (by simp [fps]) (by simp [fps]) fun a S => ?_
 unfold swimmer_checkBounds at h
 replace S := S.nk [] [(0, .agg (GBounds.enc p_b).toArray)] [] rfl ⟨rfl, trivial⟩
 refine f_seq (f_region (l_box S (S.tm rfl) (cs := (GBounds.enc p_b)) rfl rfl ?_)); clear S; intro a w1 b1 hz1 hk1 S
 refine lv S (rn_assign rfl) rfl ?_; clear S; intro a S
 refine l_done (then_n (f_seq (wp_block (f_seq (f_region (lv S (rn_fld fa_33_0 (S.tm rfl)) rfl ?_)))))); clear S; intro a S
 refine lv S (rn_load Tryz.isAgg3 (S.tm rfl) (S.cell (i := 0) rfl rfl)) rfl ?_; clear S; intro a S
 refine l_enter S (fun _ => run_call (vs := [iV p_b.Races, iV 0, iV 100]) ⟨(S.tm rfl), rfl, rfl, trivial⟩ Tryz.call41) (words_Within_ok _ p_b.Races 0 100 _ rfl) rfl ?_; clear S; intro v1 a w2 hv1 hk2 hn1 S
 subst hv1
 refine lv S (rn_not (S.tm rfl)) rfl ?_; clear S; intro a S
 refine lv S (rn_move (S.tm rfl)) rfl ?_; clear S; intro a S
 refine f_cutm 5 (fun a w' => Keep [] w2 w' ∧ Sx w [] nov [.blk b1 (GBounds.enc p_b) 33] [(1, .pointer (some ⟨b1, 0, none⟩)), (13, bV ((!(words_Within p_b.Races 0 100)) || (!(words_Within p_b.Club 0 1500))))] 24 a w') ?_ ?_
 ·rcases Bool.eq_false_or_eq_true (!(words_Within p_b.Races 0 100)) with hb1 | hb1
  ·iterate 4 (refine l_skip S rfl rfl rfl (neq_t hb1) rfl ?_ rfl; clear S; intro a S)
   refine lv S (rn_or_t (!(words_Within p_b.Club 0 1500)) hb1 (S.tm rfl) rfl) rfl ?_; clear S; intro a S
   refine l_done (then_n ?_)
   exact ⟨Keep.refl _ _, S.nf [true] rfl (subR rfl)⟩
  ·refine l_want S rfl rfl rfl hb1 (lv S (rn_fld fa_33_1 (S.tm rfl)) rfl ?_); clear S; intro a S
   refine l_want S rfl rfl rfl hb1 (lv S (rn_load Tryz.isAgg3 (S.tm rfl) (S.cell (i := 0) rfl rfl)) rfl ?_); clear S; intro a S
   refine l_want S rfl rfl rfl hb1 (l_enter S (fun _ => run_call (vs := [iV p_b.Club, iV 0, iV 1500]) ⟨(S.tm rfl), rfl, rfl, trivial⟩ Tryz.call41) (words_Within_ok _ p_b.Club 0 1500 _ rfl) rfl ?_); clear S; intro v2 a w4 hv2 hk3 hn2 S
   subst hv2
   refine l_want S rfl rfl rfl hb1 (lv S (rn_not (S.tm rfl)) rfl ?_); clear S; intro a S
   refine lv S (rn_or_f hb1 (S.tm rfl) (S.tm rfl)) rfl ?_; clear S; intro a S
   refine l_done (then_n ?_)
   exact ⟨hk3, S.nf [true] rfl (subR rfl)⟩
 clear S; rintro a w3 ⟨hk4, S⟩
 refine lv S (rn_assign (S.tm rfl)) rfl ?_; clear S; intro a S
 refine l_done (then_n (f_cond (S.tm rfl) (fun hb2 => ?_) (fun hb2 => ?_)))
 ·replace h := iteT h hb2
  refine f_seq (f_region (lv S (rn_assign rfl) rfl ?_)); clear S; intro a S
  refine l_done (then_n (wp_ret (blk_r (then_r ?_))))
  subst h
  exact f_ret S Tryz.results66 rfl rfl
 ·replace h := iteF h hb2
  refine f_seq (f_region (lv S (rn_fld fa_33_2 (S.tm rfl)) rfl ?_)); clear S; intro a S
  refine lv S (rn_load Tryz.isAgg3 (S.tm rfl) (S.cell (i := 0) rfl rfl)) rfl ?_; clear S; intro a S
  refine l_enter S (fun _ => run_call (vs := [iV p_b.Age]) ⟨(S.tm rfl), trivial⟩ Tryz.call90) (swimmer_isWay_ok _ p_b.Age _ rfl) rfl ?_; clear S; intro v3 a w5 hv3 hk5 hn3 S
  subst hv3
  refine lv S (rn_not (S.tm rfl)) rfl ?_; clear S; intro a S
  refine lv S (rn_assign (S.tm rfl)) rfl ?_; clear S; intro a S
  refine l_done (then_n (f_cond (S.tm rfl) (fun hb3 => ?_) (fun hb3 => ?_)))
  ·replace h := iteT h hb3
   refine f_seq (f_region (lv S (rn_assign rfl) rfl ?_)); clear S; intro a S
   refine l_done (then_n (wp_ret (blk_r (then_r ?_))))
   subst h
   exact f_ret S Tryz.results66 rfl rfl
  ·replace h := iteF h hb3
   refine f_seq (f_region (lv S (rn_fld fa_33_3 (S.tm rfl)) rfl ?_)); clear S; intro a S
   refine lv S (rn_load Tryz.isAgg3 (S.tm rfl) (S.cell (i := 0) rfl rfl)) rfl ?_; clear S; intro a S
   refine l_enter S (fun _ => run_call (vs := [iV p_b.Day]) ⟨(S.tm rfl), trivial⟩ Tryz.call88) (swimmer_isDay_ok _ p_b.Day _ rfl) rfl ?_; clear S; intro v4 a w6 hv4 hk6 hn4 S
   subst hv4
   refine lv S (rn_not (S.tm rfl)) rfl ?_; clear S; intro a S
   refine lv S (rn_assign (S.tm rfl)) rfl ?_; clear S; intro a S
   refine l_done (then_n (f_cond (S.tm rfl) (fun hb4 => ?_) (fun hb4 => ?_)))
   ·replace h := iteT h hb4
    refine f_seq (f_region (lv S (rn_assign rfl) rfl ?_)); clear S; intro a S
    refine l_done (then_n (wp_ret (blk_r (then_r ?_))))
    subst h
    exact f_ret S Tryz.results66 rfl rfl
   ·replace h := iteF h hb4
    refine wp_skip (blk_n (then_n (f_seq (f_region (lv S (rn_assign rfl) rfl ?_))))); clear S; intro a S
    refine l_done (then_n (wp_ret ?_))
    subst h
    exact f_ret S Tryz.results66 rfl rfl
theorem swimmer_checkMeet_ok (w : World) (v_p_r : Value) (p_r : List GRace) (hs_p_r : Slc (view w []) 8 v_p_r (p_r.map GRace.enc)) (v_p_s : Value) (p_s : List GSwimmer) (hs_p_s : Slc (view w []) 3 v_p_s (p_s.map GSwimmer.enc)) (v_p_m : Value) (p_m : List GMove) (hs_p_m : Slc (view w []) 3 v_p_m (p_m.map GMove.enc)) (p_b : GBounds) (r : Int) (h : swimmer_checkMeet p_r p_s p_m p_b = some r) :
    Calls Tryz.prog 37 [v_p_r, v_p_s, v_p_m, .agg (GBounds.enc p_b).toArray].toArray w (Ret w [] fun _ v _ => v = iV r) := by
 refine f_enter [] [] Tryz.func37 rfl Tryz.ntmps37 rfl (by simp) (by simp [fps]) (by simp [fps]) fun a S => ?_
 unfold swimmer_checkMeet at h
 replace S := S.nk [] [(0, v_p_r), (1, v_p_s), (2, v_p_m), (3, .agg (GBounds.enc p_b).toArray)] [] rfl (subR rfl)
 refine f_seq (f_region (l_box S (S.tm rfl) (cs := (GBounds.enc p_b)) rfl rfl ?_)); clear S; intro a w1 b1 hz1 hk1 S
 refine lv S (rn_assign rfl) rfl ?_; clear S; intro a S
 refine l_done (then_n (f_seq (f_seq (f_region (lv S (rn_move (S.tm rfl)) rfl ?_))))); clear S; intro a S
 obtain ⟨r1, hr1, h⟩ := bindE h
 refine l_enter S (fun _ => run_call (vs := [v_p_r]) ⟨(S.tm rfl), trivial⟩ Tryz.call63) (swimmer_checkRaces_ok _ v_p_r p_r (hs_p_r.mono (S.le_arg nil_sub)) _ hr1) rfl ?_; clear S; intro v1 a w2 hv1 hk2 hn1 S
 subst hv1
 refine lv S (rn_assign (S.tm rfl)) rfl ?_; clear S; intro a S
 refine l_done (then_n (f_seq (f_region (lv S (rn_move (S.tm rfl)) rfl ?_)))); clear S; intro a S
 refine lv S (rn_neq (S.tm rfl) rfl) rfl ?_; clear S; intro a S
 refine l_done (then_n (f_cond (S.tm rfl) (fun hb1 => ?_) (fun hb1 => ?_)))
 ·replace h := iteT h hb1
  refine f_seq (f_region (lv S (rn_move (S.tm rfl)) rfl ?_)); clear S; intro a S
  refine lv S (rn_assign (S.tm rfl)) rfl ?_; clear S; intro a S
  refine l_done (then_n (wp_ret (then_r ?_)))
  obtain rfl := Option.some.inj h
  exact f_ret S Tryz.results37 rfl rfl
 ·replace h := iteF h hb1
  refine wp_skip (then_n (f_seq (f_seq (f_region (lv S (rn_move (S.tm rfl)) rfl ?_))))); clear S; intro a S
  obtain ⟨r2, hr2, h⟩ := bindE h
  refine l_enter S (fun _ => run_call (vs := [v_p_s]) ⟨(S.tm rfl), trivial⟩ Tryz.call64) (swimmer_CheckSwimmers_ok _ v_p_s p_s (hs_p_s.mono (S.le_arg nil_sub)) _ hr2) rfl ?_; clear S; intro v2 a w3 hv2 hk3 hn2 S
  subst hv2
  refine lv S (rn_assign (S.tm rfl)) rfl ?_; clear S; intro a S
  refine l_done (then_n (f_seq (f_region (lv S (rn_move (S.tm rfl)) rfl ?_)))); clear S; intro a S
  refine lv S (rn_neq (S.tm rfl) rfl) rfl ?_; clear S; intro a S
  refine l_done ?_
  replace S := S.nk [.blk b1 (GBounds.enc p_b) 33] [(2, v_p_m), (7, .pointer (some ⟨b1, 0, none⟩)), (10, iV r2), (20, bV (!decide (r2 = 0)))] [true] rfl (subR rfl)
  refine then_n (f_cond (S.tm rfl) (fun hb2 => ?_) (fun hb2 => ?_))
  ·replace h := iteT h hb2
   refine f_seq (f_region (lv S (rn_move (S.tm rfl)) rfl ?_)); clear S; intro a S
   refine lv S (rn_assign (S.tm rfl)) rfl ?_; clear S; intro a S
   refine l_done (then_n (wp_ret (then_r ?_)))
   obtain rfl := Option.some.inj h
   exact f_ret S Tryz.results37 rfl rfl
  ·replace h := iteF h hb2
   refine wp_skip (then_n (f_seq (f_seq (f_region (lv S (rn_move (S.tm rfl)) rfl ?_))))); clear S; intro a S
   obtain ⟨r3, hr3, h⟩ := bindE h
   refine l_enter S (fun _ => run_call (vs := [v_p_m]) ⟨(S.tm rfl), trivial⟩ Tryz.call65) (swimmer_CheckMoves_ok _ v_p_m p_m (hs_p_m.mono (S.le_arg nil_sub)) _ hr3) rfl ?_; clear S; intro v3 a w4 hv3 hk4 hn3 S
   subst hv3
   refine lv S (rn_assign (S.tm rfl)) rfl ?_; clear S; intro a S
   refine l_done (then_n (f_seq (f_region (lv S (rn_move (S.tm rfl)) rfl ?_)))); clear S; intro a S
   refine lv S (rn_neq (S.tm rfl) rfl) rfl ?_; clear S; intro a S
   refine l_done (then_n (f_cond (S.tm rfl) (fun hb3 => ?_) (fun hb3 => ?_)))
   ·replace h := iteT h hb3
    refine f_seq (f_region (lv S (rn_move (S.tm rfl)) rfl ?_)); clear S; intro a S
    refine lv S (rn_assign (S.tm rfl)) rfl ?_; clear S; intro a S
    refine l_done (then_n (wp_ret (then_r ?_)))
    obtain rfl := Option.some.inj h
    exact f_ret S Tryz.results37 rfl rfl
   ·replace h := iteF h hb3
    refine wp_skip (then_n (f_seq (f_region (lv S (rn_ldA Tryz.isAgg33 Tryz.sizeOf33 (off := 0) (o := 0) (part := (GBounds.enc p_b)) rfl rfl (S.tm rfl) (S.cellsAt (i := 0) rfl)) rfl ?_)))); clear S; intro a S
    refine l_enter S (fun _ => run_call (vs := [.agg (GBounds.enc p_b).toArray]) ⟨(S.tm rfl), trivial⟩ Tryz.call66) (swimmer_checkBounds_ok _ p_b _ rfl) rfl ?_; clear S; intro v4 a w5 hv4 hk5 hn4 S
    subst hv4
    refine lv S (rn_assign (S.tm rfl)) rfl ?_; clear S; intro a S
    refine l_done (then_n (wp_ret ?_))
    obtain rfl := Option.some.inj h
    exact f_ret S Tryz.results37 rfl rfl
theorem slices_Index_string_ok (w : World) (v_p_s : Value) (p_s : List ByteArray) (hs_p_s : Slc (view w []) 1 v_p_s (p_s.map eStr)) (p_v : ByteArray) (r : Int) (h : slices_Index_string p_s p_v = r) :
    Calls Tryz.prog 79 [v_p_s, sV p_v].toArray w (Ret w [] fun _ v _ => v = iV r) := by
 refine f_enter [] [] Tryz.func79 rfl Tryz.ntmps79 rfl (by simp) (by simp [fps]) (by simp [fps]) fun a S => ?_
 unfold slices_Index_string at h
 replace S := S.nk [] [(0, v_p_s), (1, sV p_v)] [] rfl (subR rfl)
 refine f_seq (f_region (lv S (rn_assign rfl) rfl ?_)); clear S; intro a S
 refine l_done (then_n (f_seq (f_seq (f_region (lv S (rn_move (S.tm rfl)) rfl ?_))))); clear S; intro a S
 refine lv S (rn_lenT sl_35 (S.tm rfl) (slc_len hs_p_s)) rfl ?_; clear S; intro a S
 refine lv S (rn_move rfl) rfl ?_; clear S; intro a S
 refine l_done (then_n ?_)
 replace S := S.nk [] [(0, v_p_s), (1, sV p_v), (7, iV (p_s.length : Int)), (8, iV 0)] [] rfl (subR rfl)
 obtain ⟨j1, hj1, h⟩ := joinE h
 refine f_join (fun a w' => j1 = r ∧ Sx w [] nov [] [] 19 a w') ?_ ?_
 ·refine wp_block (f_loop (fun (ys1 : List ByteArray) a w' => ∃ i1 : Nat, (∃ dn, p_s = dn ++ ys1 ∧ dn.length = i1) ∧ slices_Index_string_l1 p_v j1 ys1 i1 = r ∧ Sx w [] nov [] [(0, v_p_s), (1, sV p_v), (7, iV (p_s.length : Int)), (8, iV (i1 : Int))] 19 a w') List.length p_s ⟨0, ⟨[], rfl, rfl⟩, h, S.nf [] rfl (subR rfl)⟩ ?_)
  clear S h; rintro ys1 a w1 ⟨i1, ⟨dn, hd1, hi1⟩, h, S⟩
  cases ys1 with
  | nil =>
   rw [slices_Index_string_l1.eq_1] at h
   refine f_seq (f_region (lv S (rn_lss (S.tm rfl) (S.tm rfl)) rfl ?_)); clear S; intro a S
   refine l_done ?_
   replace S := S.nk [] [(0, v_p_s), (1, sV p_v), (7, iV (p_s.length : Int)), (8, iV (i1 : Int)), (9, bV (decide ((i1 : Int) < (p_s.length : Int))))] [] rfl (subR rfl)
   refine then_n (f_seq (wp_cond_false ((S.tm rfl).trans (congrArg Value.bool (rng_nil hd1 hi1))) (wp_exit (then_x (then_x (x_same ?_))))))
   refine then_n ?_
   exact ⟨h, S.nf [] rfl trivial⟩
  | cons y1 ys1 =>
   rw [slices_Index_string_l1.eq_2] at h
   refine f_seq (f_region (lv S (rn_lss (S.tm rfl) (S.tm rfl)) rfl ?_)); clear S; intro a S
   refine l_done ?_
   replace S := S.nk [] [(0, v_p_s), (1, sV p_v), (7, iV (p_s.length : Int)), (8, iV (i1 : Int)), (9, bV (decide ((i1 : Int) < (p_s.length : Int))))] [] rfl (subR rfl)
   refine then_n (f_seq (wp_cond_true ((S.tm rfl).trans (congrArg Value.bool (rng_cons hd1 hi1))) (wp_skip (then_n (f_seq (wp_block ?_))))))
   refine f_seq (f_region (lv S (rn_move (S.tm rfl)) rfl ?_)); clear S; intro a S
   refine lv S (rn_assign (S.tm rfl)) rfl ?_; clear S; intro a S
   refine l_done (then_n (f_seq (f_region (lv S (rn_move (S.tm rfl)) rfl ?_)))); clear S; intro a S
   refine lv S (rn_move (S.tm rfl)) rfl ?_; clear S; intro a S
   refine lv S (rn_move (S.tm rfl)) rfl ?_; clear S; intro a S
   obtain ⟨b1, o1, hm1, hr1⟩ := rn_indexT (a := a) (x := .tmp 12) (y := .tmp 13) (ty := 0) sl_35 hs_p_s (get_mid hd1 hi1) rfl (S.tm rfl) (S.tm rfl)
   refine lv S (hr1 _) rfl ?_; clear S; intro a S
   clear hr1
   refine lv S (rn_ld Tryz.isAgg9 (off := o1) (o := 0) (S.tm rfl) (hm1.at S.emb0) rfl) rfl ?_; clear S; intro a S
   refine lv S (rn_seql (S.tm rfl) (S.tm rfl)) rfl ?_; clear S; intro a S
   refine l_done (then_n (f_cond (S.tm rfl) (fun hb1 => ?_) (fun hb1 => ?_)))
   ·replace h := iteT h hb1
    refine f_seq (f_region (lv S (rn_move (S.tm rfl)) rfl ?_)); clear S; intro a S
    refine lv S (rn_assign (S.tm rfl)) rfl ?_; clear S; intro a S
    refine l_done ?_
    replace S := S.nk [] [(4, iV (i1 : Int))] [] rfl ⟨rfl, trivial⟩
    refine then_n (wp_ret (blk_r (then_r (then_r (blk_r (then_r ?_))))))
    refine then_r ?_
    subst h
    exact f_ret S Tryz.results79 rfl rfl
   ·replace h := iteF h hb1
    refine wp_skip (blk_n (then_n (f_region (lv S (rn_add (S.tm rfl) rfl) rfl ?_)))); clear S; intro a S
    refine lv S (rn_move (S.tm rfl)) rfl ?_; clear S; intro a S
    refine l_done (then_n ?_)
    exact ⟨ys1, ⟨i1 + 1, ⟨_, (hd1).trans (List.append_cons _ _ _), by simp [hi1]⟩, h, S.nf [] rfl ⟨rfl, rfl, rfl, (congrArg (fun z => some (Value.int .i64 z)) (rng_next hd1 hi1 (slc_max hs_p_s))), trivial⟩⟩, Nat.lt_succ_self _⟩
 clear S h; rintro a w2 ⟨h, S⟩; rw [hj1] at h; clear hj1 j1
 refine then_n (f_seq (f_region (lv S (rn_assign rfl) rfl ?_))); clear S; intro a S
 refine l_done (then_n (wp_ret ?_))
 subst h
 exact f_ret S Tryz.results79 rfl rfl
theorem slices_Contains_string_ok (w : World) (v_p_s : Value) (p_s : List ByteArray) (hs_p_s : Slc (view w []) 1 v_p_s (p_s.map eStr)) (p_v : ByteArray) (r : Bool) (h : slices_Contains_string p_s p_v = r) :
    Calls Tryz.prog 48 [v_p_s, sV p_v].toArray w (Ret w [] fun _ v _ => v = bV r) := by
 refine f_enter [] [] Tryz.func48 rfl Tryz.ntmps48 rfl (by simp) (by simp [fps]) (by simp [fps]) fun a S => ?_
 unfold slices_Contains_string at h
 replace S := S.nk [] [(0, v_p_s), (1, sV p_v)] [] rfl (subR rfl)
 refine f_seq (f_region (lv S (rn_assign rfl) rfl ?_)); clear S; intro a S
 refine l_done (then_n (f_seq (f_region (lv S (rn_move (S.tm rfl)) rfl ?_)))); clear S; intro a S
 refine lv S (rn_move (S.tm rfl)) rfl ?_; clear S; intro a S
 refine l_enter S (fun _ => run_call (vs := [v_p_s, sV p_v]) ⟨(S.tm rfl), (S.tm rfl), trivial⟩ Tryz.call79) (slices_Index_string_ok _ v_p_s p_s (hs_p_s.mono (S.le_arg nil_sub)) p_v _ rfl) rfl ?_; clear S; intro v1 a w1 hv1 hk1 hn1 S
 subst hv1
 refine lv S (rn_geq (S.tm rfl) rfl) rfl ?_; clear S; intro a S
 refine lv S (rn_assign (S.tm rfl)) rfl ?_; clear S; intro a S
 refine l_done (then_n (wp_ret ?_))
 subst h
 exact f_ret S Tryz.results48 rfl rfl
set_option maxRecDepth 20000 in
theorem swimmer_CheckSquads_ok (w : World) (v_p_l : Value) (p_l : List GSquad) (rs_p_l : List R37) (hs_p_l : Slc (view w []) 4 v_p_l (rs_p_l.map R37.enc)) (hr_p_l : All2 (rel_37 (view w [])) p_l rs_p_l) (r : Int) (h : swimmer_CheckSquads p_l = some r) :
    Calls Tryz.prog 20 [v_p_l].toArray w (Ret w [] fun _ v _ => v = iV r) := by
 refine f_enter [] [] Tryz.func20 rfl Tryz.ntmps20 rfl (by simp) (by simp [fps]) (by simp [fps]) fun a S => ?_
 unfold swimmer_CheckSquads at h
 replace S := S.nk [] [(0, v_p_l)] [] rfl ⟨rfl, trivial⟩
 refine f_seq (f_region (lv S (rn_assign rfl) rfl ?_)); clear S; intro a S
 refine l_done (then_n (f_seq (f_seq (f_region (lv S (rn_move (S.tm rfl)) rfl ?_))))); clear S; intro a S
 refine lv S (rn_lenT sl_52 (S.tm rfl) (slc_lenD hs_p_l hr_p_l)) rfl ?_; clear S; intro a S
 refine lv S (rn_gtr (S.tm rfl) rfl) rfl ?_; clear S; intro a S
 refine l_done (then_n (f_cond (S.tm rfl) (fun hb1 => ?_) (fun hb1 => ?_)))
 ·replace h := iteT h hb1
  refine f_seq (f_region (lv S (rn_assign rfl) rfl ?_)); clear S; intro a S
  refine l_done (then_n (wp_ret (then_r ?_)))
  obtain rfl := Option.some.inj h
  exact f_ret S Tryz.results20 rfl rfl
 ·replace h := iteF h hb1
  refine wp_skip (then_n (f_seq (f_seq (f_region (lv S (rn_move (S.tm rfl)) rfl ?_))))); clear S; intro a S
  refine lv S (rn_lenT sl_52 (S.tm rfl) (slc_lenD hs_p_l hr_p_l)) rfl ?_; clear S; intro a S
  refine lv S (rn_move rfl) rfl ?_; clear S; intro a S
  refine l_done (then_n ?_)
  replace S := S.nk [] [(0, v_p_l), (10, v_p_l), (11, iV (p_l.length : Int)), (12, iV 0)] [] rfl (subR rfl)
  obtain ⟨j1, hj1, h⟩ := joinE h
  refine f_join (fun a w' => j1 = some r ∧ Sx w [] nov [] [] 72 a w') ?_ ?_
  ·refine wp_block (f_loop (fun (ys1 : List GSquad) a w' => ∃ i1 : Nat, (∃ dn, p_l = dn ++ ys1 ∧ dn.length = i1) ∧ swimmer_CheckSquads_l1 p_l j1 ys1 i1 = some r ∧ Sx w [] nov [] [(0, v_p_l), (10, v_p_l), (11, iV (p_l.length : Int)), (12, iV (i1 : Int))] 72 a w') List.length p_l ⟨0, ⟨[], rfl, rfl⟩, h, S.nf [] rfl (subR rfl)⟩ ?_)
   clear S h; rintro ys1 a w1 ⟨i1, ⟨dn, hd1, hi1⟩, h, S⟩
   cases ys1 with
   | nil =>
    rw [swimmer_CheckSquads_l1.eq_1] at h
    refine f_seq (f_region (lv S (rn_lss (S.tm rfl) (S.tm rfl)) rfl ?_)); clear S; intro a S
    refine l_done ?_
    replace S := S.nk [] [(0, v_p_l), (10, v_p_l), (11, iV (p_l.length : Int)), (12, iV (i1 : Int)), (13, bV (decide ((i1 : Int) < (p_l.length : Int))))] [] rfl (subR rfl)
    refine then_n (f_seq (wp_cond_false ((S.tm rfl).trans (congrArg Value.bool (rng_nil hd1 hi1))) (wp_exit (then_x (then_x (x_same ?_))))))
    refine then_n ?_
    exact ⟨h, S.nf [] rfl trivial⟩
   | cons y1 ys1 =>
    rw [swimmer_CheckSquads_l1.eq_2] at h
    refine f_seq (f_region (lv S (rn_lss (S.tm rfl) (S.tm rfl)) rfl ?_)); clear S; intro a S
    refine l_done ?_
    replace S := S.nk [] [(0, v_p_l), (10, v_p_l), (11, iV (p_l.length : Int)), (12, iV (i1 : Int)), (13, bV (decide ((i1 : Int) < (p_l.length : Int))))] [] rfl (subR rfl)
    refine then_n (f_seq (wp_cond_true ((S.tm rfl).trans (congrArg Value.bool (rng_cons hd1 hi1))) (wp_skip (then_n (f_seq (wp_block ?_))))))
    refine f_seq (f_region (lv S (rn_move (S.tm rfl)) rfl ?_)); clear S; intro a S
    obtain ⟨r1, hg1, hl1⟩ := All2.at hr_p_l (get_mid hd1 hi1)
    obtain ⟨u1, rfl, hs1⟩ := hl1
    obtain ⟨b1, o1, hm1, hr1⟩ := rn_indexT (a := a) (x := .tmp 10) (y := .tmp 12) (ty := 0) sl_52 hs_p_l hg1 rfl (S.tm rfl) (S.tm rfl)
    refine lv S (hr1 _) rfl ?_; clear S; intro a S
    clear hr1
    refine lv S (rn_ldA Tryz.isAgg37 Tryz.sizeOf37 (off := o1) (o := 0) (part := [sV y1.Key, sV y1.Club, sV y1.Race, u1.val]) rfl rfl (S.tm rfl) (hm1.at S.emb0)) rfl ?_; clear S; intro a S
    refine l_alloc S Tryz.zeroValue37 (cs := [sV k_empty, sV k_empty, sV k_empty, .slice none 0 0]) rfl rfl ?_; clear S; intro a w3 b2 hz1 hk1 S
    refine lv S (rn_assign (S.tm rfl)) rfl ?_; clear S; intro a S
    refine l_store S (S.tm rfl) (S.tm rfl) (i := 0) (off := 0) rfl Tryz.sizeOf37 (vs := [sV y1.Key, sV y1.Club, sV y1.Race, u1.val]) rfl rfl rfl (all1 rfl (all1 rfl (all1 rfl (all1 (SlcLen.one (slc_len hs1)) rfl)))) ?_; clear S; intro w4 hk2 S
    refine l_done (then_n (f_seq (wp_block (f_seq (f_region (lv S (rn_fld fa_37_0 (S.tm rfl)) rfl ?_)))))); clear S; intro a S
    refine lv S (rn_load Tryz.isAgg9 (S.tm rfl) (S.cell (i := 0) rfl rfl)) rfl ?_; clear S; intro a S
    obtain ⟨r2, hr2, h⟩ := bindE h
    refine l_enter S (fun _ => run_call (vs := [sV y1.Key]) ⟨(S.tm rfl), trivial⟩ Tryz.call53) (words_IsKey_ok _ y1.Key _ hr2) rfl ?_; clear S; intro v1 a w5 hv1 hk3 hn1 S
    subst hv1
    refine lv S (rn_not (S.tm rfl)) rfl ?_; clear S; intro a S
    refine lv S (rn_move (S.tm rfl)) rfl ?_; clear S; intro a S
    obtain ⟨j2, hj2, h⟩ := joinE h
    refine f_cutm 5 (fun a w' => ∃ c1, j2 c1 = some r ∧ Keep [] w5 w' ∧ Sx w [] nov [.blk b2 [sV y1.Key, sV y1.Club, sV y1.Race, u1.val] 37] [(0, v_p_l), (3, iV (i1 : Int)), (4, .pointer (some ⟨b2, 0, none⟩)), (10, v_p_l), (11, iV (p_l.length : Int)), (12, iV (i1 : Int)), (27, bV c1)] 72 a w') ?_ ?_
    ·rcases Bool.eq_false_or_eq_true (!r2) with hb2 | hb2
     ·replace h := iteT h hb2
      iterate 4 (refine l_skip S rfl rfl rfl (neq_t hb2) rfl ?_ rfl; clear S; intro a S)
      refine lv S (rn_or_t true hb2 (S.tm rfl) rfl) rfl ?_; clear S; intro a S
      refine l_done (then_n ?_)
      exact ⟨_, h, Keep.refl _ _, S.nf [true] rfl (subR rfl)⟩
     ·replace h := iteF h hb2
      refine l_want S rfl rfl rfl hb2 (lv S (rn_fld fa_37_1 (S.tm rfl)) rfl ?_); clear S; intro a S
      refine l_want S rfl rfl rfl hb2 (lv S (rn_load Tryz.isAgg9 (S.tm rfl) (S.cell (i := 0) rfl rfl)) rfl ?_); clear S; intro a S
      refine l_want S rfl rfl rfl hb2 ?_
      obtain ⟨r3, hr3, h⟩ := bindE h
      refine l_enter S (fun _ => run_call (vs := [sV y1.Club]) ⟨(S.tm rfl), trivial⟩ Tryz.call53) (words_IsKey_ok _ y1.Club _ hr3) rfl ?_; clear S; intro v2 a w7 hv2 hk4 hn2 S
      subst hv2
      refine l_want S rfl rfl rfl hb2 (lv S (rn_not (S.tm rfl)) rfl ?_); clear S; intro a S
      refine lv S (rn_or_f hb2 (S.tm rfl) (S.tm rfl)) rfl ?_; clear S; intro a S
      refine l_done (then_n ?_)
      exact ⟨_, h, hk4, S.nf [true] rfl (subR rfl)⟩
    clear S h; rintro a w6 ⟨c1, h, hk5, S⟩; rw [hj2] at h; clear hj2 j2
    refine lv S (rn_move (S.tm rfl)) rfl ?_; clear S; intro a S
    obtain ⟨j3, hj3, h⟩ := joinE h
    refine f_cutm 5 (fun a w' => ∃ c2, j3 c2 = some r ∧ Keep [] w6 w' ∧ Sx w [] nov [.blk b2 [sV y1.Key, sV y1.Club, sV y1.Race, u1.val] 37] [(0, v_p_l), (3, iV (i1 : Int)), (4, .pointer (some ⟨b2, 0, none⟩)), (10, v_p_l), (11, iV (p_l.length : Int)), (12, iV (i1 : Int)), (33, bV c2)] 72 a w') ?_ ?_
    ·rcases Bool.eq_false_or_eq_true c1 with hb3 | hb3
     ·replace h := iteT h hb3
      iterate 4 (refine l_skip S rfl rfl rfl (neq_t hb3) rfl ?_ rfl; clear S; intro a S)
      refine lv S (rn_or_t true hb3 (S.tm rfl) rfl) rfl ?_; clear S; intro a S
      refine l_done (then_n ?_)
      exact ⟨_, h, Keep.refl _ _, S.nf [true] rfl (subR rfl)⟩
     ·replace h := iteF h hb3
      refine l_want S rfl rfl rfl hb3 (lv S (rn_fld fa_37_2 (S.tm rfl)) rfl ?_); clear S; intro a S
      refine l_want S rfl rfl rfl hb3 (lv S (rn_load Tryz.isAgg9 (S.tm rfl) (S.cell (i := 0) rfl rfl)) rfl ?_); clear S; intro a S
      refine l_want S rfl rfl rfl hb3 ?_
      obtain ⟨r4, hr4, h⟩ := bindE h
      refine l_enter S (fun _ => run_call (vs := [sV y1.Race]) ⟨(S.tm rfl), trivial⟩ Tryz.call53) (words_IsKey_ok _ y1.Race _ hr4) rfl ?_; clear S; intro v3 a w9 hv3 hk6 hn3 S
      subst hv3
      refine l_want S rfl rfl rfl hb3 (lv S (rn_not (S.tm rfl)) rfl ?_); clear S; intro a S
      refine lv S (rn_or_f hb3 (S.tm rfl) (S.tm rfl)) rfl ?_; clear S; intro a S
      refine l_done (then_n ?_)
      exact ⟨_, h, hk6, S.nf [true] rfl (subR rfl)⟩
    clear S h; rintro a w8 ⟨c2, h, hk7, S⟩; rw [hj3] at h; clear hj3 j3
    refine lv S (rn_assign (S.tm rfl)) rfl ?_; clear S; intro a S
    refine l_done (then_n (f_cond (S.tm rfl) (fun hb4 => ?_) (fun hb4 => ?_)))
    ·replace h := iteT h hb4
     refine f_seq (f_region (lv S (rn_assign rfl) rfl ?_)); clear S; intro a S
     refine l_done (then_n (wp_ret (blk_r (then_r (blk_r (then_r ?_))))))
     refine then_r (blk_r (then_r (then_r ?_)))
     obtain rfl := Option.some.inj h
     exact f_ret S Tryz.results20 rfl rfl
    ·replace h := iteF h hb4
     refine f_seq (d_region [] ([]) Tryz.mixed S rfl (by kernel_rfl) ?_); clear S; intro w10 hk8 hsel S
     refine d_rest [0, 1, 2, 3, 4, 5, 6, 7, 8, 9, 10, 11, 12, 13] hsel (by kernel_rfl) rfl ?_
     clear hsel
     refine s_lv S rfl (rn_move (S.tm rfl)) rfl ?_; clear S; intro a S
     refine s_lv S rfl (rn_gtr (S.tm rfl) rfl) rfl ?_; clear S; intro a S
     refine s_lv S rfl (rn_move (S.tm rfl)) rfl ?_; clear S; intro a S
     obtain ⟨j4, hj4, h⟩ := joinE h
     refine s_cutm 10 (fun a w' => ∃ c3, j4 c3 = some r ∧ Keep [] w10 w' ∧ Sx w [] nov [.blk b2 [sV y1.Key, sV y1.Club, sV y1.Race, u1.val] 37] [(0, v_p_l), (4, .pointer (some ⟨b2, 0, none⟩)), (10, v_p_l), (11, iV (p_l.length : Int)), (12, iV (i1 : Int)), (47, bV c3)] 72 a w') ?_ ?_
     ·rcases Bool.eq_false_or_eq_true (decide (0 < (i1 : Int))) with hb5 | hb5
      ·replace h := iteT h hb5
       refine s_want S rfl rfl rfl rfl hb5 (s_lv0 S (rn_fld fa_37_0 (S.tm rfl)) rfl ?_); clear S; intro a S
       refine s_want S rfl rfl rfl rfl hb5 (s_lv0 S (rn_load Tryz.isAgg9 (S.tm rfl) (S.cell (i := 0) rfl rfl)) rfl ?_); clear S; intro a S
       refine s_want S rfl rfl rfl rfl hb5 (s_lv0 S (rn_move (S.tm rfl)) rfl ?_); clear S; intro a S
       refine s_want S rfl rfl rfl rfl hb5 (s_lv0 S (rn_move (S.tm rfl)) rfl ?_); clear S; intro a S
       refine s_want S rfl rfl rfl rfl hb5 (s_lv0 S (rn_sub (S.tm rfl) rfl) rfl ?_); clear S; intro a S
       refine s_want S rfl rfl rfl rfl hb5 ?_
       obtain ⟨hc1, h⟩ := chkE h
       obtain ⟨r5, hg2, hl2⟩ := all2_get hr_p_l hc1
       obtain ⟨u2, rfl, hs2⟩ := hl2
       obtain ⟨b3, o2, hm2, hr5⟩ := rn_indexT (a := a) (x := .tmp 40) (y := .tmp 42) (ty := 0) sl_52 hs_p_l hg2 (inB_get hc1).2 (S.tm rfl) (S.tm rfl)
       refine s_lv0 S (hr5 _) rfl ?_; clear S; intro a S
       clear hr5
       refine s_want S rfl rfl rfl rfl hb5 (s_lv0 S (rn_fld fa_37_0 (S.tm rfl)) rfl ?_); clear S; intro a S
       refine s_want S rfl rfl rfl rfl hb5 (s_lv0 S (rn_ld Tryz.isAgg9 (off := o2) (o := 0) (S.tm rfl) (hm2.at S.emb0) rfl) rfl ?_); clear S; intro a S
       refine s_want S rfl rfl rfl rfl hb5 (s_lv0 S (rn_sleq (S.tm rfl) (S.tm rfl)) rfl ?_); clear S; intro a S
       refine s_lv S rfl (rn_and_t hb5 (S.tm rfl) (S.tm rfl)) rfl ?_; clear S; intro a S
       refine s_done ?_
       exact ⟨_, h, Keep.refl _ _, S.nf [true] rfl (subR rfl)⟩
      ·replace h := iteF h hb5
       iterate 9 (refine s_skip S rfl rfl rfl rfl (neq_f hb5) rfl ?_ rfl; clear S; intro a S)
       refine s_lv S rfl (rn_and_f true hb5 (S.tm rfl) rfl) rfl ?_; clear S; intro a S
       refine s_done ?_
       exact ⟨_, h, Keep.refl _ _, S.nf [true] rfl (subR rfl)⟩
     clear S h; rintro a w11 ⟨c3, h, hk9, S⟩; rw [hj4] at h; clear hj4 j4
     refine s_lv S rfl (rn_assign (S.tm rfl)) rfl ?_; clear S; intro a S
     refine s_done ?_
     replace S := S.nk [.blk b2 [sV y1.Key, sV y1.Club, sV y1.Race, u1.val] 37] [(0, v_p_l), (4, .pointer (some ⟨b2, 0, none⟩)), (10, v_p_l), (11, iV (p_l.length : Int)), (12, iV (i1 : Int)), (34, bV c3)] [true] rfl (subR rfl)
     refine then_n (f_cond (S.tm rfl) (fun hb6 => ?_) (fun hb6 => ?_))
     ·replace h := iteT h hb6
      refine f_seq (f_region (lv S (rn_assign rfl) rfl ?_)); clear S; intro a S
      refine l_done (then_n (wp_ret (blk_r (then_r (blk_r (then_r ?_))))))
      refine then_r (blk_r (then_r (then_r ?_)))
      obtain rfl := Option.some.inj h
      exact f_ret S Tryz.results20 rfl rfl
     ·replace h := iteF h hb6
      refine f_seq (f_region (lv S (rn_fld fa_37_3 (S.tm rfl)) rfl ?_)); clear S; intro a S
      refine lv S (rn_load Tryz.isAgg35 (S.tm rfl) (S.cell (i := 0) rfl rfl)) rfl ?_; clear S; intro a S
      refine lv S (rn_lenT sl_35 (S.tm rfl) (slc_len hs1)) rfl ?_; clear S; intro a S
      refine lv S (rn_neq (S.tm rfl) rfl) rfl ?_; clear S; intro a S
      refine lv S (rn_assign (S.tm rfl)) rfl ?_; clear S; intro a S
      refine l_done (then_n (f_cond (S.tm rfl) (fun hb7 => ?_) (fun hb7 => ?_)))
      ·replace h := iteT h hb7
       refine f_seq (f_region (lv S (rn_assign rfl) rfl ?_)); clear S; intro a S
       refine l_done (then_n (wp_ret (blk_r (then_r (blk_r (then_r ?_))))))
       refine then_r (blk_r (then_r (then_r ?_)))
       obtain rfl := Option.some.inj h
       exact f_ret S Tryz.results20 rfl rfl
      ·replace h := iteF h hb7
       refine wp_skip (blk_n (then_n (f_seq (f_region (lv S (rn_fld fa_37_3 (S.tm rfl)) rfl ?_))))); clear S; intro a S
       refine lv S (rn_load Tryz.isAgg35 (S.tm rfl) (S.cell (i := 0) rfl rfl)) rfl ?_; clear S; intro a S
       refine lv S (rn_lenT sl_35 (S.tm rfl) (slc_len hs1)) rfl ?_; clear S; intro a S
       refine lv S (rn_move rfl) rfl ?_; clear S; intro a S
       refine l_done ?_
       replace S := S.nk [.blk b2 [sV y1.Key, sV y1.Club, sV y1.Race, u1.val] 37] [(0, v_p_l), (4, .pointer (some ⟨b2, 0, none⟩)), (10, v_p_l), (11, iV (p_l.length : Int)), (12, iV (i1 : Int)), (54, u1.val), (55, iV (y1.Who.length : Int)), (56, iV 0)] [true] rfl (subR rfl)
       refine then_n ?_
       obtain ⟨j5, hj5, h⟩ := joinE h
       refine f_join (fun a w' => j5 = some r ∧ Sx w [] nov [.blk b2 [sV y1.Key, sV y1.Club, sV y1.Race, u1.val] 37] [(0, v_p_l), (10, v_p_l), (11, iV (p_l.length : Int)), (12, iV (i1 : Int))] 72 a w') ?_ ?_
       ·refine wp_block (f_loop (fun (ys2 : List ByteArray) a w' => ∃ i2 : Nat, (∃ dn, y1.Who = dn ++ ys2 ∧ dn.length = i2) ∧ swimmer_CheckSquads_l2 y1 j5 ys2 i2 = some r ∧ Sx w [] nov [.blk b2 [sV y1.Key, sV y1.Club, sV y1.Race, u1.val] 37] [(0, v_p_l), (4, .pointer (some ⟨b2, 0, none⟩)), (10, v_p_l), (11, iV (p_l.length : Int)), (12, iV (i1 : Int)), (54, u1.val), (55, iV (y1.Who.length : Int)), (56, iV (i2 : Int))] 72 a w') List.length y1.Who ⟨0, ⟨[], rfl, rfl⟩, h, S.nf [true] rfl (subR rfl)⟩ ?_)
        clear S h; rintro ys2 a w12 ⟨i2, ⟨dn, hd2, hi2⟩, h, S⟩
        cases ys2 with
        | nil =>
         rw [swimmer_CheckSquads_l2.eq_1] at h
         refine f_seq (f_region (lv S (rn_lss (S.tm rfl) (S.tm rfl)) rfl ?_)); clear S; intro a S
         refine l_done ?_
         replace S := S.nk [.blk b2 [sV y1.Key, sV y1.Club, sV y1.Race, u1.val] 37] [(0, v_p_l), (4, .pointer (some ⟨b2, 0, none⟩)), (10, v_p_l), (11, iV (p_l.length : Int)), (12, iV (i1 : Int)), (54, u1.val), (55, iV (y1.Who.length : Int)), (56, iV (i2 : Int)), (57, bV (decide ((i2 : Int) < (y1.Who.length : Int))))] [true] rfl (subR rfl)
         refine then_n (f_seq (wp_cond_false ((S.tm rfl).trans (congrArg Value.bool (rng_nil hd2 hi2))) (wp_exit (then_x (then_x (x_same ?_))))))
         refine then_n ?_
         exact ⟨h, S.nf [true] rfl (subR rfl)⟩
        | cons y2 ys2 =>
         rw [swimmer_CheckSquads_l2.eq_2] at h
         refine f_seq (f_region (lv S (rn_lss (S.tm rfl) (S.tm rfl)) rfl ?_)); clear S; intro a S
         refine l_done ?_
         replace S := S.nk [.blk b2 [sV y1.Key, sV y1.Club, sV y1.Race, u1.val] 37] [(0, v_p_l), (4, .pointer (some ⟨b2, 0, none⟩)), (10, v_p_l), (11, iV (p_l.length : Int)), (12, iV (i1 : Int)), (54, u1.val), (55, iV (y1.Who.length : Int)), (56, iV (i2 : Int)), (57, bV (decide ((i2 : Int) < (y1.Who.length : Int))))] [true] rfl (subR rfl)
         refine then_n (f_seq (wp_cond_true ((S.tm rfl).trans (congrArg Value.bool (rng_cons hd2 hi2))) (wp_skip (then_n (f_seq (wp_block ?_))))))
         refine f_seq (f_region (lv S (rn_move (S.tm rfl)) rfl ?_)); clear S; intro a S
         obtain ⟨b4, o3, hm3, hr6⟩ := rn_indexT (a := a) (x := .tmp 54) (y := .tmp 56) (ty := 0) sl_35 hs1 (get_mid hd2 hi2) rfl (S.tm rfl) (S.tm rfl)
         refine lv S (hr6 _) rfl ?_; clear S; intro a S
         clear hr6
         refine lv S (rn_ld Tryz.isAgg9 (off := o3) (o := 0) (S.tm rfl) (hm3.at S.emb0) rfl) rfl ?_; clear S; intro a S
         refine lv S (rn_assign (S.tm rfl)) rfl ?_; clear S; intro a S
         refine lv S (rn_assign (S.tm rfl)) rfl ?_; clear S; intro a S
         refine l_done (then_n (f_seq (f_seq (f_region (lv S (rn_move (S.tm rfl)) rfl ?_))))); clear S; intro a S
         obtain ⟨r6, hr7, h⟩ := bindE h
         refine l_enter S (fun _ => run_call (vs := [sV y2]) ⟨(S.tm rfl), trivial⟩ Tryz.call53) (words_IsKey_ok _ y2 _ hr7) rfl ?_; clear S; intro v4 a w14 hv4 hk10 hn4 S
         subst hv4
         refine lv S (rn_not (S.tm rfl)) rfl ?_; clear S; intro a S
         refine l_done ?_
         replace S := S.nk [.blk b2 [sV y1.Key, sV y1.Club, sV y1.Race, u1.val] 37] [(0, v_p_l), (4, .pointer (some ⟨b2, 0, none⟩)), (5, iV (i2 : Int)), (6, sV y2), (10, v_p_l), (11, iV (p_l.length : Int)), (12, iV (i1 : Int)), (54, u1.val), (55, iV (y1.Who.length : Int)), (56, iV (i2 : Int)), (63, bV (!r6))] [true] rfl (subR rfl)
         refine then_n (f_cond (S.tm rfl) (fun hb8 => ?_) (fun hb8 => ?_))
         ·replace h := iteT h hb8
          refine f_seq (f_region (lv S (rn_assign rfl) rfl ?_)); clear S; intro a S
          refine l_done (then_n (wp_ret (then_r (blk_r (then_r (then_r ?_))))))
          refine blk_r (then_r (blk_r (then_r (then_r (blk_r (then_r ?_))))))
          refine then_r ?_
          obtain rfl := Option.some.inj h
          exact f_ret S Tryz.results20 rfl rfl
         ·replace h := iteF h hb8
          refine wp_skip (then_n (f_seq (f_region (lv S (rn_fld fa_37_3 (S.tm rfl)) rfl ?_)))); clear S; intro a S
          refine lv S (rn_load Tryz.isAgg35 (S.tm rfl) (S.cell (i := 0) rfl rfl)) rfl ?_; clear S; intro a S
          refine lv S (rn_move (S.tm rfl)) rfl ?_; clear S; intro a S
          obtain ⟨hc2, h⟩ := chkE h
          obtain ⟨v5, hs3, hr8⟩ := rn_cutTh (a := a) (x := .tmp 65) (y' := .tmp 66) (ty := 35) sl_35 hs1 (S.tm rfl) (S.tm rfl) hc2
          refine lv S (hr8 _) rfl ?_; clear S; intro a S
          clear hr8
          refine lv S (rn_move (S.tm rfl)) rfl ?_; clear S; intro a S
          refine l_enter S (fun _ => run_call (vs := [v5, sV y2]) ⟨(S.tm rfl), (S.tm rfl), trivial⟩ Tryz.call48) (slices_Contains_string_ok _ v5 (cut y1.Who 0 (i2 : Int)) (hs3.mono (S.le_arg nil_sub)) y2 _ rfl) rfl ?_; clear S; intro v6 a w15 hv5 hk11 hn5 S
          subst hv5
          refine l_done ?_
          replace S := S.nk [.blk b2 [sV y1.Key, sV y1.Club, sV y1.Race, u1.val] 37] [(0, v_p_l), (4, .pointer (some ⟨b2, 0, none⟩)), (10, v_p_l), (11, iV (p_l.length : Int)), (12, iV (i1 : Int)), (54, u1.val), (55, iV (y1.Who.length : Int)), (56, iV (i2 : Int)), (69, bV (slices_Contains_string (cut y1.Who 0 (i2 : Int)) y2))] [true] rfl (subR rfl)
          refine then_n (f_cond (S.tm rfl) (fun hb9 => ?_) (fun hb9 => ?_))
          ·replace h := iteT h hb9
           refine f_seq (f_region (lv S (rn_assign rfl) rfl ?_)); clear S; intro a S
           refine l_done (then_n (wp_ret (blk_r (then_r (then_r (blk_r ?_))))))
           refine then_r (blk_r (then_r (then_r (blk_r (then_r (then_r ?_))))))
           obtain rfl := Option.some.inj h
           exact f_ret S Tryz.results20 rfl rfl
          ·replace h := iteF h hb9
           refine wp_skip (blk_n (then_n (f_region (lv S (rn_add (S.tm rfl) rfl) rfl ?_)))); clear S; intro a S
           refine lv S (rn_move (S.tm rfl)) rfl ?_; clear S; intro a S
           refine l_done (then_n ?_)
           exact ⟨ys2, ⟨i2 + 1, ⟨_, (hd2).trans (List.append_cons _ _ _), by simp [hi2]⟩, h, S.nf [true] rfl ⟨rfl, rfl, rfl, rfl, rfl, rfl, rfl, (congrArg (fun z => some (Value.int .i64 z)) (rng_next hd2 hi2 (slc_max hs1))), trivial⟩⟩, Nat.lt_succ_self _⟩
       clear S h; rintro a w13 ⟨h, S⟩; rw [hj5] at h; clear hj5 j5
       refine blk_n (then_n (f_region (lv S (rn_add (S.tm rfl) rfl) rfl ?_))); clear S; intro a S
       refine lv S (rn_move (S.tm rfl)) rfl ?_; clear S; intro a S
       refine l_done (then_n ?_)
       exact ⟨ys1, ⟨i1 + 1, ⟨_, (hd1).trans (List.append_cons _ _ _), by simp [hi1]⟩, h, S.nf [false] rfl ⟨rfl, rfl, rfl, (congrArg (fun z => some (Value.int .i64 z)) (rng_next hd1 hi1 (slc_maxD hs_p_l hr_p_l))), trivial⟩⟩, Nat.lt_succ_self _⟩
  clear S h; rintro a w2 ⟨h, S⟩; rw [hj1] at h; clear hj1 j1
  refine then_n (f_seq (f_region (lv S (rn_assign rfl) rfl ?_))); clear S; intro a S
  refine l_done (then_n (wp_ret ?_))
  obtain rfl := Option.some.inj h
  exact f_ret S Tryz.results20 rfl rfl
theorem swimmer_raceOf_c1_ok (w : World) (p_x : GRace) (b_p_a1 : Nat) (p_a1 : ByteArray) (hb_b_p_a1 : (view w []) b_p_a1 = some (.cells [sV p_a1].toArray 9 (0, 0))) (r : Bool) (h : swimmer_raceOf_c1 p_x p_a1 = r) :
    Calls Tryz.prog 68 [.agg (GRace.enc p_x).toArray, .pointer (some ⟨b_p_a1, 0, none⟩)].toArray w (Ret w [] fun _ v _ => v = bV r) := by
 refine f_enter [] [] Tryz.func68 rfl Tryz.ntmps68 rfl (by simp) (by simp [fps]) (by simp [fps]) fun a S => ?_
 unfold swimmer_raceOf_c1 at h
 replace S := S.nk [] [(0, .agg (GRace.enc p_x).toArray), (1, .pointer (some ⟨b_p_a1, 0, none⟩))] [] rfl (subR rfl)
 refine f_seq (f_region (l_box S (S.tm rfl) (cs := (GRace.enc p_x)) rfl rfl ?_)); clear S; intro a w1 b1 hz1 hk1 S
 refine lv S (rn_assign rfl) rfl ?_; clear S; intro a S
 refine l_done (then_n (f_seq (f_region (lv S (rn_fld fa_42_0 (S.tm rfl)) rfl ?_)))); clear S; intro a S
 refine lv S (rn_load Tryz.isAgg9 (S.tm rfl) (S.cell (i := 0) rfl rfl)) rfl ?_; clear S; intro a S
 refine lv S (rn_ld Tryz.isAgg9 (off := 0) (o := 0) (S.tm rfl) ((mem_blk hb_b_p_a1).at S.emb0) rfl) rfl ?_; clear S; intro a S
 refine lv S (rn_seql (S.tm rfl) (S.tm rfl)) rfl ?_; clear S; intro a S
 refine lv S (rn_assign (S.tm rfl)) rfl ?_; clear S; intro a S
 refine l_done (then_n (wp_ret ?_))
 subst h
 exact f_ret S Tryz.results68 rfl rfl
theorem slices_IndexFunc_Race_swimmer_raceOf_c1_ok (w : World) (v_p_s : Value) (p_s : List GRace) (hs_p_s : Slc (view w []) 8 v_p_s (p_s.map GRace.enc)) (b_p_f_0 : Nat) (p_f_0 : ByteArray) (hb_b_p_f_0 : (view w []) b_p_f_0 = some (.cells [sV p_f_0].toArray 9 (0, 0))) (r : Int) (h : slices_IndexFunc_Race_swimmer_raceOf_c1 p_s p_f_0 = r) :
    Calls Tryz.prog 67 [v_p_s, .func (.func 68) #[] #[.pointer (some ⟨b_p_f_0, 0, none⟩)]].toArray w (Ret w [] fun _ v _ => v = iV r) := by
 refine f_enter [] [] Tryz.func67 rfl Tryz.ntmps67 rfl (by simp) (by simp [fps]) (by simp [fps]) fun a S => ?_
 unfold slices_IndexFunc_Race_swimmer_raceOf_c1 at h
 replace S := S.nk [] [(0, v_p_s), (1, .func (.func 68) #[] #[.pointer (some ⟨b_p_f_0, 0, none⟩)])] [] rfl (subR rfl)
 refine f_seq (f_region (lv S (rn_assign rfl) rfl ?_)); clear S; intro a S
 refine l_done (then_n (f_seq (f_seq (f_region (lv S (rn_move (S.tm rfl)) rfl ?_))))); clear S; intro a S
 refine lv S (rn_lenT sl_26 (S.tm rfl) (slc_len hs_p_s)) rfl ?_; clear S; intro a S
 refine lv S (rn_move rfl) rfl ?_; clear S; intro a S
 refine l_done (then_n ?_)
 replace S := S.nk [] [(0, v_p_s), (1, .func (.func 68) #[] #[.pointer (some ⟨b_p_f_0, 0, none⟩)]), (7, iV (p_s.length : Int)), (8, iV 0)] [] rfl (subR rfl)
 obtain ⟨j1, hj1, h⟩ := joinE h
 refine f_join (fun a w' => j1 = r ∧ Sx w [] nov [] [] 19 a w') ?_ ?_
 ·refine wp_block (f_loop (fun (ys1 : List GRace) a w' => ∃ i1 : Nat, (∃ dn, p_s = dn ++ ys1 ∧ dn.length = i1) ∧ slices_IndexFunc_Race_swimmer_raceOf_c1_l1 p_f_0 j1 ys1 i1 = r ∧ Sx w [] nov [] [(0, v_p_s), (1, .func (.func 68) #[] #[.pointer (some ⟨b_p_f_0, 0, none⟩)]), (7, iV (p_s.length : Int)), (8, iV (i1 : Int))] 19 a w') List.length p_s ⟨0, ⟨[], rfl, rfl⟩, h, S.nf [] rfl (subR rfl)⟩ ?_)
  clear S h; rintro ys1 a w1 ⟨i1, ⟨dn, hd1, hi1⟩, h, S⟩
  cases ys1 with
  | nil =>
   rw [slices_IndexFunc_Race_swimmer_raceOf_c1_l1.eq_1] at h
   refine f_seq (f_region (lv S (rn_lss (S.tm rfl) (S.tm rfl)) rfl ?_)); clear S; intro a S
   refine l_done ?_
   replace S := S.nk [] [(0, v_p_s), (1, .func (.func 68) #[] #[.pointer (some ⟨b_p_f_0, 0, none⟩)]), (7, iV (p_s.length : Int)), (8, iV (i1 : Int)), (9, bV (decide ((i1 : Int) < (p_s.length : Int))))] [] rfl (subR rfl)
   refine then_n (f_seq (wp_cond_false ((S.tm rfl).trans (congrArg Value.bool (rng_nil hd1 hi1))) (wp_exit (then_x (then_x (x_same ?_))))))
   refine then_n ?_
   exact ⟨h, S.nf [] rfl trivial⟩
  | cons y1 ys1 =>
   rw [slices_IndexFunc_Race_swimmer_raceOf_c1_l1.eq_2] at h
   refine f_seq (f_region (lv S (rn_lss (S.tm rfl) (S.tm rfl)) rfl ?_)); clear S; intro a S
   refine l_done ?_
   replace S := S.nk [] [(0, v_p_s), (1, .func (.func 68) #[] #[.pointer (some ⟨b_p_f_0, 0, none⟩)]), (7, iV (p_s.length : Int)), (8, iV (i1 : Int)), (9, bV (decide ((i1 : Int) < (p_s.length : Int))))] [] rfl (subR rfl)
   refine then_n (f_seq (wp_cond_true ((S.tm rfl).trans (congrArg Value.bool (rng_cons hd1 hi1))) (wp_skip (then_n (f_seq (wp_block ?_))))))
   refine f_seq (f_region (lv S (rn_move (S.tm rfl)) rfl ?_)); clear S; intro a S
   refine lv S (rn_assign (S.tm rfl)) rfl ?_; clear S; intro a S
   refine l_done (then_n (f_seq (f_region (lv S (rn_move (S.tm rfl)) rfl ?_)))); clear S; intro a S
   refine lv S (rn_move (S.tm rfl)) rfl ?_; clear S; intro a S
   refine lv S (rn_move (S.tm rfl)) rfl ?_; clear S; intro a S
   obtain ⟨b1, o1, hm1, hr1⟩ := rn_indexT (a := a) (x := .tmp 12) (y := .tmp 13) (ty := 0) sl_26 hs_p_s (get_mid hd1 hi1) rfl (S.tm rfl) (S.tm rfl)
   refine lv S (hr1 _) rfl ?_; clear S; intro a S
   clear hr1
   refine lv S (rn_ldA Tryz.isAgg42 Tryz.sizeOf42 (off := o1) (o := 0) (part := (GRace.enc y1)) rfl rfl (S.tm rfl) (hm1.at S.emb0)) rfl ?_; clear S; intro a S
   refine l_enter S (fun _ => run_callV (cap := [.pointer (some ⟨b_p_f_0, 0, none⟩)]) (S.tm rfl) (vs := [.agg (GRace.enc y1).toArray]) ⟨(S.tm rfl), trivial⟩ Tryz.call68) (swimmer_raceOf_c1_ok _ y1 b_p_f_0 p_f_0 ((S.le_arg nil_sub) _ _ hb_b_p_f_0) _ rfl) rfl ?_; clear S; intro v1 a w3 hv1 hk1 hn1 S
   subst hv1
   refine l_done (then_n (f_cond (S.tm rfl) (fun hb1 => ?_) (fun hb1 => ?_)))
   ·replace h := iteT h hb1
    refine f_seq (f_region (lv S (rn_move (S.tm rfl)) rfl ?_)); clear S; intro a S
    refine lv S (rn_assign (S.tm rfl)) rfl ?_; clear S; intro a S
    refine l_done ?_
    replace S := S.nk [] [(4, iV (i1 : Int))] [] rfl ⟨rfl, trivial⟩
    refine then_n (wp_ret (blk_r (then_r (then_r (blk_r (then_r ?_))))))
    refine then_r ?_
    subst h
    exact f_ret S Tryz.results67 rfl rfl
   ·replace h := iteF h hb1
    refine wp_skip (blk_n (then_n (f_region (lv S (rn_add (S.tm rfl) rfl) rfl ?_)))); clear S; intro a S
    refine lv S (rn_move (S.tm rfl)) rfl ?_; clear S; intro a S
    refine l_done (then_n ?_)
    exact ⟨ys1, ⟨i1 + 1, ⟨_, (hd1).trans (List.append_cons _ _ _), by simp [hi1]⟩, h, S.nf [] rfl ⟨rfl, rfl, rfl, (congrArg (fun z => some (Value.int .i64 z)) (rng_next hd1 hi1 (slc_max hs_p_s))), trivial⟩⟩, Nat.lt_succ_self _⟩
 clear S h; rintro a w2 ⟨h, S⟩; rw [hj1] at h; clear hj1 j1
 refine then_n (f_seq (f_region (lv S (rn_assign rfl) rfl ?_))); clear S; intro a S
 refine l_done (then_n (wp_ret ?_))
 subst h
 exact f_ret S Tryz.results67 rfl rfl
theorem swimmer_raceOf_ok (w : World) (v_p_r : Value) (p_r : List GRace) (hs_p_r : Slc (view w []) 8 v_p_r (p_r.map GRace.enc)) (p_key : ByteArray) (r : GRace × Bool) (h : swimmer_raceOf p_r p_key = some r) :
    Calls Tryz.prog 38 [v_p_r, sV p_key].toArray w (Ret w [] fun _ v _ => v = .tuple #[.agg (GRace.enc r.1).toArray, bV r.2]) := by
 refine f_enter [] [] Tryz.func38 rfl Tryz.ntmps38 rfl (by simp) (by simp [fps]) (by simp [fps]) fun a S => ?_
 unfold swimmer_raceOf at h
 replace S := S.nk [] [(0, v_p_r), (1, sV p_key)] [] rfl (subR rfl)
 refine f_seq (f_region (l_box S (S.tm rfl) (cs := [sV p_key]) rfl rfl ?_)); clear S; intro a w1 b1 hz1 hk1 S
 refine l_alloc S Tryz.zeroValue42 (cs := [sV k_empty, iV 0, iV 0, iV 0, iV 0, iV 0, iV 0, iV 0]) rfl rfl ?_; clear S; intro a w2 b2 hz2 hk2 S
 refine lv S (rn_assign rfl) rfl ?_; clear S; intro a S
 refine l_done (then_n (f_seq (f_region (lv S (rn_move (S.tm rfl)) rfl ?_)))); clear S; intro a S
 refine lv S (rn_makeFunc (us := #[]) (xs := [].toArray) (ys := [.tmp 3].toArray) (by simp) (evA ⟨(S.tm rfl), trivial⟩ (vs := [.pointer (some ⟨b1, 0, none⟩)]))) rfl ?_; clear S; intro a S
 refine l_enter S (fun _ => run_call (vs := [v_p_r, .func (.func 68) #[] #[.pointer (some ⟨b1, 0, none⟩)]]) ⟨(S.tm rfl), (S.tm rfl), trivial⟩ Tryz.call67) (slices_IndexFunc_Race_swimmer_raceOf_c1_ok _ v_p_r p_r (hs_p_r.mono (S.le_arg nil_sub)) b1 p_key (S.blk_view (i := 1) rfl ((ne_nil (e' := .blk b1 [sV p_key] 9)) _ rfl)) _ rfl) rfl ?_; clear S; intro v1 a w3 hv1 hk3 hn1 S
 subst hv1
 refine lv S (rn_assign (S.tm rfl)) rfl ?_; clear S; intro a S
 refine l_done (then_n (f_seq (f_seq (f_region (lv S (rn_move (S.tm rfl)) rfl ?_))))); clear S; intro a S
 refine lv S (rn_lss (S.tm rfl) rfl) rfl ?_; clear S; intro a S
 refine l_done (then_n (f_cond (S.tm rfl) (fun hb1 => ?_) (fun hb1 => ?_)))
 ·replace h := iteT h hb1
  refine f_seq (f_region (lv S (rn_bld bt_42 (pv := []) trivial (cs := [sV k_empty, iV 0, iV 0, iV 0, iV 0, iV 0, iV 0, iV 0]) (by kernel_rfl)) rfl ?_)); clear S; intro a S
  refine l_store S (S.tm rfl) (S.tm rfl) (i := 0) (off := 0) rfl Tryz.sizeOf42 (vs := (GRace.enc (GRace.mk k_empty 0 0 0 0 0 0 0))) rfl rfl rfl rfl ?_; clear S; intro w4 hk4 S
  refine lv S (rn_assign rfl) rfl ?_; clear S; intro a S
  refine l_done (then_n (wp_ret (then_r ?_)))
  obtain rfl := Option.some.inj h
  exact f_retG S (rs := [.cell 4 42, .tmp 5]) (vs := [.agg (GRace.enc (GRace.mk k_empty 0 0 0 0 0 0 0)).toArray, bV false]) Tryz.results38 ⟨(res_cell (off := 0) S rfl Tryz.isAgg42 Tryz.sizeOf42 rfl (S.cellsAt (i := 0) rfl)), (res_tmp S rfl), trivial⟩ rfl rfl
 ·replace h := iteF h hb1
  refine wp_skip (then_n (f_seq (f_region (lv S (rn_move (S.tm rfl)) rfl ?_)))); clear S; intro a S
  refine lv S (rn_move (S.tm rfl)) rfl ?_; clear S; intro a S
  obtain ⟨hc1, h⟩ := chkE h
  obtain ⟨b3, o1, hm1, hr1⟩ := rn_indexT (a := a) (x := .tmp 13) (y := .tmp 14) (ty := 0) sl_26 hs_p_r (inB_get hc1).1 (inB_get hc1).2 (S.tm rfl) (S.tm rfl)
  refine lv S (hr1 _) rfl ?_; clear S; intro a S
  clear hr1
  refine lv S (rn_ldA Tryz.isAgg42 Tryz.sizeOf42 (off := o1) (o := 0) (part := (GRace.enc (nth p_r (slices_IndexFunc_Race_swimmer_raceOf_c1 p_r p_key)))) rfl rfl (S.tm rfl) (hm1.at S.emb0)) rfl ?_; clear S; intro a S
  refine l_store S (S.tm rfl) (S.tm rfl) (i := 0) (off := 0) rfl Tryz.sizeOf42 (vs := (GRace.enc (nth p_r (slices_IndexFunc_Race_swimmer_raceOf_c1 p_r p_key)))) rfl rfl rfl rfl ?_; clear S; intro w5 hk5 S
  refine lv S (rn_assign rfl) rfl ?_; clear S; intro a S
  refine l_done ?_
  replace S := S.nk [.blk b2 (GRace.enc (nth p_r (slices_IndexFunc_Race_swimmer_raceOf_c1 p_r p_key))) 42] [(4, .pointer (some ⟨b2, 0, none⟩)), (5, bV true)] [true, false] rfl (subR rfl)
  refine then_n (wp_ret ?_)
  obtain rfl := Option.some.inj h
  exact f_retG S (rs := [.cell 4 42, .tmp 5]) (vs := [.agg (GRace.enc (nth p_r (slices_IndexFunc_Race_swimmer_raceOf_c1 p_r p_key))).toArray, bV true]) Tryz.results38 ⟨(res_cell (off := 0) S rfl Tryz.isAgg42 Tryz.sizeOf42 rfl (S.cellsAt (i := 0) rfl)), (res_tmp S rfl), trivial⟩ rfl rfl
theorem swimmer_swimmerOf_c1_ok (w : World) (p_x : GSwimmer) (b_p_a1 : Nat) (p_a1 : ByteArray) (hb_b_p_a1 : (view w []) b_p_a1 = some (.cells [sV p_a1].toArray 9 (0, 0))) (b_p_a2 : Nat) (p_a2 : Int) (hb_b_p_a2 : (view w []) b_p_a2 = some (.cells [iV p_a2].toArray 3 (0, 0))) (r : Bool) (h : swimmer_swimmerOf_c1 p_x p_a1 p_a2 = r) :
    Calls Tryz.prog 70 [.agg (GSwimmer.enc p_x).toArray, .pointer (some ⟨b_p_a1, 0, none⟩), .pointer (some ⟨b_p_a2, 0, none⟩)].toArray w (Ret w [] fun _ v _ => v = bV r) := by
 refine f_enter [] [] Tryz.func70 rfl Tryz.ntmps70 rfl (by simp) (by simp [fps]) (by simp [fps]) fun a S => ?_
 unfold swimmer_swimmerOf_c1 at h
 replace S := S.nk [] [(0, .agg (GSwimmer.enc p_x).toArray), (1, .pointer (some ⟨b_p_a1, 0, none⟩)), (2, .pointer (some ⟨b_p_a2, 0, none⟩))] [] rfl (subR rfl)
 refine f_seq (f_region (l_box S (S.tm rfl) (cs := (GSwimmer.enc p_x)) rfl rfl ?_)); clear S; intro a w1 b1 hz1 hk1 S
 refine lv S (rn_assign rfl) rfl ?_; clear S; intro a S
 refine l_done (then_n (f_seq (f_region (lv S (rn_fld fa_71_0 (S.tm rfl)) rfl ?_)))); clear S; intro a S
 refine lv S (rn_load Tryz.isAgg9 (S.tm rfl) (S.cell (i := 0) rfl rfl)) rfl ?_; clear S; intro a S
 refine lv S (rn_ld Tryz.isAgg9 (off := 0) (o := 0) (S.tm rfl) ((mem_blk hb_b_p_a1).at S.emb0) rfl) rfl ?_; clear S; intro a S
 refine lv S (rn_seql (S.tm rfl) (S.tm rfl)) rfl ?_; clear S; intro a S
 refine lv S (rn_move (S.tm rfl)) rfl ?_; clear S; intro a S
 refine f_cutm 5 (fun a w' => Keep [] w1 w' ∧ Sx w [] nov [.blk b1 (GSwimmer.enc p_x) 71] [(14, bV ((decide (p_x.Key = p_a1)) && (decide (p_x.Born ≤ p_a2))))] 15 a w') ?_ ?_
 ·rcases Bool.eq_false_or_eq_true (decide (p_x.Key = p_a1)) with hb1 | hb1
  ·refine l_want S rfl rfl rfl hb1 (lv S (rn_fld fa_71_2 (S.tm rfl)) rfl ?_); clear S; intro a S
   refine l_want S rfl rfl rfl hb1 (lv S (rn_load Tryz.isAgg3 (S.tm rfl) (S.cell (i := 0) rfl rfl)) rfl ?_); clear S; intro a S
   refine l_want S rfl rfl rfl hb1 (lv S (rn_ld Tryz.isAgg3 (off := 0) (o := 0) (S.tm rfl) ((mem_blk hb_b_p_a2).at S.emb0) rfl) rfl ?_); clear S; intro a S
   refine l_want S rfl rfl rfl hb1 (lv S (rn_leq (S.tm rfl) (S.tm rfl)) rfl ?_); clear S; intro a S
   refine lv S (rn_and_t hb1 (S.tm rfl) (S.tm rfl)) rfl ?_; clear S; intro a S
   refine l_done (then_n ?_)
   exact ⟨Keep.refl _ _, S.nf [true] rfl ⟨rfl, trivial⟩⟩
  ·iterate 4 (refine l_skip S rfl rfl rfl (neq_f hb1) rfl ?_ rfl; clear S; intro a S)
   refine lv S (rn_and_f (decide (p_x.Born ≤ p_a2)) hb1 (S.tm rfl) rfl) rfl ?_; clear S; intro a S
   refine l_done (then_n ?_)
   exact ⟨Keep.refl _ _, S.nf [true] rfl ⟨rfl, trivial⟩⟩
 clear S; rintro a w2 ⟨hk2, S⟩
 refine lv S (rn_assign (S.tm rfl)) rfl ?_; clear S; intro a S
 refine l_done (then_n (wp_ret ?_))
 subst h
 exact f_ret S Tryz.results70 rfl rfl
theorem slices_IndexFunc_Swimmer_swimmer_swimmerOf_c1_ok (w : World) (v_p_s : Value) (p_s : List GSwimmer) (hs_p_s : Slc (view w []) 3 v_p_s (p_s.map GSwimmer.enc)) (b_p_f_0 : Nat) (p_f_0 : ByteArray) (hb_b_p_f_0 : (view w []) b_p_f_0 = some (.cells [sV p_f_0].toArray 9 (0, 0))) (b_p_f_1 : Nat) (p_f_1 : Int) (hb_b_p_f_1 : (view w []) b_p_f_1 = some (.cells [iV p_f_1].toArray 3 (0, 0))) (r : Int) (h : slices_IndexFunc_Swimmer_swimmer_swimmerOf_c1 p_s p_f_0 p_f_1 = r) :
    Calls Tryz.prog 69 [v_p_s, .func (.func 70) #[] #[.pointer (some ⟨b_p_f_0, 0, none⟩), .pointer (some ⟨b_p_f_1, 0, none⟩)]].toArray w (Ret w [] fun _ v _ => v = iV r) := by
 refine f_enter [] [] Tryz.func69 rfl Tryz.ntmps69 rfl (by simp) (by simp [fps]) (by simp [fps]) fun a S => ?_
 unfold slices_IndexFunc_Swimmer_swimmer_swimmerOf_c1 at h
 replace S := S.nk [] [(0, v_p_s), (1, .func (.func 70) #[] #[.pointer (some ⟨b_p_f_0, 0, none⟩), .pointer (some ⟨b_p_f_1, 0, none⟩)])] [] rfl (subR rfl)
 refine f_seq (f_region (lv S (rn_assign rfl) rfl ?_)); clear S; intro a S
 refine l_done (then_n (f_seq (f_seq (f_region (lv S (rn_move (S.tm rfl)) rfl ?_))))); clear S; intro a S
 refine lv S (rn_lenT sl_28 (S.tm rfl) (slc_len hs_p_s)) rfl ?_; clear S; intro a S
 refine lv S (rn_move rfl) rfl ?_; clear S; intro a S
 refine l_done (then_n ?_)
 replace S := S.nk [] [(0, v_p_s), (1, .func (.func 70) #[] #[.pointer (some ⟨b_p_f_0, 0, none⟩), .pointer (some ⟨b_p_f_1, 0, none⟩)]), (7, iV (p_s.length : Int)), (8, iV 0)] [] rfl (subR rfl)
 obtain ⟨j1, hj1, h⟩ := joinE h
 refine f_join (fun a w' => j1 = r ∧ Sx w [] nov [] [] 19 a w') ?_ ?_
 ·refine wp_block (f_loop (fun (ys1 : List GSwimmer) a w' => ∃ i1 : Nat, (∃ dn, p_s = dn ++ ys1 ∧ dn.length = i1) ∧ slices_IndexFunc_Swimmer_swimmer_swimmerOf_c1_l1 p_f_0 p_f_1 j1 ys1 i1 = r ∧ Sx w [] nov [] [(0, v_p_s), (1, .func (.func 70) #[] #[.pointer (some ⟨b_p_f_0, 0, none⟩), .pointer (some ⟨b_p_f_1, 0, none⟩)]), (7, iV (p_s.length : Int)), (8, iV (i1 : Int))] 19 a w') List.length p_s ⟨0, ⟨[], rfl, rfl⟩, h, S.nf [] rfl (subR rfl)⟩ ?_)
  clear S h; rintro ys1 a w1 ⟨i1, ⟨dn, hd1, hi1⟩, h, S⟩
  cases ys1 with
  | nil =>
   rw [slices_IndexFunc_Swimmer_swimmer_swimmerOf_c1_l1.eq_1] at h
   refine f_seq (f_region (lv S (rn_lss (S.tm rfl) (S.tm rfl)) rfl ?_)); clear S; intro a S
   refine l_done ?_
   replace S := S.nk [] [(0, v_p_s), (1, .func (.func 70) #[] #[.pointer (some ⟨b_p_f_0, 0, none⟩), .pointer (some ⟨b_p_f_1, 0, none⟩)]), (7, iV (p_s.length : Int)), (8, iV (i1 : Int)), (9, bV (decide ((i1 : Int) < (p_s.length : Int))))] [] rfl (subR rfl)
   refine then_n (f_seq (wp_cond_false ((S.tm rfl).trans (congrArg Value.bool (rng_nil hd1 hi1))) (wp_exit (then_x (then_x (x_same ?_))))))
   refine then_n ?_
   exact ⟨h, S.nf [] rfl trivial⟩
  | cons y1 ys1 =>
   rw [slices_IndexFunc_Swimmer_swimmer_swimmerOf_c1_l1.eq_2] at h
   refine f_seq (f_region (lv S (rn_lss (S.tm rfl) (S.tm rfl)) rfl ?_)); clear S; intro a S
   refine l_done ?_
   replace S := S.nk [] [(0, v_p_s), (1, .func (.func 70) #[] #[.pointer (some ⟨b_p_f_0, 0, none⟩), .pointer (some ⟨b_p_f_1, 0, none⟩)]), (7, iV (p_s.length : Int)), (8, iV (i1 : Int)), (9, bV (decide ((i1 : Int) < (p_s.length : Int))))] [] rfl (subR rfl)
   refine then_n (f_seq (wp_cond_true ((S.tm rfl).trans (congrArg Value.bool (rng_cons hd1 hi1))) (wp_skip (then_n (f_seq (wp_block ?_))))))
   refine f_seq (f_region (lv S (rn_move (S.tm rfl)) rfl ?_)); clear S; intro a S
   refine lv S (rn_assign (S.tm rfl)) rfl ?_; clear S; intro a S
   refine l_done (then_n (f_seq (f_region (lv S (rn_move (S.tm rfl)) rfl ?_)))); clear S; intro a S
   refine lv S (rn_move (S.tm rfl)) rfl ?_; clear S; intro a S
   refine lv S (rn_move (S.tm rfl)) rfl ?_; clear S; intro a S
   obtain ⟨b1, o1, hm1, hr1⟩ := rn_indexT (a := a) (x := .tmp 12) (y := .tmp 13) (ty := 0) sl_28 hs_p_s (get_mid hd1 hi1) rfl (S.tm rfl) (S.tm rfl)
   refine lv S (hr1 _) rfl ?_; clear S; intro a S
   clear hr1
   refine lv S (rn_ldA Tryz.isAgg71 Tryz.sizeOf71 (off := o1) (o := 0) (part := (GSwimmer.enc y1)) rfl rfl (S.tm rfl) (hm1.at S.emb0)) rfl ?_; clear S; intro a S
   refine l_enter S (fun _ => run_callV (cap := [.pointer (some ⟨b_p_f_0, 0, none⟩), .pointer (some ⟨b_p_f_1, 0, none⟩)]) (S.tm rfl) (vs := [.agg (GSwimmer.enc y1).toArray]) ⟨(S.tm rfl), trivial⟩ Tryz.call70) (swimmer_swimmerOf_c1_ok _ y1 b_p_f_0 p_f_0 ((S.le_arg nil_sub) _ _ hb_b_p_f_0) b_p_f_1 p_f_1 ((S.le_arg nil_sub) _ _ hb_b_p_f_1) _ rfl) rfl ?_; clear S; intro v1 a w3 hv1 hk1 hn1 S
   subst hv1
   refine l_done (then_n (f_cond (S.tm rfl) (fun hb1 => ?_) (fun hb1 => ?_)))
   ·replace h := iteT h hb1
    refine f_seq (f_region (lv S (rn_move (S.tm rfl)) rfl ?_)); clear S; intro a S
    refine lv S (rn_assign (S.tm rfl)) rfl ?_; clear S; intro a S
    refine l_done ?_
    replace S := S.nk [] [(4, iV (i1 : Int))] [] rfl ⟨rfl, trivial⟩
    refine then_n (wp_ret (blk_r (then_r (then_r (blk_r (then_r ?_))))))
    refine then_r ?_
    subst h
    exact f_ret S Tryz.results69 rfl rfl
   ·replace h := iteF h hb1
    refine wp_skip (blk_n (then_n (f_region (lv S (rn_add (S.tm rfl) rfl) rfl ?_)))); clear S; intro a S
    refine lv S (rn_move (S.tm rfl)) rfl ?_; clear S; intro a S
    refine l_done (then_n ?_)
    exact ⟨ys1, ⟨i1 + 1, ⟨_, (hd1).trans (List.append_cons _ _ _), by simp [hi1]⟩, h, S.nf [] rfl ⟨rfl, rfl, rfl, (congrArg (fun z => some (Value.int .i64 z)) (rng_next hd1 hi1 (slc_max hs_p_s))), trivial⟩⟩, Nat.lt_succ_self _⟩
 clear S h; rintro a w2 ⟨h, S⟩; rw [hj1] at h; clear hj1 j1
 refine then_n (f_seq (f_region (lv S (rn_assign rfl) rfl ?_))); clear S; intro a S
 refine l_done (then_n (wp_ret ?_))
 subst h
 exact f_ret S Tryz.results69 rfl rfl
theorem swimmer_swimmerOf_ok (w : World) (v_p_s : Value) (p_s : List GSwimmer) (hs_p_s : Slc (view w []) 3 v_p_s (p_s.map GSwimmer.enc)) (p_key : ByteArray) (p_day : Int) (r : GSwimmer × Bool) (h : swimmer_swimmerOf p_s p_key p_day = some r) :
    Calls Tryz.prog 39 [v_p_s, sV p_key, iV p_day].toArray w (Ret w [] fun _ v _ => v = .tuple #[.agg (GSwimmer.enc r.1).toArray, bV r.2]) := by
 refine f_enter [] [] Tryz.func39 rfl Tryz.ntmps39 rfl (by simp) (by simp [fps]) (by simp [fps]) fun a S => ?_
 unfold swimmer_swimmerOf at h
 replace S := S.nk [] [(0, v_p_s), (1, sV p_key), (2, iV p_day)] [] rfl (subR rfl)
 refine f_seq (f_region (l_box S (S.tm rfl) (cs := [sV p_key]) rfl rfl ?_)); clear S; intro a w1 b1 hz1 hk1 S
 refine l_box S (S.tm rfl) (cs := [iV p_day]) rfl rfl ?_; clear S; intro a w2 b2 hz2 hk2 S
 refine l_alloc S Tryz.zeroValue71 (cs := [sV k_empty, iV 0, iV 0]) rfl rfl ?_; clear S; intro a w3 b3 hz3 hk3 S
 refine lv S (rn_assign rfl) rfl ?_; clear S; intro a S
 refine l_done (then_n (f_seq (f_region (lv S (rn_move (S.tm rfl)) rfl ?_)))); clear S; intro a S
 refine lv S (rn_makeFunc (us := #[]) (xs := [].toArray) (ys := [.tmp 4, .tmp 5].toArray) (by simp) (evA ⟨(S.tm rfl), (S.tm rfl), trivial⟩ (vs := [.pointer (some ⟨b1, 0, none⟩), .pointer (some ⟨b2, 0, none⟩)]))) rfl ?_; clear S; intro a S
 refine l_enter S (fun _ => run_call (vs := [v_p_s, .func (.func 70) #[] #[.pointer (some ⟨b1, 0, none⟩), .pointer (some ⟨b2, 0, none⟩)]]) ⟨(S.tm rfl), (S.tm rfl), trivial⟩ Tryz.call69) (slices_IndexFunc_Swimmer_swimmer_swimmerOf_c1_ok _ v_p_s p_s (hs_p_s.mono (S.le_arg nil_sub)) b1 p_key (S.blk_view (i := 2) rfl ((ne_nil (e' := .blk b1 [sV p_key] 9)) _ rfl)) b2 p_day (S.blk_view (i := 1) rfl ((ne_nil (e' := .blk b2 [iV p_day] 3)) _ rfl)) _ rfl) rfl ?_; clear S; intro v1 a w4 hv1 hk4 hn1 S
 subst hv1
 refine lv S (rn_assign (S.tm rfl)) rfl ?_; clear S; intro a S
 refine l_done (then_n (f_seq (f_seq (f_region (lv S (rn_move (S.tm rfl)) rfl ?_))))); clear S; intro a S
 refine lv S (rn_lss (S.tm rfl) rfl) rfl ?_; clear S; intro a S
 refine l_done (then_n (f_cond (S.tm rfl) (fun hb1 => ?_) (fun hb1 => ?_)))
 ·replace h := iteT h hb1
  refine f_seq (f_region (lv S (rn_bld bt_71 (pv := []) trivial (cs := [sV k_empty, iV 0, iV 0]) (by kernel_rfl)) rfl ?_)); clear S; intro a S
  refine l_store S (S.tm rfl) (S.tm rfl) (i := 0) (off := 0) rfl Tryz.sizeOf71 (vs := [sV k_empty, iV 0, iV 0]) rfl rfl rfl rfl ?_; clear S; intro w5 hk5 S
  refine lv S (rn_assign rfl) rfl ?_; clear S; intro a S
  refine l_done (then_n (wp_ret (then_r ?_)))
  obtain rfl := Option.some.inj h
  exact f_retG S (rs := [.cell 6 71, .tmp 7]) (vs := [.agg #[sV k_empty, iV 0, iV 0], bV false]) Tryz.results39 ⟨(res_cell (off := 0) S rfl Tryz.isAgg71 Tryz.sizeOf71 rfl (S.cellsAt (i := 0) rfl)), (res_tmp S rfl), trivial⟩ rfl rfl
 ·replace h := iteF h hb1
  refine wp_skip (then_n (f_seq (f_region (lv S (rn_move (S.tm rfl)) rfl ?_)))); clear S; intro a S
  refine lv S (rn_move (S.tm rfl)) rfl ?_; clear S; intro a S
  obtain ⟨hc1, h⟩ := chkE h
  obtain ⟨b4, o1, hm1, hr1⟩ := rn_indexT (a := a) (x := .tmp 15) (y := .tmp 16) (ty := 0) sl_28 hs_p_s (inB_get hc1).1 (inB_get hc1).2 (S.tm rfl) (S.tm rfl)
  refine lv S (hr1 _) rfl ?_; clear S; intro a S
  clear hr1
  refine lv S (rn_ldA Tryz.isAgg71 Tryz.sizeOf71 (off := o1) (o := 0) (part := (GSwimmer.enc (nth p_s (slices_IndexFunc_Swimmer_swimmer_swimmerOf_c1 p_s p_key p_day)))) rfl rfl (S.tm rfl) (hm1.at S.emb0)) rfl ?_; clear S; intro a S
  refine l_store S (S.tm rfl) (S.tm rfl) (i := 0) (off := 0) rfl Tryz.sizeOf71 (vs := (GSwimmer.enc (nth p_s (slices_IndexFunc_Swimmer_swimmer_swimmerOf_c1 p_s p_key p_day)))) rfl rfl rfl rfl ?_; clear S; intro w6 hk6 S
  refine lv S (rn_assign rfl) rfl ?_; clear S; intro a S
  refine l_done ?_
  replace S := S.nk [.blk b3 (GSwimmer.enc (nth p_s (slices_IndexFunc_Swimmer_swimmer_swimmerOf_c1 p_s p_key p_day))) 71] [(6, .pointer (some ⟨b3, 0, none⟩)), (7, bV true)] [true, false, false] rfl (subR rfl)
  refine then_n (wp_ret ?_)
  obtain rfl := Option.some.inj h
  exact f_retG S (rs := [.cell 6 71, .tmp 7]) (vs := [.agg (GSwimmer.enc (nth p_s (slices_IndexFunc_Swimmer_swimmer_swimmerOf_c1 p_s p_key p_day))).toArray, bV true]) Tryz.results39 ⟨(res_cell (off := 0) S rfl Tryz.isAgg71 Tryz.sizeOf71 rfl (S.cellsAt (i := 0) rfl)), (res_tmp S rfl), trivial⟩ rfl rfl
theorem swimmer_clubAt_ok (w : World) (v_p_l : Value) (p_l : List GMove) (hs_p_l : Slc (view w []) 3 v_p_l (p_l.map GMove.enc)) (p_who : ByteArray) (p_day : Int) (r : ByteArray) (h : swimmer_clubAt p_l p_who p_day = r) :
    Calls Tryz.prog 40 [v_p_l, sV p_who, iV p_day].toArray w (Ret w [] fun _ v _ => v = sV r) := by
 refine f_enter [] [] Tryz.func40 rfl Tryz.ntmps40 rfl (by simp) (by simp [fps]) (by simp [fps]) fun a S => ?_
 unfold swimmer_clubAt at h
 replace S := S.nk [] [(0, v_p_l), (1, sV p_who), (2, iV p_day)] [] rfl (subR rfl)
 refine f_seq (f_region (lv S (rn_assign rfl) rfl ?_)); clear S; intro a S
 refine l_done (then_n (f_seq (f_region (lv S (rn_assign rfl) rfl ?_)))); clear S; intro a S
 refine l_done (then_n (f_seq (f_seq (f_region (lv S (rn_move (S.tm rfl)) rfl ?_))))); clear S; intro a S
 refine lv S (rn_lenT sl_30 (S.tm rfl) (slc_len hs_p_l)) rfl ?_; clear S; intro a S
 refine lv S (rn_move rfl) rfl ?_; clear S; intro a S
 refine l_done (then_n ?_)
 replace S := S.nk [] [(1, sV p_who), (2, iV p_day), (7, sV k_empty), (10, v_p_l), (11, iV (p_l.length : Int)), (12, iV 0)] [] rfl (subR rfl)
 obtain ⟨j1, hj1, h⟩ := joinE h
 refine f_join (fun a w' => ∃ x1 : ByteArray, j1 x1 = r ∧ Sx w [] nov [] [(7, sV x1)] 30 a w') ?_ ?_
 ·refine wp_block (f_loop (fun (ys1 : List GMove) a w' => ∃ i1 : Nat, ∃ x1 : ByteArray, (∃ dn, p_l = dn ++ ys1 ∧ dn.length = i1) ∧ swimmer_clubAt_l1 p_who p_day j1 ys1 i1 x1 = r ∧ Sx w [] nov [] [(1, sV p_who), (2, iV p_day), (7, sV x1), (10, v_p_l), (11, iV (p_l.length : Int)), (12, iV (i1 : Int))] 30 a w') List.length p_l ⟨0, k_empty, ⟨[], rfl, rfl⟩, h, S.nf [] rfl (subR rfl)⟩ ?_)
  clear S h; rintro ys1 a w1 ⟨i1, x1, ⟨dn, hd1, hi1⟩, h, S⟩
  cases ys1 with
  | nil =>
   rw [swimmer_clubAt_l1.eq_1] at h
   refine f_seq (f_region (lv S (rn_lss (S.tm rfl) (S.tm rfl)) rfl ?_)); clear S; intro a S
   refine l_done ?_
   replace S := S.nk [] [(1, sV p_who), (2, iV p_day), (7, sV x1), (10, v_p_l), (11, iV (p_l.length : Int)), (12, iV (i1 : Int)), (13, bV (decide ((i1 : Int) < (p_l.length : Int))))] [] rfl (subR rfl)
   refine then_n (f_seq (wp_cond_false ((S.tm rfl).trans (congrArg Value.bool (rng_nil hd1 hi1))) (wp_exit (then_x (then_x (x_same ?_))))))
   refine then_n ?_
   exact ⟨x1, h, S.nf [] rfl ⟨rfl, trivial⟩⟩
  | cons y1 ys1 =>
   rw [swimmer_clubAt_l1.eq_2] at h
   refine f_seq (f_region (lv S (rn_lss (S.tm rfl) (S.tm rfl)) rfl ?_)); clear S; intro a S
   refine l_done ?_
   replace S := S.nk [] [(1, sV p_who), (2, iV p_day), (7, sV x1), (10, v_p_l), (11, iV (p_l.length : Int)), (12, iV (i1 : Int)), (13, bV (decide ((i1 : Int) < (p_l.length : Int))))] [] rfl (subR rfl)
   refine then_n (f_seq (wp_cond_true ((S.tm rfl).trans (congrArg Value.bool (rng_cons hd1 hi1))) (wp_skip (then_n (f_seq ?_)))))
   obtain ⟨j2, hj2, h⟩ := joinE h
   refine f_join (fun a w' => ∃ x2 : ByteArray, j2 x2 = r ∧ Sx w [] nov [] [(1, sV p_who), (2, iV p_day), (7, sV x2), (10, v_p_l), (11, iV (p_l.length : Int)), (12, iV (i1 : Int))] 30 a w') ?_ ?_
   ·refine wp_block (f_seq (f_region ?_))
    obtain ⟨b1, o1, hm1, hr1⟩ := rn_indexT (a := a) (x := .tmp 10) (y := .tmp 12) (ty := 0) sl_30 hs_p_l (get_mid hd1 hi1) rfl (S.tm rfl) (S.tm rfl)
    refine lv S (hr1 _) rfl ?_; clear S; intro a S
    clear hr1
    refine lv S (rn_ldA Tryz.isAgg74 Tryz.sizeOf74 (off := o1) (o := 0) (part := (GMove.enc y1)) rfl rfl (S.tm rfl) (hm1.at S.emb0)) rfl ?_; clear S; intro a S
    refine l_alloc S Tryz.zeroValue74 (cs := [sV k_empty, sV k_empty, iV 0]) rfl rfl ?_; clear S; intro a w4 b2 hz1 hk1 S
    refine l_store S (S.tm rfl) (S.tm rfl) (i := 0) (off := 0) rfl Tryz.sizeOf74 (vs := (GMove.enc y1)) rfl rfl rfl rfl ?_; clear S; intro w5 hk2 S
    refine l_done (then_n (f_seq (f_region (lv S (rn_fld fa_74_0 (S.tm rfl)) rfl ?_)))); clear S; intro a S
    refine lv S (rn_load Tryz.isAgg9 (S.tm rfl) (S.cell (i := 0) rfl rfl)) rfl ?_; clear S; intro a S
    refine lv S (rn_move (S.tm rfl)) rfl ?_; clear S; intro a S
    refine lv S (rn_seql (S.tm rfl) (S.tm rfl)) rfl ?_; clear S; intro a S
    refine lv S (rn_move (S.tm rfl)) rfl ?_; clear S; intro a S
    refine f_cutm 5 (fun a w' => Keep [] w5 w' ∧ Sx w [] nov [.blk b2 (GMove.enc y1) 74] [(1, sV p_who), (2, iV p_day), (7, sV x1), (9, .pointer (some ⟨b2, 0, none⟩)), (10, v_p_l), (11, iV (p_l.length : Int)), (12, iV (i1 : Int)), (25, bV ((decide (y1.Who = p_who)) && (decide (y1.Day ≤ p_day))))] 30 a w') ?_ ?_
    ·rcases Bool.eq_false_or_eq_true (decide (y1.Who = p_who)) with hb1 | hb1
     ·refine l_want S rfl rfl rfl hb1 (lv S (rn_fld fa_74_2 (S.tm rfl)) rfl ?_); clear S; intro a S
      refine l_want S rfl rfl rfl hb1 (lv S (rn_load Tryz.isAgg3 (S.tm rfl) (S.cell (i := 0) rfl rfl)) rfl ?_); clear S; intro a S
      refine l_want S rfl rfl rfl hb1 (lv S (rn_move (S.tm rfl)) rfl ?_); clear S; intro a S
      refine l_want S rfl rfl rfl hb1 (lv S (rn_leq (S.tm rfl) (S.tm rfl)) rfl ?_); clear S; intro a S
      refine lv S (rn_and_t hb1 (S.tm rfl) (S.tm rfl)) rfl ?_; clear S; intro a S
      refine l_done (then_n ?_)
      exact ⟨Keep.refl _ _, S.nf [true] rfl (subR rfl)⟩
     ·iterate 4 (refine l_skip S rfl rfl rfl (neq_f hb1) rfl ?_ rfl; clear S; intro a S)
      refine lv S (rn_and_f (decide (y1.Day ≤ p_day)) hb1 (S.tm rfl) rfl) rfl ?_; clear S; intro a S
      refine l_done (then_n ?_)
      exact ⟨Keep.refl _ _, S.nf [true] rfl (subR rfl)⟩
    clear S; rintro a w6 ⟨hk3, S⟩
    refine l_done (then_n ?_)
    obtain ⟨j3, hj3, h⟩ := joinE h
    refine f_join (fun a w' => ∃ x3 : ByteArray, j3 x3 = r ∧ Sx w [] nov [.blk b2 (GMove.enc y1) 74] [(1, sV p_who), (2, iV p_day), (7, sV x3), (10, v_p_l), (11, iV (p_l.length : Int)), (12, iV (i1 : Int))] 30 a w') ?_ ?_
    ·refine f_cond (S.tm rfl) (fun hb2 => ?_) (fun hb2 => ?_)
     ·replace h := iteT h hb2
      refine f_region (lv S (rn_fld fa_74_1 (S.tm rfl)) rfl ?_); clear S; intro a S
      refine lv S (rn_load Tryz.isAgg9 (S.tm rfl) (S.cell (i := 0) rfl rfl)) rfl ?_; clear S; intro a S
      refine lv S (rn_assign (S.tm rfl)) rfl ?_; clear S; intro a S
      refine l_done (then_n ?_)
      exact ⟨y1.Club, h, S.nf [true] rfl (subR rfl)⟩
     ·replace h := iteF h hb2
      refine wp_skip (then_n ?_)
      exact ⟨x1, h, S.nf [true] rfl (subR rfl)⟩
    clear S h; rintro a w7 ⟨x3, h, S⟩; rw [hj3] at h; clear hj3 j3
    refine blk_n (then_n ?_)
    exact ⟨x3, h, S.nf [false] rfl (subR rfl)⟩
   clear S h; rintro a w3 ⟨x2, h, S⟩; rw [hj2] at h; clear hj2 j2
   refine then_n (f_region (lv S (rn_add (S.tm rfl) rfl) rfl ?_)); clear S; intro a S
   refine lv S (rn_move (S.tm rfl)) rfl ?_; clear S; intro a S
   refine l_done (then_n ?_)
   exact ⟨ys1, ⟨i1 + 1, x2, ⟨_, (hd1).trans (List.append_cons _ _ _), by simp [hi1]⟩, h, S.nf [] rfl ⟨rfl, rfl, rfl, rfl, rfl, (congrArg (fun z => some (Value.int .i64 z)) (rng_next hd1 hi1 (slc_max hs_p_l))), trivial⟩⟩, Nat.lt_succ_self _⟩
 clear S h; rintro a w2 ⟨x1, h, S⟩; rw [hj1] at h; clear hj1 j1
 refine then_n (f_seq (f_region (lv S (rn_move (S.tm rfl)) rfl ?_))); clear S; intro a S
 refine lv S (rn_assign (S.tm rfl)) rfl ?_; clear S; intro a S
 refine l_done (then_n (wp_ret ?_))
 subst h
 exact f_ret S Tryz.results40 rfl rfl
theorem swimmer_leap_ok (w : World) (p_year : Int) (r : Bool) (h : swimmer_leap p_year = r) :
    Calls Tryz.prog 107 [iV p_year].toArray w (Ret w [] fun _ v _ => v = bV r) := by
 refine f_enter [] [] Tryz.func107 rfl Tryz.ntmps107 rfl (by simp) (by simp [fps]) (by simp [fps]) fun a S => ?_
 unfold swimmer_leap at h
 replace S := S.nk [] [(0, iV p_year)] [] rfl ⟨rfl, trivial⟩
 refine f_seq (f_region (lv S (rn_assign rfl) rfl ?_)); clear S; intro a S
 refine l_done (then_n (f_seq (f_region (lv S (rn_move (S.tm rfl)) rfl ?_)))); clear S; intro a S
 refine lv S (rn_rem (S.tm rfl) rfl (by decide)) rfl ?_; clear S; intro a S
 refine lv S (rn_eql (S.tm rfl) rfl) rfl ?_; clear S; intro a S
 refine lv S (rn_move (S.tm rfl)) rfl ?_; clear S; intro a S
 refine f_cutm 9 (fun a w' => Keep [] w w' ∧ Sx w [] nov [] [(15, bV ((decide ((Int.tmod p_year 4) = 0)) && ((!decide ((Int.tmod p_year 100) = 0)) || (decide ((Int.tmod p_year 400) = 0)))))] 16 a w') ?_ ?_
 ·rcases Bool.eq_false_or_eq_true (decide ((Int.tmod p_year 4) = 0)) with hb1 | hb1
  ·refine l_want S rfl rfl rfl hb1 (lv S (rn_move (S.tm rfl)) rfl ?_); clear S; intro a S
   refine l_want S rfl rfl rfl hb1 (lv S (rn_rem (S.tm rfl) rfl (by decide)) rfl ?_); clear S; intro a S
   refine l_want S rfl rfl rfl hb1 (lv S (rn_neq (S.tm rfl) rfl) rfl ?_); clear S; intro a S
   refine l_want S rfl rfl rfl hb1 (lv S (rn_move (S.tm rfl)) rfl ?_); clear S; intro a S
   refine f_cutm 4 (fun a w' => Keep [] w w' ∧ Sx w [] nov [] [(6, bV (decide ((Int.tmod p_year 4) = 0))), (14, bV ((!decide ((Int.tmod p_year 100) = 0)) || (decide ((Int.tmod p_year 400) = 0))))] 16 a w') ?_ ?_
   ·rcases Bool.eq_false_or_eq_true (!decide ((Int.tmod p_year 100) = 0)) with hb2 | hb2
    ·iterate 3 (refine l_skip S rfl rfl rfl (neq_t hb2) rfl ?_ rfl; clear S; intro a S)
     refine l_want S rfl rfl rfl hb1 (lv S (rn_or_t (decide ((Int.tmod p_year 400) = 0)) hb2 (S.tm rfl) rfl) rfl ?_); clear S; intro a S
     refine l_done (then_n ?_)
     exact ⟨Keep.refl _ _, S.nf [] rfl (subR rfl)⟩
    ·refine l_want S rfl rfl rfl hb2 (lv S (rn_move (S.tm rfl)) rfl ?_); clear S; intro a S
     refine l_want S rfl rfl rfl hb2 (lv S (rn_rem (S.tm rfl) rfl (by decide)) rfl ?_); clear S; intro a S
     refine l_want S rfl rfl rfl hb2 (lv S (rn_eql (S.tm rfl) rfl) rfl ?_); clear S; intro a S
     refine l_want S rfl rfl rfl hb1 (lv S (rn_or_f hb2 (S.tm rfl) (S.tm rfl)) rfl ?_); clear S; intro a S
     refine l_done (then_n ?_)
     exact ⟨Keep.refl _ _, S.nf [] rfl (subR rfl)⟩
   clear S; rintro a w2 ⟨hk1, S⟩
   refine lv S (rn_and_t hb1 (S.tm rfl) (S.tm rfl)) rfl ?_; clear S; intro a S
   refine l_done (then_n ?_)
   exact ⟨hk1, S.nf [] rfl ⟨rfl, trivial⟩⟩
  ·iterate 4 (refine l_skip S rfl rfl rfl (neq_f hb1) rfl ?_ rfl; clear S; intro a S)
   iterate 3 (refine l_skipU S rfl rfl rfl rfl ?_; clear S; intro a S)
   refine l_skip S rfl rfl rfl (neq_f hb1) rfl ?_ rfl; clear S; intro a S
   refine lv S (rn_and_f ((!decide ((Int.tmod p_year 100) = 0)) || (decide ((Int.tmod p_year 400) = 0))) hb1 (S.tm rfl) rfl) rfl ?_; clear S; intro a S
   refine l_done (then_n ?_)
   exact ⟨Keep.refl _ _, S.nf [] rfl ⟨rfl, trivial⟩⟩
 clear S; rintro a w1 ⟨hk2, S⟩
 refine lv S (rn_assign (S.tm rfl)) rfl ?_; clear S; intro a S
 refine l_done (then_n (wp_ret ?_))
 subst h
 exact f_ret S Tryz.results107 rfl rfl
theorem swimmer_yearLong_ok (w : World) (p_year : Int) (r : Int) (h : swimmer_yearLong p_year = r) :
    Calls Tryz.prog 87 [iV p_year].toArray w (Ret w [] fun _ v _ => v = iV r) := by
 refine f_enter [] [] Tryz.func87 rfl Tryz.ntmps87 rfl (by simp) (by simp [fps]) (by simp [fps]) fun a S => ?_
 unfold swimmer_yearLong at h
 replace S := S.nk [] [(0, iV p_year)] [] rfl ⟨rfl, trivial⟩
 refine f_seq (f_region (lv S (rn_assign rfl) rfl ?_)); clear S; intro a S
 refine l_done (then_n (f_seq (f_seq (f_region (lv S (rn_move (S.tm rfl)) rfl ?_))))); clear S; intro a S
 refine l_enter S (fun _ => run_call (vs := [iV p_year]) ⟨(S.tm rfl), trivial⟩ Tryz.call107) (swimmer_leap_ok _ p_year _ rfl) rfl ?_; clear S; intro v1 a w1 hv1 hk1 hn1 S
 subst hv1
 refine l_done (then_n (f_cond (S.tm rfl) (fun hb1 => ?_) (fun hb1 => ?_)))
 ·replace h := iteT h hb1
  refine f_seq (f_region (lv S (rn_assign rfl) rfl ?_)); clear S; intro a S
  refine l_done (then_n (wp_ret (then_r ?_)))
  subst h
  exact f_ret S Tryz.results87 rfl rfl
 ·replace h := iteF h hb1
  refine wp_skip (then_n (f_seq (f_region (lv S (rn_assign rfl) rfl ?_)))); clear S; intro a S
  refine l_done (then_n (wp_ret ?_))
  subst h
  exact f_ret S Tryz.results87 rfl rfl
theorem swimmer_long_ok (w : World) (p_year : Int) (p_month : Int) (r : Int) (h : swimmer_long p_year p_month = r) :
    Calls Tryz.prog 86 [iV p_year, iV p_month].toArray w (Ret w [] fun _ v _ => v = iV r) := by
 refine f_enter [] [] Tryz.func86 rfl Tryz.ntmps86 rfl (by simp) (by simp [fps]) (by simp [fps]) fun a S => ?_
 unfold swimmer_long at h
 replace S := S.nk [] [(0, iV p_year), (1, iV p_month)] [] rfl (subR rfl)
 refine f_seq (f_region (lv S (rn_assign rfl) rfl ?_)); clear S; intro a S
 refine l_done (then_n (f_seq (f_seq (f_region (lv S (rn_move (S.tm rfl)) rfl ?_))))); clear S; intro a S
 refine l_done (then_n (wp_block (f_seq (f_region (lv S (rn_eql (S.tm rfl) rfl) rfl ?_))))); clear S; intro a S
 refine lv S (rn_assign (S.tm rfl)) rfl ?_; clear S; intro a S
 refine l_done (then_n (f_cond (S.tm rfl) (fun hb1 => ?_) (fun hb1 => ?_)))
 ·replace h := iteT h hb1
  refine f_seq (f_seq (f_region (lv S (rn_move (S.tm rfl)) rfl ?_))); clear S; intro a S
  refine l_enter S (fun _ => run_call (vs := [iV p_year]) ⟨(S.tm rfl), trivial⟩ Tryz.call107) (swimmer_leap_ok _ p_year _ rfl) rfl ?_; clear S; intro v1 a w1 hv1 hk1 hn1 S
  subst hv1
  refine l_done (then_n (f_cond (S.tm rfl) (fun hb2 => ?_) (fun hb2 => ?_)))
  ·replace h := iteT h hb2
   refine f_seq (f_region (lv S (rn_assign rfl) rfl ?_)); clear S; intro a S
   refine l_done (then_n (wp_ret (then_r (blk_r (then_r ?_)))))
   subst h
   exact f_ret S Tryz.results86 rfl rfl
  ·replace h := iteF h hb2
   refine wp_skip (then_n (f_seq (f_region (lv S (rn_assign rfl) rfl ?_)))); clear S; intro a S
   refine l_done (then_n (wp_ret (blk_r (then_r ?_))))
   subst h
   exact f_ret S Tryz.results86 rfl rfl
 ·replace h := iteF h hb1
  refine f_seq (f_seq (f_region (lv S (rn_eql (S.tm rfl) rfl) rfl ?_))); clear S; intro a S
  refine lv S (rn_assign (S.tm rfl)) rfl ?_; clear S; intro a S
  refine l_done (then_n ?_)
  obtain ⟨j1, hj1, h⟩ := joinE h
  refine f_join (fun a w' => ∃ x1 : Bool, j1 x1 = r ∧ Sx w [] nov [] [(10, bV x1)] 15 a w') ?_ ?_
  ·refine f_cond (S.tm rfl) (fun hb3 => ?_) (fun hb3 => ?_)
   ·replace h := iteT h hb3
    refine wp_skip (then_n ?_)
    exact ⟨decide (p_month = 4), h, S.nf [] rfl ⟨rfl, trivial⟩⟩
   ·replace h := iteF h hb3
    refine f_seq (f_region (lv S (rn_eql (S.tm rfl) rfl) rfl ?_)); clear S; intro a S
    refine lv S (rn_assign (S.tm rfl)) rfl ?_; clear S; intro a S
    refine l_done (then_n ?_)
    obtain ⟨j2, hj2, h⟩ := joinE h
    refine f_join (fun a w' => ∃ x2 : Bool, j2 x2 = r ∧ Sx w [] nov [] [(10, bV x2)] 15 a w') ?_ ?_
    ·refine f_cond (S.tm rfl) (fun hb4 => ?_) (fun hb4 => ?_)
     ·replace h := iteT h hb4
      refine wp_skip (then_n ?_)
      exact ⟨decide (p_month = 6), h, S.nf [] rfl ⟨rfl, trivial⟩⟩
     ·replace h := iteF h hb4
      refine f_seq (f_region (lv S (rn_eql (S.tm rfl) rfl) rfl ?_)); clear S; intro a S
      refine lv S (rn_assign (S.tm rfl)) rfl ?_; clear S; intro a S
      refine l_done (then_n ?_)
      obtain ⟨j3, hj3, h⟩ := joinE h
      refine f_join (fun a w' => ∃ x3 : Bool, j3 x3 = r ∧ Sx w [] nov [] [(10, bV x3)] 15 a w') ?_ ?_
      ·refine f_cond (S.tm rfl) (fun hb5 => ?_) (fun hb5 => ?_)
       ·replace h := iteT h hb5
        refine wp_skip (then_n ?_)
        exact ⟨decide (p_month = 9), h, S.nf [] rfl ⟨rfl, trivial⟩⟩
       ·replace h := iteF h hb5
        refine f_region (lv S (rn_eql (S.tm rfl) rfl) rfl ?_); clear S; intro a S
        refine lv S (rn_assign (S.tm rfl)) rfl ?_; clear S; intro a S
        refine l_done (then_n ?_)
        exact ⟨decide (p_month = 11), h, S.nf [] rfl ⟨rfl, trivial⟩⟩
      clear S h; rintro a w4 ⟨x3, h, S⟩; rw [hj3] at h; clear hj3 j3
      refine then_n ?_
      exact ⟨x3, h, S.nf [] rfl ⟨rfl, trivial⟩⟩
    clear S h; rintro a w3 ⟨x2, h, S⟩; rw [hj2] at h; clear hj2 j2
    refine then_n ?_
    exact ⟨x2, h, S.nf [] rfl ⟨rfl, trivial⟩⟩
  clear S h; rintro a w2 ⟨x1, h, S⟩; rw [hj1] at h; clear hj1 j1
  refine then_n (f_cond (S.tm rfl) (fun hb6 => ?_) (fun hb6 => ?_))
  ·replace h := iteT h hb6
   refine f_seq (f_region (lv S (rn_assign rfl) rfl ?_)); clear S; intro a S
   refine l_done (then_n (wp_ret (blk_r (then_r ?_))))
   subst h
   exact f_ret S Tryz.results86 rfl rfl
  ·replace h := iteF h hb6
   refine wp_skip (blk_n (then_n (f_seq (f_region (lv S (rn_assign rfl) rfl ?_))))); clear S; intro a S
   refine l_done (then_n (wp_ret ?_))
   subst h
   exact f_ret S Tryz.results86 rfl rfl
theorem swimmer_dateOf_ok (w : World) (p_day : Int) (r : GDate) (h : swimmer_dateOf p_day = some r) :
    Calls Tryz.prog 71 [iV p_day].toArray w (Ret w [] fun _ v _ => v = .agg (GDate.enc r).toArray) := by
 refine f_enter [] [] Tryz.func71 rfl Tryz.ntmps71 rfl (by simp) (by simp [fps]) (by simp [fps]) fun a S => ?_
 unfold swimmer_dateOf at h
 replace S := S.nk [] [(0, iV p_day)] [] rfl ⟨rfl, trivial⟩
 refine f_seq (f_region (l_alloc S Tryz.zeroValue103 (cs := [iV 0, iV 0, iV 0]) rfl rfl ?_)); clear S; intro a w1 b1 hz1 hk1 S
 refine l_done (then_n (f_seq (f_region (lv S (rn_bld bt_103 (pv := [(0, iV 2024), (1, iV 1)]) ⟨rfl, rfl, rfl, rfl, trivial⟩ (cs := [iV 2024, iV 1, iV 0]) (by kernel_rfl)) rfl ?_)))); clear S; intro a S
 refine l_alloc S Tryz.zeroValue103 (cs := [iV 0, iV 0, iV 0]) rfl rfl ?_; clear S; intro a w2 b2 hz2 hk2 S
 refine l_store S (S.tm rfl) (S.tm rfl) (i := 0) (off := 0) rfl Tryz.sizeOf103 (vs := [iV 2024, iV 1, iV 0]) rfl rfl rfl rfl ?_; clear S; intro w3 hk3 S
 refine l_done (then_n (f_seq ?_))
 replace S := S.nk [.blk b2 [iV 2024, iV 1, iV 0] 103, .blk b1 [iV 0, iV 0, iV 0] 103] [(0, iV p_day), (2, .pointer (some ⟨b1, 0, none⟩)), (3, .pointer (some ⟨b2, 0, none⟩))] [true, true] rfl (subR rfl)
 obtain ⟨j1, hj1, h⟩ := joinE h
 refine f_join (fun a w' => ∃ x1 : Int, ∃ x2 : Int, j1 x1 x2 = some r ∧ Sx w [] nov [.blk b2 [iV x1, iV 1, iV 0] 103, .blk b1 [iV 0, iV 0, iV 0] 103] [(0, iV x2), (2, .pointer (some ⟨b1, 0, none⟩)), (3, .pointer (some ⟨b2, 0, none⟩))] 52 a w') ?_ ?_
 ·refine wp_block (f_loop (fun (m1 : Nat) a w' => ∃ x1 : Int, ∃ x2 : Int, swimmer_dateOf_l1 j1 m1 x1 x2 = some r ∧ Sx w [] nov [.blk b2 [iV x1, iV 1, iV 0] 103, .blk b1 [iV 0, iV 0, iV 0] 103] [(0, iV x2), (2, .pointer (some ⟨b1, 0, none⟩)), (3, .pointer (some ⟨b2, 0, none⟩))] 52 a w') id ((0 - p_day).toNat + 2) ⟨2024, p_day, h, S.nf [true, true] rfl (subR rfl)⟩ ?_)
  clear S h; rintro m1 a w4 ⟨x1, x2, h, S⟩
  cases m1 with
  | zero => rw [swimmer_dateOf_l1.eq_1] at h; cases h
  | succ m1 =>
   rw [swimmer_dateOf_l1.eq_2] at h
   refine f_seq (f_seq (f_region (lv S (rn_move (S.tm rfl)) rfl ?_))); clear S; intro a S
   refine lv S (rn_lss (S.tm rfl) rfl) rfl ?_; clear S; intro a S
   refine l_done (then_n (f_cond (S.tm rfl) (fun hb1 => ?_) (fun hb1 => ?_)))
   ·replace h := iteT h hb1
    refine wp_skip (then_n (wp_block (f_seq (f_region (lv S (rn_fld fa_103_0 (S.tm rfl)) rfl ?_))))); clear S; intro a S
    refine lv S (rn_load Tryz.isAgg3 (S.tm rfl) (S.cell (i := 0) rfl rfl)) rfl ?_; clear S; intro a S
    refine lv S (rn_sub (S.tm rfl) rfl) rfl ?_; clear S; intro a S
    refine lv S (rn_fld fa_103_0 (S.tm rfl)) rfl ?_; clear S; intro a S
    refine l_store S (S.tm rfl) (S.tm rfl) (i := 0) (off := 0) rfl Tryz.sizeOf3 (vs := [iV (W (x1 - 1))]) rfl rfl rfl rfl ?_; clear S; intro w6 hk4 S
    refine l_done (then_n (f_region (lv S (rn_move (S.tm rfl)) rfl ?_))); clear S; intro a S
    refine lv S (rn_fld fa_103_0 (S.tm rfl)) rfl ?_; clear S; intro a S
    refine lv S (rn_load Tryz.isAgg3 (S.tm rfl) (S.cell (i := 0) rfl rfl)) rfl ?_; clear S; intro a S
    refine l_enter S (fun _ => run_call (vs := [iV (W (x1 - 1))]) ⟨(S.tm rfl), trivial⟩ Tryz.call87) (swimmer_yearLong_ok _ (W (x1 - 1)) _ rfl) rfl ?_; clear S; intro v1 a w7 hv1 hk5 hn1 S
    subst hv1
    refine lv S (rn_add (S.tm rfl) (S.tm rfl)) rfl ?_; clear S; intro a S
    refine lv S (rn_assign (S.tm rfl)) rfl ?_; clear S; intro a S
    refine l_done (blk_n (then_n ?_))
    exact ⟨m1, ⟨W (x1 - 1), W (x2 + (swimmer_yearLong (W (x1 - 1)))), h, S.nf [true, true] rfl ⟨rfl, rfl, rfl, trivial⟩⟩, Nat.lt_succ_self _⟩
   ·replace h := iteF h hb1
    refine wp_exit (then_x (then_x (x_same (then_n ?_))))
    exact ⟨x1, x2, h, S.nf [true, true] rfl (subR rfl)⟩
 clear S h; rintro a w5 ⟨x1, x2, h, S⟩; rw [hj1] at h; clear hj1 j1
 refine then_n (f_seq ?_)
 obtain ⟨j2, hj2, h⟩ := joinE h
 refine f_join (fun a w' => ∃ x3 : Int, ∃ x4 : Int, j2 x3 x4 = some r ∧ Sx w [] nov [.blk b2 [iV x3, iV 1, iV 0] 103, .blk b1 [iV 0, iV 0, iV 0] 103] [(0, iV x4), (2, .pointer (some ⟨b1, 0, none⟩)), (3, .pointer (some ⟨b2, 0, none⟩))] 52 a w') ?_ ?_
 ·refine wp_block (f_loop (fun (m2 : Nat) a w' => ∃ x3 : Int, ∃ x4 : Int, swimmer_dateOf_l2 j2 m2 x3 x4 = some r ∧ Sx w [] nov [.blk b2 [iV x3, iV 1, iV 0] 103, .blk b1 [iV 0, iV 0, iV 0] 103] [(0, iV x4), (2, .pointer (some ⟨b1, 0, none⟩)), (3, .pointer (some ⟨b2, 0, none⟩))] 52 a w') id ((x2 - (swimmer_yearLong x1)).toNat + 2) ⟨x1, x2, h, S.nf [true, true] rfl (subR rfl)⟩ ?_)
  clear S h; rintro m2 a w8 ⟨x3, x4, h, S⟩
  cases m2 with
  | zero => rw [swimmer_dateOf_l2.eq_1] at h; cases h
  | succ m2 =>
   rw [swimmer_dateOf_l2.eq_2] at h
   refine f_seq (f_seq (f_region (lv S (rn_move (S.tm rfl)) rfl ?_))); clear S; intro a S
   refine lv S (rn_fld fa_103_0 (S.tm rfl)) rfl ?_; clear S; intro a S
   refine lv S (rn_load Tryz.isAgg3 (S.tm rfl) (S.cell (i := 0) rfl rfl)) rfl ?_; clear S; intro a S
   refine l_enter S (fun _ => run_call (vs := [iV x3]) ⟨(S.tm rfl), trivial⟩ Tryz.call87) (swimmer_yearLong_ok _ x3 _ rfl) rfl ?_; clear S; intro v2 a w10 hv2 hk6 hn2 S
   subst hv2
   refine lv S (rn_geq (S.tm rfl) (S.tm rfl)) rfl ?_; clear S; intro a S
   refine l_done (then_n (f_cond (S.tm rfl) (fun hb2 => ?_) (fun hb2 => ?_)))
   ·replace h := iteT h hb2
    refine wp_skip (then_n (wp_block (f_seq (f_region (lv S (rn_move (S.tm rfl)) rfl ?_))))); clear S; intro a S
    refine lv S (rn_fld fa_103_0 (S.tm rfl)) rfl ?_; clear S; intro a S
    refine lv S (rn_load Tryz.isAgg3 (S.tm rfl) (S.cell (i := 0) rfl rfl)) rfl ?_; clear S; intro a S
    refine l_enter S (fun _ => run_call (vs := [iV x3]) ⟨(S.tm rfl), trivial⟩ Tryz.call87) (swimmer_yearLong_ok _ x3 _ rfl) rfl ?_; clear S; intro v3 a w11 hv3 hk7 hn3 S
    subst hv3
    refine lv S (rn_sub (S.tm rfl) (S.tm rfl)) rfl ?_; clear S; intro a S
    refine lv S (rn_assign (S.tm rfl)) rfl ?_; clear S; intro a S
    refine l_done (then_n (f_region (lv S (rn_fld fa_103_0 (S.tm rfl)) rfl ?_))); clear S; intro a S
    refine lv S (rn_load Tryz.isAgg3 (S.tm rfl) (S.cell (i := 0) rfl rfl)) rfl ?_; clear S; intro a S
    refine lv S (rn_add (S.tm rfl) rfl) rfl ?_; clear S; intro a S
    refine lv S (rn_fld fa_103_0 (S.tm rfl)) rfl ?_; clear S; intro a S
    refine l_store S (S.tm rfl) (S.tm rfl) (i := 0) (off := 0) rfl Tryz.sizeOf3 (vs := [iV (W (x3 + 1))]) rfl rfl rfl rfl ?_; clear S; intro w12 hk8 S
    refine l_done ?_
    replace S := S.nk [.blk b2 [iV (W (x3 + 1)), iV 1, iV 0] 103, .blk b1 [iV 0, iV 0, iV 0] 103] [(0, iV (W (x4 - (swimmer_yearLong x3)))), (2, .pointer (some ⟨b1, 0, none⟩)), (3, .pointer (some ⟨b2, 0, none⟩))] [true, true] rfl (subR rfl)
    refine blk_n (then_n ?_)
    exact ⟨m2, ⟨W (x3 + 1), W (x4 - (swimmer_yearLong x3)), h, S.nf [true, true] rfl ⟨rfl, rfl, rfl, trivial⟩⟩, Nat.lt_succ_self _⟩
   ·replace h := iteF h hb2
    refine wp_exit (then_x (then_x (x_same (then_n ?_))))
    exact ⟨x3, x4, h, S.nf [true, true] rfl (subR rfl)⟩
 clear S h; rintro a w9 ⟨x3, x4, h, S⟩; rw [hj2] at h; clear hj2 j2
 refine then_n (f_seq ?_)
 obtain ⟨j3, hj3, h⟩ := joinE h
 refine f_join (fun a w' => ∃ x5 : Int, ∃ x6 : Int, j3 x5 x6 = some r ∧ Sx w [] nov [.blk b2 [iV x3, iV x5, iV 0] 103, .blk b1 [iV 0, iV 0, iV 0] 103] [(0, iV x6), (2, .pointer (some ⟨b1, 0, none⟩)), (3, .pointer (some ⟨b2, 0, none⟩))] 52 a w') ?_ ?_
 ·refine wp_block (f_loop (fun (m3 : Nat) a w' => ∃ x5 : Int, ∃ x6 : Int, swimmer_dateOf_l3 x3 j3 m3 x5 x6 = some r ∧ Sx w [] nov [.blk b2 [iV x3, iV x5, iV 0] 103, .blk b1 [iV 0, iV 0, iV 0] 103] [(0, iV x6), (2, .pointer (some ⟨b1, 0, none⟩)), (3, .pointer (some ⟨b2, 0, none⟩))] 52 a w') id ((x4 - (swimmer_long x3 1)).toNat + 2) ⟨1, x4, h, S.nf [true, true] rfl (subR rfl)⟩ ?_)
  clear S h; rintro m3 a w13 ⟨x5, x6, h, S⟩
  cases m3 with
  | zero => rw [swimmer_dateOf_l3.eq_1] at h; cases h
  | succ m3 =>
   rw [swimmer_dateOf_l3.eq_2] at h
   refine f_seq (f_seq (f_region (lv S (rn_move (S.tm rfl)) rfl ?_))); clear S; intro a S
   refine lv S (rn_fld fa_103_0 (S.tm rfl)) rfl ?_; clear S; intro a S
   refine lv S (rn_load Tryz.isAgg3 (S.tm rfl) (S.cell (i := 0) rfl rfl)) rfl ?_; clear S; intro a S
   refine lv S (rn_fld fa_103_1 (S.tm rfl)) rfl ?_; clear S; intro a S
   refine lv S (rn_load Tryz.isAgg3 (S.tm rfl) (S.cell (i := 0) rfl rfl)) rfl ?_; clear S; intro a S
   refine l_enter S (fun _ => run_call (vs := [iV x3, iV x5]) ⟨(S.tm rfl), (S.tm rfl), trivial⟩ Tryz.call86) (swimmer_long_ok _ x3 x5 _ rfl) rfl ?_; clear S; intro v4 a w15 hv4 hk9 hn4 S
   subst hv4
   refine lv S (rn_geq (S.tm rfl) (S.tm rfl)) rfl ?_; clear S; intro a S
   refine l_done (then_n (f_cond (S.tm rfl) (fun hb3 => ?_) (fun hb3 => ?_)))
   ·replace h := iteT h hb3
    refine wp_skip (then_n (wp_block (f_seq (f_region (lv S (rn_move (S.tm rfl)) rfl ?_))))); clear S; intro a S
    refine lv S (rn_fld fa_103_0 (S.tm rfl)) rfl ?_; clear S; intro a S
    refine lv S (rn_load Tryz.isAgg3 (S.tm rfl) (S.cell (i := 0) rfl rfl)) rfl ?_; clear S; intro a S
    refine lv S (rn_fld fa_103_1 (S.tm rfl)) rfl ?_; clear S; intro a S
    refine lv S (rn_load Tryz.isAgg3 (S.tm rfl) (S.cell (i := 0) rfl rfl)) rfl ?_; clear S; intro a S
    refine l_enter S (fun _ => run_call (vs := [iV x3, iV x5]) ⟨(S.tm rfl), (S.tm rfl), trivial⟩ Tryz.call86) (swimmer_long_ok _ x3 x5 _ rfl) rfl ?_; clear S; intro v5 a w16 hv5 hk10 hn5 S
    subst hv5
    refine lv S (rn_sub (S.tm rfl) (S.tm rfl)) rfl ?_; clear S; intro a S
    refine lv S (rn_assign (S.tm rfl)) rfl ?_; clear S; intro a S
    refine l_done ?_
    replace S := S.nk [.blk b2 [iV x3, iV x5, iV 0] 103, .blk b1 [iV 0, iV 0, iV 0] 103] [(0, iV (W (x6 - (swimmer_long x3 x5)))), (2, .pointer (some ⟨b1, 0, none⟩)), (3, .pointer (some ⟨b2, 0, none⟩))] [true, true] rfl (subR rfl)
    refine then_n (f_region (lv S (rn_fld fa_103_1 (S.tm rfl)) rfl ?_)); clear S; intro a S
    refine lv S (rn_load Tryz.isAgg3 (S.tm rfl) (S.cell (i := 0) rfl rfl)) rfl ?_; clear S; intro a S
    refine lv S (rn_add (S.tm rfl) rfl) rfl ?_; clear S; intro a S
    refine lv S (rn_fld fa_103_1 (S.tm rfl)) rfl ?_; clear S; intro a S
    refine l_store S (S.tm rfl) (S.tm rfl) (i := 0) (off := 1) rfl Tryz.sizeOf3 (vs := [iV (W (x5 + 1))]) rfl rfl rfl rfl ?_; clear S; intro w17 hk11 S
    refine l_done (blk_n (then_n ?_))
    exact ⟨m3, ⟨W (x5 + 1), W (x6 - (swimmer_long x3 x5)), h, S.nf [true, true] rfl ⟨rfl, rfl, rfl, trivial⟩⟩, Nat.lt_succ_self _⟩
   ·replace h := iteF h hb3
    refine wp_exit (then_x (then_x (x_same (then_n ?_))))
    exact ⟨x5, x6, h, S.nf [true, true] rfl (subR rfl)⟩
 clear S h; rintro a w14 ⟨x5, x6, h, S⟩; rw [hj3] at h; clear hj3 j3
 refine then_n (f_seq (f_region (lv S (rn_move (S.tm rfl)) rfl ?_))); clear S; intro a S
 refine lv S (rn_add (S.tm rfl) rfl) rfl ?_; clear S; intro a S
 refine lv S (rn_fld fa_103_2 (S.tm rfl)) rfl ?_; clear S; intro a S
 refine l_store S (S.tm rfl) (S.tm rfl) (i := 0) (off := 2) rfl Tryz.sizeOf3 (vs := [iV (W (x6 + 1))]) rfl rfl rfl rfl ?_; clear S; intro w18 hk12 S
 refine l_done (then_n (f_seq (f_region (lv S (rn_ldA Tryz.isAgg103 Tryz.sizeOf103 (off := 0) (o := 0) (part := [iV x3, iV x5, iV (W (x6 + 1))]) rfl rfl (S.tm rfl) (S.cellsAt (i := 0) rfl)) rfl ?_)))); clear S; intro a S
 refine l_store S (S.tm rfl) (S.tm rfl) (i := 1) (off := 0) rfl Tryz.sizeOf103 (vs := [iV x3, iV x5, iV (W (x6 + 1))]) rfl rfl rfl rfl ?_; clear S; intro w19 hk13 S
 refine l_done (then_n (wp_ret ?_))
 obtain rfl := Option.some.inj h
 exact f_retG S (rs := [.cell 2 103]) (vs := [.agg #[iV x3, iV x5, iV (W (x6 + 1))]]) Tryz.results71 ⟨(res_cell (off := 0) S rfl Tryz.isAgg103 Tryz.sizeOf103 rfl (S.cellsAt (i := 1) rfl)), trivial⟩ rfl rfl
set_option maxRecDepth 20000 in
theorem swimmer_age_ok (w : World) (p_s : GSwimmer) (p_day : Int) (p_way : Int) (r : Int) (h : swimmer_age p_s p_day p_way = some r) :
    Calls Tryz.prog 42 [.agg (GSwimmer.enc p_s).toArray, iV p_day, iV p_way].toArray w (Ret w [] fun _ v _ => v = iV r) := by
 refine f_enter [] [] Tryz.func42 rfl Tryz.ntmps42 rfl (by simp) (by simp [fps]) (by simp [fps]) fun a S => ?_
 unfold swimmer_age at h
 replace S := S.nk [] [(0, .agg (GSwimmer.enc p_s).toArray), (1, iV p_day), (2, iV p_way)] [] rfl (subR rfl)
 refine f_seq (f_region (l_box S (S.tm rfl) (cs := (GSwimmer.enc p_s)) rfl rfl ?_)); clear S; intro a w1 b1 hz1 hk1 S
 refine lv S (rn_assign rfl) rfl ?_; clear S; intro a S
 refine l_done (then_n (f_seq (f_region (lv S (rn_fld fa_71_2 (S.tm rfl)) rfl ?_)))); clear S; intro a S
 refine lv S (rn_load Tryz.isAgg3 (S.tm rfl) (S.cell (i := 0) rfl rfl)) rfl ?_; clear S; intro a S
 obtain ⟨r1, hr1, h⟩ := bindE h
 refine l_enter S (fun _ => run_call (vs := [iV p_s.Born]) ⟨(S.tm rfl), trivial⟩ Tryz.call71) (swimmer_dateOf_ok _ p_s.Born _ hr1) rfl ?_; clear S; intro v1 a w2 hv1 hk2 hn1 S
 subst hv1
 refine lv S (rn_move (S.tm rfl)) rfl ?_; clear S; intro a S
 obtain ⟨r2, hr2, h⟩ := bindE h
 refine l_enter S (fun _ => run_call (vs := [iV p_day]) ⟨(S.tm rfl), trivial⟩ Tryz.call71) (swimmer_dateOf_ok _ p_day _ hr2) rfl ?_; clear S; intro v2 a w3 hv2 hk3 hn2 S
 subst hv2
 refine l_alloc S Tryz.zeroValue103 (cs := [iV 0, iV 0, iV 0]) rfl rfl ?_; clear S; intro a w4 b2 hz2 hk4 S
 refine l_alloc S Tryz.zeroValue103 (cs := [iV 0, iV 0, iV 0]) rfl rfl ?_; clear S; intro a w5 b3 hz3 hk5 S
 refine l_store S (S.tm rfl) (S.tm rfl) (i := 1) (off := 0) rfl Tryz.sizeOf103 (vs := (GDate.enc r1)) rfl rfl rfl rfl ?_; clear S; intro w6 hk6 S
 refine l_store S (S.tm rfl) (S.tm rfl) (i := 0) (off := 0) rfl Tryz.sizeOf103 (vs := (GDate.enc r2)) rfl rfl rfl rfl ?_; clear S; intro w7 hk7 S
 refine l_done (then_n (f_seq (f_region (lv S (rn_fld fa_103_0 (S.tm rfl)) rfl ?_)))); clear S; intro a S
 refine lv S (rn_load Tryz.isAgg3 (S.tm rfl) (S.cell (i := 0) rfl rfl)) rfl ?_; clear S; intro a S
 refine lv S (rn_fld fa_103_0 (S.tm rfl)) rfl ?_; clear S; intro a S
 refine lv S (rn_load Tryz.isAgg3 (S.tm rfl) (S.cell (i := 1) rfl rfl)) rfl ?_; clear S; intro a S
 refine lv S (rn_sub (S.tm rfl) (S.tm rfl)) rfl ?_; clear S; intro a S
 refine lv S (rn_assign (S.tm rfl)) rfl ?_; clear S; intro a S
 refine l_done ?_
 replace S := S.nk [.blk b3 (GDate.enc r2) 103, .blk b2 (GDate.enc r1) 103] [(2, iV p_way), (7, .pointer (some ⟨b2, 0, none⟩)), (8, .pointer (some ⟨b3, 0, none⟩)), (9, iV (W (r2.Year - r1.Year)))] [true, true, false] rfl (subR rfl)
 refine then_n (f_seq (f_seq ?_))
 obtain ⟨j1, hj1, h⟩ := joinE h
 refine f_join (fun a w' => ∃ x1 : Bool, j1 x1 = some r ∧ Sx w [] nov [] [(9, iV (W (r2.Year - r1.Year))), (36, bV x1)] 40 a w') ?_ ?_
 ·rcases Bool.eq_false_or_eq_true (decide (p_way = 1)) with hb1 | hb1
  ·replace h := iteT h hb1
   refine d_region [] ([]) Tryz.mixed S rfl (by kernel_rfl) ?_; clear S; intro w13 hk12 hsel S
   refine d_quiet 0 S hsel rfl rfl rfl (by kernel_rfl) (by kernel_rfl) rfl (fun _ hw => (rn_move (S.tm rfl))) ?_; clear S; intro a S
   refine d_quiet 1 S hsel rfl rfl rfl (by kernel_rfl) (by kernel_rfl) rfl (fun _ hw => (rn_eql (S.tm rfl) rfl)) ?_; clear S; intro a S
   refine d_quiet 2 S hsel rfl rfl rfl (by kernel_rfl) (by kernel_rfl) rfl (fun _ hw => (rn_move (S.tm rfl))) ?_; clear S; intro a S
   refine d_quiet_g 3 S hsel rfl rfl rfl rfl hb1 rfl rfl (by kernel_rfl) (by kernel_rfl) rfl (fun _ hw => (rn_fld fa_103_1 (S.tm rfl))) ?_; clear S; intro a S
   refine d_quiet_g 4 S hsel rfl rfl rfl rfl hb1 rfl rfl (by kernel_rfl) (by kernel_rfl) rfl (fun _ hw => (rn_ld Tryz.isAgg3 (off := 0) (o := 1) (S.tm rfl) ((S.blk_mem (i := 0) (cells := (GDate.enc r2)) (b := b3) (T := 103) rfl (ne_nil (e' := .blk b3 (GDate.enc r2) 103))).kept hw) rfl)) ?_; clear S; intro a S
   refine d_quiet_g 5 S hsel rfl rfl rfl rfl hb1 rfl rfl (by kernel_rfl) (by kernel_rfl) rfl (fun _ hw => (rn_fld fa_103_1 (S.tm rfl))) ?_; clear S; intro a S
   refine d_quiet_g 6 S hsel rfl rfl rfl rfl hb1 rfl rfl (by kernel_rfl) (by kernel_rfl) rfl (fun _ hw => (rn_ld Tryz.isAgg3 (off := 0) (o := 1) (S.tm rfl) ((S.blk_mem (i := 1) (cells := (GDate.enc r1)) (b := b2) (T := 103) rfl (ne_nil (e' := .blk b2 (GDate.enc r1) 103))).kept hw) rfl)) ?_; clear S; intro a S
   refine d_quiet_g 8 S hsel rfl rfl rfl rfl hb1 rfl rfl (by kernel_rfl) (by kernel_rfl) rfl (fun _ hw => (rn_fld fa_103_2 (S.tm rfl))) ?_; clear S; intro a S
   refine d_quiet_g 9 S hsel rfl rfl rfl rfl hb1 rfl rfl (by kernel_rfl) (by kernel_rfl) rfl (fun _ hw => (rn_ld Tryz.isAgg3 (off := 0) (o := 2) (S.tm rfl) ((S.blk_mem (i := 0) (cells := (GDate.enc r2)) (b := b3) (T := 103) rfl (ne_nil (e' := .blk b3 (GDate.enc r2) 103))).kept hw) rfl)) ?_; clear S; intro a S
   refine d_quiet_g 10 S hsel rfl rfl rfl rfl hb1 rfl rfl (by kernel_rfl) (by kernel_rfl) rfl (fun _ hw => (rn_fld fa_103_2 (S.tm rfl))) ?_; clear S; intro a S
   refine d_quiet_g 11 S hsel rfl rfl rfl rfl hb1 rfl rfl (by kernel_rfl) (by kernel_rfl) rfl (fun _ hw => (rn_ld Tryz.isAgg3 (off := 0) (o := 2) (S.tm rfl) ((S.blk_mem (i := 1) (cells := (GDate.enc r1)) (b := b2) (T := 103) rfl (ne_nil (e' := .blk b2 (GDate.enc r1) 103))).kept hw) rfl)) ?_; clear S; intro a S
   refine d_loud1 7 (by kernel_rfl) rfl (l_want S rfl rfl rfl hb1 (l_enter S (fun _ => run_call (vs := [iV r2.Month, iV r1.Month]) ⟨(S.tm rfl), (S.tm rfl), trivial⟩ Tryz.call73) (cmp_Compare_int_ok _ r2.Month r1.Month _ rfl) rfl ?_)); clear S; intro v6 a w14 hv6 hk13 hn6 S
   subst hv6
   refine l_done (d_next hk13 (d_loud1 12 (by kernel_rfl) rfl (l_want S rfl rfl rfl hb1 (l_enter S (fun _ => run_call (vs := [iV r2.Day, iV r1.Day]) ⟨(S.tm rfl), (S.tm rfl), trivial⟩ Tryz.call73) (cmp_Compare_int_ok _ r2.Day r1.Day _ rfl) rfl ?_)))); clear S; intro v7 a w15 hv7 hk14 hn7 S
   subst hv7
   refine l_done (d_next hk14 (d_loud1 13 (by kernel_rfl) rfl (l_want S rfl rfl rfl hb1 (l_buildSlice S Tryz.underlying22 Tryz.sizeOf3 Tryz.zeroValue3 rfl rfl (pv := [(0, iV (cmp_Compare_int r2.Month r1.Month)), (1, iV (cmp_Compare_int r2.Day r1.Day))]) ⟨rfl, (S.tm rfl), rfl, (S.tm rfl), trivial⟩ (cs := [iV (cmp_Compare_int r2.Month r1.Month), iV (cmp_Compare_int r2.Day r1.Day)]) (by kernel_rfl) rfl ?_)))); clear S; intro a w16 b5 hz5 hk15 S
   refine l_done (d_next hk15 (d_loud1 14 (by kernel_rfl) rfl (l_want S rfl rfl rfl hb1 (l_enter S (fun _ => run_call (vs := [.slice (some ⟨b5, 0, none⟩) 2 2]) ⟨(S.tm rfl), trivial⟩ Tryz.call72) (cmp_Or_int_ok _ (.slice (some ⟨b5, 0, none⟩) 2 2) [(cmp_Compare_int r2.Month r1.Month), (cmp_Compare_int r2.Day r1.Day)] (lit_slcT enc_int S (i := 0) rfl rfl rfl rfl ((ne_nil (e' := .blk b5 [iV (cmp_Compare_int r2.Month r1.Month), iV (cmp_Compare_int r2.Day r1.Day)] 3)) _ rfl)) _ rfl) rfl ?_)))); clear S; intro v8 a w17 hv8 hk16 hn8 S
   subst hv8
   refine l_done (d_next hk16 (d_rest [15, 16] hsel (by kernel_rfl) rfl ?_))
   clear hsel
   refine s_want S rfl rfl rfl rfl hb1 (s_lv0 S (rn_lss (S.tm rfl) rfl) rfl ?_); clear S; intro a S
   refine s_lv S rfl (rn_pick_b hb1 (S.tm rfl) (S.tm rfl)) rfl ?_; clear S; intro a S
   refine s_done ?_
   replace S := S.nk [] [(9, iV (W (r2.Year - r1.Year))), (36, bV (decide ((cmp_Or_int [(cmp_Compare_int r2.Month r1.Month), (cmp_Compare_int r2.Day r1.Day)]) < 0)))] [false, false, false] rfl (subR rfl)
   refine then_n ?_
   exact ⟨decide ((cmp_Or_int [(cmp_Compare_int r2.Month r1.Month), (cmp_Compare_int r2.Day r1.Day)]) < 0), h, S.nf [] rfl (subR rfl)⟩
  ·replace h := iteF h hb1
   refine d_region [] ([]) Tryz.mixed S rfl (by kernel_rfl) ?_; clear S; intro w18 hk17 hsel S
   refine d_rest [0, 1, 2, 3, 4, 5, 6, 7, 8, 9, 10, 11, 12, 13, 14, 15, 16] hsel (by kernel_rfl) rfl ?_
   clear hsel
   refine s_lv S rfl (rn_move (S.tm rfl)) rfl ?_; clear S; intro a S
   refine s_lv S rfl (rn_eql (S.tm rfl) rfl) rfl ?_; clear S; intro a S
   refine s_lv S rfl (rn_move (S.tm rfl)) rfl ?_; clear S; intro a S
   iterate 13 (refine s_skip S rfl rfl rfl rfl (neq_f hb1) rfl ?_ rfl; clear S; intro a S)
   refine s_lv S rfl (rn_pick_c hb1 (S.tm rfl) rfl) rfl ?_; clear S; intro a S
   refine s_done ?_
   replace S := S.nk [] [(9, iV (W (r2.Year - r1.Year))), (36, bV false)] [false, false] rfl (subR rfl)
   refine then_n ?_
   exact ⟨false, h, S.nf [] rfl (subR rfl)⟩
 clear S h; rintro a w8 ⟨x1, h, S⟩; rw [hj1] at h; clear hj1 j1
 refine then_n ?_
 obtain ⟨j2, hj2, h⟩ := joinE h
 refine f_join (fun a w' => ∃ x2 : Int, j2 x2 = some r ∧ Sx w [] nov [] [(9, iV x2)] 40 a w') ?_ ?_
 ·refine f_cond (S.tm rfl) (fun hb2 => ?_) (fun hb2 => ?_)
  ·replace h := iteT h hb2
   refine f_region (lv S (rn_move (S.tm rfl)) rfl ?_); clear S; intro a S
   refine lv S (rn_sub (S.tm rfl) rfl) rfl ?_; clear S; intro a S
   refine lv S (rn_assign (S.tm rfl)) rfl ?_; clear S; intro a S
   refine l_done (then_n ?_)
   exact ⟨W ((W (r2.Year - r1.Year)) - 1), h, S.nf [] rfl ⟨rfl, trivial⟩⟩
  ·replace h := iteF h hb2
   refine wp_skip (then_n ?_)
   exact ⟨W (r2.Year - r1.Year), h, S.nf [] rfl ⟨rfl, trivial⟩⟩
 clear S h; rintro a w19 ⟨x2, h, S⟩; rw [hj2] at h; clear hj2 j2
 refine then_n (f_seq (f_region (lv S (rn_move (S.tm rfl)) rfl ?_))); clear S; intro a S
 refine lv S (rn_assign (S.tm rfl)) rfl ?_; clear S; intro a S
 refine l_done (then_n (wp_ret ?_))
 obtain rfl := Option.some.inj h
 exact f_ret S Tryz.results42 rfl rfl
set_option maxRecDepth 20000 in
theorem swimmer_Wrong_ok (w : World) (v_p_r : Value) (p_r : List GRace) (hs_p_r : Slc (view w []) 8 v_p_r (p_r.map GRace.enc)) (v_p_s : Value) (p_s : List GSwimmer) (hs_p_s : Slc (view w []) 3 v_p_s (p_s.map GSwimmer.enc)) (v_p_m : Value) (p_m : List GMove) (hs_p_m : Slc (view w []) 3 v_p_m (p_m.map GMove.enc)) (p_b : GBounds) (p_x : GSquad) (q_p_x : R37) (hq_p_x : rel_37 (view w []) p_x q_p_x) (r : ByteArray × Int) (h : swimmer_Wrong p_r p_s p_m p_b p_x = some r) :
    Calls Tryz.prog 12 [v_p_r, v_p_s, v_p_m, .agg (GBounds.enc p_b).toArray, .agg (R37.enc q_p_x).toArray].toArray w (Ret w [] fun _ v _ => v = .tuple #[sV r.1, iV r.2]) := by
 obtain ⟨u1, rfl, hs1⟩ := hq_p_x
 refine f_enter [] [] Tryz.func12 rfl Tryz.ntmps12 rfl (by simp) (by simp [fps]) (by simp [fps]) fun a S => ?_
 unfold swimmer_Wrong at h
 replace S := S.nk [] [(0, v_p_r), (1, v_p_s), (2, v_p_m), (3, .agg (GBounds.enc p_b).toArray), (4, .agg #[sV p_x.Key, sV p_x.Club, sV p_x.Race, u1.val])] [] rfl (subR rfl)
 refine f_seq (f_region (l_box S (S.tm rfl) (cs := (GBounds.enc p_b)) rfl rfl ?_)); clear S; intro a w1 b1 hz1 hk1 S
 refine l_box S (S.tm rfl) (cs := [sV p_x.Key, sV p_x.Club, sV p_x.Race, u1.val]) rfl rfl ?_; clear S; intro a w2 b2 hz2 hk2 S
 refine lv S (rn_assign rfl) rfl ?_; clear S; intro a S
 refine lv S (rn_assign rfl) rfl ?_; clear S; intro a S
 refine l_done (then_n (f_seq (f_seq (f_region (lv S (rn_move (S.tm rfl)) rfl ?_))))); clear S; intro a S
 refine lv S (rn_move (S.tm rfl)) rfl ?_; clear S; intro a S
 refine lv S (rn_move (S.tm rfl)) rfl ?_; clear S; intro a S
 refine lv S (rn_ldA Tryz.isAgg33 Tryz.sizeOf33 (off := 0) (o := 0) (part := (GBounds.enc p_b)) rfl rfl (S.tm rfl) (S.cellsAt (i := 1) rfl)) rfl ?_; clear S; intro a S
 obtain ⟨r1, hr1, h⟩ := bindE h
 refine l_enter S (fun _ => run_call (vs := [v_p_r, v_p_s, v_p_m, .agg (GBounds.enc p_b).toArray]) ⟨(S.tm rfl), (S.tm rfl), (S.tm rfl), (S.tm rfl), trivial⟩ Tryz.call37) (swimmer_checkMeet_ok _ v_p_r p_r (hs_p_r.mono (S.le_arg nil_sub)) v_p_s p_s (hs_p_s.mono (S.le_arg nil_sub)) v_p_m p_m (hs_p_m.mono (S.le_arg nil_sub)) p_b _ hr1) rfl ?_; clear S; intro v1 a w3 hv1 hk3 hn1 S
 subst hv1
 refine lv S (rn_assign (S.tm rfl)) rfl ?_; clear S; intro a S
 refine l_done ?_
 replace S := S.nk [.blk b2 [sV p_x.Key, sV p_x.Club, sV p_x.Race, u1.val] 37, .blk b1 (GBounds.enc p_b) 33] [(0, v_p_r), (1, v_p_s), (2, v_p_m), (8, .pointer (some ⟨b1, 0, none⟩)), (9, .pointer (some ⟨b2, 0, none⟩)), (12, iV r1)] [true, true] rfl (subR rfl)
 refine then_n (f_seq (f_region (lv S (rn_move (S.tm rfl)) rfl ?_))); clear S; intro a S
 refine lv S (rn_neq (S.tm rfl) rfl) rfl ?_; clear S; intro a S
 refine l_done (then_n (f_cond (S.tm rfl) (fun hb1 => ?_) (fun hb1 => ?_)))
 ·replace h := iteT h hb1
  refine f_seq (f_region (lv S (rn_move (S.tm rfl)) rfl ?_)); clear S; intro a S
  refine lv S (rn_assign rfl) rfl ?_; clear S; intro a S
  refine lv S (rn_assign (S.tm rfl)) rfl ?_; clear S; intro a S
  refine l_done (then_n (wp_ret (then_r ?_)))
  obtain rfl := Option.some.inj h
  exact f_ret2 S Tryz.results12 rfl rfl rfl
 ·replace h := iteF h hb1
  refine wp_skip (then_n (f_seq (f_seq (f_region (lv S (rn_ldA Tryz.isAgg37 Tryz.sizeOf37 (off := 0) (o := 0) (part := [sV p_x.Key, sV p_x.Club, sV p_x.Race, u1.val]) rfl rfl (S.tm rfl) (S.cellsAt (i := 0) rfl)) rfl ?_))))); clear S; intro a S
  refine l_buildSlice S Tryz.underlying52 Tryz.sizeOf37 Tryz.zeroValue37 rfl rfl (pv := [(0, .agg #[sV p_x.Key, sV p_x.Club, sV p_x.Race, u1.val])]) ⟨rfl, (S.tm rfl), trivial⟩ (cs := [sV p_x.Key, sV p_x.Club, sV p_x.Race, u1.val]) (by kernel_rfl) rfl ?_; clear S; intro a w4 b3 hz3 hk4 S
  have hr2 : All2 (rel_37 (join (view w []) nov)) ([p_x] : List GSquad) ([(R37.mk p_x.Key p_x.Club p_x.Race u1)] : List R37) := (All2.cons ⟨u1, rfl, (hs1.mono (le_join_left _ _))⟩ All2.nil)
  replace S := S.litOwn (i := 0) (xs := ([(R37.mk p_x.Key p_x.Club p_x.Race u1)] : List R37)) rfl R37.enc_ok rfl rfl rfl
  replace S := S.nk [.own (.slice (some ⟨b3, 0, none⟩) 1 1) 37 4 ([(R37.mk p_x.Key p_x.Club p_x.Race u1)] : List R37).length (([(R37.mk p_x.Key p_x.Club p_x.Race u1)] : List R37).flatMap R37.enc), .blk b2 [sV p_x.Key, sV p_x.Club, sV p_x.Race, u1.val] 37, .blk b1 (GBounds.enc p_b) 33] [(0, v_p_r), (1, v_p_s), (2, v_p_m), (8, .pointer (some ⟨b1, 0, none⟩)), (9, .pointer (some ⟨b2, 0, none⟩)), (12, iV r1), (31, iV r1), (32, bV (!decide (r1 = 0))), (34, .agg #[sV p_x.Key, sV p_x.Club, sV p_x.Race, u1.val]), (35, (.slice (some ⟨b3, 0, none⟩) 1 1))] [] rfl (subR rfl)
  obtain ⟨r2, hr3, h⟩ := bindE h
  refine l_enter S (fun _ => run_call (vs := [(.slice (some ⟨b3, 0, none⟩) 1 1)]) ⟨(S.tm rfl), trivial⟩ Tryz.call20) (swimmer_CheckSquads_ok _ (.slice (some ⟨b3, 0, none⟩) 1 1) ([p_x] : List GSquad) ([(R37.mk p_x.Key p_x.Club p_x.Race u1)] : List R37) (own_slcT R37.enc_ok S (i := 0) rfl (ne_nil (e' := .own (.slice (some ⟨b3, 0, none⟩) 1 1) 37 4 ([(R37.mk p_x.Key p_x.Club p_x.Race u1)] : List R37).length (([(R37.mk p_x.Key p_x.Club p_x.Race u1)] : List R37).flatMap R37.enc)))) (rels_37 (join_le (S.le_arg nil_sub) (S.le_new nil_sub)) hr2) _ hr3) rfl ?_; clear S; intro v2 a w5 hv2 hk5 hn2 S
  subst hv2
  refine lv S (rn_assign (S.tm rfl)) rfl ?_; clear S; intro a S
  refine l_done (then_n (f_seq (f_region (lv S (rn_move (S.tm rfl)) rfl ?_)))); clear S; intro a S
  refine lv S (rn_neq (S.tm rfl) rfl) rfl ?_; clear S; intro a S
  refine l_done (then_n (f_cond (S.tm rfl) (fun hb2 => ?_) (fun hb2 => ?_)))
  ·replace h := iteT h hb2
   refine f_seq (f_region (lv S (rn_move (S.tm rfl)) rfl ?_)); clear S; intro a S
   refine lv S (rn_assign rfl) rfl ?_; clear S; intro a S
   refine lv S (rn_assign (S.tm rfl)) rfl ?_; clear S; intro a S
   refine l_done ?_
   replace S := S.nk [] [(10, sV k_empty), (11, iV r2)] [false, false, false] rfl (subR rfl)
   refine then_n (wp_ret (then_r ?_))
   obtain rfl := Option.some.inj h
   exact f_ret2 S Tryz.results12 rfl rfl rfl
  ·replace h := iteF h hb2
   refine wp_skip (then_n (f_seq (f_region (lv S (rn_move (S.tm rfl)) rfl ?_)))); clear S; intro a S
   refine lv S (rn_fld fa_37_2 (S.tm rfl)) rfl ?_; clear S; intro a S
   refine lv S (rn_load Tryz.isAgg9 (S.tm rfl) (S.cell (i := 1) rfl rfl)) rfl ?_; clear S; intro a S
   obtain ⟨r3, hr4, h⟩ := bindE h
   refine l_enter S (fun _ => run_call (vs := [v_p_r, sV p_x.Race]) ⟨(S.tm rfl), (S.tm rfl), trivial⟩ Tryz.call38) (swimmer_raceOf_ok _ v_p_r p_r (hs_p_r.mono (S.le_arg nil_sub)) p_x.Race _ hr4) rfl ?_; clear S; intro v3 a w6 hv3 hk6 hn3 S
   subst hv3
   refine lv S (rn_move (S.tm rfl)) rfl ?_; clear S; intro a S
   refine lv S (rn_extract (S.tm rfl) rfl) rfl ?_; clear S; intro a S
   refine lv S (rn_extract (S.tm rfl) rfl) rfl ?_; clear S; intro a S
   refine l_alloc S Tryz.zeroValue42 (cs := [sV k_empty, iV 0, iV 0, iV 0, iV 0, iV 0, iV 0, iV 0]) rfl rfl ?_; clear S; intro a w7 b4 hz4 hk7 S
   refine l_store S (S.tm rfl) (S.tm rfl) (i := 0) (off := 0) rfl Tryz.sizeOf42 (vs := (GRace.enc r3.1)) rfl rfl rfl rfl ?_; clear S; intro w8 hk8 S
   refine lv S (rn_assign (S.tm rfl)) rfl ?_; clear S; intro a S
   refine l_done ?_
   replace S := S.nk [.blk b4 (GRace.enc r3.1) 42, .blk b2 [sV p_x.Key, sV p_x.Club, sV p_x.Race, u1.val] 37, .blk b1 (GBounds.enc p_b) 33] [(1, v_p_s), (2, v_p_m), (8, .pointer (some ⟨b1, 0, none⟩)), (9, .pointer (some ⟨b2, 0, none⟩)), (14, .pointer (some ⟨b4, 0, none⟩)), (15, bV r3.2)] [true, false, true, true] rfl (subR rfl)
   refine then_n (f_seq (f_seq (f_region (lv S (rn_move (S.tm rfl)) rfl ?_)))); clear S; intro a S
   refine lv S (rn_not (S.tm rfl)) rfl ?_; clear S; intro a S
   refine lv S (rn_move (S.tm rfl)) rfl ?_; clear S; intro a S
   refine f_cutm 4 (fun a w' => Keep [] w8 w' ∧ Sx w [] nov [.blk b4 (GRace.enc r3.1) 42, .blk b2 [sV p_x.Key, sV p_x.Club, sV p_x.Race, u1.val] 37, .blk b1 (GBounds.enc p_b) 33] [(1, v_p_s), (2, v_p_m), (8, .pointer (some ⟨b1, 0, none⟩)), (9, .pointer (some ⟨b2, 0, none⟩)), (14, .pointer (some ⟨b4, 0, none⟩)), (53, bV ((!r3.2) || (!decide (r3.1.Legs = 4))))] 136 a w') ?_ ?_
   ·rcases Bool.eq_false_or_eq_true (!r3.2) with hb3 | hb3
    ·iterate 3 (refine l_skip S rfl rfl rfl (neq_t hb3) rfl ?_ rfl; clear S; intro a S)
     refine lv S (rn_or_t (!decide (r3.1.Legs = 4)) hb3 (S.tm rfl) rfl) rfl ?_; clear S; intro a S
     refine l_done (then_n ?_)
     exact ⟨Keep.refl _ _, S.nf [true, true, true] rfl (subR rfl)⟩
    ·refine l_want S rfl rfl rfl hb3 (lv S (rn_fld fa_42_4 (S.tm rfl)) rfl ?_); clear S; intro a S
     refine l_want S rfl rfl rfl hb3 (lv S (rn_load Tryz.isAgg3 (S.tm rfl) (S.cell (i := 0) rfl rfl)) rfl ?_); clear S; intro a S
     refine l_want S rfl rfl rfl hb3 (lv S (rn_neq (S.tm rfl) rfl) rfl ?_); clear S; intro a S
     refine lv S (rn_or_f hb3 (S.tm rfl) (S.tm rfl)) rfl ?_; clear S; intro a S
     refine l_done (then_n ?_)
     exact ⟨Keep.refl _ _, S.nf [true, true, true] rfl (subR rfl)⟩
   clear S; rintro a w9 ⟨hk9, S⟩
   refine l_done (then_n (f_cond (S.tm rfl) (fun hb4 => ?_) (fun hb4 => ?_)))
   ·replace h := iteT h hb4
    refine f_seq (f_region (lv S (rn_assign rfl) rfl ?_)); clear S; intro a S
    refine lv S (rn_assign rfl) rfl ?_; clear S; intro a S
    refine l_done (then_n (wp_ret (then_r ?_)))
    obtain rfl := Option.some.inj h
    exact f_ret2 S Tryz.results12 rfl rfl rfl
   ·replace h := iteF h hb4
    refine wp_skip (then_n (f_seq (f_region (lv S (rn_assign rfl) rfl ?_)))); clear S; intro a S
    replace S := S.nil 71 3
    refine l_done (then_n (f_seq (f_seq (f_region (lv S (rn_fld fa_37_3 (S.tm rfl)) rfl ?_))))); clear S; intro a S
    refine lv S (rn_load Tryz.isAgg35 (S.tm rfl) (S.cell (i := 2) rfl rfl)) rfl ?_; clear S; intro a S
    refine lv S (rn_lenT sl_35 (S.tm rfl) (slc_len hs1)) rfl ?_; clear S; intro a S
    refine lv S (rn_move rfl) rfl ?_; clear S; intro a S
    refine l_done (then_n ?_)
    replace S := S.nk [.own (.slice none 0 0) 71 3 ([] : List GSwimmer).length (([] : List GSwimmer).flatMap GSwimmer.enc), .blk b4 (GRace.enc r3.1) 42, .blk b2 [sV p_x.Key, sV p_x.Club, sV p_x.Race, u1.val] 37, .blk b1 (GBounds.enc p_b) 33] [(1, v_p_s), (2, v_p_m), (8, .pointer (some ⟨b1, 0, none⟩)), (9, .pointer (some ⟨b2, 0, none⟩)), (14, .pointer (some ⟨b4, 0, none⟩)), (16, (.slice none 0 0)), (55, u1.val), (56, iV (p_x.Who.length : Int)), (57, iV 0)] [true, true, true, true] rfl (subR rfl)
    obtain ⟨j1, hj1, h⟩ := joinE h
    refine f_join (fun a w' => ∃ x1 : List GSwimmer, ∃ v4 : Value, j1 x1 = some r ∧ Sx w [] nov [.own v4 71 3 x1.length (x1.flatMap GSwimmer.enc), .blk b4 (GRace.enc r3.1) 42, .blk b2 [sV p_x.Key, sV p_x.Club, sV p_x.Race, u1.val] 37, .blk b1 (GBounds.enc p_b) 33] [(2, v_p_m), (8, .pointer (some ⟨b1, 0, none⟩)), (9, .pointer (some ⟨b2, 0, none⟩)), (14, .pointer (some ⟨b4, 0, none⟩)), (16, v4)] 136 a w') ?_ ?_
    ·refine wp_block (f_loop (fun (ys1 : List ByteArray) a w' => ∃ i1 : Nat, ∃ x1 : List GSwimmer, ∃ v4 : Value, (∃ dn, p_x.Who = dn ++ ys1 ∧ dn.length = i1) ∧ swimmer_Wrong_l1 p_s p_b j1 ys1 i1 x1 = some r ∧ Sx w [] nov [.own v4 71 3 x1.length (x1.flatMap GSwimmer.enc), .blk b4 (GRace.enc r3.1) 42, .blk b2 [sV p_x.Key, sV p_x.Club, sV p_x.Race, u1.val] 37, .blk b1 (GBounds.enc p_b) 33] [(1, v_p_s), (2, v_p_m), (8, .pointer (some ⟨b1, 0, none⟩)), (9, .pointer (some ⟨b2, 0, none⟩)), (14, .pointer (some ⟨b4, 0, none⟩)), (16, v4), (55, u1.val), (56, iV (p_x.Who.length : Int)), (57, iV (i1 : Int))] 136 a w') List.length p_x.Who ⟨0, ([] : List GSwimmer), (.slice none 0 0), ⟨[], rfl, rfl⟩, h, S.nf [true, true, true, true] rfl (subR rfl)⟩ ?_)
     clear S h; rintro ys1 a w10 ⟨i1, x1, v4, ⟨dn, hd1, hi1⟩, h, S⟩
     cases ys1 with
     | nil =>
      rw [swimmer_Wrong_l1.eq_1] at h
      refine f_seq (f_region (lv S (rn_lss (S.tm rfl) (S.tm rfl)) rfl ?_)); clear S; intro a S
      refine l_done ?_
      replace S := S.nk [.own v4 71 3 x1.length (x1.flatMap GSwimmer.enc), .blk b4 (GRace.enc r3.1) 42, .blk b2 [sV p_x.Key, sV p_x.Club, sV p_x.Race, u1.val] 37, .blk b1 (GBounds.enc p_b) 33] [(1, v_p_s), (2, v_p_m), (8, .pointer (some ⟨b1, 0, none⟩)), (9, .pointer (some ⟨b2, 0, none⟩)), (14, .pointer (some ⟨b4, 0, none⟩)), (16, v4), (55, u1.val), (56, iV (p_x.Who.length : Int)), (57, iV (i1 : Int)), (58, bV (decide ((i1 : Int) < (p_x.Who.length : Int))))] [true, true, true, true] rfl (subR rfl)
      refine then_n (f_seq (wp_cond_false ((S.tm rfl).trans (congrArg Value.bool (rng_nil hd1 hi1))) (wp_exit (then_x (then_x (x_same ?_))))))
      refine then_n ?_
      exact ⟨x1, v4, h, S.nf [true, true, true, true] rfl (subR rfl)⟩
     | cons y1 ys1 =>
      rw [swimmer_Wrong_l1.eq_2] at h
      refine f_seq (f_region (lv S (rn_lss (S.tm rfl) (S.tm rfl)) rfl ?_)); clear S; intro a S
      refine l_done ?_
      replace S := S.nk [.own v4 71 3 x1.length (x1.flatMap GSwimmer.enc), .blk b4 (GRace.enc r3.1) 42, .blk b2 [sV p_x.Key, sV p_x.Club, sV p_x.Race, u1.val] 37, .blk b1 (GBounds.enc p_b) 33] [(1, v_p_s), (2, v_p_m), (8, .pointer (some ⟨b1, 0, none⟩)), (9, .pointer (some ⟨b2, 0, none⟩)), (14, .pointer (some ⟨b4, 0, none⟩)), (16, v4), (55, u1.val), (56, iV (p_x.Who.length : Int)), (57, iV (i1 : Int)), (58, bV (decide ((i1 : Int) < (p_x.Who.length : Int))))] [true, true, true, true] rfl (subR rfl)
      refine then_n (f_seq (wp_cond_true ((S.tm rfl).trans (congrArg Value.bool (rng_cons hd1 hi1))) (wp_skip (then_n (f_seq (wp_block ?_))))))
      refine f_seq (f_region ?_)
      obtain ⟨b5, o1, hm1, hr5⟩ := rn_indexT (a := a) (x := .tmp 55) (y := .tmp 57) (ty := 0) sl_35 hs1 (get_mid hd1 hi1) rfl (S.tm rfl) (S.tm rfl)
      refine lv S (hr5 _) rfl ?_; clear S; intro a S
      clear hr5
      refine lv S (rn_ld Tryz.isAgg9 (off := o1) (o := 0) (S.tm rfl) (hm1.at S.emb0) rfl) rfl ?_; clear S; intro a S
      refine lv S (rn_assign (S.tm rfl)) rfl ?_; clear S; intro a S
      refine l_done (then_n (f_seq (f_region (lv S (rn_move (S.tm rfl)) rfl ?_)))); clear S; intro a S
      refine lv S (rn_move (S.tm rfl)) rfl ?_; clear S; intro a S
      refine lv S (rn_fld fa_33_3 (S.tm rfl)) rfl ?_; clear S; intro a S
      refine lv S (rn_load Tryz.isAgg3 (S.tm rfl) (S.cell (i := 3) rfl rfl)) rfl ?_; clear S; intro a S
      obtain ⟨r4, hr6, h⟩ := bindE h
      refine l_enter S (fun _ => run_call (vs := [v_p_s, sV y1, iV p_b.Day]) ⟨(S.tm rfl), (S.tm rfl), (S.tm rfl), trivial⟩ Tryz.call39) (swimmer_swimmerOf_ok _ v_p_s p_s (hs_p_s.mono (S.le_arg nil_sub)) y1 p_b.Day _ hr6) rfl ?_; clear S; intro v5 a w12 hv4 hk10 hn4 S
      subst hv4
      refine lv S (rn_move (S.tm rfl)) rfl ?_; clear S; intro a S
      refine lv S (rn_extract (S.tm rfl) rfl) rfl ?_; clear S; intro a S
      refine lv S (rn_extract (S.tm rfl) rfl) rfl ?_; clear S; intro a S
      refine l_alloc S Tryz.zeroValue71 (cs := [sV k_empty, iV 0, iV 0]) rfl rfl ?_; clear S; intro a w13 b6 hz5 hk11 S
      refine l_store S (S.tm rfl) (S.tm rfl) (i := 0) (off := 0) rfl Tryz.sizeOf71 (vs := (GSwimmer.enc r4.1)) rfl rfl rfl rfl ?_; clear S; intro w14 hk12 S
      refine lv S (rn_assign (S.tm rfl)) rfl ?_; clear S; intro a S
      refine l_done ?_
      replace S := S.nk [.blk b6 (GSwimmer.enc r4.1) 71, .own v4 71 3 x1.length (x1.flatMap GSwimmer.enc), .blk b4 (GRace.enc r3.1) 42, .blk b2 [sV p_x.Key, sV p_x.Club, sV p_x.Race, u1.val] 37, .blk b1 (GBounds.enc p_b) 33] [(1, v_p_s), (2, v_p_m), (8, .pointer (some ⟨b1, 0, none⟩)), (9, .pointer (some ⟨b2, 0, none⟩)), (14, .pointer (some ⟨b4, 0, none⟩)), (16, v4), (19, .pointer (some ⟨b6, 0, none⟩)), (20, bV r4.2), (55, u1.val), (56, iV (p_x.Who.length : Int)), (57, iV (i1 : Int))] [true, true, true, true, true] rfl (subR rfl)
      refine then_n (f_seq (f_seq (f_region (lv S (rn_move (S.tm rfl)) rfl ?_)))); clear S; intro a S
      refine lv S (rn_not (S.tm rfl)) rfl ?_; clear S; intro a S
      refine l_done (then_n (f_cond (S.tm rfl) (fun hb5 => ?_) (fun hb5 => ?_)))
      ·replace h := iteT h hb5
       refine f_seq (f_region (lv S (rn_assign rfl) rfl ?_)); clear S; intro a S
       refine lv S (rn_assign rfl) rfl ?_; clear S; intro a S
       refine l_done ?_
       replace S := S.nk [] [(10, sV k_who), (11, iV 0)] [false, false, false, false, false] rfl (subR rfl)
       refine then_n (wp_ret (then_r (blk_r (then_r (then_r (blk_r ?_))))))
       refine then_r (then_r ?_)
       obtain rfl := Option.some.inj h
       exact f_ret2 S Tryz.results12 rfl rfl rfl
      ·replace h := iteF h hb5
       refine wp_skip (then_n (f_region (lv S (rn_move (S.tm rfl)) rfl ?_))); clear S; intro a S
       refine lv S (rn_ldA Tryz.isAgg71 Tryz.sizeOf71 (off := 0) (o := 0) (part := (GSwimmer.enc r4.1)) rfl rfl (S.tm rfl) (S.cellsAt (i := 0) rfl)) rfl ?_; clear S; intro a S
       refine l_buildSlice S Tryz.underlying28 Tryz.sizeOf71 Tryz.zeroValue71 rfl rfl (pv := [(0, .agg (GSwimmer.enc r4.1).toArray)]) ⟨rfl, (S.tm rfl), trivial⟩ (cs := [sV r4.1.Key, iV r4.1.Sex, iV r4.1.Born]) (by kernel_rfl) rfl ?_; clear S; intro a w15 b7 hz6 hk13 S
       obtain ⟨hc1, h⟩ := chkE h
       refine l_appendT sl_28 GSwimmer.enc_ok S (S.tm rfl) (i := 2) rfl (S.tm rfl) (j := 0) rfl (ys := [r4.1]) rfl rfl rfl rfl (by have := room_lt hc1; omega) rfl ?_; clear S; intro v6 a w16 hk14 S
       refine lv S (rn_assign (S.tm rfl)) rfl ?_; clear S; intro a S
       refine l_done ?_
       replace S := S.nk [.own v6 71 3 (x1 ++ [r4.1]).length ((x1 ++ [r4.1]).flatMap GSwimmer.enc), .blk b4 (GRace.enc r3.1) 42, .blk b2 [sV p_x.Key, sV p_x.Club, sV p_x.Race, u1.val] 37, .blk b1 (GBounds.enc p_b) 33] [(1, v_p_s), (2, v_p_m), (8, .pointer (some ⟨b1, 0, none⟩)), (9, .pointer (some ⟨b2, 0, none⟩)), (14, .pointer (some ⟨b4, 0, none⟩)), (16, v6), (55, u1.val), (56, iV (p_x.Who.length : Int)), (57, iV (i1 : Int))] [false, false, true, true, true, true] rfl (subR rfl)
       refine blk_n (then_n (f_region (lv S (rn_add (S.tm rfl) rfl) rfl ?_))); clear S; intro a S
       refine lv S (rn_move (S.tm rfl)) rfl ?_; clear S; intro a S
       refine l_done (then_n ?_)
       exact ⟨ys1, ⟨i1 + 1, (x1 ++ [r4.1]), v6, ⟨_, (hd1).trans (List.append_cons _ _ _), by simp [hi1]⟩, h, S.nf [true, true, true, true] rfl ⟨rfl, rfl, rfl, rfl, rfl, rfl, rfl, rfl, (congrArg (fun z => some (Value.int .i64 z)) (rng_next hd1 hi1 (slc_max hs1))), trivial⟩⟩, Nat.lt_succ_self _⟩
    clear S h; rintro a w11 ⟨x1, v4, h, S⟩; rw [hj1] at h; clear hj1 j1
    refine then_n (f_seq (f_region (lv S (rn_assign rfl) rfl ?_))); clear S; intro a S
    refine lv S (rn_assign rfl) rfl ?_; clear S; intro a S
    refine lv S (rn_assign rfl) rfl ?_; clear S; intro a S
    refine l_done (then_n (f_seq (f_seq (f_region (lv S (rn_move (S.tm rfl)) rfl ?_))))); clear S; intro a S
    refine lv S (rn_lenT sl_28 (S.tm rfl) (own_len (S.own_at (i := 0) rfl))) rfl ?_; clear S; intro a S
    refine lv S (rn_move rfl) rfl ?_; clear S; intro a S
    refine l_done (then_n ?_)
    replace S := S.nk [.own v4 71 3 x1.length (x1.flatMap GSwimmer.enc), .blk b4 (GRace.enc r3.1) 42, .blk b2 [sV p_x.Key, sV p_x.Club, sV p_x.Race, u1.val] 37, .blk b1 (GBounds.enc p_b) 33] [(2, v_p_m), (8, .pointer (some ⟨b1, 0, none⟩)), (9, .pointer (some ⟨b2, 0, none⟩)), (14, .pointer (some ⟨b4, 0, none⟩)), (21, iV 0), (22, bV false), (23, bV false), (76, v4), (77, iV (x1.length : Int)), (78, iV 0)] [true, true, true, true] rfl (subR rfl)
    have hm2 := own_max (S.own_at (i := 0) rfl)
    obtain ⟨j2, hj2, h⟩ := joinE h
    refine f_join (fun a w' => ∃ x2 : Int, ∃ x3 : Bool, ∃ x4 : Bool, j2 x2 x3 x4 = some r ∧ Sx w [] nov [.own v4 71 3 x1.length (x1.flatMap GSwimmer.enc), .blk b4 (GRace.enc r3.1) 42, .blk b2 [sV p_x.Key, sV p_x.Club, sV p_x.Race, u1.val] 37, .blk b1 (GBounds.enc p_b) 33] [(14, .pointer (some ⟨b4, 0, none⟩)), (21, iV x2), (22, bV x3), (23, bV x4)] 136 a w') ?_ ?_
    ·refine wp_block (f_loop (fun (ys2 : List GSwimmer) a w' => ∃ i2 : Nat, ∃ x2 : Int, ∃ x3 : Bool, ∃ x4 : Bool, (∃ dn, x1 = dn ++ ys2 ∧ dn.length = i2) ∧ swimmer_Wrong_l2 p_m p_b p_x r3 j2 ys2 i2 x2 x3 x4 = some r ∧ Sx w [] nov [.own v4 71 3 x1.length (x1.flatMap GSwimmer.enc), .blk b4 (GRace.enc r3.1) 42, .blk b2 [sV p_x.Key, sV p_x.Club, sV p_x.Race, u1.val] 37, .blk b1 (GBounds.enc p_b) 33] [(2, v_p_m), (8, .pointer (some ⟨b1, 0, none⟩)), (9, .pointer (some ⟨b2, 0, none⟩)), (14, .pointer (some ⟨b4, 0, none⟩)), (21, iV x2), (22, bV x3), (23, bV x4), (76, v4), (77, iV (x1.length : Int)), (78, iV (i2 : Int))] 136 a w') List.length x1 ⟨0, 0, false, false, ⟨[], rfl, rfl⟩, h, S.nf [true, true, true, true] rfl (subR rfl)⟩ ?_)
     clear S h; rintro ys2 a w17 ⟨i2, x2, x3, x4, ⟨dn, hd2, hi2⟩, h, S⟩
     cases ys2 with
     | nil =>
      rw [swimmer_Wrong_l2.eq_1] at h
      refine f_seq (f_region (lv S (rn_lss (S.tm rfl) (S.tm rfl)) rfl ?_)); clear S; intro a S
      refine l_done ?_
      replace S := S.nk [.own v4 71 3 x1.length (x1.flatMap GSwimmer.enc), .blk b4 (GRace.enc r3.1) 42, .blk b2 [sV p_x.Key, sV p_x.Club, sV p_x.Race, u1.val] 37, .blk b1 (GBounds.enc p_b) 33] [(2, v_p_m), (8, .pointer (some ⟨b1, 0, none⟩)), (9, .pointer (some ⟨b2, 0, none⟩)), (14, .pointer (some ⟨b4, 0, none⟩)), (21, iV x2), (22, bV x3), (23, bV x4), (76, v4), (77, iV (x1.length : Int)), (78, iV (i2 : Int)), (79, bV (decide ((i2 : Int) < (x1.length : Int))))] [true, true, true, true] rfl (subR rfl)
      refine then_n (f_seq (wp_cond_false ((S.tm rfl).trans (congrArg Value.bool (rng_nil hd2 hi2))) (wp_exit (then_x (then_x (x_same ?_))))))
      refine then_n ?_
      exact ⟨x2, x3, x4, h, S.nf [true, true, true, true] rfl (subR rfl)⟩
     | cons y2 ys2 =>
      rw [swimmer_Wrong_l2.eq_2] at h
      refine f_seq (f_region (lv S (rn_lss (S.tm rfl) (S.tm rfl)) rfl ?_)); clear S; intro a S
      refine l_done ?_
      replace S := S.nk [.own v4 71 3 x1.length (x1.flatMap GSwimmer.enc), .blk b4 (GRace.enc r3.1) 42, .blk b2 [sV p_x.Key, sV p_x.Club, sV p_x.Race, u1.val] 37, .blk b1 (GBounds.enc p_b) 33] [(2, v_p_m), (8, .pointer (some ⟨b1, 0, none⟩)), (9, .pointer (some ⟨b2, 0, none⟩)), (14, .pointer (some ⟨b4, 0, none⟩)), (21, iV x2), (22, bV x3), (23, bV x4), (76, v4), (77, iV (x1.length : Int)), (78, iV (i2 : Int)), (79, bV (decide ((i2 : Int) < (x1.length : Int))))] [true, true, true, true] rfl (subR rfl)
      refine then_n (f_seq (wp_cond_true ((S.tm rfl).trans (congrArg Value.bool (rng_cons hd2 hi2))) (wp_skip (then_n (f_seq (wp_block ?_))))))
      refine f_seq (f_region ?_)
      obtain ⟨b8, hg1, hr7⟩ := rn_indexS (a := a) (x := .tmp 76) (y := .tmp 78) (ty := 0) sl_28 GSwimmer.enc_ok S (i := 0) rfl (get_mid hd2 hi2) rfl (S.tm rfl) (S.tm rfl)
      refine lv S (hr7 _) rfl ?_; clear S; intro a S
      clear hr7
      refine lv S (rn_ldA Tryz.isAgg71 Tryz.sizeOf71 (off := i2 * 3) (o := 0) (part := (GSwimmer.enc y2)) rfl rfl (S.tm rfl) (own_cells GSwimmer.enc_ok S (i := 0) rfl hg1 (get_mid hd2 hi2))) rfl ?_; clear S; intro a S
      refine l_alloc S Tryz.zeroValue71 (cs := [sV k_empty, iV 0, iV 0]) rfl rfl ?_; clear S; intro a w19 b9 hz7 hk15 S
      refine l_store S (S.tm rfl) (S.tm rfl) (i := 0) (off := 0) rfl Tryz.sizeOf71 (vs := (GSwimmer.enc y2)) rfl rfl rfl rfl ?_; clear S; intro w20 hk16 S
      refine l_done (then_n (f_seq (f_seq (d_region [] ([]) Tryz.mixed S rfl (by kernel_rfl) ?_)))); clear S; intro w22 hk18 hsel S
      refine d_quiet 0 S hsel rfl rfl rfl (by kernel_rfl) (by kernel_rfl) rfl (fun _ hw => (rn_move (S.tm rfl))) ?_; clear S; intro a S
      refine d_quiet 1 S hsel rfl rfl rfl (by kernel_rfl) (by kernel_rfl) rfl (fun _ hw => (rn_fld fa_71_0 (S.tm rfl))) ?_; clear S; intro a S
      refine d_quiet 2 S hsel rfl rfl rfl (by kernel_rfl) (by kernel_rfl) rfl (fun _ hw => (rn_ld Tryz.isAgg9 (off := 0) (o := 0) (S.tm rfl) ((S.blk_mem (i := 0) (cells := (GSwimmer.enc y2)) (b := b9) (T := 71) rfl (ne_nil (e' := .blk b9 (GSwimmer.enc y2) 71))).kept hw) rfl)) ?_; clear S; intro a S
      refine d_quiet 3 S hsel rfl rfl rfl (by kernel_rfl) (by kernel_rfl) rfl (fun _ hw => (rn_fld fa_33_3 (S.tm rfl))) ?_; clear S; intro a S
      refine d_quiet 4 S hsel rfl rfl rfl (by kernel_rfl) (by kernel_rfl) rfl (fun _ hw => (rn_ld Tryz.isAgg3 (off := 0) (o := 3) (S.tm rfl) ((S.blk_mem (i := 4) (cells := (GBounds.enc p_b)) (b := b1) (T := 33) rfl (ne_nil (e' := .blk b1 (GBounds.enc p_b) 33))).kept hw) rfl)) ?_; clear S; intro a S
      refine d_quiet 6 S hsel rfl rfl rfl (by kernel_rfl) (by kernel_rfl) rfl (fun _ hw => (rn_fld fa_37_1 (S.tm rfl))) ?_; clear S; intro a S
      refine d_quiet 7 S hsel rfl rfl rfl (by kernel_rfl) (by kernel_rfl) rfl (fun _ hw => (rn_ld Tryz.isAgg9 (off := 0) (o := 1) (S.tm rfl) ((S.blk_mem (i := 3) (cells := [sV p_x.Key, sV p_x.Club, sV p_x.Race, u1.val]) (b := b2) (T := 37) rfl (ne_nil (e' := .blk b2 [sV p_x.Key, sV p_x.Club, sV p_x.Race, u1.val] 37))).kept hw) rfl)) ?_; clear S; intro a S
      refine d_loud1 5 (by kernel_rfl) rfl (l_enter S (fun _ => run_call (vs := [v_p_m, sV y2.Key, iV p_b.Day]) ⟨(S.tm rfl), (S.tm rfl), (S.tm rfl), trivial⟩ Tryz.call40) (swimmer_clubAt_ok _ v_p_m p_m (hs_p_m.mono (S.le_arg nil_sub)) y2.Key p_b.Day _ rfl) rfl ?_); clear S; intro v8 a w23 hv6 hk19 hn6 S
      subst hv6
      refine l_done (d_next hk19 (d_rest [8] hsel (by kernel_rfl) rfl ?_))
      clear hsel
      refine s_lv S rfl (rn_sneq (S.tm rfl) (S.tm rfl)) rfl ?_; clear S; intro a S
      refine s_done ?_
      replace S := S.nk [.blk b9 (GSwimmer.enc y2) 71, .own v4 71 3 x1.length (x1.flatMap GSwimmer.enc), .blk b4 (GRace.enc r3.1) 42, .blk b2 [sV p_x.Key, sV p_x.Club, sV p_x.Race, u1.val] 37, .blk b1 (GBounds.enc p_b) 33] [(2, v_p_m), (8, .pointer (some ⟨b1, 0, none⟩)), (9, .pointer (some ⟨b2, 0, none⟩)), (14, .pointer (some ⟨b4, 0, none⟩)), (21, iV x2), (22, bV x3), (23, bV x4), (25, .pointer (some ⟨b9, 0, none⟩)), (76, v4), (77, iV (x1.length : Int)), (78, iV (i2 : Int)), (90, bV (!decide ((swimmer_clubAt p_m y2.Key p_b.Day) = p_x.Club)))] [true, true, true, true, true] rfl (subR rfl)
      refine then_n (f_cond (S.tm rfl) (fun hb6 => ?_) (fun hb6 => ?_))
      ·replace h := iteT h hb6
       refine f_seq (f_region (lv S (rn_assign rfl) rfl ?_)); clear S; intro a S
       refine lv S (rn_assign rfl) rfl ?_; clear S; intro a S
       refine l_done (then_n (wp_ret (then_r (blk_r (then_r (then_r ?_))))))
       refine blk_r (then_r (then_r ?_))
       obtain rfl := Option.some.inj h
       exact f_ret2 S Tryz.results12 rfl rfl rfl
      ·replace h := iteF h hb6
       refine wp_skip (then_n (f_seq (f_seq (f_region (lv S (rn_fld fa_71_1 (S.tm rfl)) rfl ?_))))); clear S; intro a S
       refine lv S (rn_load Tryz.isAgg3 (S.tm rfl) (S.cell (i := 0) rfl rfl)) rfl ?_; clear S; intro a S
       refine lv S (rn_eql (S.tm rfl) rfl) rfl ?_; clear S; intro a S
       refine l_done ?_
       replace S := S.nk [.blk b9 (GSwimmer.enc y2) 71, .own v4 71 3 x1.length (x1.flatMap GSwimmer.enc), .blk b4 (GRace.enc r3.1) 42, .blk b2 [sV p_x.Key, sV p_x.Club, sV p_x.Race, u1.val] 37, .blk b1 (GBounds.enc p_b) 33] [(2, v_p_m), (8, .pointer (some ⟨b1, 0, none⟩)), (9, .pointer (some ⟨b2, 0, none⟩)), (14, .pointer (some ⟨b4, 0, none⟩)), (21, iV x2), (22, bV x3), (23, bV x4), (25, .pointer (some ⟨b9, 0, none⟩)), (76, v4), (77, iV (x1.length : Int)), (78, iV (i2 : Int)), (93, bV (decide (y2.Sex = 1)))] [true, true, true, true, true] rfl (subR rfl)
       refine then_n ?_
       obtain ⟨j3, hj3, h⟩ := joinE h
       refine f_join (fun a w' => ∃ x5 : Int, j3 x5 = some r ∧ Sx w [] nov [.blk b9 (GSwimmer.enc y2) 71, .own v4 71 3 x1.length (x1.flatMap GSwimmer.enc), .blk b4 (GRace.enc r3.1) 42, .blk b2 [sV p_x.Key, sV p_x.Club, sV p_x.Race, u1.val] 37, .blk b1 (GBounds.enc p_b) 33] [(2, v_p_m), (8, .pointer (some ⟨b1, 0, none⟩)), (9, .pointer (some ⟨b2, 0, none⟩)), (14, .pointer (some ⟨b4, 0, none⟩)), (21, iV x5), (22, bV x3), (23, bV x4), (25, .pointer (some ⟨b9, 0, none⟩)), (76, v4), (77, iV (x1.length : Int)), (78, iV (i2 : Int))] 136 a w') ?_ ?_
       ·refine f_cond (S.tm rfl) (fun hb7 => ?_) (fun hb7 => ?_)
        ·replace h := iteT h hb7
         refine f_region (lv S (rn_move (S.tm rfl)) rfl ?_); clear S; intro a S
         refine lv S (rn_add (S.tm rfl) rfl) rfl ?_; clear S; intro a S
         refine lv S (rn_assign (S.tm rfl)) rfl ?_; clear S; intro a S
         refine l_done (then_n ?_)
         exact ⟨W (x2 + 1), h, S.nf [true, true, true, true, true] rfl (subR rfl)⟩
        ·replace h := iteF h hb7
         refine wp_skip (then_n ?_)
         exact ⟨x2, h, S.nf [true, true, true, true, true] rfl (subR rfl)⟩
       clear S h; rintro a w24 ⟨x5, h, S⟩; rw [hj3] at h; clear hj3 j3
       refine then_n (f_seq (f_region (lv S (rn_move (S.tm rfl)) rfl ?_))); clear S; intro a S
       refine lv S (rn_move (S.tm rfl)) rfl ?_; clear S; intro a S
       refine f_cutm 6 (fun a w' => Keep [] w24 w' ∧ Sx w [] nov [.blk b9 (GSwimmer.enc y2) 71, .own v4 71 3 x1.length (x1.flatMap GSwimmer.enc), .blk b4 (GRace.enc r3.1) 42, .blk b2 [sV p_x.Key, sV p_x.Club, sV p_x.Race, u1.val] 37, .blk b1 (GBounds.enc p_b) 33] [(2, v_p_m), (8, .pointer (some ⟨b1, 0, none⟩)), (9, .pointer (some ⟨b2, 0, none⟩)), (14, .pointer (some ⟨b4, 0, none⟩)), (21, iV x5), (23, bV x4), (25, .pointer (some ⟨b9, 0, none⟩)), (76, v4), (77, iV (x1.length : Int)), (78, iV (i2 : Int)), (103, bV (x3 || (!decide (y2.Sex = r3.1.Sex))))] 136 a w') ?_ ?_
       ·rcases Bool.eq_false_or_eq_true x3 with hb8 | hb8
        ·iterate 5 (refine l_skip S rfl rfl rfl (neq_t hb8) rfl ?_ rfl; clear S; intro a S)
         refine lv S (rn_or_t (!decide (y2.Sex = r3.1.Sex)) hb8 (S.tm rfl) rfl) rfl ?_; clear S; intro a S
         refine l_done (then_n ?_)
         exact ⟨Keep.refl _ _, S.nf [true, true, true, true, true] rfl (subR rfl)⟩
        ·refine l_want S rfl rfl rfl hb8 (lv S (rn_fld fa_71_1 (S.tm rfl)) rfl ?_); clear S; intro a S
         refine l_want S rfl rfl rfl hb8 (lv S (rn_load Tryz.isAgg3 (S.tm rfl) (S.cell (i := 0) rfl rfl)) rfl ?_); clear S; intro a S
         refine l_want S rfl rfl rfl hb8 (lv S (rn_fld fa_42_5 (S.tm rfl)) rfl ?_); clear S; intro a S
         refine l_want S rfl rfl rfl hb8 (lv S (rn_load Tryz.isAgg3 (S.tm rfl) (S.cell (i := 2) rfl rfl)) rfl ?_); clear S; intro a S
         refine l_want S rfl rfl rfl hb8 (lv S (rn_neq (S.tm rfl) (S.tm rfl)) rfl ?_); clear S; intro a S
         refine lv S (rn_or_f hb8 (S.tm rfl) (S.tm rfl)) rfl ?_; clear S; intro a S
         refine l_done (then_n ?_)
         exact ⟨Keep.refl _ _, S.nf [true, true, true, true, true] rfl (subR rfl)⟩
       clear S; rintro a w25 ⟨hk20, S⟩
       refine lv S (rn_assign (S.tm rfl)) rfl ?_; clear S; intro a S
       refine l_done (then_n ?_)
       obtain ⟨j4, hj4, h⟩ := joinE h
       refine f_join (fun a w' => ∃ x6 : Bool, j4 x6 = some r ∧ Sx w [] nov [.own v4 71 3 x1.length (x1.flatMap GSwimmer.enc), .blk b4 (GRace.enc r3.1) 42, .blk b2 [sV p_x.Key, sV p_x.Club, sV p_x.Race, u1.val] 37, .blk b1 (GBounds.enc p_b) 33] [(2, v_p_m), (8, .pointer (some ⟨b1, 0, none⟩)), (9, .pointer (some ⟨b2, 0, none⟩)), (14, .pointer (some ⟨b4, 0, none⟩)), (21, iV x5), (22, bV (x3 || (!decide (y2.Sex = r3.1.Sex)))), (23, bV x6), (76, v4), (77, iV (x1.length : Int)), (78, iV (i2 : Int))] 136 a w') ?_ ?_
       ·rcases Bool.eq_false_or_eq_true x4 with hb9 | hb9
        ·replace h := iteT h hb9
         refine d_region [] ([]) Tryz.mixed S rfl (by kernel_rfl) ?_; clear S; intro w27 hk21 hsel S
         refine d_rest [0, 1, 2, 3, 4, 5, 6, 7, 8, 9, 10, 11, 12, 13, 14, 15] hsel (by kernel_rfl) rfl ?_
         clear hsel
         refine s_lv S rfl (rn_move (S.tm rfl)) rfl ?_; clear S; intro a S
         refine s_lv S rfl (rn_move (S.tm rfl)) rfl ?_; clear S; intro a S
         iterate 12 (refine s_skip S rfl rfl rfl rfl (neq_t hb9) rfl ?_ rfl; clear S; intro a S)
         refine s_lv S rfl (rn_pick_b hb9 (S.tm rfl) rfl) rfl ?_; clear S; intro a S
         refine s_lv S rfl (rn_assign (S.tm rfl)) rfl ?_; clear S; intro a S
         refine s_done ?_
         replace S := S.nk [.own v4 71 3 x1.length (x1.flatMap GSwimmer.enc), .blk b4 (GRace.enc r3.1) 42, .blk b2 [sV p_x.Key, sV p_x.Club, sV p_x.Race, u1.val] 37, .blk b1 (GBounds.enc p_b) 33] [(2, v_p_m), (8, .pointer (some ⟨b1, 0, none⟩)), (9, .pointer (some ⟨b2, 0, none⟩)), (14, .pointer (some ⟨b4, 0, none⟩)), (21, iV x5), (22, bV (x3 || (!decide (y2.Sex = r3.1.Sex)))), (23, bV true), (76, v4), (77, iV (x1.length : Int)), (78, iV (i2 : Int))] [false, true, true, true, true] rfl (subR rfl)
         refine then_n ?_
         exact ⟨true, h, S.nf [true, true, true, true] rfl (subR rfl)⟩
        ·replace h := iteF h hb9
         obtain ⟨r5, hr8, h⟩ := bindE h
         refine d_region [] ([]) Tryz.mixed S rfl (by kernel_rfl) ?_; clear S; intro w30 hk24 hsel S
         refine d_quiet 0 S hsel rfl rfl rfl (by kernel_rfl) (by kernel_rfl) rfl (fun _ hw => (rn_move (S.tm rfl))) ?_; clear S; intro a S
         refine d_quiet 1 S hsel rfl rfl rfl (by kernel_rfl) (by kernel_rfl) rfl (fun _ hw => (rn_move (S.tm rfl))) ?_; clear S; intro a S
         refine d_quiet_g 2 S hsel rfl rfl rfl rfl hb9 rfl rfl (by kernel_rfl) (by kernel_rfl) rfl (fun _ hw => (rn_ldA Tryz.isAgg71 Tryz.sizeOf71 (off := 0) (o := 0) (part := (GSwimmer.enc y2)) rfl rfl (S.tm rfl) ((S.blk_mem (i := 0) (cells := (GSwimmer.enc y2)) (b := b9) (T := 71) rfl (ne_nil (e' := .blk b9 (GSwimmer.enc y2) 71))).kept hw))) ?_; clear S; intro a S
         refine d_quiet_g 3 S hsel rfl rfl rfl rfl hb9 rfl rfl (by kernel_rfl) (by kernel_rfl) rfl (fun _ hw => (rn_fld fa_33_3 (S.tm rfl))) ?_; clear S; intro a S
         refine d_quiet_g 4 S hsel rfl rfl rfl rfl hb9 rfl rfl (by kernel_rfl) (by kernel_rfl) rfl (fun _ hw => (rn_ld Tryz.isAgg3 (off := 0) (o := 3) (S.tm rfl) ((S.blk_mem (i := 4) (cells := (GBounds.enc p_b)) (b := b1) (T := 33) rfl (ne_nil (e' := .blk b1 (GBounds.enc p_b) 33))).kept hw) rfl)) ?_; clear S; intro a S
         refine d_quiet_g 5 S hsel rfl rfl rfl rfl hb9 rfl rfl (by kernel_rfl) (by kernel_rfl) rfl (fun _ hw => (rn_fld fa_33_2 (S.tm rfl))) ?_; clear S; intro a S
         refine d_quiet_g 6 S hsel rfl rfl rfl rfl hb9 rfl rfl (by kernel_rfl) (by kernel_rfl) rfl (fun _ hw => (rn_ld Tryz.isAgg3 (off := 0) (o := 2) (S.tm rfl) ((S.blk_mem (i := 4) (cells := (GBounds.enc p_b)) (b := b1) (T := 33) rfl (ne_nil (e' := .blk b1 (GBounds.enc p_b) 33))).kept hw) rfl)) ?_; clear S; intro a S
         refine d_quiet_g 8 S hsel rfl rfl rfl rfl hb9 rfl rfl (by kernel_rfl) (by kernel_rfl) rfl (fun _ hw => (rn_fld fa_42_6 (S.tm rfl))) ?_; clear S; intro a S
         refine d_quiet_g 9 S hsel rfl rfl rfl rfl hb9 rfl rfl (by kernel_rfl) (by kernel_rfl) rfl (fun _ hw => (rn_ld Tryz.isAgg3 (off := 0) (o := 6) (S.tm rfl) ((S.blk_mem (i := 2) (cells := (GRace.enc r3.1)) (b := b4) (T := 42) rfl (ne_nil (e' := .blk b4 (GRace.enc r3.1) 42))).kept hw) rfl)) ?_; clear S; intro a S
         refine d_quiet_g 10 S hsel rfl rfl rfl rfl hb9 rfl rfl (by kernel_rfl) (by kernel_rfl) rfl (fun _ hw => (rn_fld fa_42_7 (S.tm rfl))) ?_; clear S; intro a S
         refine d_quiet_g 11 S hsel rfl rfl rfl rfl hb9 rfl rfl (by kernel_rfl) (by kernel_rfl) rfl (fun _ hw => (rn_ld Tryz.isAgg3 (off := 0) (o := 7) (S.tm rfl) ((S.blk_mem (i := 2) (cells := (GRace.enc r3.1)) (b := b4) (T := 42) rfl (ne_nil (e' := .blk b4 (GRace.enc r3.1) 42))).kept hw) rfl)) ?_; clear S; intro a S
         refine d_loud1 7 (by kernel_rfl) rfl (l_want S rfl rfl rfl hb9 (l_enter S (fun _ => run_call (vs := [.agg (GSwimmer.enc y2).toArray, iV p_b.Day, iV p_b.Age]) ⟨(S.tm rfl), (S.tm rfl), (S.tm rfl), trivial⟩ Tryz.call42) (swimmer_age_ok _ y2 p_b.Day p_b.Age _ hr8) rfl ?_)); clear S; intro v11 a w31 hv9 hk25 hn9 S
         subst hv9
         refine l_done (d_next hk25 (d_loud1 12 (by kernel_rfl) rfl (l_want S rfl rfl rfl hb9 (l_enter S (fun _ => run_call (vs := [iV r5, iV r3.1.Young, iV r3.1.Old]) ⟨(S.tm rfl), (S.tm rfl), (S.tm rfl), trivial⟩ Tryz.call41) (words_Within_ok _ r5 r3.1.Young r3.1.Old _ rfl) rfl ?_)))); clear S; intro v12 a w32 hv10 hk26 hn10 S
         subst hv10
         refine l_done (d_next hk26 (d_rest [13, 14, 15] hsel (by kernel_rfl) rfl ?_))
         clear hsel
         refine s_want S rfl rfl rfl rfl hb9 (s_lv0 S (rn_not (S.tm rfl)) rfl ?_); clear S; intro a S
         refine s_lv S rfl (rn_pick_c hb9 (S.tm rfl) (S.tm rfl)) rfl ?_; clear S; intro a S
         refine s_lv S rfl (rn_assign (S.tm rfl)) rfl ?_; clear S; intro a S
         refine s_done ?_
         replace S := S.nk [.own v4 71 3 x1.length (x1.flatMap GSwimmer.enc), .blk b4 (GRace.enc r3.1) 42, .blk b2 [sV p_x.Key, sV p_x.Club, sV p_x.Race, u1.val] 37, .blk b1 (GBounds.enc p_b) 33] [(2, v_p_m), (8, .pointer (some ⟨b1, 0, none⟩)), (9, .pointer (some ⟨b2, 0, none⟩)), (14, .pointer (some ⟨b4, 0, none⟩)), (21, iV x5), (22, bV (x3 || (!decide (y2.Sex = r3.1.Sex)))), (23, bV (!(words_Within r5 r3.1.Young r3.1.Old))), (76, v4), (77, iV (x1.length : Int)), (78, iV (i2 : Int)), (106, .agg (GSwimmer.enc y2).toArray), (107, .pointer (some ⟨b1, 3, none⟩)), (108, iV p_b.Day), (109, .pointer (some ⟨b1, 2, none⟩)), (110, iV p_b.Age), (111, iV r5), (112, .pointer (some ⟨b4, 6, none⟩)), (113, iV r3.1.Young), (114, .pointer (some ⟨b4, 7, none⟩)), (115, iV r3.1.Old), (116, bV (words_Within r5 r3.1.Young r3.1.Old)), (117, bV (!(words_Within r5 r3.1.Young r3.1.Old)))] [false, true, true, true, true] rfl (subR rfl)
         refine then_n ?_
         exact ⟨!(words_Within r5 r3.1.Young r3.1.Old), h, S.nf [true, true, true, true] rfl (subR rfl)⟩
       clear S h; rintro a w26 ⟨x6, h, S⟩; rw [hj4] at h; clear hj4 j4
       refine blk_n (then_n (f_region (lv S (rn_add (S.tm rfl) rfl) rfl ?_))); clear S; intro a S
       refine lv S (rn_move (S.tm rfl)) rfl ?_; clear S; intro a S
       refine l_done (then_n ?_)
       exact ⟨ys2, ⟨i2 + 1, x5, (x3 || (!decide (y2.Sex = r3.1.Sex))), x6, ⟨_, (hd2).trans (List.append_cons _ _ _), by simp [hi2]⟩, h, S.nf [true, true, true, true] rfl ⟨rfl, rfl, rfl, rfl, rfl, rfl, rfl, rfl, rfl, (congrArg (fun z => some (Value.int .i64 z)) (rng_next hd2 hi2 hm2)), trivial⟩⟩, Nat.lt_succ_self _⟩
    clear S h; rintro a w18 ⟨x2, x3, x4, h, S⟩; rw [hj2] at h; clear hj2 j2
    refine then_n (f_seq (wp_block (f_seq (f_seq (f_region (lv S (rn_fld fa_42_5 (S.tm rfl)) rfl ?_)))))); clear S; intro a S
    refine lv S (rn_load Tryz.isAgg3 (S.tm rfl) (S.cell (i := 1) rfl rfl)) rfl ?_; clear S; intro a S
    refine lv S (rn_neq (S.tm rfl) rfl) rfl ?_; clear S; intro a S
    refine lv S (rn_move (S.tm rfl)) rfl ?_; clear S; intro a S
    refine f_cutm 2 (fun a w' => Keep [] w18 w' ∧ Sx w [] nov [.own v4 71 3 x1.length (x1.flatMap GSwimmer.enc), .blk b4 (GRace.enc r3.1) 42, .blk b2 [sV p_x.Key, sV p_x.Club, sV p_x.Race, u1.val] 37, .blk b1 (GBounds.enc p_b) 33] [(14, .pointer (some ⟨b4, 0, none⟩)), (21, iV x2), (23, bV x4), (126, bV ((!decide (r3.1.Sex = 0)) && x3))] 136 a w') ?_ ?_
    ·rcases Bool.eq_false_or_eq_true (!decide (r3.1.Sex = 0)) with hb10 | hb10
     ·refine l_want S rfl rfl rfl hb10 (lv S (rn_move (S.tm rfl)) rfl ?_); clear S; intro a S
      refine lv S (rn_and_t hb10 (S.tm rfl) (S.tm rfl)) rfl ?_; clear S; intro a S
      refine l_done (then_n ?_)
      exact ⟨Keep.refl _ _, S.nf [true, true, true, true] rfl (subR rfl)⟩
     ·refine l_skip S rfl rfl rfl (neq_f hb10) rfl ?_ rfl; clear S; intro a S
      refine lv S (rn_and_f x3 hb10 (S.tm rfl) rfl) rfl ?_; clear S; intro a S
      refine l_done (then_n ?_)
      exact ⟨Keep.refl _ _, S.nf [true, true, true, true] rfl (subR rfl)⟩
    clear S; rintro a w33 ⟨hk27, S⟩
    refine lv S (rn_assign (S.tm rfl)) rfl ?_; clear S; intro a S
    refine l_done (then_n ?_)
    obtain ⟨j5, hj5, h⟩ := joinE h
    refine f_join (fun a w' => ∃ x7 : Bool, j5 x7 = some r ∧ Sx w [] nov [.own v4 71 3 x1.length (x1.flatMap GSwimmer.enc), .blk b4 (GRace.enc r3.1) 42, .blk b2 [sV p_x.Key, sV p_x.Club, sV p_x.Race, u1.val] 37, .blk b1 (GBounds.enc p_b) 33] [(23, bV x4), (120, bV x7)] 136 a w') ?_ ?_
    ·refine f_cond (S.tm rfl) (fun hb11 => ?_) (fun hb11 => ?_)
     ·replace h := iteT h hb11
      refine wp_skip (then_n ?_)
      exact ⟨((!decide (r3.1.Sex = 0)) && x3), h, S.nf [true, true, true, true] rfl (subR rfl)⟩
     ·replace h := iteF h hb11
      refine f_region (lv S (rn_fld fa_42_5 (S.tm rfl)) rfl ?_); clear S; intro a S
      refine lv S (rn_load Tryz.isAgg3 (S.tm rfl) (S.cell (i := 1) rfl rfl)) rfl ?_; clear S; intro a S
      refine lv S (rn_eql (S.tm rfl) rfl) rfl ?_; clear S; intro a S
      refine lv S (rn_move (S.tm rfl)) rfl ?_; clear S; intro a S
      refine f_cutm 3 (fun a w' => Keep [] w33 w' ∧ Sx w [] nov [.own v4 71 3 x1.length (x1.flatMap GSwimmer.enc), .blk b4 (GRace.enc r3.1) 42, .blk b2 [sV p_x.Key, sV p_x.Club, sV p_x.Race, u1.val] 37, .blk b1 (GBounds.enc p_b) 33] [(23, bV x4), (133, bV ((decide (r3.1.Sex = 0)) && (!decide (x2 = 2))))] 136 a w') ?_ ?_
      ·rcases Bool.eq_false_or_eq_true (decide (r3.1.Sex = 0)) with hb12 | hb12
       ·refine l_want S rfl rfl rfl hb12 (lv S (rn_move (S.tm rfl)) rfl ?_); clear S; intro a S
        refine l_want S rfl rfl rfl hb12 (lv S (rn_neq (S.tm rfl) rfl) rfl ?_); clear S; intro a S
        refine lv S (rn_and_t hb12 (S.tm rfl) (S.tm rfl)) rfl ?_; clear S; intro a S
        refine l_done (then_n ?_)
        exact ⟨Keep.refl _ _, S.nf [true, true, true, true] rfl (subR rfl)⟩
       ·refine l_skip S rfl rfl rfl (neq_f hb12) rfl ?_ rfl; clear S; intro a S
        refine l_skip S rfl rfl rfl (neq_f hb12) rfl ?_ rfl; clear S; intro a S
        refine lv S (rn_and_f (!decide (x2 = 2)) hb12 (S.tm rfl) rfl) rfl ?_; clear S; intro a S
        refine l_done (then_n ?_)
        exact ⟨Keep.refl _ _, S.nf [true, true, true, true] rfl (subR rfl)⟩
      clear S; rintro a w35 ⟨hk28, S⟩
      refine lv S (rn_assign (S.tm rfl)) rfl ?_; clear S; intro a S
      refine l_done (then_n ?_)
      exact ⟨((decide (r3.1.Sex = 0)) && (!decide (x2 = 2))), h, S.nf [true, true, true, true] rfl (subR rfl)⟩
    clear S h; rintro a w34 ⟨x7, h, S⟩; rw [hj5] at h; clear hj5 j5
    refine then_n (f_cond (S.tm rfl) (fun hb13 => ?_) (fun hb13 => ?_))
    ·replace h := iteT h hb13
     refine f_seq (f_region (lv S (rn_assign rfl) rfl ?_)); clear S; intro a S
     refine lv S (rn_assign rfl) rfl ?_; clear S; intro a S
     refine l_done (then_n (wp_ret (blk_r (then_r ?_))))
     obtain rfl := Option.some.inj h
     exact f_ret2 S Tryz.results12 rfl rfl rfl
    ·replace h := iteF h hb13
     refine f_seq (f_region (lv S (rn_move (S.tm rfl)) rfl ?_)); clear S; intro a S
     refine lv S (rn_assign (S.tm rfl)) rfl ?_; clear S; intro a S
     refine l_done (then_n (f_cond (S.tm rfl) (fun hb14 => ?_) (fun hb14 => ?_)))
     ·replace h := iteT h hb14
      refine f_seq (f_region (lv S (rn_assign rfl) rfl ?_)); clear S; intro a S
      refine lv S (rn_assign rfl) rfl ?_; clear S; intro a S
      refine l_done (then_n (wp_ret (blk_r (then_r ?_))))
      obtain rfl := Option.some.inj h
      exact f_ret2 S Tryz.results12 rfl rfl rfl
     ·replace h := iteF h hb14
      refine wp_skip (blk_n (then_n (f_seq (f_region (lv S (rn_assign rfl) rfl ?_))))); clear S; intro a S
      refine lv S (rn_assign rfl) rfl ?_; clear S; intro a S
      refine l_done (then_n (wp_ret ?_))
      obtain rfl := Option.some.inj h
      exact f_ret2 S Tryz.results12 rfl rfl rfl
theorem tumbref1_in_ok (w : World) (p_n : Int) (p_low : Int) (p_high : Int) (r : Bool) (h : tumbref1_in p_n p_low p_high = r) :
    Calls Tryz.prog 75 [iV p_n, iV p_low, iV p_high].toArray w (Ret w [] fun _ v _ => v = bV r) := by
 refine f_enter [] [] Tryz.func75 rfl Tryz.ntmps75 rfl (by simp) (by simp [fps]) (by simp [fps]) fun a S => ?_
 unfold tumbref1_in at h
 replace S := S.nk [] [(0, iV p_n), (1, iV p_low), (2, iV p_high)] [] rfl (subR rfl)
 refine f_seq (f_region (lv S (rn_assign rfl) rfl ?_)); clear S; intro a S
 refine l_done (then_n (f_seq (f_region (lv S (rn_move (S.tm rfl)) rfl ?_)))); clear S; intro a S
 refine lv S (rn_move (S.tm rfl)) rfl ?_; clear S; intro a S
 refine lv S (rn_leq (S.tm rfl) (S.tm rfl)) rfl ?_; clear S; intro a S
 refine lv S (rn_move (S.tm rfl)) rfl ?_; clear S; intro a S
 refine f_cutm 4 (fun a w' => Keep [] w w' ∧ Sx w [] nov [] [(14, bV ((decide (p_low ≤ p_n)) && (decide (p_n ≤ p_high))))] 15 a w') ?_ ?_
 ·rcases Bool.eq_false_or_eq_true (decide (p_low ≤ p_n)) with hb1 | hb1
  ·refine l_want S rfl rfl rfl hb1 (lv S (rn_move (S.tm rfl)) rfl ?_); clear S; intro a S
   refine l_want S rfl rfl rfl hb1 (lv S (rn_move (S.tm rfl)) rfl ?_); clear S; intro a S
   refine l_want S rfl rfl rfl hb1 (lv S (rn_leq (S.tm rfl) (S.tm rfl)) rfl ?_); clear S; intro a S
   refine lv S (rn_and_t hb1 (S.tm rfl) (S.tm rfl)) rfl ?_; clear S; intro a S
   refine l_done (then_n ?_)
   exact ⟨Keep.refl _ _, S.nf [] rfl ⟨rfl, trivial⟩⟩
  ·iterate 3 (refine l_skip S rfl rfl rfl (neq_f hb1) rfl ?_ rfl; clear S; intro a S)
   refine lv S (rn_and_f (decide (p_n ≤ p_high)) hb1 (S.tm rfl) rfl) rfl ?_; clear S; intro a S
   refine l_done (then_n ?_)
   exact ⟨Keep.refl _ _, S.nf [] rfl ⟨rfl, trivial⟩⟩
 clear S; rintro a w1 ⟨hk1, S⟩
 refine lv S (rn_assign (S.tm rfl)) rfl ?_; clear S; intro a S
 refine l_done (then_n (wp_ret ?_))
 subst h
 exact f_ret S Tryz.results75 rfl rfl
theorem strings_IndexByte_ok (w : World) (s : ByteArray) (c : Int) (r : Int) (h : strings_IndexByte s c = r) : Calls Tryz.prog 92 [.string s, .int .u8 c].toArray w (Ret w [] fun _ v _ => v = .int .i64 r) := by
  subst h
  exact ret_of_same (Any.strings_IndexByte Tryz.lays137 s c w)
theorem tumbref1_Key_ok (w : World) (p_s : ByteArray) (r : Bool) (h : tumbref1_Key p_s = some r) :
    Calls Tryz.prog 74 [sV p_s].toArray w (Ret w [] fun _ v _ => v = bV r) := by
 refine f_enter [] [] Tryz.func74 rfl Tryz.ntmps74 rfl (by simp) (by simp [fps]) (by simp [fps]) fun a S => ?_
 unfold tumbref1_Key at h
 replace S := S.nk [] [(0, sV p_s)] [] rfl ⟨rfl, trivial⟩
 refine f_seq (f_region (lv S (rn_assign rfl) rfl ?_)); clear S; intro a S
 refine l_done (then_n (f_seq (f_region (lv S (rn_move (S.tm rfl)) rfl ?_)))); clear S; intro a S
 refine lv S (rn_len_str Tryz.underlying9 (S.tm rfl)) rfl ?_; clear S; intro a S
 refine l_enter S (fun _ => run_call (vs := [iV (p_s.size : Int), iV 1, iV 40]) ⟨(S.tm rfl), rfl, rfl, trivial⟩ Tryz.call75) (tumbref1_in_ok _ (p_s.size : Int) 1 40 _ rfl) rfl ?_; clear S; intro v1 a w1 hv1 hk1 hn1 S
 subst hv1
 refine lv S (rn_move (S.tm rfl)) rfl ?_; clear S; intro a S
 obtain ⟨j1, hj1, h⟩ := joinE h
 refine f_cutm 4 (fun a w' => ∃ c1, j1 c1 = some r ∧ Keep [] w1 w' ∧ Sx w [] nov [] [(0, sV p_s), (10, bV c1)] 17 a w') ?_ ?_
 ·rcases Bool.eq_false_or_eq_true (tumbref1_in (p_s.size : Int) 1 40) with hb1 | hb1
  ·replace h := iteT h hb1
   refine l_want S rfl rfl rfl hb1 (lv S (rn_move (S.tm rfl)) rfl ?_); clear S; intro a S
   refine l_want S rfl rfl rfl hb1 ?_
   obtain ⟨r1, hr1, h⟩ := bindE h
   refine l_enter S (fun _ => run_call (vs := [sV p_s, sV k_abcdefghijkl_h0e2e2c]) ⟨(S.tm rfl), rfl, trivial⟩ Tryz.call82) (strings_Trim_ok _ p_s k_abcdefghijkl_h0e2e2c _ hr1) rfl ?_; clear S; intro v2 a w3 hv2 hk2 hn2 S
   subst hv2
   refine l_want S rfl rfl rfl hb1 (lv S (rn_seql (S.tm rfl) rfl) rfl ?_); clear S; intro a S
   refine lv S (rn_and_t hb1 (S.tm rfl) (S.tm rfl)) rfl ?_; clear S; intro a S
   refine l_done (then_n ?_)
   exact ⟨_, h, hk2, S.nf [] rfl (subR rfl)⟩
  ·replace h := iteF h hb1
   iterate 3 (refine l_skip S rfl rfl rfl (neq_f hb1) rfl ?_ rfl; clear S; intro a S)
   refine lv S (rn_and_f true hb1 (S.tm rfl) rfl) rfl ?_; clear S; intro a S
   refine l_done (then_n ?_)
   exact ⟨_, h, Keep.refl _ _, S.nf [] rfl (subR rfl)⟩
 clear S h; rintro a w2 ⟨c1, h, hk3, S⟩; rw [hj1] at h; clear hj1 j1
 refine lv S (rn_move (S.tm rfl)) rfl ?_; clear S; intro a S
 obtain ⟨j2, hj2, h⟩ := joinE h
 refine f_cutm 5 (fun a w' => ∃ c2, j2 c2 = some r ∧ Keep [] w2 w' ∧ Sx w [] nov [] [(16, bV c2)] 17 a w') ?_ ?_
 ·rcases Bool.eq_false_or_eq_true c1 with hb2 | hb2
  ·replace h := iteT h hb2
   refine l_want S rfl rfl rfl hb2 (lv S (rn_move (S.tm rfl)) rfl ?_); clear S; intro a S
   refine l_want S rfl rfl rfl hb2 ?_
   obtain ⟨hc1, h⟩ := chkE h
   refine lv S (rn_sindexT Tryz.underlying9 (S.tm rfl) rfl hc1) rfl ?_; clear S; intro a S
   refine l_want S rfl rfl rfl hb2 (l_enter S (fun _ => run_call (vs := [sV k_abcdefghijklmnopqrstuvwxyz, .int .u8 (sbyte p_s 0)]) ⟨rfl, (S.tm rfl), trivial⟩ Tryz.call92) (strings_IndexByte_ok _ k_abcdefghijklmnopqrstuvwxyz (sbyte p_s 0) _ rfl) rfl ?_); clear S; intro v3 a w5 hv3 hk4 hn3 S
   subst hv3
   refine l_want S rfl rfl rfl hb2 (lv S (rn_geq (S.tm rfl) rfl) rfl ?_); clear S; intro a S
   refine lv S (rn_and_t hb2 (S.tm rfl) (S.tm rfl)) rfl ?_; clear S; intro a S
   refine l_done (then_n ?_)
   exact ⟨_, h, hk4, S.nf [] rfl ⟨rfl, trivial⟩⟩
  ·replace h := iteF h hb2
   iterate 4 (refine l_skip S rfl rfl rfl (neq_f hb2) rfl ?_ rfl; clear S; intro a S)
   refine lv S (rn_and_f true hb2 (S.tm rfl) rfl) rfl ?_; clear S; intro a S
   refine l_done (then_n ?_)
   exact ⟨_, h, Keep.refl _ _, S.nf [] rfl ⟨rfl, trivial⟩⟩
 clear S h; rintro a w4 ⟨c2, h, hk5, S⟩; rw [hj2] at h; clear hj2 j2
 refine lv S (rn_assign (S.tm rfl)) rfl ?_; clear S; intro a S
 refine l_done (then_n (wp_ret ?_))
 obtain rfl := Option.some.inj h
 exact f_ret S Tryz.results74 rfl rfl
theorem tumbref1_RaceFault_ok (w : World) (p_r : GRace) (r : Int) (h : tumbref1_RaceFault p_r = some r) :
    Calls Tryz.prog 43 [.agg (GRace.enc p_r).toArray].toArray w (Ret w [] fun _ v _ => v = iV r) := by
 refine f_enter [] [] Tryz.func43 rfl Tryz.ntmps43 rfl (by simp) (by simp [fps]) (by simp [fps]) fun a S => ?_
 unfold tumbref1_RaceFault at h
 replace S := S.nk [] [(0, .agg (GRace.enc p_r).toArray)] [] rfl ⟨rfl, trivial⟩
 refine f_seq (f_region (l_box S (S.tm rfl) (cs := (GRace.enc p_r)) rfl rfl ?_)); clear S; intro a w1 b1 hz1 hk1 S
 refine lv S (rn_assign rfl) rfl ?_; clear S; intro a S
 refine l_done (then_n (f_seq (wp_block (f_seq (f_region (lv S (rn_fld fa_42_0 (S.tm rfl)) rfl ?_)))))); clear S; intro a S
 refine lv S (rn_load Tryz.isAgg9 (S.tm rfl) (S.cell (i := 0) rfl rfl)) rfl ?_; clear S; intro a S
 obtain ⟨r1, hr1, h⟩ := bindE h
 refine l_enter S (fun _ => run_call (vs := [sV p_r.Key]) ⟨(S.tm rfl), trivial⟩ Tryz.call74) (tumbref1_Key_ok _ p_r.Key _ hr1) rfl ?_; clear S; intro v1 a w2 hv1 hk2 hn1 S
 subst hv1
 refine lv S (rn_not (S.tm rfl)) rfl ?_; clear S; intro a S
 refine lv S (rn_assign (S.tm rfl)) rfl ?_; clear S; intro a S
 refine l_done (then_n (f_cond (S.tm rfl) (fun hb1 => ?_) (fun hb1 => ?_)))
 ·replace h := iteT h hb1
  refine f_seq (f_region (lv S (rn_assign rfl) rfl ?_)); clear S; intro a S
  refine l_done (then_n (wp_ret (blk_r (then_r ?_))))
  obtain rfl := Option.some.inj h
  exact f_ret S Tryz.results43 rfl rfl
 ·replace h := iteF h hb1
  refine f_seq (f_region (lv S (rn_fld fa_42_2 (S.tm rfl)) rfl ?_)); clear S; intro a S
  refine lv S (rn_load Tryz.isAgg3 (S.tm rfl) (S.cell (i := 0) rfl rfl)) rfl ?_; clear S; intro a S
  refine l_enter S (fun _ => run_call (vs := [iV p_r.Stroke, iV 1, iV 5]) ⟨(S.tm rfl), rfl, rfl, trivial⟩ Tryz.call75) (tumbref1_in_ok _ p_r.Stroke 1 5 _ rfl) rfl ?_; clear S; intro v2 a w3 hv2 hk3 hn2 S
  subst hv2
  refine lv S (rn_not (S.tm rfl)) rfl ?_; clear S; intro a S
  refine lv S (rn_move (S.tm rfl)) rfl ?_; clear S; intro a S
  refine f_cutm 5 (fun a w' => Keep [] w3 w' ∧ Sx w [] nov [.blk b1 (GRace.enc p_r) 42] [(1, .pointer (some ⟨b1, 0, none⟩)), (18, bV ((!(tumbref1_in p_r.Stroke 1 5)) || (!(tumbref1_in p_r.Sex 0 2))))] 79 a w') ?_ ?_
  ·rcases Bool.eq_false_or_eq_true (!(tumbref1_in p_r.Stroke 1 5)) with hb2 | hb2
   ·iterate 4 (refine l_skip S rfl rfl rfl (neq_t hb2) rfl ?_ rfl; clear S; intro a S)
    refine lv S (rn_or_t (!(tumbref1_in p_r.Sex 0 2)) hb2 (S.tm rfl) rfl) rfl ?_; clear S; intro a S
    refine l_done (then_n ?_)
    exact ⟨Keep.refl _ _, S.nf [true] rfl (subR rfl)⟩
   ·refine l_want S rfl rfl rfl hb2 (lv S (rn_fld fa_42_5 (S.tm rfl)) rfl ?_); clear S; intro a S
    refine l_want S rfl rfl rfl hb2 (lv S (rn_load Tryz.isAgg3 (S.tm rfl) (S.cell (i := 0) rfl rfl)) rfl ?_); clear S; intro a S
    refine l_want S rfl rfl rfl hb2 (l_enter S (fun _ => run_call (vs := [iV p_r.Sex, iV 0, iV 2]) ⟨(S.tm rfl), rfl, rfl, trivial⟩ Tryz.call75) (tumbref1_in_ok _ p_r.Sex 0 2 _ rfl) rfl ?_); clear S; intro v3 a w5 hv3 hk4 hn3 S
    subst hv3
    refine l_want S rfl rfl rfl hb2 (lv S (rn_not (S.tm rfl)) rfl ?_); clear S; intro a S
    refine lv S (rn_or_f hb2 (S.tm rfl) (S.tm rfl)) rfl ?_; clear S; intro a S
    refine l_done (then_n ?_)
    exact ⟨hk4, S.nf [true] rfl (subR rfl)⟩
  clear S; rintro a w4 ⟨hk5, S⟩
  refine lv S (rn_assign (S.tm rfl)) rfl ?_; clear S; intro a S
  refine l_done (then_n (f_cond (S.tm rfl) (fun hb3 => ?_) (fun hb3 => ?_)))
  ·replace h := iteT h hb3
   refine f_seq (f_region (lv S (rn_assign rfl) rfl ?_)); clear S; intro a S
   refine l_done (then_n (wp_ret (blk_r (then_r ?_))))
   obtain rfl := Option.some.inj h
   exact f_ret S Tryz.results43 rfl rfl
  ·replace h := iteF h hb3
   refine f_seq (f_seq (f_region (lv S (rn_fld fa_42_3 (S.tm rfl)) rfl ?_))); clear S; intro a S
   refine lv S (rn_load Tryz.isAgg3 (S.tm rfl) (S.cell (i := 0) rfl rfl)) rfl ?_; clear S; intro a S
   refine lv S (rn_neq (S.tm rfl) rfl) rfl ?_; clear S; intro a S
   refine lv S (rn_move (S.tm rfl)) rfl ?_; clear S; intro a S
   refine f_cutm 4 (fun a w' => Keep [] w4 w' ∧ Sx w [] nov [.blk b1 (GRace.enc p_r) 42] [(1, .pointer (some ⟨b1, 0, none⟩)), (27, bV ((!decide (p_r.Course = 25)) && (!decide (p_r.Course = 50))))] 79 a w') ?_ ?_
   ·rcases Bool.eq_false_or_eq_true (!decide (p_r.Course = 25)) with hb4 | hb4
    ·refine l_want S rfl rfl rfl hb4 (lv S (rn_fld fa_42_3 (S.tm rfl)) rfl ?_); clear S; intro a S
     refine l_want S rfl rfl rfl hb4 (lv S (rn_load Tryz.isAgg3 (S.tm rfl) (S.cell (i := 0) rfl rfl)) rfl ?_); clear S; intro a S
     refine l_want S rfl rfl rfl hb4 (lv S (rn_neq (S.tm rfl) rfl) rfl ?_); clear S; intro a S
     refine lv S (rn_and_t hb4 (S.tm rfl) (S.tm rfl)) rfl ?_; clear S; intro a S
     refine l_done (then_n ?_)
     exact ⟨Keep.refl _ _, S.nf [true] rfl (subR rfl)⟩
    ·iterate 3 (refine l_skip S rfl rfl rfl (neq_f hb4) rfl ?_ rfl; clear S; intro a S)
     refine lv S (rn_and_f (!decide (p_r.Course = 50)) hb4 (S.tm rfl) rfl) rfl ?_; clear S; intro a S
     refine l_done (then_n ?_)
     exact ⟨Keep.refl _ _, S.nf [true] rfl (subR rfl)⟩
   clear S; rintro a w6 ⟨hk6, S⟩
   refine lv S (rn_assign (S.tm rfl)) rfl ?_; clear S; intro a S
   refine l_done (then_n ?_)
   obtain ⟨j1, hj1, h⟩ := joinE h
   refine f_join (fun a w' => ∃ x1 : Bool, j1 x1 = some r ∧ Sx w [] nov [.blk b1 (GRace.enc p_r) 42] [(1, .pointer (some ⟨b1, 0, none⟩)), (19, bV x1)] 79 a w') ?_ ?_
   ·refine f_cond (S.tm rfl) (fun hb5 => ?_) (fun hb5 => ?_)
    ·replace h := iteT h hb5
     refine wp_skip (then_n ?_)
     exact ⟨((!decide (p_r.Course = 25)) && (!decide (p_r.Course = 50))), h, S.nf [true] rfl (subR rfl)⟩
    ·replace h := iteF h hb5
     refine f_seq (f_region (lv S (rn_fld fa_42_4 (S.tm rfl)) rfl ?_)); clear S; intro a S
     refine lv S (rn_load Tryz.isAgg3 (S.tm rfl) (S.cell (i := 0) rfl rfl)) rfl ?_; clear S; intro a S
     refine l_enter S (fun _ => run_call (vs := [iV p_r.Legs, iV 1, iV 4]) ⟨(S.tm rfl), rfl, rfl, trivial⟩ Tryz.call75) (tumbref1_in_ok _ p_r.Legs 1 4 _ rfl) rfl ?_; clear S; intro v4 a w8 hv4 hk7 hn4 S
     subst hv4
     refine lv S (rn_not (S.tm rfl)) rfl ?_; clear S; intro a S
     refine lv S (rn_assign (S.tm rfl)) rfl ?_; clear S; intro a S
     refine l_done (then_n ?_)
     obtain ⟨j2, hj2, h⟩ := joinE h
     refine f_join (fun a w' => ∃ x2 : Bool, j2 x2 = some r ∧ Sx w [] nov [.blk b1 (GRace.enc p_r) 42] [(1, .pointer (some ⟨b1, 0, none⟩)), (19, bV x2)] 79 a w') ?_ ?_
     ·refine f_cond (S.tm rfl) (fun hb6 => ?_) (fun hb6 => ?_)
      ·replace h := iteT h hb6
       refine wp_skip (then_n ?_)
       exact ⟨!(tumbref1_in p_r.Legs 1 4), h, S.nf [true] rfl (subR rfl)⟩
      ·replace h := iteF h hb6
       refine f_seq (f_region (lv S (rn_fld fa_42_1 (S.tm rfl)) rfl ?_)); clear S; intro a S
       refine lv S (rn_load Tryz.isAgg3 (S.tm rfl) (S.cell (i := 0) rfl rfl)) rfl ?_; clear S; intro a S
       refine l_enter S (fun _ => run_call (vs := [iV p_r.Metres, iV 25, iV 1500]) ⟨(S.tm rfl), rfl, rfl, trivial⟩ Tryz.call75) (tumbref1_in_ok _ p_r.Metres 25 1500 _ rfl) rfl ?_; clear S; intro v5 a w10 hv5 hk8 hn5 S
       subst hv5
       refine lv S (rn_not (S.tm rfl)) rfl ?_; clear S; intro a S
       refine lv S (rn_assign (S.tm rfl)) rfl ?_; clear S; intro a S
       refine l_done (then_n ?_)
       obtain ⟨j3, hj3, h⟩ := joinE h
       refine f_join (fun a w' => ∃ x3 : Bool, j3 x3 = some r ∧ Sx w [] nov [.blk b1 (GRace.enc p_r) 42] [(1, .pointer (some ⟨b1, 0, none⟩)), (19, bV x3)] 79 a w') ?_ ?_
       ·refine f_cond (S.tm rfl) (fun hb7 => ?_) (fun hb7 => ?_)
        ·replace h := iteT h hb7
         refine wp_skip (then_n ?_)
         exact ⟨!(tumbref1_in p_r.Metres 25 1500), h, S.nf [true] rfl (subR rfl)⟩
        ·replace h := iteF h hb7
         refine f_seq (f_region (lv S (rn_fld fa_42_6 (S.tm rfl)) rfl ?_)); clear S; intro a S
         refine lv S (rn_load Tryz.isAgg3 (S.tm rfl) (S.cell (i := 0) rfl rfl)) rfl ?_; clear S; intro a S
         refine lv S (rn_fld fa_42_7 (S.tm rfl)) rfl ?_; clear S; intro a S
         refine lv S (rn_load Tryz.isAgg3 (S.tm rfl) (S.cell (i := 0) rfl rfl)) rfl ?_; clear S; intro a S
         refine l_enter S (fun _ => run_call (vs := [iV p_r.Young, iV 0, iV p_r.Old]) ⟨(S.tm rfl), rfl, (S.tm rfl), trivial⟩ Tryz.call75) (tumbref1_in_ok _ p_r.Young 0 p_r.Old _ rfl) rfl ?_; clear S; intro v6 a w12 hv6 hk9 hn6 S
         subst hv6
         refine lv S (rn_not (S.tm rfl)) rfl ?_; clear S; intro a S
         refine lv S (rn_assign (S.tm rfl)) rfl ?_; clear S; intro a S
         refine l_done ?_
         replace S := S.nk [.blk b1 (GRace.enc p_r) 42] [(1, .pointer (some ⟨b1, 0, none⟩)), (19, bV (!(tumbref1_in p_r.Young 0 p_r.Old)))] [true] rfl (subR rfl)
         refine then_n ?_
         obtain ⟨j4, hj4, h⟩ := joinE h
         refine f_join (fun a w' => ∃ x4 : Bool, j4 x4 = some r ∧ Sx w [] nov [.blk b1 (GRace.enc p_r) 42] [(1, .pointer (some ⟨b1, 0, none⟩)), (19, bV x4)] 79 a w') ?_ ?_
         ·refine f_cond (S.tm rfl) (fun hb8 => ?_) (fun hb8 => ?_)
          ·replace h := iteT h hb8
           refine wp_skip (then_n ?_)
           exact ⟨!(tumbref1_in p_r.Young 0 p_r.Old), h, S.nf [true] rfl (subR rfl)⟩
          ·replace h := iteF h hb8
           refine f_region (lv S (rn_fld fa_42_7 (S.tm rfl)) rfl ?_); clear S; intro a S
           refine lv S (rn_load Tryz.isAgg3 (S.tm rfl) (S.cell (i := 0) rfl rfl)) rfl ?_; clear S; intro a S
           refine lv S (rn_gtr (S.tm rfl) rfl) rfl ?_; clear S; intro a S
           refine lv S (rn_assign (S.tm rfl)) rfl ?_; clear S; intro a S
           refine l_done (then_n ?_)
           exact ⟨decide (120 < p_r.Old), h, S.nf [true] rfl (subR rfl)⟩
         clear S h; rintro a w13 ⟨x4, h, S⟩; rw [hj4] at h; clear hj4 j4
         refine then_n ?_
         exact ⟨x4, h, S.nf [true] rfl (subR rfl)⟩
       clear S h; rintro a w11 ⟨x3, h, S⟩; rw [hj3] at h; clear hj3 j3
       refine then_n ?_
       exact ⟨x3, h, S.nf [true] rfl (subR rfl)⟩
     clear S h; rintro a w9 ⟨x2, h, S⟩; rw [hj2] at h; clear hj2 j2
     refine then_n ?_
     exact ⟨x2, h, S.nf [true] rfl (subR rfl)⟩
   clear S h; rintro a w7 ⟨x1, h, S⟩; rw [hj1] at h; clear hj1 j1
   refine then_n (f_cond (S.tm rfl) (fun hb9 => ?_) (fun hb9 => ?_))
   ·replace h := iteT h hb9
    refine f_seq (f_region (lv S (rn_assign rfl) rfl ?_)); clear S; intro a S
    refine l_done (then_n (wp_ret (blk_r (then_r ?_))))
    obtain rfl := Option.some.inj h
    exact f_ret S Tryz.results43 rfl rfl
   ·replace h := iteF h hb9
    refine f_seq (f_region (lv S (rn_fld fa_42_1 (S.tm rfl)) rfl ?_)); clear S; intro a S
    refine lv S (rn_load Tryz.isAgg3 (S.tm rfl) (S.cell (i := 0) rfl rfl)) rfl ?_; clear S; intro a S
    refine lv S (rn_fld fa_42_3 (S.tm rfl)) rfl ?_; clear S; intro a S
    refine lv S (rn_load Tryz.isAgg3 (S.tm rfl) (S.cell (i := 0) rfl rfl)) rfl ?_; clear S; intro a S
    obtain ⟨hc1, h⟩ := chkE h
    refine lv S (rn_rem (S.tm rfl) (S.tm rfl) (ne0_of hc1)) rfl ?_; clear S; intro a S
    refine lv S (rn_neq (S.tm rfl) rfl) rfl ?_; clear S; intro a S
    refine lv S (rn_assign (S.tm rfl)) rfl ?_; clear S; intro a S
    refine l_done (then_n (f_cond (S.tm rfl) (fun hb10 => ?_) (fun hb10 => ?_)))
    ·replace h := iteT h hb10
     refine f_seq (f_region (lv S (rn_assign rfl) rfl ?_)); clear S; intro a S
     refine l_done (then_n (wp_ret (blk_r (then_r ?_))))
     obtain rfl := Option.some.inj h
     exact f_ret S Tryz.results43 rfl rfl
    ·replace h := iteF h hb10
     refine wp_skip (blk_n (then_n (f_seq (f_seq (f_region (lv S (rn_fld fa_42_2 (S.tm rfl)) rfl ?_)))))); clear S; intro a S
     refine lv S (rn_load Tryz.isAgg3 (S.tm rfl) (S.cell (i := 0) rfl rfl)) rfl ?_; clear S; intro a S
     refine lv S (rn_eql (S.tm rfl) rfl) rfl ?_; clear S; intro a S
     refine lv S (rn_move (S.tm rfl)) rfl ?_; clear S; intro a S
     obtain ⟨j5, hj5, h⟩ := joinE h
     refine f_cutm 23 (fun a w' => ∃ c1, j5 c1 = some r ∧ Keep [] w7 w' ∧ Sx w [] nov [.blk b1 (GRace.enc p_r) 42] [(78, bV c1)] 79 a w') ?_ ?_
     ·rcases Bool.eq_false_or_eq_true (decide (p_r.Stroke = 5)) with hb11 | hb11
      ·replace h := iteT h hb11
       refine l_want S rfl rfl rfl hb11 (lv S (rn_fld fa_42_4 (S.tm rfl)) rfl ?_); clear S; intro a S
       refine l_want S rfl rfl rfl hb11 (lv S (rn_load Tryz.isAgg3 (S.tm rfl) (S.cell (i := 0) rfl rfl)) rfl ?_); clear S; intro a S
       refine l_want S rfl rfl rfl hb11 (lv S (rn_eql (S.tm rfl) rfl) rfl ?_); clear S; intro a S
       refine l_want S rfl rfl rfl hb11 (lv S (rn_move (S.tm rfl)) rfl ?_); clear S; intro a S
       obtain ⟨j6, hj6, h⟩ := joinE h
       refine f_cutm 8 (fun a w' => ∃ c2, j6 c2 = some r ∧ Keep [] w7 w' ∧ Sx w [] nov [.blk b1 (GRace.enc p_r) 42] [(1, .pointer (some ⟨b1, 0, none⟩)), (55, bV (decide (p_r.Stroke = 5))), (67, bV c2)] 79 a w') ?_ ?_
       ·rcases Bool.eq_false_or_eq_true (decide (p_r.Legs = 1)) with hb12 | hb12
        ·replace h := iteT h hb12
         refine l_want S rfl rfl rfl hb12 (lv S (rn_fld fa_42_1 (S.tm rfl)) rfl ?_); clear S; intro a S
         refine l_want S rfl rfl rfl hb12 (lv S (rn_load Tryz.isAgg3 (S.tm rfl) (S.cell (i := 0) rfl rfl)) rfl ?_); clear S; intro a S
         refine l_want S rfl rfl rfl hb12 (lv S (rn_fld fa_42_3 (S.tm rfl)) rfl ?_); clear S; intro a S
         refine l_want S rfl rfl rfl hb12 (lv S (rn_load Tryz.isAgg3 (S.tm rfl) (S.cell (i := 0) rfl rfl)) rfl ?_); clear S; intro a S
         refine l_want S rfl rfl rfl hb12 (lv S (rn_mul rfl (S.tm rfl)) rfl ?_); clear S; intro a S
         refine l_want S rfl rfl rfl hb12 ?_
         obtain ⟨hc2, h⟩ := chkE h
         refine lv S (rn_rem (S.tm rfl) (S.tm rfl) (ne0_of hc2)) rfl ?_; clear S; intro a S
         refine l_want S rfl rfl rfl hb12 (lv S (rn_neq (S.tm rfl) rfl) rfl ?_); clear S; intro a S
         refine l_want S rfl rfl rfl hb11 (lv S (rn_and_t hb12 (S.tm rfl) (S.tm rfl)) rfl ?_); clear S; intro a S
         refine l_done (then_n ?_)
         exact ⟨_, h, Keep.refl _ _, S.nf [true] rfl (subR rfl)⟩
        ·replace h := iteF h hb12
         iterate 7 (refine l_skip S rfl rfl rfl (neq_f hb12) rfl ?_ rfl; clear S; intro a S)
         refine l_want S rfl rfl rfl hb11 (lv S (rn_and_f true hb12 (S.tm rfl) rfl) rfl ?_); clear S; intro a S
         refine l_done (then_n ?_)
         exact ⟨_, h, Keep.refl _ _, S.nf [true] rfl (subR rfl)⟩
       clear S h; rintro a w15 ⟨c2, h, hk10, S⟩; rw [hj6] at h; clear hj6 j6
       refine l_want S rfl rfl rfl hb11 (lv S (rn_move (S.tm rfl)) rfl ?_); clear S; intro a S
       refine f_cutm 9 (fun a w' => Keep [] w15 w' ∧ Sx w [] nov [.blk b1 (GRace.enc p_r) 42] [(55, bV (decide (p_r.Stroke = 5))), (77, bV (c2 || ((decide (1 < p_r.Legs)) && (!decide (p_r.Legs = 4)))))] 79 a w') ?_ ?_
       ·rcases Bool.eq_false_or_eq_true c2 with hb13 | hb13
        ·iterate 4 (refine l_skip S rfl rfl rfl (neq_t hb13) rfl ?_ rfl; clear S; intro a S)
         iterate 3 (refine l_skipU S rfl rfl rfl rfl ?_; clear S; intro a S)
         refine l_skip S rfl rfl rfl (neq_t hb13) rfl ?_ rfl; clear S; intro a S
         refine l_want S rfl rfl rfl hb11 (lv S (rn_or_t ((decide (1 < p_r.Legs)) && (!decide (p_r.Legs = 4))) hb13 (S.tm rfl) rfl) rfl ?_); clear S; intro a S
         refine l_done (then_n ?_)
         exact ⟨Keep.refl _ _, S.nf [true] rfl (subR rfl)⟩
        ·refine l_want S rfl rfl rfl hb13 (lv S (rn_fld fa_42_4 (S.tm rfl)) rfl ?_); clear S; intro a S
         refine l_want S rfl rfl rfl hb13 (lv S (rn_load Tryz.isAgg3 (S.tm rfl) (S.cell (i := 0) rfl rfl)) rfl ?_); clear S; intro a S
         refine l_want S rfl rfl rfl hb13 (lv S (rn_gtr (S.tm rfl) rfl) rfl ?_); clear S; intro a S
         refine l_want S rfl rfl rfl hb13 (lv S (rn_move (S.tm rfl)) rfl ?_); clear S; intro a S
         refine f_cutm 4 (fun a w' => Keep [] w15 w' ∧ Sx w [] nov [.blk b1 (GRace.enc p_r) 42] [(55, bV (decide (p_r.Stroke = 5))), (68, bV c2), (76, bV ((decide (1 < p_r.Legs)) && (!decide (p_r.Legs = 4))))] 79 a w') ?_ ?_
         ·rcases Bool.eq_false_or_eq_true (decide (1 < p_r.Legs)) with hb14 | hb14
          ·refine l_want S rfl rfl rfl hb14 (lv S (rn_fld fa_42_4 (S.tm rfl)) rfl ?_); clear S; intro a S
           refine l_want S rfl rfl rfl hb14 (lv S (rn_load Tryz.isAgg3 (S.tm rfl) (S.cell (i := 0) rfl rfl)) rfl ?_); clear S; intro a S
           refine l_want S rfl rfl rfl hb14 (lv S (rn_neq (S.tm rfl) rfl) rfl ?_); clear S; intro a S
           refine l_want S rfl rfl rfl hb13 (lv S (rn_and_t hb14 (S.tm rfl) (S.tm rfl)) rfl ?_); clear S; intro a S
           refine l_done (then_n ?_)
           exact ⟨Keep.refl _ _, S.nf [true] rfl (subR rfl)⟩
          ·iterate 3 (refine l_skip S rfl rfl rfl (neq_f hb14) rfl ?_ rfl; clear S; intro a S)
           refine l_want S rfl rfl rfl hb13 (lv S (rn_and_f (!decide (p_r.Legs = 4)) hb14 (S.tm rfl) rfl) rfl ?_); clear S; intro a S
           refine l_done (then_n ?_)
           exact ⟨Keep.refl _ _, S.nf [true] rfl (subR rfl)⟩
         clear S; rintro a w17 ⟨hk11, S⟩
         refine l_want S rfl rfl rfl hb11 (lv S (rn_or_f hb13 (S.tm rfl) (S.tm rfl)) rfl ?_); clear S; intro a S
         refine l_done (then_n ?_)
         exact ⟨hk11, S.nf [true] rfl (subR rfl)⟩
       clear S; rintro a w16 ⟨hk12, S⟩
       refine lv S (rn_and_t hb11 (S.tm rfl) (S.tm rfl)) rfl ?_; clear S; intro a S
       refine l_done (then_n ?_)
       exact ⟨_, h, (hk10).trans hk12, S.nf [true] rfl ⟨rfl, trivial⟩⟩
      ·replace h := iteF h hb11
       iterate 4 (refine l_skip S rfl rfl rfl (neq_f hb11) rfl ?_ rfl; clear S; intro a S)
       iterate 7 (refine l_skipU S rfl rfl rfl rfl ?_; clear S; intro a S)
       refine l_skip S rfl rfl rfl (neq_f hb11) rfl ?_ rfl; clear S; intro a S
       refine l_skip S rfl rfl rfl (neq_f hb11) rfl ?_ rfl; clear S; intro a S
       iterate 8 (refine l_skipU S rfl rfl rfl rfl ?_; clear S; intro a S)
       refine l_skip S rfl rfl rfl (neq_f hb11) rfl ?_ rfl; clear S; intro a S
       refine lv S (rn_and_f true hb11 (S.tm rfl) rfl) rfl ?_; clear S; intro a S
       refine l_done (then_n ?_)
       exact ⟨_, h, Keep.refl _ _, S.nf [true] rfl ⟨rfl, trivial⟩⟩
     clear S h; rintro a w14 ⟨c1, h, hk13, S⟩; rw [hj5] at h; clear hj5 j5
     refine l_done (then_n (f_cond (S.tm rfl) (fun hb15 => ?_) (fun hb15 => ?_)))
     ·replace h := iteT h hb15
      refine f_seq (f_region (lv S (rn_assign rfl) rfl ?_)); clear S; intro a S
      refine l_done (then_n (wp_ret (then_r ?_)))
      obtain rfl := Option.some.inj h
      exact f_ret S Tryz.results43 rfl rfl
     ·replace h := iteF h hb15
      refine wp_skip (then_n (f_seq (f_region (lv S (rn_assign rfl) rfl ?_)))); clear S; intro a S
      refine l_done (then_n (wp_ret ?_))
      obtain rfl := Option.some.inj h
      exact f_ret S Tryz.results43 rfl rfl
set_option maxRecDepth 20000 in
theorem tumblaw2_racesFault_ok (w : World) (v_p_l : Value) (p_l : List GRace) (hs_p_l : Slc (view w []) 8 v_p_l (p_l.map GRace.enc)) (r : Int) (h : tumblaw2_racesFault p_l = some r) :
    Calls Tryz.prog 14 [v_p_l].toArray w (Ret w [] fun _ v _ => v = iV r) := by
 refine f_enter [] [] Tryz.func14 rfl Tryz.ntmps14 rfl (by simp) (by simp [fps]) (by simp [fps]) fun a S => ?_
 unfold tumblaw2_racesFault at h
 replace S := S.nk [] [(0, v_p_l)] [] rfl ⟨rfl, trivial⟩
 refine f_seq (f_region (lv S (rn_assign rfl) rfl ?_)); clear S; intro a S
 refine l_done (then_n (f_seq (f_seq (f_region (lv S (rn_move (S.tm rfl)) rfl ?_))))); clear S; intro a S
 refine lv S (rn_lenT sl_26 (S.tm rfl) (slc_len hs_p_l)) rfl ?_; clear S; intro a S
 refine lv S (rn_gtr (S.tm rfl) rfl) rfl ?_; clear S; intro a S
 refine l_done (then_n (f_cond (S.tm rfl) (fun hb1 => ?_) (fun hb1 => ?_)))
 ·replace h := iteT h hb1
  refine f_seq (f_region (lv S (rn_assign rfl) rfl ?_)); clear S; intro a S
  refine l_done (then_n (wp_ret (then_r ?_)))
  obtain rfl := Option.some.inj h
  exact f_ret S Tryz.results14 rfl rfl
 ·replace h := iteF h hb1
  refine wp_skip (then_n (f_seq (f_seq (f_region (lv S (rn_move (S.tm rfl)) rfl ?_))))); clear S; intro a S
  refine lv S (rn_lenT sl_26 (S.tm rfl) (slc_len hs_p_l)) rfl ?_; clear S; intro a S
  refine lv S (rn_move rfl) rfl ?_; clear S; intro a S
  refine l_done (then_n ?_)
  replace S := S.nk [] [(0, v_p_l), (9, v_p_l), (10, iV (p_l.length : Int)), (11, iV 0)] [] rfl (subR rfl)
  obtain ⟨j1, hj1, h⟩ := joinE h
  refine f_join (fun a w' => j1 = some r ∧ Sx w [] nov [] [] 35 a w') ?_ ?_
  ·refine wp_block (f_loop (fun (ys1 : List GRace) a w' => ∃ i1 : Nat, (∃ dn, p_l = dn ++ ys1 ∧ dn.length = i1) ∧ tumblaw2_racesFault_l1 p_l j1 ys1 i1 = some r ∧ Sx w [] nov [] [(0, v_p_l), (9, v_p_l), (10, iV (p_l.length : Int)), (11, iV (i1 : Int))] 35 a w') List.length p_l ⟨0, ⟨[], rfl, rfl⟩, h, S.nf [] rfl (subR rfl)⟩ ?_)
   clear S h; rintro ys1 a w1 ⟨i1, ⟨dn, hd1, hi1⟩, h, S⟩
   cases ys1 with
   | nil =>
    rw [tumblaw2_racesFault_l1.eq_1] at h
    refine f_seq (f_region (lv S (rn_lss (S.tm rfl) (S.tm rfl)) rfl ?_)); clear S; intro a S
    refine l_done ?_
    replace S := S.nk [] [(0, v_p_l), (9, v_p_l), (10, iV (p_l.length : Int)), (11, iV (i1 : Int)), (12, bV (decide ((i1 : Int) < (p_l.length : Int))))] [] rfl (subR rfl)
    refine then_n (f_seq (wp_cond_false ((S.tm rfl).trans (congrArg Value.bool (rng_nil hd1 hi1))) (wp_exit (then_x (then_x (x_same ?_))))))
    refine then_n ?_
    exact ⟨h, S.nf [] rfl trivial⟩
   | cons y1 ys1 =>
    rw [tumblaw2_racesFault_l1.eq_2] at h
    refine f_seq (f_region (lv S (rn_lss (S.tm rfl) (S.tm rfl)) rfl ?_)); clear S; intro a S
    refine l_done ?_
    replace S := S.nk [] [(0, v_p_l), (9, v_p_l), (10, iV (p_l.length : Int)), (11, iV (i1 : Int)), (12, bV (decide ((i1 : Int) < (p_l.length : Int))))] [] rfl (subR rfl)
    refine then_n (f_seq (wp_cond_true ((S.tm rfl).trans (congrArg Value.bool (rng_cons hd1 hi1))) (wp_skip (then_n (f_seq (wp_block ?_))))))
    refine f_seq (f_region (lv S (rn_move (S.tm rfl)) rfl ?_)); clear S; intro a S
    obtain ⟨b1, o1, hm1, hr1⟩ := rn_indexT (a := a) (x := .tmp 9) (y := .tmp 11) (ty := 0) sl_26 hs_p_l (get_mid hd1 hi1) rfl (S.tm rfl) (S.tm rfl)
    refine lv S (hr1 _) rfl ?_; clear S; intro a S
    clear hr1
    refine lv S (rn_ldA Tryz.isAgg42 Tryz.sizeOf42 (off := o1) (o := 0) (part := (GRace.enc y1)) rfl rfl (S.tm rfl) (hm1.at S.emb0)) rfl ?_; clear S; intro a S
    refine l_alloc S Tryz.zeroValue42 (cs := [sV k_empty, iV 0, iV 0, iV 0, iV 0, iV 0, iV 0, iV 0]) rfl rfl ?_; clear S; intro a w3 b2 hz1 hk1 S
    refine lv S (rn_assign (S.tm rfl)) rfl ?_; clear S; intro a S
    refine l_store S (S.tm rfl) (S.tm rfl) (i := 0) (off := 0) rfl Tryz.sizeOf42 (vs := (GRace.enc y1)) rfl rfl rfl rfl ?_; clear S; intro w4 hk2 S
    refine l_done (then_n (f_seq (f_seq (f_region (lv S (rn_ldA Tryz.isAgg42 Tryz.sizeOf42 (off := 0) (o := 0) (part := (GRace.enc y1)) rfl rfl (S.tm rfl) (S.cellsAt (i := 0) rfl)) rfl ?_))))); clear S; intro a S
    obtain ⟨r1, hr2, h⟩ := bindE h
    refine l_enter S (fun _ => run_call (vs := [.agg (GRace.enc y1).toArray]) ⟨(S.tm rfl), trivial⟩ Tryz.call43) (tumbref1_RaceFault_ok _ y1 _ hr2) rfl ?_; clear S; intro v1 a w5 hv1 hk3 hn1 S
    subst hv1
    refine lv S (rn_assign (S.tm rfl)) rfl ?_; clear S; intro a S
    refine l_done (then_n (f_seq (f_region (lv S (rn_move (S.tm rfl)) rfl ?_)))); clear S; intro a S
    refine lv S (rn_neq (S.tm rfl) rfl) rfl ?_; clear S; intro a S
    refine l_done ?_
    replace S := S.nk [.blk b2 (GRace.enc y1) 42] [(0, v_p_l), (3, iV (i1 : Int)), (4, .pointer (some ⟨b2, 0, none⟩)), (5, iV r1), (9, v_p_l), (10, iV (p_l.length : Int)), (11, iV (i1 : Int)), (19, bV (!decide (r1 = 0)))] [true] rfl (subR rfl)
    refine then_n (f_cond (S.tm rfl) (fun hb2 => ?_) (fun hb2 => ?_))
    ·replace h := iteT h hb2
     refine f_seq (f_region (lv S (rn_move (S.tm rfl)) rfl ?_)); clear S; intro a S
     refine lv S (rn_assign (S.tm rfl)) rfl ?_; clear S; intro a S
     refine l_done (then_n (wp_ret (then_r (blk_r (then_r (then_r ?_))))))
     refine blk_r (then_r (then_r ?_))
     obtain rfl := Option.some.inj h
     exact f_ret S Tryz.results14 rfl rfl
    ·replace h := iteF h hb2
     refine wp_skip (then_n (f_seq (d_region [] ([]) Tryz.mixed S rfl (by kernel_rfl) ?_))); clear S; intro w6 hk4 hsel S
     refine d_rest [0, 1, 2, 3, 4, 5, 6, 7, 8, 9, 10, 11, 12] hsel (by kernel_rfl) rfl ?_
     clear hsel
     refine s_lv S rfl (rn_move (S.tm rfl)) rfl ?_; clear S; intro a S
     refine s_lv S rfl (rn_gtr (S.tm rfl) rfl) rfl ?_; clear S; intro a S
     refine s_lv S rfl (rn_move (S.tm rfl)) rfl ?_; clear S; intro a S
     obtain ⟨j2, hj2, h⟩ := joinE h
     refine s_cutm 10 (fun a w' => ∃ c1, j2 c1 = some r ∧ Keep [] w6 w' ∧ Sx w [] nov [.blk b2 (GRace.enc y1) 42] [(0, v_p_l), (9, v_p_l), (10, iV (p_l.length : Int)), (11, iV (i1 : Int)), (33, bV c1)] 35 a w') ?_ ?_
     ·rcases Bool.eq_false_or_eq_true (decide (0 < (i1 : Int))) with hb3 | hb3
      ·replace h := iteT h hb3
       refine s_want S rfl rfl rfl rfl hb3 (s_lv0 S (rn_fld fa_42_0 (S.tm rfl)) rfl ?_); clear S; intro a S
       refine s_want S rfl rfl rfl rfl hb3 (s_lv0 S (rn_load Tryz.isAgg9 (S.tm rfl) (S.cell (i := 0) rfl rfl)) rfl ?_); clear S; intro a S
       refine s_want S rfl rfl rfl rfl hb3 (s_lv0 S (rn_move (S.tm rfl)) rfl ?_); clear S; intro a S
       refine s_want S rfl rfl rfl rfl hb3 (s_lv0 S (rn_move (S.tm rfl)) rfl ?_); clear S; intro a S
       refine s_want S rfl rfl rfl rfl hb3 (s_lv0 S (rn_sub (S.tm rfl) rfl) rfl ?_); clear S; intro a S
       refine s_want S rfl rfl rfl rfl hb3 ?_
       obtain ⟨hc1, h⟩ := chkE h
       obtain ⟨b3, o2, hm2, hr3⟩ := rn_indexT (a := a) (x := .tmp 26) (y := .tmp 28) (ty := 0) sl_26 hs_p_l (inB_get hc1).1 (inB_get hc1).2 (S.tm rfl) (S.tm rfl)
       refine s_lv0 S (hr3 _) rfl ?_; clear S; intro a S
       clear hr3
       refine s_want S rfl rfl rfl rfl hb3 (s_lv0 S (rn_fld fa_42_0 (S.tm rfl)) rfl ?_); clear S; intro a S
       refine s_want S rfl rfl rfl rfl hb3 (s_lv0 S (rn_ld Tryz.isAgg9 (off := o2) (o := 0) (S.tm rfl) (hm2.at S.emb0) rfl) rfl ?_); clear S; intro a S
       refine s_want S rfl rfl rfl rfl hb3 (s_lv0 S (rn_sleq (S.tm rfl) (S.tm rfl)) rfl ?_); clear S; intro a S
       refine s_lv S rfl (rn_and_t hb3 (S.tm rfl) (S.tm rfl)) rfl ?_; clear S; intro a S
       refine s_done ?_
       exact ⟨_, h, Keep.refl _ _, S.nf [true] rfl (subR rfl)⟩
      ·replace h := iteF h hb3
       iterate 9 (refine s_skip S rfl rfl rfl rfl (neq_f hb3) rfl ?_ rfl; clear S; intro a S)
       refine s_lv S rfl (rn_and_f true hb3 (S.tm rfl) rfl) rfl ?_; clear S; intro a S
       refine s_done ?_
       exact ⟨_, h, Keep.refl _ _, S.nf [true] rfl (subR rfl)⟩
     clear S h; rintro a w7 ⟨c1, h, hk5, S⟩; rw [hj2] at h; clear hj2 j2
     refine s_done ?_
     replace S := S.nk [] [(0, v_p_l), (9, v_p_l), (10, iV (p_l.length : Int)), (11, iV (i1 : Int)), (33, bV c1)] [false] rfl (subR rfl)
     refine then_n (f_cond (S.tm rfl) (fun hb4 => ?_) (fun hb4 => ?_))
     ·replace h := iteT h hb4
      refine f_seq (f_region (lv S (rn_assign rfl) rfl ?_)); clear S; intro a S
      refine l_done (then_n (wp_ret (blk_r (then_r (then_r (blk_r ?_))))))
      refine then_r (then_r ?_)
      obtain rfl := Option.some.inj h
      exact f_ret S Tryz.results14 rfl rfl
     ·replace h := iteF h hb4
      refine wp_skip (blk_n (then_n (f_region (lv S (rn_add (S.tm rfl) rfl) rfl ?_)))); clear S; intro a S
      refine lv S (rn_move (S.tm rfl)) rfl ?_; clear S; intro a S
      refine l_done (then_n ?_)
      exact ⟨ys1, ⟨i1 + 1, ⟨_, (hd1).trans (List.append_cons _ _ _), by simp [hi1]⟩, h, S.nf [] rfl ⟨rfl, rfl, rfl, (congrArg (fun z => some (Value.int .i64 z)) (rng_next hd1 hi1 (slc_max hs_p_l))), trivial⟩⟩, Nat.lt_succ_self _⟩
  clear S h; rintro a w2 ⟨h, S⟩; rw [hj1] at h; clear hj1 j1
  refine then_n (f_seq (f_region (lv S (rn_assign rfl) rfl ?_))); clear S; intro a S
  refine l_done (then_n (wp_ret ?_))
  obtain rfl := Option.some.inj h
  exact f_ret S Tryz.results14 rfl rfl
theorem tumbref2_in_ok (w : World) (p_n : Int) (p_low : Int) (p_high : Int) (r : Bool) (h : tumbref2_in p_n p_low p_high = r) :
    Calls Tryz.prog 45 [iV p_n, iV p_low, iV p_high].toArray w (Ret w [] fun _ v _ => v = bV r) := by
 refine f_enter [] [] Tryz.func45 rfl Tryz.ntmps45 rfl (by simp) (by simp [fps]) (by simp [fps]) fun a S => ?_
 unfold tumbref2_in at h
 replace S := S.nk [] [(0, iV p_n), (1, iV p_low), (2, iV p_high)] [] rfl (subR rfl)
 refine f_seq (f_region (lv S (rn_assign rfl) rfl ?_)); clear S; intro a S
 refine l_done (then_n (f_seq (f_region (lv S (rn_move (S.tm rfl)) rfl ?_)))); clear S; intro a S
 refine lv S (rn_move (S.tm rfl)) rfl ?_; clear S; intro a S
 refine lv S (rn_leq (S.tm rfl) (S.tm rfl)) rfl ?_; clear S; intro a S
 refine lv S (rn_move (S.tm rfl)) rfl ?_; clear S; intro a S
 refine f_cutm 4 (fun a w' => Keep [] w w' ∧ Sx w [] nov [] [(14, bV ((decide (p_low ≤ p_n)) && (decide (p_n ≤ p_high))))] 15 a w') ?_ ?_
 ·rcases Bool.eq_false_or_eq_true (decide (p_low ≤ p_n)) with hb1 | hb1
  ·refine l_want S rfl rfl rfl hb1 (lv S (rn_move (S.tm rfl)) rfl ?_); clear S; intro a S
   refine l_want S rfl rfl rfl hb1 (lv S (rn_move (S.tm rfl)) rfl ?_); clear S; intro a S
   refine l_want S rfl rfl rfl hb1 (lv S (rn_leq (S.tm rfl) (S.tm rfl)) rfl ?_); clear S; intro a S
   refine lv S (rn_and_t hb1 (S.tm rfl) (S.tm rfl)) rfl ?_; clear S; intro a S
   refine l_done (then_n ?_)
   exact ⟨Keep.refl _ _, S.nf [] rfl ⟨rfl, trivial⟩⟩
  ·iterate 3 (refine l_skip S rfl rfl rfl (neq_f hb1) rfl ?_ rfl; clear S; intro a S)
   refine lv S (rn_and_f (decide (p_n ≤ p_high)) hb1 (S.tm rfl) rfl) rfl ?_; clear S; intro a S
   refine l_done (then_n ?_)
   exact ⟨Keep.refl _ _, S.nf [] rfl ⟨rfl, trivial⟩⟩
 clear S; rintro a w1 ⟨hk1, S⟩
 refine lv S (rn_assign (S.tm rfl)) rfl ?_; clear S; intro a S
 refine l_done (then_n (wp_ret ?_))
 subst h
 exact f_ret S Tryz.results45 rfl rfl
theorem tumbref2_only_ok (w : World) (p_s : ByteArray) (p_some : ByteArray) (r : Bool) (h : tumbref2_only p_s p_some = some r) :
    Calls Tryz.prog 76 [sV p_s, sV p_some].toArray w (Ret w [] fun _ v _ => v = bV r) := by
 refine f_enter [] [] Tryz.func76 rfl Tryz.ntmps76 rfl (by simp) (by simp [fps]) (by simp [fps]) fun a S => ?_
 unfold tumbref2_only at h
 replace S := S.nk [] [(0, sV p_s), (1, sV p_some)] [] rfl (subR rfl)
 refine f_seq (f_region (lv S (rn_assign rfl) rfl ?_)); clear S; intro a S
 refine l_done (then_n (f_seq (f_seq (f_region (lv S (rn_move (S.tm rfl)) rfl ?_))))); clear S; intro a S
 refine lv S (rn_len_str Tryz.underlying9 (S.tm rfl)) rfl ?_; clear S; intro a S
 refine lv S (rn_move rfl) rfl ?_; clear S; intro a S
 refine l_done (then_n ?_)
 replace S := S.nk [] [(0, sV p_s), (1, sV p_some), (7, iV (p_s.size : Int)), (8, iV 0)] [] rfl (subR rfl)
 obtain ⟨j1, hj1, h⟩ := joinE h
 refine f_join (fun a w' => j1 = some r ∧ Sx w [] nov [] [] 18 a w') ?_ ?_
 ·refine wp_block (f_loop (fun (m1 : Nat) a w' => ∃ x1 : Int, tumbref2_only_l1 p_s p_some j1 m1 x1 = some r ∧ Sx w [] nov [] [(0, sV p_s), (1, sV p_some), (7, iV (p_s.size : Int)), (8, iV x1)] 18 a w') id (((p_s.size : Int) - 0).toNat + 2) ⟨0, h, S.nf [] rfl (subR rfl)⟩ ?_)
  clear S h; rintro m1 a w1 ⟨x1, h, S⟩
  cases m1 with
  | zero => rw [tumbref2_only_l1.eq_1] at h; cases h
  | succ m1 =>
   rw [tumbref2_only_l1.eq_2] at h
   refine f_seq (f_region (lv S (rn_lss (S.tm rfl) (S.tm rfl)) rfl ?_)); clear S; intro a S
   refine l_done (then_n (f_seq (f_cond (S.tm rfl) (fun hb1 => ?_) (fun hb1 => ?_))))
   ·replace h := iteT h hb1
    refine wp_skip (then_n (f_seq (wp_block (f_seq (f_region (lv S (rn_move (S.tm rfl)) rfl ?_)))))); clear S; intro a S
    refine lv S (rn_assign (S.tm rfl)) rfl ?_; clear S; intro a S
    refine l_done (then_n (f_seq (f_region (lv S (rn_move (S.tm rfl)) rfl ?_)))); clear S; intro a S
    refine lv S (rn_move (S.tm rfl)) rfl ?_; clear S; intro a S
    refine lv S (rn_move (S.tm rfl)) rfl ?_; clear S; intro a S
    obtain ⟨hc1, h⟩ := chkE h
    refine lv S (rn_sindexT Tryz.underlying9 (S.tm rfl) (S.tm rfl) hc1) rfl ?_; clear S; intro a S
    refine l_enter S (fun _ => run_call (vs := [sV p_some, .int .u8 (sbyte p_s x1)]) ⟨(S.tm rfl), (S.tm rfl), trivial⟩ Tryz.call92) (strings_IndexByte_ok _ p_some (sbyte p_s x1) _ rfl) rfl ?_; clear S; intro v1 a w3 hv1 hk1 hn1 S
    subst hv1
    refine lv S (rn_lss (S.tm rfl) rfl) rfl ?_; clear S; intro a S
    refine l_done (then_n (f_cond (S.tm rfl) (fun hb2 => ?_) (fun hb2 => ?_)))
    ·replace h := iteT h hb2
     refine f_seq (f_region (lv S (rn_assign rfl) rfl ?_)); clear S; intro a S
     refine l_done (then_n (wp_ret (blk_r (then_r (then_r (blk_r ?_))))))
     refine then_r (then_r ?_)
     obtain rfl := Option.some.inj h
     exact f_ret S Tryz.results76 rfl rfl
    ·replace h := iteF h hb2
     refine wp_skip (blk_n (then_n (f_region (lv S (rn_add (S.tm rfl) rfl) rfl ?_)))); clear S; intro a S
     refine lv S (rn_move (S.tm rfl)) rfl ?_; clear S; intro a S
     refine l_done (then_n ?_)
     exact ⟨m1, ⟨W (x1 + 1), h, S.nf [] rfl ⟨rfl, rfl, rfl, rfl, trivial⟩⟩, Nat.lt_succ_self _⟩
   ·replace h := iteF h hb1
    refine wp_exit (then_x (then_x (x_same (then_n ?_))))
    exact ⟨h, S.nf [] rfl trivial⟩
 clear S h; rintro a w2 ⟨h, S⟩; rw [hj1] at h; clear hj1 j1
 refine then_n (f_seq (f_region (lv S (rn_assign rfl) rfl ?_))); clear S; intro a S
 refine l_done (then_n (wp_ret ?_))
 obtain rfl := Option.some.inj h
 exact f_ret S Tryz.results76 rfl rfl
theorem tumbref2_Key_ok (w : World) (p_s : ByteArray) (r : Bool) (h : tumbref2_Key p_s = some r) :
    Calls Tryz.prog 44 [sV p_s].toArray w (Ret w [] fun _ v _ => v = bV r) := by
 refine f_enter [] [] Tryz.func44 rfl Tryz.ntmps44 rfl (by simp) (by simp [fps]) (by simp [fps]) fun a S => ?_
 unfold tumbref2_Key at h
 replace S := S.nk [] [(0, sV p_s)] [] rfl ⟨rfl, trivial⟩
 refine f_seq (f_region (lv S (rn_assign rfl) rfl ?_)); clear S; intro a S
 refine l_done (then_n (f_seq (f_region (lv S (rn_move (S.tm rfl)) rfl ?_)))); clear S; intro a S
 refine lv S (rn_len_str Tryz.underlying9 (S.tm rfl)) rfl ?_; clear S; intro a S
 refine l_enter S (fun _ => run_call (vs := [iV (p_s.size : Int), iV 1, iV 40]) ⟨(S.tm rfl), rfl, rfl, trivial⟩ Tryz.call45) (tumbref2_in_ok _ (p_s.size : Int) 1 40 _ rfl) rfl ?_; clear S; intro v1 a w1 hv1 hk1 hn1 S
 subst hv1
 refine lv S (rn_move (S.tm rfl)) rfl ?_; clear S; intro a S
 obtain ⟨j1, hj1, h⟩ := joinE h
 refine f_cutm 4 (fun a w' => ∃ c1, j1 c1 = some r ∧ Keep [] w1 w' ∧ Sx w [] nov [] [(0, sV p_s), (10, bV c1)] 15 a w') ?_ ?_
 ·rcases Bool.eq_false_or_eq_true (tumbref2_in (p_s.size : Int) 1 40) with hb1 | hb1
  ·replace h := iteT h hb1
   refine l_want S rfl rfl rfl hb1 (lv S (rn_move (S.tm rfl)) rfl ?_); clear S; intro a S
   refine l_want S rfl rfl rfl hb1 ?_
   obtain ⟨hc1, h⟩ := chkE h
   refine lv S (rn_scutTh Tryz.underlying9 (S.tm rfl) rfl hc1) rfl ?_; clear S; intro a S
   refine l_want S rfl rfl rfl hb1 ?_
   obtain ⟨r1, hr1, h⟩ := bindE h
   refine l_enter S (fun _ => run_call (vs := [sV (scut p_s 0 1), sV k_abcdefghijklmnopqrstuvwxyz]) ⟨(S.tm rfl), rfl, trivial⟩ Tryz.call76) (tumbref2_only_ok _ (scut p_s 0 1) k_abcdefghijklmnopqrstuvwxyz _ hr1) rfl ?_; clear S; intro v2 a w3 hv2 hk2 hn2 S
   subst hv2
   refine lv S (rn_and_t hb1 (S.tm rfl) (S.tm rfl)) rfl ?_; clear S; intro a S
   refine l_done (then_n ?_)
   exact ⟨_, h, hk2, S.nf [] rfl (subR rfl)⟩
  ·replace h := iteF h hb1
   iterate 3 (refine l_skip S rfl rfl rfl (neq_f hb1) rfl ?_ rfl; clear S; intro a S)
   refine lv S (rn_and_f true hb1 (S.tm rfl) rfl) rfl ?_; clear S; intro a S
   refine l_done (then_n ?_)
   exact ⟨_, h, Keep.refl _ _, S.nf [] rfl (subR rfl)⟩
 clear S h; rintro a w2 ⟨c1, h, hk3, S⟩; rw [hj1] at h; clear hj1 j1
 refine lv S (rn_move (S.tm rfl)) rfl ?_; clear S; intro a S
 obtain ⟨j2, hj2, h⟩ := joinE h
 refine f_cutm 3 (fun a w' => ∃ c2, j2 c2 = some r ∧ Keep [] w2 w' ∧ Sx w [] nov [] [(14, bV c2)] 15 a w') ?_ ?_
 ·rcases Bool.eq_false_or_eq_true c1 with hb2 | hb2
  ·replace h := iteT h hb2
   refine l_want S rfl rfl rfl hb2 (lv S (rn_move (S.tm rfl)) rfl ?_); clear S; intro a S
   refine l_want S rfl rfl rfl hb2 ?_
   obtain ⟨r2, hr2, h⟩ := bindE h
   refine l_enter S (fun _ => run_call (vs := [sV p_s, sV k_abcdefghijkl_h0e2e2c]) ⟨(S.tm rfl), rfl, trivial⟩ Tryz.call76) (tumbref2_only_ok _ p_s k_abcdefghijkl_h0e2e2c _ hr2) rfl ?_; clear S; intro v3 a w5 hv3 hk4 hn3 S
   subst hv3
   refine lv S (rn_and_t hb2 (S.tm rfl) (S.tm rfl)) rfl ?_; clear S; intro a S
   refine l_done (then_n ?_)
   exact ⟨_, h, hk4, S.nf [] rfl ⟨rfl, trivial⟩⟩
  ·replace h := iteF h hb2
   refine l_skip S rfl rfl rfl (neq_f hb2) rfl ?_ rfl; clear S; intro a S
   refine l_skip S rfl rfl rfl (neq_f hb2) rfl ?_ rfl; clear S; intro a S
   refine lv S (rn_and_f true hb2 (S.tm rfl) rfl) rfl ?_; clear S; intro a S
   refine l_done (then_n ?_)
   exact ⟨_, h, Keep.refl _ _, S.nf [] rfl ⟨rfl, trivial⟩⟩
 clear S h; rintro a w4 ⟨c2, h, hk5, S⟩; rw [hj2] at h; clear hj2 j2
 refine lv S (rn_assign (S.tm rfl)) rfl ?_; clear S; intro a S
 refine l_done (then_n (wp_ret ?_))
 obtain rfl := Option.some.inj h
 exact f_ret S Tryz.results44 rfl rfl
theorem tumbref2_Day_ok (w : World) (p_n : Int) (r : Bool) (h : tumbref2_Day p_n = r) :
    Calls Tryz.prog 46 [iV p_n].toArray w (Ret w [] fun _ v _ => v = bV r) := by
 refine f_enter [] [] Tryz.func46 rfl Tryz.ntmps46 rfl (by simp) (by simp [fps]) (by simp [fps]) fun a S => ?_
 unfold tumbref2_Day at h
 replace S := S.nk [] [(0, iV p_n)] [] rfl ⟨rfl, trivial⟩
 refine f_seq (f_region (lv S (rn_assign rfl) rfl ?_)); clear S; intro a S
 refine l_done (then_n (f_seq (f_region (lv S (rn_move (S.tm rfl)) rfl ?_)))); clear S; intro a S
 refine l_enter S (fun _ => run_call (vs := [iV p_n, iV (-40000), iV 4000]) ⟨(S.tm rfl), rfl, rfl, trivial⟩ Tryz.call45) (tumbref2_in_ok _ p_n (-40000) 4000 _ rfl) rfl ?_; clear S; intro v1 a w1 hv1 hk1 hn1 S
 subst hv1
 refine lv S (rn_assign (S.tm rfl)) rfl ?_; clear S; intro a S
 refine l_done (then_n (wp_ret ?_))
 subst h
 exact f_ret S Tryz.results46 rfl rfl
theorem tumbref2_SwimmersFault_ok (w : World) (v_p_l : Value) (p_l : List GSwimmer) (hs_p_l : Slc (view w []) 3 v_p_l (p_l.map GSwimmer.enc)) (r : Int) (h : tumbref2_SwimmersFault p_l = some r) :
    Calls Tryz.prog 15 [v_p_l].toArray w (Ret w [] fun _ v _ => v = iV r) := by
 refine f_enter [] [] Tryz.func15 rfl Tryz.ntmps15 rfl (by simp) (by simp [fps]) (by simp [fps]) fun a S => ?_
 unfold tumbref2_SwimmersFault at h
 replace S := S.nk [] [(0, v_p_l)] [] rfl ⟨rfl, trivial⟩
 refine f_seq (f_region (lv S (rn_assign rfl) rfl ?_)); clear S; intro a S
 refine l_done (then_n (f_seq (f_seq (f_region (lv S (rn_move (S.tm rfl)) rfl ?_))))); clear S; intro a S
 refine lv S (rn_lenT sl_28 (S.tm rfl) (slc_len hs_p_l)) rfl ?_; clear S; intro a S
 refine lv S (rn_gtr (S.tm rfl) rfl) rfl ?_; clear S; intro a S
 refine l_done (then_n (f_cond (S.tm rfl) (fun hb1 => ?_) (fun hb1 => ?_)))
 ·replace h := iteT h hb1
  refine f_seq (f_region (lv S (rn_assign rfl) rfl ?_)); clear S; intro a S
  refine l_done (then_n (wp_ret (then_r ?_)))
  obtain rfl := Option.some.inj h
  exact f_ret S Tryz.results15 rfl rfl
 ·replace h := iteF h hb1
  refine wp_skip (then_n (f_seq (f_region (lv S (rn_assign rfl) rfl ?_)))); clear S; intro a S
  refine l_done (then_n (f_seq (f_seq (f_region (lv S (rn_move (S.tm rfl)) rfl ?_))))); clear S; intro a S
  refine lv S (rn_lenT sl_28 (S.tm rfl) (slc_len hs_p_l)) rfl ?_; clear S; intro a S
  refine lv S (rn_move rfl) rfl ?_; clear S; intro a S
  refine l_done (then_n ?_)
  replace S := S.nk [] [(3, sV k_empty), (9, v_p_l), (10, iV (p_l.length : Int)), (11, iV 0)] [] rfl (subR rfl)
  obtain ⟨j1, hj1, h⟩ := joinE h
  refine f_join (fun a w' => j1 = some r ∧ Sx w [] nov [] [] 39 a w') ?_ ?_
  ·refine wp_block (f_loop (fun (ys1 : List GSwimmer) a w' => ∃ i1 : Nat, ∃ x1 : ByteArray, (∃ dn, p_l = dn ++ ys1 ∧ dn.length = i1) ∧ tumbref2_SwimmersFault_l1 j1 ys1 i1 x1 = some r ∧ Sx w [] nov [] [(3, sV x1), (9, v_p_l), (10, iV (p_l.length : Int)), (11, iV (i1 : Int))] 39 a w') List.length p_l ⟨0, k_empty, ⟨[], rfl, rfl⟩, h, S.nf [] rfl (subR rfl)⟩ ?_)
   clear S h; rintro ys1 a w1 ⟨i1, x1, ⟨dn, hd1, hi1⟩, h, S⟩
   cases ys1 with
   | nil =>
    rw [tumbref2_SwimmersFault_l1.eq_1] at h
    refine f_seq (f_region (lv S (rn_lss (S.tm rfl) (S.tm rfl)) rfl ?_)); clear S; intro a S
    refine l_done ?_
    replace S := S.nk [] [(3, sV x1), (9, v_p_l), (10, iV (p_l.length : Int)), (11, iV (i1 : Int)), (12, bV (decide ((i1 : Int) < (p_l.length : Int))))] [] rfl (subR rfl)
    refine then_n (f_seq (wp_cond_false ((S.tm rfl).trans (congrArg Value.bool (rng_nil hd1 hi1))) (wp_exit (then_x (then_x (x_same ?_))))))
    refine then_n ?_
    exact ⟨h, S.nf [] rfl trivial⟩
   | cons y1 ys1 =>
    rw [tumbref2_SwimmersFault_l1.eq_2] at h
    refine f_seq (f_region (lv S (rn_lss (S.tm rfl) (S.tm rfl)) rfl ?_)); clear S; intro a S
    refine l_done ?_
    replace S := S.nk [] [(3, sV x1), (9, v_p_l), (10, iV (p_l.length : Int)), (11, iV (i1 : Int)), (12, bV (decide ((i1 : Int) < (p_l.length : Int))))] [] rfl (subR rfl)
    refine then_n (f_seq (wp_cond_true ((S.tm rfl).trans (congrArg Value.bool (rng_cons hd1 hi1))) (wp_skip (then_n (f_seq (wp_block ?_))))))
    refine f_seq (f_region ?_)
    obtain ⟨b1, o1, hm1, hr1⟩ := rn_indexT (a := a) (x := .tmp 9) (y := .tmp 11) (ty := 0) sl_28 hs_p_l (get_mid hd1 hi1) rfl (S.tm rfl) (S.tm rfl)
    refine lv S (hr1 _) rfl ?_; clear S; intro a S
    clear hr1
    refine lv S (rn_ldA Tryz.isAgg71 Tryz.sizeOf71 (off := o1) (o := 0) (part := (GSwimmer.enc y1)) rfl rfl (S.tm rfl) (hm1.at S.emb0)) rfl ?_; clear S; intro a S
    refine l_alloc S Tryz.zeroValue71 (cs := [sV k_empty, iV 0, iV 0]) rfl rfl ?_; clear S; intro a w3 b2 hz1 hk1 S
    refine l_store S (S.tm rfl) (S.tm rfl) (i := 0) (off := 0) rfl Tryz.sizeOf71 (vs := (GSwimmer.enc y1)) rfl rfl rfl rfl ?_; clear S; intro w4 hk2 S
    refine l_done (then_n (f_seq (wp_block (f_seq (f_region (lv S (rn_fld fa_71_0 (S.tm rfl)) rfl ?_)))))); clear S; intro a S
    refine lv S (rn_load Tryz.isAgg9 (S.tm rfl) (S.cell (i := 0) rfl rfl)) rfl ?_; clear S; intro a S
    obtain ⟨r1, hr2, h⟩ := bindE h
    refine l_enter S (fun _ => run_call (vs := [sV y1.Key]) ⟨(S.tm rfl), trivial⟩ Tryz.call44) (tumbref2_Key_ok _ y1.Key _ hr2) rfl ?_; clear S; intro v1 a w5 hv1 hk3 hn1 S
    subst hv1
    refine lv S (rn_not (S.tm rfl)) rfl ?_; clear S; intro a S
    refine lv S (rn_assign (S.tm rfl)) rfl ?_; clear S; intro a S
    refine l_done (then_n (f_cond (S.tm rfl) (fun hb2 => ?_) (fun hb2 => ?_)))
    ·replace h := iteT h hb2
     refine f_seq (f_region (lv S (rn_assign rfl) rfl ?_)); clear S; intro a S
     refine l_done (then_n (wp_ret (blk_r (then_r (blk_r (then_r ?_))))))
     refine then_r (blk_r (then_r (then_r ?_)))
     obtain rfl := Option.some.inj h
     exact f_ret S Tryz.results15 rfl rfl
    ·replace h := iteF h hb2
     refine f_seq (f_region (lv S (rn_fld fa_71_0 (S.tm rfl)) rfl ?_)); clear S; intro a S
     refine lv S (rn_load Tryz.isAgg9 (S.tm rfl) (S.cell (i := 0) rfl rfl)) rfl ?_; clear S; intro a S
     refine lv S (rn_move (S.tm rfl)) rfl ?_; clear S; intro a S
     refine lv S (rn_sleq (S.tm rfl) (S.tm rfl)) rfl ?_; clear S; intro a S
     refine lv S (rn_assign (S.tm rfl)) rfl ?_; clear S; intro a S
     refine l_done ?_
     replace S := S.nk [.blk b2 (GSwimmer.enc y1) 71] [(5, .pointer (some ⟨b2, 0, none⟩)), (9, v_p_l), (10, iV (p_l.length : Int)), (11, iV (i1 : Int)), (20, bV (Sless y1.Key x1 || decide (y1.Key = x1)))] [true] rfl (subR rfl)
     refine then_n (f_cond (S.tm rfl) (fun hb3 => ?_) (fun hb3 => ?_))
     ·replace h := iteT h hb3
      refine f_seq (f_region (lv S (rn_assign rfl) rfl ?_)); clear S; intro a S
      refine l_done (then_n (wp_ret (blk_r (then_r (blk_r (then_r ?_))))))
      refine then_r (blk_r (then_r (then_r ?_)))
      obtain rfl := Option.some.inj h
      exact f_ret S Tryz.results15 rfl rfl
     ·replace h := iteF h hb3
      refine f_seq (f_region (lv S (rn_fld fa_71_1 (S.tm rfl)) rfl ?_)); clear S; intro a S
      refine lv S (rn_load Tryz.isAgg3 (S.tm rfl) (S.cell (i := 0) rfl rfl)) rfl ?_; clear S; intro a S
      refine l_enter S (fun _ => run_call (vs := [iV y1.Sex, iV 1, iV 2]) ⟨(S.tm rfl), rfl, rfl, trivial⟩ Tryz.call45) (tumbref2_in_ok _ y1.Sex 1 2 _ rfl) rfl ?_; clear S; intro v2 a w6 hv2 hk4 hn2 S
      subst hv2
      refine lv S (rn_not (S.tm rfl)) rfl ?_; clear S; intro a S
      refine lv S (rn_move (S.tm rfl)) rfl ?_; clear S; intro a S
      refine f_cutm 5 (fun a w' => Keep [] w6 w' ∧ Sx w [] nov [.blk b2 (GSwimmer.enc y1) 71] [(5, .pointer (some ⟨b2, 0, none⟩)), (9, v_p_l), (10, iV (p_l.length : Int)), (11, iV (i1 : Int)), (35, bV ((!(tumbref2_in y1.Sex 1 2)) || (!(tumbref2_Day y1.Born))))] 39 a w') ?_ ?_
      ·rcases Bool.eq_false_or_eq_true (!(tumbref2_in y1.Sex 1 2)) with hb4 | hb4
       ·iterate 4 (refine l_skip S rfl rfl rfl (neq_t hb4) rfl ?_ rfl; clear S; intro a S)
        refine lv S (rn_or_t (!(tumbref2_Day y1.Born)) hb4 (S.tm rfl) rfl) rfl ?_; clear S; intro a S
        refine l_done (then_n ?_)
        exact ⟨Keep.refl _ _, S.nf [true] rfl (subR rfl)⟩
       ·refine l_want S rfl rfl rfl hb4 (lv S (rn_fld fa_71_2 (S.tm rfl)) rfl ?_); clear S; intro a S
        refine l_want S rfl rfl rfl hb4 (lv S (rn_load Tryz.isAgg3 (S.tm rfl) (S.cell (i := 0) rfl rfl)) rfl ?_); clear S; intro a S
        refine l_want S rfl rfl rfl hb4 (l_enter S (fun _ => run_call (vs := [iV y1.Born]) ⟨(S.tm rfl), trivial⟩ Tryz.call46) (tumbref2_Day_ok _ y1.Born _ rfl) rfl ?_); clear S; intro v3 a w8 hv3 hk5 hn3 S
        subst hv3
        refine l_want S rfl rfl rfl hb4 (lv S (rn_not (S.tm rfl)) rfl ?_); clear S; intro a S
        refine lv S (rn_or_f hb4 (S.tm rfl) (S.tm rfl)) rfl ?_; clear S; intro a S
        refine l_done (then_n ?_)
        exact ⟨hk5, S.nf [true] rfl (subR rfl)⟩
      clear S; rintro a w7 ⟨hk6, S⟩
      refine lv S (rn_assign (S.tm rfl)) rfl ?_; clear S; intro a S
      refine l_done (then_n (f_cond (S.tm rfl) (fun hb5 => ?_) (fun hb5 => ?_)))
      ·replace h := iteT h hb5
       refine f_seq (f_region (lv S (rn_assign rfl) rfl ?_)); clear S; intro a S
       refine l_done (then_n (wp_ret (blk_r (then_r (blk_r (then_r ?_))))))
       refine then_r (blk_r (then_r (then_r ?_)))
       obtain rfl := Option.some.inj h
       exact f_ret S Tryz.results15 rfl rfl
      ·replace h := iteF h hb5
       refine wp_skip (blk_n (then_n (f_region (lv S (rn_fld fa_71_0 (S.tm rfl)) rfl ?_)))); clear S; intro a S
       refine lv S (rn_load Tryz.isAgg9 (S.tm rfl) (S.cell (i := 0) rfl rfl)) rfl ?_; clear S; intro a S
       refine lv S (rn_assign (S.tm rfl)) rfl ?_; clear S; intro a S
       refine l_done (blk_n (then_n (f_region (lv S (rn_add (S.tm rfl) rfl) rfl ?_)))); clear S; intro a S
       refine lv S (rn_move (S.tm rfl)) rfl ?_; clear S; intro a S
       refine l_done (then_n ?_)
       exact ⟨ys1, ⟨i1 + 1, y1.Key, ⟨_, (hd1).trans (List.append_cons _ _ _), by simp [hi1]⟩, h, S.nf [false] rfl ⟨rfl, rfl, rfl, (congrArg (fun z => some (Value.int .i64 z)) (rng_next hd1 hi1 (slc_max hs_p_l))), trivial⟩⟩, Nat.lt_succ_self _⟩
  clear S h; rintro a w2 ⟨h, S⟩; rw [hj1] at h; clear hj1 j1
  refine then_n (f_seq (f_region (lv S (rn_assign rfl) rfl ?_))); clear S; intro a S
  refine l_done (then_n (wp_ret ?_))
  obtain rfl := Option.some.inj h
  exact f_ret S Tryz.results15 rfl rfl
theorem tumbref2_sign_ok (w : World) (p_n : Int) (r : Int) (h : tumbref2_sign p_n = r) :
    Calls Tryz.prog 78 [iV p_n].toArray w (Ret w [] fun _ v _ => v = iV r) := by
 refine f_enter [] [] Tryz.func78 rfl Tryz.ntmps78 rfl (by simp) (by simp [fps]) (by simp [fps]) fun a S => ?_
 unfold tumbref2_sign at h
 replace S := S.nk [] [(0, iV p_n)] [] rfl ⟨rfl, trivial⟩
 refine f_seq (f_region (lv S (rn_assign rfl) rfl ?_)); clear S; intro a S
 refine l_done (then_n (f_seq (wp_block (f_seq (f_region (lv S (rn_move (S.tm rfl)) rfl ?_)))))); clear S; intro a S
 refine lv S (rn_lss (S.tm rfl) rfl) rfl ?_; clear S; intro a S
 refine lv S (rn_assign (S.tm rfl)) rfl ?_; clear S; intro a S
 refine l_done (then_n (f_cond (S.tm rfl) (fun hb1 => ?_) (fun hb1 => ?_)))
 ·replace h := iteT h hb1
  refine f_seq (f_region (lv S (rn_assign rfl) rfl ?_)); clear S; intro a S
  refine l_done (then_n (wp_ret (blk_r (then_r ?_))))
  subst h
  exact f_ret S Tryz.results78 rfl rfl
 ·replace h := iteF h hb1
  refine f_seq (f_region (lv S (rn_move (S.tm rfl)) rfl ?_)); clear S; intro a S
  refine lv S (rn_gtr (S.tm rfl) rfl) rfl ?_; clear S; intro a S
  refine lv S (rn_assign (S.tm rfl)) rfl ?_; clear S; intro a S
  refine l_done (then_n (f_cond (S.tm rfl) (fun hb2 => ?_) (fun hb2 => ?_)))
  ·replace h := iteT h hb2
   refine f_seq (f_region (lv S (rn_assign rfl) rfl ?_)); clear S; intro a S
   refine l_done (then_n (wp_ret (blk_r (then_r ?_))))
   subst h
   exact f_ret S Tryz.results78 rfl rfl
  ·replace h := iteF h hb2
   refine wp_skip (blk_n (then_n (f_seq (f_region (lv S (rn_assign rfl) rfl ?_))))); clear S; intro a S
   refine l_done (then_n (wp_ret ?_))
   subst h
   exact f_ret S Tryz.results78 rfl rfl
theorem tumbref2_moveOrder_ok (w : World) (p_a : GMove) (p_b : GMove) (r : Int) (h : tumbref2_moveOrder p_a p_b = r) :
    Calls Tryz.prog 47 [.agg (GMove.enc p_a).toArray, .agg (GMove.enc p_b).toArray].toArray w (Ret w [] fun _ v _ => v = iV r) := by
 refine f_enter [] [] Tryz.func47 rfl Tryz.ntmps47 rfl (by simp) (by simp [fps]) (by simp [fps]) fun a S => ?_
 unfold tumbref2_moveOrder at h
 replace S := S.nk [] [(0, .agg (GMove.enc p_a).toArray), (1, .agg (GMove.enc p_b).toArray)] [] rfl (subR rfl)
 refine f_seq (f_region (l_box S (S.tm rfl) (cs := (GMove.enc p_a)) rfl rfl ?_)); clear S; intro a w1 b1 hz1 hk1 S
 refine l_box S (S.tm rfl) (cs := (GMove.enc p_b)) rfl rfl ?_; clear S; intro a w2 b2 hz2 hk2 S
 refine lv S (rn_assign rfl) rfl ?_; clear S; intro a S
 refine l_done (then_n (f_seq (f_seq (f_region (lv S (rn_fld fa_74_0 (S.tm rfl)) rfl ?_))))); clear S; intro a S
 refine lv S (rn_load Tryz.isAgg9 (S.tm rfl) (S.cell (i := 1) rfl rfl)) rfl ?_; clear S; intro a S
 refine lv S (rn_fld fa_74_0 (S.tm rfl)) rfl ?_; clear S; intro a S
 refine lv S (rn_load Tryz.isAgg9 (S.tm rfl) (S.cell (i := 0) rfl rfl)) rfl ?_; clear S; intro a S
 refine l_enter S (fun _ => run_call (vs := [sV p_a.Who, sV p_b.Who]) ⟨(S.tm rfl), (S.tm rfl), trivial⟩ Tryz.call77) (strings_Compare_ok _ p_a.Who p_b.Who _ rfl) rfl ?_; clear S; intro v1 a w3 hv1 hk3 hn1 S
 subst hv1
 refine lv S (rn_assign (S.tm rfl)) rfl ?_; clear S; intro a S
 refine l_done (then_n (f_seq (f_region (lv S (rn_move (S.tm rfl)) rfl ?_)))); clear S; intro a S
 refine lv S (rn_neq (S.tm rfl) rfl) rfl ?_; clear S; intro a S
 refine l_done (then_n (f_cond (S.tm rfl) (fun hb1 => ?_) (fun hb1 => ?_)))
 ·replace h := iteT h hb1
  refine f_seq (f_region (lv S (rn_move (S.tm rfl)) rfl ?_)); clear S; intro a S
  refine lv S (rn_assign (S.tm rfl)) rfl ?_; clear S; intro a S
  refine l_done (then_n (wp_ret (then_r ?_)))
  subst h
  exact f_ret S Tryz.results47 rfl rfl
 ·replace h := iteF h hb1
  refine wp_skip (then_n (f_seq (f_region (lv S (rn_fld fa_74_2 (S.tm rfl)) rfl ?_)))); clear S; intro a S
  refine lv S (rn_load Tryz.isAgg3 (S.tm rfl) (S.cell (i := 1) rfl rfl)) rfl ?_; clear S; intro a S
  refine lv S (rn_fld fa_74_2 (S.tm rfl)) rfl ?_; clear S; intro a S
  refine lv S (rn_load Tryz.isAgg3 (S.tm rfl) (S.cell (i := 0) rfl rfl)) rfl ?_; clear S; intro a S
  refine lv S (rn_sub (S.tm rfl) (S.tm rfl)) rfl ?_; clear S; intro a S
  refine l_enter S (fun _ => run_call (vs := [iV (W (p_a.Day - p_b.Day))]) ⟨(S.tm rfl), trivial⟩ Tryz.call78) (tumbref2_sign_ok _ (W (p_a.Day - p_b.Day)) _ rfl) rfl ?_; clear S; intro v2 a w4 hv2 hk4 hn2 S
  subst hv2
  refine lv S (rn_assign (S.tm rfl)) rfl ?_; clear S; intro a S
  refine l_done ?_
  replace S := S.nk [] [(4, iV (tumbref2_sign (W (p_a.Day - p_b.Day))))] [false, false] rfl ⟨rfl, trivial⟩
  refine then_n (wp_ret ?_)
  subst h
  exact f_ret S Tryz.results47 rfl rfl
set_option maxRecDepth 20000 in
theorem tumbref2_MovesFault_ok (w : World) (v_p_l : Value) (p_l : List GMove) (hs_p_l : Slc (view w []) 3 v_p_l (p_l.map GMove.enc)) (r : Int) (h : tumbref2_MovesFault p_l = some r) :
    Calls Tryz.prog 16 [v_p_l].toArray w (Ret w [] fun _ v _ => v = iV r) := by
 refine f_enter [] [] Tryz.func16 rfl Tryz.ntmps16 rfl (by simp) (by simp [fps]) (by simp [fps]) fun a S => ?_
 unfold tumbref2_MovesFault at h
 replace S := S.nk [] [(0, v_p_l)] [] rfl ⟨rfl, trivial⟩
 refine f_seq (f_region (lv S (rn_assign rfl) rfl ?_)); clear S; intro a S
 refine l_done (then_n (f_seq (f_seq (f_region (lv S (rn_move (S.tm rfl)) rfl ?_))))); clear S; intro a S
 refine lv S (rn_lenT sl_30 (S.tm rfl) (slc_len hs_p_l)) rfl ?_; clear S; intro a S
 refine lv S (rn_gtr (S.tm rfl) rfl) rfl ?_; clear S; intro a S
 refine l_done (then_n (f_cond (S.tm rfl) (fun hb1 => ?_) (fun hb1 => ?_)))
 ·replace h := iteT h hb1
  refine f_seq (f_region (lv S (rn_assign rfl) rfl ?_)); clear S; intro a S
  refine l_done (then_n (wp_ret (then_r ?_)))
  obtain rfl := Option.some.inj h
  exact f_ret S Tryz.results16 rfl rfl
 ·replace h := iteF h hb1
  refine wp_skip (then_n (f_seq (f_seq (f_region (lv S (rn_move (S.tm rfl)) rfl ?_))))); clear S; intro a S
  refine lv S (rn_lenT sl_30 (S.tm rfl) (slc_len hs_p_l)) rfl ?_; clear S; intro a S
  refine lv S (rn_move rfl) rfl ?_; clear S; intro a S
  refine l_done (then_n ?_)
  replace S := S.nk [] [(0, v_p_l), (9, v_p_l), (10, iV (p_l.length : Int)), (11, iV 0)] [] rfl (subR rfl)
  obtain ⟨j1, hj1, h⟩ := joinE h
  refine f_join (fun a w' => j1 = some r ∧ Sx w [] nov [] [] 74 a w') ?_ ?_
  ·refine wp_block (f_loop (fun (ys1 : List GMove) a w' => ∃ i1 : Nat, (∃ dn, p_l = dn ++ ys1 ∧ dn.length = i1) ∧ tumbref2_MovesFault_l1 p_l j1 ys1 i1 = some r ∧ Sx w [] nov [] [(0, v_p_l), (9, v_p_l), (10, iV (p_l.length : Int)), (11, iV (i1 : Int))] 74 a w') List.length p_l ⟨0, ⟨[], rfl, rfl⟩, h, S.nf [] rfl (subR rfl)⟩ ?_)
   clear S h; rintro ys1 a w1 ⟨i1, ⟨dn, hd1, hi1⟩, h, S⟩
   cases ys1 with
   | nil =>
    rw [tumbref2_MovesFault_l1.eq_1] at h
    refine f_seq (f_region (lv S (rn_lss (S.tm rfl) (S.tm rfl)) rfl ?_)); clear S; intro a S
    refine l_done ?_
    replace S := S.nk [] [(0, v_p_l), (9, v_p_l), (10, iV (p_l.length : Int)), (11, iV (i1 : Int)), (12, bV (decide ((i1 : Int) < (p_l.length : Int))))] [] rfl (subR rfl)
    refine then_n (f_seq (wp_cond_false ((S.tm rfl).trans (congrArg Value.bool (rng_nil hd1 hi1))) (wp_exit (then_x (then_x (x_same ?_))))))
    refine then_n ?_
    exact ⟨h, S.nf [] rfl trivial⟩
   | cons y1 ys1 =>
    rw [tumbref2_MovesFault_l1.eq_2] at h
    refine f_seq (f_region (lv S (rn_lss (S.tm rfl) (S.tm rfl)) rfl ?_)); clear S; intro a S
    refine l_done ?_
    replace S := S.nk [] [(0, v_p_l), (9, v_p_l), (10, iV (p_l.length : Int)), (11, iV (i1 : Int)), (12, bV (decide ((i1 : Int) < (p_l.length : Int))))] [] rfl (subR rfl)
    refine then_n (f_seq (wp_cond_true ((S.tm rfl).trans (congrArg Value.bool (rng_cons hd1 hi1))) (wp_skip (then_n (f_seq (wp_block ?_))))))
    refine f_seq (f_region (lv S (rn_move (S.tm rfl)) rfl ?_)); clear S; intro a S
    obtain ⟨b1, o1, hm1, hr1⟩ := rn_indexT (a := a) (x := .tmp 9) (y := .tmp 11) (ty := 0) sl_30 hs_p_l (get_mid hd1 hi1) rfl (S.tm rfl) (S.tm rfl)
    refine lv S (hr1 _) rfl ?_; clear S; intro a S
    clear hr1
    refine lv S (rn_ldA Tryz.isAgg74 Tryz.sizeOf74 (off := o1) (o := 0) (part := (GMove.enc y1)) rfl rfl (S.tm rfl) (hm1.at S.emb0)) rfl ?_; clear S; intro a S
    refine l_alloc S Tryz.zeroValue74 (cs := [sV k_empty, sV k_empty, iV 0]) rfl rfl ?_; clear S; intro a w3 b2 hz1 hk1 S
    refine lv S (rn_assign (S.tm rfl)) rfl ?_; clear S; intro a S
    refine l_store S (S.tm rfl) (S.tm rfl) (i := 0) (off := 0) rfl Tryz.sizeOf74 (vs := (GMove.enc y1)) rfl rfl rfl rfl ?_; clear S; intro w4 hk2 S
    refine l_done (then_n (f_seq (wp_block (f_seq (f_region (lv S (rn_fld fa_74_0 (S.tm rfl)) rfl ?_)))))); clear S; intro a S
    refine lv S (rn_load Tryz.isAgg9 (S.tm rfl) (S.cell (i := 0) rfl rfl)) rfl ?_; clear S; intro a S
    obtain ⟨r1, hr2, h⟩ := bindE h
    refine l_enter S (fun _ => run_call (vs := [sV y1.Who]) ⟨(S.tm rfl), trivial⟩ Tryz.call44) (tumbref2_Key_ok _ y1.Who _ hr2) rfl ?_; clear S; intro v1 a w5 hv1 hk3 hn1 S
    subst hv1
    refine lv S (rn_not (S.tm rfl)) rfl ?_; clear S; intro a S
    refine lv S (rn_move (S.tm rfl)) rfl ?_; clear S; intro a S
    obtain ⟨j2, hj2, h⟩ := joinE h
    refine f_cutm 10 (fun a w' => ∃ c1, j2 c1 = some r ∧ Keep [] w5 w' ∧ Sx w [] nov [.blk b2 (GMove.enc y1) 74] [(0, v_p_l), (3, iV (i1 : Int)), (4, .pointer (some ⟨b2, 0, none⟩)), (9, v_p_l), (10, iV (p_l.length : Int)), (11, iV (i1 : Int)), (31, bV c1)] 74 a w') ?_ ?_
    ·rcases Bool.eq_false_or_eq_true (!r1) with hb2 | hb2
     ·replace h := iteT h hb2
      iterate 4 (refine l_skip S rfl rfl rfl (neq_t hb2) rfl ?_ rfl; clear S; intro a S)
      iterate 4 (refine l_skipU S rfl rfl rfl rfl ?_; clear S; intro a S)
      refine l_skip S rfl rfl rfl (neq_t hb2) rfl ?_ rfl; clear S; intro a S
      refine lv S (rn_or_t true hb2 (S.tm rfl) rfl) rfl ?_; clear S; intro a S
      refine l_done (then_n ?_)
      exact ⟨_, h, Keep.refl _ _, S.nf [true] rfl (subR rfl)⟩
     ·replace h := iteF h hb2
      refine l_want S rfl rfl rfl hb2 (lv S (rn_fld fa_74_1 (S.tm rfl)) rfl ?_); clear S; intro a S
      refine l_want S rfl rfl rfl hb2 (lv S (rn_load Tryz.isAgg9 (S.tm rfl) (S.cell (i := 0) rfl rfl)) rfl ?_); clear S; intro a S
      refine l_want S rfl rfl rfl hb2 (lv S (rn_sneq (S.tm rfl) rfl) rfl ?_); clear S; intro a S
      refine l_want S rfl rfl rfl hb2 (lv S (rn_move (S.tm rfl)) rfl ?_); clear S; intro a S
      obtain ⟨j3, hj3, h⟩ := joinE h
      refine f_cutm 5 (fun a w' => ∃ c2, j3 c2 = some r ∧ Keep [] w5 w' ∧ Sx w [] nov [.blk b2 (GMove.enc y1) 74] [(0, v_p_l), (3, iV (i1 : Int)), (4, .pointer (some ⟨b2, 0, none⟩)), (9, v_p_l), (10, iV (p_l.length : Int)), (11, iV (i1 : Int)), (21, bV (!r1)), (22, .pointer (some ⟨b2, 1, none⟩)), (23, sV y1.Club), (24, bV (!decide (y1.Club = k_empty))), (25, bV (!decide (y1.Club = k_empty))), (30, bV c2)] 74 a w') ?_ ?_
      ·rcases Bool.eq_false_or_eq_true (!decide (y1.Club = k_empty)) with hb3 | hb3
       ·replace h := iteT h hb3
        refine l_want S rfl rfl rfl hb3 (lv S (rn_fld fa_74_1 (S.tm rfl)) rfl ?_); clear S; intro a S
        refine l_want S rfl rfl rfl hb3 (lv S (rn_load Tryz.isAgg9 (S.tm rfl) (S.cell (i := 0) rfl rfl)) rfl ?_); clear S; intro a S
        refine l_want S rfl rfl rfl hb3 ?_
        obtain ⟨r2, hr3, h⟩ := bindE h
        refine l_enter S (fun _ => run_call (vs := [sV y1.Club]) ⟨(S.tm rfl), trivial⟩ Tryz.call44) (tumbref2_Key_ok _ y1.Club _ hr3) rfl ?_; clear S; intro v2 a w8 hv2 hk4 hn2 S
        subst hv2
        refine l_want S rfl rfl rfl hb3 (lv S (rn_not (S.tm rfl)) rfl ?_); clear S; intro a S
        refine l_want S rfl rfl rfl hb2 (lv S (rn_and_t hb3 (S.tm rfl) (S.tm rfl)) rfl ?_); clear S; intro a S
        refine l_done (then_n ?_)
        exact ⟨_, h, hk4, S.nf [true] rfl (subR rfl)⟩
       ·replace h := iteF h hb3
        iterate 4 (refine l_skip S rfl rfl rfl (neq_f hb3) rfl ?_ rfl; clear S; intro a S)
        refine l_want S rfl rfl rfl hb2 (lv S (rn_and_f true hb3 (S.tm rfl) rfl) rfl ?_); clear S; intro a S
        refine l_done (then_n ?_)
        exact ⟨_, h, Keep.refl _ _, S.nf [true] rfl (subR rfl)⟩
      clear S h; rintro a w7 ⟨c2, h, hk5, S⟩; rw [hj3] at h; clear hj3 j3
      refine lv S (rn_or_f hb2 (S.tm rfl) (S.tm rfl)) rfl ?_; clear S; intro a S
      refine l_done (then_n ?_)
      exact ⟨_, h, hk5, S.nf [true] rfl (subR rfl)⟩
    clear S h; rintro a w6 ⟨c1, h, hk6, S⟩; rw [hj2] at h; clear hj2 j2
    refine lv S (rn_assign (S.tm rfl)) rfl ?_; clear S; intro a S
    refine l_done (then_n (f_cond (S.tm rfl) (fun hb4 => ?_) (fun hb4 => ?_)))
    ·replace h := iteT h hb4
     refine f_seq (f_region (lv S (rn_assign rfl) rfl ?_)); clear S; intro a S
     refine l_done (then_n (wp_ret (blk_r (then_r (blk_r (then_r ?_))))))
     refine then_r (blk_r (then_r (then_r ?_)))
     obtain rfl := Option.some.inj h
     exact f_ret S Tryz.results16 rfl rfl
    ·replace h := iteF h hb4
     refine f_seq (f_region (lv S (rn_fld fa_74_2 (S.tm rfl)) rfl ?_)); clear S; intro a S
     refine lv S (rn_load Tryz.isAgg3 (S.tm rfl) (S.cell (i := 0) rfl rfl)) rfl ?_; clear S; intro a S
     refine l_enter S (fun _ => run_call (vs := [iV y1.Day]) ⟨(S.tm rfl), trivial⟩ Tryz.call46) (tumbref2_Day_ok _ y1.Day _ rfl) rfl ?_; clear S; intro v3 a w9 hv3 hk7 hn3 S
     subst hv3
     refine lv S (rn_not (S.tm rfl)) rfl ?_; clear S; intro a S
     refine lv S (rn_assign (S.tm rfl)) rfl ?_; clear S; intro a S
     refine l_done (then_n (f_cond (S.tm rfl) (fun hb5 => ?_) (fun hb5 => ?_)))
     ·replace h := iteT h hb5
      refine f_seq (f_region (lv S (rn_assign rfl) rfl ?_)); clear S; intro a S
      refine l_done (then_n (wp_ret (blk_r (then_r (blk_r (then_r ?_))))))
      refine then_r (blk_r (then_r (then_r ?_)))
      obtain rfl := Option.some.inj h
      exact f_ret S Tryz.results16 rfl rfl
     ·replace h := iteF h hb5
      refine f_seq ?_
      obtain ⟨j4, hj4, h⟩ := joinE h
      refine f_join (fun a w' => ∃ x1 : Bool, j4 x1 = some r ∧ Sx w [] nov [.blk b2 (GMove.enc y1) 74] [(0, v_p_l), (3, iV (i1 : Int)), (4, .pointer (some ⟨b2, 0, none⟩)), (9, v_p_l), (10, iV (p_l.length : Int)), (11, iV (i1 : Int)), (37, bV x1)] 74 a w') ?_ ?_
      ·rcases Bool.eq_false_or_eq_true (decide (0 < (i1 : Int))) with hb6 | hb6
       ·replace h := iteT h hb6
        obtain ⟨hc1, h⟩ := chkE h
        refine d_region [] ([]) Tryz.mixed S rfl (by kernel_rfl) ?_; clear S; intro w12 hk9 hsel S
        refine d_quiet 0 S hsel rfl rfl rfl (by kernel_rfl) (by kernel_rfl) rfl (fun _ hw => (rn_move (S.tm rfl))) ?_; clear S; intro a S
        refine d_quiet 1 S hsel rfl rfl rfl (by kernel_rfl) (by kernel_rfl) rfl (fun _ hw => (rn_gtr (S.tm rfl) rfl)) ?_; clear S; intro a S
        refine d_quiet 2 S hsel rfl rfl rfl (by kernel_rfl) (by kernel_rfl) rfl (fun _ hw => (rn_move (S.tm rfl))) ?_; clear S; intro a S
        refine d_quiet_g 3 S hsel rfl rfl rfl rfl hb6 rfl rfl (by kernel_rfl) (by kernel_rfl) rfl (fun _ hw => (rn_move (S.tm rfl))) ?_; clear S; intro a S
        refine d_quiet_g 4 S hsel rfl rfl rfl rfl hb6 rfl rfl (by kernel_rfl) (by kernel_rfl) rfl (fun _ hw => (rn_move (S.tm rfl))) ?_; clear S; intro a S
        refine d_quiet_g 5 S hsel rfl rfl rfl rfl hb6 rfl rfl (by kernel_rfl) (by kernel_rfl) rfl (fun _ hw => (rn_sub (S.tm rfl) rfl)) ?_; clear S; intro a S
        obtain ⟨b4, o3, hm3, hr5⟩ := rn_indexT (a := a) (x := .tmp 41) (y := .tmp 43) (ty := 0) sl_30 (hs_p_l.mono (S.le_arg nil_sub)) (inB_get hc1).1 (inB_get hc1).2 (S.tm rfl) (S.tm rfl)
        refine d_quiet_g 6 S hsel rfl rfl rfl rfl hb6 rfl rfl (by kernel_rfl) (by kernel_rfl) rfl (fun _ hw => hr5 _) ?_; clear S; intro a S
        clear hr5
        refine d_quiet_g 7 S hsel rfl rfl rfl rfl hb6 rfl rfl (by kernel_rfl) (by kernel_rfl) rfl (fun _ hw => (rn_ldA Tryz.isAgg74 Tryz.sizeOf74 (off := o3) (o := 0) (part := (GMove.enc (nth p_l (W ((i1 : Int) - 1))))) rfl rfl (S.tm rfl) (hm3.kept hw))) ?_; clear S; intro a S
        refine d_quiet_g 8 S hsel rfl rfl rfl rfl hb6 rfl rfl (by kernel_rfl) (by kernel_rfl) rfl (fun _ hw => (rn_ldA Tryz.isAgg74 Tryz.sizeOf74 (off := 0) (o := 0) (part := (GMove.enc y1)) rfl rfl (S.tm rfl) ((S.blk_mem (i := 0) (cells := (GMove.enc y1)) (b := b2) (T := 74) rfl (ne_nil (e' := .blk b2 (GMove.enc y1) 74))).kept hw))) ?_; clear S; intro a S
        refine d_loud1 9 (by kernel_rfl) rfl (l_want S rfl rfl rfl hb6 (l_enter S (fun _ => run_call (vs := [.agg (GMove.enc (nth p_l (W ((i1 : Int) - 1)))).toArray, .agg (GMove.enc y1).toArray]) ⟨(S.tm rfl), (S.tm rfl), trivial⟩ Tryz.call47) (tumbref2_moveOrder_ok _ (nth p_l (W ((i1 : Int) - 1))) y1 _ rfl) rfl ?_)); clear S; intro v5 a w13 hv5 hk10 hn5 S
        subst hv5
        refine l_done (d_next hk10 (d_rest [10, 11, 12] hsel (by kernel_rfl) rfl ?_))
        clear hsel
        refine s_want S rfl rfl rfl rfl hb6 (s_lv0 S (rn_geq (S.tm rfl) rfl) rfl ?_); clear S; intro a S
        refine s_lv S rfl (rn_pick_b hb6 (S.tm rfl) (S.tm rfl)) rfl ?_; clear S; intro a S
        refine s_lv S rfl (rn_assign (S.tm rfl)) rfl ?_; clear S; intro a S
        refine s_done ?_
        replace S := S.nk [.blk b2 (GMove.enc y1) 74] [(0, v_p_l), (3, iV (i1 : Int)), (4, .pointer (some ⟨b2, 0, none⟩)), (9, v_p_l), (10, iV (p_l.length : Int)), (11, iV (i1 : Int)), (37, bV (decide (0 ≤ (tumbref2_moveOrder (nth p_l (W ((i1 : Int) - 1))) y1)))), (41, v_p_l), (42, iV (i1 : Int)), (43, iV (W ((i1 : Int) - 1))), (44, .pointer (some ⟨b4, o3, none⟩)), (45, .agg (GMove.enc (nth p_l (W ((i1 : Int) - 1)))).toArray), (46, .agg (GMove.enc y1).toArray), (47, iV (tumbref2_moveOrder (nth p_l (W ((i1 : Int) - 1))) y1)), (48, bV (decide (0 ≤ (tumbref2_moveOrder (nth p_l (W ((i1 : Int) - 1))) y1))))] [true] rfl (subR rfl)
        refine then_n ?_
        exact ⟨decide (0 ≤ (tumbref2_moveOrder (nth p_l (W ((i1 : Int) - 1))) y1)), h, S.nf [true] rfl (subR rfl)⟩
       ·replace h := iteF h hb6
        refine d_region [] ([]) Tryz.mixed S rfl (by kernel_rfl) ?_; clear S; intro w14 hk11 hsel S
        refine d_rest [0, 1, 2, 3, 4, 5, 6, 7, 8, 9, 10, 11, 12] hsel (by kernel_rfl) rfl ?_
        clear hsel
        refine s_lv S rfl (rn_move (S.tm rfl)) rfl ?_; clear S; intro a S
        refine s_lv S rfl (rn_gtr (S.tm rfl) rfl) rfl ?_; clear S; intro a S
        refine s_lv S rfl (rn_move (S.tm rfl)) rfl ?_; clear S; intro a S
        iterate 8 (refine s_skip S rfl rfl rfl rfl (neq_f hb6) rfl ?_ rfl; clear S; intro a S)
        refine s_lv S rfl (rn_pick_c hb6 (S.tm rfl) rfl) rfl ?_; clear S; intro a S
        refine s_lv S rfl (rn_assign (S.tm rfl)) rfl ?_; clear S; intro a S
        refine s_done ?_
        replace S := S.nk [.blk b2 (GMove.enc y1) 74] [(0, v_p_l), (3, iV (i1 : Int)), (4, .pointer (some ⟨b2, 0, none⟩)), (9, v_p_l), (10, iV (p_l.length : Int)), (11, iV (i1 : Int)), (37, bV false)] [true] rfl (subR rfl)
        refine then_n ?_
        exact ⟨false, h, S.nf [true] rfl (subR rfl)⟩
      clear S h; rintro a w10 ⟨x1, h, S⟩; rw [hj4] at h; clear hj4 j4
      refine then_n (f_cond (S.tm rfl) (fun hb7 => ?_) (fun hb7 => ?_))
      ·replace h := iteT h hb7
       refine f_seq (f_region (lv S (rn_assign rfl) rfl ?_)); clear S; intro a S
       refine l_done (then_n (wp_ret (blk_r (then_r (blk_r (then_r ?_))))))
       refine then_r (blk_r (then_r (then_r ?_)))
       obtain rfl := Option.some.inj h
       exact f_ret S Tryz.results16 rfl rfl
      ·replace h := iteF h hb7
       refine wp_skip (blk_n (then_n (f_seq (f_region (lv S (rn_assign rfl) rfl ?_))))); clear S; intro a S
       refine l_done (then_n (f_seq (f_seq (d_region [] ([]) Tryz.mixed S rfl (by kernel_rfl) ?_)))); clear S; intro w15 hk12 hsel S
       refine d_rest [0, 1, 2, 3, 4, 5, 6, 7, 8, 9, 10, 11, 12] hsel (by kernel_rfl) rfl ?_
       clear hsel
       refine s_lv S rfl (rn_move (S.tm rfl)) rfl ?_; clear S; intro a S
       refine s_lv S rfl (rn_gtr (S.tm rfl) rfl) rfl ?_; clear S; intro a S
       refine s_lv S rfl (rn_move (S.tm rfl)) rfl ?_; clear S; intro a S
       obtain ⟨j5, hj5, h⟩ := joinE h
       refine s_cutm 10 (fun a w' => ∃ c3, j5 c3 = some r ∧ Keep [] w15 w' ∧ Sx w [] nov [.blk b2 (GMove.enc y1) 74] [(0, v_p_l), (3, iV (i1 : Int)), (4, .pointer (some ⟨b2, 0, none⟩)), (5, sV k_empty), (9, v_p_l), (10, iV (p_l.length : Int)), (11, iV (i1 : Int)), (62, bV c3)] 74 a w') ?_ ?_
       ·rcases Bool.eq_false_or_eq_true (decide (0 < (i1 : Int))) with hb8 | hb8
        ·replace h := iteT h hb8
         refine s_want S rfl rfl rfl rfl hb8 (s_lv0 S (rn_move (S.tm rfl)) rfl ?_); clear S; intro a S
         refine s_want S rfl rfl rfl rfl hb8 (s_lv0 S (rn_move (S.tm rfl)) rfl ?_); clear S; intro a S
         refine s_want S rfl rfl rfl rfl hb8 (s_lv0 S (rn_sub (S.tm rfl) rfl) rfl ?_); clear S; intro a S
         refine s_want S rfl rfl rfl rfl hb8 ?_
         obtain ⟨hc2, h⟩ := chkE h
         obtain ⟨b5, o4, hm4, hr6⟩ := rn_indexT (a := a) (x := .tmp 53) (y := .tmp 55) (ty := 0) sl_30 hs_p_l (inB_get hc2).1 (inB_get hc2).2 (S.tm rfl) (S.tm rfl)
         refine s_lv0 S (hr6 _) rfl ?_; clear S; intro a S
         clear hr6
         refine s_want S rfl rfl rfl rfl hb8 (s_lv0 S (rn_fld fa_74_0 (S.tm rfl)) rfl ?_); clear S; intro a S
         refine s_want S rfl rfl rfl rfl hb8 (s_lv0 S (rn_ld Tryz.isAgg9 (off := o4) (o := 0) (S.tm rfl) (hm4.at S.emb0) rfl) rfl ?_); clear S; intro a S
         refine s_want S rfl rfl rfl rfl hb8 (s_lv0 S (rn_fld fa_74_0 (S.tm rfl)) rfl ?_); clear S; intro a S
         refine s_want S rfl rfl rfl rfl hb8 (s_lv0 S (rn_load Tryz.isAgg9 (S.tm rfl) (S.cell (i := 0) rfl rfl)) rfl ?_); clear S; intro a S
         refine s_want S rfl rfl rfl rfl hb8 (s_lv0 S (rn_seql (S.tm rfl) (S.tm rfl)) rfl ?_); clear S; intro a S
         refine s_lv S rfl (rn_and_t hb8 (S.tm rfl) (S.tm rfl)) rfl ?_; clear S; intro a S
         refine s_done ?_
         exact ⟨_, h, Keep.refl _ _, S.nf [true] rfl (subR rfl)⟩
        ·replace h := iteF h hb8
         iterate 9 (refine s_skip S rfl rfl rfl rfl (neq_f hb8) rfl ?_ rfl; clear S; intro a S)
         refine s_lv S rfl (rn_and_f true hb8 (S.tm rfl) rfl) rfl ?_; clear S; intro a S
         refine s_done ?_
         exact ⟨_, h, Keep.refl _ _, S.nf [true] rfl (subR rfl)⟩
       clear S h; rintro a w16 ⟨c3, h, hk13, S⟩; rw [hj5] at h; clear hj5 j5
       refine s_done ?_
       replace S := S.nk [.blk b2 (GMove.enc y1) 74] [(0, v_p_l), (3, iV (i1 : Int)), (4, .pointer (some ⟨b2, 0, none⟩)), (5, sV k_empty), (9, v_p_l), (10, iV (p_l.length : Int)), (11, iV (i1 : Int)), (62, bV c3)] [true] rfl (subR rfl)
       refine then_n ?_
       obtain ⟨j6, hj6, h⟩ := joinE h
       refine f_join (fun a w' => ∃ x2 : ByteArray, j6 x2 = some r ∧ Sx w [] nov [.blk b2 (GMove.enc y1) 74] [(0, v_p_l), (4, .pointer (some ⟨b2, 0, none⟩)), (5, sV x2), (9, v_p_l), (10, iV (p_l.length : Int)), (11, iV (i1 : Int))] 74 a w') ?_ ?_
       ·refine f_cond (S.tm rfl) (fun hb9 => ?_) (fun hb9 => ?_)
        ·replace h := iteT h hb9
         refine f_region (lv S (rn_move (S.tm rfl)) rfl ?_); clear S; intro a S
         refine lv S (rn_move (S.tm rfl)) rfl ?_; clear S; intro a S
         refine lv S (rn_sub (S.tm rfl) rfl) rfl ?_; clear S; intro a S
         obtain ⟨hc3, h⟩ := chkE h
         obtain ⟨b6, o5, hm5, hr7⟩ := rn_indexT (a := a) (x := .tmp 63) (y := .tmp 65) (ty := 0) sl_30 hs_p_l (inB_get hc3).1 (inB_get hc3).2 (S.tm rfl) (S.tm rfl)
         refine lv S (hr7 _) rfl ?_; clear S; intro a S
         clear hr7
         refine lv S (rn_fld fa_74_1 (S.tm rfl)) rfl ?_; clear S; intro a S
         refine lv S (rn_ld Tryz.isAgg9 (off := o5) (o := 1) (S.tm rfl) (hm5.at S.emb0) rfl) rfl ?_; clear S; intro a S
         refine lv S (rn_assign (S.tm rfl)) rfl ?_; clear S; intro a S
         refine l_done (then_n ?_)
         exact ⟨(nth p_l (W ((i1 : Int) - 1))).Club, h, S.nf [true] rfl (subR rfl)⟩
        ·replace h := iteF h hb9
         refine wp_skip (then_n ?_)
         exact ⟨k_empty, h, S.nf [true] rfl (subR rfl)⟩
       clear S h; rintro a w17 ⟨x2, h, S⟩; rw [hj6] at h; clear hj6 j6
       refine then_n (f_seq (f_region (lv S (rn_fld fa_74_1 (S.tm rfl)) rfl ?_))); clear S; intro a S
       refine lv S (rn_load Tryz.isAgg9 (S.tm rfl) (S.cell (i := 0) rfl rfl)) rfl ?_; clear S; intro a S
       refine lv S (rn_move (S.tm rfl)) rfl ?_; clear S; intro a S
       refine lv S (rn_seql (S.tm rfl) (S.tm rfl)) rfl ?_; clear S; intro a S
       refine l_done (then_n (f_cond (S.tm rfl) (fun hb10 => ?_) (fun hb10 => ?_)))
       ·replace h := iteT h hb10
        refine f_seq (f_region (lv S (rn_assign rfl) rfl ?_)); clear S; intro a S
        refine l_done (then_n (wp_ret (blk_r (then_r (then_r (blk_r ?_))))))
        refine then_r (then_r ?_)
        obtain rfl := Option.some.inj h
        exact f_ret S Tryz.results16 rfl rfl
       ·replace h := iteF h hb10
        refine wp_skip (blk_n (then_n (f_region (lv S (rn_add (S.tm rfl) rfl) rfl ?_)))); clear S; intro a S
        refine lv S (rn_move (S.tm rfl)) rfl ?_; clear S; intro a S
        refine l_done (then_n ?_)
        exact ⟨ys1, ⟨i1 + 1, ⟨_, (hd1).trans (List.append_cons _ _ _), by simp [hi1]⟩, h, S.nf [false] rfl ⟨rfl, rfl, rfl, (congrArg (fun z => some (Value.int .i64 z)) (rng_next hd1 hi1 (slc_max hs_p_l))), trivial⟩⟩, Nat.lt_succ_self _⟩
  clear S h; rintro a w2 ⟨h, S⟩; rw [hj1] at h; clear hj1 j1
  refine then_n (f_seq (f_region (lv S (rn_assign rfl) rfl ?_))); clear S; intro a S
  refine l_done (then_n (wp_ret ?_))
  obtain rfl := Option.some.inj h
  exact f_ret S Tryz.results16 rfl rfl
theorem tumbref2_BoundsFault_ok (w : World) (p_b : GBounds) (r : Int) (h : tumbref2_BoundsFault p_b = r) :
    Calls Tryz.prog 17 [.agg (GBounds.enc p_b).toArray].toArray w (Ret w [] fun _ v _ => v = iV r) := by
 refine f_enter [] [] Tryz.func17 rfl Tryz.ntmps17 rfl (by simp) (by simp [fps]) (by simp [fps]) fun a S => ?_
 unfold tumbref2_BoundsFault at h
 replace S := S.nk [] [(0, .agg (GBounds.enc p_b).toArray)] [] rfl ⟨rfl, trivial⟩
 refine f_seq (f_region (l_box S (S.tm rfl) (cs := (GBounds.enc p_b)) rfl rfl ?_)); clear S; intro a w1 b1 hz1 hk1 S
 refine lv S (rn_assign rfl) rfl ?_; clear S; intro a S
 refine l_done (then_n (f_seq (wp_block (f_seq (f_region (lv S (rn_fld fa_33_0 (S.tm rfl)) rfl ?_)))))); clear S; intro a S
 refine lv S (rn_load Tryz.isAgg3 (S.tm rfl) (S.cell (i := 0) rfl rfl)) rfl ?_; clear S; intro a S
 refine l_enter S (fun _ => run_call (vs := [iV p_b.Races, iV 0, iV 100]) ⟨(S.tm rfl), rfl, rfl, trivial⟩ Tryz.call45) (tumbref2_in_ok _ p_b.Races 0 100 _ rfl) rfl ?_; clear S; intro v1 a w2 hv1 hk2 hn1 S
 subst hv1
 refine lv S (rn_not (S.tm rfl)) rfl ?_; clear S; intro a S
 refine lv S (rn_move (S.tm rfl)) rfl ?_; clear S; intro a S
 refine f_cutm 5 (fun a w' => Keep [] w2 w' ∧ Sx w [] nov [.blk b1 (GBounds.enc p_b) 33] [(1, .pointer (some ⟨b1, 0, none⟩)), (13, bV ((!(tumbref2_in p_b.Races 0 100)) || (!(tumbref2_in p_b.Club 0 1500))))] 24 a w') ?_ ?_
 ·rcases Bool.eq_false_or_eq_true (!(tumbref2_in p_b.Races 0 100)) with hb1 | hb1
  ·iterate 4 (refine l_skip S rfl rfl rfl (neq_t hb1) rfl ?_ rfl; clear S; intro a S)
   refine lv S (rn_or_t (!(tumbref2_in p_b.Club 0 1500)) hb1 (S.tm rfl) rfl) rfl ?_; clear S; intro a S
   refine l_done (then_n ?_)
   exact ⟨Keep.refl _ _, S.nf [true] rfl (subR rfl)⟩
  ·refine l_want S rfl rfl rfl hb1 (lv S (rn_fld fa_33_1 (S.tm rfl)) rfl ?_); clear S; intro a S
   refine l_want S rfl rfl rfl hb1 (lv S (rn_load Tryz.isAgg3 (S.tm rfl) (S.cell (i := 0) rfl rfl)) rfl ?_); clear S; intro a S
   refine l_want S rfl rfl rfl hb1 (l_enter S (fun _ => run_call (vs := [iV p_b.Club, iV 0, iV 1500]) ⟨(S.tm rfl), rfl, rfl, trivial⟩ Tryz.call45) (tumbref2_in_ok _ p_b.Club 0 1500 _ rfl) rfl ?_); clear S; intro v2 a w4 hv2 hk3 hn2 S
   subst hv2
   refine l_want S rfl rfl rfl hb1 (lv S (rn_not (S.tm rfl)) rfl ?_); clear S; intro a S
   refine lv S (rn_or_f hb1 (S.tm rfl) (S.tm rfl)) rfl ?_; clear S; intro a S
   refine l_done (then_n ?_)
   exact ⟨hk3, S.nf [true] rfl (subR rfl)⟩
 clear S; rintro a w3 ⟨hk4, S⟩
 refine lv S (rn_assign (S.tm rfl)) rfl ?_; clear S; intro a S
 refine l_done (then_n (f_cond (S.tm rfl) (fun hb2 => ?_) (fun hb2 => ?_)))
 ·replace h := iteT h hb2
  refine f_seq (f_region (lv S (rn_assign rfl) rfl ?_)); clear S; intro a S
  refine l_done (then_n (wp_ret (blk_r (then_r ?_))))
  subst h
  exact f_ret S Tryz.results17 rfl rfl
 ·replace h := iteF h hb2
  refine f_seq (f_region (lv S (rn_fld fa_33_2 (S.tm rfl)) rfl ?_)); clear S; intro a S
  refine lv S (rn_load Tryz.isAgg3 (S.tm rfl) (S.cell (i := 0) rfl rfl)) rfl ?_; clear S; intro a S
  refine l_enter S (fun _ => run_call (vs := [iV p_b.Age, iV 1, iV 2]) ⟨(S.tm rfl), rfl, rfl, trivial⟩ Tryz.call45) (tumbref2_in_ok _ p_b.Age 1 2 _ rfl) rfl ?_; clear S; intro v3 a w5 hv3 hk5 hn3 S
  subst hv3
  refine lv S (rn_not (S.tm rfl)) rfl ?_; clear S; intro a S
  refine lv S (rn_assign (S.tm rfl)) rfl ?_; clear S; intro a S
  refine l_done (then_n (f_cond (S.tm rfl) (fun hb3 => ?_) (fun hb3 => ?_)))
  ·replace h := iteT h hb3
   refine f_seq (f_region (lv S (rn_assign rfl) rfl ?_)); clear S; intro a S
   refine l_done (then_n (wp_ret (blk_r (then_r ?_))))
   subst h
   exact f_ret S Tryz.results17 rfl rfl
  ·replace h := iteF h hb3
   refine f_seq (f_region (lv S (rn_fld fa_33_3 (S.tm rfl)) rfl ?_)); clear S; intro a S
   refine lv S (rn_load Tryz.isAgg3 (S.tm rfl) (S.cell (i := 0) rfl rfl)) rfl ?_; clear S; intro a S
   refine l_enter S (fun _ => run_call (vs := [iV p_b.Day]) ⟨(S.tm rfl), trivial⟩ Tryz.call46) (tumbref2_Day_ok _ p_b.Day _ rfl) rfl ?_; clear S; intro v4 a w6 hv4 hk6 hn4 S
   subst hv4
   refine lv S (rn_not (S.tm rfl)) rfl ?_; clear S; intro a S
   refine lv S (rn_assign (S.tm rfl)) rfl ?_; clear S; intro a S
   refine l_done (then_n (f_cond (S.tm rfl) (fun hb4 => ?_) (fun hb4 => ?_)))
   ·replace h := iteT h hb4
    refine f_seq (f_region (lv S (rn_assign rfl) rfl ?_)); clear S; intro a S
    refine l_done (then_n (wp_ret (blk_r (then_r ?_))))
    subst h
    exact f_ret S Tryz.results17 rfl rfl
   ·replace h := iteF h hb4
    refine wp_skip (blk_n (then_n (f_seq (f_region (lv S (rn_assign rfl) rfl ?_))))); clear S; intro a S
    refine l_done (then_n (wp_ret ?_))
    subst h
    exact f_ret S Tryz.results17 rfl rfl
end Go.Proofs.YtmngaaffadcccaaGreatDoor
