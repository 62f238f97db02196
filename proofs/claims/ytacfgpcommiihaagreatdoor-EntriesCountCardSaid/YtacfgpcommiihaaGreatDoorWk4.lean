/- Each Go function computes its plain twin, by program. -/
import Derived.Test.YtacfgpcommiihaaGreatDoorWk3
namespace Go.Proofs.YtacfgpcommiihaaGreatDoor
open Go
theorem tumbref2_SwimmersFault_ok (w : World) (v_p_l : Value) (p_l : List GSwimmer) (hs_p_l : Slc (view w []) 3 v_p_l (p_l.map GSwimmer.enc)) (r : Int) (h : tumbref2_SwimmersFault p_l = some r) :
    Calls Tryz.prog 15 [v_p_l].toArray w (Ret w [] fun τ v w' => v = .int .i64 r) := by
 refine f_enter [] [] Tryz.func15 rfl Tryz.ntmps15 rfl (by simp) (by simp [fps]) (by simp [fps]) fun a S => ?_
 unfold tumbref2_SwimmersFault at h
 replace S := S.nk [] [(0, v_p_l)] [] rfl ⟨rfl, trivial⟩
 refine f_seq ?_
 refine f_region ?_
 refine lv S (rn_assign rfl) rfl ?_; clear S; intro a S
 refine l_done ?_
 replace S := S.nk [] [(0, v_p_l)] [] rfl ⟨rfl, trivial⟩
 refine then_n ?_
 refine f_seq ?_
 refine f_seq ?_
 refine f_region ?_
 refine lv S (rn_move (S.tm rfl)) rfl ?_; clear S; intro a S
 refine lv S (rn_lenT sl_28 (S.tm rfl) (slc_len hs_p_l)) rfl ?_; clear S; intro a S
 refine lv S (rn_gtr (S.tm rfl) rfl) rfl ?_; clear S; intro a S
 refine l_done ?_
 replace S := S.nk [] [(0, v_p_l), (8, .bool (decide (500 < (p_l.length : Int))))] [] rfl ⟨rfl, rfl, trivial⟩
 refine then_n ?_
 refine f_cond (S.tm rfl) (fun hb1 => ?_) (fun hb1 => ?_)
 ·replace h := iteT h hb1
  refine f_seq ?_
  refine f_region ?_
  refine lv S (rn_assign rfl) rfl ?_; clear S; intro a S
  refine l_done ?_
  replace S := S.nk [] [(2, .int .i64 2)] [] rfl ⟨rfl, trivial⟩
  refine then_n ?_
  refine wp_ret ?_
  refine then_r ?_
  obtain rfl := Option.some.inj h
  exact f_ret S Tryz.results15 rfl rfl
 ·replace h := iteF h hb1
  refine wp_skip ?_
  refine then_n ?_
  refine f_seq ?_
  refine f_region ?_
  refine lv S (rn_assign rfl) rfl ?_; clear S; intro a S
  refine l_done ?_
  replace S := S.nk [] [(0, v_p_l), (3, .string k_empty)] [] rfl ⟨rfl, rfl, trivial⟩
  refine then_n ?_
  refine f_seq ?_
  refine f_seq ?_
  refine f_region ?_
  refine lv S (rn_move (S.tm rfl)) rfl ?_; clear S; intro a S
  refine lv S (rn_lenT sl_28 (S.tm rfl) (slc_len hs_p_l)) rfl ?_; clear S; intro a S
  refine lv S (rn_move rfl) rfl ?_; clear S; intro a S
  refine l_done ?_
  replace S := S.nk [] [(3, .string k_empty), (9, v_p_l), (10, .int .i64 (p_l.length : Int)), (11, .int .i64 0)] [] rfl ⟨rfl, rfl, rfl, rfl, trivial⟩
  refine then_n ?_
  obtain ⟨j1, hj1, h⟩ := joinE h
  refine f_join (fun a w' => j1 = some r ∧ Sx w [] nov [] [] 39 a w') ?_ ?_
  ·refine wp_block ?_
   refine f_loop (fun (ys1 : List GSwimmer) a w' => ∃ i1 : Nat, ∃ x1 : ByteArray, (∃ dn, p_l = dn ++ ys1 ∧ dn.length = i1) ∧ tumbref2_SwimmersFault_l1 j1 ys1 i1 x1 = some r ∧ Sx w [] nov [] [(3, .string x1), (9, v_p_l), (10, .int .i64 (p_l.length : Int)), (11, .int .i64 (i1 : Int))] 39 a w') List.length p_l ⟨0, k_empty, ⟨[], rfl, rfl⟩, h, S.nf [] rfl ⟨rfl, rfl, rfl, rfl, trivial⟩⟩ ?_
   clear S h; rintro ys1 a w1 ⟨i1, x1, ⟨dn, hd1, hi1⟩, h, S⟩
   cases ys1 with
   | nil =>
    rw [tumbref2_SwimmersFault_l1.eq_1] at h
    refine f_seq ?_
    refine f_region ?_
    refine lv S (rn_lss (S.tm rfl) (S.tm rfl)) rfl ?_; clear S; intro a S
    refine l_done ?_
    replace S := S.nk [] [(3, .string x1), (9, v_p_l), (10, .int .i64 (p_l.length : Int)), (11, .int .i64 (i1 : Int)), (12, .bool (decide ((i1 : Int) < (p_l.length : Int))))] [] rfl ⟨rfl, rfl, rfl, rfl, rfl, trivial⟩
    refine then_n ?_
    refine f_seq ?_
    refine wp_cond_false ((S.tm rfl).trans (congrArg Value.bool (rng_nil hd1 hi1))) ?_
    refine wp_exit ?_
    refine then_x ?_
    refine then_x ?_
    refine x_same ?_
    refine then_n ?_
    exact ⟨h, S.nf [] rfl trivial⟩
   | cons y1 ys1 =>
    rw [tumbref2_SwimmersFault_l1.eq_2] at h
    refine f_seq ?_
    refine f_region ?_
    refine lv S (rn_lss (S.tm rfl) (S.tm rfl)) rfl ?_; clear S; intro a S
    refine l_done ?_
    replace S := S.nk [] [(3, .string x1), (9, v_p_l), (10, .int .i64 (p_l.length : Int)), (11, .int .i64 (i1 : Int)), (12, .bool (decide ((i1 : Int) < (p_l.length : Int))))] [] rfl ⟨rfl, rfl, rfl, rfl, rfl, trivial⟩
    refine then_n ?_
    refine f_seq ?_
    refine wp_cond_true ((S.tm rfl).trans (congrArg Value.bool (rng_cons hd1 hi1))) ?_
    refine wp_skip ?_
    refine then_n ?_
    refine f_seq ?_
    refine wp_block ?_
    refine f_seq ?_
    refine f_region ?_
    obtain ⟨b1, o1, hm1, hr1⟩ := rn_indexT (a := a) (x := .tmp 9) (y := .tmp 11) (ty := 0) sl_28 hs_p_l (get_mid hd1 hi1) rfl (S.tm rfl) (S.tm rfl)
    refine lv S (hr1 _) rfl ?_; clear S; intro a S
    clear hr1
    refine lv S (rn_ldA Tryz.isAgg60 Tryz.sizeOf60 (off := o1) (o := 0) (part := [.string y1.Key, .int .i64 y1.Sex, .int .i64 y1.Born]) rfl rfl (S.tm rfl) (hm1.at S.emb0)) rfl ?_; clear S; intro a S
    refine l_alloc S Tryz.zeroValue60 (cs := [.string k_empty, .int .i64 0, .int .i64 0]) rfl rfl ?_; clear S; intro a w3 b2 hz1 hk1 S
    refine l_store S (S.tm rfl) (S.tm rfl) (i := 0) (off := 0) rfl Tryz.sizeOf60 (vs := [.string y1.Key, .int .i64 y1.Sex, .int .i64 y1.Born]) rfl rfl rfl rfl ?_; clear S; intro w4 hk2 S
    refine l_done ?_
    replace S := S.nk [.blk b2 [.string y1.Key, .int .i64 y1.Sex, .int .i64 y1.Born] 60] [(3, .string x1), (5, .pointer (some ⟨b2, 0, none⟩)), (9, v_p_l), (10, .int .i64 (p_l.length : Int)), (11, .int .i64 (i1 : Int))] [true] rfl ⟨rfl, rfl, rfl, rfl, rfl, trivial⟩
    refine then_n ?_
    refine f_seq ?_
    refine wp_block ?_
    refine f_seq ?_
    refine f_region ?_
    refine lv S (rn_fld fa_60_0 (S.tm rfl)) rfl ?_; clear S; intro a S
    refine lv S (rn_load Tryz.isAgg9 (S.tm rfl) (S.cell (i := 0) rfl rfl)) rfl ?_; clear S; intro a S
    obtain ⟨r1, hr2, h⟩ := bindE h
    refine l_enter S (fun _ => run_call (vs := [.string y1.Key]) ⟨(S.tm rfl), trivial⟩ Tryz.call37) (tumbref2_Key_ok _ y1.Key _ hr2) rfl ?_; clear S; intro v1 a w5 hv1 hk3 hn1 S
    subst hv1
    refine lv S (rn_not (S.tm rfl)) rfl ?_; clear S; intro a S
    refine lv S (rn_assign (S.tm rfl)) rfl ?_; clear S; intro a S
    refine l_done ?_
    replace S := S.nk [.blk b2 [.string y1.Key, .int .i64 y1.Sex, .int .i64 y1.Born] 60] [(3, .string x1), (5, .pointer (some ⟨b2, 0, none⟩)), (9, v_p_l), (10, .int .i64 (p_l.length : Int)), (11, .int .i64 (i1 : Int)), (15, .bool (!r1))] [true] rfl ⟨rfl, rfl, rfl, rfl, rfl, rfl, trivial⟩
    refine then_n ?_
    refine f_cond (S.tm rfl) (fun hb2 => ?_) (fun hb2 => ?_)
    ·replace h := iteT h hb2
     refine f_seq ?_
     refine f_region ?_
     refine lv S (rn_assign rfl) rfl ?_; clear S; intro a S
     refine l_done ?_
     replace S := S.nk [] [(2, .int .i64 5)] [false] rfl ⟨rfl, trivial⟩
     refine then_n ?_
     refine wp_ret ?_
     refine blk_r ?_
     refine then_r ?_
     refine blk_r ?_
     refine then_r ?_
     refine then_r ?_
     refine blk_r ?_
     refine then_r ?_
     refine then_r ?_
     obtain rfl := Option.some.inj h
     exact f_ret S Tryz.results15 rfl rfl
    ·replace h := iteF h hb2
     refine f_seq ?_
     refine f_region ?_
     refine lv S (rn_fld fa_60_0 (S.tm rfl)) rfl ?_; clear S; intro a S
     refine lv S (rn_load Tryz.isAgg9 (S.tm rfl) (S.cell (i := 0) rfl rfl)) rfl ?_; clear S; intro a S
     refine lv S (rn_move (S.tm rfl)) rfl ?_; clear S; intro a S
     refine lv S (rn_sleq (S.tm rfl) (S.tm rfl)) rfl ?_; clear S; intro a S
     refine lv S (rn_assign (S.tm rfl)) rfl ?_; clear S; intro a S
     refine l_done ?_
     replace S := S.nk [.blk b2 [.string y1.Key, .int .i64 y1.Sex, .int .i64 y1.Born] 60] [(5, .pointer (some ⟨b2, 0, none⟩)), (9, v_p_l), (10, .int .i64 (p_l.length : Int)), (11, .int .i64 (i1 : Int)), (20, .bool (Sless y1.Key x1 || decide (y1.Key = x1)))] [true] rfl ⟨rfl, rfl, rfl, rfl, rfl, trivial⟩
     refine then_n ?_
     refine f_cond (S.tm rfl) (fun hb3 => ?_) (fun hb3 => ?_)
     ·replace h := iteT h hb3
      refine f_seq ?_
      refine f_region ?_
      refine lv S (rn_assign rfl) rfl ?_; clear S; intro a S
      refine l_done ?_
      replace S := S.nk [] [(2, .int .i64 7)] [false] rfl ⟨rfl, trivial⟩
      refine then_n ?_
      refine wp_ret ?_
      refine blk_r ?_
      refine then_r ?_
      refine blk_r ?_
      refine then_r ?_
      refine then_r ?_
      refine blk_r ?_
      refine then_r ?_
      refine then_r ?_
      obtain rfl := Option.some.inj h
      exact f_ret S Tryz.results15 rfl rfl
     ·replace h := iteF h hb3
      refine f_seq ?_
      refine f_region ?_
      refine lv S (rn_fld fa_60_1 (S.tm rfl)) rfl ?_; clear S; intro a S
      refine lv S (rn_load Tryz.isAgg3 (S.tm rfl) (S.cell (i := 0) rfl rfl)) rfl ?_; clear S; intro a S
      refine l_enter S (fun _ => run_call (vs := [.int .i64 y1.Sex, .int .i64 1, .int .i64 2]) ⟨(S.tm rfl), rfl, rfl, trivial⟩ Tryz.call38) (tumbref2_in_ok _ y1.Sex 1 2 _ rfl) rfl ?_; clear S; intro v2 a w6 hv2 hk4 hn2 S
      subst hv2
      refine lv S (rn_not (S.tm rfl)) rfl ?_; clear S; intro a S
      refine lv S (rn_move (S.tm rfl)) rfl ?_; clear S; intro a S
      refine f_cutm 5 (fun a w' => Keep [] w6 w' ∧ Sx w [] nov [.blk b2 [.string y1.Key, .int .i64 y1.Sex, .int .i64 y1.Born] 60] [(5, .pointer (some ⟨b2, 0, none⟩)), (9, v_p_l), (10, .int .i64 (p_l.length : Int)), (11, .int .i64 (i1 : Int)), (35, .bool ((!(tumbref2_in y1.Sex 1 2)) || (!(tumbref2_Day y1.Born))))] 39 a w') ?_ ?_
      ·rcases Bool.eq_false_or_eq_true (!(tumbref2_in y1.Sex 1 2)) with hb4 | hb4
       ·refine l_skip S rfl rfl rfl (neq_t hb4) rfl ?_ rfl; clear S; intro a S
        refine l_skip S rfl rfl rfl (neq_t hb4) rfl ?_ rfl; clear S; intro a S
        refine l_skip S rfl rfl rfl (neq_t hb4) rfl ?_ rfl; clear S; intro a S
        refine l_skip S rfl rfl rfl (neq_t hb4) rfl ?_ rfl; clear S; intro a S
        refine lv S (rn_or_t (!(tumbref2_Day y1.Born)) hb4 (S.tm rfl) rfl) rfl ?_; clear S; intro a S
        refine l_done ?_
        refine then_n ?_
        exact ⟨Keep.refl _ _, S.nf [true] rfl ⟨rfl, rfl, rfl, rfl, rfl, trivial⟩⟩
       ·refine l_want S rfl rfl rfl hb4 ?_
        refine lv S (rn_fld fa_60_2 (S.tm rfl)) rfl ?_; clear S; intro a S
        refine l_want S rfl rfl rfl hb4 ?_
        refine lv S (rn_load Tryz.isAgg3 (S.tm rfl) (S.cell (i := 0) rfl rfl)) rfl ?_; clear S; intro a S
        refine l_want S rfl rfl rfl hb4 ?_
        refine l_enter S (fun _ => run_call (vs := [.int .i64 y1.Born]) ⟨(S.tm rfl), trivial⟩ Tryz.call39) (tumbref2_Day_ok _ y1.Born _ rfl) rfl ?_; clear S; intro v3 a w8 hv3 hk5 hn3 S
        subst hv3
        refine l_want S rfl rfl rfl hb4 ?_
        refine lv S (rn_not (S.tm rfl)) rfl ?_; clear S; intro a S
        refine lv S (rn_or_f hb4 (S.tm rfl) (S.tm rfl)) rfl ?_; clear S; intro a S
        refine l_done ?_
        refine then_n ?_
        exact ⟨hk5, S.nf [true] rfl ⟨rfl, rfl, rfl, rfl, rfl, trivial⟩⟩
      clear S; rintro a w7 ⟨hk6, S⟩
      refine lv S (rn_assign (S.tm rfl)) rfl ?_; clear S; intro a S
      refine l_done ?_
      replace S := S.nk [.blk b2 [.string y1.Key, .int .i64 y1.Sex, .int .i64 y1.Born] 60] [(5, .pointer (some ⟨b2, 0, none⟩)), (9, v_p_l), (10, .int .i64 (p_l.length : Int)), (11, .int .i64 (i1 : Int)), (25, .bool ((!(tumbref2_in y1.Sex 1 2)) || (!(tumbref2_Day y1.Born))))] [true] rfl ⟨rfl, rfl, rfl, rfl, rfl, trivial⟩
      refine then_n ?_
      refine f_cond (S.tm rfl) (fun hb5 => ?_) (fun hb5 => ?_)
      ·replace h := iteT h hb5
       refine f_seq ?_
       refine f_region ?_
       refine lv S (rn_assign rfl) rfl ?_; clear S; intro a S
       refine l_done ?_
       replace S := S.nk [] [(2, .int .i64 1)] [false] rfl ⟨rfl, trivial⟩
       refine then_n ?_
       refine wp_ret ?_
       refine blk_r ?_
       refine then_r ?_
       refine blk_r ?_
       refine then_r ?_
       refine then_r ?_
       refine blk_r ?_
       refine then_r ?_
       refine then_r ?_
       obtain rfl := Option.some.inj h
       exact f_ret S Tryz.results15 rfl rfl
      ·replace h := iteF h hb5
       refine wp_skip ?_
       refine blk_n ?_
       refine then_n ?_
       refine f_region ?_
       refine lv S (rn_fld fa_60_0 (S.tm rfl)) rfl ?_; clear S; intro a S
       refine lv S (rn_load Tryz.isAgg9 (S.tm rfl) (S.cell (i := 0) rfl rfl)) rfl ?_; clear S; intro a S
       refine lv S (rn_assign (S.tm rfl)) rfl ?_; clear S; intro a S
       refine l_done ?_
       replace S := S.nk [] [(3, .string y1.Key), (9, v_p_l), (10, .int .i64 (p_l.length : Int)), (11, .int .i64 (i1 : Int))] [false] rfl ⟨rfl, rfl, rfl, rfl, trivial⟩
       refine blk_n ?_
       refine then_n ?_
       refine f_region ?_
       refine lv S (rn_add (S.tm rfl) rfl) rfl ?_; clear S; intro a S
       refine lv S (rn_move (S.tm rfl)) rfl ?_; clear S; intro a S
       refine l_done ?_
       replace S := S.nk [] [(3, .string y1.Key), (9, v_p_l), (10, .int .i64 (p_l.length : Int)), (11, .int .i64 (W ((i1 : Int) + 1)))] [] rfl ⟨rfl, rfl, rfl, rfl, trivial⟩
       refine then_n ?_
       exact ⟨ys1, ⟨i1 + 1, y1.Key, ⟨_, (hd1).trans (List.append_cons _ _ _), by simp [hi1]⟩, h, S.nf [] rfl ⟨rfl, rfl, rfl, (congrArg (fun z => some (Value.int .i64 z)) (rng_next hd1 hi1 (slc_max hs_p_l))), trivial⟩⟩, Nat.lt_succ_self _⟩
  clear S h; rintro a w2 ⟨h, S⟩; rw [hj1] at h; clear hj1 j1
  refine then_n ?_
  refine f_seq ?_
  refine f_region ?_
  refine lv S (rn_assign rfl) rfl ?_; clear S; intro a S
  refine l_done ?_
  replace S := S.nk [] [(2, .int .i64 0)] [] rfl ⟨rfl, trivial⟩
  refine then_n ?_
  refine wp_ret ?_
  obtain rfl := Option.some.inj h
  exact f_ret S Tryz.results15 rfl rfl
theorem tumbref2_sign_ok (w : World) (p_n : Int) (r : Int) (h : tumbref2_sign p_n = r) :
    Calls Tryz.prog 61 [.int .i64 p_n].toArray w (Ret w [] fun τ v w' => v = .int .i64 r) := by
 refine f_enter [] [] Tryz.func61 rfl Tryz.ntmps61 rfl (by simp) (by simp [fps]) (by simp [fps]) fun a S => ?_
 unfold tumbref2_sign at h
 replace S := S.nk [] [(0, .int .i64 p_n)] [] rfl ⟨rfl, trivial⟩
 refine f_seq ?_
 refine f_region ?_
 refine lv S (rn_assign rfl) rfl ?_; clear S; intro a S
 refine l_done ?_
 replace S := S.nk [] [(0, .int .i64 p_n)] [] rfl ⟨rfl, trivial⟩
 refine then_n ?_
 refine f_seq ?_
 refine wp_block ?_
 refine f_seq ?_
 refine f_region ?_
 refine lv S (rn_move (S.tm rfl)) rfl ?_; clear S; intro a S
 refine lv S (rn_lss (S.tm rfl) rfl) rfl ?_; clear S; intro a S
 refine lv S (rn_assign (S.tm rfl)) rfl ?_; clear S; intro a S
 refine l_done ?_
 replace S := S.nk [] [(0, .int .i64 p_n), (3, .bool (decide (p_n < 0)))] [] rfl ⟨rfl, rfl, trivial⟩
 refine then_n ?_
 refine f_cond (S.tm rfl) (fun hb1 => ?_) (fun hb1 => ?_)
 ·replace h := iteT h hb1
  refine f_seq ?_
  refine f_region ?_
  refine lv S (rn_assign rfl) rfl ?_; clear S; intro a S
  refine l_done ?_
  replace S := S.nk [] [(2, .int .i64 (-1))] [] rfl ⟨rfl, trivial⟩
  refine then_n ?_
  refine wp_ret ?_
  refine blk_r ?_
  refine then_r ?_
  subst h
  exact f_ret S Tryz.results61 rfl rfl
 ·replace h := iteF h hb1
  refine f_seq ?_
  refine f_region ?_
  refine lv S (rn_move (S.tm rfl)) rfl ?_; clear S; intro a S
  refine lv S (rn_gtr (S.tm rfl) rfl) rfl ?_; clear S; intro a S
  refine lv S (rn_assign (S.tm rfl)) rfl ?_; clear S; intro a S
  refine l_done ?_
  replace S := S.nk [] [(6, .bool (decide (0 < p_n)))] [] rfl ⟨rfl, trivial⟩
  refine then_n ?_
  refine f_cond (S.tm rfl) (fun hb2 => ?_) (fun hb2 => ?_)
  ·replace h := iteT h hb2
   refine f_seq ?_
   refine f_region ?_
   refine lv S (rn_assign rfl) rfl ?_; clear S; intro a S
   refine l_done ?_
   replace S := S.nk [] [(2, .int .i64 1)] [] rfl ⟨rfl, trivial⟩
   refine then_n ?_
   refine wp_ret ?_
   refine blk_r ?_
   refine then_r ?_
   subst h
   exact f_ret S Tryz.results61 rfl rfl
  ·replace h := iteF h hb2
   refine wp_skip ?_
   refine blk_n ?_
   refine then_n ?_
   refine f_seq ?_
   refine f_region ?_
   refine lv S (rn_assign rfl) rfl ?_; clear S; intro a S
   refine l_done ?_
   replace S := S.nk [] [(2, .int .i64 0)] [] rfl ⟨rfl, trivial⟩
   refine then_n ?_
   refine wp_ret ?_
   subst h
   exact f_ret S Tryz.results61 rfl rfl
theorem tumbref2_moveOrder_ok (w : World) (p_a : GMove) (p_b : GMove) (r : Int) (h : tumbref2_moveOrder p_a p_b = r) :
    Calls Tryz.prog 40 [.agg (GMove.enc p_a).toArray, .agg (GMove.enc p_b).toArray].toArray w (Ret w [] fun τ v w' => v = .int .i64 r) := by
 refine f_enter [] [] Tryz.func40 rfl Tryz.ntmps40 rfl (by simp) (by simp [fps]) (by simp [fps]) fun a S => ?_
 unfold tumbref2_moveOrder at h
 replace S := S.nk [] [(0, .agg (GMove.enc p_a).toArray), (1, .agg (GMove.enc p_b).toArray)] [] rfl ⟨rfl, rfl, trivial⟩
 refine f_seq ?_
 refine f_region ?_
 refine l_box S (S.tm rfl) (cs := [.string p_a.Who, .string p_a.Club, .int .i64 p_a.Day]) rfl rfl ?_; clear S; intro a w1 b1 hz1 hk1 S
 refine l_box S (S.tm rfl) (cs := [.string p_b.Who, .string p_b.Club, .int .i64 p_b.Day]) rfl rfl ?_; clear S; intro a w2 b2 hz2 hk2 S
 refine lv S (rn_assign rfl) rfl ?_; clear S; intro a S
 refine l_done ?_
 replace S := S.nk [.blk b2 [.string p_b.Who, .string p_b.Club, .int .i64 p_b.Day] 63, .blk b1 [.string p_a.Who, .string p_a.Club, .int .i64 p_a.Day] 63] [(2, .pointer (some ⟨b1, 0, none⟩)), (3, .pointer (some ⟨b2, 0, none⟩))] [true, true] rfl ⟨rfl, rfl, trivial⟩
 refine then_n ?_
 refine f_seq ?_
 refine f_seq ?_
 refine f_region ?_
 refine lv S (rn_fld fa_63_0 (S.tm rfl)) rfl ?_; clear S; intro a S
 refine lv S (rn_load Tryz.isAgg9 (S.tm rfl) (S.cell (i := 1) rfl rfl)) rfl ?_; clear S; intro a S
 refine lv S (rn_fld fa_63_0 (S.tm rfl)) rfl ?_; clear S; intro a S
 refine lv S (rn_load Tryz.isAgg9 (S.tm rfl) (S.cell (i := 0) rfl rfl)) rfl ?_; clear S; intro a S
 refine l_enter S (fun _ => run_call (vs := [.string p_a.Who, .string p_b.Who]) ⟨(S.tm rfl), (S.tm rfl), trivial⟩ Tryz.call60) (strings_Compare_ok _ p_a.Who p_b.Who _ rfl) rfl ?_; clear S; intro v1 a w3 hv1 hk3 hn1 S
 subst hv1
 refine lv S (rn_assign (S.tm rfl)) rfl ?_; clear S; intro a S
 refine l_done ?_
 replace S := S.nk [.blk b2 [.string p_b.Who, .string p_b.Club, .int .i64 p_b.Day] 63, .blk b1 [.string p_a.Who, .string p_a.Club, .int .i64 p_a.Day] 63] [(2, .pointer (some ⟨b1, 0, none⟩)), (3, .pointer (some ⟨b2, 0, none⟩)), (5, .int .i64 (strings_Compare p_a.Who p_b.Who))] [true, true] rfl ⟨rfl, rfl, rfl, trivial⟩
 refine then_n ?_
 refine f_seq ?_
 refine f_region ?_
 refine lv S (rn_move (S.tm rfl)) rfl ?_; clear S; intro a S
 refine lv S (rn_neq (S.tm rfl) rfl) rfl ?_; clear S; intro a S
 refine l_done ?_
 replace S := S.nk [.blk b2 [.string p_b.Who, .string p_b.Club, .int .i64 p_b.Day] 63, .blk b1 [.string p_a.Who, .string p_a.Club, .int .i64 p_a.Day] 63] [(2, .pointer (some ⟨b1, 0, none⟩)), (3, .pointer (some ⟨b2, 0, none⟩)), (5, .int .i64 (strings_Compare p_a.Who p_b.Who)), (12, .bool (!decide ((strings_Compare p_a.Who p_b.Who) = 0)))] [true, true] rfl ⟨rfl, rfl, rfl, rfl, trivial⟩
 refine then_n ?_
 refine f_cond (S.tm rfl) (fun hb1 => ?_) (fun hb1 => ?_)
 ·replace h := iteT h hb1
  refine f_seq ?_
  refine f_region ?_
  refine lv S (rn_move (S.tm rfl)) rfl ?_; clear S; intro a S
  refine lv S (rn_assign (S.tm rfl)) rfl ?_; clear S; intro a S
  refine l_done ?_
  replace S := S.nk [] [(4, .int .i64 (strings_Compare p_a.Who p_b.Who))] [false, false] rfl ⟨rfl, trivial⟩
  refine then_n ?_
  refine wp_ret ?_
  refine then_r ?_
  subst h
  exact f_ret S Tryz.results40 rfl rfl
 ·replace h := iteF h hb1
  refine wp_skip ?_
  refine then_n ?_
  refine f_seq ?_
  refine f_region ?_
  refine lv S (rn_fld fa_63_2 (S.tm rfl)) rfl ?_; clear S; intro a S
  refine lv S (rn_load Tryz.isAgg3 (S.tm rfl) (S.cell (i := 1) rfl rfl)) rfl ?_; clear S; intro a S
  refine lv S (rn_fld fa_63_2 (S.tm rfl)) rfl ?_; clear S; intro a S
  refine lv S (rn_load Tryz.isAgg3 (S.tm rfl) (S.cell (i := 0) rfl rfl)) rfl ?_; clear S; intro a S
  refine lv S (rn_sub (S.tm rfl) (S.tm rfl)) rfl ?_; clear S; intro a S
  refine l_enter S (fun _ => run_call (vs := [.int .i64 (W (p_a.Day - p_b.Day))]) ⟨(S.tm rfl), trivial⟩ Tryz.call61) (tumbref2_sign_ok _ (W (p_a.Day - p_b.Day)) _ rfl) rfl ?_; clear S; intro v2 a w4 hv2 hk4 hn2 S
  subst hv2
  refine lv S (rn_assign (S.tm rfl)) rfl ?_; clear S; intro a S
  refine l_done ?_
  replace S := S.nk [] [(4, .int .i64 (tumbref2_sign (W (p_a.Day - p_b.Day))))] [false, false] rfl ⟨rfl, trivial⟩
  refine then_n ?_
  refine wp_ret ?_
  subst h
  exact f_ret S Tryz.results40 rfl rfl
set_option maxRecDepth 20000 in
theorem tumbref2_MovesFault_ok (w : World) (v_p_l : Value) (p_l : List GMove) (hs_p_l : Slc (view w []) 3 v_p_l (p_l.map GMove.enc)) (r : Int) (h : tumbref2_MovesFault p_l = some r) :
    Calls Tryz.prog 16 [v_p_l].toArray w (Ret w [] fun τ v w' => v = .int .i64 r) := by
 refine f_enter [] [] Tryz.func16 rfl Tryz.ntmps16 rfl (by simp) (by simp [fps]) (by simp [fps]) fun a S => ?_
 unfold tumbref2_MovesFault at h
 replace S := S.nk [] [(0, v_p_l)] [] rfl ⟨rfl, trivial⟩
 refine f_seq ?_
 refine f_region ?_
 refine lv S (rn_assign rfl) rfl ?_; clear S; intro a S
 refine l_done ?_
 replace S := S.nk [] [(0, v_p_l)] [] rfl ⟨rfl, trivial⟩
 refine then_n ?_
 refine f_seq ?_
 refine f_seq ?_
 refine f_region ?_
 refine lv S (rn_move (S.tm rfl)) rfl ?_; clear S; intro a S
 refine lv S (rn_lenT sl_30 (S.tm rfl) (slc_len hs_p_l)) rfl ?_; clear S; intro a S
 refine lv S (rn_gtr (S.tm rfl) rfl) rfl ?_; clear S; intro a S
 refine l_done ?_
 replace S := S.nk [] [(0, v_p_l), (8, .bool (decide (1000 < (p_l.length : Int))))] [] rfl ⟨rfl, rfl, trivial⟩
 refine then_n ?_
 refine f_cond (S.tm rfl) (fun hb1 => ?_) (fun hb1 => ?_)
 ·replace h := iteT h hb1
  refine f_seq ?_
  refine f_region ?_
  refine lv S (rn_assign rfl) rfl ?_; clear S; intro a S
  refine l_done ?_
  replace S := S.nk [] [(2, .int .i64 2)] [] rfl ⟨rfl, trivial⟩
  refine then_n ?_
  refine wp_ret ?_
  refine then_r ?_
  obtain rfl := Option.some.inj h
  exact f_ret S Tryz.results16 rfl rfl
 ·replace h := iteF h hb1
  refine wp_skip ?_
  refine then_n ?_
  refine f_seq ?_
  refine f_seq ?_
  refine f_region ?_
  refine lv S (rn_move (S.tm rfl)) rfl ?_; clear S; intro a S
  refine lv S (rn_lenT sl_30 (S.tm rfl) (slc_len hs_p_l)) rfl ?_; clear S; intro a S
  refine lv S (rn_move rfl) rfl ?_; clear S; intro a S
  refine l_done ?_
  replace S := S.nk [] [(0, v_p_l), (9, v_p_l), (10, .int .i64 (p_l.length : Int)), (11, .int .i64 0)] [] rfl ⟨rfl, rfl, rfl, rfl, trivial⟩
  refine then_n ?_
  obtain ⟨j1, hj1, h⟩ := joinE h
  refine f_join (fun a w' => j1 = some r ∧ Sx w [] nov [] [] 74 a w') ?_ ?_
  ·refine wp_block ?_
   refine f_loop (fun (ys1 : List GMove) a w' => ∃ i1 : Nat, (∃ dn, p_l = dn ++ ys1 ∧ dn.length = i1) ∧ tumbref2_MovesFault_l1 p_l j1 ys1 i1 = some r ∧ Sx w [] nov [] [(0, v_p_l), (9, v_p_l), (10, .int .i64 (p_l.length : Int)), (11, .int .i64 (i1 : Int))] 74 a w') List.length p_l ⟨0, ⟨[], rfl, rfl⟩, h, S.nf [] rfl ⟨rfl, rfl, rfl, rfl, trivial⟩⟩ ?_
   clear S h; rintro ys1 a w1 ⟨i1, ⟨dn, hd1, hi1⟩, h, S⟩
   cases ys1 with
   | nil =>
    rw [tumbref2_MovesFault_l1.eq_1] at h
    refine f_seq ?_
    refine f_region ?_
    refine lv S (rn_lss (S.tm rfl) (S.tm rfl)) rfl ?_; clear S; intro a S
    refine l_done ?_
    replace S := S.nk [] [(0, v_p_l), (9, v_p_l), (10, .int .i64 (p_l.length : Int)), (11, .int .i64 (i1 : Int)), (12, .bool (decide ((i1 : Int) < (p_l.length : Int))))] [] rfl ⟨rfl, rfl, rfl, rfl, rfl, trivial⟩
    refine then_n ?_
    refine f_seq ?_
    refine wp_cond_false ((S.tm rfl).trans (congrArg Value.bool (rng_nil hd1 hi1))) ?_
    refine wp_exit ?_
    refine then_x ?_
    refine then_x ?_
    refine x_same ?_
    refine then_n ?_
    exact ⟨h, S.nf [] rfl trivial⟩
   | cons y1 ys1 =>
    rw [tumbref2_MovesFault_l1.eq_2] at h
    refine f_seq ?_
    refine f_region ?_
    refine lv S (rn_lss (S.tm rfl) (S.tm rfl)) rfl ?_; clear S; intro a S
    refine l_done ?_
    replace S := S.nk [] [(0, v_p_l), (9, v_p_l), (10, .int .i64 (p_l.length : Int)), (11, .int .i64 (i1 : Int)), (12, .bool (decide ((i1 : Int) < (p_l.length : Int))))] [] rfl ⟨rfl, rfl, rfl, rfl, rfl, trivial⟩
    refine then_n ?_
    refine f_seq ?_
    refine wp_cond_true ((S.tm rfl).trans (congrArg Value.bool (rng_cons hd1 hi1))) ?_
    refine wp_skip ?_
    refine then_n ?_
    refine f_seq ?_
    refine wp_block ?_
    refine f_seq ?_
    refine f_region ?_
    refine lv S (rn_move (S.tm rfl)) rfl ?_; clear S; intro a S
    obtain ⟨b1, o1, hm1, hr1⟩ := rn_indexT (a := a) (x := .tmp 9) (y := .tmp 11) (ty := 0) sl_30 hs_p_l (get_mid hd1 hi1) rfl (S.tm rfl) (S.tm rfl)
    refine lv S (hr1 _) rfl ?_; clear S; intro a S
    clear hr1
    refine lv S (rn_ldA Tryz.isAgg63 Tryz.sizeOf63 (off := o1) (o := 0) (part := [.string y1.Who, .string y1.Club, .int .i64 y1.Day]) rfl rfl (S.tm rfl) (hm1.at S.emb0)) rfl ?_; clear S; intro a S
    refine l_alloc S Tryz.zeroValue63 (cs := [.string k_empty, .string k_empty, .int .i64 0]) rfl rfl ?_; clear S; intro a w3 b2 hz1 hk1 S
    refine lv S (rn_assign (S.tm rfl)) rfl ?_; clear S; intro a S
    refine l_store S (S.tm rfl) (S.tm rfl) (i := 0) (off := 0) rfl Tryz.sizeOf63 (vs := [.string y1.Who, .string y1.Club, .int .i64 y1.Day]) rfl rfl rfl rfl ?_; clear S; intro w4 hk2 S
    refine l_done ?_
    replace S := S.nk [.blk b2 [.string y1.Who, .string y1.Club, .int .i64 y1.Day] 63] [(0, v_p_l), (3, .int .i64 (i1 : Int)), (4, .pointer (some ⟨b2, 0, none⟩)), (9, v_p_l), (10, .int .i64 (p_l.length : Int)), (11, .int .i64 (i1 : Int))] [true] rfl ⟨rfl, rfl, rfl, rfl, rfl, rfl, trivial⟩
    refine then_n ?_
    refine f_seq ?_
    refine wp_block ?_
    refine f_seq ?_
    refine f_region ?_
    refine lv S (rn_fld fa_63_0 (S.tm rfl)) rfl ?_; clear S; intro a S
    refine lv S (rn_load Tryz.isAgg9 (S.tm rfl) (S.cell (i := 0) rfl rfl)) rfl ?_; clear S; intro a S
    obtain ⟨r1, hr2, h⟩ := bindE h
    refine l_enter S (fun _ => run_call (vs := [.string y1.Who]) ⟨(S.tm rfl), trivial⟩ Tryz.call37) (tumbref2_Key_ok _ y1.Who _ hr2) rfl ?_; clear S; intro v1 a w5 hv1 hk3 hn1 S
    subst hv1
    refine lv S (rn_not (S.tm rfl)) rfl ?_; clear S; intro a S
    refine lv S (rn_move (S.tm rfl)) rfl ?_; clear S; intro a S
    obtain ⟨j2, hj2, h⟩ := joinE h
    refine f_cutm 10 (fun a w' => ∃ c1, j2 c1 = some r ∧ Keep [] w5 w' ∧ Sx w [] nov [.blk b2 [.string y1.Who, .string y1.Club, .int .i64 y1.Day] 63] [(0, v_p_l), (3, .int .i64 (i1 : Int)), (4, .pointer (some ⟨b2, 0, none⟩)), (9, v_p_l), (10, .int .i64 (p_l.length : Int)), (11, .int .i64 (i1 : Int)), (31, .bool c1)] 74 a w') ?_ ?_
    ·rcases Bool.eq_false_or_eq_true (!r1) with hb2 | hb2
     ·replace h := iteT h hb2
      refine l_skip S rfl rfl rfl (neq_t hb2) rfl ?_ rfl; clear S; intro a S
      refine l_skip S rfl rfl rfl (neq_t hb2) rfl ?_ rfl; clear S; intro a S
      refine l_skip S rfl rfl rfl (neq_t hb2) rfl ?_ rfl; clear S; intro a S
      refine l_skip S rfl rfl rfl (neq_t hb2) rfl ?_ rfl; clear S; intro a S
      refine l_skipU S rfl rfl rfl rfl ?_; clear S; intro a S
      refine l_skipU S rfl rfl rfl rfl ?_; clear S; intro a S
      refine l_skipU S rfl rfl rfl rfl ?_; clear S; intro a S
      refine l_skipU S rfl rfl rfl rfl ?_; clear S; intro a S
      refine l_skip S rfl rfl rfl (neq_t hb2) rfl ?_ rfl; clear S; intro a S
      refine lv S (rn_or_t true hb2 (S.tm rfl) rfl) rfl ?_; clear S; intro a S
      refine l_done ?_
      refine then_n ?_
      exact ⟨_, h, Keep.refl _ _, S.nf [true] rfl ⟨rfl, rfl, rfl, rfl, rfl, rfl, rfl, trivial⟩⟩
     ·replace h := iteF h hb2
      refine l_want S rfl rfl rfl hb2 ?_
      refine lv S (rn_fld fa_63_1 (S.tm rfl)) rfl ?_; clear S; intro a S
      refine l_want S rfl rfl rfl hb2 ?_
      refine lv S (rn_load Tryz.isAgg9 (S.tm rfl) (S.cell (i := 0) rfl rfl)) rfl ?_; clear S; intro a S
      refine l_want S rfl rfl rfl hb2 ?_
      refine lv S (rn_sneq (S.tm rfl) rfl) rfl ?_; clear S; intro a S
      refine l_want S rfl rfl rfl hb2 ?_
      refine lv S (rn_move (S.tm rfl)) rfl ?_; clear S; intro a S
      obtain ⟨j3, hj3, h⟩ := joinE h
      refine f_cutm 5 (fun a w' => ∃ c2, j3 c2 = some r ∧ Keep [] w5 w' ∧ Sx w [] nov [.blk b2 [.string y1.Who, .string y1.Club, .int .i64 y1.Day] 63] [(0, v_p_l), (3, .int .i64 (i1 : Int)), (4, .pointer (some ⟨b2, 0, none⟩)), (9, v_p_l), (10, .int .i64 (p_l.length : Int)), (11, .int .i64 (i1 : Int)), (21, .bool (!r1)), (22, .pointer (some ⟨b2, 1, none⟩)), (23, .string y1.Club), (24, .bool (!decide (y1.Club = k_empty))), (25, .bool (!decide (y1.Club = k_empty))), (30, .bool c2)] 74 a w') ?_ ?_
      ·rcases Bool.eq_false_or_eq_true (!decide (y1.Club = k_empty)) with hb3 | hb3
       ·replace h := iteT h hb3
        refine l_want S rfl rfl rfl hb3 ?_
        refine lv S (rn_fld fa_63_1 (S.tm rfl)) rfl ?_; clear S; intro a S
        refine l_want S rfl rfl rfl hb3 ?_
        refine lv S (rn_load Tryz.isAgg9 (S.tm rfl) (S.cell (i := 0) rfl rfl)) rfl ?_; clear S; intro a S
        refine l_want S rfl rfl rfl hb3 ?_
        obtain ⟨r2, hr3, h⟩ := bindE h
        refine l_enter S (fun _ => run_call (vs := [.string y1.Club]) ⟨(S.tm rfl), trivial⟩ Tryz.call37) (tumbref2_Key_ok _ y1.Club _ hr3) rfl ?_; clear S; intro v2 a w8 hv2 hk4 hn2 S
        subst hv2
        refine l_want S rfl rfl rfl hb3 ?_
        refine lv S (rn_not (S.tm rfl)) rfl ?_; clear S; intro a S
        refine l_want S rfl rfl rfl hb2 ?_
        refine lv S (rn_and_t hb3 (S.tm rfl) (S.tm rfl)) rfl ?_; clear S; intro a S
        refine l_done ?_
        refine then_n ?_
        exact ⟨_, h, hk4, S.nf [true] rfl ⟨rfl, rfl, rfl, rfl, rfl, rfl, rfl, rfl, rfl, rfl, rfl, rfl, trivial⟩⟩
       ·replace h := iteF h hb3
        refine l_skip S rfl rfl rfl (neq_f hb3) rfl ?_ rfl; clear S; intro a S
        refine l_skip S rfl rfl rfl (neq_f hb3) rfl ?_ rfl; clear S; intro a S
        refine l_skip S rfl rfl rfl (neq_f hb3) rfl ?_ rfl; clear S; intro a S
        refine l_skip S rfl rfl rfl (neq_f hb3) rfl ?_ rfl; clear S; intro a S
        refine l_want S rfl rfl rfl hb2 ?_
        refine lv S (rn_and_f true hb3 (S.tm rfl) rfl) rfl ?_; clear S; intro a S
        refine l_done ?_
        refine then_n ?_
        exact ⟨_, h, Keep.refl _ _, S.nf [true] rfl ⟨rfl, rfl, rfl, rfl, rfl, rfl, rfl, rfl, rfl, rfl, rfl, rfl, trivial⟩⟩
      clear S h; rintro a w7 ⟨c2, h, hk5, S⟩; rw [hj3] at h; clear hj3 j3
      refine lv S (rn_or_f hb2 (S.tm rfl) (S.tm rfl)) rfl ?_; clear S; intro a S
      refine l_done ?_
      refine then_n ?_
      exact ⟨_, h, hk5, S.nf [true] rfl ⟨rfl, rfl, rfl, rfl, rfl, rfl, rfl, trivial⟩⟩
    clear S h; rintro a w6 ⟨c1, h, hk6, S⟩; rw [hj2] at h; clear hj2 j2
    refine lv S (rn_assign (S.tm rfl)) rfl ?_; clear S; intro a S
    refine l_done ?_
    replace S := S.nk [.blk b2 [.string y1.Who, .string y1.Club, .int .i64 y1.Day] 63] [(0, v_p_l), (3, .int .i64 (i1 : Int)), (4, .pointer (some ⟨b2, 0, none⟩)), (9, v_p_l), (10, .int .i64 (p_l.length : Int)), (11, .int .i64 (i1 : Int)), (16, .bool c1)] [true] rfl ⟨rfl, rfl, rfl, rfl, rfl, rfl, rfl, trivial⟩
    refine then_n ?_
    refine f_cond (S.tm rfl) (fun hb4 => ?_) (fun hb4 => ?_)
    ·replace h := iteT h hb4
     refine f_seq ?_
     refine f_region ?_
     refine lv S (rn_assign rfl) rfl ?_; clear S; intro a S
     refine l_done ?_
     replace S := S.nk [] [(2, .int .i64 5)] [false] rfl ⟨rfl, trivial⟩
     refine then_n ?_
     refine wp_ret ?_
     refine blk_r ?_
     refine then_r ?_
     refine blk_r ?_
     refine then_r ?_
     refine then_r ?_
     refine blk_r ?_
     refine then_r ?_
     refine then_r ?_
     obtain rfl := Option.some.inj h
     exact f_ret S Tryz.results16 rfl rfl
    ·replace h := iteF h hb4
     refine f_seq ?_
     refine f_region ?_
     refine lv S (rn_fld fa_63_2 (S.tm rfl)) rfl ?_; clear S; intro a S
     refine lv S (rn_load Tryz.isAgg3 (S.tm rfl) (S.cell (i := 0) rfl rfl)) rfl ?_; clear S; intro a S
     refine l_enter S (fun _ => run_call (vs := [.int .i64 y1.Day]) ⟨(S.tm rfl), trivial⟩ Tryz.call39) (tumbref2_Day_ok _ y1.Day _ rfl) rfl ?_; clear S; intro v3 a w9 hv3 hk7 hn3 S
     subst hv3
     refine lv S (rn_not (S.tm rfl)) rfl ?_; clear S; intro a S
     refine lv S (rn_assign (S.tm rfl)) rfl ?_; clear S; intro a S
     refine l_done ?_
     replace S := S.nk [.blk b2 [.string y1.Who, .string y1.Club, .int .i64 y1.Day] 63] [(0, v_p_l), (3, .int .i64 (i1 : Int)), (4, .pointer (some ⟨b2, 0, none⟩)), (9, v_p_l), (10, .int .i64 (p_l.length : Int)), (11, .int .i64 (i1 : Int)), (32, .bool (!(tumbref2_Day y1.Day)))] [true] rfl ⟨rfl, rfl, rfl, rfl, rfl, rfl, rfl, trivial⟩
     refine then_n ?_
     refine f_cond (S.tm rfl) (fun hb5 => ?_) (fun hb5 => ?_)
     ·replace h := iteT h hb5
      refine f_seq ?_
      refine f_region ?_
      refine lv S (rn_assign rfl) rfl ?_; clear S; intro a S
      refine l_done ?_
      replace S := S.nk [] [(2, .int .i64 1)] [false] rfl ⟨rfl, trivial⟩
      refine then_n ?_
      refine wp_ret ?_
      refine blk_r ?_
      refine then_r ?_
      refine blk_r ?_
      refine then_r ?_
      refine then_r ?_
      refine blk_r ?_
      refine then_r ?_
      refine then_r ?_
      obtain rfl := Option.some.inj h
      exact f_ret S Tryz.results16 rfl rfl
     ·replace h := iteF h hb5
      refine f_seq ?_
      obtain ⟨j4, hj4, h⟩ := joinE h
      refine f_join (fun a w' => ∃ x1 : Bool, j4 x1 = some r ∧ Sx w [] nov [.blk b2 [.string y1.Who, .string y1.Club, .int .i64 y1.Day] 63] [(0, v_p_l), (3, .int .i64 (i1 : Int)), (4, .pointer (some ⟨b2, 0, none⟩)), (9, v_p_l), (10, .int .i64 (p_l.length : Int)), (11, .int .i64 (i1 : Int)), (37, .bool x1)] 74 a w') ?_ ?_
      ·rcases Bool.eq_false_or_eq_true (decide (0 < (i1 : Int))) with hb6 | hb6
       ·replace h := iteT h hb6
        obtain ⟨hc1, h⟩ := chkE h
        refine d_region [] ([]) Tryz.mixed S rfl (by kernel_rfl) ?_; clear S; intro w12 hk9 hsel S
        refine d_quiet 0 S hsel rfl rfl rfl (by kernel_rfl) (by kernel_rfl) rfl (fun _ hw => (rn_move (S.tm rfl))) ?_; clear S; intro a S
        refine d_quiet 1 S hsel rfl rfl rfl (by kernel_rfl) (by kernel_rfl) rfl (fun _ hw => (rn_gtr (S.tm rfl) rfl)) ?_; clear S; intro a S
        refine d_quiet 2 S hsel rfl rfl rfl (by kernel_rfl) (by kernel_rfl) rfl (fun _ hw => (rn_move (S.tm rfl))) ?_; clear S; intro a S
        refine d_quiet_g 3 S hsel rfl rfl rfl rfl hb6 rfl rfl (by kernel_rfl) (by kernel_rfl) rfl (fun _ hw => (rn_move (S.tm rfl))) ?_; clear S; intro a S
        refine d_quiet_g 4 S hsel rfl rfl rfl rfl hb6 rfl rfl (by kernel_rfl) (by kernel_rfl) rfl (fun _ hw => (rn_move (S.tm rfl))) ?_; clear S; intro a S
        refine d_quiet_g 5 S hsel rfl rfl rfl rfl hb6 rfl rfl (by kernel_rfl) (by kernel_rfl) rfl (fun _ hw => (rn_sub (S.tm rfl) rfl)) ?_; clear S; intro a S
        obtain ⟨b4, o3, hm3, hr5⟩ := rn_indexT (a := a) (x := .tmp 41) (y := .tmp 43) (ty := 0) sl_30 (hs_p_l.mono (S.le_arg nil_sub)) (inB_get hc1).1 (inB_get hc1).2 (S.tm rfl) (S.tm rfl)
        refine d_quiet_g 6 S hsel rfl rfl rfl rfl hb6 rfl rfl (by kernel_rfl) (by kernel_rfl) rfl (fun _ hw => hr5 _) ?_; clear S; intro a S
        clear hr5
        refine d_quiet_g 7 S hsel rfl rfl rfl rfl hb6 rfl rfl (by kernel_rfl) (by kernel_rfl) rfl (fun _ hw => (rn_ldA Tryz.isAgg63 Tryz.sizeOf63 (off := o3) (o := 0) (part := [.string ((nth p_l (W ((i1 : Int) - 1))).Who), .string ((nth p_l (W ((i1 : Int) - 1))).Club), .int .i64 ((nth p_l (W ((i1 : Int) - 1))).Day)]) rfl rfl (S.tm rfl) (hm3.kept hw))) ?_; clear S; intro a S
        refine d_quiet_g 8 S hsel rfl rfl rfl rfl hb6 rfl rfl (by kernel_rfl) (by kernel_rfl) rfl (fun _ hw => (rn_ldA Tryz.isAgg63 Tryz.sizeOf63 (off := 0) (o := 0) (part := [.string y1.Who, .string y1.Club, .int .i64 y1.Day]) rfl rfl (S.tm rfl) ((S.blk_mem (i := 0) (cells := [.string y1.Who, .string y1.Club, .int .i64 y1.Day]) (b := b2) (T := 63) rfl (ne_nil (e' := .blk b2 [.string y1.Who, .string y1.Club, .int .i64 y1.Day] 63))).kept hw))) ?_; clear S; intro a S
        refine d_loud1 9 (by kernel_rfl) rfl ?_
        refine l_want S rfl rfl rfl hb6 ?_
        refine l_enter S (fun _ => run_call (vs := [.agg (GMove.enc (nth p_l (W ((i1 : Int) - 1)))).toArray, .agg (GMove.enc y1).toArray]) ⟨(S.tm rfl), (S.tm rfl), trivial⟩ Tryz.call40) (tumbref2_moveOrder_ok _ (nth p_l (W ((i1 : Int) - 1))) y1 _ rfl) rfl ?_; clear S; intro v5 a w13 hv5 hk10 hn5 S
        subst hv5
        refine l_done ?_
        refine d_next hk10 ?_
        refine d_rest [10, 11, 12] hsel (by kernel_rfl) rfl ?_
        clear hsel
        refine s_want S rfl rfl rfl rfl hb6 ?_
        refine s_lv0 S (rn_geq (S.tm rfl) rfl) rfl ?_; clear S; intro a S
        refine s_lv S rfl (rn_pick_b hb6 (S.tm rfl) (S.tm rfl)) rfl ?_; clear S; intro a S
        refine s_lv S rfl (rn_assign (S.tm rfl)) rfl ?_; clear S; intro a S
        refine s_done ?_
        replace S := S.nk [.blk b2 [.string y1.Who, .string y1.Club, .int .i64 y1.Day] 63] [(0, v_p_l), (3, .int .i64 (i1 : Int)), (4, .pointer (some ⟨b2, 0, none⟩)), (9, v_p_l), (10, .int .i64 (p_l.length : Int)), (11, .int .i64 (i1 : Int)), (37, .bool (decide (0 ≤ (tumbref2_moveOrder (nth p_l (W ((i1 : Int) - 1))) y1)))), (41, v_p_l), (42, .int .i64 (i1 : Int)), (43, .int .i64 (W ((i1 : Int) - 1))), (44, .pointer (some ⟨b4, o3, none⟩)), (45, .agg #[.string ((nth p_l (W ((i1 : Int) - 1))).Who), .string ((nth p_l (W ((i1 : Int) - 1))).Club), .int .i64 ((nth p_l (W ((i1 : Int) - 1))).Day)]), (46, .agg #[.string y1.Who, .string y1.Club, .int .i64 y1.Day]), (47, .int .i64 (tumbref2_moveOrder (nth p_l (W ((i1 : Int) - 1))) y1)), (48, .bool (decide (0 ≤ (tumbref2_moveOrder (nth p_l (W ((i1 : Int) - 1))) y1))))] [true] rfl ⟨rfl, rfl, rfl, rfl, rfl, rfl, rfl, rfl, rfl, rfl, rfl, rfl, rfl, rfl, rfl, trivial⟩
        refine then_n ?_
        exact ⟨decide (0 ≤ (tumbref2_moveOrder (nth p_l (W ((i1 : Int) - 1))) y1)), h, S.nf [true] rfl ⟨rfl, rfl, rfl, rfl, rfl, rfl, rfl, trivial⟩⟩
       ·replace h := iteF h hb6
        refine d_region [] ([]) Tryz.mixed S rfl (by kernel_rfl) ?_; clear S; intro w14 hk11 hsel S
        refine d_rest [0, 1, 2, 3, 4, 5, 6, 7, 8, 9, 10, 11, 12] hsel (by kernel_rfl) rfl ?_
        clear hsel
        refine s_lv S rfl (rn_move (S.tm rfl)) rfl ?_; clear S; intro a S
        refine s_lv S rfl (rn_gtr (S.tm rfl) rfl) rfl ?_; clear S; intro a S
        refine s_lv S rfl (rn_move (S.tm rfl)) rfl ?_; clear S; intro a S
        refine s_skip S rfl rfl rfl rfl (neq_f hb6) rfl ?_ rfl; clear S; intro a S
        refine s_skip S rfl rfl rfl rfl (neq_f hb6) rfl ?_ rfl; clear S; intro a S
        refine s_skip S rfl rfl rfl rfl (neq_f hb6) rfl ?_ rfl; clear S; intro a S
        refine s_skip S rfl rfl rfl rfl (neq_f hb6) rfl ?_ rfl; clear S; intro a S
        refine s_skip S rfl rfl rfl rfl (neq_f hb6) rfl ?_ rfl; clear S; intro a S
        refine s_skip S rfl rfl rfl rfl (neq_f hb6) rfl ?_ rfl; clear S; intro a S
        refine s_skip S rfl rfl rfl rfl (neq_f hb6) rfl ?_ rfl; clear S; intro a S
        refine s_skip S rfl rfl rfl rfl (neq_f hb6) rfl ?_ rfl; clear S; intro a S
        refine s_lv S rfl (rn_pick_c hb6 (S.tm rfl) rfl) rfl ?_; clear S; intro a S
        refine s_lv S rfl (rn_assign (S.tm rfl)) rfl ?_; clear S; intro a S
        refine s_done ?_
        replace S := S.nk [.blk b2 [.string y1.Who, .string y1.Club, .int .i64 y1.Day] 63] [(0, v_p_l), (3, .int .i64 (i1 : Int)), (4, .pointer (some ⟨b2, 0, none⟩)), (9, v_p_l), (10, .int .i64 (p_l.length : Int)), (11, .int .i64 (i1 : Int)), (37, .bool false)] [true] rfl ⟨rfl, rfl, rfl, rfl, rfl, rfl, rfl, trivial⟩
        refine then_n ?_
        exact ⟨false, h, S.nf [true] rfl ⟨rfl, rfl, rfl, rfl, rfl, rfl, rfl, trivial⟩⟩
      clear S h; rintro a w10 ⟨x1, h, S⟩; rw [hj4] at h; clear hj4 j4
      refine then_n ?_
      refine f_cond (S.tm rfl) (fun hb7 => ?_) (fun hb7 => ?_)
      ·replace h := iteT h hb7
       refine f_seq ?_
       refine f_region ?_
       refine lv S (rn_assign rfl) rfl ?_; clear S; intro a S
       refine l_done ?_
       replace S := S.nk [] [(2, .int .i64 7)] [false] rfl ⟨rfl, trivial⟩
       refine then_n ?_
       refine wp_ret ?_
       refine blk_r ?_
       refine then_r ?_
       refine blk_r ?_
       refine then_r ?_
       refine then_r ?_
       refine blk_r ?_
       refine then_r ?_
       refine then_r ?_
       obtain rfl := Option.some.inj h
       exact f_ret S Tryz.results16 rfl rfl
      ·replace h := iteF h hb7
       refine wp_skip ?_
       refine blk_n ?_
       refine then_n ?_
       refine f_seq ?_
       refine f_region ?_
       refine lv S (rn_assign rfl) rfl ?_; clear S; intro a S
       refine l_done ?_
       replace S := S.nk [.blk b2 [.string y1.Who, .string y1.Club, .int .i64 y1.Day] 63] [(0, v_p_l), (3, .int .i64 (i1 : Int)), (4, .pointer (some ⟨b2, 0, none⟩)), (5, .string k_empty), (9, v_p_l), (10, .int .i64 (p_l.length : Int)), (11, .int .i64 (i1 : Int))] [true] rfl ⟨rfl, rfl, rfl, rfl, rfl, rfl, rfl, trivial⟩
       refine then_n ?_
       refine f_seq ?_
       refine f_seq ?_
       refine d_region [] ([]) Tryz.mixed S rfl (by kernel_rfl) ?_; clear S; intro w15 hk12 hsel S
       refine d_rest [0, 1, 2, 3, 4, 5, 6, 7, 8, 9, 10, 11, 12] hsel (by kernel_rfl) rfl ?_
       clear hsel
       refine s_lv S rfl (rn_move (S.tm rfl)) rfl ?_; clear S; intro a S
       refine s_lv S rfl (rn_gtr (S.tm rfl) rfl) rfl ?_; clear S; intro a S
       refine s_lv S rfl (rn_move (S.tm rfl)) rfl ?_; clear S; intro a S
       obtain ⟨j5, hj5, h⟩ := joinE h
       refine s_cutm 10 (fun a w' => ∃ c3, j5 c3 = some r ∧ Keep [] w15 w' ∧ Sx w [] nov [.blk b2 [.string y1.Who, .string y1.Club, .int .i64 y1.Day] 63] [(0, v_p_l), (3, .int .i64 (i1 : Int)), (4, .pointer (some ⟨b2, 0, none⟩)), (5, .string k_empty), (9, v_p_l), (10, .int .i64 (p_l.length : Int)), (11, .int .i64 (i1 : Int)), (62, .bool c3)] 74 a w') ?_ ?_
       ·rcases Bool.eq_false_or_eq_true (decide (0 < (i1 : Int))) with hb8 | hb8
        ·replace h := iteT h hb8
         refine s_want S rfl rfl rfl rfl hb8 ?_
         refine s_lv0 S (rn_move (S.tm rfl)) rfl ?_; clear S; intro a S
         refine s_want S rfl rfl rfl rfl hb8 ?_
         refine s_lv0 S (rn_move (S.tm rfl)) rfl ?_; clear S; intro a S
         refine s_want S rfl rfl rfl rfl hb8 ?_
         refine s_lv0 S (rn_sub (S.tm rfl) rfl) rfl ?_; clear S; intro a S
         refine s_want S rfl rfl rfl rfl hb8 ?_
         obtain ⟨hc2, h⟩ := chkE h
         obtain ⟨b5, o4, hm4, hr6⟩ := rn_indexT (a := a) (x := .tmp 53) (y := .tmp 55) (ty := 0) sl_30 hs_p_l (inB_get hc2).1 (inB_get hc2).2 (S.tm rfl) (S.tm rfl)
         refine s_lv0 S (hr6 _) rfl ?_; clear S; intro a S
         clear hr6
         refine s_want S rfl rfl rfl rfl hb8 ?_
         refine s_lv0 S (rn_fld fa_63_0 (S.tm rfl)) rfl ?_; clear S; intro a S
         refine s_want S rfl rfl rfl rfl hb8 ?_
         refine s_lv0 S (rn_ld Tryz.isAgg9 (off := o4) (o := 0) (S.tm rfl) (hm4.at S.emb0) rfl) rfl ?_; clear S; intro a S
         refine s_want S rfl rfl rfl rfl hb8 ?_
         refine s_lv0 S (rn_fld fa_63_0 (S.tm rfl)) rfl ?_; clear S; intro a S
         refine s_want S rfl rfl rfl rfl hb8 ?_
         refine s_lv0 S (rn_load Tryz.isAgg9 (S.tm rfl) (S.cell (i := 0) rfl rfl)) rfl ?_; clear S; intro a S
         refine s_want S rfl rfl rfl rfl hb8 ?_
         refine s_lv0 S (rn_seql (S.tm rfl) (S.tm rfl)) rfl ?_; clear S; intro a S
         refine s_lv S rfl (rn_and_t hb8 (S.tm rfl) (S.tm rfl)) rfl ?_; clear S; intro a S
         refine s_done ?_
         exact ⟨_, h, Keep.refl _ _, S.nf [true] rfl ⟨rfl, rfl, rfl, rfl, rfl, rfl, rfl, rfl, trivial⟩⟩
        ·replace h := iteF h hb8
         refine s_skip S rfl rfl rfl rfl (neq_f hb8) rfl ?_ rfl; clear S; intro a S
         refine s_skip S rfl rfl rfl rfl (neq_f hb8) rfl ?_ rfl; clear S; intro a S
         refine s_skip S rfl rfl rfl rfl (neq_f hb8) rfl ?_ rfl; clear S; intro a S
         refine s_skip S rfl rfl rfl rfl (neq_f hb8) rfl ?_ rfl; clear S; intro a S
         refine s_skip S rfl rfl rfl rfl (neq_f hb8) rfl ?_ rfl; clear S; intro a S
         refine s_skip S rfl rfl rfl rfl (neq_f hb8) rfl ?_ rfl; clear S; intro a S
         refine s_skip S rfl rfl rfl rfl (neq_f hb8) rfl ?_ rfl; clear S; intro a S
         refine s_skip S rfl rfl rfl rfl (neq_f hb8) rfl ?_ rfl; clear S; intro a S
         refine s_skip S rfl rfl rfl rfl (neq_f hb8) rfl ?_ rfl; clear S; intro a S
         refine s_lv S rfl (rn_and_f true hb8 (S.tm rfl) rfl) rfl ?_; clear S; intro a S
         refine s_done ?_
         exact ⟨_, h, Keep.refl _ _, S.nf [true] rfl ⟨rfl, rfl, rfl, rfl, rfl, rfl, rfl, rfl, trivial⟩⟩
       clear S h; rintro a w16 ⟨c3, h, hk13, S⟩; rw [hj5] at h; clear hj5 j5
       refine s_done ?_
       replace S := S.nk [.blk b2 [.string y1.Who, .string y1.Club, .int .i64 y1.Day] 63] [(0, v_p_l), (3, .int .i64 (i1 : Int)), (4, .pointer (some ⟨b2, 0, none⟩)), (5, .string k_empty), (9, v_p_l), (10, .int .i64 (p_l.length : Int)), (11, .int .i64 (i1 : Int)), (62, .bool c3)] [true] rfl ⟨rfl, rfl, rfl, rfl, rfl, rfl, rfl, rfl, trivial⟩
       refine then_n ?_
       obtain ⟨j6, hj6, h⟩ := joinE h
       refine f_join (fun a w' => ∃ x2 : ByteArray, j6 x2 = some r ∧ Sx w [] nov [.blk b2 [.string y1.Who, .string y1.Club, .int .i64 y1.Day] 63] [(0, v_p_l), (4, .pointer (some ⟨b2, 0, none⟩)), (5, .string x2), (9, v_p_l), (10, .int .i64 (p_l.length : Int)), (11, .int .i64 (i1 : Int))] 74 a w') ?_ ?_
       ·refine f_cond (S.tm rfl) (fun hb9 => ?_) (fun hb9 => ?_)
        ·replace h := iteT h hb9
         refine f_region ?_
         refine lv S (rn_move (S.tm rfl)) rfl ?_; clear S; intro a S
         refine lv S (rn_move (S.tm rfl)) rfl ?_; clear S; intro a S
         refine lv S (rn_sub (S.tm rfl) rfl) rfl ?_; clear S; intro a S
         obtain ⟨hc3, h⟩ := chkE h
         obtain ⟨b6, o5, hm5, hr7⟩ := rn_indexT (a := a) (x := .tmp 63) (y := .tmp 65) (ty := 0) sl_30 hs_p_l (inB_get hc3).1 (inB_get hc3).2 (S.tm rfl) (S.tm rfl)
         refine lv S (hr7 _) rfl ?_; clear S; intro a S
         clear hr7
         refine lv S (rn_fld fa_63_1 (S.tm rfl)) rfl ?_; clear S; intro a S
         refine lv S (rn_ld Tryz.isAgg9 (off := o5) (o := 1) (S.tm rfl) (hm5.at S.emb0) rfl) rfl ?_; clear S; intro a S
         refine lv S (rn_assign (S.tm rfl)) rfl ?_; clear S; intro a S
         refine l_done ?_
         replace S := S.nk [.blk b2 [.string y1.Who, .string y1.Club, .int .i64 y1.Day] 63] [(0, v_p_l), (4, .pointer (some ⟨b2, 0, none⟩)), (5, .string ((nth p_l (W ((i1 : Int) - 1))).Club)), (9, v_p_l), (10, .int .i64 (p_l.length : Int)), (11, .int .i64 (i1 : Int))] [true] rfl ⟨rfl, rfl, rfl, rfl, rfl, rfl, trivial⟩
         refine then_n ?_
         exact ⟨(nth p_l (W ((i1 : Int) - 1))).Club, h, S.nf [true] rfl ⟨rfl, rfl, rfl, rfl, rfl, rfl, trivial⟩⟩
        ·replace h := iteF h hb9
         refine wp_skip ?_
         refine then_n ?_
         exact ⟨k_empty, h, S.nf [true] rfl ⟨rfl, rfl, rfl, rfl, rfl, rfl, trivial⟩⟩
       clear S h; rintro a w17 ⟨x2, h, S⟩; rw [hj6] at h; clear hj6 j6
       refine then_n ?_
       refine f_seq ?_
       refine f_region ?_
       refine lv S (rn_fld fa_63_1 (S.tm rfl)) rfl ?_; clear S; intro a S
       refine lv S (rn_load Tryz.isAgg9 (S.tm rfl) (S.cell (i := 0) rfl rfl)) rfl ?_; clear S; intro a S
       refine lv S (rn_move (S.tm rfl)) rfl ?_; clear S; intro a S
       refine lv S (rn_seql (S.tm rfl) (S.tm rfl)) rfl ?_; clear S; intro a S
       refine l_done ?_
       replace S := S.nk [] [(0, v_p_l), (9, v_p_l), (10, .int .i64 (p_l.length : Int)), (11, .int .i64 (i1 : Int)), (72, .bool (decide (y1.Club = x2)))] [false] rfl ⟨rfl, rfl, rfl, rfl, rfl, trivial⟩
       refine then_n ?_
       refine f_cond (S.tm rfl) (fun hb10 => ?_) (fun hb10 => ?_)
       ·replace h := iteT h hb10
        refine f_seq ?_
        refine f_region ?_
        refine lv S (rn_assign rfl) rfl ?_; clear S; intro a S
        refine l_done ?_
        replace S := S.nk [] [(2, .int .i64 3)] [] rfl ⟨rfl, trivial⟩
        refine then_n ?_
        refine wp_ret ?_
        refine blk_r ?_
        refine then_r ?_
        refine then_r ?_
        refine blk_r ?_
        refine then_r ?_
        refine then_r ?_
        obtain rfl := Option.some.inj h
        exact f_ret S Tryz.results16 rfl rfl
       ·replace h := iteF h hb10
        refine wp_skip ?_
        refine blk_n ?_
        refine then_n ?_
        refine f_region ?_
        refine lv S (rn_add (S.tm rfl) rfl) rfl ?_; clear S; intro a S
        refine lv S (rn_move (S.tm rfl)) rfl ?_; clear S; intro a S
        refine l_done ?_
        replace S := S.nk [] [(0, v_p_l), (9, v_p_l), (10, .int .i64 (p_l.length : Int)), (11, .int .i64 (W ((i1 : Int) + 1)))] [] rfl ⟨rfl, rfl, rfl, rfl, trivial⟩
        refine then_n ?_
        exact ⟨ys1, ⟨i1 + 1, ⟨_, (hd1).trans (List.append_cons _ _ _), by simp [hi1]⟩, h, S.nf [] rfl ⟨rfl, rfl, rfl, (congrArg (fun z => some (Value.int .i64 z)) (rng_next hd1 hi1 (slc_max hs_p_l))), trivial⟩⟩, Nat.lt_succ_self _⟩
  clear S h; rintro a w2 ⟨h, S⟩; rw [hj1] at h; clear hj1 j1
  refine then_n ?_
  refine f_seq ?_
  refine f_region ?_
  refine lv S (rn_assign rfl) rfl ?_; clear S; intro a S
  refine l_done ?_
  replace S := S.nk [] [(2, .int .i64 0)] [] rfl ⟨rfl, trivial⟩
  refine then_n ?_
  refine wp_ret ?_
  obtain rfl := Option.some.inj h
  exact f_ret S Tryz.results16 rfl rfl
theorem tumbref2_BoundsFault_ok (w : World) (p_b : GBounds) (r : Int) (h : tumbref2_BoundsFault p_b = r) :
    Calls Tryz.prog 17 [.agg (GBounds.enc p_b).toArray].toArray w (Ret w [] fun τ v w' => v = .int .i64 r) := by
 refine f_enter [] [] Tryz.func17 rfl Tryz.ntmps17 rfl (by simp) (by simp [fps]) (by simp [fps]) fun a S => ?_
 unfold tumbref2_BoundsFault at h
 replace S := S.nk [] [(0, .agg (GBounds.enc p_b).toArray)] [] rfl ⟨rfl, trivial⟩
 refine f_seq ?_
 refine f_region ?_
 refine l_box S (S.tm rfl) (cs := [.int .i64 p_b.Races, .int .i64 p_b.Club, .int .i64 p_b.Age, .int .i64 p_b.Day]) rfl rfl ?_; clear S; intro a w1 b1 hz1 hk1 S
 refine lv S (rn_assign rfl) rfl ?_; clear S; intro a S
 refine l_done ?_
 replace S := S.nk [.blk b1 [.int .i64 p_b.Races, .int .i64 p_b.Club, .int .i64 p_b.Age, .int .i64 p_b.Day] 33] [(1, .pointer (some ⟨b1, 0, none⟩))] [true] rfl ⟨rfl, trivial⟩
 refine then_n ?_
 refine f_seq ?_
 refine wp_block ?_
 refine f_seq ?_
 refine f_region ?_
 refine lv S (rn_fld fa_33_0 (S.tm rfl)) rfl ?_; clear S; intro a S
 refine lv S (rn_load Tryz.isAgg3 (S.tm rfl) (S.cell (i := 0) rfl rfl)) rfl ?_; clear S; intro a S
 refine l_enter S (fun _ => run_call (vs := [.int .i64 p_b.Races, .int .i64 0, .int .i64 100]) ⟨(S.tm rfl), rfl, rfl, trivial⟩ Tryz.call38) (tumbref2_in_ok _ p_b.Races 0 100 _ rfl) rfl ?_; clear S; intro v1 a w2 hv1 hk2 hn1 S
 subst hv1
 refine lv S (rn_not (S.tm rfl)) rfl ?_; clear S; intro a S
 refine lv S (rn_move (S.tm rfl)) rfl ?_; clear S; intro a S
 refine f_cutm 5 (fun a w' => Keep [] w2 w' ∧ Sx w [] nov [.blk b1 [.int .i64 p_b.Races, .int .i64 p_b.Club, .int .i64 p_b.Age, .int .i64 p_b.Day] 33] [(1, .pointer (some ⟨b1, 0, none⟩)), (13, .bool ((!(tumbref2_in p_b.Races 0 100)) || (!(tumbref2_in p_b.Club 0 1500))))] 24 a w') ?_ ?_
 ·rcases Bool.eq_false_or_eq_true (!(tumbref2_in p_b.Races 0 100)) with hb1 | hb1
  ·refine l_skip S rfl rfl rfl (neq_t hb1) rfl ?_ rfl; clear S; intro a S
   refine l_skip S rfl rfl rfl (neq_t hb1) rfl ?_ rfl; clear S; intro a S
   refine l_skip S rfl rfl rfl (neq_t hb1) rfl ?_ rfl; clear S; intro a S
   refine l_skip S rfl rfl rfl (neq_t hb1) rfl ?_ rfl; clear S; intro a S
   refine lv S (rn_or_t (!(tumbref2_in p_b.Club 0 1500)) hb1 (S.tm rfl) rfl) rfl ?_; clear S; intro a S
   refine l_done ?_
   refine then_n ?_
   exact ⟨Keep.refl _ _, S.nf [true] rfl ⟨rfl, rfl, trivial⟩⟩
  ·refine l_want S rfl rfl rfl hb1 ?_
   refine lv S (rn_fld fa_33_1 (S.tm rfl)) rfl ?_; clear S; intro a S
   refine l_want S rfl rfl rfl hb1 ?_
   refine lv S (rn_load Tryz.isAgg3 (S.tm rfl) (S.cell (i := 0) rfl rfl)) rfl ?_; clear S; intro a S
   refine l_want S rfl rfl rfl hb1 ?_
   refine l_enter S (fun _ => run_call (vs := [.int .i64 p_b.Club, .int .i64 0, .int .i64 1500]) ⟨(S.tm rfl), rfl, rfl, trivial⟩ Tryz.call38) (tumbref2_in_ok _ p_b.Club 0 1500 _ rfl) rfl ?_; clear S; intro v2 a w4 hv2 hk3 hn2 S
   subst hv2
   refine l_want S rfl rfl rfl hb1 ?_
   refine lv S (rn_not (S.tm rfl)) rfl ?_; clear S; intro a S
   refine lv S (rn_or_f hb1 (S.tm rfl) (S.tm rfl)) rfl ?_; clear S; intro a S
   refine l_done ?_
   refine then_n ?_
   exact ⟨hk3, S.nf [true] rfl ⟨rfl, rfl, trivial⟩⟩
 clear S; rintro a w3 ⟨hk4, S⟩
 refine lv S (rn_assign (S.tm rfl)) rfl ?_; clear S; intro a S
 refine l_done ?_
 replace S := S.nk [.blk b1 [.int .i64 p_b.Races, .int .i64 p_b.Club, .int .i64 p_b.Age, .int .i64 p_b.Day] 33] [(1, .pointer (some ⟨b1, 0, none⟩)), (3, .bool ((!(tumbref2_in p_b.Races 0 100)) || (!(tumbref2_in p_b.Club 0 1500))))] [true] rfl ⟨rfl, rfl, trivial⟩
 refine then_n ?_
 refine f_cond (S.tm rfl) (fun hb2 => ?_) (fun hb2 => ?_)
 ·replace h := iteT h hb2
  refine f_seq ?_
  refine f_region ?_
  refine lv S (rn_assign rfl) rfl ?_; clear S; intro a S
  refine l_done ?_
  replace S := S.nk [] [(2, .int .i64 1)] [false] rfl ⟨rfl, trivial⟩
  refine then_n ?_
  refine wp_ret ?_
  refine blk_r ?_
  refine then_r ?_
  subst h
  exact f_ret S Tryz.results17 rfl rfl
 ·replace h := iteF h hb2
  refine f_seq ?_
  refine f_region ?_
  refine lv S (rn_fld fa_33_2 (S.tm rfl)) rfl ?_; clear S; intro a S
  refine lv S (rn_load Tryz.isAgg3 (S.tm rfl) (S.cell (i := 0) rfl rfl)) rfl ?_; clear S; intro a S
  refine l_enter S (fun _ => run_call (vs := [.int .i64 p_b.Age, .int .i64 1, .int .i64 2]) ⟨(S.tm rfl), rfl, rfl, trivial⟩ Tryz.call38) (tumbref2_in_ok _ p_b.Age 1 2 _ rfl) rfl ?_; clear S; intro v3 a w5 hv3 hk5 hn3 S
  subst hv3
  refine lv S (rn_not (S.tm rfl)) rfl ?_; clear S; intro a S
  refine lv S (rn_assign (S.tm rfl)) rfl ?_; clear S; intro a S
  refine l_done ?_
  replace S := S.nk [.blk b1 [.int .i64 p_b.Races, .int .i64 p_b.Club, .int .i64 p_b.Age, .int .i64 p_b.Day] 33] [(1, .pointer (some ⟨b1, 0, none⟩)), (14, .bool (!(tumbref2_in p_b.Age 1 2)))] [true] rfl ⟨rfl, rfl, trivial⟩
  refine then_n ?_
  refine f_cond (S.tm rfl) (fun hb3 => ?_) (fun hb3 => ?_)
  ·replace h := iteT h hb3
   refine f_seq ?_
   refine f_region ?_
   refine lv S (rn_assign rfl) rfl ?_; clear S; intro a S
   refine l_done ?_
   replace S := S.nk [] [(2, .int .i64 4)] [false] rfl ⟨rfl, trivial⟩
   refine then_n ?_
   refine wp_ret ?_
   refine blk_r ?_
   refine then_r ?_
   subst h
   exact f_ret S Tryz.results17 rfl rfl
  ·replace h := iteF h hb3
   refine f_seq ?_
   refine f_region ?_
   refine lv S (rn_fld fa_33_3 (S.tm rfl)) rfl ?_; clear S; intro a S
   refine lv S (rn_load Tryz.isAgg3 (S.tm rfl) (S.cell (i := 0) rfl rfl)) rfl ?_; clear S; intro a S
   refine l_enter S (fun _ => run_call (vs := [.int .i64 p_b.Day]) ⟨(S.tm rfl), trivial⟩ Tryz.call39) (tumbref2_Day_ok _ p_b.Day _ rfl) rfl ?_; clear S; intro v4 a w6 hv4 hk6 hn4 S
   subst hv4
   refine lv S (rn_not (S.tm rfl)) rfl ?_; clear S; intro a S
   refine lv S (rn_assign (S.tm rfl)) rfl ?_; clear S; intro a S
   refine l_done ?_
   replace S := S.nk [] [(19, .bool (!(tumbref2_Day p_b.Day)))] [false] rfl ⟨rfl, trivial⟩
   refine then_n ?_
   refine f_cond (S.tm rfl) (fun hb4 => ?_) (fun hb4 => ?_)
   ·replace h := iteT h hb4
    refine f_seq ?_
    refine f_region ?_
    refine lv S (rn_assign rfl) rfl ?_; clear S; intro a S
    refine l_done ?_
    replace S := S.nk [] [(2, .int .i64 1)] [] rfl ⟨rfl, trivial⟩
    refine then_n ?_
    refine wp_ret ?_
    refine blk_r ?_
    refine then_r ?_
    subst h
    exact f_ret S Tryz.results17 rfl rfl
   ·replace h := iteF h hb4
    refine wp_skip ?_
    refine blk_n ?_
    refine then_n ?_
    refine f_seq ?_
    refine f_region ?_
    refine lv S (rn_assign rfl) rfl ?_; clear S; intro a S
    refine l_done ?_
    replace S := S.nk [] [(2, .int .i64 0)] [] rfl ⟨rfl, trivial⟩
    refine then_n ?_
    refine wp_ret ?_
    subst h
    exact f_ret S Tryz.results17 rfl rfl
theorem tumbref2_EntriesFault_ok (w : World) (v_p_l : Value) (p_l : List GEntry) (hs_p_l : Slc (view w []) 2 v_p_l (p_l.map GEntry.enc)) (r : Int) (h : tumbref2_EntriesFault p_l = some r) :
    Calls Tryz.prog 18 [v_p_l].toArray w (Ret w [] fun τ v w' => v = .int .i64 r) := by
 refine f_enter [] [] Tryz.func18 rfl Tryz.ntmps18 rfl (by simp) (by simp [fps]) (by simp [fps]) fun a S => ?_
 unfold tumbref2_EntriesFault at h
 replace S := S.nk [] [(0, v_p_l)] [] rfl ⟨rfl, trivial⟩
 refine f_seq ?_
 refine f_region ?_
 refine lv S (rn_assign rfl) rfl ?_; clear S; intro a S
 refine l_done ?_
 replace S := S.nk [] [(0, v_p_l)] [] rfl ⟨rfl, trivial⟩
 refine then_n ?_
 refine f_seq ?_
 refine f_seq ?_
 refine f_region ?_
 refine lv S (rn_move (S.tm rfl)) rfl ?_; clear S; intro a S
 refine lv S (rn_lenT sl_35 (S.tm rfl) (slc_len hs_p_l)) rfl ?_; clear S; intro a S
 refine lv S (rn_gtr (S.tm rfl) rfl) rfl ?_; clear S; intro a S
 refine l_done ?_
 replace S := S.nk [] [(0, v_p_l), (9, .bool (decide (1500 < (p_l.length : Int))))] [] rfl ⟨rfl, rfl, trivial⟩
 refine then_n ?_
 refine f_cond (S.tm rfl) (fun hb1 => ?_) (fun hb1 => ?_)
 ·replace h := iteT h hb1
  refine f_seq ?_
  refine f_region ?_
  refine lv S (rn_assign rfl) rfl ?_; clear S; intro a S
  refine l_done ?_
  replace S := S.nk [] [(2, .int .i64 2)] [] rfl ⟨rfl, trivial⟩
  refine then_n ?_
  refine wp_ret ?_
  refine then_r ?_
  obtain rfl := Option.some.inj h
  exact f_ret S Tryz.results18 rfl rfl
 ·replace h := iteF h hb1
  refine wp_skip ?_
  refine then_n ?_
  refine f_seq ?_
  refine f_seq ?_
  refine f_region ?_
  refine lv S (rn_move (S.tm rfl)) rfl ?_; clear S; intro a S
  refine lv S (rn_lenT sl_35 (S.tm rfl) (slc_len hs_p_l)) rfl ?_; clear S; intro a S
  refine lv S (rn_move rfl) rfl ?_; clear S; intro a S
  refine l_done ?_
  replace S := S.nk [] [(0, v_p_l), (10, v_p_l), (11, .int .i64 (p_l.length : Int)), (12, .int .i64 0)] [] rfl ⟨rfl, rfl, rfl, rfl, trivial⟩
  refine then_n ?_
  obtain ⟨j1, hj1, h⟩ := joinE h
  refine f_join (fun a w' => j1 = some r ∧ Sx w [] nov [] [(0, v_p_l)] 40 a w') ?_ ?_
  ·refine wp_block ?_
   refine f_loop (fun (ys1 : List GEntry) a w' => ∃ i1 : Nat, (∃ dn, p_l = dn ++ ys1 ∧ dn.length = i1) ∧ tumbref2_EntriesFault_l1 j1 ys1 i1 = some r ∧ Sx w [] nov [] [(0, v_p_l), (10, v_p_l), (11, .int .i64 (p_l.length : Int)), (12, .int .i64 (i1 : Int))] 40 a w') List.length p_l ⟨0, ⟨[], rfl, rfl⟩, h, S.nf [] rfl ⟨rfl, rfl, rfl, rfl, trivial⟩⟩ ?_
   clear S h; rintro ys1 a w1 ⟨i1, ⟨dn, hd1, hi1⟩, h, S⟩
   cases ys1 with
   | nil =>
    rw [tumbref2_EntriesFault_l1.eq_1] at h
    refine f_seq ?_
    refine f_region ?_
    refine lv S (rn_lss (S.tm rfl) (S.tm rfl)) rfl ?_; clear S; intro a S
    refine l_done ?_
    replace S := S.nk [] [(0, v_p_l), (10, v_p_l), (11, .int .i64 (p_l.length : Int)), (12, .int .i64 (i1 : Int)), (13, .bool (decide ((i1 : Int) < (p_l.length : Int))))] [] rfl ⟨rfl, rfl, rfl, rfl, rfl, trivial⟩
    refine then_n ?_
    refine f_seq ?_
    refine wp_cond_false ((S.tm rfl).trans (congrArg Value.bool (rng_nil hd1 hi1))) ?_
    refine wp_exit ?_
    refine then_x ?_
    refine then_x ?_
    refine x_same ?_
    refine then_n ?_
    exact ⟨h, S.nf [] rfl ⟨rfl, trivial⟩⟩
   | cons y1 ys1 =>
    rw [tumbref2_EntriesFault_l1.eq_2] at h
    refine f_seq ?_
    refine f_region ?_
    refine lv S (rn_lss (S.tm rfl) (S.tm rfl)) rfl ?_; clear S; intro a S
    refine l_done ?_
    replace S := S.nk [] [(0, v_p_l), (10, v_p_l), (11, .int .i64 (p_l.length : Int)), (12, .int .i64 (i1 : Int)), (13, .bool (decide ((i1 : Int) < (p_l.length : Int))))] [] rfl ⟨rfl, rfl, rfl, rfl, rfl, trivial⟩
    refine then_n ?_
    refine f_seq ?_
    refine wp_cond_true ((S.tm rfl).trans (congrArg Value.bool (rng_cons hd1 hi1))) ?_
    refine wp_skip ?_
    refine then_n ?_
    refine f_seq ?_
    refine wp_block ?_
    refine f_seq ?_
    refine f_region ?_
    obtain ⟨b1, o1, hm1, hr1⟩ := rn_indexT (a := a) (x := .tmp 10) (y := .tmp 12) (ty := 0) sl_35 hs_p_l (get_mid hd1 hi1) rfl (S.tm rfl) (S.tm rfl)
    refine lv S (hr1 _) rfl ?_; clear S; intro a S
    clear hr1
    refine lv S (rn_ldA Tryz.isAgg65 Tryz.sizeOf65 (off := o1) (o := 0) (part := [.string y1.Who, .string y1.Race]) rfl rfl (S.tm rfl) (hm1.at S.emb0)) rfl ?_; clear S; intro a S
    refine l_alloc S Tryz.zeroValue65 (cs := [.string k_empty, .string k_empty]) rfl rfl ?_; clear S; intro a w3 b2 hz1 hk1 S
    refine l_store S (S.tm rfl) (S.tm rfl) (i := 0) (off := 0) rfl Tryz.sizeOf65 (vs := [.string y1.Who, .string y1.Race]) rfl rfl rfl rfl ?_; clear S; intro w4 hk2 S
    refine l_done ?_
    replace S := S.nk [.blk b2 [.string y1.Who, .string y1.Race] 65] [(0, v_p_l), (4, .pointer (some ⟨b2, 0, none⟩)), (10, v_p_l), (11, .int .i64 (p_l.length : Int)), (12, .int .i64 (i1 : Int))] [true] rfl ⟨rfl, rfl, rfl, rfl, rfl, trivial⟩
    refine then_n ?_
    refine f_seq ?_
    refine f_region ?_
    refine lv S (rn_fld fa_65_0 (S.tm rfl)) rfl ?_; clear S; intro a S
    refine lv S (rn_load Tryz.isAgg9 (S.tm rfl) (S.cell (i := 0) rfl rfl)) rfl ?_; clear S; intro a S
    obtain ⟨r1, hr2, h⟩ := bindE h
    refine l_enter S (fun _ => run_call (vs := [.string y1.Who]) ⟨(S.tm rfl), trivial⟩ Tryz.call37) (tumbref2_Key_ok _ y1.Who _ hr2) rfl ?_; clear S; intro v1 a w5 hv1 hk3 hn1 S
    subst hv1
    refine lv S (rn_not (S.tm rfl)) rfl ?_; clear S; intro a S
    refine lv S (rn_move (S.tm rfl)) rfl ?_; clear S; intro a S
    obtain ⟨j2, hj2, h⟩ := joinE h
    refine f_cutm 5 (fun a w' => ∃ c1, j2 c1 = some r ∧ Keep [] w5 w' ∧ Sx w [] nov [.blk b2 [.string y1.Who, .string y1.Race] 65] [(0, v_p_l), (10, v_p_l), (11, .int .i64 (p_l.length : Int)), (12, .int .i64 (i1 : Int)), (25, .bool c1)] 40 a w') ?_ ?_
    ·rcases Bool.eq_false_or_eq_true (!r1) with hb2 | hb2
     ·replace h := iteT h hb2
      refine l_skip S rfl rfl rfl (neq_t hb2) rfl ?_ rfl; clear S; intro a S
      refine l_skip S rfl rfl rfl (neq_t hb2) rfl ?_ rfl; clear S; intro a S
      refine l_skip S rfl rfl rfl (neq_t hb2) rfl ?_ rfl; clear S; intro a S
      refine l_skip S rfl rfl rfl (neq_t hb2) rfl ?_ rfl; clear S; intro a S
      refine lv S (rn_or_t true hb2 (S.tm rfl) rfl) rfl ?_; clear S; intro a S
      refine l_done ?_
      refine then_n ?_
      exact ⟨_, h, Keep.refl _ _, S.nf [true] rfl ⟨rfl, rfl, rfl, rfl, rfl, trivial⟩⟩
     ·replace h := iteF h hb2
      refine l_want S rfl rfl rfl hb2 ?_
      refine lv S (rn_fld fa_65_1 (S.tm rfl)) rfl ?_; clear S; intro a S
      refine l_want S rfl rfl rfl hb2 ?_
      refine lv S (rn_load Tryz.isAgg9 (S.tm rfl) (S.cell (i := 0) rfl rfl)) rfl ?_; clear S; intro a S
      refine l_want S rfl rfl rfl hb2 ?_
      obtain ⟨r2, hr3, h⟩ := bindE h
      refine l_enter S (fun _ => run_call (vs := [.string y1.Race]) ⟨(S.tm rfl), trivial⟩ Tryz.call37) (tumbref2_Key_ok _ y1.Race _ hr3) rfl ?_; clear S; intro v2 a w7 hv2 hk4 hn2 S
      subst hv2
      refine l_want S rfl rfl rfl hb2 ?_
      refine lv S (rn_not (S.tm rfl)) rfl ?_; clear S; intro a S
      refine lv S (rn_or_f hb2 (S.tm rfl) (S.tm rfl)) rfl ?_; clear S; intro a S
      refine l_done ?_
      refine then_n ?_
      exact ⟨_, h, hk4, S.nf [true] rfl ⟨rfl, rfl, rfl, rfl, rfl, trivial⟩⟩
    clear S h; rintro a w6 ⟨c1, h, hk5, S⟩; rw [hj2] at h; clear hj2 j2
    refine l_done ?_
    replace S := S.nk [] [(0, v_p_l), (10, v_p_l), (11, .int .i64 (p_l.length : Int)), (12, .int .i64 (i1 : Int)), (25, .bool c1)] [false] rfl ⟨rfl, rfl, rfl, rfl, rfl, trivial⟩
    refine then_n ?_
    refine f_cond (S.tm rfl) (fun hb3 => ?_) (fun hb3 => ?_)
    ·replace h := iteT h hb3
     refine f_seq ?_
     refine f_region ?_
     refine lv S (rn_assign rfl) rfl ?_; clear S; intro a S
     refine l_done ?_
     replace S := S.nk [] [(2, .int .i64 5)] [] rfl ⟨rfl, trivial⟩
     refine then_n ?_
     refine wp_ret ?_
     refine blk_r ?_
     refine then_r ?_
     refine then_r ?_
     refine blk_r ?_
     refine then_r ?_
     refine then_r ?_
     obtain rfl := Option.some.inj h
     exact f_ret S Tryz.results18 rfl rfl
    ·replace h := iteF h hb3
     refine wp_skip ?_
     refine blk_n ?_
     refine then_n ?_
     refine f_region ?_
     refine lv S (rn_add (S.tm rfl) rfl) rfl ?_; clear S; intro a S
     refine lv S (rn_move (S.tm rfl)) rfl ?_; clear S; intro a S
     refine l_done ?_
     replace S := S.nk [] [(0, v_p_l), (10, v_p_l), (11, .int .i64 (p_l.length : Int)), (12, .int .i64 (W ((i1 : Int) + 1)))] [] rfl ⟨rfl, rfl, rfl, rfl, trivial⟩
     refine then_n ?_
     exact ⟨ys1, ⟨i1 + 1, ⟨_, (hd1).trans (List.append_cons _ _ _), by simp [hi1]⟩, h, S.nf [] rfl ⟨rfl, rfl, rfl, (congrArg (fun z => some (Value.int .i64 z)) (rng_next hd1 hi1 (slc_max hs_p_l))), trivial⟩⟩, Nat.lt_succ_self _⟩
  clear S h; rintro a w2 ⟨h, S⟩; rw [hj1] at h; clear hj1 j1
  refine then_n ?_
  refine f_seq ?_
  refine f_seq ?_
  refine f_region ?_
  refine lv S (rn_move (S.tm rfl)) rfl ?_; clear S; intro a S
  refine lv S (rn_lenT sl_35 (S.tm rfl) (slc_len hs_p_l)) rfl ?_; clear S; intro a S
  refine lv S (rn_move rfl) rfl ?_; clear S; intro a S
  refine l_done ?_
  replace S := S.nk [] [(0, v_p_l), (27, v_p_l), (28, .int .i64 (p_l.length : Int)), (29, .int .i64 0)] [] rfl ⟨rfl, rfl, rfl, rfl, trivial⟩
  refine then_n ?_
  obtain ⟨j3, hj3, h⟩ := joinE h
  refine f_join (fun a w' => j3 = some r ∧ Sx w [] nov [] [] 40 a w') ?_ ?_
  ·refine wp_block ?_
   refine f_loop (fun (ys2 : List GEntry) a w' => ∃ i2 : Nat, (∃ dn, p_l = dn ++ ys2 ∧ dn.length = i2) ∧ tumbref2_EntriesFault_l2 p_l j3 ys2 i2 = some r ∧ Sx w [] nov [] [(0, v_p_l), (27, v_p_l), (28, .int .i64 (p_l.length : Int)), (29, .int .i64 (i2 : Int))] 40 a w') List.length p_l ⟨0, ⟨[], rfl, rfl⟩, h, S.nf [] rfl ⟨rfl, rfl, rfl, rfl, trivial⟩⟩ ?_
   clear S h; rintro ys2 a w8 ⟨i2, ⟨dn, hd2, hi2⟩, h, S⟩
   cases ys2 with
   | nil =>
    rw [tumbref2_EntriesFault_l2.eq_1] at h
    refine f_seq ?_
    refine f_region ?_
    refine lv S (rn_lss (S.tm rfl) (S.tm rfl)) rfl ?_; clear S; intro a S
    refine l_done ?_
    replace S := S.nk [] [(0, v_p_l), (27, v_p_l), (28, .int .i64 (p_l.length : Int)), (29, .int .i64 (i2 : Int)), (30, .bool (decide ((i2 : Int) < (p_l.length : Int))))] [] rfl ⟨rfl, rfl, rfl, rfl, rfl, trivial⟩
    refine then_n ?_
    refine f_seq ?_
    refine wp_cond_false ((S.tm rfl).trans (congrArg Value.bool (rng_nil hd2 hi2))) ?_
    refine wp_exit ?_
    refine then_x ?_
    refine then_x ?_
    refine x_same ?_
    refine then_n ?_
    exact ⟨h, S.nf [] rfl trivial⟩
   | cons y2 ys2 =>
    rw [tumbref2_EntriesFault_l2.eq_2] at h
    refine f_seq ?_
    refine f_region ?_
    refine lv S (rn_lss (S.tm rfl) (S.tm rfl)) rfl ?_; clear S; intro a S
    refine l_done ?_
    replace S := S.nk [] [(0, v_p_l), (27, v_p_l), (28, .int .i64 (p_l.length : Int)), (29, .int .i64 (i2 : Int)), (30, .bool (decide ((i2 : Int) < (p_l.length : Int))))] [] rfl ⟨rfl, rfl, rfl, rfl, rfl, trivial⟩
    refine then_n ?_
    refine f_seq ?_
    refine wp_cond_true ((S.tm rfl).trans (congrArg Value.bool (rng_cons hd2 hi2))) ?_
    refine wp_skip ?_
    refine then_n ?_
    refine f_seq ?_
    refine wp_block ?_
    refine f_seq ?_
    refine f_region ?_
    refine lv S (rn_move (S.tm rfl)) rfl ?_; clear S; intro a S
    obtain ⟨b3, o2, hm2, hr4⟩ := rn_indexT (a := a) (x := .tmp 27) (y := .tmp 29) (ty := 0) sl_35 hs_p_l (get_mid hd2 hi2) rfl (S.tm rfl) (S.tm rfl)
    refine lv S (hr4 _) rfl ?_; clear S; intro a S
    clear hr4
    refine lv S (rn_ldA Tryz.isAgg65 Tryz.sizeOf65 (off := o2) (o := 0) (part := [.string y2.Who, .string y2.Race]) rfl rfl (S.tm rfl) (hm2.at S.emb0)) rfl ?_; clear S; intro a S
    refine l_alloc S Tryz.zeroValue65 (cs := [.string k_empty, .string k_empty]) rfl rfl ?_; clear S; intro a w10 b4 hz2 hk6 S
    refine lv S (rn_assign (S.tm rfl)) rfl ?_; clear S; intro a S
    refine l_store S (S.tm rfl) (S.tm rfl) (i := 0) (off := 0) rfl Tryz.sizeOf65 (vs := [.string y2.Who, .string y2.Race]) rfl rfl rfl rfl ?_; clear S; intro w11 hk7 S
    refine l_done ?_
    replace S := S.nk [.blk b4 [.string y2.Who, .string y2.Race] 65] [(0, v_p_l), (5, .int .i64 (i2 : Int)), (6, .pointer (some ⟨b4, 0, none⟩)), (27, v_p_l), (28, .int .i64 (p_l.length : Int)), (29, .int .i64 (i2 : Int))] [true] rfl ⟨rfl, rfl, rfl, rfl, rfl, rfl, trivial⟩
    refine then_n ?_
    refine f_seq ?_
    obtain ⟨hc1, h⟩ := chkE h
    refine d_region [] ([]) Tryz.mixed S rfl (by kernel_rfl) ?_; clear S; intro w13 hk9 hsel S
    refine d_quiet 0 S hsel rfl rfl rfl (by kernel_rfl) (by kernel_rfl) rfl (fun _ hw => (rn_move (S.tm rfl))) ?_; clear S; intro a S
    refine d_quiet 1 S hsel rfl rfl rfl (by kernel_rfl) (by kernel_rfl) rfl (fun _ hw => (rn_move (S.tm rfl))) ?_; clear S; intro a S
    obtain ⟨v5, hs2, hr6⟩ := rn_cutTh (a := a) (x := .tmp 34) (y' := .tmp 35) (ty := 35) sl_35 hs_p_l (S.tm rfl) (S.tm rfl) hc1
    refine d_quiet 2 S hsel rfl rfl rfl (by kernel_rfl) (by kernel_rfl) rfl (fun _ hw => (hr6 _)) ?_; clear S; intro a S
    clear hr6
    refine d_quiet 3 S hsel rfl rfl rfl (by kernel_rfl) (by kernel_rfl) rfl (fun _ hw => (rn_ldA Tryz.isAgg65 Tryz.sizeOf65 (off := 0) (o := 0) (part := [.string y2.Who, .string y2.Race]) rfl rfl (S.tm rfl) ((S.blk_mem (i := 0) (cells := [.string y2.Who, .string y2.Race]) (b := b4) (T := 65) rfl (ne_nil (e' := .blk b4 [.string y2.Who, .string y2.Race] 65))).kept hw))) ?_; clear S; intro a S
    refine d_loud1 4 (by kernel_rfl) rfl ?_
    refine l_enter S (fun _ => run_call (vs := [v5, .agg (GEntry.enc y2).toArray]) ⟨(S.tm rfl), (S.tm rfl), trivial⟩ Tryz.call30) (slices_Contains_Entry_ok _ v5 (cut p_l 0 (i2 : Int)) (hs2.mono (S.le_arg nil_sub)) y2 _ rfl) rfl ?_; clear S; intro v6 a w14 hv4 hk10 hn4 S
    subst hv4
    refine l_done ?_
    refine d_next hk10 ?_
    refine d_end (by kernel_rfl) ?_
    clear hsel
    replace S := S.nk [] [(0, v_p_l), (27, v_p_l), (28, .int .i64 (p_l.length : Int)), (29, .int .i64 (i2 : Int)), (38, .bool (slices_Contains_Entry (cut p_l 0 (i2 : Int)) y2))] [false] rfl ⟨rfl, rfl, rfl, rfl, rfl, trivial⟩
    refine then_n ?_
    refine f_cond (S.tm rfl) (fun hb4 => ?_) (fun hb4 => ?_)
    ·replace h := iteT h hb4
     refine f_seq ?_
     refine f_region ?_
     refine lv S (rn_assign rfl) rfl ?_; clear S; intro a S
     refine l_done ?_
     replace S := S.nk [] [(2, .int .i64 6)] [] rfl ⟨rfl, trivial⟩
     refine then_n ?_
     refine wp_ret ?_
     refine blk_r ?_
     refine then_r ?_
     refine then_r ?_
     refine blk_r ?_
     refine then_r ?_
     refine then_r ?_
     obtain rfl := Option.some.inj h
     exact f_ret S Tryz.results18 rfl rfl
    ·replace h := iteF h hb4
     refine wp_skip ?_
     refine blk_n ?_
     refine then_n ?_
     refine f_region ?_
     refine lv S (rn_add (S.tm rfl) rfl) rfl ?_; clear S; intro a S
     refine lv S (rn_move (S.tm rfl)) rfl ?_; clear S; intro a S
     refine l_done ?_
     replace S := S.nk [] [(0, v_p_l), (27, v_p_l), (28, .int .i64 (p_l.length : Int)), (29, .int .i64 (W ((i2 : Int) + 1)))] [] rfl ⟨rfl, rfl, rfl, rfl, trivial⟩
     refine then_n ?_
     exact ⟨ys2, ⟨i2 + 1, ⟨_, (hd2).trans (List.append_cons _ _ _), by simp [hi2]⟩, h, S.nf [] rfl ⟨rfl, rfl, rfl, (congrArg (fun z => some (Value.int .i64 z)) (rng_next hd2 hi2 (slc_max hs_p_l))), trivial⟩⟩, Nat.lt_succ_self _⟩
  clear S h; rintro a w9 ⟨h, S⟩; rw [hj3] at h; clear hj3 j3
  refine then_n ?_
  refine f_seq ?_
  refine f_region ?_
  refine lv S (rn_assign rfl) rfl ?_; clear S; intro a S
  refine l_done ?_
  replace S := S.nk [] [(2, .int .i64 0)] [] rfl ⟨rfl, trivial⟩
  refine then_n ?_
  refine wp_ret ?_
  obtain rfl := Option.some.inj h
  exact f_ret S Tryz.results18 rfl rfl
theorem tumblaw2_errs_ok (w : World) (v_p_l : Value) (p_l : List Int) (hs_p_l : Slc (view w []) 1 v_p_l (p_l.map eInt)) (r : Int) (h : tumblaw2_errs p_l = r) :
    Calls Tryz.prog 13 [v_p_l].toArray w (Ret w [] fun τ v w' => v = .int .i64 r) := by
 refine f_enter [] [] Tryz.func13 rfl Tryz.ntmps13 rfl (by simp) (by simp [fps]) (by simp [fps]) fun a S => ?_
 unfold tumblaw2_errs at h
 replace S := S.nk [] [(0, v_p_l)] [] rfl ⟨rfl, trivial⟩
 refine f_seq ?_
 refine f_region ?_
 refine lv S (rn_assign rfl) rfl ?_; clear S; intro a S
 refine l_done ?_
 replace S := S.nk [] [(0, v_p_l)] [] rfl ⟨rfl, trivial⟩
 refine then_n ?_
 refine f_seq ?_
 refine f_seq ?_
 refine f_region ?_
 refine lv S (rn_move (S.tm rfl)) rfl ?_; clear S; intro a S
 refine lv S (rn_lenT sl_79 (S.tm rfl) (slc_len hs_p_l)) rfl ?_; clear S; intro a S
 refine lv S (rn_move rfl) rfl ?_; clear S; intro a S
 refine l_done ?_
 replace S := S.nk [] [(5, v_p_l), (6, .int .i64 (p_l.length : Int)), (7, .int .i64 0)] [] rfl ⟨rfl, rfl, rfl, trivial⟩
 refine then_n ?_
 obtain ⟨j1, hj1, h⟩ := joinE h
 refine f_join (fun a w' => j1 = r ∧ Sx w [] nov [] [] 15 a w') ?_ ?_
 ·refine wp_block ?_
  refine f_loop (fun (ys1 : List Int) a w' => ∃ i1 : Nat, (∃ dn, p_l = dn ++ ys1 ∧ dn.length = i1) ∧ tumblaw2_errs_l1 j1 ys1 i1 = r ∧ Sx w [] nov [] [(5, v_p_l), (6, .int .i64 (p_l.length : Int)), (7, .int .i64 (i1 : Int))] 15 a w') List.length p_l ⟨0, ⟨[], rfl, rfl⟩, h, S.nf [] rfl ⟨rfl, rfl, rfl, trivial⟩⟩ ?_
  clear S h; rintro ys1 a w1 ⟨i1, ⟨dn, hd1, hi1⟩, h, S⟩
  cases ys1 with
  | nil =>
   rw [tumblaw2_errs_l1.eq_1] at h
   refine f_seq ?_
   refine f_region ?_
   refine lv S (rn_lss (S.tm rfl) (S.tm rfl)) rfl ?_; clear S; intro a S
   refine l_done ?_
   replace S := S.nk [] [(5, v_p_l), (6, .int .i64 (p_l.length : Int)), (7, .int .i64 (i1 : Int)), (8, .bool (decide ((i1 : Int) < (p_l.length : Int))))] [] rfl ⟨rfl, rfl, rfl, rfl, trivial⟩
   refine then_n ?_
   refine f_seq ?_
   refine wp_cond_false ((S.tm rfl).trans (congrArg Value.bool (rng_nil hd1 hi1))) ?_
   refine wp_exit ?_
   refine then_x ?_
   refine then_x ?_
   refine x_same ?_
   refine then_n ?_
   exact ⟨h, S.nf [] rfl trivial⟩
  | cons y1 ys1 =>
   rw [tumblaw2_errs_l1.eq_2] at h
   refine f_seq ?_
   refine f_region ?_
   refine lv S (rn_lss (S.tm rfl) (S.tm rfl)) rfl ?_; clear S; intro a S
   refine l_done ?_
   replace S := S.nk [] [(5, v_p_l), (6, .int .i64 (p_l.length : Int)), (7, .int .i64 (i1 : Int)), (8, .bool (decide ((i1 : Int) < (p_l.length : Int))))] [] rfl ⟨rfl, rfl, rfl, rfl, trivial⟩
   refine then_n ?_
   refine f_seq ?_
   refine wp_cond_true ((S.tm rfl).trans (congrArg Value.bool (rng_cons hd1 hi1))) ?_
   refine wp_skip ?_
   refine then_n ?_
   refine f_seq ?_
   refine wp_block ?_
   refine f_seq ?_
   refine f_region ?_
   obtain ⟨b1, o1, hm1, hr1⟩ := rn_indexT (a := a) (x := .tmp 5) (y := .tmp 7) (ty := 0) sl_79 hs_p_l (get_mid hd1 hi1) rfl (S.tm rfl) (S.tm rfl)
   refine lv S (hr1 _) rfl ?_; clear S; intro a S
   clear hr1
   refine lv S (rn_ld Tryz.isAgg39 (off := o1) (o := 0) (S.tm rfl) (hm1.at S.emb0) rfl) rfl ?_; clear S; intro a S
   refine lv S (rn_assign (S.tm rfl)) rfl ?_; clear S; intro a S
   refine l_done ?_
   replace S := S.nk [] [(4, .int .i64 y1), (5, v_p_l), (6, .int .i64 (p_l.length : Int)), (7, .int .i64 (i1 : Int))] [] rfl ⟨rfl, rfl, rfl, rfl, trivial⟩
   refine then_n ?_
   refine f_seq ?_
   refine f_region ?_
   refine lv S (rn_move (S.tm rfl)) rfl ?_; clear S; intro a S
   refine lv S (rn_neq (S.tm rfl) rfl) rfl ?_; clear S; intro a S
   refine l_done ?_
   replace S := S.nk [] [(4, .int .i64 y1), (5, v_p_l), (6, .int .i64 (p_l.length : Int)), (7, .int .i64 (i1 : Int)), (12, .bool (!decide (y1 = 0)))] [] rfl ⟨rfl, rfl, rfl, rfl, rfl, trivial⟩
   refine then_n ?_
   refine f_cond (S.tm rfl) (fun hb1 => ?_) (fun hb1 => ?_)
   ·replace h := iteT h hb1
    refine f_seq ?_
    refine f_region ?_
    refine lv S (rn_move (S.tm rfl)) rfl ?_; clear S; intro a S
    refine lv S (rn_assign (S.tm rfl)) rfl ?_; clear S; intro a S
    refine l_done ?_
    replace S := S.nk [] [(2, .int .i64 y1)] [] rfl ⟨rfl, trivial⟩
    refine then_n ?_
    refine wp_ret ?_
    refine blk_r ?_
    refine then_r ?_
    refine then_r ?_
    refine blk_r ?_
    refine then_r ?_
    refine then_r ?_
    subst h
    exact f_ret S Tryz.results13 rfl rfl
   ·replace h := iteF h hb1
    refine wp_skip ?_
    refine blk_n ?_
    refine then_n ?_
    refine f_region ?_
    refine lv S (rn_add (S.tm rfl) rfl) rfl ?_; clear S; intro a S
    refine lv S (rn_move (S.tm rfl)) rfl ?_; clear S; intro a S
    refine l_done ?_
    replace S := S.nk [] [(5, v_p_l), (6, .int .i64 (p_l.length : Int)), (7, .int .i64 (W ((i1 : Int) + 1)))] [] rfl ⟨rfl, rfl, rfl, trivial⟩
    refine then_n ?_
    exact ⟨ys1, ⟨i1 + 1, ⟨_, (hd1).trans (List.append_cons _ _ _), by simp [hi1]⟩, h, S.nf [] rfl ⟨rfl, rfl, (congrArg (fun z => some (Value.int .i64 z)) (rng_next hd1 hi1 (slc_max hs_p_l))), trivial⟩⟩, Nat.lt_succ_self _⟩
 clear S h; rintro a w2 ⟨h, S⟩; rw [hj1] at h; clear hj1 j1
 refine then_n ?_
 refine f_seq ?_
 refine f_region ?_
 refine lv S (rn_assign rfl) rfl ?_; clear S; intro a S
 refine l_done ?_
 replace S := S.nk [] [(2, .int .i64 0)] [] rfl ⟨rfl, trivial⟩
 refine then_n ?_
 refine wp_ret ?_
 subst h
 exact f_ret S Tryz.results13 rfl rfl
theorem tumbref2_raceOf_ok (w : World) (v_p_l : Value) (p_l : List GRace) (hs_p_l : Slc (view w []) 8 v_p_l (p_l.map GRace.enc)) (p_key : ByteArray) (r : GRace × Bool) (h : tumbref2_raceOf p_l p_key = r) :
    Calls Tryz.prog 62 [v_p_l, .string p_key].toArray w (Ret w [] fun τ v w' => v = .tuple #[.agg (GRace.enc r.1).toArray, .bool r.2]) := by
 refine f_enter [] [] Tryz.func62 rfl Tryz.ntmps62 rfl (by simp) (by simp [fps]) (by simp [fps]) fun a S => ?_
 unfold tumbref2_raceOf at h
 replace S := S.nk [] [(0, v_p_l), (1, .string p_key)] [] rfl ⟨rfl, rfl, trivial⟩
 refine f_seq ?_
 refine f_region ?_
 refine l_alloc S Tryz.zeroValue54 (cs := [.string k_empty, .int .i64 0, .int .i64 0, .int .i64 0, .int .i64 0, .int .i64 0, .int .i64 0, .int .i64 0]) rfl rfl ?_; clear S; intro a w1 b1 hz1 hk1 S
 refine lv S (rn_assign rfl) rfl ?_; clear S; intro a S
 refine l_done ?_
 replace S := S.nk [.blk b1 [.string k_empty, .int .i64 0, .int .i64 0, .int .i64 0, .int .i64 0, .int .i64 0, .int .i64 0, .int .i64 0] 54] [(0, v_p_l), (1, .string p_key), (4, .pointer (some ⟨b1, 0, none⟩))] [true] rfl ⟨rfl, rfl, rfl, trivial⟩
 refine then_n ?_
 refine f_seq ?_
 refine f_seq ?_
 refine f_region ?_
 refine lv S (rn_move (S.tm rfl)) rfl ?_; clear S; intro a S
 refine lv S (rn_lenT sl_26 (S.tm rfl) (slc_len hs_p_l)) rfl ?_; clear S; intro a S
 refine lv S (rn_move rfl) rfl ?_; clear S; intro a S
 refine l_done ?_
 replace S := S.nk [.blk b1 [.string k_empty, .int .i64 0, .int .i64 0, .int .i64 0, .int .i64 0, .int .i64 0, .int .i64 0, .int .i64 0] 54] [(1, .string p_key), (4, .pointer (some ⟨b1, 0, none⟩)), (8, v_p_l), (9, .int .i64 (p_l.length : Int)), (10, .int .i64 0)] [true] rfl ⟨rfl, rfl, rfl, rfl, rfl, trivial⟩
 refine then_n ?_
 obtain ⟨j1, hj1, h⟩ := joinE h
 refine f_join (fun a w' => j1 = r ∧ Sx w [] nov [.blk b1 [.string k_empty, .int .i64 0, .int .i64 0, .int .i64 0, .int .i64 0, .int .i64 0, .int .i64 0, .int .i64 0] 54] [(4, .pointer (some ⟨b1, 0, none⟩))] 21 a w') ?_ ?_
 ·refine wp_block ?_
  refine f_loop (fun (ys1 : List GRace) a w' => ∃ i1 : Nat, (∃ dn, p_l = dn ++ ys1 ∧ dn.length = i1) ∧ tumbref2_raceOf_l1 p_key j1 ys1 i1 = r ∧ Sx w [] nov [.blk b1 [.string k_empty, .int .i64 0, .int .i64 0, .int .i64 0, .int .i64 0, .int .i64 0, .int .i64 0, .int .i64 0] 54] [(1, .string p_key), (4, .pointer (some ⟨b1, 0, none⟩)), (8, v_p_l), (9, .int .i64 (p_l.length : Int)), (10, .int .i64 (i1 : Int))] 21 a w') List.length p_l ⟨0, ⟨[], rfl, rfl⟩, h, S.nf [true] rfl ⟨rfl, rfl, rfl, rfl, rfl, trivial⟩⟩ ?_
  clear S h; rintro ys1 a w2 ⟨i1, ⟨dn, hd1, hi1⟩, h, S⟩
  cases ys1 with
  | nil =>
   rw [tumbref2_raceOf_l1.eq_1] at h
   refine f_seq ?_
   refine f_region ?_
   refine lv S (rn_lss (S.tm rfl) (S.tm rfl)) rfl ?_; clear S; intro a S
   refine l_done ?_
   replace S := S.nk [.blk b1 [.string k_empty, .int .i64 0, .int .i64 0, .int .i64 0, .int .i64 0, .int .i64 0, .int .i64 0, .int .i64 0] 54] [(1, .string p_key), (4, .pointer (some ⟨b1, 0, none⟩)), (8, v_p_l), (9, .int .i64 (p_l.length : Int)), (10, .int .i64 (i1 : Int)), (11, .bool (decide ((i1 : Int) < (p_l.length : Int))))] [true] rfl ⟨rfl, rfl, rfl, rfl, rfl, rfl, trivial⟩
   refine then_n ?_
   refine f_seq ?_
   refine wp_cond_false ((S.tm rfl).trans (congrArg Value.bool (rng_nil hd1 hi1))) ?_
   refine wp_exit ?_
   refine then_x ?_
   refine then_x ?_
   refine x_same ?_
   refine then_n ?_
   exact ⟨h, S.nf [true] rfl ⟨rfl, trivial⟩⟩
  | cons y1 ys1 =>
   rw [tumbref2_raceOf_l1.eq_2] at h
   refine f_seq ?_
   refine f_region ?_
   refine lv S (rn_lss (S.tm rfl) (S.tm rfl)) rfl ?_; clear S; intro a S
   refine l_done ?_
   replace S := S.nk [.blk b1 [.string k_empty, .int .i64 0, .int .i64 0, .int .i64 0, .int .i64 0, .int .i64 0, .int .i64 0, .int .i64 0] 54] [(1, .string p_key), (4, .pointer (some ⟨b1, 0, none⟩)), (8, v_p_l), (9, .int .i64 (p_l.length : Int)), (10, .int .i64 (i1 : Int)), (11, .bool (decide ((i1 : Int) < (p_l.length : Int))))] [true] rfl ⟨rfl, rfl, rfl, rfl, rfl, rfl, trivial⟩
   refine then_n ?_
   refine f_seq ?_
   refine wp_cond_true ((S.tm rfl).trans (congrArg Value.bool (rng_cons hd1 hi1))) ?_
   refine wp_skip ?_
   refine then_n ?_
   refine f_seq ?_
   refine wp_block ?_
   refine f_seq ?_
   refine f_region ?_
   obtain ⟨b2, o1, hm1, hr1⟩ := rn_indexT (a := a) (x := .tmp 8) (y := .tmp 10) (ty := 0) sl_26 hs_p_l (get_mid hd1 hi1) rfl (S.tm rfl) (S.tm rfl)
   refine lv S (hr1 _) rfl ?_; clear S; intro a S
   clear hr1
   refine lv S (rn_ldA Tryz.isAgg54 Tryz.sizeOf54 (off := o1) (o := 0) (part := [.string y1.Key, .int .i64 y1.Metres, .int .i64 y1.Stroke, .int .i64 y1.Course, .int .i64 y1.Legs, .int .i64 y1.Sex, .int .i64 y1.Young, .int .i64 y1.Old]) rfl rfl (S.tm rfl) (hm1.at S.emb0)) rfl ?_; clear S; intro a S
   refine l_alloc S Tryz.zeroValue54 (cs := [.string k_empty, .int .i64 0, .int .i64 0, .int .i64 0, .int .i64 0, .int .i64 0, .int .i64 0, .int .i64 0]) rfl rfl ?_; clear S; intro a w4 b3 hz2 hk2 S
   refine l_store S (S.tm rfl) (S.tm rfl) (i := 0) (off := 0) rfl Tryz.sizeOf54 (vs := [.string y1.Key, .int .i64 y1.Metres, .int .i64 y1.Stroke, .int .i64 y1.Course, .int .i64 y1.Legs, .int .i64 y1.Sex, .int .i64 y1.Young, .int .i64 y1.Old]) rfl rfl rfl rfl ?_; clear S; intro w5 hk3 S
   refine l_done ?_
   replace S := S.nk [.blk b3 [.string y1.Key, .int .i64 y1.Metres, .int .i64 y1.Stroke, .int .i64 y1.Course, .int .i64 y1.Legs, .int .i64 y1.Sex, .int .i64 y1.Young, .int .i64 y1.Old] 54, .blk b1 [.string k_empty, .int .i64 0, .int .i64 0, .int .i64 0, .int .i64 0, .int .i64 0, .int .i64 0, .int .i64 0] 54] [(1, .string p_key), (4, .pointer (some ⟨b1, 0, none⟩)), (7, .pointer (some ⟨b3, 0, none⟩)), (8, v_p_l), (9, .int .i64 (p_l.length : Int)), (10, .int .i64 (i1 : Int))] [true, true] rfl ⟨rfl, rfl, rfl, rfl, rfl, rfl, trivial⟩
   refine then_n ?_
   refine f_seq ?_
   refine f_region ?_
   refine lv S (rn_fld fa_54_0 (S.tm rfl)) rfl ?_; clear S; intro a S
   refine lv S (rn_load Tryz.isAgg9 (S.tm rfl) (S.cell (i := 0) rfl rfl)) rfl ?_; clear S; intro a S
   refine lv S (rn_move (S.tm rfl)) rfl ?_; clear S; intro a S
   refine lv S (rn_seql (S.tm rfl) (S.tm rfl)) rfl ?_; clear S; intro a S
   refine l_done ?_
   replace S := S.nk [.blk b3 [.string y1.Key, .int .i64 y1.Metres, .int .i64 y1.Stroke, .int .i64 y1.Course, .int .i64 y1.Legs, .int .i64 y1.Sex, .int .i64 y1.Young, .int .i64 y1.Old] 54, .blk b1 [.string k_empty, .int .i64 0, .int .i64 0, .int .i64 0, .int .i64 0, .int .i64 0, .int .i64 0, .int .i64 0] 54] [(1, .string p_key), (4, .pointer (some ⟨b1, 0, none⟩)), (7, .pointer (some ⟨b3, 0, none⟩)), (8, v_p_l), (9, .int .i64 (p_l.length : Int)), (10, .int .i64 (i1 : Int)), (17, .bool (decide (y1.Key = p_key)))] [true, true] rfl ⟨rfl, rfl, rfl, rfl, rfl, rfl, rfl, trivial⟩
   refine then_n ?_
   refine f_cond (S.tm rfl) (fun hb1 => ?_) (fun hb1 => ?_)
   ·replace h := iteT h hb1
    refine f_seq ?_
    refine f_region ?_
    refine lv S (rn_ldA Tryz.isAgg54 Tryz.sizeOf54 (off := 0) (o := 0) (part := [.string y1.Key, .int .i64 y1.Metres, .int .i64 y1.Stroke, .int .i64 y1.Course, .int .i64 y1.Legs, .int .i64 y1.Sex, .int .i64 y1.Young, .int .i64 y1.Old]) rfl rfl (S.tm rfl) (S.cellsAt (i := 0) rfl)) rfl ?_; clear S; intro a S
    refine l_store S (S.tm rfl) (S.tm rfl) (i := 1) (off := 0) rfl Tryz.sizeOf54 (vs := [.string y1.Key, .int .i64 y1.Metres, .int .i64 y1.Stroke, .int .i64 y1.Course, .int .i64 y1.Legs, .int .i64 y1.Sex, .int .i64 y1.Young, .int .i64 y1.Old]) rfl rfl rfl rfl ?_; clear S; intro w6 hk4 S
    refine lv S (rn_assign rfl) rfl ?_; clear S; intro a S
    refine l_done ?_
    replace S := S.nk [.blk b1 [.string y1.Key, .int .i64 y1.Metres, .int .i64 y1.Stroke, .int .i64 y1.Course, .int .i64 y1.Legs, .int .i64 y1.Sex, .int .i64 y1.Young, .int .i64 y1.Old] 54] [(4, .pointer (some ⟨b1, 0, none⟩)), (5, .bool true)] [false, true] rfl ⟨rfl, rfl, trivial⟩
    refine then_n ?_
    refine wp_ret ?_
    refine blk_r ?_
    refine then_r ?_
    refine then_r ?_
    refine blk_r ?_
    refine then_r ?_
    refine then_r ?_
    subst h
    exact f_retG S (rs := [.cell 4 54, .tmp 5]) (vs := [.agg #[.string y1.Key, .int .i64 y1.Metres, .int .i64 y1.Stroke, .int .i64 y1.Course, .int .i64 y1.Legs, .int .i64 y1.Sex, .int .i64 y1.Young, .int .i64 y1.Old], .bool true]) Tryz.results62 ⟨(res_cell (off := 0) S rfl Tryz.isAgg54 Tryz.sizeOf54 rfl (S.cellsAt (i := 0) rfl)), (res_tmp S rfl), trivial⟩ rfl rfl
   ·replace h := iteF h hb1
    refine wp_skip ?_
    refine blk_n ?_
    refine then_n ?_
    refine f_region ?_
    refine lv S (rn_add (S.tm rfl) rfl) rfl ?_; clear S; intro a S
    refine lv S (rn_move (S.tm rfl)) rfl ?_; clear S; intro a S
    refine l_done ?_
    replace S := S.nk [.blk b1 [.string k_empty, .int .i64 0, .int .i64 0, .int .i64 0, .int .i64 0, .int .i64 0, .int .i64 0, .int .i64 0] 54] [(1, .string p_key), (4, .pointer (some ⟨b1, 0, none⟩)), (8, v_p_l), (9, .int .i64 (p_l.length : Int)), (10, .int .i64 (W ((i1 : Int) + 1)))] [false, true] rfl ⟨rfl, rfl, rfl, rfl, rfl, trivial⟩
    refine then_n ?_
    exact ⟨ys1, ⟨i1 + 1, ⟨_, (hd1).trans (List.append_cons _ _ _), by simp [hi1]⟩, h, S.nf [true] rfl ⟨rfl, rfl, rfl, rfl, (congrArg (fun z => some (Value.int .i64 z)) (rng_next hd1 hi1 (slc_max hs_p_l))), trivial⟩⟩, Nat.lt_succ_self _⟩
 clear S h; rintro a w3 ⟨h, S⟩; rw [hj1] at h; clear hj1 j1
 refine then_n ?_
 refine f_seq ?_
 refine f_region ?_
 refine lv S (rn_bld bt_54 (pv := []) trivial (cs := [.string k_empty, .int .i64 0, .int .i64 0, .int .i64 0, .int .i64 0, .int .i64 0, .int .i64 0, .int .i64 0]) (by kernel_rfl)) rfl ?_; clear S; intro a S
 refine l_store S (S.tm rfl) (S.tm rfl) (i := 0) (off := 0) rfl Tryz.sizeOf54 (vs := [.string k_empty, .int .i64 0, .int .i64 0, .int .i64 0, .int .i64 0, .int .i64 0, .int .i64 0, .int .i64 0]) rfl rfl rfl rfl ?_; clear S; intro w7 hk5 S
 refine lv S (rn_assign rfl) rfl ?_; clear S; intro a S
 refine l_done ?_
 replace S := S.nk [.blk b1 [.string k_empty, .int .i64 0, .int .i64 0, .int .i64 0, .int .i64 0, .int .i64 0, .int .i64 0, .int .i64 0] 54] [(4, .pointer (some ⟨b1, 0, none⟩)), (5, .bool false)] [true] rfl ⟨rfl, rfl, trivial⟩
 refine then_n ?_
 refine wp_ret ?_
 subst h
 exact f_retG S (rs := [.cell 4 54, .tmp 5]) (vs := [.agg #[.string k_empty, .int .i64 0, .int .i64 0, .int .i64 0, .int .i64 0, .int .i64 0, .int .i64 0, .int .i64 0], .bool false]) Tryz.results62 ⟨(res_cell (off := 0) S rfl Tryz.isAgg54 Tryz.sizeOf54 rfl (S.cellsAt (i := 0) rfl)), (res_tmp S rfl), trivial⟩ rfl rfl
theorem tumbref2_swimmerOf_ok (w : World) (v_p_l : Value) (p_l : List GSwimmer) (hs_p_l : Slc (view w []) 3 v_p_l (p_l.map GSwimmer.enc)) (p_key : ByteArray) (r : GSwimmer × Bool) (h : tumbref2_swimmerOf p_l p_key = r) :
    Calls Tryz.prog 63 [v_p_l, .string p_key].toArray w (Ret w [] fun τ v w' => v = .tuple #[.agg (GSwimmer.enc r.1).toArray, .bool r.2]) := by
 refine f_enter [] [] Tryz.func63 rfl Tryz.ntmps63 rfl (by simp) (by simp [fps]) (by simp [fps]) fun a S => ?_
 unfold tumbref2_swimmerOf at h
 replace S := S.nk [] [(0, v_p_l), (1, .string p_key)] [] rfl ⟨rfl, rfl, trivial⟩
 refine f_seq ?_
 refine f_region ?_
 refine l_alloc S Tryz.zeroValue60 (cs := [.string k_empty, .int .i64 0, .int .i64 0]) rfl rfl ?_; clear S; intro a w1 b1 hz1 hk1 S
 refine lv S (rn_assign rfl) rfl ?_; clear S; intro a S
 refine l_done ?_
 replace S := S.nk [.blk b1 [.string k_empty, .int .i64 0, .int .i64 0] 60] [(0, v_p_l), (1, .string p_key), (4, .pointer (some ⟨b1, 0, none⟩))] [true] rfl ⟨rfl, rfl, rfl, trivial⟩
 refine then_n ?_
 refine f_seq ?_
 refine f_seq ?_
 refine f_region ?_
 refine lv S (rn_move (S.tm rfl)) rfl ?_; clear S; intro a S
 refine lv S (rn_lenT sl_28 (S.tm rfl) (slc_len hs_p_l)) rfl ?_; clear S; intro a S
 refine lv S (rn_move rfl) rfl ?_; clear S; intro a S
 refine l_done ?_
 replace S := S.nk [.blk b1 [.string k_empty, .int .i64 0, .int .i64 0] 60] [(1, .string p_key), (4, .pointer (some ⟨b1, 0, none⟩)), (8, v_p_l), (9, .int .i64 (p_l.length : Int)), (10, .int .i64 0)] [true] rfl ⟨rfl, rfl, rfl, rfl, rfl, trivial⟩
 refine then_n ?_
 obtain ⟨j1, hj1, h⟩ := joinE h
 refine f_join (fun a w' => j1 = r ∧ Sx w [] nov [.blk b1 [.string k_empty, .int .i64 0, .int .i64 0] 60] [(4, .pointer (some ⟨b1, 0, none⟩))] 21 a w') ?_ ?_
 ·refine wp_block ?_
  refine f_loop (fun (ys1 : List GSwimmer) a w' => ∃ i1 : Nat, (∃ dn, p_l = dn ++ ys1 ∧ dn.length = i1) ∧ tumbref2_swimmerOf_l1 p_key j1 ys1 i1 = r ∧ Sx w [] nov [.blk b1 [.string k_empty, .int .i64 0, .int .i64 0] 60] [(1, .string p_key), (4, .pointer (some ⟨b1, 0, none⟩)), (8, v_p_l), (9, .int .i64 (p_l.length : Int)), (10, .int .i64 (i1 : Int))] 21 a w') List.length p_l ⟨0, ⟨[], rfl, rfl⟩, h, S.nf [true] rfl ⟨rfl, rfl, rfl, rfl, rfl, trivial⟩⟩ ?_
  clear S h; rintro ys1 a w2 ⟨i1, ⟨dn, hd1, hi1⟩, h, S⟩
  cases ys1 with
  | nil =>
   rw [tumbref2_swimmerOf_l1.eq_1] at h
   refine f_seq ?_
   refine f_region ?_
   refine lv S (rn_lss (S.tm rfl) (S.tm rfl)) rfl ?_; clear S; intro a S
   refine l_done ?_
   replace S := S.nk [.blk b1 [.string k_empty, .int .i64 0, .int .i64 0] 60] [(1, .string p_key), (4, .pointer (some ⟨b1, 0, none⟩)), (8, v_p_l), (9, .int .i64 (p_l.length : Int)), (10, .int .i64 (i1 : Int)), (11, .bool (decide ((i1 : Int) < (p_l.length : Int))))] [true] rfl ⟨rfl, rfl, rfl, rfl, rfl, rfl, trivial⟩
   refine then_n ?_
   refine f_seq ?_
   refine wp_cond_false ((S.tm rfl).trans (congrArg Value.bool (rng_nil hd1 hi1))) ?_
   refine wp_exit ?_
   refine then_x ?_
   refine then_x ?_
   refine x_same ?_
   refine then_n ?_
   exact ⟨h, S.nf [true] rfl ⟨rfl, trivial⟩⟩
  | cons y1 ys1 =>
   rw [tumbref2_swimmerOf_l1.eq_2] at h
   refine f_seq ?_
   refine f_region ?_
   refine lv S (rn_lss (S.tm rfl) (S.tm rfl)) rfl ?_; clear S; intro a S
   refine l_done ?_
   replace S := S.nk [.blk b1 [.string k_empty, .int .i64 0, .int .i64 0] 60] [(1, .string p_key), (4, .pointer (some ⟨b1, 0, none⟩)), (8, v_p_l), (9, .int .i64 (p_l.length : Int)), (10, .int .i64 (i1 : Int)), (11, .bool (decide ((i1 : Int) < (p_l.length : Int))))] [true] rfl ⟨rfl, rfl, rfl, rfl, rfl, rfl, trivial⟩
   refine then_n ?_
   refine f_seq ?_
   refine wp_cond_true ((S.tm rfl).trans (congrArg Value.bool (rng_cons hd1 hi1))) ?_
   refine wp_skip ?_
   refine then_n ?_
   refine f_seq ?_
   refine wp_block ?_
   refine f_seq ?_
   refine f_region ?_
   obtain ⟨b2, o1, hm1, hr1⟩ := rn_indexT (a := a) (x := .tmp 8) (y := .tmp 10) (ty := 0) sl_28 hs_p_l (get_mid hd1 hi1) rfl (S.tm rfl) (S.tm rfl)
   refine lv S (hr1 _) rfl ?_; clear S; intro a S
   clear hr1
   refine lv S (rn_ldA Tryz.isAgg60 Tryz.sizeOf60 (off := o1) (o := 0) (part := [.string y1.Key, .int .i64 y1.Sex, .int .i64 y1.Born]) rfl rfl (S.tm rfl) (hm1.at S.emb0)) rfl ?_; clear S; intro a S
   refine l_alloc S Tryz.zeroValue60 (cs := [.string k_empty, .int .i64 0, .int .i64 0]) rfl rfl ?_; clear S; intro a w4 b3 hz2 hk2 S
   refine l_store S (S.tm rfl) (S.tm rfl) (i := 0) (off := 0) rfl Tryz.sizeOf60 (vs := [.string y1.Key, .int .i64 y1.Sex, .int .i64 y1.Born]) rfl rfl rfl rfl ?_; clear S; intro w5 hk3 S
   refine l_done ?_
   replace S := S.nk [.blk b3 [.string y1.Key, .int .i64 y1.Sex, .int .i64 y1.Born] 60, .blk b1 [.string k_empty, .int .i64 0, .int .i64 0] 60] [(1, .string p_key), (4, .pointer (some ⟨b1, 0, none⟩)), (7, .pointer (some ⟨b3, 0, none⟩)), (8, v_p_l), (9, .int .i64 (p_l.length : Int)), (10, .int .i64 (i1 : Int))] [true, true] rfl ⟨rfl, rfl, rfl, rfl, rfl, rfl, trivial⟩
   refine then_n ?_
   refine f_seq ?_
   refine f_region ?_
   refine lv S (rn_fld fa_60_0 (S.tm rfl)) rfl ?_; clear S; intro a S
   refine lv S (rn_load Tryz.isAgg9 (S.tm rfl) (S.cell (i := 0) rfl rfl)) rfl ?_; clear S; intro a S
   refine lv S (rn_move (S.tm rfl)) rfl ?_; clear S; intro a S
   refine lv S (rn_seql (S.tm rfl) (S.tm rfl)) rfl ?_; clear S; intro a S
   refine l_done ?_
   replace S := S.nk [.blk b3 [.string y1.Key, .int .i64 y1.Sex, .int .i64 y1.Born] 60, .blk b1 [.string k_empty, .int .i64 0, .int .i64 0] 60] [(1, .string p_key), (4, .pointer (some ⟨b1, 0, none⟩)), (7, .pointer (some ⟨b3, 0, none⟩)), (8, v_p_l), (9, .int .i64 (p_l.length : Int)), (10, .int .i64 (i1 : Int)), (17, .bool (decide (y1.Key = p_key)))] [true, true] rfl ⟨rfl, rfl, rfl, rfl, rfl, rfl, rfl, trivial⟩
   refine then_n ?_
   refine f_cond (S.tm rfl) (fun hb1 => ?_) (fun hb1 => ?_)
   ·replace h := iteT h hb1
    refine f_seq ?_
    refine f_region ?_
    refine lv S (rn_ldA Tryz.isAgg60 Tryz.sizeOf60 (off := 0) (o := 0) (part := [.string y1.Key, .int .i64 y1.Sex, .int .i64 y1.Born]) rfl rfl (S.tm rfl) (S.cellsAt (i := 0) rfl)) rfl ?_; clear S; intro a S
    refine l_store S (S.tm rfl) (S.tm rfl) (i := 1) (off := 0) rfl Tryz.sizeOf60 (vs := [.string y1.Key, .int .i64 y1.Sex, .int .i64 y1.Born]) rfl rfl rfl rfl ?_; clear S; intro w6 hk4 S
    refine lv S (rn_assign rfl) rfl ?_; clear S; intro a S
    refine l_done ?_
    replace S := S.nk [.blk b1 [.string y1.Key, .int .i64 y1.Sex, .int .i64 y1.Born] 60] [(4, .pointer (some ⟨b1, 0, none⟩)), (5, .bool true)] [false, true] rfl ⟨rfl, rfl, trivial⟩
    refine then_n ?_
    refine wp_ret ?_
    refine blk_r ?_
    refine then_r ?_
    refine then_r ?_
    refine blk_r ?_
    refine then_r ?_
    refine then_r ?_
    subst h
    exact f_retG S (rs := [.cell 4 60, .tmp 5]) (vs := [.agg #[.string y1.Key, .int .i64 y1.Sex, .int .i64 y1.Born], .bool true]) Tryz.results63 ⟨(res_cell (off := 0) S rfl Tryz.isAgg60 Tryz.sizeOf60 rfl (S.cellsAt (i := 0) rfl)), (res_tmp S rfl), trivial⟩ rfl rfl
   ·replace h := iteF h hb1
    refine wp_skip ?_
    refine blk_n ?_
    refine then_n ?_
    refine f_region ?_
    refine lv S (rn_add (S.tm rfl) rfl) rfl ?_; clear S; intro a S
    refine lv S (rn_move (S.tm rfl)) rfl ?_; clear S; intro a S
    refine l_done ?_
    replace S := S.nk [.blk b1 [.string k_empty, .int .i64 0, .int .i64 0] 60] [(1, .string p_key), (4, .pointer (some ⟨b1, 0, none⟩)), (8, v_p_l), (9, .int .i64 (p_l.length : Int)), (10, .int .i64 (W ((i1 : Int) + 1)))] [false, true] rfl ⟨rfl, rfl, rfl, rfl, rfl, trivial⟩
    refine then_n ?_
    exact ⟨ys1, ⟨i1 + 1, ⟨_, (hd1).trans (List.append_cons _ _ _), by simp [hi1]⟩, h, S.nf [true] rfl ⟨rfl, rfl, rfl, rfl, (congrArg (fun z => some (Value.int .i64 z)) (rng_next hd1 hi1 (slc_max hs_p_l))), trivial⟩⟩, Nat.lt_succ_self _⟩
 clear S h; rintro a w3 ⟨h, S⟩; rw [hj1] at h; clear hj1 j1
 refine then_n ?_
 refine f_seq ?_
 refine f_region ?_
 refine lv S (rn_bld bt_60 (pv := []) trivial (cs := [.string k_empty, .int .i64 0, .int .i64 0]) (by kernel_rfl)) rfl ?_; clear S; intro a S
 refine l_store S (S.tm rfl) (S.tm rfl) (i := 0) (off := 0) rfl Tryz.sizeOf60 (vs := [.string k_empty, .int .i64 0, .int .i64 0]) rfl rfl rfl rfl ?_; clear S; intro w7 hk5 S
 refine lv S (rn_assign rfl) rfl ?_; clear S; intro a S
 refine l_done ?_
 replace S := S.nk [.blk b1 [.string k_empty, .int .i64 0, .int .i64 0] 60] [(4, .pointer (some ⟨b1, 0, none⟩)), (5, .bool false)] [true] rfl ⟨rfl, rfl, trivial⟩
 refine then_n ?_
 refine wp_ret ?_
 subst h
 exact f_retG S (rs := [.cell 4 60, .tmp 5]) (vs := [.agg #[.string k_empty, .int .i64 0, .int .i64 0], .bool false]) Tryz.results63 ⟨(res_cell (off := 0) S rfl Tryz.isAgg60 Tryz.sizeOf60 rfl (S.cellsAt (i := 0) rfl)), (res_tmp S rfl), trivial⟩ rfl rfl
theorem tumbref2_pastDate_ok (w : World) (r : GDate) (h : tumbref2_pastDate = r) :
    Calls Tryz.prog 96 [].toArray w (Ret w [] fun τ v w' => v = .agg (GDate.enc r).toArray) := by
 refine f_enter [] [] Tryz.func96 rfl Tryz.ntmps96 rfl (by simp) (by simp [fps]) (by simp [fps]) fun a S => ?_
 unfold tumbref2_pastDate at h
 replace S := S.nk [] [] [] rfl trivial
 refine f_seq ?_
 refine f_region ?_
 refine l_alloc S Tryz.zeroValue89 (cs := [.int .i64 0, .int .i64 0, .int .i64 0]) rfl rfl ?_; clear S; intro a w1 b1 hz1 hk1 S
 refine l_done ?_
 replace S := S.nk [.blk b1 [.int .i64 0, .int .i64 0, .int .i64 0] 89] [(0, .pointer (some ⟨b1, 0, none⟩))] [true] rfl ⟨rfl, trivial⟩
 refine then_n ?_
 refine f_seq ?_
 refine f_region ?_
 refine lv S (rn_bld bt_89 (pv := [(0, .int .i64 1914), (1, .int .i64 6), (2, .int .i64 27)]) ⟨rfl, rfl, rfl, rfl, rfl, rfl, trivial⟩ (cs := [.int .i64 1914, .int .i64 6, .int .i64 27]) (by kernel_rfl)) rfl ?_; clear S; intro a S
 refine l_store S (S.tm rfl) (S.tm rfl) (i := 0) (off := 0) rfl Tryz.sizeOf89 (vs := [.int .i64 1914, .int .i64 6, .int .i64 27]) rfl rfl rfl rfl ?_; clear S; intro w2 hk2 S
 refine l_done ?_
 replace S := S.nk [.blk b1 [.int .i64 1914, .int .i64 6, .int .i64 27] 89] [(0, .pointer (some ⟨b1, 0, none⟩))] [true] rfl ⟨rfl, trivial⟩
 refine then_n ?_
 refine wp_ret ?_
 subst h
 exact f_retG S (rs := [.cell 0 89]) (vs := [.agg #[.int .i64 1914, .int .i64 6, .int .i64 27]]) Tryz.results96 ⟨(res_cell (off := 0) S rfl Tryz.isAgg89 Tryz.sizeOf89 rfl (S.cellsAt (i := 0) rfl)), trivial⟩ rfl rfl
theorem tumbref2_monthLong_ok (w : World) (p_y : Int) (p_m : Int) (r : Int) (h : tumbref2_monthLong p_y p_m = some r) :
    Calls Tryz.prog 97 [.int .i64 p_y, .int .i64 p_m].toArray w (Ret w [] fun τ v w' => v = .int .i64 r) := by
 refine f_enter [] [] Tryz.func97 rfl Tryz.ntmps97 rfl (by simp) (by simp [fps]) (by simp [fps]) fun a S => ?_
 unfold tumbref2_monthLong at h
 replace S := S.nk [] [(0, .int .i64 p_y), (1, .int .i64 p_m)] [] rfl ⟨rfl, rfl, trivial⟩
 refine f_seq ?_
 refine f_region ?_
 refine lv S (rn_assign rfl) rfl ?_; clear S; intro a S
 refine l_done ?_
 replace S := S.nk [] [(0, .int .i64 p_y), (1, .int .i64 p_m)] [] rfl ⟨rfl, rfl, trivial⟩
 refine then_n ?_
 refine f_seq ?_
 refine f_seq ?_
 refine f_region ?_
 refine lv S (rn_move (S.tm rfl)) rfl ?_; clear S; intro a S
 refine lv S (rn_eql (S.tm rfl) rfl) rfl ?_; clear S; intro a S
 refine lv S (rn_move (S.tm rfl)) rfl ?_; clear S; intro a S
 refine f_cutm 14 (fun a w' => Keep [] w w' ∧ Sx w [] nov [] [(1, .int .i64 p_m), (21, .bool ((decide (p_m = 2)) && (((decide ((Int.tmod p_y 4) = 0)) && (!decide ((Int.tmod p_y 100) = 0))) || (decide ((Int.tmod p_y 400) = 0)))))] 27 a w') ?_ ?_
 ·rcases Bool.eq_false_or_eq_true (decide (p_m = 2)) with hb1 | hb1
  ·refine l_want S rfl rfl rfl hb1 ?_
   refine lv S (rn_move (S.tm rfl)) rfl ?_; clear S; intro a S
   refine l_want S rfl rfl rfl hb1 ?_
   refine lv S (rn_rem (S.tm rfl) rfl (by decide)) rfl ?_; clear S; intro a S
   refine l_want S rfl rfl rfl hb1 ?_
   refine lv S (rn_eql (S.tm rfl) rfl) rfl ?_; clear S; intro a S
   refine l_want S rfl rfl rfl hb1 ?_
   refine lv S (rn_move (S.tm rfl)) rfl ?_; clear S; intro a S
   refine f_cutm 4 (fun a w' => Keep [] w w' ∧ Sx w [] nov [] [(0, .int .i64 p_y), (1, .int .i64 p_m), (7, .bool (decide (p_m = 2))), (15, .bool ((decide ((Int.tmod p_y 4) = 0)) && (!decide ((Int.tmod p_y 100) = 0))))] 27 a w') ?_ ?_
   ·rcases Bool.eq_false_or_eq_true (decide ((Int.tmod p_y 4) = 0)) with hb2 | hb2
    ·refine l_want S rfl rfl rfl hb2 ?_
     refine lv S (rn_move (S.tm rfl)) rfl ?_; clear S; intro a S
     refine l_want S rfl rfl rfl hb2 ?_
     refine lv S (rn_rem (S.tm rfl) rfl (by decide)) rfl ?_; clear S; intro a S
     refine l_want S rfl rfl rfl hb2 ?_
     refine lv S (rn_neq (S.tm rfl) rfl) rfl ?_; clear S; intro a S
     refine l_want S rfl rfl rfl hb1 ?_
     refine lv S (rn_and_t hb2 (S.tm rfl) (S.tm rfl)) rfl ?_; clear S; intro a S
     refine l_done ?_
     refine then_n ?_
     exact ⟨Keep.refl _ _, S.nf [] rfl ⟨rfl, rfl, rfl, rfl, trivial⟩⟩
    ·refine l_skip S rfl rfl rfl (neq_f hb2) rfl ?_ rfl; clear S; intro a S
     refine l_skip S rfl rfl rfl (neq_f hb2) rfl ?_ rfl; clear S; intro a S
     refine l_skip S rfl rfl rfl (neq_f hb2) rfl ?_ rfl; clear S; intro a S
     refine l_want S rfl rfl rfl hb1 ?_
     refine lv S (rn_and_f (!decide ((Int.tmod p_y 100) = 0)) hb2 (S.tm rfl) rfl) rfl ?_; clear S; intro a S
     refine l_done ?_
     refine then_n ?_
     exact ⟨Keep.refl _ _, S.nf [] rfl ⟨rfl, rfl, rfl, rfl, trivial⟩⟩
   clear S; rintro a w2 ⟨hk1, S⟩
   refine l_want S rfl rfl rfl hb1 ?_
   refine lv S (rn_move (S.tm rfl)) rfl ?_; clear S; intro a S
   refine f_cutm 4 (fun a w' => Keep [] w2 w' ∧ Sx w [] nov [] [(1, .int .i64 p_m), (7, .bool (decide (p_m = 2))), (20, .bool (((decide ((Int.tmod p_y 4) = 0)) && (!decide ((Int.tmod p_y 100) = 0))) || (decide ((Int.tmod p_y 400) = 0))))] 27 a w') ?_ ?_
   ·rcases Bool.eq_false_or_eq_true ((decide ((Int.tmod p_y 4) = 0)) && (!decide ((Int.tmod p_y 100) = 0))) with hb3 | hb3
    ·refine l_skip S rfl rfl rfl (neq_t hb3) rfl ?_ rfl; clear S; intro a S
     refine l_skip S rfl rfl rfl (neq_t hb3) rfl ?_ rfl; clear S; intro a S
     refine l_skip S rfl rfl rfl (neq_t hb3) rfl ?_ rfl; clear S; intro a S
     refine l_want S rfl rfl rfl hb1 ?_
     refine lv S (rn_or_t (decide ((Int.tmod p_y 400) = 0)) hb3 (S.tm rfl) rfl) rfl ?_; clear S; intro a S
     refine l_done ?_
     refine then_n ?_
     exact ⟨Keep.refl _ _, S.nf [] rfl ⟨rfl, rfl, rfl, trivial⟩⟩
    ·refine l_want S rfl rfl rfl hb3 ?_
     refine lv S (rn_move (S.tm rfl)) rfl ?_; clear S; intro a S
     refine l_want S rfl rfl rfl hb3 ?_
     refine lv S (rn_rem (S.tm rfl) rfl (by decide)) rfl ?_; clear S; intro a S
     refine l_want S rfl rfl rfl hb3 ?_
     refine lv S (rn_eql (S.tm rfl) rfl) rfl ?_; clear S; intro a S
     refine l_want S rfl rfl rfl hb1 ?_
     refine lv S (rn_or_f hb3 (S.tm rfl) (S.tm rfl)) rfl ?_; clear S; intro a S
     refine l_done ?_
     refine then_n ?_
     exact ⟨Keep.refl _ _, S.nf [] rfl ⟨rfl, rfl, rfl, trivial⟩⟩
   clear S; rintro a w3 ⟨hk2, S⟩
   refine lv S (rn_and_t hb1 (S.tm rfl) (S.tm rfl)) rfl ?_; clear S; intro a S
   refine l_done ?_
   refine then_n ?_
   exact ⟨(hk1).trans hk2, S.nf [] rfl ⟨rfl, rfl, trivial⟩⟩
  ·refine l_skip S rfl rfl rfl (neq_f hb1) rfl ?_ rfl; clear S; intro a S
   refine l_skip S rfl rfl rfl (neq_f hb1) rfl ?_ rfl; clear S; intro a S
   refine l_skip S rfl rfl rfl (neq_f hb1) rfl ?_ rfl; clear S; intro a S
   refine l_skip S rfl rfl rfl (neq_f hb1) rfl ?_ rfl; clear S; intro a S
   refine l_skipU S rfl rfl rfl rfl ?_; clear S; intro a S
   refine l_skipU S rfl rfl rfl rfl ?_; clear S; intro a S
   refine l_skipU S rfl rfl rfl rfl ?_; clear S; intro a S
   refine l_skip S rfl rfl rfl (neq_f hb1) rfl ?_ rfl; clear S; intro a S
   refine l_skip S rfl rfl rfl (neq_f hb1) rfl ?_ rfl; clear S; intro a S
   refine l_skipU S rfl rfl rfl rfl ?_; clear S; intro a S
   refine l_skipU S rfl rfl rfl rfl ?_; clear S; intro a S
   refine l_skipU S rfl rfl rfl rfl ?_; clear S; intro a S
   refine l_skip S rfl rfl rfl (neq_f hb1) rfl ?_ rfl; clear S; intro a S
   refine lv S (rn_and_f (((decide ((Int.tmod p_y 4) = 0)) && (!decide ((Int.tmod p_y 100) = 0))) || (decide ((Int.tmod p_y 400) = 0))) hb1 (S.tm rfl) rfl) rfl ?_; clear S; intro a S
   refine l_done ?_
   refine then_n ?_
   exact ⟨Keep.refl _ _, S.nf [] rfl ⟨rfl, rfl, trivial⟩⟩
 clear S; rintro a w1 ⟨hk3, S⟩
 refine l_done ?_
 replace S := S.nk [] [(1, .int .i64 p_m), (21, .bool ((decide (p_m = 2)) && (((decide ((Int.tmod p_y 4) = 0)) && (!decide ((Int.tmod p_y 100) = 0))) || (decide ((Int.tmod p_y 400) = 0)))))] [] rfl ⟨rfl, rfl, trivial⟩
 refine then_n ?_
 refine f_cond (S.tm rfl) (fun hb4 => ?_) (fun hb4 => ?_)
 ·replace h := iteT h hb4
  refine f_seq ?_
  refine f_region ?_
  refine lv S (rn_assign rfl) rfl ?_; clear S; intro a S
  refine l_done ?_
  replace S := S.nk [] [(4, .int .i64 29)] [] rfl ⟨rfl, trivial⟩
  refine then_n ?_
  refine wp_ret ?_
  refine then_r ?_
  obtain rfl := Option.some.inj h
  exact f_ret S Tryz.results97 rfl rfl
 ·replace h := iteF h hb4
  refine wp_skip ?_
  refine then_n ?_
  refine f_seq ?_
  refine f_region ?_
  refine l_buildSlice S Tryz.underlying22 Tryz.sizeOf3 Tryz.zeroValue3 rfl rfl (pv := [(0, .int .i64 31), (1, .int .i64 28), (2, .int .i64 31), (3, .int .i64 30), (4, .int .i64 31), (5, .int .i64 30), (6, .int .i64 31), (7, .int .i64 31), (8, .int .i64 30), (9, .int .i64 31), (10, .int .i64 30), (11, .int .i64 31)]) ⟨rfl, rfl, rfl, rfl, rfl, rfl, rfl, rfl, rfl, rfl, rfl, rfl, rfl, rfl, rfl, rfl, rfl, rfl, rfl, rfl, rfl, rfl, rfl, rfl, trivial⟩ (cs := [.int .i64 31, .int .i64 28, .int .i64 31, .int .i64 30, .int .i64 31, .int .i64 30, .int .i64 31, .int .i64 31, .int .i64 30, .int .i64 31, .int .i64 30, .int .i64 31]) (by kernel_rfl) rfl ?_; clear S; intro a w4 b1 hz1 hk4 S
  refine lv S (rn_move (S.tm rfl)) rfl ?_; clear S; intro a S
  refine lv S (rn_sub (S.tm rfl) rfl) rfl ?_; clear S; intro a S
  obtain ⟨hc1, h⟩ := chkE h
  obtain ⟨b2, o1, hm1, hr1⟩ := rn_indexT (a := a) (x := .tmp 22) (y := .tmp 24) (ty := 0) sl_22 (lit_slcT enc_int S (i := 0) rfl rfl rfl rfl ((ne_nil (e' := .blk b1 [.int .i64 31, .int .i64 28, .int .i64 31, .int .i64 30, .int .i64 31, .int .i64 30, .int .i64 31, .int .i64 31, .int .i64 30, .int .i64 31, .int .i64 30, .int .i64 31] 3)) _ rfl)) (inB_get hc1).1 (inB_get hc1).2 (S.tm rfl) (S.tm rfl)
  refine lv S (hr1 _) rfl ?_; clear S; intro a S
  clear hr1
  refine lv S (rn_ld Tryz.isAgg3 (off := o1) (o := 0) (S.tm rfl) hm1.now rfl) rfl ?_; clear S; intro a S
  refine lv S (rn_assign (S.tm rfl)) rfl ?_; clear S; intro a S
  refine l_done ?_
  replace S := S.nk [] [(4, .int .i64 (nth [31, 28, 31, 30, 31, 30, 31, 31, 30, 31, 30, 31] (W (p_m - 1))))] [false] rfl ⟨rfl, trivial⟩
  refine then_n ?_
  refine wp_ret ?_
  obtain rfl := Option.some.inj h
  exact f_ret S Tryz.results97 rfl rfl
set_option maxRecDepth 20000 in
theorem tumbref2_next_ok (w : World) (p_d : GDate) (r : GDate) (h : tumbref2_next p_d = some r) :
    Calls Tryz.prog 98 [.agg (GDate.enc p_d).toArray].toArray w (Ret w [] fun τ v w' => v = .agg (GDate.enc r).toArray) := by
 refine f_enter [] [] Tryz.func98 rfl Tryz.ntmps98 rfl (by simp) (by simp [fps]) (by simp [fps]) fun a S => ?_
 unfold tumbref2_next at h
 replace S := S.nk [] [(0, .agg (GDate.enc p_d).toArray)] [] rfl ⟨rfl, trivial⟩
 refine f_seq ?_
 refine f_region ?_
 refine l_box S (S.tm rfl) (cs := [.int .i64 p_d.Year, .int .i64 p_d.Month, .int .i64 p_d.Day]) rfl rfl ?_; clear S; intro a w1 b1 hz1 hk1 S
 refine l_alloc S Tryz.zeroValue89 (cs := [.int .i64 0, .int .i64 0, .int .i64 0]) rfl rfl ?_; clear S; intro a w2 b2 hz2 hk2 S
 refine l_done ?_
 replace S := S.nk [.blk b2 [.int .i64 0, .int .i64 0, .int .i64 0] 89, .blk b1 [.int .i64 p_d.Year, .int .i64 p_d.Month, .int .i64 p_d.Day] 89] [(1, .pointer (some ⟨b1, 0, none⟩)), (2, .pointer (some ⟨b2, 0, none⟩))] [true, true] rfl ⟨rfl, rfl, trivial⟩
 refine then_n ?_
 refine f_seq ?_
 refine f_seq ?_
 refine f_region ?_
 refine lv S (rn_fld fa_89_2 (S.tm rfl)) rfl ?_; clear S; intro a S
 refine lv S (rn_load Tryz.isAgg3 (S.tm rfl) (S.cell (i := 1) rfl rfl)) rfl ?_; clear S; intro a S
 refine lv S (rn_add (S.tm rfl) rfl) rfl ?_; clear S; intro a S
 refine lv S (rn_fld fa_89_2 (S.tm rfl)) rfl ?_; clear S; intro a S
 refine l_store S (S.tm rfl) (S.tm rfl) (i := 1) (off := 2) rfl Tryz.sizeOf3 (vs := [.int .i64 (W (p_d.Day + 1))]) rfl rfl rfl rfl ?_; clear S; intro w3 hk3 S
 refine l_done ?_
 replace S := S.nk [.blk b2 [.int .i64 0, .int .i64 0, .int .i64 0] 89, .blk b1 [.int .i64 p_d.Year, .int .i64 p_d.Month, .int .i64 (W (p_d.Day + 1))] 89] [(1, .pointer (some ⟨b1, 0, none⟩)), (2, .pointer (some ⟨b2, 0, none⟩))] [true, true] rfl ⟨rfl, rfl, trivial⟩
 refine then_n ?_
 refine f_seq ?_
 obtain ⟨r1, hr1, h⟩ := bindE h
 refine d_region [] ([]) Tryz.mixed S rfl (by kernel_rfl) ?_; clear S; intro w5 hk5 hsel S
 refine d_quiet 0 S hsel rfl rfl rfl (by kernel_rfl) (by kernel_rfl) rfl (fun _ hw => (rn_fld fa_89_2 (S.tm rfl))) ?_; clear S; intro a S
 refine d_quiet 1 S hsel rfl rfl rfl (by kernel_rfl) (by kernel_rfl) rfl (fun _ hw => (rn_ld Tryz.isAgg3 (off := 0) (o := 2) (S.tm rfl) ((S.blk_mem (i := 1) (cells := [.int .i64 p_d.Year, .int .i64 p_d.Month, .int .i64 (W (p_d.Day + 1))]) (b := b1) (T := 89) rfl (ne_nil (e' := .blk b1 [.int .i64 p_d.Year, .int .i64 p_d.Month, .int .i64 (W (p_d.Day + 1))] 89))).kept hw) rfl)) ?_; clear S; intro a S
 refine d_quiet 2 S hsel rfl rfl rfl (by kernel_rfl) (by kernel_rfl) rfl (fun _ hw => (rn_fld fa_89_0 (S.tm rfl))) ?_; clear S; intro a S
 refine d_quiet 3 S hsel rfl rfl rfl (by kernel_rfl) (by kernel_rfl) rfl (fun _ hw => (rn_ld Tryz.isAgg3 (off := 0) (o := 0) (S.tm rfl) ((S.blk_mem (i := 1) (cells := [.int .i64 p_d.Year, .int .i64 p_d.Month, .int .i64 (W (p_d.Day + 1))]) (b := b1) (T := 89) rfl (ne_nil (e' := .blk b1 [.int .i64 p_d.Year, .int .i64 p_d.Month, .int .i64 (W (p_d.Day + 1))] 89))).kept hw) rfl)) ?_; clear S; intro a S
 refine d_quiet 4 S hsel rfl rfl rfl (by kernel_rfl) (by kernel_rfl) rfl (fun _ hw => (rn_fld fa_89_1 (S.tm rfl))) ?_; clear S; intro a S
 refine d_quiet 5 S hsel rfl rfl rfl (by kernel_rfl) (by kernel_rfl) rfl (fun _ hw => (rn_ld Tryz.isAgg3 (off := 0) (o := 1) (S.tm rfl) ((S.blk_mem (i := 1) (cells := [.int .i64 p_d.Year, .int .i64 p_d.Month, .int .i64 (W (p_d.Day + 1))]) (b := b1) (T := 89) rfl (ne_nil (e' := .blk b1 [.int .i64 p_d.Year, .int .i64 p_d.Month, .int .i64 (W (p_d.Day + 1))] 89))).kept hw) rfl)) ?_; clear S; intro a S
 refine d_loud1 6 (by kernel_rfl) rfl ?_
 refine l_enter S (fun _ => run_call (vs := [.int .i64 p_d.Year, .int .i64 p_d.Month]) ⟨(S.tm rfl), (S.tm rfl), trivial⟩ Tryz.call97) (tumbref2_monthLong_ok _ p_d.Year p_d.Month _ hr1) rfl ?_; clear S; intro v2 a w6 hv2 hk6 hn2 S
 subst hv2
 refine l_done ?_
 refine d_next hk6 ?_
 refine d_rest [7] hsel (by kernel_rfl) rfl ?_
 clear hsel
 refine s_lv S rfl (rn_gtr (S.tm rfl) (S.tm rfl)) rfl ?_; clear S; intro a S
 refine s_done ?_
 replace S := S.nk [.blk b2 [.int .i64 0, .int .i64 0, .int .i64 0] 89, .blk b1 [.int .i64 p_d.Year, .int .i64 p_d.Month, .int .i64 (W (p_d.Day + 1))] 89] [(1, .pointer (some ⟨b1, 0, none⟩)), (2, .pointer (some ⟨b2, 0, none⟩)), (14, .bool (decide (r1 < (W (p_d.Day + 1)))))] [true, true] rfl ⟨rfl, rfl, rfl, trivial⟩
 refine then_n ?_
 obtain ⟨j1, hj1, h⟩ := joinE h
 refine f_join (fun a w' => ∃ x1 : Int, ∃ x2 : Int, ∃ x3 : Int, j1 x1 x2 x3 = some r ∧ Sx w [] nov [.blk b2 [.int .i64 0, .int .i64 0, .int .i64 0] 89, .blk b1 [.int .i64 x1, .int .i64 x2, .int .i64 x3] 89] [(1, .pointer (some ⟨b1, 0, none⟩)), (2, .pointer (some ⟨b2, 0, none⟩))] 29 a w') ?_ ?_
 ·refine f_cond (S.tm rfl) (fun hb1 => ?_) (fun hb1 => ?_)
  ·replace h := iteT h hb1
   refine f_seq ?_
   refine f_region ?_
   refine lv S (rn_fld fa_89_2 (S.tm rfl)) rfl ?_; clear S; intro a S
   refine l_store S (S.tm rfl) rfl (i := 1) (off := 2) rfl Tryz.sizeOf3 (vs := [.int .i64 1]) rfl rfl rfl rfl ?_; clear S; intro w8 hk7 S
   refine l_done ?_
   replace S := S.nk [.blk b2 [.int .i64 0, .int .i64 0, .int .i64 0] 89, .blk b1 [.int .i64 p_d.Year, .int .i64 p_d.Month, .int .i64 1] 89] [(1, .pointer (some ⟨b1, 0, none⟩)), (2, .pointer (some ⟨b2, 0, none⟩))] [true, true] rfl ⟨rfl, rfl, trivial⟩
   refine then_n ?_
   refine f_seq ?_
   refine f_region ?_
   refine lv S (rn_fld fa_89_1 (S.tm rfl)) rfl ?_; clear S; intro a S
   refine lv S (rn_load Tryz.isAgg3 (S.tm rfl) (S.cell (i := 1) rfl rfl)) rfl ?_; clear S; intro a S
   refine lv S (rn_add (S.tm rfl) rfl) rfl ?_; clear S; intro a S
   refine lv S (rn_fld fa_89_1 (S.tm rfl)) rfl ?_; clear S; intro a S
   refine l_store S (S.tm rfl) (S.tm rfl) (i := 1) (off := 1) rfl Tryz.sizeOf3 (vs := [.int .i64 (W (p_d.Month + 1))]) rfl rfl rfl rfl ?_; clear S; intro w9 hk8 S
   refine l_done ?_
   replace S := S.nk [.blk b2 [.int .i64 0, .int .i64 0, .int .i64 0] 89, .blk b1 [.int .i64 p_d.Year, .int .i64 (W (p_d.Month + 1)), .int .i64 1] 89] [(1, .pointer (some ⟨b1, 0, none⟩)), (2, .pointer (some ⟨b2, 0, none⟩))] [true, true] rfl ⟨rfl, rfl, trivial⟩
   refine then_n ?_
   refine f_seq ?_
   refine f_region ?_
   refine lv S (rn_fld fa_89_1 (S.tm rfl)) rfl ?_; clear S; intro a S
   refine lv S (rn_load Tryz.isAgg3 (S.tm rfl) (S.cell (i := 1) rfl rfl)) rfl ?_; clear S; intro a S
   refine lv S (rn_gtr (S.tm rfl) rfl) rfl ?_; clear S; intro a S
   refine l_done ?_
   replace S := S.nk [.blk b2 [.int .i64 0, .int .i64 0, .int .i64 0] 89, .blk b1 [.int .i64 p_d.Year, .int .i64 (W (p_d.Month + 1)), .int .i64 1] 89] [(1, .pointer (some ⟨b1, 0, none⟩)), (2, .pointer (some ⟨b2, 0, none⟩)), (22, .bool (decide (12 < (W (p_d.Month + 1)))))] [true, true] rfl ⟨rfl, rfl, rfl, trivial⟩
   refine then_n ?_
   obtain ⟨j2, hj2, h⟩ := joinE h
   refine f_join (fun a w' => ∃ x4 : Int, ∃ x5 : Int, j2 x4 x5 = some r ∧ Sx w [] nov [.blk b2 [.int .i64 0, .int .i64 0, .int .i64 0] 89, .blk b1 [.int .i64 x4, .int .i64 x5, .int .i64 1] 89] [(1, .pointer (some ⟨b1, 0, none⟩)), (2, .pointer (some ⟨b2, 0, none⟩))] 29 a w') ?_ ?_
   ·refine f_cond (S.tm rfl) (fun hb2 => ?_) (fun hb2 => ?_)
    ·replace h := iteT h hb2
     refine f_region ?_
     refine lv S (rn_fld fa_89_0 (S.tm rfl)) rfl ?_; clear S; intro a S
     refine lv S (rn_load Tryz.isAgg3 (S.tm rfl) (S.cell (i := 1) rfl rfl)) rfl ?_; clear S; intro a S
     refine lv S (rn_add (S.tm rfl) rfl) rfl ?_; clear S; intro a S
     refine lv S (rn_fld fa_89_1 (S.tm rfl)) rfl ?_; clear S; intro a S
     refine l_store S (S.tm rfl) rfl (i := 1) (off := 1) rfl Tryz.sizeOf3 (vs := [.int .i64 1]) rfl rfl rfl rfl ?_; clear S; intro w11 hk9 S
     refine lv S (rn_fld fa_89_0 (S.tm rfl)) rfl ?_; clear S; intro a S
     refine l_store S (S.tm rfl) (S.tm rfl) (i := 1) (off := 0) rfl Tryz.sizeOf3 (vs := [.int .i64 (W (p_d.Year + 1))]) rfl rfl rfl rfl ?_; clear S; intro w12 hk10 S
     refine l_done ?_
     replace S := S.nk [.blk b2 [.int .i64 0, .int .i64 0, .int .i64 0] 89, .blk b1 [.int .i64 (W (p_d.Year + 1)), .int .i64 1, .int .i64 1] 89] [(1, .pointer (some ⟨b1, 0, none⟩)), (2, .pointer (some ⟨b2, 0, none⟩))] [true, true] rfl ⟨rfl, rfl, trivial⟩
     refine then_n ?_
     exact ⟨W (p_d.Year + 1), 1, h, S.nf [true, true] rfl ⟨rfl, rfl, trivial⟩⟩
    ·replace h := iteF h hb2
     refine wp_skip ?_
     refine then_n ?_
     exact ⟨p_d.Year, W (p_d.Month + 1), h, S.nf [true, true] rfl ⟨rfl, rfl, trivial⟩⟩
   clear S h; rintro a w10 ⟨x4, x5, h, S⟩; rw [hj2] at h; clear hj2 j2
   refine then_n ?_
   exact ⟨x4, x5, 1, h, S.nf [true, true] rfl ⟨rfl, rfl, trivial⟩⟩
  ·replace h := iteF h hb1
   refine wp_skip ?_
   refine then_n ?_
   exact ⟨p_d.Year, p_d.Month, W (p_d.Day + 1), h, S.nf [true, true] rfl ⟨rfl, rfl, trivial⟩⟩
 clear S h; rintro a w7 ⟨x1, x2, x3, h, S⟩; rw [hj1] at h; clear hj1 j1
 refine then_n ?_
 refine f_seq ?_
 refine f_region ?_
 refine lv S (rn_ldA Tryz.isAgg89 Tryz.sizeOf89 (off := 0) (o := 0) (part := [.int .i64 x1, .int .i64 x2, .int .i64 x3]) rfl rfl (S.tm rfl) (S.cellsAt (i := 1) rfl)) rfl ?_; clear S; intro a S
 refine l_store S (S.tm rfl) (S.tm rfl) (i := 0) (off := 0) rfl Tryz.sizeOf89 (vs := [.int .i64 x1, .int .i64 x2, .int .i64 x3]) rfl rfl rfl rfl ?_; clear S; intro w13 hk11 S
 refine l_done ?_
 replace S := S.nk [.blk b2 [.int .i64 x1, .int .i64 x2, .int .i64 x3] 89] [(2, .pointer (some ⟨b2, 0, none⟩))] [true, false] rfl ⟨rfl, trivial⟩
 refine then_n ?_
 refine wp_ret ?_
 obtain rfl := Option.some.inj h
 exact f_retG S (rs := [.cell 2 89]) (vs := [.agg #[.int .i64 x1, .int .i64 x2, .int .i64 x3]]) Tryz.results98 ⟨(res_cell (off := 0) S rfl Tryz.isAgg89 Tryz.sizeOf89 rfl (S.cellsAt (i := 0) rfl)), trivial⟩ rfl rfl
set_option maxRecDepth 20000 in
theorem tumbref2_DateFor_ok (w : World) (p_day : Int) (r : GDate) (h : tumbref2_DateFor p_day = some r) :
    Calls Tryz.prog 89 [.int .i64 p_day].toArray w (Ret w [] fun τ v w' => v = .agg (GDate.enc r).toArray) := by
 refine f_enter [] [] Tryz.func89 rfl Tryz.ntmps89 rfl (by simp) (by simp [fps]) (by simp [fps]) fun a S => ?_
 unfold tumbref2_DateFor at h
 replace S := S.nk [] [(0, .int .i64 p_day)] [] rfl ⟨rfl, trivial⟩
 refine f_seq ?_
 refine f_region ?_
 refine l_alloc S Tryz.zeroValue89 (cs := [.int .i64 0, .int .i64 0, .int .i64 0]) rfl rfl ?_; clear S; intro a w1 b1 hz1 hk1 S
 refine l_done ?_
 replace S := S.nk [.blk b1 [.int .i64 0, .int .i64 0, .int .i64 0] 89] [(0, .int .i64 p_day), (2, .pointer (some ⟨b1, 0, none⟩))] [true] rfl ⟨rfl, rfl, trivial⟩
 refine then_n ?_
 refine f_seq ?_
 refine f_region ?_
 refine l_enter S (fun _ => run_call (vs := []) trivial Tryz.call96) (tumbref2_pastDate_ok _ _ rfl) rfl ?_; clear S; intro v1 a w2 hv1 hk2 hn1 S
 subst hv1
 refine l_alloc S Tryz.zeroValue89 (cs := [.int .i64 0, .int .i64 0, .int .i64 0]) rfl rfl ?_; clear S; intro a w3 b2 hz2 hk3 S
 refine l_store S (S.tm rfl) (S.tm rfl) (i := 0) (off := 0) rfl Tryz.sizeOf89 (vs := [.int .i64 tumbref2_pastDate.Year, .int .i64 tumbref2_pastDate.Month, .int .i64 tumbref2_pastDate.Day]) rfl rfl rfl rfl ?_; clear S; intro w4 hk4 S
 refine lv S (rn_assign rfl) rfl ?_; clear S; intro a S
 refine l_done ?_
 replace S := S.nk [.blk b2 [.int .i64 tumbref2_pastDate.Year, .int .i64 tumbref2_pastDate.Month, .int .i64 tumbref2_pastDate.Day] 89, .blk b1 [.int .i64 0, .int .i64 0, .int .i64 0] 89] [(0, .int .i64 p_day), (2, .pointer (some ⟨b1, 0, none⟩)), (3, .pointer (some ⟨b2, 0, none⟩)), (4, .int .i64 (-40000))] [true, true] rfl ⟨rfl, rfl, rfl, rfl, trivial⟩
 refine then_n ?_
 refine f_seq ?_
 obtain ⟨j1, hj1, h⟩ := joinE h
 refine f_join (fun a w' => ∃ x1 : Int, ∃ x2 : Int, ∃ x3 : Int, j1 x1 x2 x3 = some r ∧ Sx w [] nov [.blk b2 [.int .i64 x1, .int .i64 x2, .int .i64 x3] 89, .blk b1 [.int .i64 0, .int .i64 0, .int .i64 0] 89] [(2, .pointer (some ⟨b1, 0, none⟩)), (3, .pointer (some ⟨b2, 0, none⟩))] 46 a w') ?_ ?_
 ·refine wp_block ?_
  refine f_loop (fun (m1 : Nat) a w' => ∃ x1 : Int, ∃ x2 : Int, ∃ x3 : Int, ∃ x4 : Int, tumbref2_DateFor_l1 p_day j1 m1 x1 x2 x3 x4 = some r ∧ Sx w [] nov [.blk b2 [.int .i64 x1, .int .i64 x2, .int .i64 x3] 89, .blk b1 [.int .i64 0, .int .i64 0, .int .i64 0] 89] [(0, .int .i64 p_day), (2, .pointer (some ⟨b1, 0, none⟩)), (3, .pointer (some ⟨b2, 0, none⟩)), (4, .int .i64 x4)] 46 a w') id ((p_day - (-40000)).toNat + 2) ⟨tumbref2_pastDate.Year, tumbref2_pastDate.Month, tumbref2_pastDate.Day, (-40000), h, S.nf [true, true] rfl ⟨rfl, rfl, rfl, rfl, trivial⟩⟩ ?_
  clear S h; rintro m1 a w5 ⟨x1, x2, x3, x4, h, S⟩
  cases m1 with
  | zero => rw [tumbref2_DateFor_l1.eq_1] at h; cases h
  | succ m1 =>
   rw [tumbref2_DateFor_l1.eq_2] at h
   refine f_seq ?_
   refine f_seq ?_
   refine f_region ?_
   refine lv S (rn_move (S.tm rfl)) rfl ?_; clear S; intro a S
   refine lv S (rn_move (S.tm rfl)) rfl ?_; clear S; intro a S
   refine lv S (rn_lss (S.tm rfl) (S.tm rfl)) rfl ?_; clear S; intro a S
   refine l_done ?_
   replace S := S.nk [.blk b2 [.int .i64 x1, .int .i64 x2, .int .i64 x3] 89, .blk b1 [.int .i64 0, .int .i64 0, .int .i64 0] 89] [(0, .int .i64 p_day), (2, .pointer (some ⟨b1, 0, none⟩)), (3, .pointer (some ⟨b2, 0, none⟩)), (4, .int .i64 x4), (9, .bool (decide (x4 < p_day)))] [true, true] rfl ⟨rfl, rfl, rfl, rfl, rfl, trivial⟩
   refine then_n ?_
   refine f_cond (S.tm rfl) (fun hb1 => ?_) (fun hb1 => ?_)
   ·replace h := iteT h hb1
    refine wp_skip ?_
    refine then_n ?_
    refine wp_block ?_
    refine f_seq ?_
    refine f_seq ?_
    obtain ⟨r1, hr1, h⟩ := bindE h
    refine d_region [] ([]) Tryz.mixed S rfl (by kernel_rfl) ?_; clear S; intro w8 hk6 hsel S
    refine d_quiet 0 S hsel rfl rfl rfl (by kernel_rfl) (by kernel_rfl) rfl (fun _ hw => (rn_fld fa_89_0 (S.tm rfl))) ?_; clear S; intro a S
    refine d_quiet 1 S hsel rfl rfl rfl (by kernel_rfl) (by kernel_rfl) rfl (fun _ hw => (rn_ld Tryz.isAgg3 (off := 0) (o := 0) (S.tm rfl) ((S.blk_mem (i := 0) (cells := [.int .i64 x1, .int .i64 x2, .int .i64 x3]) (b := b2) (T := 89) rfl (ne_nil (e' := .blk b2 [.int .i64 x1, .int .i64 x2, .int .i64 x3] 89))).kept hw) rfl)) ?_; clear S; intro a S
    refine d_quiet 2 S hsel rfl rfl rfl (by kernel_rfl) (by kernel_rfl) rfl (fun _ hw => (rn_fld fa_89_1 (S.tm rfl))) ?_; clear S; intro a S
    refine d_quiet 3 S hsel rfl rfl rfl (by kernel_rfl) (by kernel_rfl) rfl (fun _ hw => (rn_ld Tryz.isAgg3 (off := 0) (o := 1) (S.tm rfl) ((S.blk_mem (i := 0) (cells := [.int .i64 x1, .int .i64 x2, .int .i64 x3]) (b := b2) (T := 89) rfl (ne_nil (e' := .blk b2 [.int .i64 x1, .int .i64 x2, .int .i64 x3] 89))).kept hw) rfl)) ?_; clear S; intro a S
    refine d_quiet 5 S hsel rfl rfl rfl (by kernel_rfl) (by kernel_rfl) rfl (fun _ hw => (rn_fld fa_89_2 (S.tm rfl))) ?_; clear S; intro a S
    refine d_quiet 6 S hsel rfl rfl rfl (by kernel_rfl) (by kernel_rfl) rfl (fun _ hw => (rn_ld Tryz.isAgg3 (off := 0) (o := 2) (S.tm rfl) ((S.blk_mem (i := 0) (cells := [.int .i64 x1, .int .i64 x2, .int .i64 x3]) (b := b2) (T := 89) rfl (ne_nil (e' := .blk b2 [.int .i64 x1, .int .i64 x2, .int .i64 x3] 89))).kept hw) rfl)) ?_; clear S; intro a S
    refine d_loud1 4 (by kernel_rfl) rfl ?_
    refine l_enter S (fun _ => run_call (vs := [.int .i64 x1, .int .i64 x2]) ⟨(S.tm rfl), (S.tm rfl), trivial⟩ Tryz.call97) (tumbref2_monthLong_ok _ x1 x2 _ hr1) rfl ?_; clear S; intro v3 a w9 hv3 hk7 hn3 S
    subst hv3
    refine l_done ?_
    refine d_next hk7 ?_
    refine d_rest [7, 8] hsel (by kernel_rfl) rfl ?_
    clear hsel
    refine s_lv S rfl (rn_sub (S.tm rfl) (S.tm rfl)) rfl ?_; clear S; intro a S
    refine s_lv S rfl (rn_assign (S.tm rfl)) rfl ?_; clear S; intro a S
    refine s_done ?_
    replace S := S.nk [.blk b2 [.int .i64 x1, .int .i64 x2, .int .i64 x3] 89, .blk b1 [.int .i64 0, .int .i64 0, .int .i64 0] 89] [(0, .int .i64 p_day), (2, .pointer (some ⟨b1, 0, none⟩)), (3, .pointer (some ⟨b2, 0, none⟩)), (4, .int .i64 x4), (5, .int .i64 (W (r1 - x3)))] [true, true] rfl ⟨rfl, rfl, rfl, rfl, rfl, trivial⟩
    refine then_n ?_
    refine f_seq ?_
    refine f_region ?_
    refine lv S (rn_move (S.tm rfl)) rfl ?_; clear S; intro a S
    refine lv S (rn_move (S.tm rfl)) rfl ?_; clear S; intro a S
    refine lv S (rn_add (S.tm rfl) (S.tm rfl)) rfl ?_; clear S; intro a S
    refine lv S (rn_add (S.tm rfl) rfl) rfl ?_; clear S; intro a S
    refine lv S (rn_move (S.tm rfl)) rfl ?_; clear S; intro a S
    refine lv S (rn_leq (S.tm rfl) (S.tm rfl)) rfl ?_; clear S; intro a S
    refine l_done ?_
    replace S := S.nk [.blk b2 [.int .i64 x1, .int .i64 x2, .int .i64 x3] 89, .blk b1 [.int .i64 0, .int .i64 0, .int .i64 0] 89] [(0, .int .i64 p_day), (2, .pointer (some ⟨b1, 0, none⟩)), (3, .pointer (some ⟨b2, 0, none⟩)), (4, .int .i64 x4), (5, .int .i64 (W (r1 - x3))), (23, .bool (decide ((W ((W (x4 + (W (r1 - x3)))) + 1)) ≤ p_day)))] [true, true] rfl ⟨rfl, rfl, rfl, rfl, rfl, rfl, trivial⟩
    refine then_n ?_
    obtain ⟨j2, hj2, h⟩ := joinE h
    refine f_join (fun a w' => ∃ x5 : Int, ∃ x6 : Int, j2 x5 x6 = some r ∧ Sx w [] nov [.blk b2 [.int .i64 x1, .int .i64 x2, .int .i64 x5] 89, .blk b1 [.int .i64 0, .int .i64 0, .int .i64 0] 89] [(0, .int .i64 p_day), (2, .pointer (some ⟨b1, 0, none⟩)), (3, .pointer (some ⟨b2, 0, none⟩)), (4, .int .i64 x6)] 46 a w') ?_ ?_
    ·refine f_cond (S.tm rfl) (fun hb2 => ?_) (fun hb2 => ?_)
     ·replace h := iteT h hb2
      refine f_seq ?_
      refine f_region ?_
      refine lv S (rn_move (S.tm rfl)) rfl ?_; clear S; intro a S
      refine lv S (rn_move (S.tm rfl)) rfl ?_; clear S; intro a S
      refine lv S (rn_add (S.tm rfl) rfl) rfl ?_; clear S; intro a S
      refine lv S (rn_add (S.tm rfl) (S.tm rfl)) rfl ?_; clear S; intro a S
      refine lv S (rn_assign (S.tm rfl)) rfl ?_; clear S; intro a S
      refine l_done ?_
      replace S := S.nk [.blk b2 [.int .i64 x1, .int .i64 x2, .int .i64 x3] 89, .blk b1 [.int .i64 0, .int .i64 0, .int .i64 0] 89] [(0, .int .i64 p_day), (2, .pointer (some ⟨b1, 0, none⟩)), (3, .pointer (some ⟨b2, 0, none⟩)), (4, .int .i64 (W (x4 + (W ((W (r1 - x3)) + 1)))))] [true, true] rfl ⟨rfl, rfl, rfl, rfl, trivial⟩
      refine then_n ?_
      refine f_region ?_
      refine lv S (rn_fld fa_89_0 (S.tm rfl)) rfl ?_; clear S; intro a S
      refine lv S (rn_load Tryz.isAgg3 (S.tm rfl) (S.cell (i := 0) rfl rfl)) rfl ?_; clear S; intro a S
      refine lv S (rn_fld fa_89_1 (S.tm rfl)) rfl ?_; clear S; intro a S
      refine lv S (rn_load Tryz.isAgg3 (S.tm rfl) (S.cell (i := 0) rfl rfl)) rfl ?_; clear S; intro a S
      obtain ⟨r2, hr2, h⟩ := bindE h
      refine l_enter S (fun _ => run_call (vs := [.int .i64 x1, .int .i64 x2]) ⟨(S.tm rfl), (S.tm rfl), trivial⟩ Tryz.call97) (tumbref2_monthLong_ok _ x1 x2 _ hr2) rfl ?_; clear S; intro v4 a w11 hv4 hk8 hn4 S
      subst hv4
      refine lv S (rn_fld fa_89_2 (S.tm rfl)) rfl ?_; clear S; intro a S
      refine l_store S (S.tm rfl) (S.tm rfl) (i := 0) (off := 2) rfl Tryz.sizeOf3 (vs := [.int .i64 r2]) rfl rfl rfl rfl ?_; clear S; intro w12 hk9 S
      refine l_done ?_
      replace S := S.nk [.blk b2 [.int .i64 x1, .int .i64 x2, .int .i64 r2] 89, .blk b1 [.int .i64 0, .int .i64 0, .int .i64 0] 89] [(0, .int .i64 p_day), (2, .pointer (some ⟨b1, 0, none⟩)), (3, .pointer (some ⟨b2, 0, none⟩)), (4, .int .i64 (W (x4 + (W ((W (r1 - x3)) + 1)))))] [true, true] rfl ⟨rfl, rfl, rfl, rfl, trivial⟩
      refine then_n ?_
      exact ⟨r2, W (x4 + (W ((W (r1 - x3)) + 1))), h, S.nf [true, true] rfl ⟨rfl, rfl, rfl, rfl, trivial⟩⟩
     ·replace h := iteF h hb2
      refine f_seq ?_
      refine f_region ?_
      refine lv S (rn_fld fa_89_2 (S.tm rfl)) rfl ?_; clear S; intro a S
      refine lv S (rn_load Tryz.isAgg3 (S.tm rfl) (S.cell (i := 0) rfl rfl)) rfl ?_; clear S; intro a S
      refine lv S (rn_move (S.tm rfl)) rfl ?_; clear S; intro a S
      refine lv S (rn_move (S.tm rfl)) rfl ?_; clear S; intro a S
      refine lv S (rn_sub (S.tm rfl) (S.tm rfl)) rfl ?_; clear S; intro a S
      refine lv S (rn_sub (S.tm rfl) rfl) rfl ?_; clear S; intro a S
      refine lv S (rn_add (S.tm rfl) (S.tm rfl)) rfl ?_; clear S; intro a S
      refine lv S (rn_fld fa_89_2 (S.tm rfl)) rfl ?_; clear S; intro a S
      refine l_store S (S.tm rfl) (S.tm rfl) (i := 0) (off := 2) rfl Tryz.sizeOf3 (vs := [.int .i64 (W (x3 + (W ((W (p_day - x4)) - 1))))]) rfl rfl rfl rfl ?_; clear S; intro w13 hk10 S
      refine l_done ?_
      replace S := S.nk [.blk b2 [.int .i64 x1, .int .i64 x2, .int .i64 (W (x3 + (W ((W (p_day - x4)) - 1))))] 89, .blk b1 [.int .i64 0, .int .i64 0, .int .i64 0] 89] [(0, .int .i64 p_day), (2, .pointer (some ⟨b1, 0, none⟩)), (3, .pointer (some ⟨b2, 0, none⟩))] [true, true] rfl ⟨rfl, rfl, rfl, trivial⟩
      refine then_n ?_
      refine f_region ?_
      refine lv S (rn_move (S.tm rfl)) rfl ?_; clear S; intro a S
      refine lv S (rn_assign (S.tm rfl)) rfl ?_; clear S; intro a S
      refine l_done ?_
      replace S := S.nk [.blk b2 [.int .i64 x1, .int .i64 x2, .int .i64 (W (x3 + (W ((W (p_day - x4)) - 1))))] 89, .blk b1 [.int .i64 0, .int .i64 0, .int .i64 0] 89] [(0, .int .i64 p_day), (2, .pointer (some ⟨b1, 0, none⟩)), (3, .pointer (some ⟨b2, 0, none⟩)), (4, .int .i64 p_day)] [true, true] rfl ⟨rfl, rfl, rfl, rfl, trivial⟩
      refine then_n ?_
      exact ⟨W (x3 + (W ((W (p_day - x4)) - 1))), p_day, h, S.nf [true, true] rfl ⟨rfl, rfl, rfl, rfl, trivial⟩⟩
    clear S h; rintro a w10 ⟨x5, x6, h, S⟩; rw [hj2] at h; clear hj2 j2
    refine then_n ?_
    refine f_region ?_
    refine lv S (rn_ldA Tryz.isAgg89 Tryz.sizeOf89 (off := 0) (o := 0) (part := [.int .i64 x1, .int .i64 x2, .int .i64 x5]) rfl rfl (S.tm rfl) (S.cellsAt (i := 0) rfl)) rfl ?_; clear S; intro a S
    obtain ⟨r3, hr3, h⟩ := bindE h
    refine l_enter S (fun _ => run_call (vs := [.agg (GDate.enc (GDate.mk x1 x2 x5)).toArray]) ⟨(S.tm rfl), trivial⟩ Tryz.call98) (tumbref2_next_ok _ (GDate.mk x1 x2 x5) _ hr3) rfl ?_; clear S; intro v5 a w14 hv5 hk11 hn5 S
    subst hv5
    refine l_store S (S.tm rfl) (S.tm rfl) (i := 0) (off := 0) rfl Tryz.sizeOf89 (vs := [.int .i64 r3.Year, .int .i64 r3.Month, .int .i64 r3.Day]) rfl rfl rfl rfl ?_; clear S; intro w15 hk12 S
    refine l_done ?_
    replace S := S.nk [.blk b2 [.int .i64 r3.Year, .int .i64 r3.Month, .int .i64 r3.Day] 89, .blk b1 [.int .i64 0, .int .i64 0, .int .i64 0] 89] [(0, .int .i64 p_day), (2, .pointer (some ⟨b1, 0, none⟩)), (3, .pointer (some ⟨b2, 0, none⟩)), (4, .int .i64 x6)] [true, true] rfl ⟨rfl, rfl, rfl, rfl, trivial⟩
    refine blk_n ?_
    refine then_n ?_
    exact ⟨m1, ⟨r3.Year, r3.Month, r3.Day, x6, h, S.nf [true, true] rfl ⟨rfl, rfl, rfl, rfl, trivial⟩⟩, Nat.lt_succ_self _⟩
   ·replace h := iteF h hb1
    refine wp_exit ?_
    refine then_x ?_
    refine then_x ?_
    refine x_same ?_
    refine then_n ?_
    exact ⟨x1, x2, x3, h, S.nf [true, true] rfl ⟨rfl, rfl, trivial⟩⟩
 clear S h; rintro a w6 ⟨x1, x2, x3, h, S⟩; rw [hj1] at h; clear hj1 j1
 refine then_n ?_
 refine f_seq ?_
 refine f_region ?_
 refine lv S (rn_ldA Tryz.isAgg89 Tryz.sizeOf89 (off := 0) (o := 0) (part := [.int .i64 x1, .int .i64 x2, .int .i64 x3]) rfl rfl (S.tm rfl) (S.cellsAt (i := 0) rfl)) rfl ?_; clear S; intro a S
 refine l_store S (S.tm rfl) (S.tm rfl) (i := 1) (off := 0) rfl Tryz.sizeOf89 (vs := [.int .i64 x1, .int .i64 x2, .int .i64 x3]) rfl rfl rfl rfl ?_; clear S; intro w16 hk13 S
 refine l_done ?_
 replace S := S.nk [.blk b1 [.int .i64 x1, .int .i64 x2, .int .i64 x3] 89] [(2, .pointer (some ⟨b1, 0, none⟩))] [false, true] rfl ⟨rfl, trivial⟩
 refine then_n ?_
 refine wp_ret ?_
 obtain rfl := Option.some.inj h
 exact f_retG S (rs := [.cell 2 89]) (vs := [.agg #[.int .i64 x1, .int .i64 x2, .int .i64 x3]]) Tryz.results89 ⟨(res_cell (off := 0) S rfl Tryz.isAgg89 Tryz.sizeOf89 rfl (S.cellsAt (i := 0) rfl)), trivial⟩ rfl rfl
theorem slices_Compare_int_ok (w : World) (v_p_s1 : Value) (p_s1 : List Int) (hs_p_s1 : Slc (view w []) 1 v_p_s1 (p_s1.map eInt)) (v_p_s2 : Value) (p_s2 : List Int) (hs_p_s2 : Slc (view w []) 1 v_p_s2 (p_s2.map eInt)) (r : Int) (h : slices_Compare_int p_s1 p_s2 = some r) :
    Calls Tryz.prog 99 [v_p_s1, v_p_s2].toArray w (Ret w [] fun τ v w' => v = .int .i64 r) := by
 refine f_enter [] [] Tryz.func99 rfl Tryz.ntmps99 rfl (by simp) (by simp [fps]) (by simp [fps]) fun a S => ?_
 unfold slices_Compare_int at h
 replace S := S.nk [] [(0, v_p_s1), (1, v_p_s2)] [] rfl ⟨rfl, rfl, trivial⟩
 refine f_seq ?_
 refine f_region ?_
 refine lv S (rn_assign rfl) rfl ?_; clear S; intro a S
 refine l_done ?_
 replace S := S.nk [] [(0, v_p_s1), (1, v_p_s2)] [] rfl ⟨rfl, rfl, trivial⟩
 refine then_n ?_
 refine f_seq ?_
 refine f_seq ?_
 refine f_region ?_
 refine lv S (rn_move (S.tm rfl)) rfl ?_; clear S; intro a S
 refine lv S (rn_lenT sl_22 (S.tm rfl) (slc_len hs_p_s1)) rfl ?_; clear S; intro a S
 refine lv S (rn_move rfl) rfl ?_; clear S; intro a S
 refine l_done ?_
 replace S := S.nk [] [(0, v_p_s1), (1, v_p_s2), (9, v_p_s1), (10, .int .i64 (p_s1.length : Int)), (11, .int .i64 0)] [] rfl ⟨rfl, rfl, rfl, rfl, rfl, trivial⟩
 refine then_n ?_
 obtain ⟨j1, hj1, h⟩ := joinE h
 refine f_join (fun a w' => j1 = some r ∧ Sx w [] nov [] [(0, v_p_s1), (1, v_p_s2)] 36 a w') ?_ ?_
 ·refine wp_block ?_
  refine f_loop (fun (ys1 : List Int) a w' => ∃ i1 : Nat, (∃ dn, p_s1 = dn ++ ys1 ∧ dn.length = i1) ∧ slices_Compare_int_l1 p_s2 j1 ys1 i1 = some r ∧ Sx w [] nov [] [(0, v_p_s1), (1, v_p_s2), (9, v_p_s1), (10, .int .i64 (p_s1.length : Int)), (11, .int .i64 (i1 : Int))] 36 a w') List.length p_s1 ⟨0, ⟨[], rfl, rfl⟩, h, S.nf [] rfl ⟨rfl, rfl, rfl, rfl, rfl, trivial⟩⟩ ?_
  clear S h; rintro ys1 a w1 ⟨i1, ⟨dn, hd1, hi1⟩, h, S⟩
  cases ys1 with
  | nil =>
   rw [slices_Compare_int_l1.eq_1] at h
   refine f_seq ?_
   refine f_region ?_
   refine lv S (rn_lss (S.tm rfl) (S.tm rfl)) rfl ?_; clear S; intro a S
   refine l_done ?_
   replace S := S.nk [] [(0, v_p_s1), (1, v_p_s2), (9, v_p_s1), (10, .int .i64 (p_s1.length : Int)), (11, .int .i64 (i1 : Int)), (12, .bool (decide ((i1 : Int) < (p_s1.length : Int))))] [] rfl ⟨rfl, rfl, rfl, rfl, rfl, rfl, trivial⟩
   refine then_n ?_
   refine f_seq ?_
   refine wp_cond_false ((S.tm rfl).trans (congrArg Value.bool (rng_nil hd1 hi1))) ?_
   refine wp_exit ?_
   refine then_x ?_
   refine then_x ?_
   refine x_same ?_
   refine then_n ?_
   exact ⟨h, S.nf [] rfl ⟨rfl, rfl, trivial⟩⟩
  | cons y1 ys1 =>
   rw [slices_Compare_int_l1.eq_2] at h
   refine f_seq ?_
   refine f_region ?_
   refine lv S (rn_lss (S.tm rfl) (S.tm rfl)) rfl ?_; clear S; intro a S
   refine l_done ?_
   replace S := S.nk [] [(0, v_p_s1), (1, v_p_s2), (9, v_p_s1), (10, .int .i64 (p_s1.length : Int)), (11, .int .i64 (i1 : Int)), (12, .bool (decide ((i1 : Int) < (p_s1.length : Int))))] [] rfl ⟨rfl, rfl, rfl, rfl, rfl, rfl, trivial⟩
   refine then_n ?_
   refine f_seq ?_
   refine wp_cond_true ((S.tm rfl).trans (congrArg Value.bool (rng_cons hd1 hi1))) ?_
   refine wp_skip ?_
   refine then_n ?_
   refine f_seq ?_
   refine wp_block ?_
   refine f_seq ?_
   refine f_region ?_
   refine lv S (rn_move (S.tm rfl)) rfl ?_; clear S; intro a S
   obtain ⟨b1, o1, hm1, hr1⟩ := rn_indexT (a := a) (x := .tmp 9) (y := .tmp 11) (ty := 0) sl_22 hs_p_s1 (get_mid hd1 hi1) rfl (S.tm rfl) (S.tm rfl)
   refine lv S (hr1 _) rfl ?_; clear S; intro a S
   clear hr1
   refine lv S (rn_ld Tryz.isAgg3 (off := o1) (o := 0) (S.tm rfl) (hm1.at S.emb0) rfl) rfl ?_; clear S; intro a S
   refine lv S (rn_assign (S.tm rfl)) rfl ?_; clear S; intro a S
   refine lv S (rn_assign (S.tm rfl)) rfl ?_; clear S; intro a S
   refine l_done ?_
   replace S := S.nk [] [(0, v_p_s1), (1, v_p_s2), (5, .int .i64 (i1 : Int)), (6, .int .i64 y1), (9, v_p_s1), (10, .int .i64 (p_s1.length : Int)), (11, .int .i64 (i1 : Int))] [] rfl ⟨rfl, rfl, rfl, rfl, rfl, rfl, rfl, trivial⟩
   refine then_n ?_
   refine f_seq ?_
   refine f_seq ?_
   refine f_region ?_
   refine lv S (rn_move (S.tm rfl)) rfl ?_; clear S; intro a S
   refine lv S (rn_move (S.tm rfl)) rfl ?_; clear S; intro a S
   refine lv S (rn_lenT sl_22 (S.tm rfl) (slc_len hs_p_s2)) rfl ?_; clear S; intro a S
   refine lv S (rn_geq (S.tm rfl) (S.tm rfl)) rfl ?_; clear S; intro a S
   refine l_done ?_
   replace S := S.nk [] [(0, v_p_s1), (1, v_p_s2), (5, .int .i64 (i1 : Int)), (6, .int .i64 y1), (9, v_p_s1), (10, .int .i64 (p_s1.length : Int)), (11, .int .i64 (i1 : Int)), (19, .bool (decide ((p_s2.length : Int) ≤ (i1 : Int))))] [] rfl ⟨rfl, rfl, rfl, rfl, rfl, rfl, rfl, rfl, trivial⟩
   refine then_n ?_
   refine f_cond (S.tm rfl) (fun hb1 => ?_) (fun hb1 => ?_)
   ·replace h := iteT h hb1
    refine f_seq ?_
    refine f_region ?_
    refine lv S (rn_assign rfl) rfl ?_; clear S; intro a S
    refine l_done ?_
    replace S := S.nk [] [(4, .int .i64 1)] [] rfl ⟨rfl, trivial⟩
    refine then_n ?_
    refine wp_ret ?_
    refine then_r ?_
    refine blk_r ?_
    refine then_r ?_
    refine then_r ?_
    refine blk_r ?_
    refine then_r ?_
    refine then_r ?_
    obtain rfl := Option.some.inj h
    exact f_ret S Tryz.results99 rfl rfl
   ·replace h := iteF h hb1
    refine wp_skip ?_
    refine then_n ?_
    refine f_seq ?_
    refine f_region ?_
    refine lv S (rn_move (S.tm rfl)) rfl ?_; clear S; intro a S
    refine lv S (rn_move (S.tm rfl)) rfl ?_; clear S; intro a S
    obtain ⟨hc1, h⟩ := chkE h
    obtain ⟨b2, o2, hm2, hr2⟩ := rn_indexT (a := a) (x := .tmp 20) (y := .tmp 21) (ty := 0) sl_22 hs_p_s2 (inB_get hc1).1 (inB_get hc1).2 (S.tm rfl) (S.tm rfl)
    refine lv S (hr2 _) rfl ?_; clear S; intro a S
    clear hr2
    refine lv S (rn_ld Tryz.isAgg3 (off := o2) (o := 0) (S.tm rfl) (hm2.at S.emb0) rfl) rfl ?_; clear S; intro a S
    refine lv S (rn_assign (S.tm rfl)) rfl ?_; clear S; intro a S
    refine l_done ?_
    replace S := S.nk [] [(0, v_p_s1), (1, v_p_s2), (6, .int .i64 y1), (7, .int .i64 (nth p_s2 (i1 : Int))), (9, v_p_s1), (10, .int .i64 (p_s1.length : Int)), (11, .int .i64 (i1 : Int))] [] rfl ⟨rfl, rfl, rfl, rfl, rfl, rfl, rfl, trivial⟩
    refine then_n ?_
    refine f_seq ?_
    refine f_region ?_
    refine lv S (rn_move (S.tm rfl)) rfl ?_; clear S; intro a S
    refine lv S (rn_move (S.tm rfl)) rfl ?_; clear S; intro a S
    refine l_enter S (fun _ => run_call (vs := [.int .i64 y1, .int .i64 (nth p_s2 (i1 : Int))]) ⟨(S.tm rfl), (S.tm rfl), trivial⟩ Tryz.call72) (cmp_Compare_int_ok _ y1 (nth p_s2 (i1 : Int)) _ rfl) rfl ?_; clear S; intro v1 a w3 hv1 hk1 hn1 S
    subst hv1
    refine lv S (rn_assign (S.tm rfl)) rfl ?_; clear S; intro a S
    refine l_done ?_
    replace S := S.nk [] [(0, v_p_s1), (1, v_p_s2), (8, .int .i64 (cmp_Compare_int y1 (nth p_s2 (i1 : Int)))), (9, v_p_s1), (10, .int .i64 (p_s1.length : Int)), (11, .int .i64 (i1 : Int))] [] rfl ⟨rfl, rfl, rfl, rfl, rfl, rfl, trivial⟩
    refine then_n ?_
    refine f_seq ?_
    refine f_region ?_
    refine lv S (rn_move (S.tm rfl)) rfl ?_; clear S; intro a S
    refine lv S (rn_neq (S.tm rfl) rfl) rfl ?_; clear S; intro a S
    refine l_done ?_
    replace S := S.nk [] [(0, v_p_s1), (1, v_p_s2), (8, .int .i64 (cmp_Compare_int y1 (nth p_s2 (i1 : Int)))), (9, v_p_s1), (10, .int .i64 (p_s1.length : Int)), (11, .int .i64 (i1 : Int)), (28, .bool (!decide ((cmp_Compare_int y1 (nth p_s2 (i1 : Int))) = 0)))] [] rfl ⟨rfl, rfl, rfl, rfl, rfl, rfl, rfl, trivial⟩
    refine then_n ?_
    refine f_cond (S.tm rfl) (fun hb2 => ?_) (fun hb2 => ?_)
    ·replace h := iteT h hb2
     refine f_seq ?_
     refine f_region ?_
     refine lv S (rn_move (S.tm rfl)) rfl ?_; clear S; intro a S
     refine lv S (rn_assign (S.tm rfl)) rfl ?_; clear S; intro a S
     refine l_done ?_
     replace S := S.nk [] [(4, .int .i64 (cmp_Compare_int y1 (nth p_s2 (i1 : Int))))] [] rfl ⟨rfl, trivial⟩
     refine then_n ?_
     refine wp_ret ?_
     refine blk_r ?_
     refine then_r ?_
     refine then_r ?_
     refine blk_r ?_
     refine then_r ?_
     refine then_r ?_
     obtain rfl := Option.some.inj h
     exact f_ret S Tryz.results99 rfl rfl
    ·replace h := iteF h hb2
     refine wp_skip ?_
     refine blk_n ?_
     refine then_n ?_
     refine f_region ?_
     refine lv S (rn_add (S.tm rfl) rfl) rfl ?_; clear S; intro a S
     refine lv S (rn_move (S.tm rfl)) rfl ?_; clear S; intro a S
     refine l_done ?_
     replace S := S.nk [] [(0, v_p_s1), (1, v_p_s2), (9, v_p_s1), (10, .int .i64 (p_s1.length : Int)), (11, .int .i64 (W ((i1 : Int) + 1)))] [] rfl ⟨rfl, rfl, rfl, rfl, rfl, trivial⟩
     refine then_n ?_
     exact ⟨ys1, ⟨i1 + 1, ⟨_, (hd1).trans (List.append_cons _ _ _), by simp [hi1]⟩, h, S.nf [] rfl ⟨rfl, rfl, rfl, rfl, (congrArg (fun z => some (Value.int .i64 z)) (rng_next hd1 hi1 (slc_max hs_p_s1))), trivial⟩⟩, Nat.lt_succ_self _⟩
 clear S h; rintro a w2 ⟨h, S⟩; rw [hj1] at h; clear hj1 j1
 refine then_n ?_
 refine f_seq ?_
 refine f_seq ?_
 refine f_region ?_
 refine lv S (rn_move (S.tm rfl)) rfl ?_; clear S; intro a S
 refine lv S (rn_lenT sl_22 (S.tm rfl) (slc_len hs_p_s1)) rfl ?_; clear S; intro a S
 refine lv S (rn_move (S.tm rfl)) rfl ?_; clear S; intro a S
 refine lv S (rn_lenT sl_22 (S.tm rfl) (slc_len hs_p_s2)) rfl ?_; clear S; intro a S
 refine lv S (rn_lss (S.tm rfl) (S.tm rfl)) rfl ?_; clear S; intro a S
 refine l_done ?_
 replace S := S.nk [] [(35, .bool (decide ((p_s1.length : Int) < (p_s2.length : Int))))] [] rfl ⟨rfl, trivial⟩
 refine then_n ?_
 refine f_cond (S.tm rfl) (fun hb3 => ?_) (fun hb3 => ?_)
 ·replace h := iteT h hb3
  refine f_seq ?_
  refine f_region ?_
  refine lv S (rn_assign rfl) rfl ?_; clear S; intro a S
  refine l_done ?_
  replace S := S.nk [] [(4, .int .i64 (-1))] [] rfl ⟨rfl, trivial⟩
  refine then_n ?_
  refine wp_ret ?_
  refine then_r ?_
  obtain rfl := Option.some.inj h
  exact f_ret S Tryz.results99 rfl rfl
 ·replace h := iteF h hb3
  refine wp_skip ?_
  refine then_n ?_
  refine f_seq ?_
  refine f_region ?_
  refine lv S (rn_assign rfl) rfl ?_; clear S; intro a S
  refine l_done ?_
  replace S := S.nk [] [(4, .int .i64 0)] [] rfl ⟨rfl, trivial⟩
  refine then_n ?_
  refine wp_ret ?_
  obtain rfl := Option.some.inj h
  exact f_ret S Tryz.results99 rfl rfl
theorem tumbref2_dateOrder_ok (w : World) (p_a : GDate) (p_b : GDate) (r : Int) (h : tumbref2_dateOrder p_a p_b = some r) :
    Calls Tryz.prog 90 [.agg (GDate.enc p_a).toArray, .agg (GDate.enc p_b).toArray].toArray w (Ret w [] fun τ v w' => v = .int .i64 r) := by
 refine f_enter [] [] Tryz.func90 rfl Tryz.ntmps90 rfl (by simp) (by simp [fps]) (by simp [fps]) fun a S => ?_
 unfold tumbref2_dateOrder at h
 replace S := S.nk [] [(0, .agg (GDate.enc p_a).toArray), (1, .agg (GDate.enc p_b).toArray)] [] rfl ⟨rfl, rfl, trivial⟩
 refine f_seq ?_
 refine f_region ?_
 refine l_box S (S.tm rfl) (cs := [.int .i64 p_a.Year, .int .i64 p_a.Month, .int .i64 p_a.Day]) rfl rfl ?_; clear S; intro a w1 b1 hz1 hk1 S
 refine l_box S (S.tm rfl) (cs := [.int .i64 p_b.Year, .int .i64 p_b.Month, .int .i64 p_b.Day]) rfl rfl ?_; clear S; intro a w2 b2 hz2 hk2 S
 refine lv S (rn_assign rfl) rfl ?_; clear S; intro a S
 refine l_done ?_
 replace S := S.nk [.blk b2 [.int .i64 p_b.Year, .int .i64 p_b.Month, .int .i64 p_b.Day] 89, .blk b1 [.int .i64 p_a.Year, .int .i64 p_a.Month, .int .i64 p_a.Day] 89] [(2, .pointer (some ⟨b1, 0, none⟩)), (3, .pointer (some ⟨b2, 0, none⟩))] [true, true] rfl ⟨rfl, rfl, trivial⟩
 refine then_n ?_
 refine f_seq ?_
 refine f_region ?_
 refine lv S (rn_fld fa_89_0 (S.tm rfl)) rfl ?_; clear S; intro a S
 refine lv S (rn_load Tryz.isAgg3 (S.tm rfl) (S.cell (i := 1) rfl rfl)) rfl ?_; clear S; intro a S
 refine lv S (rn_fld fa_89_1 (S.tm rfl)) rfl ?_; clear S; intro a S
 refine lv S (rn_load Tryz.isAgg3 (S.tm rfl) (S.cell (i := 1) rfl rfl)) rfl ?_; clear S; intro a S
 refine lv S (rn_fld fa_89_2 (S.tm rfl)) rfl ?_; clear S; intro a S
 refine lv S (rn_load Tryz.isAgg3 (S.tm rfl) (S.cell (i := 1) rfl rfl)) rfl ?_; clear S; intro a S
 refine l_buildSlice S Tryz.underlying22 Tryz.sizeOf3 Tryz.zeroValue3 rfl rfl (pv := [(0, .int .i64 p_a.Year), (1, .int .i64 p_a.Month), (2, .int .i64 p_a.Day)]) ⟨rfl, (S.tm rfl), rfl, (S.tm rfl), rfl, (S.tm rfl), trivial⟩ (cs := [.int .i64 p_a.Year, .int .i64 p_a.Month, .int .i64 p_a.Day]) (by kernel_rfl) rfl ?_; clear S; intro a w3 b3 hz3 hk3 S
 refine lv S (rn_fld fa_89_0 (S.tm rfl)) rfl ?_; clear S; intro a S
 refine lv S (rn_load Tryz.isAgg3 (S.tm rfl) (S.cell (i := 1) rfl rfl)) rfl ?_; clear S; intro a S
 refine lv S (rn_fld fa_89_1 (S.tm rfl)) rfl ?_; clear S; intro a S
 refine lv S (rn_load Tryz.isAgg3 (S.tm rfl) (S.cell (i := 1) rfl rfl)) rfl ?_; clear S; intro a S
 refine lv S (rn_fld fa_89_2 (S.tm rfl)) rfl ?_; clear S; intro a S
 refine lv S (rn_load Tryz.isAgg3 (S.tm rfl) (S.cell (i := 1) rfl rfl)) rfl ?_; clear S; intro a S
 refine l_buildSlice S Tryz.underlying22 Tryz.sizeOf3 Tryz.zeroValue3 rfl rfl (pv := [(0, .int .i64 p_b.Year), (1, .int .i64 p_b.Month), (2, .int .i64 p_b.Day)]) ⟨rfl, (S.tm rfl), rfl, (S.tm rfl), rfl, (S.tm rfl), trivial⟩ (cs := [.int .i64 p_b.Year, .int .i64 p_b.Month, .int .i64 p_b.Day]) (by kernel_rfl) rfl ?_; clear S; intro a w4 b4 hz4 hk4 S
 obtain ⟨r1, hr1, h⟩ := bindE h
 refine l_enter S (fun _ => run_call (vs := [.slice (some ⟨b3, 0, none⟩) 3 3, .slice (some ⟨b4, 0, none⟩) 3 3]) ⟨(S.tm rfl), (S.tm rfl), trivial⟩ Tryz.call99) (slices_Compare_int_ok _ (.slice (some ⟨b3, 0, none⟩) 3 3) [p_a.Year, p_a.Month, p_a.Day] (lit_slcT enc_int S (i := 1) rfl rfl rfl rfl ((ne_nil (e' := .blk b3 [.int .i64 p_a.Year, .int .i64 p_a.Month, .int .i64 p_a.Day] 3)) _ rfl)) (.slice (some ⟨b4, 0, none⟩) 3 3) [p_b.Year, p_b.Month, p_b.Day] (lit_slcT enc_int S (i := 0) rfl rfl rfl rfl ((ne_nil (e' := .blk b4 [.int .i64 p_b.Year, .int .i64 p_b.Month, .int .i64 p_b.Day] 3)) _ rfl)) _ hr1) rfl ?_; clear S; intro v1 a w5 hv1 hk5 hn1 S
 subst hv1
 refine lv S (rn_assign (S.tm rfl)) rfl ?_; clear S; intro a S
 refine l_done ?_
 replace S := S.nk [] [(4, .int .i64 r1)] [false, false, false, false] rfl ⟨rfl, trivial⟩
 refine then_n ?_
 refine wp_ret ?_
 obtain rfl := Option.some.inj h
 exact f_ret S Tryz.results90 rfl rfl
theorem tumbref2_AgeFor_ok (w : World) (p_s : GSwimmer) (p_day : Int) (p_way : Int) (r : Int) (h : tumbref2_AgeFor p_s p_day p_way = some r) :
    Calls Tryz.prog 77 [.agg (GSwimmer.enc p_s).toArray, .int .i64 p_day, .int .i64 p_way].toArray w (Ret w [] fun τ v w' => v = .int .i64 r) := by
 refine f_enter [] [] Tryz.func77 rfl Tryz.ntmps77 rfl (by simp) (by simp [fps]) (by simp [fps]) fun a S => ?_
 unfold tumbref2_AgeFor at h
 replace S := S.nk [] [(0, .agg (GSwimmer.enc p_s).toArray), (1, .int .i64 p_day), (2, .int .i64 p_way)] [] rfl ⟨rfl, rfl, rfl, trivial⟩
 refine f_seq ?_
 refine f_region ?_
 refine l_box S (S.tm rfl) (cs := [.string p_s.Key, .int .i64 p_s.Sex, .int .i64 p_s.Born]) rfl rfl ?_; clear S; intro a w1 b1 hz1 hk1 S
 refine lv S (rn_assign rfl) rfl ?_; clear S; intro a S
 refine l_done ?_
 replace S := S.nk [.blk b1 [.string p_s.Key, .int .i64 p_s.Sex, .int .i64 p_s.Born] 60] [(1, .int .i64 p_day), (2, .int .i64 p_way), (3, .pointer (some ⟨b1, 0, none⟩))] [true] rfl ⟨rfl, rfl, rfl, trivial⟩
 refine then_n ?_
 refine f_seq ?_
 refine f_region ?_
 refine lv S (rn_fld fa_60_2 (S.tm rfl)) rfl ?_; clear S; intro a S
 refine lv S (rn_load Tryz.isAgg3 (S.tm rfl) (S.cell (i := 0) rfl rfl)) rfl ?_; clear S; intro a S
 obtain ⟨r1, hr1, h⟩ := bindE h
 refine l_enter S (fun _ => run_call (vs := [.int .i64 p_s.Born]) ⟨(S.tm rfl), trivial⟩ Tryz.call89) (tumbref2_DateFor_ok _ p_s.Born _ hr1) rfl ?_; clear S; intro v1 a w2 hv1 hk2 hn1 S
 subst hv1
 refine lv S (rn_move (S.tm rfl)) rfl ?_; clear S; intro a S
 obtain ⟨r2, hr2, h⟩ := bindE h
 refine l_enter S (fun _ => run_call (vs := [.int .i64 p_day]) ⟨(S.tm rfl), trivial⟩ Tryz.call89) (tumbref2_DateFor_ok _ p_day _ hr2) rfl ?_; clear S; intro v2 a w3 hv2 hk3 hn2 S
 subst hv2
 refine l_alloc S Tryz.zeroValue89 (cs := [.int .i64 0, .int .i64 0, .int .i64 0]) rfl rfl ?_; clear S; intro a w4 b2 hz2 hk4 S
 refine l_alloc S Tryz.zeroValue89 (cs := [.int .i64 0, .int .i64 0, .int .i64 0]) rfl rfl ?_; clear S; intro a w5 b3 hz3 hk5 S
 refine l_store S (S.tm rfl) (S.tm rfl) (i := 1) (off := 0) rfl Tryz.sizeOf89 (vs := [.int .i64 r1.Year, .int .i64 r1.Month, .int .i64 r1.Day]) rfl rfl rfl rfl ?_; clear S; intro w6 hk6 S
 refine l_store S (S.tm rfl) (S.tm rfl) (i := 0) (off := 0) rfl Tryz.sizeOf89 (vs := [.int .i64 r2.Year, .int .i64 r2.Month, .int .i64 r2.Day]) rfl rfl rfl rfl ?_; clear S; intro w7 hk7 S
 refine l_done ?_
 replace S := S.nk [.blk b3 [.int .i64 r2.Year, .int .i64 r2.Month, .int .i64 r2.Day] 89, .blk b2 [.int .i64 r1.Year, .int .i64 r1.Month, .int .i64 r1.Day] 89] [(2, .int .i64 p_way), (7, .pointer (some ⟨b2, 0, none⟩)), (8, .pointer (some ⟨b3, 0, none⟩))] [true, true, false] rfl ⟨rfl, rfl, rfl, trivial⟩
 refine then_n ?_
 refine f_seq ?_
 refine f_seq ?_
 refine f_region ?_
 refine lv S (rn_move (S.tm rfl)) rfl ?_; clear S; intro a S
 refine lv S (rn_eql (S.tm rfl) rfl) rfl ?_; clear S; intro a S
 refine l_done ?_
 replace S := S.nk [.blk b3 [.int .i64 r2.Year, .int .i64 r2.Month, .int .i64 r2.Day] 89, .blk b2 [.int .i64 r1.Year, .int .i64 r1.Month, .int .i64 r1.Day] 89] [(7, .pointer (some ⟨b2, 0, none⟩)), (8, .pointer (some ⟨b3, 0, none⟩)), (17, .bool (decide (p_way = 2)))] [true, true] rfl ⟨rfl, rfl, rfl, trivial⟩
 refine then_n ?_
 refine f_cond (S.tm rfl) (fun hb1 => ?_) (fun hb1 => ?_)
 ·replace h := iteT h hb1
  refine f_seq ?_
  refine f_region ?_
  refine lv S (rn_fld fa_89_0 (S.tm rfl)) rfl ?_; clear S; intro a S
  refine lv S (rn_load Tryz.isAgg3 (S.tm rfl) (S.cell (i := 0) rfl rfl)) rfl ?_; clear S; intro a S
  refine lv S (rn_fld fa_89_0 (S.tm rfl)) rfl ?_; clear S; intro a S
  refine lv S (rn_load Tryz.isAgg3 (S.tm rfl) (S.cell (i := 1) rfl rfl)) rfl ?_; clear S; intro a S
  refine lv S (rn_sub (S.tm rfl) (S.tm rfl)) rfl ?_; clear S; intro a S
  refine lv S (rn_assign (S.tm rfl)) rfl ?_; clear S; intro a S
  refine l_done ?_
  replace S := S.nk [] [(6, .int .i64 (W (r2.Year - r1.Year)))] [false, false] rfl ⟨rfl, trivial⟩
  refine then_n ?_
  refine wp_ret ?_
  refine then_r ?_
  obtain rfl := Option.some.inj h
  exact f_ret S Tryz.results77 rfl rfl
 ·replace h := iteF h hb1
  refine wp_skip ?_
  refine then_n ?_
  refine f_seq ?_
  refine f_region ?_
  refine lv S (rn_assign rfl) rfl ?_; clear S; intro a S
  refine l_done ?_
  replace S := S.nk [.blk b3 [.int .i64 r2.Year, .int .i64 r2.Month, .int .i64 r2.Day] 89, .blk b2 [.int .i64 r1.Year, .int .i64 r1.Month, .int .i64 r1.Day] 89] [(7, .pointer (some ⟨b2, 0, none⟩)), (8, .pointer (some ⟨b3, 0, none⟩)), (9, .int .i64 0)] [true, true] rfl ⟨rfl, rfl, rfl, trivial⟩
  refine then_n ?_
  refine f_seq ?_
  refine f_seq ?_
  refine f_region ?_
  refine lv S (rn_fld fa_89_0 (S.tm rfl)) rfl ?_; clear S; intro a S
  refine lv S (rn_load Tryz.isAgg3 (S.tm rfl) (S.cell (i := 1) rfl rfl)) rfl ?_; clear S; intro a S
  refine lv S (rn_add (S.tm rfl) rfl) rfl ?_; clear S; intro a S
  refine lv S (rn_assign (S.tm rfl)) rfl ?_; clear S; intro a S
  refine l_done ?_
  replace S := S.nk [.blk b3 [.int .i64 r2.Year, .int .i64 r2.Month, .int .i64 r2.Day] 89, .blk b2 [.int .i64 r1.Year, .int .i64 r1.Month, .int .i64 r1.Day] 89] [(7, .pointer (some ⟨b2, 0, none⟩)), (8, .pointer (some ⟨b3, 0, none⟩)), (9, .int .i64 0), (10, .int .i64 (W (r1.Year + 1)))] [true, true] rfl ⟨rfl, rfl, rfl, rfl, trivial⟩
  refine then_n ?_
  obtain ⟨j1, hj1, h⟩ := joinE h
  refine f_join (fun a w' => ∃ x1 : Int, j1 x1 = some r ∧ Sx w [] nov [.blk b3 [.int .i64 r2.Year, .int .i64 r2.Month, .int .i64 r2.Day] 89, .blk b2 [.int .i64 r1.Year, .int .i64 r1.Month, .int .i64 r1.Day] 89] [(9, .int .i64 x1)] 40 a w') ?_ ?_
  ·refine wp_block ?_
   refine f_loop (fun (m1 : Nat) a w' => ∃ x1 : Int, ∃ x2 : Int, tumbref2_AgeFor_l1 r1 r2 j1 m1 x1 x2 = some r ∧ Sx w [] nov [.blk b3 [.int .i64 r2.Year, .int .i64 r2.Month, .int .i64 r2.Day] 89, .blk b2 [.int .i64 r1.Year, .int .i64 r1.Month, .int .i64 r1.Day] 89] [(7, .pointer (some ⟨b2, 0, none⟩)), (8, .pointer (some ⟨b3, 0, none⟩)), (9, .int .i64 x1), (10, .int .i64 x2)] 40 a w') id 4611686018427387904 ⟨0, W (r1.Year + 1), h, S.nf [true, true] rfl ⟨rfl, rfl, rfl, rfl, trivial⟩⟩ ?_
   clear S h; rintro m1 a w8 ⟨x1, x2, h, S⟩
   cases m1 with
   | zero => rw [tumbref2_AgeFor_l1.eq_1] at h; cases h
   | succ m1 =>
    rw [tumbref2_AgeFor_l1.eq_2] at h
    refine f_seq ?_
    refine f_seq ?_
    refine f_region ?_
    refine lv S (rn_move (S.tm rfl)) rfl ?_; clear S; intro a S
    refine lv S (rn_fld fa_89_1 (S.tm rfl)) rfl ?_; clear S; intro a S
    refine lv S (rn_load Tryz.isAgg3 (S.tm rfl) (S.cell (i := 1) rfl rfl)) rfl ?_; clear S; intro a S
    refine lv S (rn_fld fa_89_2 (S.tm rfl)) rfl ?_; clear S; intro a S
    refine lv S (rn_load Tryz.isAgg3 (S.tm rfl) (S.cell (i := 1) rfl rfl)) rfl ?_; clear S; intro a S
    refine lv S (rn_bld bt_89 (pv := [(0, .int .i64 x2), (1, .int .i64 r1.Month), (2, .int .i64 r1.Day)]) ⟨rfl, (S.tm rfl), rfl, (S.tm rfl), rfl, (S.tm rfl), trivial⟩ (cs := [.int .i64 x2, .int .i64 r1.Month, .int .i64 r1.Day]) (by kernel_rfl)) rfl ?_; clear S; intro a S
    refine lv S (rn_ldA Tryz.isAgg89 Tryz.sizeOf89 (off := 0) (o := 0) (part := [.int .i64 r2.Year, .int .i64 r2.Month, .int .i64 r2.Day]) rfl rfl (S.tm rfl) (S.cellsAt (i := 0) rfl)) rfl ?_; clear S; intro a S
    obtain ⟨r3, hr3, h⟩ := bindE h
    refine l_enter S (fun _ => run_call (vs := [.agg (GDate.enc (GDate.mk x2 r1.Month r1.Day)).toArray, .agg (GDate.enc r2).toArray]) ⟨(S.tm rfl), (S.tm rfl), trivial⟩ Tryz.call90) (tumbref2_dateOrder_ok _ (GDate.mk x2 r1.Month r1.Day) r2 _ hr3) rfl ?_; clear S; intro v3 a w10 hv3 hk8 hn3 S
    subst hv3
    refine lv S (rn_leq (S.tm rfl) rfl) rfl ?_; clear S; intro a S
    refine l_done ?_
    replace S := S.nk [.blk b3 [.int .i64 r2.Year, .int .i64 r2.Month, .int .i64 r2.Day] 89, .blk b2 [.int .i64 r1.Year, .int .i64 r1.Month, .int .i64 r1.Day] 89] [(7, .pointer (some ⟨b2, 0, none⟩)), (8, .pointer (some ⟨b3, 0, none⟩)), (9, .int .i64 x1), (10, .int .i64 x2), (34, .bool (decide (r3 ≤ 0)))] [true, true] rfl ⟨rfl, rfl, rfl, rfl, rfl, trivial⟩
    refine then_n ?_
    refine f_cond (S.tm rfl) (fun hb2 => ?_) (fun hb2 => ?_)
    ·replace h := iteT h hb2
     refine wp_skip ?_
     refine then_n ?_
     refine f_seq ?_
     refine wp_block ?_
     refine f_region ?_
     refine lv S (rn_move (S.tm rfl)) rfl ?_; clear S; intro a S
     refine lv S (rn_add (S.tm rfl) rfl) rfl ?_; clear S; intro a S
     refine lv S (rn_assign (S.tm rfl)) rfl ?_; clear S; intro a S
     refine l_done ?_
     replace S := S.nk [.blk b3 [.int .i64 r2.Year, .int .i64 r2.Month, .int .i64 r2.Day] 89, .blk b2 [.int .i64 r1.Year, .int .i64 r1.Month, .int .i64 r1.Day] 89] [(7, .pointer (some ⟨b2, 0, none⟩)), (8, .pointer (some ⟨b3, 0, none⟩)), (9, .int .i64 (W (x1 + 1))), (10, .int .i64 x2)] [true, true] rfl ⟨rfl, rfl, rfl, rfl, trivial⟩
     refine blk_n ?_
     refine then_n ?_
     refine f_region ?_
     refine lv S (rn_move (S.tm rfl)) rfl ?_; clear S; intro a S
     refine lv S (rn_add (S.tm rfl) rfl) rfl ?_; clear S; intro a S
     refine lv S (rn_assign (S.tm rfl)) rfl ?_; clear S; intro a S
     refine l_done ?_
     replace S := S.nk [.blk b3 [.int .i64 r2.Year, .int .i64 r2.Month, .int .i64 r2.Day] 89, .blk b2 [.int .i64 r1.Year, .int .i64 r1.Month, .int .i64 r1.Day] 89] [(7, .pointer (some ⟨b2, 0, none⟩)), (8, .pointer (some ⟨b3, 0, none⟩)), (9, .int .i64 (W (x1 + 1))), (10, .int .i64 (W (x2 + 1)))] [true, true] rfl ⟨rfl, rfl, rfl, rfl, trivial⟩
     refine then_n ?_
     exact ⟨m1, ⟨W (x1 + 1), W (x2 + 1), h, S.nf [true, true] rfl ⟨rfl, rfl, rfl, rfl, trivial⟩⟩, Nat.lt_succ_self _⟩
    ·replace h := iteF h hb2
     refine wp_exit ?_
     refine then_x ?_
     refine then_x ?_
     refine x_same ?_
     refine then_n ?_
     exact ⟨x1, h, S.nf [true, true] rfl ⟨rfl, trivial⟩⟩
  clear S h; rintro a w9 ⟨x1, h, S⟩; rw [hj1] at h; clear hj1 j1
  refine then_n ?_
  refine f_seq ?_
  refine f_region ?_
  refine lv S (rn_move (S.tm rfl)) rfl ?_; clear S; intro a S
  refine lv S (rn_assign (S.tm rfl)) rfl ?_; clear S; intro a S
  refine l_done ?_
  replace S := S.nk [] [(6, .int .i64 x1)] [false, false] rfl ⟨rfl, trivial⟩
  refine then_n ?_
  refine wp_ret ?_
  obtain rfl := Option.some.inj h
  exact f_ret S Tryz.results77 rfl rfl
set_option maxRecDepth 20000 in
theorem tumbref2_MayFor_ok (w : World) (p_r : GRace) (p_s : GSwimmer) (p_day : Int) (p_way : Int) (r : Bool) (h : tumbref2_MayFor p_r p_s p_day p_way = some r) :
    Calls Tryz.prog 64 [.agg (GRace.enc p_r).toArray, .agg (GSwimmer.enc p_s).toArray, .int .i64 p_day, .int .i64 p_way].toArray w (Ret w [] fun τ v w' => v = .bool r) := by
 refine f_enter [] [] Tryz.func64 rfl Tryz.ntmps64 rfl (by simp) (by simp [fps]) (by simp [fps]) fun a S => ?_
 unfold tumbref2_MayFor at h
 replace S := S.nk [] [(0, .agg (GRace.enc p_r).toArray), (1, .agg (GSwimmer.enc p_s).toArray), (2, .int .i64 p_day), (3, .int .i64 p_way)] [] rfl ⟨rfl, rfl, rfl, rfl, trivial⟩
 refine f_seq ?_
 refine f_region ?_
 refine l_box S (S.tm rfl) (cs := [.string p_r.Key, .int .i64 p_r.Metres, .int .i64 p_r.Stroke, .int .i64 p_r.Course, .int .i64 p_r.Legs, .int .i64 p_r.Sex, .int .i64 p_r.Young, .int .i64 p_r.Old]) rfl rfl ?_; clear S; intro a w1 b1 hz1 hk1 S
 refine l_box S (S.tm rfl) (cs := [.string p_s.Key, .int .i64 p_s.Sex, .int .i64 p_s.Born]) rfl rfl ?_; clear S; intro a w2 b2 hz2 hk2 S
 refine lv S (rn_assign rfl) rfl ?_; clear S; intro a S
 refine l_done ?_
 replace S := S.nk [.blk b2 [.string p_s.Key, .int .i64 p_s.Sex, .int .i64 p_s.Born] 60, .blk b1 [.string p_r.Key, .int .i64 p_r.Metres, .int .i64 p_r.Stroke, .int .i64 p_r.Course, .int .i64 p_r.Legs, .int .i64 p_r.Sex, .int .i64 p_r.Young, .int .i64 p_r.Old] 54] [(2, .int .i64 p_day), (3, .int .i64 p_way), (4, .pointer (some ⟨b1, 0, none⟩)), (5, .pointer (some ⟨b2, 0, none⟩))] [true, true] rfl ⟨rfl, rfl, rfl, rfl, trivial⟩
 refine then_n ?_
 refine f_seq ?_
 obtain ⟨j1, hj1, h⟩ := joinE h
 refine f_join (fun a w' => ∃ x1 : Bool, j1 x1 = some r ∧ Sx w [] nov [] [(8, .bool x1)] 30 a w') ?_ ?_
 ·rcases Bool.eq_false_or_eq_true (decide (p_r.Sex = 0)) with hb1 | hb1
  ·replace h := iteT h hb1
   rcases Bool.eq_false_or_eq_true true with hb2 | hb2
   ·replace h := iteT h hb2
    obtain ⟨r1, hr1, h⟩ := bindE h
    refine d_region [] ([]) Tryz.mixed S rfl (by kernel_rfl) ?_; clear S; intro w6 hk5 hsel S
    refine d_quiet 0 S hsel rfl rfl rfl (by kernel_rfl) (by kernel_rfl) rfl (fun _ hw => (rn_fld fa_54_5 (S.tm rfl))) ?_; clear S; intro a S
    refine d_quiet 1 S hsel rfl rfl rfl (by kernel_rfl) (by kernel_rfl) rfl (fun _ hw => (rn_ld Tryz.isAgg3 (off := 0) (o := 5) (S.tm rfl) ((S.blk_mem (i := 1) (cells := [.string p_r.Key, .int .i64 p_r.Metres, .int .i64 p_r.Stroke, .int .i64 p_r.Course, .int .i64 p_r.Legs, .int .i64 p_r.Sex, .int .i64 p_r.Young, .int .i64 p_r.Old]) (b := b1) (T := 54) rfl (ne_nil (e' := .blk b1 [.string p_r.Key, .int .i64 p_r.Metres, .int .i64 p_r.Stroke, .int .i64 p_r.Course, .int .i64 p_r.Legs, .int .i64 p_r.Sex, .int .i64 p_r.Young, .int .i64 p_r.Old] 54))).kept hw) rfl)) ?_; clear S; intro a S
    refine d_quiet 2 S hsel rfl rfl rfl (by kernel_rfl) (by kernel_rfl) rfl (fun _ hw => (rn_eql (S.tm rfl) rfl)) ?_; clear S; intro a S
    refine d_quiet 3 S hsel rfl rfl rfl (by kernel_rfl) (by kernel_rfl) rfl (fun _ hw => (rn_move (S.tm rfl))) ?_; clear S; intro a S
    refine d_skip 4 S hsel rfl rfl rfl rfl (neq_t hb1) rfl (by kernel_rfl) (by kernel_rfl) rfl ?_; clear S; intro a S
    refine d_skip 5 S hsel rfl rfl rfl rfl (neq_t hb1) rfl (by kernel_rfl) (by kernel_rfl) rfl ?_; clear S; intro a S
    refine d_skip 6 S hsel rfl rfl rfl rfl (neq_t hb1) rfl (by kernel_rfl) (by kernel_rfl) rfl ?_; clear S; intro a S
    refine d_skip 7 S hsel rfl rfl rfl rfl (neq_t hb1) rfl (by kernel_rfl) (by kernel_rfl) rfl ?_; clear S; intro a S
    refine d_skip 8 S hsel rfl rfl rfl rfl (neq_t hb1) rfl (by kernel_rfl) (by kernel_rfl) rfl ?_; clear S; intro a S
    refine d_quiet 9 S hsel rfl rfl rfl (by kernel_rfl) (by kernel_rfl) rfl (fun _ hw => (rn_pick_b hb1 (S.tm rfl) rfl)) ?_; clear S; intro a S
    refine d_quiet 10 S hsel rfl rfl rfl (by kernel_rfl) (by kernel_rfl) rfl (fun _ hw => (rn_move (S.tm rfl))) ?_; clear S; intro a S
    refine d_quiet_g 11 S hsel rfl rfl rfl rfl hb2 rfl rfl (by kernel_rfl) (by kernel_rfl) rfl (fun _ hw => (rn_ldA Tryz.isAgg60 Tryz.sizeOf60 (off := 0) (o := 0) (part := [.string p_s.Key, .int .i64 p_s.Sex, .int .i64 p_s.Born]) rfl rfl (S.tm rfl) ((S.blk_mem (i := 0) (cells := [.string p_s.Key, .int .i64 p_s.Sex, .int .i64 p_s.Born]) (b := b2) (T := 60) rfl (ne_nil (e' := .blk b2 [.string p_s.Key, .int .i64 p_s.Sex, .int .i64 p_s.Born] 60))).kept hw))) ?_; clear S; intro a S
    refine d_quiet_g 12 S hsel rfl rfl rfl rfl hb2 rfl rfl (by kernel_rfl) (by kernel_rfl) rfl (fun _ hw => (rn_move (S.tm rfl))) ?_; clear S; intro a S
    refine d_quiet_g 13 S hsel rfl rfl rfl rfl hb2 rfl rfl (by kernel_rfl) (by kernel_rfl) rfl (fun _ hw => (rn_move (S.tm rfl))) ?_; clear S; intro a S
    refine d_quiet_g 15 S hsel rfl rfl rfl rfl hb2 rfl rfl (by kernel_rfl) (by kernel_rfl) rfl (fun _ hw => (rn_fld fa_54_6 (S.tm rfl))) ?_; clear S; intro a S
    refine d_quiet_g 16 S hsel rfl rfl rfl rfl hb2 rfl rfl (by kernel_rfl) (by kernel_rfl) rfl (fun _ hw => (rn_ld Tryz.isAgg3 (off := 0) (o := 6) (S.tm rfl) ((S.blk_mem (i := 1) (cells := [.string p_r.Key, .int .i64 p_r.Metres, .int .i64 p_r.Stroke, .int .i64 p_r.Course, .int .i64 p_r.Legs, .int .i64 p_r.Sex, .int .i64 p_r.Young, .int .i64 p_r.Old]) (b := b1) (T := 54) rfl (ne_nil (e' := .blk b1 [.string p_r.Key, .int .i64 p_r.Metres, .int .i64 p_r.Stroke, .int .i64 p_r.Course, .int .i64 p_r.Legs, .int .i64 p_r.Sex, .int .i64 p_r.Young, .int .i64 p_r.Old] 54))).kept hw) rfl)) ?_; clear S; intro a S
    refine d_quiet_g 17 S hsel rfl rfl rfl rfl hb2 rfl rfl (by kernel_rfl) (by kernel_rfl) rfl (fun _ hw => (rn_fld fa_54_7 (S.tm rfl))) ?_; clear S; intro a S
    refine d_quiet_g 18 S hsel rfl rfl rfl rfl hb2 rfl rfl (by kernel_rfl) (by kernel_rfl) rfl (fun _ hw => (rn_ld Tryz.isAgg3 (off := 0) (o := 7) (S.tm rfl) ((S.blk_mem (i := 1) (cells := [.string p_r.Key, .int .i64 p_r.Metres, .int .i64 p_r.Stroke, .int .i64 p_r.Course, .int .i64 p_r.Legs, .int .i64 p_r.Sex, .int .i64 p_r.Young, .int .i64 p_r.Old]) (b := b1) (T := 54) rfl (ne_nil (e' := .blk b1 [.string p_r.Key, .int .i64 p_r.Metres, .int .i64 p_r.Stroke, .int .i64 p_r.Course, .int .i64 p_r.Legs, .int .i64 p_r.Sex, .int .i64 p_r.Young, .int .i64 p_r.Old] 54))).kept hw) rfl)) ?_; clear S; intro a S
    refine d_loud1 14 (by kernel_rfl) rfl ?_
    refine l_want S rfl rfl rfl hb2 ?_
    refine l_enter S (fun _ => run_call (vs := [.agg (GSwimmer.enc p_s).toArray, .int .i64 p_day, .int .i64 p_way]) ⟨(S.tm rfl), (S.tm rfl), (S.tm rfl), trivial⟩ Tryz.call77) (tumbref2_AgeFor_ok _ p_s p_day p_way _ hr1) rfl ?_; clear S; intro v3 a w7 hv3 hk6 hn3 S
    subst hv3
    refine l_done ?_
    refine d_next hk6 ?_
    refine d_loud1 19 (by kernel_rfl) rfl ?_
    refine l_want S rfl rfl rfl hb2 ?_
    refine l_enter S (fun _ => run_call (vs := [.int .i64 r1, .int .i64 p_r.Young, .int .i64 p_r.Old]) ⟨(S.tm rfl), (S.tm rfl), (S.tm rfl), trivial⟩ Tryz.call38) (tumbref2_in_ok _ r1 p_r.Young p_r.Old _ rfl) rfl ?_; clear S; intro v4 a w8 hv4 hk7 hn4 S
    subst hv4
    refine l_done ?_
    refine d_next hk7 ?_
    refine d_rest [20, 21] hsel (by kernel_rfl) rfl ?_
    clear hsel
    refine s_lv S rfl (rn_pick_b hb2 (S.tm rfl) (S.tm rfl)) rfl ?_; clear S; intro a S
    refine s_lv S rfl (rn_assign (S.tm rfl)) rfl ?_; clear S; intro a S
    refine s_done ?_
    replace S := S.nk [] [(8, .bool (tumbref2_in r1 p_r.Young p_r.Old))] [false, false] rfl ⟨rfl, trivial⟩
    refine then_n ?_
    exact ⟨(tumbref2_in r1 p_r.Young p_r.Old), h, S.nf [] rfl ⟨rfl, trivial⟩⟩
   ·replace h := iteF h hb2
    refine d_region [] ([]) Tryz.mixed S rfl (by kernel_rfl) ?_; clear S; intro w9 hk8 hsel S
    refine d_rest [0, 1, 2, 3, 4, 5, 6, 7, 8, 9, 10, 11, 12, 13, 14, 15, 16, 17, 18, 19, 20, 21] hsel (by kernel_rfl) rfl ?_
    clear hsel
    refine s_lv S rfl (rn_fld fa_54_5 (S.tm rfl)) rfl ?_; clear S; intro a S
    refine s_lv S rfl (rn_load Tryz.isAgg3 (S.tm rfl) (S.cell (i := 1) rfl rfl)) rfl ?_; clear S; intro a S
    refine s_lv S rfl (rn_eql (S.tm rfl) rfl) rfl ?_; clear S; intro a S
    refine s_lv S rfl (rn_move (S.tm rfl)) rfl ?_; clear S; intro a S
    refine s_skip S rfl rfl rfl rfl (neq_t hb1) rfl ?_ rfl; clear S; intro a S
    refine s_skip S rfl rfl rfl rfl (neq_t hb1) rfl ?_ rfl; clear S; intro a S
    refine s_skip S rfl rfl rfl rfl (neq_t hb1) rfl ?_ rfl; clear S; intro a S
    refine s_skip S rfl rfl rfl rfl (neq_t hb1) rfl ?_ rfl; clear S; intro a S
    refine s_skip S rfl rfl rfl rfl (neq_t hb1) rfl ?_ rfl; clear S; intro a S
    refine s_lv S rfl (rn_pick_b hb1 (S.tm rfl) rfl) rfl ?_; clear S; intro a S
    refine s_lv S rfl (rn_move (S.tm rfl)) rfl ?_; clear S; intro a S
    refine s_skip S rfl rfl rfl rfl (neq_f hb2) rfl ?_ rfl; clear S; intro a S
    refine s_skip S rfl rfl rfl rfl (neq_f hb2) rfl ?_ rfl; clear S; intro a S
    refine s_skip S rfl rfl rfl rfl (neq_f hb2) rfl ?_ rfl; clear S; intro a S
    refine s_skip S rfl rfl rfl rfl (neq_f hb2) rfl ?_ rfl; clear S; intro a S
    refine s_skip S rfl rfl rfl rfl (neq_f hb2) rfl ?_ rfl; clear S; intro a S
    refine s_skip S rfl rfl rfl rfl (neq_f hb2) rfl ?_ rfl; clear S; intro a S
    refine s_skip S rfl rfl rfl rfl (neq_f hb2) rfl ?_ rfl; clear S; intro a S
    refine s_skip S rfl rfl rfl rfl (neq_f hb2) rfl ?_ rfl; clear S; intro a S
    refine s_skip S rfl rfl rfl rfl (neq_f hb2) rfl ?_ rfl; clear S; intro a S
    refine s_lv S rfl (rn_pick_c hb2 (S.tm rfl) rfl) rfl ?_; clear S; intro a S
    refine s_lv S rfl (rn_assign (S.tm rfl)) rfl ?_; clear S; intro a S
    refine s_done ?_
    replace S := S.nk [] [(8, .bool false)] [false, false] rfl ⟨rfl, trivial⟩
    refine then_n ?_
    exact ⟨false, h, S.nf [] rfl ⟨rfl, trivial⟩⟩
  ·replace h := iteF h hb1
   rcases Bool.eq_false_or_eq_true (decide (p_r.Sex = p_s.Sex)) with hb3 | hb3
   ·replace h := iteT h hb3
    obtain ⟨r2, hr2, h⟩ := bindE h
    refine d_region [] ([]) Tryz.mixed S rfl (by kernel_rfl) ?_; clear S; intro w12 hk11 hsel S
    refine d_quiet 0 S hsel rfl rfl rfl (by kernel_rfl) (by kernel_rfl) rfl (fun _ hw => (rn_fld fa_54_5 (S.tm rfl))) ?_; clear S; intro a S
    refine d_quiet 1 S hsel rfl rfl rfl (by kernel_rfl) (by kernel_rfl) rfl (fun _ hw => (rn_ld Tryz.isAgg3 (off := 0) (o := 5) (S.tm rfl) ((S.blk_mem (i := 1) (cells := [.string p_r.Key, .int .i64 p_r.Metres, .int .i64 p_r.Stroke, .int .i64 p_r.Course, .int .i64 p_r.Legs, .int .i64 p_r.Sex, .int .i64 p_r.Young, .int .i64 p_r.Old]) (b := b1) (T := 54) rfl (ne_nil (e' := .blk b1 [.string p_r.Key, .int .i64 p_r.Metres, .int .i64 p_r.Stroke, .int .i64 p_r.Course, .int .i64 p_r.Legs, .int .i64 p_r.Sex, .int .i64 p_r.Young, .int .i64 p_r.Old] 54))).kept hw) rfl)) ?_; clear S; intro a S
    refine d_quiet 2 S hsel rfl rfl rfl (by kernel_rfl) (by kernel_rfl) rfl (fun _ hw => (rn_eql (S.tm rfl) rfl)) ?_; clear S; intro a S
    refine d_quiet 3 S hsel rfl rfl rfl (by kernel_rfl) (by kernel_rfl) rfl (fun _ hw => (rn_move (S.tm rfl))) ?_; clear S; intro a S
    refine d_quiet_g 4 S hsel rfl rfl rfl rfl hb1 rfl rfl (by kernel_rfl) (by kernel_rfl) rfl (fun _ hw => (rn_fld fa_54_5 (S.tm rfl))) ?_; clear S; intro a S
    refine d_quiet_g 5 S hsel rfl rfl rfl rfl hb1 rfl rfl (by kernel_rfl) (by kernel_rfl) rfl (fun _ hw => (rn_ld Tryz.isAgg3 (off := 0) (o := 5) (S.tm rfl) ((S.blk_mem (i := 1) (cells := [.string p_r.Key, .int .i64 p_r.Metres, .int .i64 p_r.Stroke, .int .i64 p_r.Course, .int .i64 p_r.Legs, .int .i64 p_r.Sex, .int .i64 p_r.Young, .int .i64 p_r.Old]) (b := b1) (T := 54) rfl (ne_nil (e' := .blk b1 [.string p_r.Key, .int .i64 p_r.Metres, .int .i64 p_r.Stroke, .int .i64 p_r.Course, .int .i64 p_r.Legs, .int .i64 p_r.Sex, .int .i64 p_r.Young, .int .i64 p_r.Old] 54))).kept hw) rfl)) ?_; clear S; intro a S
    refine d_quiet_g 6 S hsel rfl rfl rfl rfl hb1 rfl rfl (by kernel_rfl) (by kernel_rfl) rfl (fun _ hw => (rn_fld fa_60_1 (S.tm rfl))) ?_; clear S; intro a S
    refine d_quiet_g 7 S hsel rfl rfl rfl rfl hb1 rfl rfl (by kernel_rfl) (by kernel_rfl) rfl (fun _ hw => (rn_ld Tryz.isAgg3 (off := 0) (o := 1) (S.tm rfl) ((S.blk_mem (i := 0) (cells := [.string p_s.Key, .int .i64 p_s.Sex, .int .i64 p_s.Born]) (b := b2) (T := 60) rfl (ne_nil (e' := .blk b2 [.string p_s.Key, .int .i64 p_s.Sex, .int .i64 p_s.Born] 60))).kept hw) rfl)) ?_; clear S; intro a S
    refine d_quiet_g 8 S hsel rfl rfl rfl rfl hb1 rfl rfl (by kernel_rfl) (by kernel_rfl) rfl (fun _ hw => (rn_eql (S.tm rfl) (S.tm rfl))) ?_; clear S; intro a S
    refine d_quiet 9 S hsel rfl rfl rfl (by kernel_rfl) (by kernel_rfl) rfl (fun _ hw => (rn_pick_c hb1 (S.tm rfl) (S.tm rfl))) ?_; clear S; intro a S
    refine d_quiet 10 S hsel rfl rfl rfl (by kernel_rfl) (by kernel_rfl) rfl (fun _ hw => (rn_move (S.tm rfl))) ?_; clear S; intro a S
    refine d_quiet_g 11 S hsel rfl rfl rfl rfl hb3 rfl rfl (by kernel_rfl) (by kernel_rfl) rfl (fun _ hw => (rn_ldA Tryz.isAgg60 Tryz.sizeOf60 (off := 0) (o := 0) (part := [.string p_s.Key, .int .i64 p_s.Sex, .int .i64 p_s.Born]) rfl rfl (S.tm rfl) ((S.blk_mem (i := 0) (cells := [.string p_s.Key, .int .i64 p_s.Sex, .int .i64 p_s.Born]) (b := b2) (T := 60) rfl (ne_nil (e' := .blk b2 [.string p_s.Key, .int .i64 p_s.Sex, .int .i64 p_s.Born] 60))).kept hw))) ?_; clear S; intro a S
    refine d_quiet_g 12 S hsel rfl rfl rfl rfl hb3 rfl rfl (by kernel_rfl) (by kernel_rfl) rfl (fun _ hw => (rn_move (S.tm rfl))) ?_; clear S; intro a S
    refine d_quiet_g 13 S hsel rfl rfl rfl rfl hb3 rfl rfl (by kernel_rfl) (by kernel_rfl) rfl (fun _ hw => (rn_move (S.tm rfl))) ?_; clear S; intro a S
    refine d_quiet_g 15 S hsel rfl rfl rfl rfl hb3 rfl rfl (by kernel_rfl) (by kernel_rfl) rfl (fun _ hw => (rn_fld fa_54_6 (S.tm rfl))) ?_; clear S; intro a S
    refine d_quiet_g 16 S hsel rfl rfl rfl rfl hb3 rfl rfl (by kernel_rfl) (by kernel_rfl) rfl (fun _ hw => (rn_ld Tryz.isAgg3 (off := 0) (o := 6) (S.tm rfl) ((S.blk_mem (i := 1) (cells := [.string p_r.Key, .int .i64 p_r.Metres, .int .i64 p_r.Stroke, .int .i64 p_r.Course, .int .i64 p_r.Legs, .int .i64 p_r.Sex, .int .i64 p_r.Young, .int .i64 p_r.Old]) (b := b1) (T := 54) rfl (ne_nil (e' := .blk b1 [.string p_r.Key, .int .i64 p_r.Metres, .int .i64 p_r.Stroke, .int .i64 p_r.Course, .int .i64 p_r.Legs, .int .i64 p_r.Sex, .int .i64 p_r.Young, .int .i64 p_r.Old] 54))).kept hw) rfl)) ?_; clear S; intro a S
    refine d_quiet_g 17 S hsel rfl rfl rfl rfl hb3 rfl rfl (by kernel_rfl) (by kernel_rfl) rfl (fun _ hw => (rn_fld fa_54_7 (S.tm rfl))) ?_; clear S; intro a S
    refine d_quiet_g 18 S hsel rfl rfl rfl rfl hb3 rfl rfl (by kernel_rfl) (by kernel_rfl) rfl (fun _ hw => (rn_ld Tryz.isAgg3 (off := 0) (o := 7) (S.tm rfl) ((S.blk_mem (i := 1) (cells := [.string p_r.Key, .int .i64 p_r.Metres, .int .i64 p_r.Stroke, .int .i64 p_r.Course, .int .i64 p_r.Legs, .int .i64 p_r.Sex, .int .i64 p_r.Young, .int .i64 p_r.Old]) (b := b1) (T := 54) rfl (ne_nil (e' := .blk b1 [.string p_r.Key, .int .i64 p_r.Metres, .int .i64 p_r.Stroke, .int .i64 p_r.Course, .int .i64 p_r.Legs, .int .i64 p_r.Sex, .int .i64 p_r.Young, .int .i64 p_r.Old] 54))).kept hw) rfl)) ?_; clear S; intro a S
    refine d_loud1 14 (by kernel_rfl) rfl ?_
    refine l_want S rfl rfl rfl hb3 ?_
    refine l_enter S (fun _ => run_call (vs := [.agg (GSwimmer.enc p_s).toArray, .int .i64 p_day, .int .i64 p_way]) ⟨(S.tm rfl), (S.tm rfl), (S.tm rfl), trivial⟩ Tryz.call77) (tumbref2_AgeFor_ok _ p_s p_day p_way _ hr2) rfl ?_; clear S; intro v7 a w13 hv7 hk12 hn7 S
    subst hv7
    refine l_done ?_
    refine d_next hk12 ?_
    refine d_loud1 19 (by kernel_rfl) rfl ?_
    refine l_want S rfl rfl rfl hb3 ?_
    refine l_enter S (fun _ => run_call (vs := [.int .i64 r2, .int .i64 p_r.Young, .int .i64 p_r.Old]) ⟨(S.tm rfl), (S.tm rfl), (S.tm rfl), trivial⟩ Tryz.call38) (tumbref2_in_ok _ r2 p_r.Young p_r.Old _ rfl) rfl ?_; clear S; intro v8 a w14 hv8 hk13 hn8 S
    subst hv8
    refine l_done ?_
    refine d_next hk13 ?_
    refine d_rest [20, 21] hsel (by kernel_rfl) rfl ?_
    clear hsel
    refine s_lv S rfl (rn_pick_b hb3 (S.tm rfl) (S.tm rfl)) rfl ?_; clear S; intro a S
    refine s_lv S rfl (rn_assign (S.tm rfl)) rfl ?_; clear S; intro a S
    refine s_done ?_
    replace S := S.nk [] [(8, .bool (tumbref2_in r2 p_r.Young p_r.Old))] [false, false] rfl ⟨rfl, trivial⟩
    refine then_n ?_
    exact ⟨(tumbref2_in r2 p_r.Young p_r.Old), h, S.nf [] rfl ⟨rfl, trivial⟩⟩
   ·replace h := iteF h hb3
    refine d_region [] ([]) Tryz.mixed S rfl (by kernel_rfl) ?_; clear S; intro w15 hk14 hsel S
    refine d_rest [0, 1, 2, 3, 4, 5, 6, 7, 8, 9, 10, 11, 12, 13, 14, 15, 16, 17, 18, 19, 20, 21] hsel (by kernel_rfl) rfl ?_
    clear hsel
    refine s_lv S rfl (rn_fld fa_54_5 (S.tm rfl)) rfl ?_; clear S; intro a S
    refine s_lv S rfl (rn_load Tryz.isAgg3 (S.tm rfl) (S.cell (i := 1) rfl rfl)) rfl ?_; clear S; intro a S
    refine s_lv S rfl (rn_eql (S.tm rfl) rfl) rfl ?_; clear S; intro a S
    refine s_lv S rfl (rn_move (S.tm rfl)) rfl ?_; clear S; intro a S
    refine s_want S rfl rfl rfl rfl hb1 ?_
    refine s_lv0 S (rn_fld fa_54_5 (S.tm rfl)) rfl ?_; clear S; intro a S
    refine s_want S rfl rfl rfl rfl hb1 ?_
    refine s_lv0 S (rn_load Tryz.isAgg3 (S.tm rfl) (S.cell (i := 1) rfl rfl)) rfl ?_; clear S; intro a S
    refine s_want S rfl rfl rfl rfl hb1 ?_
    refine s_lv0 S (rn_fld fa_60_1 (S.tm rfl)) rfl ?_; clear S; intro a S
    refine s_want S rfl rfl rfl rfl hb1 ?_
    refine s_lv0 S (rn_load Tryz.isAgg3 (S.tm rfl) (S.cell (i := 0) rfl rfl)) rfl ?_; clear S; intro a S
    refine s_want S rfl rfl rfl rfl hb1 ?_
    refine s_lv0 S (rn_eql (S.tm rfl) (S.tm rfl)) rfl ?_; clear S; intro a S
    refine s_lv S rfl (rn_pick_c hb1 (S.tm rfl) (S.tm rfl)) rfl ?_; clear S; intro a S
    refine s_lv S rfl (rn_move (S.tm rfl)) rfl ?_; clear S; intro a S
    refine s_skip S rfl rfl rfl rfl (neq_f hb3) rfl ?_ rfl; clear S; intro a S
    refine s_skip S rfl rfl rfl rfl (neq_f hb3) rfl ?_ rfl; clear S; intro a S
    refine s_skip S rfl rfl rfl rfl (neq_f hb3) rfl ?_ rfl; clear S; intro a S
    refine s_skip S rfl rfl rfl rfl (neq_f hb3) rfl ?_ rfl; clear S; intro a S
    refine s_skip S rfl rfl rfl rfl (neq_f hb3) rfl ?_ rfl; clear S; intro a S
    refine s_skip S rfl rfl rfl rfl (neq_f hb3) rfl ?_ rfl; clear S; intro a S
    refine s_skip S rfl rfl rfl rfl (neq_f hb3) rfl ?_ rfl; clear S; intro a S
    refine s_skip S rfl rfl rfl rfl (neq_f hb3) rfl ?_ rfl; clear S; intro a S
    refine s_skip S rfl rfl rfl rfl (neq_f hb3) rfl ?_ rfl; clear S; intro a S
    refine s_lv S rfl (rn_pick_c hb3 (S.tm rfl) rfl) rfl ?_; clear S; intro a S
    refine s_lv S rfl (rn_assign (S.tm rfl)) rfl ?_; clear S; intro a S
    refine s_done ?_
    replace S := S.nk [] [(8, .bool false)] [false, false] rfl ⟨rfl, trivial⟩
    refine then_n ?_
    exact ⟨false, h, S.nf [] rfl ⟨rfl, trivial⟩⟩
 clear S h; rintro a w3 ⟨x1, h, S⟩; rw [hj1] at h; clear hj1 j1
 refine then_n ?_
 refine wp_ret ?_
 obtain rfl := Option.some.inj h
 exact f_ret S Tryz.results64 rfl rfl
theorem tumbref2_ClubFor_ok (w : World) (v_p_l : Value) (p_l : List GMove) (hs_p_l : Slc (view w []) 3 v_p_l (p_l.map GMove.enc)) (p_who : ByteArray) (p_day : Int) (r : ByteArray) (h : tumbref2_ClubFor p_l p_who p_day = r) :
    Calls Tryz.prog 65 [v_p_l, .string p_who, .int .i64 p_day].toArray w (Ret w [] fun τ v w' => v = .string r) := by
 refine f_enter [] [] Tryz.func65 rfl Tryz.ntmps65 rfl (by simp) (by simp [fps]) (by simp [fps]) fun a S => ?_
 unfold tumbref2_ClubFor at h
 replace S := S.nk [] [(0, v_p_l), (1, .string p_who), (2, .int .i64 p_day)] [] rfl ⟨rfl, rfl, rfl, trivial⟩
 refine f_seq ?_
 refine f_region ?_
 refine lv S (rn_assign rfl) rfl ?_; clear S; intro a S
 refine l_done ?_
 replace S := S.nk [] [(0, v_p_l), (1, .string p_who), (2, .int .i64 p_day)] [] rfl ⟨rfl, rfl, rfl, trivial⟩
 refine then_n ?_
 refine f_seq ?_
 refine f_region ?_
 refine lv S (rn_assign rfl) rfl ?_; clear S; intro a S
 refine l_done ?_
 replace S := S.nk [] [(0, v_p_l), (1, .string p_who), (2, .int .i64 p_day), (7, .string k_empty)] [] rfl ⟨rfl, rfl, rfl, rfl, trivial⟩
 refine then_n ?_
 refine f_seq ?_
 refine f_seq ?_
 refine f_region ?_
 refine lv S (rn_move (S.tm rfl)) rfl ?_; clear S; intro a S
 refine lv S (rn_lenT sl_30 (S.tm rfl) (slc_len hs_p_l)) rfl ?_; clear S; intro a S
 refine lv S (rn_move rfl) rfl ?_; clear S; intro a S
 refine l_done ?_
 replace S := S.nk [] [(1, .string p_who), (2, .int .i64 p_day), (7, .string k_empty), (10, v_p_l), (11, .int .i64 (p_l.length : Int)), (12, .int .i64 0)] [] rfl ⟨rfl, rfl, rfl, rfl, rfl, rfl, trivial⟩
 refine then_n ?_
 obtain ⟨j1, hj1, h⟩ := joinE h
 refine f_join (fun a w' => ∃ x1 : ByteArray, j1 x1 = r ∧ Sx w [] nov [] [(7, .string x1)] 30 a w') ?_ ?_
 ·refine wp_block ?_
  refine f_loop (fun (ys1 : List GMove) a w' => ∃ i1 : Nat, ∃ x1 : ByteArray, (∃ dn, p_l = dn ++ ys1 ∧ dn.length = i1) ∧ tumbref2_ClubFor_l1 p_who p_day j1 ys1 i1 x1 = r ∧ Sx w [] nov [] [(1, .string p_who), (2, .int .i64 p_day), (7, .string x1), (10, v_p_l), (11, .int .i64 (p_l.length : Int)), (12, .int .i64 (i1 : Int))] 30 a w') List.length p_l ⟨0, k_empty, ⟨[], rfl, rfl⟩, h, S.nf [] rfl ⟨rfl, rfl, rfl, rfl, rfl, rfl, trivial⟩⟩ ?_
  clear S h; rintro ys1 a w1 ⟨i1, x1, ⟨dn, hd1, hi1⟩, h, S⟩
  cases ys1 with
  | nil =>
   rw [tumbref2_ClubFor_l1.eq_1] at h
   refine f_seq ?_
   refine f_region ?_
   refine lv S (rn_lss (S.tm rfl) (S.tm rfl)) rfl ?_; clear S; intro a S
   refine l_done ?_
   replace S := S.nk [] [(1, .string p_who), (2, .int .i64 p_day), (7, .string x1), (10, v_p_l), (11, .int .i64 (p_l.length : Int)), (12, .int .i64 (i1 : Int)), (13, .bool (decide ((i1 : Int) < (p_l.length : Int))))] [] rfl ⟨rfl, rfl, rfl, rfl, rfl, rfl, rfl, trivial⟩
   refine then_n ?_
   refine f_seq ?_
   refine wp_cond_false ((S.tm rfl).trans (congrArg Value.bool (rng_nil hd1 hi1))) ?_
   refine wp_exit ?_
   refine then_x ?_
   refine then_x ?_
   refine x_same ?_
   refine then_n ?_
   exact ⟨x1, h, S.nf [] rfl ⟨rfl, trivial⟩⟩
  | cons y1 ys1 =>
   rw [tumbref2_ClubFor_l1.eq_2] at h
   refine f_seq ?_
   refine f_region ?_
   refine lv S (rn_lss (S.tm rfl) (S.tm rfl)) rfl ?_; clear S; intro a S
   refine l_done ?_
   replace S := S.nk [] [(1, .string p_who), (2, .int .i64 p_day), (7, .string x1), (10, v_p_l), (11, .int .i64 (p_l.length : Int)), (12, .int .i64 (i1 : Int)), (13, .bool (decide ((i1 : Int) < (p_l.length : Int))))] [] rfl ⟨rfl, rfl, rfl, rfl, rfl, rfl, rfl, trivial⟩
   refine then_n ?_
   refine f_seq ?_
   refine wp_cond_true ((S.tm rfl).trans (congrArg Value.bool (rng_cons hd1 hi1))) ?_
   refine wp_skip ?_
   refine then_n ?_
   refine f_seq ?_
   obtain ⟨j2, hj2, h⟩ := joinE h
   refine f_join (fun a w' => ∃ x2 : ByteArray, j2 x2 = r ∧ Sx w [] nov [] [(1, .string p_who), (2, .int .i64 p_day), (7, .string x2), (10, v_p_l), (11, .int .i64 (p_l.length : Int)), (12, .int .i64 (i1 : Int))] 30 a w') ?_ ?_
   ·refine wp_block ?_
    refine f_seq ?_
    refine f_region ?_
    obtain ⟨b1, o1, hm1, hr1⟩ := rn_indexT (a := a) (x := .tmp 10) (y := .tmp 12) (ty := 0) sl_30 hs_p_l (get_mid hd1 hi1) rfl (S.tm rfl) (S.tm rfl)
    refine lv S (hr1 _) rfl ?_; clear S; intro a S
    clear hr1
    refine lv S (rn_ldA Tryz.isAgg63 Tryz.sizeOf63 (off := o1) (o := 0) (part := [.string y1.Who, .string y1.Club, .int .i64 y1.Day]) rfl rfl (S.tm rfl) (hm1.at S.emb0)) rfl ?_; clear S; intro a S
    refine l_alloc S Tryz.zeroValue63 (cs := [.string k_empty, .string k_empty, .int .i64 0]) rfl rfl ?_; clear S; intro a w4 b2 hz1 hk1 S
    refine l_store S (S.tm rfl) (S.tm rfl) (i := 0) (off := 0) rfl Tryz.sizeOf63 (vs := [.string y1.Who, .string y1.Club, .int .i64 y1.Day]) rfl rfl rfl rfl ?_; clear S; intro w5 hk2 S
    refine l_done ?_
    replace S := S.nk [.blk b2 [.string y1.Who, .string y1.Club, .int .i64 y1.Day] 63] [(1, .string p_who), (2, .int .i64 p_day), (7, .string x1), (9, .pointer (some ⟨b2, 0, none⟩)), (10, v_p_l), (11, .int .i64 (p_l.length : Int)), (12, .int .i64 (i1 : Int))] [true] rfl ⟨rfl, rfl, rfl, rfl, rfl, rfl, rfl, trivial⟩
    refine then_n ?_
    refine f_seq ?_
    refine f_region ?_
    refine lv S (rn_fld fa_63_0 (S.tm rfl)) rfl ?_; clear S; intro a S
    refine lv S (rn_load Tryz.isAgg9 (S.tm rfl) (S.cell (i := 0) rfl rfl)) rfl ?_; clear S; intro a S
    refine lv S (rn_move (S.tm rfl)) rfl ?_; clear S; intro a S
    refine lv S (rn_seql (S.tm rfl) (S.tm rfl)) rfl ?_; clear S; intro a S
    refine lv S (rn_move (S.tm rfl)) rfl ?_; clear S; intro a S
    refine f_cutm 5 (fun a w' => Keep [] w5 w' ∧ Sx w [] nov [.blk b2 [.string y1.Who, .string y1.Club, .int .i64 y1.Day] 63] [(1, .string p_who), (2, .int .i64 p_day), (7, .string x1), (9, .pointer (some ⟨b2, 0, none⟩)), (10, v_p_l), (11, .int .i64 (p_l.length : Int)), (12, .int .i64 (i1 : Int)), (25, .bool ((decide (y1.Who = p_who)) && (decide (y1.Day ≤ p_day))))] 30 a w') ?_ ?_
    ·rcases Bool.eq_false_or_eq_true (decide (y1.Who = p_who)) with hb1 | hb1
     ·refine l_want S rfl rfl rfl hb1 ?_
      refine lv S (rn_fld fa_63_2 (S.tm rfl)) rfl ?_; clear S; intro a S
      refine l_want S rfl rfl rfl hb1 ?_
      refine lv S (rn_load Tryz.isAgg3 (S.tm rfl) (S.cell (i := 0) rfl rfl)) rfl ?_; clear S; intro a S
      refine l_want S rfl rfl rfl hb1 ?_
      refine lv S (rn_move (S.tm rfl)) rfl ?_; clear S; intro a S
      refine l_want S rfl rfl rfl hb1 ?_
      refine lv S (rn_leq (S.tm rfl) (S.tm rfl)) rfl ?_; clear S; intro a S
      refine lv S (rn_and_t hb1 (S.tm rfl) (S.tm rfl)) rfl ?_; clear S; intro a S
      refine l_done ?_
      refine then_n ?_
      exact ⟨Keep.refl _ _, S.nf [true] rfl ⟨rfl, rfl, rfl, rfl, rfl, rfl, rfl, rfl, trivial⟩⟩
     ·refine l_skip S rfl rfl rfl (neq_f hb1) rfl ?_ rfl; clear S; intro a S
      refine l_skip S rfl rfl rfl (neq_f hb1) rfl ?_ rfl; clear S; intro a S
      refine l_skip S rfl rfl rfl (neq_f hb1) rfl ?_ rfl; clear S; intro a S
      refine l_skip S rfl rfl rfl (neq_f hb1) rfl ?_ rfl; clear S; intro a S
      refine lv S (rn_and_f (decide (y1.Day ≤ p_day)) hb1 (S.tm rfl) rfl) rfl ?_; clear S; intro a S
      refine l_done ?_
      refine then_n ?_
      exact ⟨Keep.refl _ _, S.nf [true] rfl ⟨rfl, rfl, rfl, rfl, rfl, rfl, rfl, rfl, trivial⟩⟩
    clear S; rintro a w6 ⟨hk3, S⟩
    refine l_done ?_
    replace S := S.nk [.blk b2 [.string y1.Who, .string y1.Club, .int .i64 y1.Day] 63] [(1, .string p_who), (2, .int .i64 p_day), (7, .string x1), (9, .pointer (some ⟨b2, 0, none⟩)), (10, v_p_l), (11, .int .i64 (p_l.length : Int)), (12, .int .i64 (i1 : Int)), (25, .bool ((decide (y1.Who = p_who)) && (decide (y1.Day ≤ p_day))))] [true] rfl ⟨rfl, rfl, rfl, rfl, rfl, rfl, rfl, rfl, trivial⟩
    refine then_n ?_
    obtain ⟨j3, hj3, h⟩ := joinE h
    refine f_join (fun a w' => ∃ x3 : ByteArray, j3 x3 = r ∧ Sx w [] nov [] [(1, .string p_who), (2, .int .i64 p_day), (7, .string x3), (10, v_p_l), (11, .int .i64 (p_l.length : Int)), (12, .int .i64 (i1 : Int))] 30 a w') ?_ ?_
    ·refine f_cond (S.tm rfl) (fun hb2 => ?_) (fun hb2 => ?_)
     ·replace h := iteT h hb2
      refine f_region ?_
      refine lv S (rn_fld fa_63_1 (S.tm rfl)) rfl ?_; clear S; intro a S
      refine lv S (rn_load Tryz.isAgg9 (S.tm rfl) (S.cell (i := 0) rfl rfl)) rfl ?_; clear S; intro a S
      refine lv S (rn_assign (S.tm rfl)) rfl ?_; clear S; intro a S
      refine l_done ?_
      replace S := S.nk [] [(1, .string p_who), (2, .int .i64 p_day), (7, .string y1.Club), (10, v_p_l), (11, .int .i64 (p_l.length : Int)), (12, .int .i64 (i1 : Int))] [false] rfl ⟨rfl, rfl, rfl, rfl, rfl, rfl, trivial⟩
      refine then_n ?_
      exact ⟨y1.Club, h, S.nf [] rfl ⟨rfl, rfl, rfl, rfl, rfl, rfl, trivial⟩⟩
     ·replace h := iteF h hb2
      refine wp_skip ?_
      refine then_n ?_
      exact ⟨x1, h, S.nf [false] rfl ⟨rfl, rfl, rfl, rfl, rfl, rfl, trivial⟩⟩
    clear S h; rintro a w7 ⟨x3, h, S⟩; rw [hj3] at h; clear hj3 j3
    refine blk_n ?_
    refine then_n ?_
    exact ⟨x3, h, S.nf [] rfl ⟨rfl, rfl, rfl, rfl, rfl, rfl, trivial⟩⟩
   clear S h; rintro a w3 ⟨x2, h, S⟩; rw [hj2] at h; clear hj2 j2
   refine then_n ?_
   refine f_region ?_
   refine lv S (rn_add (S.tm rfl) rfl) rfl ?_; clear S; intro a S
   refine lv S (rn_move (S.tm rfl)) rfl ?_; clear S; intro a S
   refine l_done ?_
   replace S := S.nk [] [(1, .string p_who), (2, .int .i64 p_day), (7, .string x2), (10, v_p_l), (11, .int .i64 (p_l.length : Int)), (12, .int .i64 (W ((i1 : Int) + 1)))] [] rfl ⟨rfl, rfl, rfl, rfl, rfl, rfl, trivial⟩
   refine then_n ?_
   exact ⟨ys1, ⟨i1 + 1, x2, ⟨_, (hd1).trans (List.append_cons _ _ _), by simp [hi1]⟩, h, S.nf [] rfl ⟨rfl, rfl, rfl, rfl, rfl, (congrArg (fun z => some (Value.int .i64 z)) (rng_next hd1 hi1 (slc_max hs_p_l))), trivial⟩⟩, Nat.lt_succ_self _⟩
 clear S h; rintro a w2 ⟨x1, h, S⟩; rw [hj1] at h; clear hj1 j1
 refine then_n ?_
 refine f_seq ?_
 refine f_region ?_
 refine lv S (rn_move (S.tm rfl)) rfl ?_; clear S; intro a S
 refine lv S (rn_assign (S.tm rfl)) rfl ?_; clear S; intro a S
 refine l_done ?_
 replace S := S.nk [] [(6, .string x1)] [] rfl ⟨rfl, trivial⟩
 refine then_n ?_
 refine wp_ret ?_
 subst h
 exact f_ret S Tryz.results65 rfl rfl
theorem tumbref2_refuses_ok (w : World) (v_p_r : Value) (p_r : List GRace) (hs_p_r : Slc (view w []) 8 v_p_r (p_r.map GRace.enc)) (v_p_s : Value) (p_s : List GSwimmer) (hs_p_s : Slc (view w []) 3 v_p_s (p_s.map GSwimmer.enc)) (v_p_m : Value) (p_m : List GMove) (hs_p_m : Slc (view w []) 3 v_p_m (p_m.map GMove.enc)) (p_b : GBounds) (p_x : GEntry) (v_p_counts : Value) (p_counts : List GEntry) (hs_p_counts : Slc (view w []) 2 v_p_counts (p_counts.map GEntry.enc)) (r : Bool) (h : tumbref2_refuses p_r p_s p_m p_b p_x p_counts = some r) :
    Calls Tryz.prog 41 [v_p_r, v_p_s, v_p_m, .agg (GBounds.enc p_b).toArray, .agg (GEntry.enc p_x).toArray, v_p_counts].toArray w (Ret w [] fun τ v w' => v = .bool r) := by
 refine f_enter [] [] Tryz.func41 rfl Tryz.ntmps41 rfl (by simp) (by simp [fps]) (by simp [fps]) fun a S => ?_
 unfold tumbref2_refuses at h
 replace S := S.nk [] [(0, v_p_r), (1, v_p_s), (2, v_p_m), (3, .agg (GBounds.enc p_b).toArray), (4, .agg (GEntry.enc p_x).toArray), (5, v_p_counts)] [] rfl ⟨rfl, rfl, rfl, rfl, rfl, rfl, trivial⟩
 refine f_seq ?_
 refine f_region ?_
 refine l_box S (S.tm rfl) (cs := [.int .i64 p_b.Races, .int .i64 p_b.Club, .int .i64 p_b.Age, .int .i64 p_b.Day]) rfl rfl ?_; clear S; intro a w1 b1 hz1 hk1 S
 refine l_box S (S.tm rfl) (cs := [.string p_x.Who, .string p_x.Race]) rfl rfl ?_; clear S; intro a w2 b2 hz2 hk2 S
 refine lv S (rn_assign rfl) rfl ?_; clear S; intro a S
 refine l_done ?_
 replace S := S.nk [.blk b2 [.string p_x.Who, .string p_x.Race] 65, .blk b1 [.int .i64 p_b.Races, .int .i64 p_b.Club, .int .i64 p_b.Age, .int .i64 p_b.Day] 33] [(0, v_p_r), (1, v_p_s), (2, v_p_m), (5, v_p_counts), (9, .pointer (some ⟨b1, 0, none⟩)), (10, .pointer (some ⟨b2, 0, none⟩))] [true, true] rfl ⟨rfl, rfl, rfl, rfl, rfl, rfl, trivial⟩
 refine then_n ?_
 refine f_seq ?_
 refine f_region ?_
 refine lv S (rn_move (S.tm rfl)) rfl ?_; clear S; intro a S
 refine lv S (rn_fld fa_65_1 (S.tm rfl)) rfl ?_; clear S; intro a S
 refine lv S (rn_load Tryz.isAgg9 (S.tm rfl) (S.cell (i := 0) rfl rfl)) rfl ?_; clear S; intro a S
 refine l_enter S (fun _ => run_call (vs := [v_p_r, .string p_x.Race]) ⟨(S.tm rfl), (S.tm rfl), trivial⟩ Tryz.call62) (tumbref2_raceOf_ok _ v_p_r p_r (hs_p_r.mono (S.le_arg nil_sub)) p_x.Race _ rfl) rfl ?_; clear S; intro v1 a w3 hv1 hk3 hn1 S
 subst hv1
 refine lv S (rn_move (S.tm rfl)) rfl ?_; clear S; intro a S
 refine lv S (rn_extract (S.tm rfl) rfl) rfl ?_; clear S; intro a S
 refine lv S (rn_extract (S.tm rfl) rfl) rfl ?_; clear S; intro a S
 refine l_alloc S Tryz.zeroValue54 (cs := [.string k_empty, .int .i64 0, .int .i64 0, .int .i64 0, .int .i64 0, .int .i64 0, .int .i64 0, .int .i64 0]) rfl rfl ?_; clear S; intro a w4 b3 hz3 hk4 S
 refine l_store S (S.tm rfl) (S.tm rfl) (i := 0) (off := 0) rfl Tryz.sizeOf54 (vs := [.string (((tumbref2_raceOf p_r p_x.Race).1).Key), .int .i64 (((tumbref2_raceOf p_r p_x.Race).1).Metres), .int .i64 (((tumbref2_raceOf p_r p_x.Race).1).Stroke), .int .i64 (((tumbref2_raceOf p_r p_x.Race).1).Course), .int .i64 (((tumbref2_raceOf p_r p_x.Race).1).Legs), .int .i64 (((tumbref2_raceOf p_r p_x.Race).1).Sex), .int .i64 (((tumbref2_raceOf p_r p_x.Race).1).Young), .int .i64 (((tumbref2_raceOf p_r p_x.Race).1).Old)]) rfl rfl rfl rfl ?_; clear S; intro w5 hk5 S
 refine lv S (rn_assign (S.tm rfl)) rfl ?_; clear S; intro a S
 refine l_done ?_
 replace S := S.nk [.blk b3 [.string (((tumbref2_raceOf p_r p_x.Race).1).Key), .int .i64 (((tumbref2_raceOf p_r p_x.Race).1).Metres), .int .i64 (((tumbref2_raceOf p_r p_x.Race).1).Stroke), .int .i64 (((tumbref2_raceOf p_r p_x.Race).1).Course), .int .i64 (((tumbref2_raceOf p_r p_x.Race).1).Legs), .int .i64 (((tumbref2_raceOf p_r p_x.Race).1).Sex), .int .i64 (((tumbref2_raceOf p_r p_x.Race).1).Young), .int .i64 (((tumbref2_raceOf p_r p_x.Race).1).Old)] 54, .blk b2 [.string p_x.Who, .string p_x.Race] 65, .blk b1 [.int .i64 p_b.Races, .int .i64 p_b.Club, .int .i64 p_b.Age, .int .i64 p_b.Day] 33] [(1, v_p_s), (2, v_p_m), (5, v_p_counts), (9, .pointer (some ⟨b1, 0, none⟩)), (10, .pointer (some ⟨b2, 0, none⟩)), (13, .pointer (some ⟨b3, 0, none⟩)), (14, .bool ((tumbref2_raceOf p_r p_x.Race).2))] [true, true, true] rfl ⟨rfl, rfl, rfl, rfl, rfl, rfl, rfl, trivial⟩
 refine then_n ?_
 refine f_seq ?_
 refine f_region ?_
 refine lv S (rn_move (S.tm rfl)) rfl ?_; clear S; intro a S
 refine lv S (rn_fld fa_65_0 (S.tm rfl)) rfl ?_; clear S; intro a S
 refine lv S (rn_load Tryz.isAgg9 (S.tm rfl) (S.cell (i := 1) rfl rfl)) rfl ?_; clear S; intro a S
 refine l_enter S (fun _ => run_call (vs := [v_p_s, .string p_x.Who]) ⟨(S.tm rfl), (S.tm rfl), trivial⟩ Tryz.call63) (tumbref2_swimmerOf_ok _ v_p_s p_s (hs_p_s.mono (S.le_arg nil_sub)) p_x.Who _ rfl) rfl ?_; clear S; intro v2 a w6 hv2 hk6 hn2 S
 subst hv2
 refine lv S (rn_move (S.tm rfl)) rfl ?_; clear S; intro a S
 refine lv S (rn_extract (S.tm rfl) rfl) rfl ?_; clear S; intro a S
 refine lv S (rn_extract (S.tm rfl) rfl) rfl ?_; clear S; intro a S
 refine l_alloc S Tryz.zeroValue60 (cs := [.string k_empty, .int .i64 0, .int .i64 0]) rfl rfl ?_; clear S; intro a w7 b4 hz4 hk7 S
 refine l_store S (S.tm rfl) (S.tm rfl) (i := 0) (off := 0) rfl Tryz.sizeOf60 (vs := [.string (((tumbref2_swimmerOf p_s p_x.Who).1).Key), .int .i64 (((tumbref2_swimmerOf p_s p_x.Who).1).Sex), .int .i64 (((tumbref2_swimmerOf p_s p_x.Who).1).Born)]) rfl rfl rfl rfl ?_; clear S; intro w8 hk8 S
 refine lv S (rn_assign (S.tm rfl)) rfl ?_; clear S; intro a S
 refine l_done ?_
 replace S := S.nk [.blk b4 [.string (((tumbref2_swimmerOf p_s p_x.Who).1).Key), .int .i64 (((tumbref2_swimmerOf p_s p_x.Who).1).Sex), .int .i64 (((tumbref2_swimmerOf p_s p_x.Who).1).Born)] 60, .blk b3 [.string (((tumbref2_raceOf p_r p_x.Race).1).Key), .int .i64 (((tumbref2_raceOf p_r p_x.Race).1).Metres), .int .i64 (((tumbref2_raceOf p_r p_x.Race).1).Stroke), .int .i64 (((tumbref2_raceOf p_r p_x.Race).1).Course), .int .i64 (((tumbref2_raceOf p_r p_x.Race).1).Legs), .int .i64 (((tumbref2_raceOf p_r p_x.Race).1).Sex), .int .i64 (((tumbref2_raceOf p_r p_x.Race).1).Young), .int .i64 (((tumbref2_raceOf p_r p_x.Race).1).Old)] 54, .blk b2 [.string p_x.Who, .string p_x.Race] 65, .blk b1 [.int .i64 p_b.Races, .int .i64 p_b.Club, .int .i64 p_b.Age, .int .i64 p_b.Day] 33] [(2, v_p_m), (5, v_p_counts), (9, .pointer (some ⟨b1, 0, none⟩)), (10, .pointer (some ⟨b2, 0, none⟩)), (13, .pointer (some ⟨b3, 0, none⟩)), (14, .bool ((tumbref2_raceOf p_r p_x.Race).2)), (15, .pointer (some ⟨b4, 0, none⟩)), (16, .bool ((tumbref2_swimmerOf p_s p_x.Who).2))] [true, true, true, true] rfl ⟨rfl, rfl, rfl, rfl, rfl, rfl, rfl, rfl, trivial⟩
 refine then_n ?_
 refine f_seq ?_
 refine f_seq ?_
 refine f_region ?_
 refine lv S (rn_move (S.tm rfl)) rfl ?_; clear S; intro a S
 refine lv S (rn_not (S.tm rfl)) rfl ?_; clear S; intro a S
 refine lv S (rn_move (S.tm rfl)) rfl ?_; clear S; intro a S
 refine f_cutm 4 (fun a w' => Keep [] w8 w' ∧ Sx w [] nov [.blk b4 [.string (((tumbref2_swimmerOf p_s p_x.Who).1).Key), .int .i64 (((tumbref2_swimmerOf p_s p_x.Who).1).Sex), .int .i64 (((tumbref2_swimmerOf p_s p_x.Who).1).Born)] 60, .blk b3 [.string (((tumbref2_raceOf p_r p_x.Race).1).Key), .int .i64 (((tumbref2_raceOf p_r p_x.Race).1).Metres), .int .i64 (((tumbref2_raceOf p_r p_x.Race).1).Stroke), .int .i64 (((tumbref2_raceOf p_r p_x.Race).1).Course), .int .i64 (((tumbref2_raceOf p_r p_x.Race).1).Legs), .int .i64 (((tumbref2_raceOf p_r p_x.Race).1).Sex), .int .i64 (((tumbref2_raceOf p_r p_x.Race).1).Young), .int .i64 (((tumbref2_raceOf p_r p_x.Race).1).Old)] 54, .blk b2 [.string p_x.Who, .string p_x.Race] 65, .blk b1 [.int .i64 p_b.Races, .int .i64 p_b.Club, .int .i64 p_b.Age, .int .i64 p_b.Day] 33] [(2, v_p_m), (5, v_p_counts), (9, .pointer (some ⟨b1, 0, none⟩)), (10, .pointer (some ⟨b2, 0, none⟩)), (13, .pointer (some ⟨b3, 0, none⟩)), (15, .pointer (some ⟨b4, 0, none⟩)), (16, .bool ((tumbref2_swimmerOf p_s p_x.Who).2)), (42, .bool ((!((tumbref2_raceOf p_r p_x.Race).2)) || (decide (1 < (((tumbref2_raceOf p_r p_x.Race).1).Legs)))))] 115 a w') ?_ ?_
 ·rcases Bool.eq_false_or_eq_true (!((tumbref2_raceOf p_r p_x.Race).2)) with hb1 | hb1
  ·refine l_skip S rfl rfl rfl (neq_t hb1) rfl ?_ rfl; clear S; intro a S
   refine l_skip S rfl rfl rfl (neq_t hb1) rfl ?_ rfl; clear S; intro a S
   refine l_skip S rfl rfl rfl (neq_t hb1) rfl ?_ rfl; clear S; intro a S
   refine lv S (rn_or_t (decide (1 < (((tumbref2_raceOf p_r p_x.Race).1).Legs))) hb1 (S.tm rfl) rfl) rfl ?_; clear S; intro a S
   refine l_done ?_
   refine then_n ?_
   exact ⟨Keep.refl _ _, S.nf [true, true, true, true] rfl ⟨rfl, rfl, rfl, rfl, rfl, rfl, rfl, rfl, trivial⟩⟩
  ·refine l_want S rfl rfl rfl hb1 ?_
   refine lv S (rn_fld fa_54_4 (S.tm rfl)) rfl ?_; clear S; intro a S
   refine l_want S rfl rfl rfl hb1 ?_
   refine lv S (rn_load Tryz.isAgg3 (S.tm rfl) (S.cell (i := 1) rfl rfl)) rfl ?_; clear S; intro a S
   refine l_want S rfl rfl rfl hb1 ?_
   refine lv S (rn_gtr (S.tm rfl) rfl) rfl ?_; clear S; intro a S
   refine lv S (rn_or_f hb1 (S.tm rfl) (S.tm rfl)) rfl ?_; clear S; intro a S
   refine l_done ?_
   refine then_n ?_
   exact ⟨Keep.refl _ _, S.nf [true, true, true, true] rfl ⟨rfl, rfl, rfl, rfl, rfl, rfl, rfl, rfl, trivial⟩⟩
 clear S; rintro a w9 ⟨hk9, S⟩
 refine lv S (rn_move (S.tm rfl)) rfl ?_; clear S; intro a S
 refine f_cutm 3 (fun a w' => Keep [] w9 w' ∧ Sx w [] nov [.blk b4 [.string (((tumbref2_swimmerOf p_s p_x.Who).1).Key), .int .i64 (((tumbref2_swimmerOf p_s p_x.Who).1).Sex), .int .i64 (((tumbref2_swimmerOf p_s p_x.Who).1).Born)] 60, .blk b3 [.string (((tumbref2_raceOf p_r p_x.Race).1).Key), .int .i64 (((tumbref2_raceOf p_r p_x.Race).1).Metres), .int .i64 (((tumbref2_raceOf p_r p_x.Race).1).Stroke), .int .i64 (((tumbref2_raceOf p_r p_x.Race).1).Course), .int .i64 (((tumbref2_raceOf p_r p_x.Race).1).Legs), .int .i64 (((tumbref2_raceOf p_r p_x.Race).1).Sex), .int .i64 (((tumbref2_raceOf p_r p_x.Race).1).Young), .int .i64 (((tumbref2_raceOf p_r p_x.Race).1).Old)] 54, .blk b2 [.string p_x.Who, .string p_x.Race] 65, .blk b1 [.int .i64 p_b.Races, .int .i64 p_b.Club, .int .i64 p_b.Age, .int .i64 p_b.Day] 33] [(2, v_p_m), (5, v_p_counts), (9, .pointer (some ⟨b1, 0, none⟩)), (10, .pointer (some ⟨b2, 0, none⟩)), (13, .pointer (some ⟨b3, 0, none⟩)), (15, .pointer (some ⟨b4, 0, none⟩)), (46, .bool (((!((tumbref2_raceOf p_r p_x.Race).2)) || (decide (1 < (((tumbref2_raceOf p_r p_x.Race).1).Legs)))) || (!((tumbref2_swimmerOf p_s p_x.Who).2))))] 115 a w') ?_ ?_
 ·rcases Bool.eq_false_or_eq_true ((!((tumbref2_raceOf p_r p_x.Race).2)) || (decide (1 < (((tumbref2_raceOf p_r p_x.Race).1).Legs)))) with hb2 | hb2
  ·refine l_skip S rfl rfl rfl (neq_t hb2) rfl ?_ rfl; clear S; intro a S
   refine l_skip S rfl rfl rfl (neq_t hb2) rfl ?_ rfl; clear S; intro a S
   refine lv S (rn_or_t (!((tumbref2_swimmerOf p_s p_x.Who).2)) hb2 (S.tm rfl) rfl) rfl ?_; clear S; intro a S
   refine l_done ?_
   refine then_n ?_
   exact ⟨Keep.refl _ _, S.nf [true, true, true, true] rfl ⟨rfl, rfl, rfl, rfl, rfl, rfl, rfl, trivial⟩⟩
  ·refine l_want S rfl rfl rfl hb2 ?_
   refine lv S (rn_move (S.tm rfl)) rfl ?_; clear S; intro a S
   refine l_want S rfl rfl rfl hb2 ?_
   refine lv S (rn_not (S.tm rfl)) rfl ?_; clear S; intro a S
   refine lv S (rn_or_f hb2 (S.tm rfl) (S.tm rfl)) rfl ?_; clear S; intro a S
   refine l_done ?_
   refine then_n ?_
   exact ⟨Keep.refl _ _, S.nf [true, true, true, true] rfl ⟨rfl, rfl, rfl, rfl, rfl, rfl, rfl, trivial⟩⟩
 clear S; rintro a w10 ⟨hk10, S⟩
 refine lv S (rn_move (S.tm rfl)) rfl ?_; clear S; intro a S
 refine f_cutm 6 (fun a w' => Keep [] w10 w' ∧ Sx w [] nov [.blk b4 [.string (((tumbref2_swimmerOf p_s p_x.Who).1).Key), .int .i64 (((tumbref2_swimmerOf p_s p_x.Who).1).Sex), .int .i64 (((tumbref2_swimmerOf p_s p_x.Who).1).Born)] 60, .blk b3 [.string (((tumbref2_raceOf p_r p_x.Race).1).Key), .int .i64 (((tumbref2_raceOf p_r p_x.Race).1).Metres), .int .i64 (((tumbref2_raceOf p_r p_x.Race).1).Stroke), .int .i64 (((tumbref2_raceOf p_r p_x.Race).1).Course), .int .i64 (((tumbref2_raceOf p_r p_x.Race).1).Legs), .int .i64 (((tumbref2_raceOf p_r p_x.Race).1).Sex), .int .i64 (((tumbref2_raceOf p_r p_x.Race).1).Young), .int .i64 (((tumbref2_raceOf p_r p_x.Race).1).Old)] 54, .blk b2 [.string p_x.Who, .string p_x.Race] 65, .blk b1 [.int .i64 p_b.Races, .int .i64 p_b.Club, .int .i64 p_b.Age, .int .i64 p_b.Day] 33] [(2, v_p_m), (5, v_p_counts), (9, .pointer (some ⟨b1, 0, none⟩)), (10, .pointer (some ⟨b2, 0, none⟩)), (13, .pointer (some ⟨b3, 0, none⟩)), (15, .pointer (some ⟨b4, 0, none⟩)), (53, .bool ((((!((tumbref2_raceOf p_r p_x.Race).2)) || (decide (1 < (((tumbref2_raceOf p_r p_x.Race).1).Legs)))) || (!((tumbref2_swimmerOf p_s p_x.Who).2))) || (decide (p_b.Day < (((tumbref2_swimmerOf p_s p_x.Who).1).Born)))))] 115 a w') ?_ ?_
 ·rcases Bool.eq_false_or_eq_true (((!((tumbref2_raceOf p_r p_x.Race).2)) || (decide (1 < (((tumbref2_raceOf p_r p_x.Race).1).Legs)))) || (!((tumbref2_swimmerOf p_s p_x.Who).2))) with hb3 | hb3
  ·refine l_skip S rfl rfl rfl (neq_t hb3) rfl ?_ rfl; clear S; intro a S
   refine l_skip S rfl rfl rfl (neq_t hb3) rfl ?_ rfl; clear S; intro a S
   refine l_skip S rfl rfl rfl (neq_t hb3) rfl ?_ rfl; clear S; intro a S
   refine l_skip S rfl rfl rfl (neq_t hb3) rfl ?_ rfl; clear S; intro a S
   refine l_skip S rfl rfl rfl (neq_t hb3) rfl ?_ rfl; clear S; intro a S
   refine lv S (rn_or_t (decide (p_b.Day < (((tumbref2_swimmerOf p_s p_x.Who).1).Born))) hb3 (S.tm rfl) rfl) rfl ?_; clear S; intro a S
   refine l_done ?_
   refine then_n ?_
   exact ⟨Keep.refl _ _, S.nf [true, true, true, true] rfl ⟨rfl, rfl, rfl, rfl, rfl, rfl, rfl, trivial⟩⟩
  ·refine l_want S rfl rfl rfl hb3 ?_
   refine lv S (rn_fld fa_60_2 (S.tm rfl)) rfl ?_; clear S; intro a S
   refine l_want S rfl rfl rfl hb3 ?_
   refine lv S (rn_load Tryz.isAgg3 (S.tm rfl) (S.cell (i := 0) rfl rfl)) rfl ?_; clear S; intro a S
   refine l_want S rfl rfl rfl hb3 ?_
   refine lv S (rn_fld fa_33_3 (S.tm rfl)) rfl ?_; clear S; intro a S
   refine l_want S rfl rfl rfl hb3 ?_
   refine lv S (rn_load Tryz.isAgg3 (S.tm rfl) (S.cell (i := 3) rfl rfl)) rfl ?_; clear S; intro a S
   refine l_want S rfl rfl rfl hb3 ?_
   refine lv S (rn_gtr (S.tm rfl) (S.tm rfl)) rfl ?_; clear S; intro a S
   refine lv S (rn_or_f hb3 (S.tm rfl) (S.tm rfl)) rfl ?_; clear S; intro a S
   refine l_done ?_
   refine then_n ?_
   exact ⟨Keep.refl _ _, S.nf [true, true, true, true] rfl ⟨rfl, rfl, rfl, rfl, rfl, rfl, rfl, trivial⟩⟩
 clear S; rintro a w11 ⟨hk11, S⟩
 refine lv S (rn_move (S.tm rfl)) rfl ?_; clear S; intro a S
 obtain ⟨j1, hj1, h⟩ := joinE h
 refine f_cutm 9 (fun a w' => ∃ c1, j1 c1 = some r ∧ Keep [] w11 w' ∧ Sx w [] nov [.blk b4 [.string (((tumbref2_swimmerOf p_s p_x.Who).1).Key), .int .i64 (((tumbref2_swimmerOf p_s p_x.Who).1).Sex), .int .i64 (((tumbref2_swimmerOf p_s p_x.Who).1).Born)] 60, .blk b3 [.string (((tumbref2_raceOf p_r p_x.Race).1).Key), .int .i64 (((tumbref2_raceOf p_r p_x.Race).1).Metres), .int .i64 (((tumbref2_raceOf p_r p_x.Race).1).Stroke), .int .i64 (((tumbref2_raceOf p_r p_x.Race).1).Course), .int .i64 (((tumbref2_raceOf p_r p_x.Race).1).Legs), .int .i64 (((tumbref2_raceOf p_r p_x.Race).1).Sex), .int .i64 (((tumbref2_raceOf p_r p_x.Race).1).Young), .int .i64 (((tumbref2_raceOf p_r p_x.Race).1).Old)] 54, .blk b2 [.string p_x.Who, .string p_x.Race] 65, .blk b1 [.int .i64 p_b.Races, .int .i64 p_b.Club, .int .i64 p_b.Age, .int .i64 p_b.Day] 33] [(2, v_p_m), (5, v_p_counts), (9, .pointer (some ⟨b1, 0, none⟩)), (10, .pointer (some ⟨b2, 0, none⟩)), (63, .bool c1)] 115 a w') ?_ ?_
 ·rcases Bool.eq_false_or_eq_true ((((!((tumbref2_raceOf p_r p_x.Race).2)) || (decide (1 < (((tumbref2_raceOf p_r p_x.Race).1).Legs)))) || (!((tumbref2_swimmerOf p_s p_x.Who).2))) || (decide (p_b.Day < (((tumbref2_swimmerOf p_s p_x.Who).1).Born)))) with hb4 | hb4
  ·replace h := iteT h hb4
   refine l_skip S rfl rfl rfl (neq_t hb4) rfl ?_ rfl; clear S; intro a S
   refine l_skip S rfl rfl rfl (neq_t hb4) rfl ?_ rfl; clear S; intro a S
   refine l_skip S rfl rfl rfl (neq_t hb4) rfl ?_ rfl; clear S; intro a S
   refine l_skip S rfl rfl rfl (neq_t hb4) rfl ?_ rfl; clear S; intro a S
   refine l_skip S rfl rfl rfl (neq_t hb4) rfl ?_ rfl; clear S; intro a S
   refine l_skip S rfl rfl rfl (neq_t hb4) rfl ?_ rfl; clear S; intro a S
   refine l_skip S rfl rfl rfl (neq_t hb4) rfl ?_ rfl; clear S; intro a S
   refine l_skip S rfl rfl rfl (neq_t hb4) rfl ?_ rfl; clear S; intro a S
   refine lv S (rn_or_t true hb4 (S.tm rfl) rfl) rfl ?_; clear S; intro a S
   refine l_done ?_
   refine then_n ?_
   exact ⟨_, h, Keep.refl _ _, S.nf [true, true, true, true] rfl ⟨rfl, rfl, rfl, rfl, rfl, trivial⟩⟩
  ·replace h := iteF h hb4
   refine l_want S rfl rfl rfl hb4 ?_
   refine lv S (rn_ldA Tryz.isAgg54 Tryz.sizeOf54 (off := 0) (o := 0) (part := [.string (((tumbref2_raceOf p_r p_x.Race).1).Key), .int .i64 (((tumbref2_raceOf p_r p_x.Race).1).Metres), .int .i64 (((tumbref2_raceOf p_r p_x.Race).1).Stroke), .int .i64 (((tumbref2_raceOf p_r p_x.Race).1).Course), .int .i64 (((tumbref2_raceOf p_r p_x.Race).1).Legs), .int .i64 (((tumbref2_raceOf p_r p_x.Race).1).Sex), .int .i64 (((tumbref2_raceOf p_r p_x.Race).1).Young), .int .i64 (((tumbref2_raceOf p_r p_x.Race).1).Old)]) rfl rfl (S.tm rfl) (S.cellsAt (i := 1) rfl)) rfl ?_; clear S; intro a S
   refine l_want S rfl rfl rfl hb4 ?_
   refine lv S (rn_ldA Tryz.isAgg60 Tryz.sizeOf60 (off := 0) (o := 0) (part := [.string (((tumbref2_swimmerOf p_s p_x.Who).1).Key), .int .i64 (((tumbref2_swimmerOf p_s p_x.Who).1).Sex), .int .i64 (((tumbref2_swimmerOf p_s p_x.Who).1).Born)]) rfl rfl (S.tm rfl) (S.cellsAt (i := 0) rfl)) rfl ?_; clear S; intro a S
   refine l_want S rfl rfl rfl hb4 ?_
   refine lv S (rn_fld fa_33_3 (S.tm rfl)) rfl ?_; clear S; intro a S
   refine l_want S rfl rfl rfl hb4 ?_
   refine lv S (rn_load Tryz.isAgg3 (S.tm rfl) (S.cell (i := 3) rfl rfl)) rfl ?_; clear S; intro a S
   refine l_want S rfl rfl rfl hb4 ?_
   refine lv S (rn_fld fa_33_2 (S.tm rfl)) rfl ?_; clear S; intro a S
   refine l_want S rfl rfl rfl hb4 ?_
   refine lv S (rn_load Tryz.isAgg3 (S.tm rfl) (S.cell (i := 3) rfl rfl)) rfl ?_; clear S; intro a S
   refine l_want S rfl rfl rfl hb4 ?_
   obtain ⟨r1, hr1, h⟩ := bindE h
   refine l_enter S (fun _ => run_call (vs := [.agg (GRace.enc ((tumbref2_raceOf p_r p_x.Race).1)).toArray, .agg (GSwimmer.enc ((tumbref2_swimmerOf p_s p_x.Who).1)).toArray, .int .i64 p_b.Day, .int .i64 p_b.Age]) ⟨(S.tm rfl), (S.tm rfl), (S.tm rfl), (S.tm rfl), trivial⟩ Tryz.call64) (tumbref2_MayFor_ok _ ((tumbref2_raceOf p_r p_x.Race).1) ((tumbref2_swimmerOf p_s p_x.Who).1) p_b.Day p_b.Age _ hr1) rfl ?_; clear S; intro v3 a w13 hv3 hk12 hn3 S
   subst hv3
   refine l_want S rfl rfl rfl hb4 ?_
   refine lv S (rn_not (S.tm rfl)) rfl ?_; clear S; intro a S
   refine lv S (rn_or_f hb4 (S.tm rfl) (S.tm rfl)) rfl ?_; clear S; intro a S
   refine l_done ?_
   refine then_n ?_
   exact ⟨_, h, hk12, S.nf [true, true, true, true] rfl ⟨rfl, rfl, rfl, rfl, rfl, trivial⟩⟩
 clear S h; rintro a w12 ⟨c1, h, hk13, S⟩; rw [hj1] at h; clear hj1 j1
 refine l_done ?_
 replace S := S.nk [.blk b2 [.string p_x.Who, .string p_x.Race] 65, .blk b1 [.int .i64 p_b.Races, .int .i64 p_b.Club, .int .i64 p_b.Age, .int .i64 p_b.Day] 33] [(2, v_p_m), (5, v_p_counts), (9, .pointer (some ⟨b1, 0, none⟩)), (10, .pointer (some ⟨b2, 0, none⟩)), (63, .bool c1)] [false, false, true, true] rfl ⟨rfl, rfl, rfl, rfl, rfl, trivial⟩
 refine then_n ?_
 refine f_cond (S.tm rfl) (fun hb5 => ?_) (fun hb5 => ?_)
 ·replace h := iteT h hb5
  refine f_seq ?_
  refine f_region ?_
  refine lv S (rn_assign rfl) rfl ?_; clear S; intro a S
  refine l_done ?_
  replace S := S.nk [] [(12, .bool true)] [false, false] rfl ⟨rfl, trivial⟩
  refine then_n ?_
  refine wp_ret ?_
  refine then_r ?_
  obtain rfl := Option.some.inj h
  exact f_ret S Tryz.results41 rfl rfl
 ·replace h := iteF h hb5
  refine wp_skip ?_
  refine then_n ?_
  refine f_seq ?_
  refine f_region ?_
  refine lv S (rn_assign rfl) rfl ?_; clear S; intro a S
  refine lv S (rn_assign rfl) rfl ?_; clear S; intro a S
  refine l_done ?_
  replace S := S.nk [.blk b2 [.string p_x.Who, .string p_x.Race] 65, .blk b1 [.int .i64 p_b.Races, .int .i64 p_b.Club, .int .i64 p_b.Age, .int .i64 p_b.Day] 33] [(2, v_p_m), (5, v_p_counts), (9, .pointer (some ⟨b1, 0, none⟩)), (10, .pointer (some ⟨b2, 0, none⟩)), (17, .int .i64 0), (18, .int .i64 0)] [true, true] rfl ⟨rfl, rfl, rfl, rfl, rfl, rfl, trivial⟩
  refine then_n ?_
  refine f_seq ?_
  refine f_region ?_
  refine lv S (rn_move (S.tm rfl)) rfl ?_; clear S; intro a S
  refine lv S (rn_fld fa_65_0 (S.tm rfl)) rfl ?_; clear S; intro a S
  refine lv S (rn_load Tryz.isAgg9 (S.tm rfl) (S.cell (i := 0) rfl rfl)) rfl ?_; clear S; intro a S
  refine lv S (rn_fld fa_33_3 (S.tm rfl)) rfl ?_; clear S; intro a S
  refine lv S (rn_load Tryz.isAgg3 (S.tm rfl) (S.cell (i := 1) rfl rfl)) rfl ?_; clear S; intro a S
  refine l_enter S (fun _ => run_call (vs := [v_p_m, .string p_x.Who, .int .i64 p_b.Day]) ⟨(S.tm rfl), (S.tm rfl), (S.tm rfl), trivial⟩ Tryz.call65) (tumbref2_ClubFor_ok _ v_p_m p_m (hs_p_m.mono (S.le_arg nil_sub)) p_x.Who p_b.Day _ rfl) rfl ?_; clear S; intro v4 a w14 hv4 hk14 hn4 S
  subst hv4
  refine lv S (rn_assign (S.tm rfl)) rfl ?_; clear S; intro a S
  refine l_done ?_
  replace S := S.nk [.blk b2 [.string p_x.Who, .string p_x.Race] 65, .blk b1 [.int .i64 p_b.Races, .int .i64 p_b.Club, .int .i64 p_b.Age, .int .i64 p_b.Day] 33] [(2, v_p_m), (5, v_p_counts), (9, .pointer (some ⟨b1, 0, none⟩)), (10, .pointer (some ⟨b2, 0, none⟩)), (17, .int .i64 0), (18, .int .i64 0), (19, .string (tumbref2_ClubFor p_m p_x.Who p_b.Day))] [true, true] rfl ⟨rfl, rfl, rfl, rfl, rfl, rfl, rfl, trivial⟩
  refine then_n ?_
  refine f_seq ?_
  refine f_seq ?_
  refine f_region ?_
  refine lv S (rn_move (S.tm rfl)) rfl ?_; clear S; intro a S
  refine lv S (rn_lenT sl_35 (S.tm rfl) (slc_len hs_p_counts)) rfl ?_; clear S; intro a S
  refine lv S (rn_move rfl) rfl ?_; clear S; intro a S
  refine l_done ?_
  replace S := S.nk [.blk b2 [.string p_x.Who, .string p_x.Race] 65, .blk b1 [.int .i64 p_b.Races, .int .i64 p_b.Club, .int .i64 p_b.Age, .int .i64 p_b.Day] 33] [(2, v_p_m), (9, .pointer (some ⟨b1, 0, none⟩)), (10, .pointer (some ⟨b2, 0, none⟩)), (17, .int .i64 0), (18, .int .i64 0), (19, .string (tumbref2_ClubFor p_m p_x.Who p_b.Day)), (70, v_p_counts), (71, .int .i64 (p_counts.length : Int)), (72, .int .i64 0)] [true, true] rfl ⟨rfl, rfl, rfl, rfl, rfl, rfl, rfl, rfl, rfl, trivial⟩
  refine then_n ?_
  obtain ⟨j2, hj2, h⟩ := joinE h
  refine f_join (fun a w' => ∃ x1 : Int, ∃ x2 : Int, j2 x1 x2 = some r ∧ Sx w [] nov [.blk b2 [.string p_x.Who, .string p_x.Race] 65, .blk b1 [.int .i64 p_b.Races, .int .i64 p_b.Club, .int .i64 p_b.Age, .int .i64 p_b.Day] 33] [(9, .pointer (some ⟨b1, 0, none⟩)), (17, .int .i64 x1), (18, .int .i64 x2), (19, .string (tumbref2_ClubFor p_m p_x.Who p_b.Day))] 115 a w') ?_ ?_
  ·refine wp_block ?_
   refine f_loop (fun (ys1 : List GEntry) a w' => ∃ i1 : Nat, ∃ x1 : Int, ∃ x2 : Int, (∃ dn, p_counts = dn ++ ys1 ∧ dn.length = i1) ∧ tumbref2_refuses_l1 p_x p_m p_b j2 ys1 i1 x1 x2 = some r ∧ Sx w [] nov [.blk b2 [.string p_x.Who, .string p_x.Race] 65, .blk b1 [.int .i64 p_b.Races, .int .i64 p_b.Club, .int .i64 p_b.Age, .int .i64 p_b.Day] 33] [(2, v_p_m), (9, .pointer (some ⟨b1, 0, none⟩)), (10, .pointer (some ⟨b2, 0, none⟩)), (17, .int .i64 x1), (18, .int .i64 x2), (19, .string (tumbref2_ClubFor p_m p_x.Who p_b.Day)), (70, v_p_counts), (71, .int .i64 (p_counts.length : Int)), (72, .int .i64 (i1 : Int))] 115 a w') List.length p_counts ⟨0, 0, 0, ⟨[], rfl, rfl⟩, h, S.nf [true, true] rfl ⟨rfl, rfl, rfl, rfl, rfl, rfl, rfl, rfl, rfl, trivial⟩⟩ ?_
   clear S h; rintro ys1 a w15 ⟨i1, x1, x2, ⟨dn, hd1, hi1⟩, h, S⟩
   cases ys1 with
   | nil =>
    rw [tumbref2_refuses_l1.eq_1] at h
    refine f_seq ?_
    refine f_region ?_
    refine lv S (rn_lss (S.tm rfl) (S.tm rfl)) rfl ?_; clear S; intro a S
    refine l_done ?_
    replace S := S.nk [.blk b2 [.string p_x.Who, .string p_x.Race] 65, .blk b1 [.int .i64 p_b.Races, .int .i64 p_b.Club, .int .i64 p_b.Age, .int .i64 p_b.Day] 33] [(2, v_p_m), (9, .pointer (some ⟨b1, 0, none⟩)), (10, .pointer (some ⟨b2, 0, none⟩)), (17, .int .i64 x1), (18, .int .i64 x2), (19, .string (tumbref2_ClubFor p_m p_x.Who p_b.Day)), (70, v_p_counts), (71, .int .i64 (p_counts.length : Int)), (72, .int .i64 (i1 : Int)), (73, .bool (decide ((i1 : Int) < (p_counts.length : Int))))] [true, true] rfl ⟨rfl, rfl, rfl, rfl, rfl, rfl, rfl, rfl, rfl, rfl, trivial⟩
    refine then_n ?_
    refine f_seq ?_
    refine wp_cond_false ((S.tm rfl).trans (congrArg Value.bool (rng_nil hd1 hi1))) ?_
    refine wp_exit ?_
    refine then_x ?_
    refine then_x ?_
    refine x_same ?_
    refine then_n ?_
    exact ⟨x1, x2, h, S.nf [true, true] rfl ⟨rfl, rfl, rfl, rfl, trivial⟩⟩
   | cons y1 ys1 =>
    rw [tumbref2_refuses_l1.eq_2] at h
    refine f_seq ?_
    refine f_region ?_
    refine lv S (rn_lss (S.tm rfl) (S.tm rfl)) rfl ?_; clear S; intro a S
    refine l_done ?_
    replace S := S.nk [.blk b2 [.string p_x.Who, .string p_x.Race] 65, .blk b1 [.int .i64 p_b.Races, .int .i64 p_b.Club, .int .i64 p_b.Age, .int .i64 p_b.Day] 33] [(2, v_p_m), (9, .pointer (some ⟨b1, 0, none⟩)), (10, .pointer (some ⟨b2, 0, none⟩)), (17, .int .i64 x1), (18, .int .i64 x2), (19, .string (tumbref2_ClubFor p_m p_x.Who p_b.Day)), (70, v_p_counts), (71, .int .i64 (p_counts.length : Int)), (72, .int .i64 (i1 : Int)), (73, .bool (decide ((i1 : Int) < (p_counts.length : Int))))] [true, true] rfl ⟨rfl, rfl, rfl, rfl, rfl, rfl, rfl, rfl, rfl, rfl, trivial⟩
    refine then_n ?_
    refine f_seq ?_
    refine wp_cond_true ((S.tm rfl).trans (congrArg Value.bool (rng_cons hd1 hi1))) ?_
    refine wp_skip ?_
    refine then_n ?_
    refine f_seq ?_
    obtain ⟨j3, hj3, h⟩ := joinE h
    refine f_join (fun a w' => ∃ x3 : Int, ∃ x4 : Int, j3 x3 x4 = some r ∧ Sx w [] nov [.blk b2 [.string p_x.Who, .string p_x.Race] 65, .blk b1 [.int .i64 p_b.Races, .int .i64 p_b.Club, .int .i64 p_b.Age, .int .i64 p_b.Day] 33] [(2, v_p_m), (9, .pointer (some ⟨b1, 0, none⟩)), (10, .pointer (some ⟨b2, 0, none⟩)), (17, .int .i64 x3), (18, .int .i64 x4), (19, .string (tumbref2_ClubFor p_m p_x.Who p_b.Day)), (70, v_p_counts), (71, .int .i64 (p_counts.length : Int)), (72, .int .i64 (i1 : Int))] 115 a w') ?_ ?_
    ·refine wp_block ?_
     refine f_seq ?_
     refine f_region ?_
     obtain ⟨b5, o1, hm1, hr2⟩ := rn_indexT (a := a) (x := .tmp 70) (y := .tmp 72) (ty := 0) sl_35 hs_p_counts (get_mid hd1 hi1) rfl (S.tm rfl) (S.tm rfl)
     refine lv S (hr2 _) rfl ?_; clear S; intro a S
     clear hr2
     refine lv S (rn_ldA Tryz.isAgg65 Tryz.sizeOf65 (off := o1) (o := 0) (part := [.string y1.Who, .string y1.Race]) rfl rfl (S.tm rfl) (hm1.at S.emb0)) rfl ?_; clear S; intro a S
     refine l_alloc S Tryz.zeroValue65 (cs := [.string k_empty, .string k_empty]) rfl rfl ?_; clear S; intro a w18 b6 hz5 hk15 S
     refine l_store S (S.tm rfl) (S.tm rfl) (i := 0) (off := 0) rfl Tryz.sizeOf65 (vs := [.string y1.Who, .string y1.Race]) rfl rfl rfl rfl ?_; clear S; intro w19 hk16 S
     refine l_done ?_
     replace S := S.nk [.blk b6 [.string y1.Who, .string y1.Race] 65, .blk b2 [.string p_x.Who, .string p_x.Race] 65, .blk b1 [.int .i64 p_b.Races, .int .i64 p_b.Club, .int .i64 p_b.Age, .int .i64 p_b.Day] 33] [(2, v_p_m), (9, .pointer (some ⟨b1, 0, none⟩)), (10, .pointer (some ⟨b2, 0, none⟩)), (17, .int .i64 x1), (18, .int .i64 x2), (19, .string (tumbref2_ClubFor p_m p_x.Who p_b.Day)), (21, .pointer (some ⟨b6, 0, none⟩)), (70, v_p_counts), (71, .int .i64 (p_counts.length : Int)), (72, .int .i64 (i1 : Int))] [true, true, true] rfl ⟨rfl, rfl, rfl, rfl, rfl, rfl, rfl, rfl, rfl, rfl, trivial⟩
     refine then_n ?_
     refine f_seq ?_
     refine f_seq ?_
     refine f_region ?_
     refine lv S (rn_fld fa_65_0 (S.tm rfl)) rfl ?_; clear S; intro a S
     refine lv S (rn_load Tryz.isAgg9 (S.tm rfl) (S.cell (i := 0) rfl rfl)) rfl ?_; clear S; intro a S
     refine lv S (rn_fld fa_65_0 (S.tm rfl)) rfl ?_; clear S; intro a S
     refine lv S (rn_load Tryz.isAgg9 (S.tm rfl) (S.cell (i := 1) rfl rfl)) rfl ?_; clear S; intro a S
     refine lv S (rn_seql (S.tm rfl) (S.tm rfl)) rfl ?_; clear S; intro a S
     refine l_done ?_
     replace S := S.nk [.blk b6 [.string y1.Who, .string y1.Race] 65, .blk b2 [.string p_x.Who, .string p_x.Race] 65, .blk b1 [.int .i64 p_b.Races, .int .i64 p_b.Club, .int .i64 p_b.Age, .int .i64 p_b.Day] 33] [(2, v_p_m), (9, .pointer (some ⟨b1, 0, none⟩)), (10, .pointer (some ⟨b2, 0, none⟩)), (17, .int .i64 x1), (18, .int .i64 x2), (19, .string (tumbref2_ClubFor p_m p_x.Who p_b.Day)), (21, .pointer (some ⟨b6, 0, none⟩)), (70, v_p_counts), (71, .int .i64 (p_counts.length : Int)), (72, .int .i64 (i1 : Int)), (80, .bool (decide (y1.Who = p_x.Who)))] [true, true, true] rfl ⟨rfl, rfl, rfl, rfl, rfl, rfl, rfl, rfl, rfl, rfl, rfl, trivial⟩
     refine then_n ?_
     obtain ⟨j4, hj4, h⟩ := joinE h
     refine f_join (fun a w' => ∃ x5 : Int, j4 x5 = some r ∧ Sx w [] nov [.blk b6 [.string y1.Who, .string y1.Race] 65, .blk b2 [.string p_x.Who, .string p_x.Race] 65, .blk b1 [.int .i64 p_b.Races, .int .i64 p_b.Club, .int .i64 p_b.Age, .int .i64 p_b.Day] 33] [(2, v_p_m), (9, .pointer (some ⟨b1, 0, none⟩)), (10, .pointer (some ⟨b2, 0, none⟩)), (17, .int .i64 x5), (18, .int .i64 x2), (19, .string (tumbref2_ClubFor p_m p_x.Who p_b.Day)), (21, .pointer (some ⟨b6, 0, none⟩)), (70, v_p_counts), (71, .int .i64 (p_counts.length : Int)), (72, .int .i64 (i1 : Int))] 115 a w') ?_ ?_
     ·refine f_cond (S.tm rfl) (fun hb6 => ?_) (fun hb6 => ?_)
      ·replace h := iteT h hb6
       refine f_region ?_
       refine lv S (rn_move (S.tm rfl)) rfl ?_; clear S; intro a S
       refine lv S (rn_add (S.tm rfl) rfl) rfl ?_; clear S; intro a S
       refine lv S (rn_assign (S.tm rfl)) rfl ?_; clear S; intro a S
       refine l_done ?_
       replace S := S.nk [.blk b6 [.string y1.Who, .string y1.Race] 65, .blk b2 [.string p_x.Who, .string p_x.Race] 65, .blk b1 [.int .i64 p_b.Races, .int .i64 p_b.Club, .int .i64 p_b.Age, .int .i64 p_b.Day] 33] [(2, v_p_m), (9, .pointer (some ⟨b1, 0, none⟩)), (10, .pointer (some ⟨b2, 0, none⟩)), (17, .int .i64 (W (x1 + 1))), (18, .int .i64 x2), (19, .string (tumbref2_ClubFor p_m p_x.Who p_b.Day)), (21, .pointer (some ⟨b6, 0, none⟩)), (70, v_p_counts), (71, .int .i64 (p_counts.length : Int)), (72, .int .i64 (i1 : Int))] [true, true, true] rfl ⟨rfl, rfl, rfl, rfl, rfl, rfl, rfl, rfl, rfl, rfl, trivial⟩
       refine then_n ?_
       exact ⟨W (x1 + 1), h, S.nf [true, true, true] rfl ⟨rfl, rfl, rfl, rfl, rfl, rfl, rfl, rfl, rfl, rfl, trivial⟩⟩
      ·replace h := iteF h hb6
       refine wp_skip ?_
       refine then_n ?_
       exact ⟨x1, h, S.nf [true, true, true] rfl ⟨rfl, rfl, rfl, rfl, rfl, rfl, rfl, rfl, rfl, rfl, trivial⟩⟩
     clear S h; rintro a w20 ⟨x5, h, S⟩; rw [hj4] at h; clear hj4 j4
     refine then_n ?_
     refine f_seq ?_
     refine f_region ?_
     refine lv S (rn_fld fa_65_1 (S.tm rfl)) rfl ?_; clear S; intro a S
     refine lv S (rn_load Tryz.isAgg9 (S.tm rfl) (S.cell (i := 0) rfl rfl)) rfl ?_; clear S; intro a S
     refine lv S (rn_fld fa_65_1 (S.tm rfl)) rfl ?_; clear S; intro a S
     refine lv S (rn_load Tryz.isAgg9 (S.tm rfl) (S.cell (i := 1) rfl rfl)) rfl ?_; clear S; intro a S
     refine lv S (rn_seql (S.tm rfl) (S.tm rfl)) rfl ?_; clear S; intro a S
     refine lv S (rn_move (S.tm rfl)) rfl ?_; clear S; intro a S
     refine f_cutm 9 (fun a w' => Keep [] w20 w' ∧ Sx w [] nov [.blk b6 [.string y1.Who, .string y1.Race] 65, .blk b2 [.string p_x.Who, .string p_x.Race] 65, .blk b1 [.int .i64 p_b.Races, .int .i64 p_b.Club, .int .i64 p_b.Age, .int .i64 p_b.Day] 33] [(2, v_p_m), (9, .pointer (some ⟨b1, 0, none⟩)), (10, .pointer (some ⟨b2, 0, none⟩)), (17, .int .i64 x5), (18, .int .i64 x2), (19, .string (tumbref2_ClubFor p_m p_x.Who p_b.Day)), (70, v_p_counts), (71, .int .i64 (p_counts.length : Int)), (72, .int .i64 (i1 : Int)), (97, .bool ((decide (y1.Race = p_x.Race)) && (decide ((tumbref2_ClubFor p_m y1.Who p_b.Day) = (tumbref2_ClubFor p_m p_x.Who p_b.Day)))))] 115 a w') ?_ ?_
     ·rcases Bool.eq_false_or_eq_true (decide (y1.Race = p_x.Race)) with hb7 | hb7
      ·refine l_want S rfl rfl rfl hb7 ?_
       refine lv S (rn_move (S.tm rfl)) rfl ?_; clear S; intro a S
       refine l_want S rfl rfl rfl hb7 ?_
       refine lv S (rn_fld fa_65_0 (S.tm rfl)) rfl ?_; clear S; intro a S
       refine l_want S rfl rfl rfl hb7 ?_
       refine lv S (rn_load Tryz.isAgg9 (S.tm rfl) (S.cell (i := 0) rfl rfl)) rfl ?_; clear S; intro a S
       refine l_want S rfl rfl rfl hb7 ?_
       refine lv S (rn_fld fa_33_3 (S.tm rfl)) rfl ?_; clear S; intro a S
       refine l_want S rfl rfl rfl hb7 ?_
       refine lv S (rn_load Tryz.isAgg3 (S.tm rfl) (S.cell (i := 2) rfl rfl)) rfl ?_; clear S; intro a S
       refine l_want S rfl rfl rfl hb7 ?_
       refine l_enter S (fun _ => run_call (vs := [v_p_m, .string y1.Who, .int .i64 p_b.Day]) ⟨(S.tm rfl), (S.tm rfl), (S.tm rfl), trivial⟩ Tryz.call65) (tumbref2_ClubFor_ok _ v_p_m p_m (hs_p_m.mono (S.le_arg nil_sub)) y1.Who p_b.Day _ rfl) rfl ?_; clear S; intro v5 a w22 hv5 hk17 hn5 S
       subst hv5
       refine l_want S rfl rfl rfl hb7 ?_
       refine lv S (rn_move (S.tm rfl)) rfl ?_; clear S; intro a S
       refine l_want S rfl rfl rfl hb7 ?_
       refine lv S (rn_seql (S.tm rfl) (S.tm rfl)) rfl ?_; clear S; intro a S
       refine lv S (rn_and_t hb7 (S.tm rfl) (S.tm rfl)) rfl ?_; clear S; intro a S
       refine l_done ?_
       refine then_n ?_
       exact ⟨hk17, S.nf [true, true, true] rfl ⟨rfl, rfl, rfl, rfl, rfl, rfl, rfl, rfl, rfl, rfl, trivial⟩⟩
      ·refine l_skip S rfl rfl rfl (neq_f hb7) rfl ?_ rfl; clear S; intro a S
       refine l_skip S rfl rfl rfl (neq_f hb7) rfl ?_ rfl; clear S; intro a S
       refine l_skip S rfl rfl rfl (neq_f hb7) rfl ?_ rfl; clear S; intro a S
       refine l_skip S rfl rfl rfl (neq_f hb7) rfl ?_ rfl; clear S; intro a S
       refine l_skip S rfl rfl rfl (neq_f hb7) rfl ?_ rfl; clear S; intro a S
       refine l_skip S rfl rfl rfl (neq_f hb7) rfl ?_ rfl; clear S; intro a S
       refine l_skip S rfl rfl rfl (neq_f hb7) rfl ?_ rfl; clear S; intro a S
       refine l_skip S rfl rfl rfl (neq_f hb7) rfl ?_ rfl; clear S; intro a S
       refine lv S (rn_and_f (decide ((tumbref2_ClubFor p_m y1.Who p_b.Day) = (tumbref2_ClubFor p_m p_x.Who p_b.Day))) hb7 (S.tm rfl) rfl) rfl ?_; clear S; intro a S
       refine l_done ?_
       refine then_n ?_
       exact ⟨Keep.refl _ _, S.nf [true, true, true] rfl ⟨rfl, rfl, rfl, rfl, rfl, rfl, rfl, rfl, rfl, rfl, trivial⟩⟩
     clear S; rintro a w21 ⟨hk18, S⟩
     refine l_done ?_
     replace S := S.nk [.blk b2 [.string p_x.Who, .string p_x.Race] 65, .blk b1 [.int .i64 p_b.Races, .int .i64 p_b.Club, .int .i64 p_b.Age, .int .i64 p_b.Day] 33] [(2, v_p_m), (9, .pointer (some ⟨b1, 0, none⟩)), (10, .pointer (some ⟨b2, 0, none⟩)), (17, .int .i64 x5), (18, .int .i64 x2), (19, .string (tumbref2_ClubFor p_m p_x.Who p_b.Day)), (70, v_p_counts), (71, .int .i64 (p_counts.length : Int)), (72, .int .i64 (i1 : Int)), (97, .bool ((decide (y1.Race = p_x.Race)) && (decide ((tumbref2_ClubFor p_m y1.Who p_b.Day) = (tumbref2_ClubFor p_m p_x.Who p_b.Day)))))] [false, true, true] rfl ⟨rfl, rfl, rfl, rfl, rfl, rfl, rfl, rfl, rfl, rfl, trivial⟩
     refine then_n ?_
     obtain ⟨j5, hj5, h⟩ := joinE h
     refine f_join (fun a w' => ∃ x6 : Int, j5 x6 = some r ∧ Sx w [] nov [.blk b2 [.string p_x.Who, .string p_x.Race] 65, .blk b1 [.int .i64 p_b.Races, .int .i64 p_b.Club, .int .i64 p_b.Age, .int .i64 p_b.Day] 33] [(2, v_p_m), (9, .pointer (some ⟨b1, 0, none⟩)), (10, .pointer (some ⟨b2, 0, none⟩)), (17, .int .i64 x5), (18, .int .i64 x6), (19, .string (tumbref2_ClubFor p_m p_x.Who p_b.Day)), (70, v_p_counts), (71, .int .i64 (p_counts.length : Int)), (72, .int .i64 (i1 : Int))] 115 a w') ?_ ?_
     ·refine f_cond (S.tm rfl) (fun hb8 => ?_) (fun hb8 => ?_)
      ·replace h := iteT h hb8
       refine f_region ?_
       refine lv S (rn_move (S.tm rfl)) rfl ?_; clear S; intro a S
       refine lv S (rn_add (S.tm rfl) rfl) rfl ?_; clear S; intro a S
       refine lv S (rn_assign (S.tm rfl)) rfl ?_; clear S; intro a S
       refine l_done ?_
       replace S := S.nk [.blk b2 [.string p_x.Who, .string p_x.Race] 65, .blk b1 [.int .i64 p_b.Races, .int .i64 p_b.Club, .int .i64 p_b.Age, .int .i64 p_b.Day] 33] [(2, v_p_m), (9, .pointer (some ⟨b1, 0, none⟩)), (10, .pointer (some ⟨b2, 0, none⟩)), (17, .int .i64 x5), (18, .int .i64 (W (x2 + 1))), (19, .string (tumbref2_ClubFor p_m p_x.Who p_b.Day)), (70, v_p_counts), (71, .int .i64 (p_counts.length : Int)), (72, .int .i64 (i1 : Int))] [true, true] rfl ⟨rfl, rfl, rfl, rfl, rfl, rfl, rfl, rfl, rfl, trivial⟩
       refine then_n ?_
       exact ⟨W (x2 + 1), h, S.nf [true, true] rfl ⟨rfl, rfl, rfl, rfl, rfl, rfl, rfl, rfl, rfl, trivial⟩⟩
      ·replace h := iteF h hb8
       refine wp_skip ?_
       refine then_n ?_
       exact ⟨x2, h, S.nf [true, true] rfl ⟨rfl, rfl, rfl, rfl, rfl, rfl, rfl, rfl, rfl, trivial⟩⟩
     clear S h; rintro a w23 ⟨x6, h, S⟩; rw [hj5] at h; clear hj5 j5
     refine blk_n ?_
     refine then_n ?_
     exact ⟨x5, x6, h, S.nf [true, true] rfl ⟨rfl, rfl, rfl, rfl, rfl, rfl, rfl, rfl, rfl, trivial⟩⟩
    clear S h; rintro a w17 ⟨x3, x4, h, S⟩; rw [hj3] at h; clear hj3 j3
    refine then_n ?_
    refine f_region ?_
    refine lv S (rn_add (S.tm rfl) rfl) rfl ?_; clear S; intro a S
    refine lv S (rn_move (S.tm rfl)) rfl ?_; clear S; intro a S
    refine l_done ?_
    replace S := S.nk [.blk b2 [.string p_x.Who, .string p_x.Race] 65, .blk b1 [.int .i64 p_b.Races, .int .i64 p_b.Club, .int .i64 p_b.Age, .int .i64 p_b.Day] 33] [(2, v_p_m), (9, .pointer (some ⟨b1, 0, none⟩)), (10, .pointer (some ⟨b2, 0, none⟩)), (17, .int .i64 x3), (18, .int .i64 x4), (19, .string (tumbref2_ClubFor p_m p_x.Who p_b.Day)), (70, v_p_counts), (71, .int .i64 (p_counts.length : Int)), (72, .int .i64 (W ((i1 : Int) + 1)))] [true, true] rfl ⟨rfl, rfl, rfl, rfl, rfl, rfl, rfl, rfl, rfl, trivial⟩
    refine then_n ?_
    exact ⟨ys1, ⟨i1 + 1, x3, x4, ⟨_, (hd1).trans (List.append_cons _ _ _), by simp [hi1]⟩, h, S.nf [true, true] rfl ⟨rfl, rfl, rfl, rfl, rfl, rfl, rfl, rfl, (congrArg (fun z => some (Value.int .i64 z)) (rng_next hd1 hi1 (slc_max hs_p_counts))), trivial⟩⟩, Nat.lt_succ_self _⟩
  clear S h; rintro a w16 ⟨x1, x2, h, S⟩; rw [hj2] at h; clear hj2 j2
  refine then_n ?_
  refine f_seq ?_
  refine f_region ?_
  refine lv S (rn_move (S.tm rfl)) rfl ?_; clear S; intro a S
  refine lv S (rn_fld fa_33_0 (S.tm rfl)) rfl ?_; clear S; intro a S
  refine lv S (rn_load Tryz.isAgg3 (S.tm rfl) (S.cell (i := 1) rfl rfl)) rfl ?_; clear S; intro a S
  refine lv S (rn_geq (S.tm rfl) (S.tm rfl)) rfl ?_; clear S; intro a S
  refine lv S (rn_move (S.tm rfl)) rfl ?_; clear S; intro a S
  refine f_cutm 9 (fun a w' => Keep [] w16 w' ∧ Sx w [] nov [.blk b2 [.string p_x.Who, .string p_x.Race] 65, .blk b1 [.int .i64 p_b.Races, .int .i64 p_b.Club, .int .i64 p_b.Age, .int .i64 p_b.Day] 33] [(114, .bool ((decide (p_b.Races ≤ x1)) || ((!decide ((tumbref2_ClubFor p_m p_x.Who p_b.Day) = k_empty)) && (decide (p_b.Club ≤ x2)))))] 115 a w') ?_ ?_
  ·rcases Bool.eq_false_or_eq_true (decide (p_b.Races ≤ x1)) with hb9 | hb9
   ·refine l_skip S rfl rfl rfl (neq_t hb9) rfl ?_ rfl; clear S; intro a S
    refine l_skip S rfl rfl rfl (neq_t hb9) rfl ?_ rfl; clear S; intro a S
    refine l_skip S rfl rfl rfl (neq_t hb9) rfl ?_ rfl; clear S; intro a S
    refine l_skipU S rfl rfl rfl rfl ?_; clear S; intro a S
    refine l_skipU S rfl rfl rfl rfl ?_; clear S; intro a S
    refine l_skipU S rfl rfl rfl rfl ?_; clear S; intro a S
    refine l_skipU S rfl rfl rfl rfl ?_; clear S; intro a S
    refine l_skip S rfl rfl rfl (neq_t hb9) rfl ?_ rfl; clear S; intro a S
    refine lv S (rn_or_t ((!decide ((tumbref2_ClubFor p_m p_x.Who p_b.Day) = k_empty)) && (decide (p_b.Club ≤ x2))) hb9 (S.tm rfl) rfl) rfl ?_; clear S; intro a S
    refine l_done ?_
    refine then_n ?_
    exact ⟨Keep.refl _ _, S.nf [true, true] rfl ⟨rfl, trivial⟩⟩
   ·refine l_want S rfl rfl rfl hb9 ?_
    refine lv S (rn_move (S.tm rfl)) rfl ?_; clear S; intro a S
    refine l_want S rfl rfl rfl hb9 ?_
    refine lv S (rn_sneq (S.tm rfl) rfl) rfl ?_; clear S; intro a S
    refine l_want S rfl rfl rfl hb9 ?_
    refine lv S (rn_move (S.tm rfl)) rfl ?_; clear S; intro a S
    refine f_cutm 5 (fun a w' => Keep [] w16 w' ∧ Sx w [] nov [.blk b2 [.string p_x.Who, .string p_x.Race] 65, .blk b1 [.int .i64 p_b.Races, .int .i64 p_b.Club, .int .i64 p_b.Age, .int .i64 p_b.Day] 33] [(105, .bool (decide (p_b.Races ≤ x1))), (113, .bool ((!decide ((tumbref2_ClubFor p_m p_x.Who p_b.Day) = k_empty)) && (decide (p_b.Club ≤ x2))))] 115 a w') ?_ ?_
    ·rcases Bool.eq_false_or_eq_true (!decide ((tumbref2_ClubFor p_m p_x.Who p_b.Day) = k_empty)) with hb10 | hb10
     ·refine l_want S rfl rfl rfl hb10 ?_
      refine lv S (rn_move (S.tm rfl)) rfl ?_; clear S; intro a S
      refine l_want S rfl rfl rfl hb10 ?_
      refine lv S (rn_fld fa_33_1 (S.tm rfl)) rfl ?_; clear S; intro a S
      refine l_want S rfl rfl rfl hb10 ?_
      refine lv S (rn_load Tryz.isAgg3 (S.tm rfl) (S.cell (i := 1) rfl rfl)) rfl ?_; clear S; intro a S
      refine l_want S rfl rfl rfl hb10 ?_
      refine lv S (rn_geq (S.tm rfl) (S.tm rfl)) rfl ?_; clear S; intro a S
      refine l_want S rfl rfl rfl hb9 ?_
      refine lv S (rn_and_t hb10 (S.tm rfl) (S.tm rfl)) rfl ?_; clear S; intro a S
      refine l_done ?_
      refine then_n ?_
      exact ⟨Keep.refl _ _, S.nf [true, true] rfl ⟨rfl, rfl, trivial⟩⟩
     ·refine l_skip S rfl rfl rfl (neq_f hb10) rfl ?_ rfl; clear S; intro a S
      refine l_skip S rfl rfl rfl (neq_f hb10) rfl ?_ rfl; clear S; intro a S
      refine l_skip S rfl rfl rfl (neq_f hb10) rfl ?_ rfl; clear S; intro a S
      refine l_skip S rfl rfl rfl (neq_f hb10) rfl ?_ rfl; clear S; intro a S
      refine l_want S rfl rfl rfl hb9 ?_
      refine lv S (rn_and_f (decide (p_b.Club ≤ x2)) hb10 (S.tm rfl) rfl) rfl ?_; clear S; intro a S
      refine l_done ?_
      refine then_n ?_
      exact ⟨Keep.refl _ _, S.nf [true, true] rfl ⟨rfl, rfl, trivial⟩⟩
    clear S; rintro a w25 ⟨hk19, S⟩
    refine lv S (rn_or_f hb9 (S.tm rfl) (S.tm rfl)) rfl ?_; clear S; intro a S
    refine l_done ?_
    refine then_n ?_
    exact ⟨hk19, S.nf [true, true] rfl ⟨rfl, trivial⟩⟩
  clear S; rintro a w24 ⟨hk20, S⟩
  refine lv S (rn_assign (S.tm rfl)) rfl ?_; clear S; intro a S
  refine l_done ?_
  replace S := S.nk [] [(12, .bool ((decide (p_b.Races ≤ x1)) || ((!decide ((tumbref2_ClubFor p_m p_x.Who p_b.Day) = k_empty)) && (decide (p_b.Club ≤ x2)))))] [false, false] rfl ⟨rfl, trivial⟩
  refine then_n ?_
  refine wp_ret ?_
  obtain rfl := Option.some.inj h
  exact f_ret S Tryz.results41 rfl rfl
theorem tumbref2_RefusedEntries_ok (w : World) (v_p_r : Value) (p_r : List GRace) (hs_p_r : Slc (view w []) 8 v_p_r (p_r.map GRace.enc)) (v_p_s : Value) (p_s : List GSwimmer) (hs_p_s : Slc (view w []) 3 v_p_s (p_s.map GSwimmer.enc)) (v_p_m : Value) (p_m : List GMove) (hs_p_m : Slc (view w []) 3 v_p_m (p_m.map GMove.enc)) (p_b : GBounds) (v_p_l : Value) (p_l : List GEntry) (hs_p_l : Slc (view w []) 2 v_p_l (p_l.map GEntry.enc)) (r : (List Int)) (h : tumbref2_RefusedEntries p_r p_s p_m p_b p_l = some r) :
    Calls Tryz.prog 19 [v_p_r, v_p_s, v_p_m, .agg (GBounds.enc p_b).toArray, v_p_l].toArray w (Ret w [] fun τ v w' => OwnV τ 3 1 v r.length (r.flatMap eInt)) := by
 refine f_enter [] [] Tryz.func19 rfl Tryz.ntmps19 rfl (by simp) (by simp [fps]) (by simp [fps]) fun a S => ?_
 unfold tumbref2_RefusedEntries at h
 replace S := S.nk [] [(0, v_p_r), (1, v_p_s), (2, v_p_m), (3, .agg (GBounds.enc p_b).toArray), (4, v_p_l)] [] rfl ⟨rfl, rfl, rfl, rfl, rfl, trivial⟩
 refine f_seq ?_
 refine f_region ?_
 refine l_box S (S.tm rfl) (cs := [.int .i64 p_b.Races, .int .i64 p_b.Club, .int .i64 p_b.Age, .int .i64 p_b.Day]) rfl rfl ?_; clear S; intro a w1 b1 hz1 hk1 S
 refine lv S (rn_assign rfl) rfl ?_; clear S; intro a S
 refine l_done ?_
 replace S := S.nk [.blk b1 [.int .i64 p_b.Races, .int .i64 p_b.Club, .int .i64 p_b.Age, .int .i64 p_b.Day] 33] [(0, v_p_r), (1, v_p_s), (2, v_p_m), (4, v_p_l), (8, .pointer (some ⟨b1, 0, none⟩))] [true] rfl ⟨rfl, rfl, rfl, rfl, rfl, trivial⟩
 refine then_n ?_
 refine f_seq ?_
 refine f_region ?_
 refine lv S (rn_assign rfl) rfl ?_; clear S; intro a S
 replace S := S.nil 65 2
 refine l_done ?_
 replace S := S.nk [.own (.slice none 0 0) 65 2 ([] : List GEntry).length (([] : List GEntry).flatMap GEntry.enc), .blk b1 [.int .i64 p_b.Races, .int .i64 p_b.Club, .int .i64 p_b.Age, .int .i64 p_b.Day] 33] [(0, v_p_r), (1, v_p_s), (2, v_p_m), (4, v_p_l), (8, .pointer (some ⟨b1, 0, none⟩)), (11, (.slice none 0 0))] [true, true] rfl ⟨rfl, rfl, rfl, rfl, rfl, rfl, trivial⟩
 refine then_n ?_
 refine f_seq ?_
 refine f_region ?_
 refine lv S (rn_assign rfl) rfl ?_; clear S; intro a S
 replace S := S.nil 3 1
 refine l_done ?_
 replace S := S.nk [.own (.slice none 0 0) 3 1 ([] : List Int).length (([] : List Int).flatMap eInt), .own (.slice none 0 0) 65 2 ([] : List GEntry).length (([] : List GEntry).flatMap GEntry.enc), .blk b1 [.int .i64 p_b.Races, .int .i64 p_b.Club, .int .i64 p_b.Age, .int .i64 p_b.Day] 33] [(0, v_p_r), (1, v_p_s), (2, v_p_m), (4, v_p_l), (8, .pointer (some ⟨b1, 0, none⟩)), (11, (.slice none 0 0)), (12, (.slice none 0 0))] [true, true, true] rfl ⟨rfl, rfl, rfl, rfl, rfl, rfl, rfl, trivial⟩
 refine then_n ?_
 refine f_seq ?_
 refine f_seq ?_
 refine f_region ?_
 refine lv S (rn_move (S.tm rfl)) rfl ?_; clear S; intro a S
 refine lv S (rn_lenT sl_35 (S.tm rfl) (slc_len hs_p_l)) rfl ?_; clear S; intro a S
 refine lv S (rn_move rfl) rfl ?_; clear S; intro a S
 refine l_done ?_
 replace S := S.nk [.own (.slice none 0 0) 3 1 ([] : List Int).length (([] : List Int).flatMap eInt), .own (.slice none 0 0) 65 2 ([] : List GEntry).length (([] : List GEntry).flatMap GEntry.enc), .blk b1 [.int .i64 p_b.Races, .int .i64 p_b.Club, .int .i64 p_b.Age, .int .i64 p_b.Day] 33] [(0, v_p_r), (1, v_p_s), (2, v_p_m), (8, .pointer (some ⟨b1, 0, none⟩)), (11, (.slice none 0 0)), (12, (.slice none 0 0)), (15, v_p_l), (16, .int .i64 (p_l.length : Int)), (17, .int .i64 0)] [true, true, true] rfl ⟨rfl, rfl, rfl, rfl, rfl, rfl, rfl, rfl, rfl, trivial⟩
 refine then_n ?_
 obtain ⟨j1, hj1, h⟩ := joinE h
 refine f_join (fun a w' => ∃ x1 : List Int, ∃ x2 : List GEntry, ∃ v1 : Value, ∃ v2 : Value, j1 x1 x2 = some r ∧ Sx w [] nov [.own v1 3 1 x1.length (x1.flatMap eInt), .own v2 65 2 x2.length (x2.flatMap GEntry.enc), .blk b1 [.int .i64 p_b.Races, .int .i64 p_b.Club, .int .i64 p_b.Age, .int .i64 p_b.Day] 33] [(12, v1)] 39 a w') ?_ ?_
 ·refine wp_block ?_
  refine f_loop (fun (ys1 : List GEntry) a w' => ∃ i1 : Nat, ∃ x1 : List Int, ∃ x2 : List GEntry, ∃ v1 : Value, ∃ v2 : Value, (∃ dn, p_l = dn ++ ys1 ∧ dn.length = i1) ∧ tumbref2_RefusedEntries_l1 p_r p_s p_m p_b j1 ys1 i1 x1 x2 = some r ∧ Sx w [] nov [.own v1 3 1 x1.length (x1.flatMap eInt), .own v2 65 2 x2.length (x2.flatMap GEntry.enc), .blk b1 [.int .i64 p_b.Races, .int .i64 p_b.Club, .int .i64 p_b.Age, .int .i64 p_b.Day] 33] [(0, v_p_r), (1, v_p_s), (2, v_p_m), (8, .pointer (some ⟨b1, 0, none⟩)), (11, v2), (12, v1), (15, v_p_l), (16, .int .i64 (p_l.length : Int)), (17, .int .i64 (i1 : Int))] 39 a w') List.length p_l ⟨0, ([] : List Int), ([] : List GEntry), (.slice none 0 0), (.slice none 0 0), ⟨[], rfl, rfl⟩, h, S.nf [true, true, true] rfl ⟨rfl, rfl, rfl, rfl, rfl, rfl, rfl, rfl, rfl, trivial⟩⟩ ?_
  clear S h; rintro ys1 a w2 ⟨i1, x1, x2, v1, v2, ⟨dn, hd1, hi1⟩, h, S⟩
  cases ys1 with
  | nil =>
   rw [tumbref2_RefusedEntries_l1.eq_1] at h
   refine f_seq ?_
   refine f_region ?_
   refine lv S (rn_lss (S.tm rfl) (S.tm rfl)) rfl ?_; clear S; intro a S
   refine l_done ?_
   replace S := S.nk [.own v1 3 1 x1.length (x1.flatMap eInt), .own v2 65 2 x2.length (x2.flatMap GEntry.enc), .blk b1 [.int .i64 p_b.Races, .int .i64 p_b.Club, .int .i64 p_b.Age, .int .i64 p_b.Day] 33] [(0, v_p_r), (1, v_p_s), (2, v_p_m), (8, .pointer (some ⟨b1, 0, none⟩)), (11, v2), (12, v1), (15, v_p_l), (16, .int .i64 (p_l.length : Int)), (17, .int .i64 (i1 : Int)), (18, .bool (decide ((i1 : Int) < (p_l.length : Int))))] [true, true, true] rfl ⟨rfl, rfl, rfl, rfl, rfl, rfl, rfl, rfl, rfl, rfl, trivial⟩
   refine then_n ?_
   refine f_seq ?_
   refine wp_cond_false ((S.tm rfl).trans (congrArg Value.bool (rng_nil hd1 hi1))) ?_
   refine wp_exit ?_
   refine then_x ?_
   refine then_x ?_
   refine x_same ?_
   refine then_n ?_
   exact ⟨x1, x2, v1, v2, h, S.nf [true, true, true] rfl ⟨rfl, trivial⟩⟩
  | cons y1 ys1 =>
   rw [tumbref2_RefusedEntries_l1.eq_2] at h
   refine f_seq ?_
   refine f_region ?_
   refine lv S (rn_lss (S.tm rfl) (S.tm rfl)) rfl ?_; clear S; intro a S
   refine l_done ?_
   replace S := S.nk [.own v1 3 1 x1.length (x1.flatMap eInt), .own v2 65 2 x2.length (x2.flatMap GEntry.enc), .blk b1 [.int .i64 p_b.Races, .int .i64 p_b.Club, .int .i64 p_b.Age, .int .i64 p_b.Day] 33] [(0, v_p_r), (1, v_p_s), (2, v_p_m), (8, .pointer (some ⟨b1, 0, none⟩)), (11, v2), (12, v1), (15, v_p_l), (16, .int .i64 (p_l.length : Int)), (17, .int .i64 (i1 : Int)), (18, .bool (decide ((i1 : Int) < (p_l.length : Int))))] [true, true, true] rfl ⟨rfl, rfl, rfl, rfl, rfl, rfl, rfl, rfl, rfl, rfl, trivial⟩
   refine then_n ?_
   refine f_seq ?_
   refine wp_cond_true ((S.tm rfl).trans (congrArg Value.bool (rng_cons hd1 hi1))) ?_
   refine wp_skip ?_
   refine then_n ?_
   refine f_seq ?_
   obtain ⟨j2, hj2, h⟩ := joinE h
   refine f_join (fun a w' => ∃ x3 : List Int, ∃ x4 : List GEntry, ∃ v3 : Value, ∃ v4 : Value, j2 x3 x4 = some r ∧ Sx w [] nov [.own v3 3 1 x3.length (x3.flatMap eInt), .own v4 65 2 x4.length (x4.flatMap GEntry.enc), .blk b1 [.int .i64 p_b.Races, .int .i64 p_b.Club, .int .i64 p_b.Age, .int .i64 p_b.Day] 33] [(0, v_p_r), (1, v_p_s), (2, v_p_m), (8, .pointer (some ⟨b1, 0, none⟩)), (11, v4), (12, v3), (15, v_p_l), (16, .int .i64 (p_l.length : Int)), (17, .int .i64 (i1 : Int))] 39 a w') ?_ ?_
   ·refine wp_block ?_
    refine f_seq ?_
    refine f_region ?_
    refine lv S (rn_move (S.tm rfl)) rfl ?_; clear S; intro a S
    obtain ⟨b2, o1, hm1, hr1⟩ := rn_indexT (a := a) (x := .tmp 15) (y := .tmp 17) (ty := 0) sl_35 hs_p_l (get_mid hd1 hi1) rfl (S.tm rfl) (S.tm rfl)
    refine lv S (hr1 _) rfl ?_; clear S; intro a S
    clear hr1
    refine lv S (rn_ldA Tryz.isAgg65 Tryz.sizeOf65 (off := o1) (o := 0) (part := [.string y1.Who, .string y1.Race]) rfl rfl (S.tm rfl) (hm1.at S.emb0)) rfl ?_; clear S; intro a S
    refine l_alloc S Tryz.zeroValue65 (cs := [.string k_empty, .string k_empty]) rfl rfl ?_; clear S; intro a w5 b3 hz2 hk2 S
    refine lv S (rn_assign (S.tm rfl)) rfl ?_; clear S; intro a S
    refine l_store S (S.tm rfl) (S.tm rfl) (i := 0) (off := 0) rfl Tryz.sizeOf65 (vs := [.string y1.Who, .string y1.Race]) rfl rfl rfl rfl ?_; clear S; intro w6 hk3 S
    refine l_done ?_
    replace S := S.nk [.blk b3 [.string y1.Who, .string y1.Race] 65, .own v1 3 1 x1.length (x1.flatMap eInt), .own v2 65 2 x2.length (x2.flatMap GEntry.enc), .blk b1 [.int .i64 p_b.Races, .int .i64 p_b.Club, .int .i64 p_b.Age, .int .i64 p_b.Day] 33] [(0, v_p_r), (1, v_p_s), (2, v_p_m), (8, .pointer (some ⟨b1, 0, none⟩)), (11, v2), (12, v1), (13, .int .i64 (i1 : Int)), (14, .pointer (some ⟨b3, 0, none⟩)), (15, v_p_l), (16, .int .i64 (p_l.length : Int)), (17, .int .i64 (i1 : Int))] [true, true, true, true] rfl ⟨rfl, rfl, rfl, rfl, rfl, rfl, rfl, rfl, rfl, rfl, rfl, trivial⟩
    refine then_n ?_
    refine f_seq ?_
    refine f_region ?_
    refine lv S (rn_move (S.tm rfl)) rfl ?_; clear S; intro a S
    refine lv S (rn_move (S.tm rfl)) rfl ?_; clear S; intro a S
    refine lv S (rn_move (S.tm rfl)) rfl ?_; clear S; intro a S
    refine lv S (rn_ldA Tryz.isAgg33 Tryz.sizeOf33 (off := 0) (o := 0) (part := [.int .i64 p_b.Races, .int .i64 p_b.Club, .int .i64 p_b.Age, .int .i64 p_b.Day]) rfl rfl (S.tm rfl) (S.cellsAt (i := 3) rfl)) rfl ?_; clear S; intro a S
    refine lv S (rn_ldA Tryz.isAgg65 Tryz.sizeOf65 (off := 0) (o := 0) (part := [.string y1.Who, .string y1.Race]) rfl rfl (S.tm rfl) (S.cellsAt (i := 0) rfl)) rfl ?_; clear S; intro a S
    refine lv S (rn_move (S.tm rfl)) rfl ?_; clear S; intro a S
    obtain ⟨r1, hr2, h⟩ := bindE h
    refine l_enter S (fun _ => run_call (vs := [v_p_r, v_p_s, v_p_m, .agg (GBounds.enc p_b).toArray, .agg (GEntry.enc y1).toArray, v2]) ⟨(S.tm rfl), (S.tm rfl), (S.tm rfl), (S.tm rfl), (S.tm rfl), (S.tm rfl), trivial⟩ Tryz.call41) (tumbref2_refuses_ok _ v_p_r p_r (hs_p_r.mono (S.le_arg nil_sub)) v_p_s p_s (hs_p_s.mono (S.le_arg nil_sub)) v_p_m p_m (hs_p_m.mono (S.le_arg nil_sub)) p_b y1 v2 x2 (own_slcT GEntry.enc_ok S (i := 2) rfl (ne_nil (e' := .own v2 65 2 x2.length (x2.flatMap GEntry.enc)))) _ hr2) rfl ?_; clear S; intro v5 a w7 hv1 hk4 hn1 S
    subst hv1
    refine l_done ?_
    replace S := S.nk [.blk b3 [.string y1.Who, .string y1.Race] 65, .own v1 3 1 x1.length (x1.flatMap eInt), .own v2 65 2 x2.length (x2.flatMap GEntry.enc), .blk b1 [.int .i64 p_b.Races, .int .i64 p_b.Club, .int .i64 p_b.Age, .int .i64 p_b.Day] 33] [(0, v_p_r), (1, v_p_s), (2, v_p_m), (8, .pointer (some ⟨b1, 0, none⟩)), (11, v2), (12, v1), (13, .int .i64 (i1 : Int)), (14, .pointer (some ⟨b3, 0, none⟩)), (15, v_p_l), (16, .int .i64 (p_l.length : Int)), (17, .int .i64 (i1 : Int)), (28, .bool r1)] [true, true, true, true] rfl ⟨rfl, rfl, rfl, rfl, rfl, rfl, rfl, rfl, rfl, rfl, rfl, rfl, trivial⟩
    refine then_n ?_
    obtain ⟨j3, hj3, h⟩ := joinE h
    refine f_join (fun a w' => ∃ x5 : List Int, ∃ x6 : List GEntry, ∃ v6 : Value, ∃ v7 : Value, j3 x5 x6 = some r ∧ Sx w [] nov [.own v6 3 1 x5.length (x5.flatMap eInt), .own v7 65 2 x6.length (x6.flatMap GEntry.enc), .blk b1 [.int .i64 p_b.Races, .int .i64 p_b.Club, .int .i64 p_b.Age, .int .i64 p_b.Day] 33] [(0, v_p_r), (1, v_p_s), (2, v_p_m), (8, .pointer (some ⟨b1, 0, none⟩)), (11, v7), (12, v6), (15, v_p_l), (16, .int .i64 (p_l.length : Int)), (17, .int .i64 (i1 : Int))] 39 a w') ?_ ?_
    ·refine f_cond (S.tm rfl) (fun hb1 => ?_) (fun hb1 => ?_)
     ·replace h := iteT h hb1
      refine f_region ?_
      refine lv S (rn_move (S.tm rfl)) rfl ?_; clear S; intro a S
      refine lv S (rn_move (S.tm rfl)) rfl ?_; clear S; intro a S
      refine l_buildSlice S Tryz.underlying22 Tryz.sizeOf3 Tryz.zeroValue3 rfl rfl (pv := [(0, .int .i64 (i1 : Int))]) ⟨rfl, (S.tm rfl), trivial⟩ (cs := [.int .i64 (i1 : Int)]) (by kernel_rfl) rfl ?_; clear S; intro a w9 b4 hz3 hk5 S
      obtain ⟨hc1, h⟩ := chkE h
      refine l_appendT sl_22 enc_int S (S.tm rfl) (i := 2) rfl (S.tm rfl) (j := 0) rfl (ys := [(i1 : Int)]) rfl rfl rfl rfl (by have := room_lt hc1; omega) rfl ?_; clear S; intro v8 a w10 hk6 S
      refine lv S (rn_assign (S.tm rfl)) rfl ?_; clear S; intro a S
      refine l_done ?_
      replace S := S.nk [.own v8 3 1 (x1 ++ [(i1 : Int)]).length ((x1 ++ [(i1 : Int)]).flatMap eInt), .own v2 65 2 x2.length (x2.flatMap GEntry.enc), .blk b1 [.int .i64 p_b.Races, .int .i64 p_b.Club, .int .i64 p_b.Age, .int .i64 p_b.Day] 33] [(0, v_p_r), (1, v_p_s), (2, v_p_m), (8, .pointer (some ⟨b1, 0, none⟩)), (11, v2), (12, v8), (15, v_p_l), (16, .int .i64 (p_l.length : Int)), (17, .int .i64 (i1 : Int))] [false, false, true, true, true] rfl ⟨rfl, rfl, rfl, rfl, rfl, rfl, rfl, rfl, rfl, trivial⟩
      refine then_n ?_
      exact ⟨(x1 ++ [(i1 : Int)]), x2, v8, v2, h, S.nf [true, true, true] rfl ⟨rfl, rfl, rfl, rfl, rfl, rfl, rfl, rfl, rfl, trivial⟩⟩
     ·replace h := iteF h hb1
      refine f_region ?_
      refine lv S (rn_move (S.tm rfl)) rfl ?_; clear S; intro a S
      refine lv S (rn_ldA Tryz.isAgg65 Tryz.sizeOf65 (off := 0) (o := 0) (part := [.string y1.Who, .string y1.Race]) rfl rfl (S.tm rfl) (S.cellsAt (i := 0) rfl)) rfl ?_; clear S; intro a S
      refine l_buildSlice S Tryz.underlying35 Tryz.sizeOf65 Tryz.zeroValue65 rfl rfl (pv := [(0, .agg #[.string y1.Who, .string y1.Race])]) ⟨rfl, (S.tm rfl), trivial⟩ (cs := [.string y1.Who, .string y1.Race]) (by kernel_rfl) rfl ?_; clear S; intro a w11 b5 hz4 hk7 S
      obtain ⟨hc2, h⟩ := chkE h
      refine l_appendT sl_35 GEntry.enc_ok S (S.tm rfl) (i := 3) rfl (S.tm rfl) (j := 0) rfl (ys := [y1]) rfl rfl rfl rfl (by have := room_lt hc2; omega) rfl ?_; clear S; intro v9 a w12 hk8 S
      refine lv S (rn_assign (S.tm rfl)) rfl ?_; clear S; intro a S
      refine l_done ?_
      replace S := S.nk [.own v1 3 1 x1.length (x1.flatMap eInt), .own v9 65 2 (x2 ++ [y1]).length ((x2 ++ [y1]).flatMap GEntry.enc), .blk b1 [.int .i64 p_b.Races, .int .i64 p_b.Club, .int .i64 p_b.Age, .int .i64 p_b.Day] 33] [(0, v_p_r), (1, v_p_s), (2, v_p_m), (8, .pointer (some ⟨b1, 0, none⟩)), (11, v9), (12, v1), (15, v_p_l), (16, .int .i64 (p_l.length : Int)), (17, .int .i64 (i1 : Int))] [false, false, true, true, true] rfl ⟨rfl, rfl, rfl, rfl, rfl, rfl, rfl, rfl, rfl, trivial⟩
      refine then_n ?_
      exact ⟨x1, (x2 ++ [y1]), v1, v9, h, S.nf [true, true, true] rfl ⟨rfl, rfl, rfl, rfl, rfl, rfl, rfl, rfl, rfl, trivial⟩⟩
    clear S h; rintro a w8 ⟨x5, x6, v6, v7, h, S⟩; rw [hj3] at h; clear hj3 j3
    refine blk_n ?_
    refine then_n ?_
    exact ⟨x5, x6, v6, v7, h, S.nf [true, true, true] rfl ⟨rfl, rfl, rfl, rfl, rfl, rfl, rfl, rfl, rfl, trivial⟩⟩
   clear S h; rintro a w4 ⟨x3, x4, v3, v4, h, S⟩; rw [hj2] at h; clear hj2 j2
   refine then_n ?_
   refine f_region ?_
   refine lv S (rn_add (S.tm rfl) rfl) rfl ?_; clear S; intro a S
   refine lv S (rn_move (S.tm rfl)) rfl ?_; clear S; intro a S
   refine l_done ?_
   replace S := S.nk [.own v3 3 1 x3.length (x3.flatMap eInt), .own v4 65 2 x4.length (x4.flatMap GEntry.enc), .blk b1 [.int .i64 p_b.Races, .int .i64 p_b.Club, .int .i64 p_b.Age, .int .i64 p_b.Day] 33] [(0, v_p_r), (1, v_p_s), (2, v_p_m), (8, .pointer (some ⟨b1, 0, none⟩)), (11, v4), (12, v3), (15, v_p_l), (16, .int .i64 (p_l.length : Int)), (17, .int .i64 (W ((i1 : Int) + 1)))] [true, true, true] rfl ⟨rfl, rfl, rfl, rfl, rfl, rfl, rfl, rfl, rfl, trivial⟩
   refine then_n ?_
   exact ⟨ys1, ⟨i1 + 1, x3, x4, v3, v4, ⟨_, (hd1).trans (List.append_cons _ _ _), by simp [hi1]⟩, h, S.nf [true, true, true] rfl ⟨rfl, rfl, rfl, rfl, rfl, rfl, rfl, rfl, (congrArg (fun z => some (Value.int .i64 z)) (rng_next hd1 hi1 (slc_max hs_p_l))), trivial⟩⟩, Nat.lt_succ_self _⟩
 clear S h; rintro a w3 ⟨x1, x2, v1, v2, h, S⟩; rw [hj1] at h; clear hj1 j1
 refine then_n ?_
 refine f_seq ?_
 refine f_region ?_
 refine lv S (rn_move (S.tm rfl)) rfl ?_; clear S; intro a S
 refine lv S (rn_assign (S.tm rfl)) rfl ?_; clear S; intro a S
 refine l_done ?_
 replace S := S.nk [.own v1 3 1 x1.length (x1.flatMap eInt)] [(10, v1)] [true, false, false] rfl ⟨rfl, trivial⟩
 refine then_n ?_
 refine wp_ret ?_
 obtain rfl := Option.some.inj h
 exact f_ret S Tryz.results19 rfl (own_retT S (i := 0) rfl rfl)
set_option maxRecDepth 20000 in
theorem slices_Equal_int_ok (w : World) (v_p_s1 : Value) (p_s1 : List Int) (hs_p_s1 : Slc (view w []) 1 v_p_s1 (p_s1.map eInt)) (v_p_s2 : Value) (p_s2 : List Int) (hs_p_s2 : Slc (view w []) 1 v_p_s2 (p_s2.map eInt)) (r : Bool) (h : slices_Equal_int p_s1 p_s2 = some r) :
    Calls Tryz.prog 21 [v_p_s1, v_p_s2].toArray w (Ret w [] fun τ v w' => v = .bool r) := by
 refine f_enter [] [] Tryz.func21 rfl Tryz.ntmps21 rfl (by simp) (by simp [fps]) (by simp [fps]) fun a S => ?_
 unfold slices_Equal_int at h
 replace S := S.nk [] [(0, v_p_s1), (1, v_p_s2)] [] rfl ⟨rfl, rfl, trivial⟩
 refine f_seq ?_
 refine f_region ?_
 refine lv S (rn_assign rfl) rfl ?_; clear S; intro a S
 refine l_done ?_
 replace S := S.nk [] [(0, v_p_s1), (1, v_p_s2)] [] rfl ⟨rfl, rfl, trivial⟩
 refine then_n ?_
 refine f_seq ?_
 refine f_seq ?_
 refine f_region ?_
 refine lv S (rn_move (S.tm rfl)) rfl ?_; clear S; intro a S
 refine lv S (rn_lenT sl_22 (S.tm rfl) (slc_len hs_p_s1)) rfl ?_; clear S; intro a S
 refine lv S (rn_move (S.tm rfl)) rfl ?_; clear S; intro a S
 refine lv S (rn_lenT sl_22 (S.tm rfl) (slc_len hs_p_s2)) rfl ?_; clear S; intro a S
 refine lv S (rn_neq (S.tm rfl) (S.tm rfl)) rfl ?_; clear S; intro a S
 refine l_done ?_
 replace S := S.nk [] [(0, v_p_s1), (1, v_p_s2), (10, .bool (!decide ((p_s1.length : Int) = (p_s2.length : Int))))] [] rfl ⟨rfl, rfl, rfl, trivial⟩
 refine then_n ?_
 refine f_cond (S.tm rfl) (fun hb1 => ?_) (fun hb1 => ?_)
 ·replace h := iteT h hb1
  refine f_seq ?_
  refine f_region ?_
  refine lv S (rn_assign rfl) rfl ?_; clear S; intro a S
  refine l_done ?_
  replace S := S.nk [] [(4, .bool false)] [] rfl ⟨rfl, trivial⟩
  refine then_n ?_
  refine wp_ret ?_
  refine then_r ?_
  obtain rfl := Option.some.inj h
  exact f_ret S Tryz.results21 rfl rfl
 ·replace h := iteF h hb1
  refine wp_skip ?_
  refine then_n ?_
  refine f_seq ?_
  refine f_seq ?_
  refine f_region ?_
  refine lv S (rn_move (S.tm rfl)) rfl ?_; clear S; intro a S
  refine lv S (rn_lenT sl_22 (S.tm rfl) (slc_len hs_p_s1)) rfl ?_; clear S; intro a S
  refine lv S (rn_move rfl) rfl ?_; clear S; intro a S
  refine l_done ?_
  replace S := S.nk [] [(0, v_p_s1), (1, v_p_s2), (12, .int .i64 (p_s1.length : Int)), (13, .int .i64 0)] [] rfl ⟨rfl, rfl, rfl, rfl, trivial⟩
  refine then_n ?_
  obtain ⟨j1, hj1, h⟩ := joinE h
  refine f_join (fun a w' => j1 = some r ∧ Sx w [] nov [] [] 26 a w') ?_ ?_
  ·refine wp_block ?_
   refine f_loop (fun (ys1 : List Int) a w' => ∃ i1 : Nat, (∃ dn, p_s1 = dn ++ ys1 ∧ dn.length = i1) ∧ slices_Equal_int_l1 p_s2 j1 ys1 i1 = some r ∧ Sx w [] nov [] [(0, v_p_s1), (1, v_p_s2), (12, .int .i64 (p_s1.length : Int)), (13, .int .i64 (i1 : Int))] 26 a w') List.length p_s1 ⟨0, ⟨[], rfl, rfl⟩, h, S.nf [] rfl ⟨rfl, rfl, rfl, rfl, trivial⟩⟩ ?_
   clear S h; rintro ys1 a w1 ⟨i1, ⟨dn, hd1, hi1⟩, h, S⟩
   cases ys1 with
   | nil =>
    rw [slices_Equal_int_l1.eq_1] at h
    refine f_seq ?_
    refine f_region ?_
    refine lv S (rn_lss (S.tm rfl) (S.tm rfl)) rfl ?_; clear S; intro a S
    refine l_done ?_
    replace S := S.nk [] [(0, v_p_s1), (1, v_p_s2), (12, .int .i64 (p_s1.length : Int)), (13, .int .i64 (i1 : Int)), (14, .bool (decide ((i1 : Int) < (p_s1.length : Int))))] [] rfl ⟨rfl, rfl, rfl, rfl, rfl, trivial⟩
    refine then_n ?_
    refine f_seq ?_
    refine wp_cond_false ((S.tm rfl).trans (congrArg Value.bool (rng_nil hd1 hi1))) ?_
    refine wp_exit ?_
    refine then_x ?_
    refine then_x ?_
    refine x_same ?_
    refine then_n ?_
    exact ⟨h, S.nf [] rfl trivial⟩
   | cons y1 ys1 =>
    rw [slices_Equal_int_l1.eq_2] at h
    refine f_seq ?_
    refine f_region ?_
    refine lv S (rn_lss (S.tm rfl) (S.tm rfl)) rfl ?_; clear S; intro a S
    refine l_done ?_
    replace S := S.nk [] [(0, v_p_s1), (1, v_p_s2), (12, .int .i64 (p_s1.length : Int)), (13, .int .i64 (i1 : Int)), (14, .bool (decide ((i1 : Int) < (p_s1.length : Int))))] [] rfl ⟨rfl, rfl, rfl, rfl, rfl, trivial⟩
    refine then_n ?_
    refine f_seq ?_
    refine wp_cond_true ((S.tm rfl).trans (congrArg Value.bool (rng_cons hd1 hi1))) ?_
    refine wp_skip ?_
    refine then_n ?_
    refine f_seq ?_
    refine wp_block ?_
    refine f_seq ?_
    refine f_region ?_
    refine lv S (rn_move (S.tm rfl)) rfl ?_; clear S; intro a S
    refine lv S (rn_assign (S.tm rfl)) rfl ?_; clear S; intro a S
    refine l_done ?_
    replace S := S.nk [] [(0, v_p_s1), (1, v_p_s2), (5, .int .i64 (i1 : Int)), (12, .int .i64 (p_s1.length : Int)), (13, .int .i64 (i1 : Int))] [] rfl ⟨rfl, rfl, rfl, rfl, rfl, trivial⟩
    refine then_n ?_
    refine f_seq ?_
    refine d_region [] ([]) Tryz.mixed S rfl (by kernel_rfl) ?_; clear S; intro w3 hk1 hsel S
    refine d_rest [0, 1, 2, 3, 4, 5, 6, 7, 8] hsel (by kernel_rfl) rfl ?_
    clear hsel
    refine s_lv S rfl (rn_move (S.tm rfl)) rfl ?_; clear S; intro a S
    refine s_lv S rfl (rn_move (S.tm rfl)) rfl ?_; clear S; intro a S
    obtain ⟨b1, o1, hm1, hr1⟩ := rn_indexT (a := a) (x := .tmp 16) (y := .tmp 17) (ty := 0) sl_22 hs_p_s1 (get_mid hd1 hi1) rfl (S.tm rfl) (S.tm rfl)
    refine s_lv S rfl (hr1 _) rfl ?_; clear S; intro a S
    clear hr1
    refine s_lv S rfl (rn_ld Tryz.isAgg3 (off := o1) (o := 0) (S.tm rfl) (hm1.at S.emb0) rfl) rfl ?_; clear S; intro a S
    refine s_lv S rfl (rn_move (S.tm rfl)) rfl ?_; clear S; intro a S
    refine s_lv S rfl (rn_move (S.tm rfl)) rfl ?_; clear S; intro a S
    obtain ⟨hc1, h⟩ := chkE h
    obtain ⟨b2, o2, hm2, hr2⟩ := rn_indexT (a := a) (x := .tmp 20) (y := .tmp 21) (ty := 0) sl_22 hs_p_s2 (inB_get hc1).1 (inB_get hc1).2 (S.tm rfl) (S.tm rfl)
    refine s_lv S rfl (hr2 _) rfl ?_; clear S; intro a S
    clear hr2
    refine s_lv S rfl (rn_ld Tryz.isAgg3 (off := o2) (o := 0) (S.tm rfl) (hm2.at S.emb0) rfl) rfl ?_; clear S; intro a S
    refine s_lv S rfl (rn_neq (S.tm rfl) (S.tm rfl)) rfl ?_; clear S; intro a S
    refine s_done ?_
    replace S := S.nk [] [(0, v_p_s1), (1, v_p_s2), (12, .int .i64 (p_s1.length : Int)), (13, .int .i64 (i1 : Int)), (24, .bool (!decide (y1 = (nth p_s2 (i1 : Int)))))] [] rfl ⟨rfl, rfl, rfl, rfl, rfl, trivial⟩
    refine then_n ?_
    refine f_cond (S.tm rfl) (fun hb2 => ?_) (fun hb2 => ?_)
    ·replace h := iteT h hb2
     refine f_seq ?_
     refine f_region ?_
     refine lv S (rn_assign rfl) rfl ?_; clear S; intro a S
     refine l_done ?_
     replace S := S.nk [] [(4, .bool false)] [] rfl ⟨rfl, trivial⟩
     refine then_n ?_
     refine wp_ret ?_
     refine blk_r ?_
     refine then_r ?_
     refine then_r ?_
     refine blk_r ?_
     refine then_r ?_
     refine then_r ?_
     obtain rfl := Option.some.inj h
     exact f_ret S Tryz.results21 rfl rfl
    ·replace h := iteF h hb2
     refine wp_skip ?_
     refine blk_n ?_
     refine then_n ?_
     refine f_region ?_
     refine lv S (rn_add (S.tm rfl) rfl) rfl ?_; clear S; intro a S
     refine lv S (rn_move (S.tm rfl)) rfl ?_; clear S; intro a S
     refine l_done ?_
     replace S := S.nk [] [(0, v_p_s1), (1, v_p_s2), (12, .int .i64 (p_s1.length : Int)), (13, .int .i64 (W ((i1 : Int) + 1)))] [] rfl ⟨rfl, rfl, rfl, rfl, trivial⟩
     refine then_n ?_
     exact ⟨ys1, ⟨i1 + 1, ⟨_, (hd1).trans (List.append_cons _ _ _), by simp [hi1]⟩, h, S.nf [] rfl ⟨rfl, rfl, rfl, (congrArg (fun z => some (Value.int .i64 z)) (rng_next hd1 hi1 (slc_max hs_p_s1))), trivial⟩⟩, Nat.lt_succ_self _⟩
  clear S h; rintro a w2 ⟨h, S⟩; rw [hj1] at h; clear hj1 j1
  refine then_n ?_
  refine f_seq ?_
  refine f_region ?_
  refine lv S (rn_assign rfl) rfl ?_; clear S; intro a S
  refine l_done ?_
  replace S := S.nk [] [(4, .bool true)] [] rfl ⟨rfl, trivial⟩
  refine then_n ?_
  refine wp_ret ?_
  obtain rfl := Option.some.inj h
  exact f_ret S Tryz.results21 rfl rfl
end Go.Proofs.YtacfgpcommiihaaGreatDoor
