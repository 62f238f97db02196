/- Each Go function computes its plain twin, by program. -/
import Derived.Test.YtoojifenkcnjdaaDoorWk2
namespace Go.Proofs.YtoojifenkcnjdaaDoor
open Go
theorem tumbref2_SwimmersFault_ok (w : World) (v_p_l : Value) (p_l : List GSwimmer) (hs_p_l : Slc (view w []) 3 v_p_l (p_l.map GSwimmer.enc)) (r : Int) (h : tumbref2_SwimmersFault p_l = some r) :
    Calls Tryd.prog 45 [v_p_l].toArray w (Ret w [] fun τ v w' => v = .int .i64 r) := by
  refine f_enter [] [] Tryd.func45 rfl Tryd.ntmps45 rfl (by simp) (by simp [fps]) (by simp [fps]) fun a S => ?_
  unfold tumbref2_SwimmersFault at h
  replace S := S.nf (L' := []) (K' := [(0, v_p_l)]) [] rfl ⟨rfl, trivial⟩
  refine f_seq ?_
  refine f_region ?_
  refine lv S (rn_assign rfl) rfl ?_; clear S; intro a S
  refine l_done ?_
  replace S := S.nf (L' := []) (K' := [(0, v_p_l)]) [] rfl ⟨rfl, trivial⟩
  refine then_n ?_
  refine f_seq ?_
  refine f_seq ?_
  refine f_region ?_
  refine lv S (rn_move (S.tm rfl)) rfl ?_; clear S; intro a S
  refine lv S (rn_lenT sl_70 (S.tm rfl) (slc_len hs_p_l)) rfl ?_; clear S; intro a S
  refine lv S (rn_gtr (S.tm rfl) rfl) rfl ?_; clear S; intro a S
  refine l_done ?_
  replace S := S.nf (L' := []) (K' := [(0, v_p_l), (8, .bool (decide (500 < (p_l.length : Int))))]) [] rfl ⟨rfl, rfl, trivial⟩
  refine then_n ?_
  refine f_cond (S.tm rfl) (fun hb1 => ?_) (fun hb1 => ?_)
  · replace h := iteT h hb1
    refine f_seq ?_
    refine f_region ?_
    refine lv S (rn_assign rfl) rfl ?_; clear S; intro a S
    refine l_done ?_
    replace S := S.nf (L' := []) (K' := [(2, .int .i64 2)]) [] rfl ⟨rfl, trivial⟩
    refine then_n ?_
    refine wp_ret ?_
    refine then_r ?_
    obtain rfl := Option.some.inj h
    exact f_ret S Tryd.results45 rfl rfl
  · replace h := iteF h hb1
    refine wp_skip ?_
    refine then_n ?_
    refine f_seq ?_
    refine f_region ?_
    refine lv S (rn_assign rfl) rfl ?_; clear S; intro a S
    refine l_done ?_
    replace S := S.nf (L' := []) (K' := [(0, v_p_l), (3, .string k_empty)]) [] rfl ⟨rfl, rfl, trivial⟩
    refine then_n ?_
    refine f_seq ?_
    refine f_seq ?_
    refine f_region ?_
    refine lv S (rn_move (S.tm rfl)) rfl ?_; clear S; intro a S
    refine lv S (rn_lenT sl_70 (S.tm rfl) (slc_len hs_p_l)) rfl ?_; clear S; intro a S
    refine lv S (rn_move rfl) rfl ?_; clear S; intro a S
    refine l_done ?_
    replace S := S.nf (L' := []) (K' := [(3, .string k_empty), (9, v_p_l), (10, .int .i64 (p_l.length : Int)), (11, .int .i64 0)]) [] rfl ⟨rfl, rfl, rfl, rfl, trivial⟩
    refine then_n ?_
    obtain ⟨j1, hj1, h⟩ := joinE h
    refine f_join (fun a w' => j1 = some r ∧ Sx w [] nov [] [] 39 a w') ?_ ?_
    · refine wp_block ?_
      refine f_loop (fun (ys1 : List GSwimmer) a w' => ∃ i1 : Nat, ∃ x1 : ByteArray, (∃ dn, p_l = dn ++ ys1 ∧ dn.length = i1) ∧ tumbref2_SwimmersFault_l1 j1 ys1 i1 x1 = some r ∧ Sx w [] nov [] [(3, .string x1), (9, v_p_l), (10, .int .i64 (p_l.length : Int)), (11, .int .i64 (i1 : Int))] 39 a w') List.length p_l ⟨0, k_empty, ⟨[], rfl, rfl⟩, h, S.nf [] rfl ⟨rfl, rfl, rfl, rfl, trivial⟩⟩ ?_
      clear S h; rintro ys1 a w1 ⟨i1, x1, ⟨dn, hd1, hi1⟩, h, S⟩
      cases ys1 with
      | nil =>
        rw [tumbref2_SwimmersFault_l1.eq_1] at h
        refine f_seq ?_
        refine f_region ?_
        refine lv S (rn_lss (S.tm rfl) (S.tm rfl)) rfl ?_; clear S; intro a S
        refine l_done ?_
        replace S := S.nf (L' := []) (K' := [(3, .string x1), (9, v_p_l), (10, .int .i64 (p_l.length : Int)), (11, .int .i64 (i1 : Int)), (12, .bool (decide ((i1 : Int) < (p_l.length : Int))))]) [] rfl ⟨rfl, rfl, rfl, rfl, rfl, trivial⟩
        refine then_n ?_
        refine f_seq ?_
        refine wp_cond_false ((S.tm rfl).trans (congrArg Value.bool (rng_nil hd1 hi1))) ?_
        refine wp_exit ?_
        refine then_x ?_
        refine then_x ?_
        refine x_same ?_
        refine then_n ?_
        exact ⟨h, S.nf [] rfl trivial⟩
      | cons y1 ys1 =>
        rw [tumbref2_SwimmersFault_l1.eq_2] at h
        refine f_seq ?_
        refine f_region ?_
        refine lv S (rn_lss (S.tm rfl) (S.tm rfl)) rfl ?_; clear S; intro a S
        refine l_done ?_
        replace S := S.nf (L' := []) (K' := [(3, .string x1), (9, v_p_l), (10, .int .i64 (p_l.length : Int)), (11, .int .i64 (i1 : Int)), (12, .bool (decide ((i1 : Int) < (p_l.length : Int))))]) [] rfl ⟨rfl, rfl, rfl, rfl, rfl, trivial⟩
        refine then_n ?_
        refine f_seq ?_
        refine wp_cond_true ((S.tm rfl).trans (congrArg Value.bool (rng_cons hd1 hi1))) ?_
        refine wp_skip ?_
        refine then_n ?_
        refine f_seq ?_
        refine wp_block ?_
        refine f_seq ?_
        refine f_region ?_
        obtain ⟨b1, o1, hm1, hr1⟩ := rn_indexT (a := a) (x := .tmp 9) (y := .tmp 11) (ty := 0) sl_70 hs_p_l (get_mid hd1 hi1) rfl (S.tm rfl) (S.tm rfl)
        refine lv S (hr1 _) rfl ?_; clear S; intro a S
        clear hr1
        refine lv S (rn_ldA Tryd.isAgg49 Tryd.sizeOf49 (off := o1) (o := 0) (part := [.string y1.Key, .int .i64 y1.Sex, .int .i64 y1.Born]) rfl rfl (S.tm rfl) (hm1.at S.emb0)) rfl ?_; clear S; intro a S
        refine l_alloc S Tryd.zeroValue49 (cs := [.string k_empty, .int .i64 0, .int .i64 0]) rfl rfl ?_; clear S; intro a w3 b2 hz1 hk1 S
        refine l_store S (S.tm rfl) (S.tm rfl) (i := 0) (off := 0) rfl Tryd.sizeOf49 (vs := [.string y1.Key, .int .i64 y1.Sex, .int .i64 y1.Born]) rfl rfl rfl rfl ?_; clear S; intro w4 hk2 S
        refine l_done ?_
        replace S := S.nf (L' := [.blk b2 [.string y1.Key, .int .i64 y1.Sex, .int .i64 y1.Born] 49]) (K' := [(3, .string x1), (5, .pointer (some ⟨b2, 0, none⟩)), (9, v_p_l), (10, .int .i64 (p_l.length : Int)), (11, .int .i64 (i1 : Int))]) [true] rfl ⟨rfl, rfl, rfl, rfl, rfl, trivial⟩
        refine then_n ?_
        refine f_seq ?_
        refine wp_block ?_
        refine f_seq ?_
        refine f_region ?_
        refine lv S (rn_fld fa_49_0 (S.tm rfl)) rfl ?_; clear S; intro a S
        refine lv S (rn_load Tryd.isAgg9 (S.tm rfl) (S.cell (i := 0) rfl rfl)) rfl ?_; clear S; intro a S
        obtain ⟨r1, hr2, h⟩ := bindE h
        refine l_enter S (fun _ => run_call (vs := [.string y1.Key]) ⟨(S.tm rfl), trivial⟩ Tryd.call31) (tumbref2_Key_ok _ y1.Key _ hr2) rfl ?_; clear S; intro v1 a w5 hv1 hk3 hn1 S
        subst hv1
        refine lv S (rn_not (S.tm rfl)) rfl ?_; clear S; intro a S
        refine lv S (rn_assign (S.tm rfl)) rfl ?_; clear S; intro a S
        refine l_done ?_
        replace S := S.nf (L' := [.blk b2 [.string y1.Key, .int .i64 y1.Sex, .int .i64 y1.Born] 49]) (K' := [(3, .string x1), (5, .pointer (some ⟨b2, 0, none⟩)), (9, v_p_l), (10, .int .i64 (p_l.length : Int)), (11, .int .i64 (i1 : Int)), (15, .bool (!r1))]) [true] rfl ⟨rfl, rfl, rfl, rfl, rfl, rfl, trivial⟩
        refine then_n ?_
        refine f_cond (S.tm rfl) (fun hb2 => ?_) (fun hb2 => ?_)
        · replace h := iteT h hb2
          refine f_seq ?_
          refine f_region ?_
          refine lv S (rn_assign rfl) rfl ?_; clear S; intro a S
          refine l_done ?_
          replace S := S.nf (L' := []) (K' := [(2, .int .i64 5)]) [false] rfl ⟨rfl, trivial⟩
          refine then_n ?_
          refine wp_ret ?_
          refine blk_r ?_
          refine then_r ?_
          refine blk_r ?_
          refine then_r ?_
          refine then_r ?_
          refine blk_r ?_
          refine then_r ?_
          refine then_r ?_
          obtain rfl := Option.some.inj h
          exact f_ret S Tryd.results45 rfl rfl
        · replace h := iteF h hb2
          refine f_seq ?_
          refine f_region ?_
          refine lv S (rn_fld fa_49_0 (S.tm rfl)) rfl ?_; clear S; intro a S
          refine lv S (rn_load Tryd.isAgg9 (S.tm rfl) (S.cell (i := 0) rfl rfl)) rfl ?_; clear S; intro a S
          refine lv S (rn_move (S.tm rfl)) rfl ?_; clear S; intro a S
          refine lv S (rn_sleq (S.tm rfl) (S.tm rfl)) rfl ?_; clear S; intro a S
          refine lv S (rn_assign (S.tm rfl)) rfl ?_; clear S; intro a S
          refine l_done ?_
          replace S := S.nf (L' := [.blk b2 [.string y1.Key, .int .i64 y1.Sex, .int .i64 y1.Born] 49]) (K' := [(5, .pointer (some ⟨b2, 0, none⟩)), (9, v_p_l), (10, .int .i64 (p_l.length : Int)), (11, .int .i64 (i1 : Int)), (20, .bool (Sless y1.Key x1 || decide (y1.Key = x1)))]) [true] rfl ⟨rfl, rfl, rfl, rfl, rfl, trivial⟩
          refine then_n ?_
          refine f_cond (S.tm rfl) (fun hb3 => ?_) (fun hb3 => ?_)
          · replace h := iteT h hb3
            refine f_seq ?_
            refine f_region ?_
            refine lv S (rn_assign rfl) rfl ?_; clear S; intro a S
            refine l_done ?_
            replace S := S.nf (L' := []) (K' := [(2, .int .i64 7)]) [false] rfl ⟨rfl, trivial⟩
            refine then_n ?_
            refine wp_ret ?_
            refine blk_r ?_
            refine then_r ?_
            refine blk_r ?_
            refine then_r ?_
            refine then_r ?_
            refine blk_r ?_
            refine then_r ?_
            refine then_r ?_
            obtain rfl := Option.some.inj h
            exact f_ret S Tryd.results45 rfl rfl
          · replace h := iteF h hb3
            refine f_seq ?_
            refine f_region ?_
            refine lv S (rn_fld fa_49_1 (S.tm rfl)) rfl ?_; clear S; intro a S
            refine lv S (rn_load Tryd.isAgg3 (S.tm rfl) (S.cell (i := 0) rfl rfl)) rfl ?_; clear S; intro a S
            refine l_enter S (fun _ => run_call (vs := [.int .i64 y1.Sex, .int .i64 1, .int .i64 2]) ⟨(S.tm rfl), rfl, rfl, trivial⟩ Tryd.call33) (tumbref2_in_ok _ y1.Sex 1 2 _ rfl) rfl ?_; clear S; intro v2 a w6 hv2 hk4 hn2 S
            subst hv2
            refine lv S (rn_not (S.tm rfl)) rfl ?_; clear S; intro a S
            refine lv S (rn_move (S.tm rfl)) rfl ?_; clear S; intro a S
            refine f_cutm 5 (fun a w' => Keep [] w6 w' ∧ Sx w [] nov [.blk b2 [.string y1.Key, .int .i64 y1.Sex, .int .i64 y1.Born] 49] [(5, .pointer (some ⟨b2, 0, none⟩)), (9, v_p_l), (10, .int .i64 (p_l.length : Int)), (11, .int .i64 (i1 : Int)), (35, .bool ((!(tumbref2_in y1.Sex 1 2)) || (!(tumbref2_Day y1.Born))))] 39 a w') ?_ ?_
            · rcases Bool.eq_false_or_eq_true (!(tumbref2_in y1.Sex 1 2)) with hb4 | hb4
              · refine l_skip S rfl rfl rfl (neq_t hb4) rfl ?_ rfl; clear S; intro a S
                refine l_skip S rfl rfl rfl (neq_t hb4) rfl ?_ rfl; clear S; intro a S
                refine l_skip S rfl rfl rfl (neq_t hb4) rfl ?_ rfl; clear S; intro a S
                refine l_skip S rfl rfl rfl (neq_t hb4) rfl ?_ rfl; clear S; intro a S
                refine lv S (rn_or_t (!(tumbref2_Day y1.Born)) hb4 (S.tm rfl) rfl) rfl ?_; clear S; intro a S
                refine l_done ?_
                refine then_n ?_
                exact ⟨Keep.refl _ _, S.nf [true] rfl ⟨rfl, rfl, rfl, rfl, rfl, trivial⟩⟩
              · refine l_want S rfl rfl rfl hb4 ?_
                refine lv S (rn_fld fa_49_2 (S.tm rfl)) rfl ?_; clear S; intro a S
                refine l_want S rfl rfl rfl hb4 ?_
                refine lv S (rn_load Tryd.isAgg3 (S.tm rfl) (S.cell (i := 0) rfl rfl)) rfl ?_; clear S; intro a S
                refine l_want S rfl rfl rfl hb4 ?_
                refine l_enter S (fun _ => run_call (vs := [.int .i64 y1.Born]) ⟨(S.tm rfl), trivial⟩ Tryd.call13) (tumbref2_Day_ok _ y1.Born _ rfl) rfl ?_; clear S; intro v3 a w8 hv3 hk5 hn3 S
                subst hv3
                refine l_want S rfl rfl rfl hb4 ?_
                refine lv S (rn_not (S.tm rfl)) rfl ?_; clear S; intro a S
                refine lv S (rn_or_f hb4 (S.tm rfl) (S.tm rfl)) rfl ?_; clear S; intro a S
                refine l_done ?_
                refine then_n ?_
                exact ⟨hk5, S.nf [true] rfl ⟨rfl, rfl, rfl, rfl, rfl, trivial⟩⟩
            clear S; rintro a w7 ⟨hk6, S⟩
            refine lv S (rn_assign (S.tm rfl)) rfl ?_; clear S; intro a S
            refine l_done ?_
            replace S := S.nf (L' := [.blk b2 [.string y1.Key, .int .i64 y1.Sex, .int .i64 y1.Born] 49]) (K' := [(5, .pointer (some ⟨b2, 0, none⟩)), (9, v_p_l), (10, .int .i64 (p_l.length : Int)), (11, .int .i64 (i1 : Int)), (25, .bool ((!(tumbref2_in y1.Sex 1 2)) || (!(tumbref2_Day y1.Born))))]) [true] rfl ⟨rfl, rfl, rfl, rfl, rfl, trivial⟩
            refine then_n ?_
            refine f_cond (S.tm rfl) (fun hb5 => ?_) (fun hb5 => ?_)
            · replace h := iteT h hb5
              refine f_seq ?_
              refine f_region ?_
              refine lv S (rn_assign rfl) rfl ?_; clear S; intro a S
              refine l_done ?_
              replace S := S.nf (L' := []) (K' := [(2, .int .i64 1)]) [false] rfl ⟨rfl, trivial⟩
              refine then_n ?_
              refine wp_ret ?_
              refine blk_r ?_
              refine then_r ?_
              refine blk_r ?_
              refine then_r ?_
              refine then_r ?_
              refine blk_r ?_
              refine then_r ?_
              refine then_r ?_
              obtain rfl := Option.some.inj h
              exact f_ret S Tryd.results45 rfl rfl
            · replace h := iteF h hb5
              refine wp_skip ?_
              refine blk_n ?_
              refine then_n ?_
              refine f_region ?_
              refine lv S (rn_fld fa_49_0 (S.tm rfl)) rfl ?_; clear S; intro a S
              refine lv S (rn_load Tryd.isAgg9 (S.tm rfl) (S.cell (i := 0) rfl rfl)) rfl ?_; clear S; intro a S
              refine lv S (rn_assign (S.tm rfl)) rfl ?_; clear S; intro a S
              refine l_done ?_
              replace S := S.nf (L' := []) (K' := [(3, .string y1.Key), (9, v_p_l), (10, .int .i64 (p_l.length : Int)), (11, .int .i64 (i1 : Int))]) [false] rfl ⟨rfl, rfl, rfl, rfl, trivial⟩
              refine blk_n ?_
              refine then_n ?_
              refine f_region ?_
              refine lv S (rn_add (S.tm rfl) rfl) rfl ?_; clear S; intro a S
              refine lv S (rn_move (S.tm rfl)) rfl ?_; clear S; intro a S
              refine l_done ?_
              replace S := S.nf (L' := []) (K' := [(3, .string y1.Key), (9, v_p_l), (10, .int .i64 (p_l.length : Int)), (11, .int .i64 (W ((i1 : Int) + 1)))]) [] rfl ⟨rfl, rfl, rfl, rfl, trivial⟩
              refine then_n ?_
              exact ⟨ys1, ⟨i1 + 1, y1.Key, ⟨_, (hd1).trans (List.append_cons _ _ _), by simp [hi1]⟩, h, S.nf [] rfl ⟨rfl, rfl, rfl, (congrArg (fun z => some (Value.int .i64 z)) (rng_next hd1 hi1 (slc_max hs_p_l))), trivial⟩⟩, Nat.lt_succ_self _⟩
    clear S h; rintro a w2 ⟨h, S⟩; rw [hj1] at h; clear hj1 j1
    refine then_n ?_
    refine f_seq ?_
    refine f_region ?_
    refine lv S (rn_assign rfl) rfl ?_; clear S; intro a S
    refine l_done ?_
    replace S := S.nf (L' := []) (K' := [(2, .int .i64 0)]) [] rfl ⟨rfl, trivial⟩
    refine then_n ?_
    refine wp_ret ?_
    obtain rfl := Option.some.inj h
    exact f_ret S Tryd.results45 rfl rfl
theorem tumbref2_AgeFault_ok (w : World) (p_s : GSwimmer) (p_day : Int) (p_way : Int) (r : Int) (h : tumbref2_AgeFault p_s p_day p_way = some r) :
    Calls Tryd.prog 23 [.agg (GSwimmer.enc p_s).toArray, .int .i64 p_day, .int .i64 p_way].toArray w (Ret w [] fun τ v w' => v = .int .i64 r) := by
  refine f_enter [] [] Tryd.func23 rfl Tryd.ntmps23 rfl (by simp) (by simp [fps]) (by simp [fps]) fun a S => ?_
  unfold tumbref2_AgeFault at h
  replace S := S.nf (L' := []) (K' := [(0, .agg (GSwimmer.enc p_s).toArray), (1, .int .i64 p_day), (2, .int .i64 p_way)]) [] rfl ⟨rfl, rfl, rfl, trivial⟩
  refine f_seq ?_
  refine f_region ?_
  refine l_box S (S.tm rfl) (cs := [.string p_s.Key, .int .i64 p_s.Sex, .int .i64 p_s.Born]) rfl rfl ?_; clear S; intro a w1 b1 hz1 hk1 S
  refine lv S (rn_assign rfl) rfl ?_; clear S; intro a S
  refine l_done ?_
  replace S := S.nf (L' := [.blk b1 [.string p_s.Key, .int .i64 p_s.Sex, .int .i64 p_s.Born] 49]) (K' := [(1, .int .i64 p_day), (2, .int .i64 p_way), (3, .pointer (some ⟨b1, 0, none⟩))]) [true] rfl ⟨rfl, rfl, rfl, trivial⟩
  refine then_n ?_
  refine f_seq ?_
  refine f_seq ?_
  refine f_region ?_
  refine lv S (rn_ldA Tryd.isAgg49 Tryd.sizeOf49 (off := 0) (o := 0) (part := [.string p_s.Key, .int .i64 p_s.Sex, .int .i64 p_s.Born]) rfl rfl (S.tm rfl) (S.cellsAt (i := 0) rfl)) rfl ?_; clear S; intro a S
  refine l_buildSlice S Tryd.underlying70 Tryd.sizeOf49 Tryd.zeroValue49 rfl rfl (pv := [(0, .agg #[.string p_s.Key, .int .i64 p_s.Sex, .int .i64 p_s.Born])]) ⟨rfl, (S.tm rfl), trivial⟩ (cs := [.string p_s.Key, .int .i64 p_s.Sex, .int .i64 p_s.Born]) (by kernel_rfl) rfl ?_; clear S; intro a w2 b2 hz2 hk2 S
  obtain ⟨r1, hr1, h⟩ := bindE h
  refine l_enter S (fun _ => run_call (vs := [.slice (some ⟨b2, 0, none⟩) 1 1]) ⟨(S.tm rfl), trivial⟩ Tryd.call45) (tumbref2_SwimmersFault_ok _ (.slice (some ⟨b2, 0, none⟩) 1 1) [p_s] (lit_slcT GSwimmer.enc_ok S (i := 0) rfl rfl rfl rfl ((ne_nil (e' := .blk b2 [.string p_s.Key, .int .i64 p_s.Sex, .int .i64 p_s.Born] 49)) _ rfl)) _ hr1) rfl ?_; clear S; intro v1 a w3 hv1 hk3 hn1 S
  subst hv1
  refine lv S (rn_assign (S.tm rfl)) rfl ?_; clear S; intro a S
  refine l_done ?_
  replace S := S.nf (L' := [.blk b1 [.string p_s.Key, .int .i64 p_s.Sex, .int .i64 p_s.Born] 49]) (K' := [(1, .int .i64 p_day), (2, .int .i64 p_way), (3, .pointer (some ⟨b1, 0, none⟩)), (7, .int .i64 r1)]) [false, true] rfl ⟨rfl, rfl, rfl, rfl, trivial⟩
  refine then_n ?_
  refine f_seq ?_
  refine f_region ?_
  refine lv S (rn_move (S.tm rfl)) rfl ?_; clear S; intro a S
  refine lv S (rn_neq (S.tm rfl) rfl) rfl ?_; clear S; intro a S
  refine l_done ?_
  replace S := S.nf (L' := [.blk b1 [.string p_s.Key, .int .i64 p_s.Sex, .int .i64 p_s.Born] 49]) (K' := [(1, .int .i64 p_day), (2, .int .i64 p_way), (3, .pointer (some ⟨b1, 0, none⟩)), (7, .int .i64 r1), (12, .bool (!decide (r1 = 0)))]) [true] rfl ⟨rfl, rfl, rfl, rfl, rfl, trivial⟩
  refine then_n ?_
  refine f_cond (S.tm rfl) (fun hb1 => ?_) (fun hb1 => ?_)
  · replace h := iteT h hb1
    refine f_seq ?_
    refine f_region ?_
    refine lv S (rn_move (S.tm rfl)) rfl ?_; clear S; intro a S
    refine lv S (rn_assign (S.tm rfl)) rfl ?_; clear S; intro a S
    refine l_done ?_
    replace S := S.nf (L' := []) (K' := [(6, .int .i64 r1)]) [false] rfl ⟨rfl, trivial⟩
    refine then_n ?_
    refine wp_ret ?_
    refine then_r ?_
    obtain rfl := Option.some.inj h
    exact f_ret S Tryd.results23 rfl rfl
  · replace h := iteF h hb1
    refine wp_skip ?_
    refine then_n ?_
    refine f_seq ?_
    refine wp_block ?_
    refine f_seq ?_
    refine f_region ?_
    refine lv S (rn_move (S.tm rfl)) rfl ?_; clear S; intro a S
    refine lv S (rn_fld fa_49_2 (S.tm rfl)) rfl ?_; clear S; intro a S
    refine lv S (rn_load Tryd.isAgg3 (S.tm rfl) (S.cell (i := 0) rfl rfl)) rfl ?_; clear S; intro a S
    refine l_enter S (fun _ => run_call (vs := [.int .i64 p_day, .int .i64 p_s.Born, .int .i64 4000]) ⟨(S.tm rfl), (S.tm rfl), rfl, trivial⟩ Tryd.call33) (tumbref2_in_ok _ p_day p_s.Born 4000 _ rfl) rfl ?_; clear S; intro v2 a w4 hv2 hk4 hn2 S
    subst hv2
    refine lv S (rn_not (S.tm rfl)) rfl ?_; clear S; intro a S
    refine lv S (rn_assign (S.tm rfl)) rfl ?_; clear S; intro a S
    refine l_done ?_
    replace S := S.nf (L' := []) (K' := [(2, .int .i64 p_way), (14, .bool (!(tumbref2_in p_day p_s.Born 4000)))]) [false] rfl ⟨rfl, rfl, trivial⟩
    refine then_n ?_
    refine f_cond (S.tm rfl) (fun hb2 => ?_) (fun hb2 => ?_)
    · replace h := iteT h hb2
      refine f_seq ?_
      refine f_region ?_
      refine lv S (rn_assign rfl) rfl ?_; clear S; intro a S
      refine l_done ?_
      replace S := S.nf (L' := []) (K' := [(6, .int .i64 1)]) [] rfl ⟨rfl, trivial⟩
      refine then_n ?_
      refine wp_ret ?_
      refine blk_r ?_
      refine then_r ?_
      obtain rfl := Option.some.inj h
      exact f_ret S Tryd.results23 rfl rfl
    · replace h := iteF h hb2
      refine f_seq ?_
      refine f_region ?_
      refine lv S (rn_move (S.tm rfl)) rfl ?_; clear S; intro a S
      refine l_enter S (fun _ => run_call (vs := [.int .i64 p_way, .int .i64 1, .int .i64 2]) ⟨(S.tm rfl), rfl, rfl, trivial⟩ Tryd.call33) (tumbref2_in_ok _ p_way 1 2 _ rfl) rfl ?_; clear S; intro v3 a w5 hv3 hk5 hn3 S
      subst hv3
      refine lv S (rn_not (S.tm rfl)) rfl ?_; clear S; intro a S
      refine lv S (rn_assign (S.tm rfl)) rfl ?_; clear S; intro a S
      refine l_done ?_
      replace S := S.nf (L' := []) (K' := [(20, .bool (!(tumbref2_in p_way 1 2)))]) [] rfl ⟨rfl, trivial⟩
      refine then_n ?_
      refine f_cond (S.tm rfl) (fun hb3 => ?_) (fun hb3 => ?_)
      · replace h := iteT h hb3
        refine f_seq ?_
        refine f_region ?_
        refine lv S (rn_assign rfl) rfl ?_; clear S; intro a S
        refine l_done ?_
        replace S := S.nf (L' := []) (K' := [(6, .int .i64 4)]) [] rfl ⟨rfl, trivial⟩
        refine then_n ?_
        refine wp_ret ?_
        refine blk_r ?_
        refine then_r ?_
        obtain rfl := Option.some.inj h
        exact f_ret S Tryd.results23 rfl rfl
      · replace h := iteF h hb3
        refine wp_skip ?_
        refine blk_n ?_
        refine then_n ?_
        refine f_seq ?_
        refine f_region ?_
        refine lv S (rn_assign rfl) rfl ?_; clear S; intro a S
        refine l_done ?_
        replace S := S.nf (L' := []) (K' := [(6, .int .i64 0)]) [] rfl ⟨rfl, trivial⟩
        refine then_n ?_
        refine wp_ret ?_
        obtain rfl := Option.some.inj h
        exact f_ret S Tryd.results23 rfl rfl
theorem tumbref2_pastDate_ok (w : World) (r : GDate) (h : tumbref2_pastDate = r) :
    Calls Tryd.prog 75 [].toArray w (Ret w [] fun τ v w' => v = .agg (GDate.enc r).toArray) := by
  refine f_enter [] [] Tryd.func75 rfl Tryd.ntmps75 rfl (by simp) (by simp [fps]) (by simp [fps]) fun a S => ?_
  unfold tumbref2_pastDate at h
  replace S := S.nf (L' := []) (K' := []) [] rfl trivial
  refine f_seq ?_
  refine f_region ?_
  refine l_alloc S Tryd.zeroValue75 (cs := [.int .i64 0, .int .i64 0, .int .i64 0]) rfl rfl ?_; clear S; intro a w1 b1 hz1 hk1 S
  refine l_done ?_
  replace S := S.nf (L' := [.blk b1 [.int .i64 0, .int .i64 0, .int .i64 0] 75]) (K' := [(0, .pointer (some ⟨b1, 0, none⟩))]) [true] rfl ⟨rfl, trivial⟩
  refine then_n ?_
  refine f_seq ?_
  refine f_region ?_
  refine lv S (rn_bld bt_75 (pv := [(0, .int .i64 1914), (1, .int .i64 6), (2, .int .i64 27)]) ⟨rfl, rfl, rfl, rfl, rfl, rfl, trivial⟩ (cs := [.int .i64 1914, .int .i64 6, .int .i64 27]) (by kernel_rfl)) rfl ?_; clear S; intro a S
  refine l_store S (S.tm rfl) (S.tm rfl) (i := 0) (off := 0) rfl Tryd.sizeOf75 (vs := [.int .i64 1914, .int .i64 6, .int .i64 27]) rfl rfl rfl rfl ?_; clear S; intro w2 hk2 S
  refine l_done ?_
  replace S := S.nf (L' := [.blk b1 [.int .i64 1914, .int .i64 6, .int .i64 27] 75]) (K' := [(0, .pointer (some ⟨b1, 0, none⟩))]) [true] rfl ⟨rfl, trivial⟩
  refine then_n ?_
  refine wp_ret ?_
  subst h
  exact f_retG S (rs := [.cell 0 75]) (vs := [.agg #[.int .i64 1914, .int .i64 6, .int .i64 27]]) Tryd.results75 ⟨(res_cell (off := 0) S rfl Tryd.isAgg75 Tryd.sizeOf75 rfl (S.cellsAt (i := 0) rfl)), trivial⟩ rfl rfl
theorem tumbref2_monthLong_ok (w : World) (p_y : Int) (p_m : Int) (r : Int) (h : tumbref2_monthLong p_y p_m = some r) :
    Calls Tryd.prog 76 [.int .i64 p_y, .int .i64 p_m].toArray w (Ret w [] fun τ v w' => v = .int .i64 r) := by
  refine f_enter [] [] Tryd.func76 rfl Tryd.ntmps76 rfl (by simp) (by simp [fps]) (by simp [fps]) fun a S => ?_
  unfold tumbref2_monthLong at h
  replace S := S.nf (L' := []) (K' := [(0, .int .i64 p_y), (1, .int .i64 p_m)]) [] rfl ⟨rfl, rfl, trivial⟩
  refine f_seq ?_
  refine f_region ?_
  refine lv S (rn_assign rfl) rfl ?_; clear S; intro a S
  refine l_done ?_
  replace S := S.nf (L' := []) (K' := [(0, .int .i64 p_y), (1, .int .i64 p_m)]) [] rfl ⟨rfl, rfl, trivial⟩
  refine then_n ?_
  refine f_seq ?_
  refine f_seq ?_
  refine f_region ?_
  refine lv S (rn_move (S.tm rfl)) rfl ?_; clear S; intro a S
  refine lv S (rn_eql (S.tm rfl) rfl) rfl ?_; clear S; intro a S
  refine lv S (rn_move (S.tm rfl)) rfl ?_; clear S; intro a S
  refine f_cutm 14 (fun a w' => Keep [] w w' ∧ Sx w [] nov [] [(1, .int .i64 p_m), (21, .bool ((decide (p_m = 2)) && (((decide ((Int.tmod p_y 4) = 0)) && (!decide ((Int.tmod p_y 100) = 0))) || (decide ((Int.tmod p_y 400) = 0)))))] 27 a w') ?_ ?_
  · rcases Bool.eq_false_or_eq_true (decide (p_m = 2)) with hb1 | hb1
    · refine l_want S rfl rfl rfl hb1 ?_
      refine lv S (rn_move (S.tm rfl)) rfl ?_; clear S; intro a S
      refine l_want S rfl rfl rfl hb1 ?_
      refine lv S (rn_rem (S.tm rfl) rfl (by decide)) rfl ?_; clear S; intro a S
      refine l_want S rfl rfl rfl hb1 ?_
      refine lv S (rn_eql (S.tm rfl) rfl) rfl ?_; clear S; intro a S
      refine l_want S rfl rfl rfl hb1 ?_
      refine lv S (rn_move (S.tm rfl)) rfl ?_; clear S; intro a S
      refine f_cutm 4 (fun a w' => Keep [] w w' ∧ Sx w [] nov [] [(0, .int .i64 p_y), (1, .int .i64 p_m), (7, .bool (decide (p_m = 2))), (15, .bool ((decide ((Int.tmod p_y 4) = 0)) && (!decide ((Int.tmod p_y 100) = 0))))] 27 a w') ?_ ?_
      · rcases Bool.eq_false_or_eq_true (decide ((Int.tmod p_y 4) = 0)) with hb2 | hb2
        · refine l_want S rfl rfl rfl hb2 ?_
          refine lv S (rn_move (S.tm rfl)) rfl ?_; clear S; intro a S
          refine l_want S rfl rfl rfl hb2 ?_
          refine lv S (rn_rem (S.tm rfl) rfl (by decide)) rfl ?_; clear S; intro a S
          refine l_want S rfl rfl rfl hb2 ?_
          refine lv S (rn_neq (S.tm rfl) rfl) rfl ?_; clear S; intro a S
          refine l_want S rfl rfl rfl hb1 ?_
          refine lv S (rn_and_t hb2 (S.tm rfl) (S.tm rfl)) rfl ?_; clear S; intro a S
          refine l_done ?_
          refine then_n ?_
          exact ⟨Keep.refl _ _, S.nf [] rfl ⟨rfl, rfl, rfl, rfl, trivial⟩⟩
        · refine l_skip S rfl rfl rfl (neq_f hb2) rfl ?_ rfl; clear S; intro a S
          refine l_skip S rfl rfl rfl (neq_f hb2) rfl ?_ rfl; clear S; intro a S
          refine l_skip S rfl rfl rfl (neq_f hb2) rfl ?_ rfl; clear S; intro a S
          refine l_want S rfl rfl rfl hb1 ?_
          refine lv S (rn_and_f (!decide ((Int.tmod p_y 100) = 0)) hb2 (S.tm rfl) rfl) rfl ?_; clear S; intro a S
          refine l_done ?_
          refine then_n ?_
          exact ⟨Keep.refl _ _, S.nf [] rfl ⟨rfl, rfl, rfl, rfl, trivial⟩⟩
      clear S; rintro a w2 ⟨hk1, S⟩
      refine l_want S rfl rfl rfl hb1 ?_
      refine lv S (rn_move (S.tm rfl)) rfl ?_; clear S; intro a S
      refine f_cutm 4 (fun a w' => Keep [] w2 w' ∧ Sx w [] nov [] [(1, .int .i64 p_m), (7, .bool (decide (p_m = 2))), (20, .bool (((decide ((Int.tmod p_y 4) = 0)) && (!decide ((Int.tmod p_y 100) = 0))) || (decide ((Int.tmod p_y 400) = 0))))] 27 a w') ?_ ?_
      · rcases Bool.eq_false_or_eq_true ((decide ((Int.tmod p_y 4) = 0)) && (!decide ((Int.tmod p_y 100) = 0))) with hb3 | hb3
        · refine l_skip S rfl rfl rfl (neq_t hb3) rfl ?_ rfl; clear S; intro a S
          refine l_skip S rfl rfl rfl (neq_t hb3) rfl ?_ rfl; clear S; intro a S
          refine l_skip S rfl rfl rfl (neq_t hb3) rfl ?_ rfl; clear S; intro a S
          refine l_want S rfl rfl rfl hb1 ?_
          refine lv S (rn_or_t (decide ((Int.tmod p_y 400) = 0)) hb3 (S.tm rfl) rfl) rfl ?_; clear S; intro a S
          refine l_done ?_
          refine then_n ?_
          exact ⟨Keep.refl _ _, S.nf [] rfl ⟨rfl, rfl, rfl, trivial⟩⟩
        · refine l_want S rfl rfl rfl hb3 ?_
          refine lv S (rn_move (S.tm rfl)) rfl ?_; clear S; intro a S
          refine l_want S rfl rfl rfl hb3 ?_
          refine lv S (rn_rem (S.tm rfl) rfl (by decide)) rfl ?_; clear S; intro a S
          refine l_want S rfl rfl rfl hb3 ?_
          refine lv S (rn_eql (S.tm rfl) rfl) rfl ?_; clear S; intro a S
          refine l_want S rfl rfl rfl hb1 ?_
          refine lv S (rn_or_f hb3 (S.tm rfl) (S.tm rfl)) rfl ?_; clear S; intro a S
          refine l_done ?_
          refine then_n ?_
          exact ⟨Keep.refl _ _, S.nf [] rfl ⟨rfl, rfl, rfl, trivial⟩⟩
      clear S; rintro a w3 ⟨hk2, S⟩
      refine lv S (rn_and_t hb1 (S.tm rfl) (S.tm rfl)) rfl ?_; clear S; intro a S
      refine l_done ?_
      refine then_n ?_
      exact ⟨(hk1).trans hk2, S.nf [] rfl ⟨rfl, rfl, trivial⟩⟩
    · refine l_skip S rfl rfl rfl (neq_f hb1) rfl ?_ rfl; clear S; intro a S
      refine l_skip S rfl rfl rfl (neq_f hb1) rfl ?_ rfl; clear S; intro a S
      refine l_skip S rfl rfl rfl (neq_f hb1) rfl ?_ rfl; clear S; intro a S
      refine l_skip S rfl rfl rfl (neq_f hb1) rfl ?_ rfl; clear S; intro a S
      refine l_skipU S rfl rfl rfl rfl ?_; clear S; intro a S
      refine l_skipU S rfl rfl rfl rfl ?_; clear S; intro a S
      refine l_skipU S rfl rfl rfl rfl ?_; clear S; intro a S
      refine l_skip S rfl rfl rfl (neq_f hb1) rfl ?_ rfl; clear S; intro a S
      refine l_skip S rfl rfl rfl (neq_f hb1) rfl ?_ rfl; clear S; intro a S
      refine l_skipU S rfl rfl rfl rfl ?_; clear S; intro a S
      refine l_skipU S rfl rfl rfl rfl ?_; clear S; intro a S
      refine l_skipU S rfl rfl rfl rfl ?_; clear S; intro a S
      refine l_skip S rfl rfl rfl (neq_f hb1) rfl ?_ rfl; clear S; intro a S
      refine lv S (rn_and_f (((decide ((Int.tmod p_y 4) = 0)) && (!decide ((Int.tmod p_y 100) = 0))) || (decide ((Int.tmod p_y 400) = 0))) hb1 (S.tm rfl) rfl) rfl ?_; clear S; intro a S
      refine l_done ?_
      refine then_n ?_
      exact ⟨Keep.refl _ _, S.nf [] rfl ⟨rfl, rfl, trivial⟩⟩
  clear S; rintro a w1 ⟨hk3, S⟩
  refine l_done ?_
  replace S := S.nf (L' := []) (K' := [(1, .int .i64 p_m), (21, .bool ((decide (p_m = 2)) && (((decide ((Int.tmod p_y 4) = 0)) && (!decide ((Int.tmod p_y 100) = 0))) || (decide ((Int.tmod p_y 400) = 0)))))]) [] rfl ⟨rfl, rfl, trivial⟩
  refine then_n ?_
  refine f_cond (S.tm rfl) (fun hb4 => ?_) (fun hb4 => ?_)
  · replace h := iteT h hb4
    refine f_seq ?_
    refine f_region ?_
    refine lv S (rn_assign rfl) rfl ?_; clear S; intro a S
    refine l_done ?_
    replace S := S.nf (L' := []) (K' := [(4, .int .i64 29)]) [] rfl ⟨rfl, trivial⟩
    refine then_n ?_
    refine wp_ret ?_
    refine then_r ?_
    obtain rfl := Option.some.inj h
    exact f_ret S Tryd.results76 rfl rfl
  · replace h := iteF h hb4
    refine wp_skip ?_
    refine then_n ?_
    refine f_seq ?_
    refine f_region ?_
    refine l_buildSlice S Tryd.underlying22 Tryd.sizeOf3 Tryd.zeroValue3 rfl rfl (pv := [(0, .int .i64 31), (1, .int .i64 28), (2, .int .i64 31), (3, .int .i64 30), (4, .int .i64 31), (5, .int .i64 30), (6, .int .i64 31), (7, .int .i64 31), (8, .int .i64 30), (9, .int .i64 31), (10, .int .i64 30), (11, .int .i64 31)]) ⟨rfl, rfl, rfl, rfl, rfl, rfl, rfl, rfl, rfl, rfl, rfl, rfl, rfl, rfl, rfl, rfl, rfl, rfl, rfl, rfl, rfl, rfl, rfl, rfl, trivial⟩ (cs := [.int .i64 31, .int .i64 28, .int .i64 31, .int .i64 30, .int .i64 31, .int .i64 30, .int .i64 31, .int .i64 31, .int .i64 30, .int .i64 31, .int .i64 30, .int .i64 31]) (by kernel_rfl) rfl ?_; clear S; intro a w4 b1 hz1 hk4 S
    refine lv S (rn_move (S.tm rfl)) rfl ?_; clear S; intro a S
    refine lv S (rn_sub (S.tm rfl) rfl) rfl ?_; clear S; intro a S
    obtain ⟨hc1, h⟩ := chkE h
    obtain ⟨b2, o1, hm1, hr1⟩ := rn_indexT (a := a) (x := .tmp 22) (y := .tmp 24) (ty := 0) sl_22 (lit_slcT enc_int S (i := 0) rfl rfl rfl rfl ((ne_nil (e' := .blk b1 [.int .i64 31, .int .i64 28, .int .i64 31, .int .i64 30, .int .i64 31, .int .i64 30, .int .i64 31, .int .i64 31, .int .i64 30, .int .i64 31, .int .i64 30, .int .i64 31] 3)) _ rfl)) (inB_get hc1).1 (inB_get hc1).2 (S.tm rfl) (S.tm rfl)
    refine lv S (hr1 _) rfl ?_; clear S; intro a S
    clear hr1
    refine lv S (rn_ld Tryd.isAgg3 (off := o1) (o := 0) (S.tm rfl) hm1.now rfl) rfl ?_; clear S; intro a S
    refine lv S (rn_assign (S.tm rfl)) rfl ?_; clear S; intro a S
    refine l_done ?_
    replace S := S.nf (L' := []) (K' := [(4, .int .i64 (nth [31, 28, 31, 30, 31, 30, 31, 31, 30, 31, 30, 31] (W (p_m - 1))))]) [false] rfl ⟨rfl, trivial⟩
    refine then_n ?_
    refine wp_ret ?_
    obtain rfl := Option.some.inj h
    exact f_ret S Tryd.results76 rfl rfl
set_option maxRecDepth 20000 in
theorem tumbref2_next_ok (w : World) (p_d : GDate) (r : GDate) (h : tumbref2_next p_d = some r) :
    Calls Tryd.prog 77 [.agg (GDate.enc p_d).toArray].toArray w (Ret w [] fun τ v w' => v = .agg (GDate.enc r).toArray) := by
  refine f_enter [] [] Tryd.func77 rfl Tryd.ntmps77 rfl (by simp) (by simp [fps]) (by simp [fps]) fun a S => ?_
  unfold tumbref2_next at h
  replace S := S.nf (L' := []) (K' := [(0, .agg (GDate.enc p_d).toArray)]) [] rfl ⟨rfl, trivial⟩
  refine f_seq ?_
  refine f_region ?_
  refine l_box S (S.tm rfl) (cs := [.int .i64 p_d.Year, .int .i64 p_d.Month, .int .i64 p_d.Day]) rfl rfl ?_; clear S; intro a w1 b1 hz1 hk1 S
  refine l_alloc S Tryd.zeroValue75 (cs := [.int .i64 0, .int .i64 0, .int .i64 0]) rfl rfl ?_; clear S; intro a w2 b2 hz2 hk2 S
  refine l_done ?_
  replace S := S.nf (L' := [.blk b2 [.int .i64 0, .int .i64 0, .int .i64 0] 75, .blk b1 [.int .i64 p_d.Year, .int .i64 p_d.Month, .int .i64 p_d.Day] 75]) (K' := [(1, .pointer (some ⟨b1, 0, none⟩)), (2, .pointer (some ⟨b2, 0, none⟩))]) [true, true] rfl ⟨rfl, rfl, trivial⟩
  refine then_n ?_
  refine f_seq ?_
  refine f_seq ?_
  refine f_region ?_
  refine lv S (rn_fld fa_75_2 (S.tm rfl)) rfl ?_; clear S; intro a S
  refine lv S (rn_load Tryd.isAgg3 (S.tm rfl) (S.cell (i := 1) rfl rfl)) rfl ?_; clear S; intro a S
  refine lv S (rn_add (S.tm rfl) rfl) rfl ?_; clear S; intro a S
  refine lv S (rn_fld fa_75_2 (S.tm rfl)) rfl ?_; clear S; intro a S
  refine l_store S (S.tm rfl) (S.tm rfl) (i := 1) (off := 2) rfl Tryd.sizeOf3 (vs := [.int .i64 (W (p_d.Day + 1))]) rfl rfl rfl rfl ?_; clear S; intro w3 hk3 S
  refine l_done ?_
  replace S := S.nf (L' := [.blk b2 [.int .i64 0, .int .i64 0, .int .i64 0] 75, .blk b1 [.int .i64 p_d.Year, .int .i64 p_d.Month, .int .i64 (W (p_d.Day + 1))] 75]) (K' := [(1, .pointer (some ⟨b1, 0, none⟩)), (2, .pointer (some ⟨b2, 0, none⟩))]) [true, true] rfl ⟨rfl, rfl, trivial⟩
  refine then_n ?_
  refine f_seq ?_
  obtain ⟨r1, hr1, h⟩ := bindE h
  refine d_region [] ([]) Tryd.mixed S rfl (by kernel_rfl) ?_; clear S; intro w5 hk5 hsel S
  refine d_quiet 0 S hsel rfl rfl rfl (by kernel_rfl) (by kernel_rfl) rfl (fun _ hw => (rn_fld fa_75_2 (S.tm rfl))) ?_; clear S; intro a S
  refine d_quiet 1 S hsel rfl rfl rfl (by kernel_rfl) (by kernel_rfl) rfl (fun _ hw => (rn_ld Tryd.isAgg3 (off := 0) (o := 2) (S.tm rfl) ((S.blk_mem (i := 1) (cells := [.int .i64 p_d.Year, .int .i64 p_d.Month, .int .i64 (W (p_d.Day + 1))]) (b := b1) (T := 75) rfl (ne_nil (e' := .blk b1 [.int .i64 p_d.Year, .int .i64 p_d.Month, .int .i64 (W (p_d.Day + 1))] 75))).kept hw) rfl)) ?_; clear S; intro a S
  refine d_quiet 2 S hsel rfl rfl rfl (by kernel_rfl) (by kernel_rfl) rfl (fun _ hw => (rn_fld fa_75_0 (S.tm rfl))) ?_; clear S; intro a S
  refine d_quiet 3 S hsel rfl rfl rfl (by kernel_rfl) (by kernel_rfl) rfl (fun _ hw => (rn_ld Tryd.isAgg3 (off := 0) (o := 0) (S.tm rfl) ((S.blk_mem (i := 1) (cells := [.int .i64 p_d.Year, .int .i64 p_d.Month, .int .i64 (W (p_d.Day + 1))]) (b := b1) (T := 75) rfl (ne_nil (e' := .blk b1 [.int .i64 p_d.Year, .int .i64 p_d.Month, .int .i64 (W (p_d.Day + 1))] 75))).kept hw) rfl)) ?_; clear S; intro a S
  refine d_quiet 4 S hsel rfl rfl rfl (by kernel_rfl) (by kernel_rfl) rfl (fun _ hw => (rn_fld fa_75_1 (S.tm rfl))) ?_; clear S; intro a S
  refine d_quiet 5 S hsel rfl rfl rfl (by kernel_rfl) (by kernel_rfl) rfl (fun _ hw => (rn_ld Tryd.isAgg3 (off := 0) (o := 1) (S.tm rfl) ((S.blk_mem (i := 1) (cells := [.int .i64 p_d.Year, .int .i64 p_d.Month, .int .i64 (W (p_d.Day + 1))]) (b := b1) (T := 75) rfl (ne_nil (e' := .blk b1 [.int .i64 p_d.Year, .int .i64 p_d.Month, .int .i64 (W (p_d.Day + 1))] 75))).kept hw) rfl)) ?_; clear S; intro a S
  refine d_loud1 6 (by kernel_rfl) rfl ?_
  refine l_enter S (fun _ => run_call (vs := [.int .i64 p_d.Year, .int .i64 p_d.Month]) ⟨(S.tm rfl), (S.tm rfl), trivial⟩ Tryd.call76) (tumbref2_monthLong_ok _ p_d.Year p_d.Month _ hr1) rfl ?_; clear S; intro v2 a w6 hv2 hk6 hn2 S
  subst hv2
  refine l_done ?_
  refine d_next hk6 ?_
  refine d_rest [7] hsel (by kernel_rfl) rfl ?_
  clear hsel
  refine s_lv S rfl (rn_gtr (S.tm rfl) (S.tm rfl)) rfl ?_; clear S; intro a S
  refine s_done ?_
  replace S := S.nf (L' := [.blk b2 [.int .i64 0, .int .i64 0, .int .i64 0] 75, .blk b1 [.int .i64 p_d.Year, .int .i64 p_d.Month, .int .i64 (W (p_d.Day + 1))] 75]) (K' := [(1, .pointer (some ⟨b1, 0, none⟩)), (2, .pointer (some ⟨b2, 0, none⟩)), (14, .bool (decide (r1 < (W (p_d.Day + 1)))))]) [true, true] rfl ⟨rfl, rfl, rfl, trivial⟩
  refine then_n ?_
  obtain ⟨j1, hj1, h⟩ := joinE h
  refine f_join (fun a w' => ∃ x1 : Int, ∃ x2 : Int, ∃ x3 : Int, j1 x1 x2 x3 = some r ∧ Sx w [] nov [.blk b2 [.int .i64 0, .int .i64 0, .int .i64 0] 75, .blk b1 [.int .i64 x1, .int .i64 x2, .int .i64 x3] 75] [(1, .pointer (some ⟨b1, 0, none⟩)), (2, .pointer (some ⟨b2, 0, none⟩))] 29 a w') ?_ ?_
  · refine f_cond (S.tm rfl) (fun hb1 => ?_) (fun hb1 => ?_)
    · replace h := iteT h hb1
      refine f_seq ?_
      refine f_region ?_
      refine lv S (rn_fld fa_75_2 (S.tm rfl)) rfl ?_; clear S; intro a S
      refine l_store S (S.tm rfl) rfl (i := 1) (off := 2) rfl Tryd.sizeOf3 (vs := [.int .i64 1]) rfl rfl rfl rfl ?_; clear S; intro w8 hk7 S
      refine l_done ?_
      replace S := S.nf (L' := [.blk b2 [.int .i64 0, .int .i64 0, .int .i64 0] 75, .blk b1 [.int .i64 p_d.Year, .int .i64 p_d.Month, .int .i64 1] 75]) (K' := [(1, .pointer (some ⟨b1, 0, none⟩)), (2, .pointer (some ⟨b2, 0, none⟩))]) [true, true] rfl ⟨rfl, rfl, trivial⟩
      refine then_n ?_
      refine f_seq ?_
      refine f_region ?_
      refine lv S (rn_fld fa_75_1 (S.tm rfl)) rfl ?_; clear S; intro a S
      refine lv S (rn_load Tryd.isAgg3 (S.tm rfl) (S.cell (i := 1) rfl rfl)) rfl ?_; clear S; intro a S
      refine lv S (rn_add (S.tm rfl) rfl) rfl ?_; clear S; intro a S
      refine lv S (rn_fld fa_75_1 (S.tm rfl)) rfl ?_; clear S; intro a S
      refine l_store S (S.tm rfl) (S.tm rfl) (i := 1) (off := 1) rfl Tryd.sizeOf3 (vs := [.int .i64 (W (p_d.Month + 1))]) rfl rfl rfl rfl ?_; clear S; intro w9 hk8 S
      refine l_done ?_
      replace S := S.nf (L' := [.blk b2 [.int .i64 0, .int .i64 0, .int .i64 0] 75, .blk b1 [.int .i64 p_d.Year, .int .i64 (W (p_d.Month + 1)), .int .i64 1] 75]) (K' := [(1, .pointer (some ⟨b1, 0, none⟩)), (2, .pointer (some ⟨b2, 0, none⟩))]) [true, true] rfl ⟨rfl, rfl, trivial⟩
      refine then_n ?_
      refine f_seq ?_
      refine f_region ?_
      refine lv S (rn_fld fa_75_1 (S.tm rfl)) rfl ?_; clear S; intro a S
      refine lv S (rn_load Tryd.isAgg3 (S.tm rfl) (S.cell (i := 1) rfl rfl)) rfl ?_; clear S; intro a S
      refine lv S (rn_gtr (S.tm rfl) rfl) rfl ?_; clear S; intro a S
      refine l_done ?_
      replace S := S.nf (L' := [.blk b2 [.int .i64 0, .int .i64 0, .int .i64 0] 75, .blk b1 [.int .i64 p_d.Year, .int .i64 (W (p_d.Month + 1)), .int .i64 1] 75]) (K' := [(1, .pointer (some ⟨b1, 0, none⟩)), (2, .pointer (some ⟨b2, 0, none⟩)), (22, .bool (decide (12 < (W (p_d.Month + 1)))))]) [true, true] rfl ⟨rfl, rfl, rfl, trivial⟩
      refine then_n ?_
      obtain ⟨j2, hj2, h⟩ := joinE h
      refine f_join (fun a w' => ∃ x4 : Int, ∃ x5 : Int, j2 x4 x5 = some r ∧ Sx w [] nov [.blk b2 [.int .i64 0, .int .i64 0, .int .i64 0] 75, .blk b1 [.int .i64 x4, .int .i64 x5, .int .i64 1] 75] [(1, .pointer (some ⟨b1, 0, none⟩)), (2, .pointer (some ⟨b2, 0, none⟩))] 29 a w') ?_ ?_
      · refine f_cond (S.tm rfl) (fun hb2 => ?_) (fun hb2 => ?_)
        · replace h := iteT h hb2
          refine f_region ?_
          refine lv S (rn_fld fa_75_0 (S.tm rfl)) rfl ?_; clear S; intro a S
          refine lv S (rn_load Tryd.isAgg3 (S.tm rfl) (S.cell (i := 1) rfl rfl)) rfl ?_; clear S; intro a S
          refine lv S (rn_add (S.tm rfl) rfl) rfl ?_; clear S; intro a S
          refine lv S (rn_fld fa_75_1 (S.tm rfl)) rfl ?_; clear S; intro a S
          refine l_store S (S.tm rfl) rfl (i := 1) (off := 1) rfl Tryd.sizeOf3 (vs := [.int .i64 1]) rfl rfl rfl rfl ?_; clear S; intro w11 hk9 S
          refine lv S (rn_fld fa_75_0 (S.tm rfl)) rfl ?_; clear S; intro a S
          refine l_store S (S.tm rfl) (S.tm rfl) (i := 1) (off := 0) rfl Tryd.sizeOf3 (vs := [.int .i64 (W (p_d.Year + 1))]) rfl rfl rfl rfl ?_; clear S; intro w12 hk10 S
          refine l_done ?_
          replace S := S.nf (L' := [.blk b2 [.int .i64 0, .int .i64 0, .int .i64 0] 75, .blk b1 [.int .i64 (W (p_d.Year + 1)), .int .i64 1, .int .i64 1] 75]) (K' := [(1, .pointer (some ⟨b1, 0, none⟩)), (2, .pointer (some ⟨b2, 0, none⟩))]) [true, true] rfl ⟨rfl, rfl, trivial⟩
          refine then_n ?_
          exact ⟨W (p_d.Year + 1), 1, h, S.nf [true, true] rfl ⟨rfl, rfl, trivial⟩⟩
        · replace h := iteF h hb2
          refine wp_skip ?_
          refine then_n ?_
          exact ⟨p_d.Year, W (p_d.Month + 1), h, S.nf [true, true] rfl ⟨rfl, rfl, trivial⟩⟩
      clear S h; rintro a w10 ⟨x4, x5, h, S⟩; rw [hj2] at h; clear hj2 j2
      refine then_n ?_
      exact ⟨x4, x5, 1, h, S.nf [true, true] rfl ⟨rfl, rfl, trivial⟩⟩
    · replace h := iteF h hb1
      refine wp_skip ?_
      refine then_n ?_
      exact ⟨p_d.Year, p_d.Month, W (p_d.Day + 1), h, S.nf [true, true] rfl ⟨rfl, rfl, trivial⟩⟩
  clear S h; rintro a w7 ⟨x1, x2, x3, h, S⟩; rw [hj1] at h; clear hj1 j1
  refine then_n ?_
  refine f_seq ?_
  refine f_region ?_
  refine lv S (rn_ldA Tryd.isAgg75 Tryd.sizeOf75 (off := 0) (o := 0) (part := [.int .i64 x1, .int .i64 x2, .int .i64 x3]) rfl rfl (S.tm rfl) (S.cellsAt (i := 1) rfl)) rfl ?_; clear S; intro a S
  refine l_store S (S.tm rfl) (S.tm rfl) (i := 0) (off := 0) rfl Tryd.sizeOf75 (vs := [.int .i64 x1, .int .i64 x2, .int .i64 x3]) rfl rfl rfl rfl ?_; clear S; intro w13 hk11 S
  refine l_done ?_
  replace S := S.nf (L' := [.blk b2 [.int .i64 x1, .int .i64 x2, .int .i64 x3] 75]) (K' := [(2, .pointer (some ⟨b2, 0, none⟩))]) [true, false] rfl ⟨rfl, trivial⟩
  refine then_n ?_
  refine wp_ret ?_
  obtain rfl := Option.some.inj h
  exact f_retG S (rs := [.cell 2 75]) (vs := [.agg #[.int .i64 x1, .int .i64 x2, .int .i64 x3]]) Tryd.results77 ⟨(res_cell (off := 0) S rfl Tryd.isAgg75 Tryd.sizeOf75 rfl (S.cellsAt (i := 0) rfl)), trivial⟩ rfl rfl
set_option maxRecDepth 20000 in
theorem tumbref2_DateFor_ok (w : World) (p_day : Int) (r : GDate) (h : tumbref2_DateFor p_day = some r) :
    Calls Tryd.prog 61 [.int .i64 p_day].toArray w (Ret w [] fun τ v w' => v = .agg (GDate.enc r).toArray) := by
  refine f_enter [] [] Tryd.func61 rfl Tryd.ntmps61 rfl (by simp) (by simp [fps]) (by simp [fps]) fun a S => ?_
  unfold tumbref2_DateFor at h
  replace S := S.nf (L' := []) (K' := [(0, .int .i64 p_day)]) [] rfl ⟨rfl, trivial⟩
  refine f_seq ?_
  refine f_region ?_
  refine l_alloc S Tryd.zeroValue75 (cs := [.int .i64 0, .int .i64 0, .int .i64 0]) rfl rfl ?_; clear S; intro a w1 b1 hz1 hk1 S
  refine l_done ?_
  replace S := S.nf (L' := [.blk b1 [.int .i64 0, .int .i64 0, .int .i64 0] 75]) (K' := [(0, .int .i64 p_day), (2, .pointer (some ⟨b1, 0, none⟩))]) [true] rfl ⟨rfl, rfl, trivial⟩
  refine then_n ?_
  refine f_seq ?_
  refine f_region ?_
  refine l_enter S (fun _ => run_call (vs := []) trivial Tryd.call75) (tumbref2_pastDate_ok _ _ rfl) rfl ?_; clear S; intro v1 a w2 hv1 hk2 hn1 S
  subst hv1
  refine l_alloc S Tryd.zeroValue75 (cs := [.int .i64 0, .int .i64 0, .int .i64 0]) rfl rfl ?_; clear S; intro a w3 b2 hz2 hk3 S
  refine l_store S (S.tm rfl) (S.tm rfl) (i := 0) (off := 0) rfl Tryd.sizeOf75 (vs := [.int .i64 tumbref2_pastDate.Year, .int .i64 tumbref2_pastDate.Month, .int .i64 tumbref2_pastDate.Day]) rfl rfl rfl rfl ?_; clear S; intro w4 hk4 S
  refine lv S (rn_assign rfl) rfl ?_; clear S; intro a S
  refine l_done ?_
  replace S := S.nf (L' := [.blk b2 [.int .i64 tumbref2_pastDate.Year, .int .i64 tumbref2_pastDate.Month, .int .i64 tumbref2_pastDate.Day] 75, .blk b1 [.int .i64 0, .int .i64 0, .int .i64 0] 75]) (K' := [(0, .int .i64 p_day), (2, .pointer (some ⟨b1, 0, none⟩)), (3, .pointer (some ⟨b2, 0, none⟩)), (4, .int .i64 (-40000))]) [true, true] rfl ⟨rfl, rfl, rfl, rfl, trivial⟩
  refine then_n ?_
  refine f_seq ?_
  obtain ⟨j1, hj1, h⟩ := joinE h
  refine f_join (fun a w' => ∃ x1 : Int, ∃ x2 : Int, ∃ x3 : Int, j1 x1 x2 x3 = some r ∧ Sx w [] nov [.blk b2 [.int .i64 x1, .int .i64 x2, .int .i64 x3] 75, .blk b1 [.int .i64 0, .int .i64 0, .int .i64 0] 75] [(2, .pointer (some ⟨b1, 0, none⟩)), (3, .pointer (some ⟨b2, 0, none⟩))] 46 a w') ?_ ?_
  · refine wp_block ?_
    refine f_loop (fun (m1 : Nat) a w' => ∃ x1 : Int, ∃ x2 : Int, ∃ x3 : Int, ∃ x4 : Int, tumbref2_DateFor_l1 p_day j1 m1 x1 x2 x3 x4 = some r ∧ Sx w [] nov [.blk b2 [.int .i64 x1, .int .i64 x2, .int .i64 x3] 75, .blk b1 [.int .i64 0, .int .i64 0, .int .i64 0] 75] [(0, .int .i64 p_day), (2, .pointer (some ⟨b1, 0, none⟩)), (3, .pointer (some ⟨b2, 0, none⟩)), (4, .int .i64 x4)] 46 a w') id ((p_day - (-40000)).toNat + 2) ⟨tumbref2_pastDate.Year, tumbref2_pastDate.Month, tumbref2_pastDate.Day, (-40000), h, S.nf [true, true] rfl ⟨rfl, rfl, rfl, rfl, trivial⟩⟩ ?_
    clear S h; rintro m1 a w5 ⟨x1, x2, x3, x4, h, S⟩
    cases m1 with
    | zero => rw [tumbref2_DateFor_l1.eq_1] at h; cases h
    | succ m1 =>
      rw [tumbref2_DateFor_l1.eq_2] at h
      refine f_seq ?_
      refine f_seq ?_
      refine f_region ?_
      refine lv S (rn_move (S.tm rfl)) rfl ?_; clear S; intro a S
      refine lv S (rn_move (S.tm rfl)) rfl ?_; clear S; intro a S
      refine lv S (rn_lss (S.tm rfl) (S.tm rfl)) rfl ?_; clear S; intro a S
      refine l_done ?_
      replace S := S.nf (L' := [.blk b2 [.int .i64 x1, .int .i64 x2, .int .i64 x3] 75, .blk b1 [.int .i64 0, .int .i64 0, .int .i64 0] 75]) (K' := [(0, .int .i64 p_day), (2, .pointer (some ⟨b1, 0, none⟩)), (3, .pointer (some ⟨b2, 0, none⟩)), (4, .int .i64 x4), (9, .bool (decide (x4 < p_day)))]) [true, true] rfl ⟨rfl, rfl, rfl, rfl, rfl, trivial⟩
      refine then_n ?_
      refine f_cond (S.tm rfl) (fun hb1 => ?_) (fun hb1 => ?_)
      · replace h := iteT h hb1
        refine wp_skip ?_
        refine then_n ?_
        refine wp_block ?_
        refine f_seq ?_
        refine f_seq ?_
        obtain ⟨r1, hr1, h⟩ := bindE h
        refine d_region [] ([]) Tryd.mixed S rfl (by kernel_rfl) ?_; clear S; intro w8 hk6 hsel S
        refine d_quiet 0 S hsel rfl rfl rfl (by kernel_rfl) (by kernel_rfl) rfl (fun _ hw => (rn_fld fa_75_0 (S.tm rfl))) ?_; clear S; intro a S
        refine d_quiet 1 S hsel rfl rfl rfl (by kernel_rfl) (by kernel_rfl) rfl (fun _ hw => (rn_ld Tryd.isAgg3 (off := 0) (o := 0) (S.tm rfl) ((S.blk_mem (i := 0) (cells := [.int .i64 x1, .int .i64 x2, .int .i64 x3]) (b := b2) (T := 75) rfl (ne_nil (e' := .blk b2 [.int .i64 x1, .int .i64 x2, .int .i64 x3] 75))).kept hw) rfl)) ?_; clear S; intro a S
        refine d_quiet 2 S hsel rfl rfl rfl (by kernel_rfl) (by kernel_rfl) rfl (fun _ hw => (rn_fld fa_75_1 (S.tm rfl))) ?_; clear S; intro a S
        refine d_quiet 3 S hsel rfl rfl rfl (by kernel_rfl) (by kernel_rfl) rfl (fun _ hw => (rn_ld Tryd.isAgg3 (off := 0) (o := 1) (S.tm rfl) ((S.blk_mem (i := 0) (cells := [.int .i64 x1, .int .i64 x2, .int .i64 x3]) (b := b2) (T := 75) rfl (ne_nil (e' := .blk b2 [.int .i64 x1, .int .i64 x2, .int .i64 x3] 75))).kept hw) rfl)) ?_; clear S; intro a S
        refine d_quiet 5 S hsel rfl rfl rfl (by kernel_rfl) (by kernel_rfl) rfl (fun _ hw => (rn_fld fa_75_2 (S.tm rfl))) ?_; clear S; intro a S
        refine d_quiet 6 S hsel rfl rfl rfl (by kernel_rfl) (by kernel_rfl) rfl (fun _ hw => (rn_ld Tryd.isAgg3 (off := 0) (o := 2) (S.tm rfl) ((S.blk_mem (i := 0) (cells := [.int .i64 x1, .int .i64 x2, .int .i64 x3]) (b := b2) (T := 75) rfl (ne_nil (e' := .blk b2 [.int .i64 x1, .int .i64 x2, .int .i64 x3] 75))).kept hw) rfl)) ?_; clear S; intro a S
        refine d_loud1 4 (by kernel_rfl) rfl ?_
        refine l_enter S (fun _ => run_call (vs := [.int .i64 x1, .int .i64 x2]) ⟨(S.tm rfl), (S.tm rfl), trivial⟩ Tryd.call76) (tumbref2_monthLong_ok _ x1 x2 _ hr1) rfl ?_; clear S; intro v3 a w9 hv3 hk7 hn3 S
        subst hv3
        refine l_done ?_
        refine d_next hk7 ?_
        refine d_rest [7, 8] hsel (by kernel_rfl) rfl ?_
        clear hsel
        refine s_lv S rfl (rn_sub (S.tm rfl) (S.tm rfl)) rfl ?_; clear S; intro a S
        refine s_lv S rfl (rn_assign (S.tm rfl)) rfl ?_; clear S; intro a S
        refine s_done ?_
        replace S := S.nf (L' := [.blk b2 [.int .i64 x1, .int .i64 x2, .int .i64 x3] 75, .blk b1 [.int .i64 0, .int .i64 0, .int .i64 0] 75]) (K' := [(0, .int .i64 p_day), (2, .pointer (some ⟨b1, 0, none⟩)), (3, .pointer (some ⟨b2, 0, none⟩)), (4, .int .i64 x4), (5, .int .i64 (W (r1 - x3)))]) [true, true] rfl ⟨rfl, rfl, rfl, rfl, rfl, trivial⟩
        refine then_n ?_
        refine f_seq ?_
        refine f_region ?_
        refine lv S (rn_move (S.tm rfl)) rfl ?_; clear S; intro a S
        refine lv S (rn_move (S.tm rfl)) rfl ?_; clear S; intro a S
        refine lv S (rn_add (S.tm rfl) (S.tm rfl)) rfl ?_; clear S; intro a S
        refine lv S (rn_add (S.tm rfl) rfl) rfl ?_; clear S; intro a S
        refine lv S (rn_move (S.tm rfl)) rfl ?_; clear S; intro a S
        refine lv S (rn_leq (S.tm rfl) (S.tm rfl)) rfl ?_; clear S; intro a S
        refine l_done ?_
        replace S := S.nf (L' := [.blk b2 [.int .i64 x1, .int .i64 x2, .int .i64 x3] 75, .blk b1 [.int .i64 0, .int .i64 0, .int .i64 0] 75]) (K' := [(0, .int .i64 p_day), (2, .pointer (some ⟨b1, 0, none⟩)), (3, .pointer (some ⟨b2, 0, none⟩)), (4, .int .i64 x4), (5, .int .i64 (W (r1 - x3))), (23, .bool (decide ((W ((W (x4 + (W (r1 - x3)))) + 1)) ≤ p_day)))]) [true, true] rfl ⟨rfl, rfl, rfl, rfl, rfl, rfl, trivial⟩
        refine then_n ?_
        obtain ⟨j2, hj2, h⟩ := joinE h
        refine f_join (fun a w' => ∃ x5 : Int, ∃ x6 : Int, j2 x5 x6 = some r ∧ Sx w [] nov [.blk b2 [.int .i64 x1, .int .i64 x2, .int .i64 x5] 75, .blk b1 [.int .i64 0, .int .i64 0, .int .i64 0] 75] [(0, .int .i64 p_day), (2, .pointer (some ⟨b1, 0, none⟩)), (3, .pointer (some ⟨b2, 0, none⟩)), (4, .int .i64 x6)] 46 a w') ?_ ?_
        · refine f_cond (S.tm rfl) (fun hb2 => ?_) (fun hb2 => ?_)
          · replace h := iteT h hb2
            refine f_seq ?_
            refine f_region ?_
            refine lv S (rn_move (S.tm rfl)) rfl ?_; clear S; intro a S
            refine lv S (rn_move (S.tm rfl)) rfl ?_; clear S; intro a S
            refine lv S (rn_add (S.tm rfl) rfl) rfl ?_; clear S; intro a S
            refine lv S (rn_add (S.tm rfl) (S.tm rfl)) rfl ?_; clear S; intro a S
            refine lv S (rn_assign (S.tm rfl)) rfl ?_; clear S; intro a S
            refine l_done ?_
            replace S := S.nf (L' := [.blk b2 [.int .i64 x1, .int .i64 x2, .int .i64 x3] 75, .blk b1 [.int .i64 0, .int .i64 0, .int .i64 0] 75]) (K' := [(0, .int .i64 p_day), (2, .pointer (some ⟨b1, 0, none⟩)), (3, .pointer (some ⟨b2, 0, none⟩)), (4, .int .i64 (W (x4 + (W ((W (r1 - x3)) + 1)))))]) [true, true] rfl ⟨rfl, rfl, rfl, rfl, trivial⟩
            refine then_n ?_
            refine f_region ?_
            refine lv S (rn_fld fa_75_0 (S.tm rfl)) rfl ?_; clear S; intro a S
            refine lv S (rn_load Tryd.isAgg3 (S.tm rfl) (S.cell (i := 0) rfl rfl)) rfl ?_; clear S; intro a S
            refine lv S (rn_fld fa_75_1 (S.tm rfl)) rfl ?_; clear S; intro a S
            refine lv S (rn_load Tryd.isAgg3 (S.tm rfl) (S.cell (i := 0) rfl rfl)) rfl ?_; clear S; intro a S
            obtain ⟨r2, hr2, h⟩ := bindE h
            refine l_enter S (fun _ => run_call (vs := [.int .i64 x1, .int .i64 x2]) ⟨(S.tm rfl), (S.tm rfl), trivial⟩ Tryd.call76) (tumbref2_monthLong_ok _ x1 x2 _ hr2) rfl ?_; clear S; intro v4 a w11 hv4 hk8 hn4 S
            subst hv4
            refine lv S (rn_fld fa_75_2 (S.tm rfl)) rfl ?_; clear S; intro a S
            refine l_store S (S.tm rfl) (S.tm rfl) (i := 0) (off := 2) rfl Tryd.sizeOf3 (vs := [.int .i64 r2]) rfl rfl rfl rfl ?_; clear S; intro w12 hk9 S
            refine l_done ?_
            replace S := S.nf (L' := [.blk b2 [.int .i64 x1, .int .i64 x2, .int .i64 r2] 75, .blk b1 [.int .i64 0, .int .i64 0, .int .i64 0] 75]) (K' := [(0, .int .i64 p_day), (2, .pointer (some ⟨b1, 0, none⟩)), (3, .pointer (some ⟨b2, 0, none⟩)), (4, .int .i64 (W (x4 + (W ((W (r1 - x3)) + 1)))))]) [true, true] rfl ⟨rfl, rfl, rfl, rfl, trivial⟩
            refine then_n ?_
            exact ⟨r2, W (x4 + (W ((W (r1 - x3)) + 1))), h, S.nf [true, true] rfl ⟨rfl, rfl, rfl, rfl, trivial⟩⟩
          · replace h := iteF h hb2
            refine f_seq ?_
            refine f_region ?_
            refine lv S (rn_fld fa_75_2 (S.tm rfl)) rfl ?_; clear S; intro a S
            refine lv S (rn_load Tryd.isAgg3 (S.tm rfl) (S.cell (i := 0) rfl rfl)) rfl ?_; clear S; intro a S
            refine lv S (rn_move (S.tm rfl)) rfl ?_; clear S; intro a S
            refine lv S (rn_move (S.tm rfl)) rfl ?_; clear S; intro a S
            refine lv S (rn_sub (S.tm rfl) (S.tm rfl)) rfl ?_; clear S; intro a S
            refine lv S (rn_sub (S.tm rfl) rfl) rfl ?_; clear S; intro a S
            refine lv S (rn_add (S.tm rfl) (S.tm rfl)) rfl ?_; clear S; intro a S
            refine lv S (rn_fld fa_75_2 (S.tm rfl)) rfl ?_; clear S; intro a S
            refine l_store S (S.tm rfl) (S.tm rfl) (i := 0) (off := 2) rfl Tryd.sizeOf3 (vs := [.int .i64 (W (x3 + (W ((W (p_day - x4)) - 1))))]) rfl rfl rfl rfl ?_; clear S; intro w13 hk10 S
            refine l_done ?_
            replace S := S.nf (L' := [.blk b2 [.int .i64 x1, .int .i64 x2, .int .i64 (W (x3 + (W ((W (p_day - x4)) - 1))))] 75, .blk b1 [.int .i64 0, .int .i64 0, .int .i64 0] 75]) (K' := [(0, .int .i64 p_day), (2, .pointer (some ⟨b1, 0, none⟩)), (3, .pointer (some ⟨b2, 0, none⟩))]) [true, true] rfl ⟨rfl, rfl, rfl, trivial⟩
            refine then_n ?_
            refine f_region ?_
            refine lv S (rn_move (S.tm rfl)) rfl ?_; clear S; intro a S
            refine lv S (rn_assign (S.tm rfl)) rfl ?_; clear S; intro a S
            refine l_done ?_
            replace S := S.nf (L' := [.blk b2 [.int .i64 x1, .int .i64 x2, .int .i64 (W (x3 + (W ((W (p_day - x4)) - 1))))] 75, .blk b1 [.int .i64 0, .int .i64 0, .int .i64 0] 75]) (K' := [(0, .int .i64 p_day), (2, .pointer (some ⟨b1, 0, none⟩)), (3, .pointer (some ⟨b2, 0, none⟩)), (4, .int .i64 p_day)]) [true, true] rfl ⟨rfl, rfl, rfl, rfl, trivial⟩
            refine then_n ?_
            exact ⟨W (x3 + (W ((W (p_day - x4)) - 1))), p_day, h, S.nf [true, true] rfl ⟨rfl, rfl, rfl, rfl, trivial⟩⟩
        clear S h; rintro a w10 ⟨x5, x6, h, S⟩; rw [hj2] at h; clear hj2 j2
        refine then_n ?_
        refine f_region ?_
        refine lv S (rn_ldA Tryd.isAgg75 Tryd.sizeOf75 (off := 0) (o := 0) (part := [.int .i64 x1, .int .i64 x2, .int .i64 x5]) rfl rfl (S.tm rfl) (S.cellsAt (i := 0) rfl)) rfl ?_; clear S; intro a S
        obtain ⟨r3, hr3, h⟩ := bindE h
        refine l_enter S (fun _ => run_call (vs := [.agg (GDate.enc (GDate.mk x1 x2 x5)).toArray]) ⟨(S.tm rfl), trivial⟩ Tryd.call77) (tumbref2_next_ok _ (GDate.mk x1 x2 x5) _ hr3) rfl ?_; clear S; intro v5 a w14 hv5 hk11 hn5 S
        subst hv5
        refine l_store S (S.tm rfl) (S.tm rfl) (i := 0) (off := 0) rfl Tryd.sizeOf75 (vs := [.int .i64 r3.Year, .int .i64 r3.Month, .int .i64 r3.Day]) rfl rfl rfl rfl ?_; clear S; intro w15 hk12 S
        refine l_done ?_
        replace S := S.nf (L' := [.blk b2 [.int .i64 r3.Year, .int .i64 r3.Month, .int .i64 r3.Day] 75, .blk b1 [.int .i64 0, .int .i64 0, .int .i64 0] 75]) (K' := [(0, .int .i64 p_day), (2, .pointer (some ⟨b1, 0, none⟩)), (3, .pointer (some ⟨b2, 0, none⟩)), (4, .int .i64 x6)]) [true, true] rfl ⟨rfl, rfl, rfl, rfl, trivial⟩
        refine blk_n ?_
        refine then_n ?_
        exact ⟨m1, ⟨r3.Year, r3.Month, r3.Day, x6, h, S.nf [true, true] rfl ⟨rfl, rfl, rfl, rfl, trivial⟩⟩, Nat.lt_succ_self _⟩
      · replace h := iteF h hb1
        refine wp_exit ?_
        refine then_x ?_
        refine then_x ?_
        refine x_same ?_
        refine then_n ?_
        exact ⟨x1, x2, x3, h, S.nf [true, true] rfl ⟨rfl, rfl, trivial⟩⟩
  clear S h; rintro a w6 ⟨x1, x2, x3, h, S⟩; rw [hj1] at h; clear hj1 j1
  refine then_n ?_
  refine f_seq ?_
  refine f_region ?_
  refine lv S (rn_ldA Tryd.isAgg75 Tryd.sizeOf75 (off := 0) (o := 0) (part := [.int .i64 x1, .int .i64 x2, .int .i64 x3]) rfl rfl (S.tm rfl) (S.cellsAt (i := 0) rfl)) rfl ?_; clear S; intro a S
  refine l_store S (S.tm rfl) (S.tm rfl) (i := 1) (off := 0) rfl Tryd.sizeOf75 (vs := [.int .i64 x1, .int .i64 x2, .int .i64 x3]) rfl rfl rfl rfl ?_; clear S; intro w16 hk13 S
  refine l_done ?_
  replace S := S.nf (L' := [.blk b1 [.int .i64 x1, .int .i64 x2, .int .i64 x3] 75]) (K' := [(2, .pointer (some ⟨b1, 0, none⟩))]) [false, true] rfl ⟨rfl, trivial⟩
  refine then_n ?_
  refine wp_ret ?_
  obtain rfl := Option.some.inj h
  exact f_retG S (rs := [.cell 2 75]) (vs := [.agg #[.int .i64 x1, .int .i64 x2, .int .i64 x3]]) Tryd.results61 ⟨(res_cell (off := 0) S rfl Tryd.isAgg75 Tryd.sizeOf75 rfl (S.cellsAt (i := 0) rfl)), trivial⟩ rfl rfl
theorem slices_Compare_int_ok (w : World) (v_p_s1 : Value) (p_s1 : List Int) (hs_p_s1 : Slc (view w []) 1 v_p_s1 (p_s1.map eInt)) (v_p_s2 : Value) (p_s2 : List Int) (hs_p_s2 : Slc (view w []) 1 v_p_s2 (p_s2.map eInt)) (r : Int) (h : slices_Compare_int p_s1 p_s2 = some r) :
    Calls Tryd.prog 78 [v_p_s1, v_p_s2].toArray w (Ret w [] fun τ v w' => v = .int .i64 r) := by
  refine f_enter [] [] Tryd.func78 rfl Tryd.ntmps78 rfl (by simp) (by simp [fps]) (by simp [fps]) fun a S => ?_
  unfold slices_Compare_int at h
  replace S := S.nf (L' := []) (K' := [(0, v_p_s1), (1, v_p_s2)]) [] rfl ⟨rfl, rfl, trivial⟩
  refine f_seq ?_
  refine f_region ?_
  refine lv S (rn_assign rfl) rfl ?_; clear S; intro a S
  refine l_done ?_
  replace S := S.nf (L' := []) (K' := [(0, v_p_s1), (1, v_p_s2)]) [] rfl ⟨rfl, rfl, trivial⟩
  refine then_n ?_
  refine f_seq ?_
  refine f_seq ?_
  refine f_region ?_
  refine lv S (rn_move (S.tm rfl)) rfl ?_; clear S; intro a S
  refine lv S (rn_lenT sl_22 (S.tm rfl) (slc_len hs_p_s1)) rfl ?_; clear S; intro a S
  refine lv S (rn_move rfl) rfl ?_; clear S; intro a S
  refine l_done ?_
  replace S := S.nf (L' := []) (K' := [(0, v_p_s1), (1, v_p_s2), (9, v_p_s1), (10, .int .i64 (p_s1.length : Int)), (11, .int .i64 0)]) [] rfl ⟨rfl, rfl, rfl, rfl, rfl, trivial⟩
  refine then_n ?_
  obtain ⟨j1, hj1, h⟩ := joinE h
  refine f_join (fun a w' => j1 = some r ∧ Sx w [] nov [] [(0, v_p_s1), (1, v_p_s2)] 36 a w') ?_ ?_
  · refine wp_block ?_
    refine f_loop (fun (ys1 : List Int) a w' => ∃ i1 : Nat, (∃ dn, p_s1 = dn ++ ys1 ∧ dn.length = i1) ∧ slices_Compare_int_l1 p_s2 j1 ys1 i1 = some r ∧ Sx w [] nov [] [(0, v_p_s1), (1, v_p_s2), (9, v_p_s1), (10, .int .i64 (p_s1.length : Int)), (11, .int .i64 (i1 : Int))] 36 a w') List.length p_s1 ⟨0, ⟨[], rfl, rfl⟩, h, S.nf [] rfl ⟨rfl, rfl, rfl, rfl, rfl, trivial⟩⟩ ?_
    clear S h; rintro ys1 a w1 ⟨i1, ⟨dn, hd1, hi1⟩, h, S⟩
    cases ys1 with
    | nil =>
      rw [slices_Compare_int_l1.eq_1] at h
      refine f_seq ?_
      refine f_region ?_
      refine lv S (rn_lss (S.tm rfl) (S.tm rfl)) rfl ?_; clear S; intro a S
      refine l_done ?_
      replace S := S.nf (L' := []) (K' := [(0, v_p_s1), (1, v_p_s2), (9, v_p_s1), (10, .int .i64 (p_s1.length : Int)), (11, .int .i64 (i1 : Int)), (12, .bool (decide ((i1 : Int) < (p_s1.length : Int))))]) [] rfl ⟨rfl, rfl, rfl, rfl, rfl, rfl, trivial⟩
      refine then_n ?_
      refine f_seq ?_
      refine wp_cond_false ((S.tm rfl).trans (congrArg Value.bool (rng_nil hd1 hi1))) ?_
      refine wp_exit ?_
      refine then_x ?_
      refine then_x ?_
      refine x_same ?_
      refine then_n ?_
      exact ⟨h, S.nf [] rfl ⟨rfl, rfl, trivial⟩⟩
    | cons y1 ys1 =>
      rw [slices_Compare_int_l1.eq_2] at h
      refine f_seq ?_
      refine f_region ?_
      refine lv S (rn_lss (S.tm rfl) (S.tm rfl)) rfl ?_; clear S; intro a S
      refine l_done ?_
      replace S := S.nf (L' := []) (K' := [(0, v_p_s1), (1, v_p_s2), (9, v_p_s1), (10, .int .i64 (p_s1.length : Int)), (11, .int .i64 (i1 : Int)), (12, .bool (decide ((i1 : Int) < (p_s1.length : Int))))]) [] rfl ⟨rfl, rfl, rfl, rfl, rfl, rfl, trivial⟩
      refine then_n ?_
      refine f_seq ?_
      refine wp_cond_true ((S.tm rfl).trans (congrArg Value.bool (rng_cons hd1 hi1))) ?_
      refine wp_skip ?_
      refine then_n ?_
      refine f_seq ?_
      refine wp_block ?_
      refine f_seq ?_
      refine f_region ?_
      refine lv S (rn_move (S.tm rfl)) rfl ?_; clear S; intro a S
      obtain ⟨b1, o1, hm1, hr1⟩ := rn_indexT (a := a) (x := .tmp 9) (y := .tmp 11) (ty := 0) sl_22 hs_p_s1 (get_mid hd1 hi1) rfl (S.tm rfl) (S.tm rfl)
      refine lv S (hr1 _) rfl ?_; clear S; intro a S
      clear hr1
      refine lv S (rn_ld Tryd.isAgg3 (off := o1) (o := 0) (S.tm rfl) (hm1.at S.emb0) rfl) rfl ?_; clear S; intro a S
      refine lv S (rn_assign (S.tm rfl)) rfl ?_; clear S; intro a S
      refine lv S (rn_assign (S.tm rfl)) rfl ?_; clear S; intro a S
      refine l_done ?_
      replace S := S.nf (L' := []) (K' := [(0, v_p_s1), (1, v_p_s2), (5, .int .i64 (i1 : Int)), (6, .int .i64 y1), (9, v_p_s1), (10, .int .i64 (p_s1.length : Int)), (11, .int .i64 (i1 : Int))]) [] rfl ⟨rfl, rfl, rfl, rfl, rfl, rfl, rfl, trivial⟩
      refine then_n ?_
      refine f_seq ?_
      refine f_seq ?_
      refine f_region ?_
      refine lv S (rn_move (S.tm rfl)) rfl ?_; clear S; intro a S
      refine lv S (rn_move (S.tm rfl)) rfl ?_; clear S; intro a S
      refine lv S (rn_lenT sl_22 (S.tm rfl) (slc_len hs_p_s2)) rfl ?_; clear S; intro a S
      refine lv S (rn_geq (S.tm rfl) (S.tm rfl)) rfl ?_; clear S; intro a S
      refine l_done ?_
      replace S := S.nf (L' := []) (K' := [(0, v_p_s1), (1, v_p_s2), (5, .int .i64 (i1 : Int)), (6, .int .i64 y1), (9, v_p_s1), (10, .int .i64 (p_s1.length : Int)), (11, .int .i64 (i1 : Int)), (19, .bool (decide ((p_s2.length : Int) ≤ (i1 : Int))))]) [] rfl ⟨rfl, rfl, rfl, rfl, rfl, rfl, rfl, rfl, trivial⟩
      refine then_n ?_
      refine f_cond (S.tm rfl) (fun hb1 => ?_) (fun hb1 => ?_)
      · replace h := iteT h hb1
        refine f_seq ?_
        refine f_region ?_
        refine lv S (rn_assign rfl) rfl ?_; clear S; intro a S
        refine l_done ?_
        replace S := S.nf (L' := []) (K' := [(4, .int .i64 1)]) [] rfl ⟨rfl, trivial⟩
        refine then_n ?_
        refine wp_ret ?_
        refine then_r ?_
        refine blk_r ?_
        refine then_r ?_
        refine then_r ?_
        refine blk_r ?_
        refine then_r ?_
        refine then_r ?_
        obtain rfl := Option.some.inj h
        exact f_ret S Tryd.results78 rfl rfl
      · replace h := iteF h hb1
        refine wp_skip ?_
        refine then_n ?_
        refine f_seq ?_
        refine f_region ?_
        refine lv S (rn_move (S.tm rfl)) rfl ?_; clear S; intro a S
        refine lv S (rn_move (S.tm rfl)) rfl ?_; clear S; intro a S
        obtain ⟨hc1, h⟩ := chkE h
        obtain ⟨b2, o2, hm2, hr2⟩ := rn_indexT (a := a) (x := .tmp 20) (y := .tmp 21) (ty := 0) sl_22 hs_p_s2 (inB_get hc1).1 (inB_get hc1).2 (S.tm rfl) (S.tm rfl)
        refine lv S (hr2 _) rfl ?_; clear S; intro a S
        clear hr2
        refine lv S (rn_ld Tryd.isAgg3 (off := o2) (o := 0) (S.tm rfl) (hm2.at S.emb0) rfl) rfl ?_; clear S; intro a S
        refine lv S (rn_assign (S.tm rfl)) rfl ?_; clear S; intro a S
        refine l_done ?_
        replace S := S.nf (L' := []) (K' := [(0, v_p_s1), (1, v_p_s2), (6, .int .i64 y1), (7, .int .i64 (nth p_s2 (i1 : Int))), (9, v_p_s1), (10, .int .i64 (p_s1.length : Int)), (11, .int .i64 (i1 : Int))]) [] rfl ⟨rfl, rfl, rfl, rfl, rfl, rfl, rfl, trivial⟩
        refine then_n ?_
        refine f_seq ?_
        refine f_region ?_
        refine lv S (rn_move (S.tm rfl)) rfl ?_; clear S; intro a S
        refine lv S (rn_move (S.tm rfl)) rfl ?_; clear S; intro a S
        refine l_enter S (fun _ => run_call (vs := [.int .i64 y1, .int .i64 (nth p_s2 (i1 : Int))]) ⟨(S.tm rfl), (S.tm rfl), trivial⟩ Tryd.call39) (cmp_Compare_int_ok _ y1 (nth p_s2 (i1 : Int)) _ rfl) rfl ?_; clear S; intro v1 a w3 hv1 hk1 hn1 S
        subst hv1
        refine lv S (rn_assign (S.tm rfl)) rfl ?_; clear S; intro a S
        refine l_done ?_
        replace S := S.nf (L' := []) (K' := [(0, v_p_s1), (1, v_p_s2), (8, .int .i64 (cmp_Compare_int y1 (nth p_s2 (i1 : Int)))), (9, v_p_s1), (10, .int .i64 (p_s1.length : Int)), (11, .int .i64 (i1 : Int))]) [] rfl ⟨rfl, rfl, rfl, rfl, rfl, rfl, trivial⟩
        refine then_n ?_
        refine f_seq ?_
        refine f_region ?_
        refine lv S (rn_move (S.tm rfl)) rfl ?_; clear S; intro a S
        refine lv S (rn_neq (S.tm rfl) rfl) rfl ?_; clear S; intro a S
        refine l_done ?_
        replace S := S.nf (L' := []) (K' := [(0, v_p_s1), (1, v_p_s2), (8, .int .i64 (cmp_Compare_int y1 (nth p_s2 (i1 : Int)))), (9, v_p_s1), (10, .int .i64 (p_s1.length : Int)), (11, .int .i64 (i1 : Int)), (28, .bool (!decide ((cmp_Compare_int y1 (nth p_s2 (i1 : Int))) = 0)))]) [] rfl ⟨rfl, rfl, rfl, rfl, rfl, rfl, rfl, trivial⟩
        refine then_n ?_
        refine f_cond (S.tm rfl) (fun hb2 => ?_) (fun hb2 => ?_)
        · replace h := iteT h hb2
          refine f_seq ?_
          refine f_region ?_
          refine lv S (rn_move (S.tm rfl)) rfl ?_; clear S; intro a S
          refine lv S (rn_assign (S.tm rfl)) rfl ?_; clear S; intro a S
          refine l_done ?_
          replace S := S.nf (L' := []) (K' := [(4, .int .i64 (cmp_Compare_int y1 (nth p_s2 (i1 : Int))))]) [] rfl ⟨rfl, trivial⟩
          refine then_n ?_
          refine wp_ret ?_
          refine blk_r ?_
          refine then_r ?_
          refine then_r ?_
          refine blk_r ?_
          refine then_r ?_
          refine then_r ?_
          obtain rfl := Option.some.inj h
          exact f_ret S Tryd.results78 rfl rfl
        · replace h := iteF h hb2
          refine wp_skip ?_
          refine blk_n ?_
          refine then_n ?_
          refine f_region ?_
          refine lv S (rn_add (S.tm rfl) rfl) rfl ?_; clear S; intro a S
          refine lv S (rn_move (S.tm rfl)) rfl ?_; clear S; intro a S
          refine l_done ?_
          replace S := S.nf (L' := []) (K' := [(0, v_p_s1), (1, v_p_s2), (9, v_p_s1), (10, .int .i64 (p_s1.length : Int)), (11, .int .i64 (W ((i1 : Int) + 1)))]) [] rfl ⟨rfl, rfl, rfl, rfl, rfl, trivial⟩
          refine then_n ?_
          exact ⟨ys1, ⟨i1 + 1, ⟨_, (hd1).trans (List.append_cons _ _ _), by simp [hi1]⟩, h, S.nf [] rfl ⟨rfl, rfl, rfl, rfl, (congrArg (fun z => some (Value.int .i64 z)) (rng_next hd1 hi1 (slc_max hs_p_s1))), trivial⟩⟩, Nat.lt_succ_self _⟩
  clear S h; rintro a w2 ⟨h, S⟩; rw [hj1] at h; clear hj1 j1
  refine then_n ?_
  refine f_seq ?_
  refine f_seq ?_
  refine f_region ?_
  refine lv S (rn_move (S.tm rfl)) rfl ?_; clear S; intro a S
  refine lv S (rn_lenT sl_22 (S.tm rfl) (slc_len hs_p_s1)) rfl ?_; clear S; intro a S
  refine lv S (rn_move (S.tm rfl)) rfl ?_; clear S; intro a S
  refine lv S (rn_lenT sl_22 (S.tm rfl) (slc_len hs_p_s2)) rfl ?_; clear S; intro a S
  refine lv S (rn_lss (S.tm rfl) (S.tm rfl)) rfl ?_; clear S; intro a S
  refine l_done ?_
  replace S := S.nf (L' := []) (K' := [(35, .bool (decide ((p_s1.length : Int) < (p_s2.length : Int))))]) [] rfl ⟨rfl, trivial⟩
  refine then_n ?_
  refine f_cond (S.tm rfl) (fun hb3 => ?_) (fun hb3 => ?_)
  · replace h := iteT h hb3
    refine f_seq ?_
    refine f_region ?_
    refine lv S (rn_assign rfl) rfl ?_; clear S; intro a S
    refine l_done ?_
    replace S := S.nf (L' := []) (K' := [(4, .int .i64 (-1))]) [] rfl ⟨rfl, trivial⟩
    refine then_n ?_
    refine wp_ret ?_
    refine then_r ?_
    obtain rfl := Option.some.inj h
    exact f_ret S Tryd.results78 rfl rfl
  · replace h := iteF h hb3
    refine wp_skip ?_
    refine then_n ?_
    refine f_seq ?_
    refine f_region ?_
    refine lv S (rn_assign rfl) rfl ?_; clear S; intro a S
    refine l_done ?_
    replace S := S.nf (L' := []) (K' := [(4, .int .i64 0)]) [] rfl ⟨rfl, trivial⟩
    refine then_n ?_
    refine wp_ret ?_
    obtain rfl := Option.some.inj h
    exact f_ret S Tryd.results78 rfl rfl
theorem tumbref2_dateOrder_ok (w : World) (p_a : GDate) (p_b : GDate) (r : Int) (h : tumbref2_dateOrder p_a p_b = some r) :
    Calls Tryd.prog 62 [.agg (GDate.enc p_a).toArray, .agg (GDate.enc p_b).toArray].toArray w (Ret w [] fun τ v w' => v = .int .i64 r) := by
  refine f_enter [] [] Tryd.func62 rfl Tryd.ntmps62 rfl (by simp) (by simp [fps]) (by simp [fps]) fun a S => ?_
  unfold tumbref2_dateOrder at h
  replace S := S.nf (L' := []) (K' := [(0, .agg (GDate.enc p_a).toArray), (1, .agg (GDate.enc p_b).toArray)]) [] rfl ⟨rfl, rfl, trivial⟩
  refine f_seq ?_
  refine f_region ?_
  refine l_box S (S.tm rfl) (cs := [.int .i64 p_a.Year, .int .i64 p_a.Month, .int .i64 p_a.Day]) rfl rfl ?_; clear S; intro a w1 b1 hz1 hk1 S
  refine l_box S (S.tm rfl) (cs := [.int .i64 p_b.Year, .int .i64 p_b.Month, .int .i64 p_b.Day]) rfl rfl ?_; clear S; intro a w2 b2 hz2 hk2 S
  refine lv S (rn_assign rfl) rfl ?_; clear S; intro a S
  refine l_done ?_
  replace S := S.nf (L' := [.blk b2 [.int .i64 p_b.Year, .int .i64 p_b.Month, .int .i64 p_b.Day] 75, .blk b1 [.int .i64 p_a.Year, .int .i64 p_a.Month, .int .i64 p_a.Day] 75]) (K' := [(2, .pointer (some ⟨b1, 0, none⟩)), (3, .pointer (some ⟨b2, 0, none⟩))]) [true, true] rfl ⟨rfl, rfl, trivial⟩
  refine then_n ?_
  refine f_seq ?_
  refine f_region ?_
  refine lv S (rn_fld fa_75_0 (S.tm rfl)) rfl ?_; clear S; intro a S
  refine lv S (rn_load Tryd.isAgg3 (S.tm rfl) (S.cell (i := 1) rfl rfl)) rfl ?_; clear S; intro a S
  refine lv S (rn_fld fa_75_1 (S.tm rfl)) rfl ?_; clear S; intro a S
  refine lv S (rn_load Tryd.isAgg3 (S.tm rfl) (S.cell (i := 1) rfl rfl)) rfl ?_; clear S; intro a S
  refine lv S (rn_fld fa_75_2 (S.tm rfl)) rfl ?_; clear S; intro a S
  refine lv S (rn_load Tryd.isAgg3 (S.tm rfl) (S.cell (i := 1) rfl rfl)) rfl ?_; clear S; intro a S
  refine l_buildSlice S Tryd.underlying22 Tryd.sizeOf3 Tryd.zeroValue3 rfl rfl (pv := [(0, .int .i64 p_a.Year), (1, .int .i64 p_a.Month), (2, .int .i64 p_a.Day)]) ⟨rfl, (S.tm rfl), rfl, (S.tm rfl), rfl, (S.tm rfl), trivial⟩ (cs := [.int .i64 p_a.Year, .int .i64 p_a.Month, .int .i64 p_a.Day]) (by kernel_rfl) rfl ?_; clear S; intro a w3 b3 hz3 hk3 S
  refine lv S (rn_fld fa_75_0 (S.tm rfl)) rfl ?_; clear S; intro a S
  refine lv S (rn_load Tryd.isAgg3 (S.tm rfl) (S.cell (i := 1) rfl rfl)) rfl ?_; clear S; intro a S
  refine lv S (rn_fld fa_75_1 (S.tm rfl)) rfl ?_; clear S; intro a S
  refine lv S (rn_load Tryd.isAgg3 (S.tm rfl) (S.cell (i := 1) rfl rfl)) rfl ?_; clear S; intro a S
  refine lv S (rn_fld fa_75_2 (S.tm rfl)) rfl ?_; clear S; intro a S
  refine lv S (rn_load Tryd.isAgg3 (S.tm rfl) (S.cell (i := 1) rfl rfl)) rfl ?_; clear S; intro a S
  refine l_buildSlice S Tryd.underlying22 Tryd.sizeOf3 Tryd.zeroValue3 rfl rfl (pv := [(0, .int .i64 p_b.Year), (1, .int .i64 p_b.Month), (2, .int .i64 p_b.Day)]) ⟨rfl, (S.tm rfl), rfl, (S.tm rfl), rfl, (S.tm rfl), trivial⟩ (cs := [.int .i64 p_b.Year, .int .i64 p_b.Month, .int .i64 p_b.Day]) (by kernel_rfl) rfl ?_; clear S; intro a w4 b4 hz4 hk4 S
  obtain ⟨r1, hr1, h⟩ := bindE h
  refine l_enter S (fun _ => run_call (vs := [.slice (some ⟨b3, 0, none⟩) 3 3, .slice (some ⟨b4, 0, none⟩) 3 3]) ⟨(S.tm rfl), (S.tm rfl), trivial⟩ Tryd.call78) (slices_Compare_int_ok _ (.slice (some ⟨b3, 0, none⟩) 3 3) [p_a.Year, p_a.Month, p_a.Day] (lit_slcT enc_int S (i := 1) rfl rfl rfl rfl ((ne_nil (e' := .blk b3 [.int .i64 p_a.Year, .int .i64 p_a.Month, .int .i64 p_a.Day] 3)) _ rfl)) (.slice (some ⟨b4, 0, none⟩) 3 3) [p_b.Year, p_b.Month, p_b.Day] (lit_slcT enc_int S (i := 0) rfl rfl rfl rfl ((ne_nil (e' := .blk b4 [.int .i64 p_b.Year, .int .i64 p_b.Month, .int .i64 p_b.Day] 3)) _ rfl)) _ hr1) rfl ?_; clear S; intro v1 a w5 hv1 hk5 hn1 S
  subst hv1
  refine lv S (rn_assign (S.tm rfl)) rfl ?_; clear S; intro a S
  refine l_done ?_
  replace S := S.nf (L' := []) (K' := [(4, .int .i64 r1)]) [false, false, false, false] rfl ⟨rfl, trivial⟩
  refine then_n ?_
  refine wp_ret ?_
  obtain rfl := Option.some.inj h
  exact f_ret S Tryd.results62 rfl rfl
theorem tumbref2_AgeFor_ok (w : World) (p_s : GSwimmer) (p_day : Int) (p_way : Int) (r : Int) (h : tumbref2_AgeFor p_s p_day p_way = some r) :
    Calls Tryd.prog 46 [.agg (GSwimmer.enc p_s).toArray, .int .i64 p_day, .int .i64 p_way].toArray w (Ret w [] fun τ v w' => v = .int .i64 r) := by
  refine f_enter [] [] Tryd.func46 rfl Tryd.ntmps46 rfl (by simp) (by simp [fps]) (by simp [fps]) fun a S => ?_
  unfold tumbref2_AgeFor at h
  replace S := S.nf (L' := []) (K' := [(0, .agg (GSwimmer.enc p_s).toArray), (1, .int .i64 p_day), (2, .int .i64 p_way)]) [] rfl ⟨rfl, rfl, rfl, trivial⟩
  refine f_seq ?_
  refine f_region ?_
  refine l_box S (S.tm rfl) (cs := [.string p_s.Key, .int .i64 p_s.Sex, .int .i64 p_s.Born]) rfl rfl ?_; clear S; intro a w1 b1 hz1 hk1 S
  refine lv S (rn_assign rfl) rfl ?_; clear S; intro a S
  refine l_done ?_
  replace S := S.nf (L' := [.blk b1 [.string p_s.Key, .int .i64 p_s.Sex, .int .i64 p_s.Born] 49]) (K' := [(1, .int .i64 p_day), (2, .int .i64 p_way), (3, .pointer (some ⟨b1, 0, none⟩))]) [true] rfl ⟨rfl, rfl, rfl, trivial⟩
  refine then_n ?_
  refine f_seq ?_
  refine f_region ?_
  refine lv S (rn_fld fa_49_2 (S.tm rfl)) rfl ?_; clear S; intro a S
  refine lv S (rn_load Tryd.isAgg3 (S.tm rfl) (S.cell (i := 0) rfl rfl)) rfl ?_; clear S; intro a S
  obtain ⟨r1, hr1, h⟩ := bindE h
  refine l_enter S (fun _ => run_call (vs := [.int .i64 p_s.Born]) ⟨(S.tm rfl), trivial⟩ Tryd.call61) (tumbref2_DateFor_ok _ p_s.Born _ hr1) rfl ?_; clear S; intro v1 a w2 hv1 hk2 hn1 S
  subst hv1
  refine lv S (rn_move (S.tm rfl)) rfl ?_; clear S; intro a S
  obtain ⟨r2, hr2, h⟩ := bindE h
  refine l_enter S (fun _ => run_call (vs := [.int .i64 p_day]) ⟨(S.tm rfl), trivial⟩ Tryd.call61) (tumbref2_DateFor_ok _ p_day _ hr2) rfl ?_; clear S; intro v2 a w3 hv2 hk3 hn2 S
  subst hv2
  refine l_alloc S Tryd.zeroValue75 (cs := [.int .i64 0, .int .i64 0, .int .i64 0]) rfl rfl ?_; clear S; intro a w4 b2 hz2 hk4 S
  refine l_alloc S Tryd.zeroValue75 (cs := [.int .i64 0, .int .i64 0, .int .i64 0]) rfl rfl ?_; clear S; intro a w5 b3 hz3 hk5 S
  refine l_store S (S.tm rfl) (S.tm rfl) (i := 1) (off := 0) rfl Tryd.sizeOf75 (vs := [.int .i64 r1.Year, .int .i64 r1.Month, .int .i64 r1.Day]) rfl rfl rfl rfl ?_; clear S; intro w6 hk6 S
  refine l_store S (S.tm rfl) (S.tm rfl) (i := 0) (off := 0) rfl Tryd.sizeOf75 (vs := [.int .i64 r2.Year, .int .i64 r2.Month, .int .i64 r2.Day]) rfl rfl rfl rfl ?_; clear S; intro w7 hk7 S
  refine l_done ?_
  replace S := S.nf (L' := [.blk b3 [.int .i64 r2.Year, .int .i64 r2.Month, .int .i64 r2.Day] 75, .blk b2 [.int .i64 r1.Year, .int .i64 r1.Month, .int .i64 r1.Day] 75]) (K' := [(2, .int .i64 p_way), (7, .pointer (some ⟨b2, 0, none⟩)), (8, .pointer (some ⟨b3, 0, none⟩))]) [true, true, false] rfl ⟨rfl, rfl, rfl, trivial⟩
  refine then_n ?_
  refine f_seq ?_
  refine f_seq ?_
  refine f_region ?_
  refine lv S (rn_move (S.tm rfl)) rfl ?_; clear S; intro a S
  refine lv S (rn_eql (S.tm rfl) rfl) rfl ?_; clear S; intro a S
  refine l_done ?_
  replace S := S.nf (L' := [.blk b3 [.int .i64 r2.Year, .int .i64 r2.Month, .int .i64 r2.Day] 75, .blk b2 [.int .i64 r1.Year, .int .i64 r1.Month, .int .i64 r1.Day] 75]) (K' := [(7, .pointer (some ⟨b2, 0, none⟩)), (8, .pointer (some ⟨b3, 0, none⟩)), (17, .bool (decide (p_way = 2)))]) [true, true] rfl ⟨rfl, rfl, rfl, trivial⟩
  refine then_n ?_
  refine f_cond (S.tm rfl) (fun hb1 => ?_) (fun hb1 => ?_)
  · replace h := iteT h hb1
    refine f_seq ?_
    refine f_region ?_
    refine lv S (rn_fld fa_75_0 (S.tm rfl)) rfl ?_; clear S; intro a S
    refine lv S (rn_load Tryd.isAgg3 (S.tm rfl) (S.cell (i := 0) rfl rfl)) rfl ?_; clear S; intro a S
    refine lv S (rn_fld fa_75_0 (S.tm rfl)) rfl ?_; clear S; intro a S
    refine lv S (rn_load Tryd.isAgg3 (S.tm rfl) (S.cell (i := 1) rfl rfl)) rfl ?_; clear S; intro a S
    refine lv S (rn_sub (S.tm rfl) (S.tm rfl)) rfl ?_; clear S; intro a S
    refine lv S (rn_assign (S.tm rfl)) rfl ?_; clear S; intro a S
    refine l_done ?_
    replace S := S.nf (L' := []) (K' := [(6, .int .i64 (W (r2.Year - r1.Year)))]) [false, false] rfl ⟨rfl, trivial⟩
    refine then_n ?_
    refine wp_ret ?_
    refine then_r ?_
    obtain rfl := Option.some.inj h
    exact f_ret S Tryd.results46 rfl rfl
  · replace h := iteF h hb1
    refine wp_skip ?_
    refine then_n ?_
    refine f_seq ?_
    refine f_region ?_
    refine lv S (rn_assign rfl) rfl ?_; clear S; intro a S
    refine l_done ?_
    replace S := S.nf (L' := [.blk b3 [.int .i64 r2.Year, .int .i64 r2.Month, .int .i64 r2.Day] 75, .blk b2 [.int .i64 r1.Year, .int .i64 r1.Month, .int .i64 r1.Day] 75]) (K' := [(7, .pointer (some ⟨b2, 0, none⟩)), (8, .pointer (some ⟨b3, 0, none⟩)), (9, .int .i64 0)]) [true, true] rfl ⟨rfl, rfl, rfl, trivial⟩
    refine then_n ?_
    refine f_seq ?_
    refine f_seq ?_
    refine f_region ?_
    refine lv S (rn_fld fa_75_0 (S.tm rfl)) rfl ?_; clear S; intro a S
    refine lv S (rn_load Tryd.isAgg3 (S.tm rfl) (S.cell (i := 1) rfl rfl)) rfl ?_; clear S; intro a S
    refine lv S (rn_add (S.tm rfl) rfl) rfl ?_; clear S; intro a S
    refine lv S (rn_assign (S.tm rfl)) rfl ?_; clear S; intro a S
    refine l_done ?_
    replace S := S.nf (L' := [.blk b3 [.int .i64 r2.Year, .int .i64 r2.Month, .int .i64 r2.Day] 75, .blk b2 [.int .i64 r1.Year, .int .i64 r1.Month, .int .i64 r1.Day] 75]) (K' := [(7, .pointer (some ⟨b2, 0, none⟩)), (8, .pointer (some ⟨b3, 0, none⟩)), (9, .int .i64 0), (10, .int .i64 (W (r1.Year + 1)))]) [true, true] rfl ⟨rfl, rfl, rfl, rfl, trivial⟩
    refine then_n ?_
    obtain ⟨j1, hj1, h⟩ := joinE h
    refine f_join (fun a w' => ∃ x1 : Int, j1 x1 = some r ∧ Sx w [] nov [.blk b3 [.int .i64 r2.Year, .int .i64 r2.Month, .int .i64 r2.Day] 75, .blk b2 [.int .i64 r1.Year, .int .i64 r1.Month, .int .i64 r1.Day] 75] [(9, .int .i64 x1)] 40 a w') ?_ ?_
    · refine wp_block ?_
      refine f_loop (fun (m1 : Nat) a w' => ∃ x1 : Int, ∃ x2 : Int, tumbref2_AgeFor_l1 r1 r2 j1 m1 x1 x2 = some r ∧ Sx w [] nov [.blk b3 [.int .i64 r2.Year, .int .i64 r2.Month, .int .i64 r2.Day] 75, .blk b2 [.int .i64 r1.Year, .int .i64 r1.Month, .int .i64 r1.Day] 75] [(7, .pointer (some ⟨b2, 0, none⟩)), (8, .pointer (some ⟨b3, 0, none⟩)), (9, .int .i64 x1), (10, .int .i64 x2)] 40 a w') id 4611686018427387904 ⟨0, W (r1.Year + 1), h, S.nf [true, true] rfl ⟨rfl, rfl, rfl, rfl, trivial⟩⟩ ?_
      clear S h; rintro m1 a w8 ⟨x1, x2, h, S⟩
      cases m1 with
      | zero => rw [tumbref2_AgeFor_l1.eq_1] at h; cases h
      | succ m1 =>
        rw [tumbref2_AgeFor_l1.eq_2] at h
        refine f_seq ?_
        refine f_seq ?_
        refine f_region ?_
        refine lv S (rn_move (S.tm rfl)) rfl ?_; clear S; intro a S
        refine lv S (rn_fld fa_75_1 (S.tm rfl)) rfl ?_; clear S; intro a S
        refine lv S (rn_load Tryd.isAgg3 (S.tm rfl) (S.cell (i := 1) rfl rfl)) rfl ?_; clear S; intro a S
        refine lv S (rn_fld fa_75_2 (S.tm rfl)) rfl ?_; clear S; intro a S
        refine lv S (rn_load Tryd.isAgg3 (S.tm rfl) (S.cell (i := 1) rfl rfl)) rfl ?_; clear S; intro a S
        refine lv S (rn_bld bt_75 (pv := [(0, .int .i64 x2), (1, .int .i64 r1.Month), (2, .int .i64 r1.Day)]) ⟨rfl, (S.tm rfl), rfl, (S.tm rfl), rfl, (S.tm rfl), trivial⟩ (cs := [.int .i64 x2, .int .i64 r1.Month, .int .i64 r1.Day]) (by kernel_rfl)) rfl ?_; clear S; intro a S
        refine lv S (rn_ldA Tryd.isAgg75 Tryd.sizeOf75 (off := 0) (o := 0) (part := [.int .i64 r2.Year, .int .i64 r2.Month, .int .i64 r2.Day]) rfl rfl (S.tm rfl) (S.cellsAt (i := 0) rfl)) rfl ?_; clear S; intro a S
        obtain ⟨r3, hr3, h⟩ := bindE h
        refine l_enter S (fun _ => run_call (vs := [.agg (GDate.enc (GDate.mk x2 r1.Month r1.Day)).toArray, .agg (GDate.enc r2).toArray]) ⟨(S.tm rfl), (S.tm rfl), trivial⟩ Tryd.call62) (tumbref2_dateOrder_ok _ (GDate.mk x2 r1.Month r1.Day) r2 _ hr3) rfl ?_; clear S; intro v3 a w10 hv3 hk8 hn3 S
        subst hv3
        refine lv S (rn_leq (S.tm rfl) rfl) rfl ?_; clear S; intro a S
        refine l_done ?_
        replace S := S.nf (L' := [.blk b3 [.int .i64 r2.Year, .int .i64 r2.Month, .int .i64 r2.Day] 75, .blk b2 [.int .i64 r1.Year, .int .i64 r1.Month, .int .i64 r1.Day] 75]) (K' := [(7, .pointer (some ⟨b2, 0, none⟩)), (8, .pointer (some ⟨b3, 0, none⟩)), (9, .int .i64 x1), (10, .int .i64 x2), (34, .bool (decide (r3 ≤ 0)))]) [true, true] rfl ⟨rfl, rfl, rfl, rfl, rfl, trivial⟩
        refine then_n ?_
        refine f_cond (S.tm rfl) (fun hb2 => ?_) (fun hb2 => ?_)
        · replace h := iteT h hb2
          refine wp_skip ?_
          refine then_n ?_
          refine f_seq ?_
          refine wp_block ?_
          refine f_region ?_
          refine lv S (rn_move (S.tm rfl)) rfl ?_; clear S; intro a S
          refine lv S (rn_add (S.tm rfl) rfl) rfl ?_; clear S; intro a S
          refine lv S (rn_assign (S.tm rfl)) rfl ?_; clear S; intro a S
          refine l_done ?_
          replace S := S.nf (L' := [.blk b3 [.int .i64 r2.Year, .int .i64 r2.Month, .int .i64 r2.Day] 75, .blk b2 [.int .i64 r1.Year, .int .i64 r1.Month, .int .i64 r1.Day] 75]) (K' := [(7, .pointer (some ⟨b2, 0, none⟩)), (8, .pointer (some ⟨b3, 0, none⟩)), (9, .int .i64 (W (x1 + 1))), (10, .int .i64 x2)]) [true, true] rfl ⟨rfl, rfl, rfl, rfl, trivial⟩
          refine blk_n ?_
          refine then_n ?_
          refine f_region ?_
          refine lv S (rn_move (S.tm rfl)) rfl ?_; clear S; intro a S
          refine lv S (rn_add (S.tm rfl) rfl) rfl ?_; clear S; intro a S
          refine lv S (rn_assign (S.tm rfl)) rfl ?_; clear S; intro a S
          refine l_done ?_
          replace S := S.nf (L' := [.blk b3 [.int .i64 r2.Year, .int .i64 r2.Month, .int .i64 r2.Day] 75, .blk b2 [.int .i64 r1.Year, .int .i64 r1.Month, .int .i64 r1.Day] 75]) (K' := [(7, .pointer (some ⟨b2, 0, none⟩)), (8, .pointer (some ⟨b3, 0, none⟩)), (9, .int .i64 (W (x1 + 1))), (10, .int .i64 (W (x2 + 1)))]) [true, true] rfl ⟨rfl, rfl, rfl, rfl, trivial⟩
          refine then_n ?_
          exact ⟨m1, ⟨W (x1 + 1), W (x2 + 1), h, S.nf [true, true] rfl ⟨rfl, rfl, rfl, rfl, trivial⟩⟩, Nat.lt_succ_self _⟩
        · replace h := iteF h hb2
          refine wp_exit ?_
          refine then_x ?_
          refine then_x ?_
          refine x_same ?_
          refine then_n ?_
          exact ⟨x1, h, S.nf [true, true] rfl ⟨rfl, trivial⟩⟩
    clear S h; rintro a w9 ⟨x1, h, S⟩; rw [hj1] at h; clear hj1 j1
    refine then_n ?_
    refine f_seq ?_
    refine f_region ?_
    refine lv S (rn_move (S.tm rfl)) rfl ?_; clear S; intro a S
    refine lv S (rn_assign (S.tm rfl)) rfl ?_; clear S; intro a S
    refine l_done ?_
    replace S := S.nf (L' := []) (K' := [(6, .int .i64 x1)]) [false, false] rfl ⟨rfl, trivial⟩
    refine then_n ?_
    refine wp_ret ?_
    obtain rfl := Option.some.inj h
    exact f_ret S Tryd.results46 rfl rfl
set_option maxRecDepth 20000 in
theorem tumbref2_MayFor_ok (w : World) (p_r : GRace) (p_s : GSwimmer) (p_day : Int) (p_way : Int) (r : Bool) (h : tumbref2_MayFor p_r p_s p_day p_way = some r) :
    Calls Tryd.prog 24 [.agg (GRace.enc p_r).toArray, .agg (GSwimmer.enc p_s).toArray, .int .i64 p_day, .int .i64 p_way].toArray w (Ret w [] fun τ v w' => v = .bool r) := by
  refine f_enter [] [] Tryd.func24 rfl Tryd.ntmps24 rfl (by simp) (by simp [fps]) (by simp [fps]) fun a S => ?_
  unfold tumbref2_MayFor at h
  replace S := S.nf (L' := []) (K' := [(0, .agg (GRace.enc p_r).toArray), (1, .agg (GSwimmer.enc p_s).toArray), (2, .int .i64 p_day), (3, .int .i64 p_way)]) [] rfl ⟨rfl, rfl, rfl, rfl, trivial⟩
  refine f_seq ?_
  refine f_region ?_
  refine l_box S (S.tm rfl) (cs := [.string p_r.Key, .int .i64 p_r.Metres, .int .i64 p_r.Stroke, .int .i64 p_r.Course, .int .i64 p_r.Legs, .int .i64 p_r.Sex, .int .i64 p_r.Young, .int .i64 p_r.Old]) rfl rfl ?_; clear S; intro a w1 b1 hz1 hk1 S
  refine l_box S (S.tm rfl) (cs := [.string p_s.Key, .int .i64 p_s.Sex, .int .i64 p_s.Born]) rfl rfl ?_; clear S; intro a w2 b2 hz2 hk2 S
  refine lv S (rn_assign rfl) rfl ?_; clear S; intro a S
  refine l_done ?_
  replace S := S.nf (L' := [.blk b2 [.string p_s.Key, .int .i64 p_s.Sex, .int .i64 p_s.Born] 49, .blk b1 [.string p_r.Key, .int .i64 p_r.Metres, .int .i64 p_r.Stroke, .int .i64 p_r.Course, .int .i64 p_r.Legs, .int .i64 p_r.Sex, .int .i64 p_r.Young, .int .i64 p_r.Old] 45]) (K' := [(2, .int .i64 p_day), (3, .int .i64 p_way), (4, .pointer (some ⟨b1, 0, none⟩)), (5, .pointer (some ⟨b2, 0, none⟩))]) [true, true] rfl ⟨rfl, rfl, rfl, rfl, trivial⟩
  refine then_n ?_
  refine f_seq ?_
  obtain ⟨j1, hj1, h⟩ := joinE h
  refine f_join (fun a w' => ∃ x1 : Bool, j1 x1 = some r ∧ Sx w [] nov [] [(8, .bool x1)] 30 a w') ?_ ?_
  · rcases Bool.eq_false_or_eq_true (decide (p_r.Sex = 0)) with hb1 | hb1
    · replace h := iteT h hb1
      rcases Bool.eq_false_or_eq_true true with hb2 | hb2
      · replace h := iteT h hb2
        obtain ⟨r1, hr1, h⟩ := bindE h
        refine d_region [] ([]) Tryd.mixed S rfl (by kernel_rfl) ?_; clear S; intro w6 hk5 hsel S
        refine d_quiet 0 S hsel rfl rfl rfl (by kernel_rfl) (by kernel_rfl) rfl (fun _ hw => (rn_fld fa_45_5 (S.tm rfl))) ?_; clear S; intro a S
        refine d_quiet 1 S hsel rfl rfl rfl (by kernel_rfl) (by kernel_rfl) rfl (fun _ hw => (rn_ld Tryd.isAgg3 (off := 0) (o := 5) (S.tm rfl) ((S.blk_mem (i := 1) (cells := [.string p_r.Key, .int .i64 p_r.Metres, .int .i64 p_r.Stroke, .int .i64 p_r.Course, .int .i64 p_r.Legs, .int .i64 p_r.Sex, .int .i64 p_r.Young, .int .i64 p_r.Old]) (b := b1) (T := 45) rfl (ne_nil (e' := .blk b1 [.string p_r.Key, .int .i64 p_r.Metres, .int .i64 p_r.Stroke, .int .i64 p_r.Course, .int .i64 p_r.Legs, .int .i64 p_r.Sex, .int .i64 p_r.Young, .int .i64 p_r.Old] 45))).kept hw) rfl)) ?_; clear S; intro a S
        refine d_quiet 2 S hsel rfl rfl rfl (by kernel_rfl) (by kernel_rfl) rfl (fun _ hw => (rn_eql (S.tm rfl) rfl)) ?_; clear S; intro a S
        refine d_quiet 3 S hsel rfl rfl rfl (by kernel_rfl) (by kernel_rfl) rfl (fun _ hw => (rn_move (S.tm rfl))) ?_; clear S; intro a S
        refine d_skip 4 S hsel rfl rfl rfl rfl (neq_t hb1) rfl (by kernel_rfl) (by kernel_rfl) rfl ?_; clear S; intro a S
        refine d_skip 5 S hsel rfl rfl rfl rfl (neq_t hb1) rfl (by kernel_rfl) (by kernel_rfl) rfl ?_; clear S; intro a S
        refine d_skip 6 S hsel rfl rfl rfl rfl (neq_t hb1) rfl (by kernel_rfl) (by kernel_rfl) rfl ?_; clear S; intro a S
        refine d_skip 7 S hsel rfl rfl rfl rfl (neq_t hb1) rfl (by kernel_rfl) (by kernel_rfl) rfl ?_; clear S; intro a S
        refine d_skip 8 S hsel rfl rfl rfl rfl (neq_t hb1) rfl (by kernel_rfl) (by kernel_rfl) rfl ?_; clear S; intro a S
        refine d_quiet 9 S hsel rfl rfl rfl (by kernel_rfl) (by kernel_rfl) rfl (fun _ hw => (rn_pick_b hb1 (S.tm rfl) rfl)) ?_; clear S; intro a S
        refine d_quiet 10 S hsel rfl rfl rfl (by kernel_rfl) (by kernel_rfl) rfl (fun _ hw => (rn_move (S.tm rfl))) ?_; clear S; intro a S
        refine d_quiet_g 11 S hsel rfl rfl rfl rfl hb2 rfl rfl (by kernel_rfl) (by kernel_rfl) rfl (fun _ hw => (rn_ldA Tryd.isAgg49 Tryd.sizeOf49 (off := 0) (o := 0) (part := [.string p_s.Key, .int .i64 p_s.Sex, .int .i64 p_s.Born]) rfl rfl (S.tm rfl) ((S.blk_mem (i := 0) (cells := [.string p_s.Key, .int .i64 p_s.Sex, .int .i64 p_s.Born]) (b := b2) (T := 49) rfl (ne_nil (e' := .blk b2 [.string p_s.Key, .int .i64 p_s.Sex, .int .i64 p_s.Born] 49))).kept hw))) ?_; clear S; intro a S
        refine d_quiet_g 12 S hsel rfl rfl rfl rfl hb2 rfl rfl (by kernel_rfl) (by kernel_rfl) rfl (fun _ hw => (rn_move (S.tm rfl))) ?_; clear S; intro a S
        refine d_quiet_g 13 S hsel rfl rfl rfl rfl hb2 rfl rfl (by kernel_rfl) (by kernel_rfl) rfl (fun _ hw => (rn_move (S.tm rfl))) ?_; clear S; intro a S
        refine d_quiet_g 15 S hsel rfl rfl rfl rfl hb2 rfl rfl (by kernel_rfl) (by kernel_rfl) rfl (fun _ hw => (rn_fld fa_45_6 (S.tm rfl))) ?_; clear S; intro a S
        refine d_quiet_g 16 S hsel rfl rfl rfl rfl hb2 rfl rfl (by kernel_rfl) (by kernel_rfl) rfl (fun _ hw => (rn_ld Tryd.isAgg3 (off := 0) (o := 6) (S.tm rfl) ((S.blk_mem (i := 1) (cells := [.string p_r.Key, .int .i64 p_r.Metres, .int .i64 p_r.Stroke, .int .i64 p_r.Course, .int .i64 p_r.Legs, .int .i64 p_r.Sex, .int .i64 p_r.Young, .int .i64 p_r.Old]) (b := b1) (T := 45) rfl (ne_nil (e' := .blk b1 [.string p_r.Key, .int .i64 p_r.Metres, .int .i64 p_r.Stroke, .int .i64 p_r.Course, .int .i64 p_r.Legs, .int .i64 p_r.Sex, .int .i64 p_r.Young, .int .i64 p_r.Old] 45))).kept hw) rfl)) ?_; clear S; intro a S
        refine d_quiet_g 17 S hsel rfl rfl rfl rfl hb2 rfl rfl (by kernel_rfl) (by kernel_rfl) rfl (fun _ hw => (rn_fld fa_45_7 (S.tm rfl))) ?_; clear S; intro a S
        refine d_quiet_g 18 S hsel rfl rfl rfl rfl hb2 rfl rfl (by kernel_rfl) (by kernel_rfl) rfl (fun _ hw => (rn_ld Tryd.isAgg3 (off := 0) (o := 7) (S.tm rfl) ((S.blk_mem (i := 1) (cells := [.string p_r.Key, .int .i64 p_r.Metres, .int .i64 p_r.Stroke, .int .i64 p_r.Course, .int .i64 p_r.Legs, .int .i64 p_r.Sex, .int .i64 p_r.Young, .int .i64 p_r.Old]) (b := b1) (T := 45) rfl (ne_nil (e' := .blk b1 [.string p_r.Key, .int .i64 p_r.Metres, .int .i64 p_r.Stroke, .int .i64 p_r.Course, .int .i64 p_r.Legs, .int .i64 p_r.Sex, .int .i64 p_r.Young, .int .i64 p_r.Old] 45))).kept hw) rfl)) ?_; clear S; intro a S
        refine d_loud1 14 (by kernel_rfl) rfl ?_
        refine l_want S rfl rfl rfl hb2 ?_
        refine l_enter S (fun _ => run_call (vs := [.agg (GSwimmer.enc p_s).toArray, .int .i64 p_day, .int .i64 p_way]) ⟨(S.tm rfl), (S.tm rfl), (S.tm rfl), trivial⟩ Tryd.call46) (tumbref2_AgeFor_ok _ p_s p_day p_way _ hr1) rfl ?_; clear S; intro v3 a w7 hv3 hk6 hn3 S
        subst hv3
        refine l_done ?_
        refine d_next hk6 ?_
        refine d_loud1 19 (by kernel_rfl) rfl ?_
        refine l_want S rfl rfl rfl hb2 ?_
        refine l_enter S (fun _ => run_call (vs := [.int .i64 r1, .int .i64 p_r.Young, .int .i64 p_r.Old]) ⟨(S.tm rfl), (S.tm rfl), (S.tm rfl), trivial⟩ Tryd.call33) (tumbref2_in_ok _ r1 p_r.Young p_r.Old _ rfl) rfl ?_; clear S; intro v4 a w8 hv4 hk7 hn4 S
        subst hv4
        refine l_done ?_
        refine d_next hk7 ?_
        refine d_rest [20, 21] hsel (by kernel_rfl) rfl ?_
        clear hsel
        refine s_lv S rfl (rn_pick_b hb2 (S.tm rfl) (S.tm rfl)) rfl ?_; clear S; intro a S
        refine s_lv S rfl (rn_assign (S.tm rfl)) rfl ?_; clear S; intro a S
        refine s_done ?_
        replace S := S.nf (L' := []) (K' := [(8, .bool (tumbref2_in r1 p_r.Young p_r.Old))]) [false, false] rfl ⟨rfl, trivial⟩
        refine then_n ?_
        exact ⟨(tumbref2_in r1 p_r.Young p_r.Old), h, S.nf [] rfl ⟨rfl, trivial⟩⟩
      · replace h := iteF h hb2
        refine d_region [] ([]) Tryd.mixed S rfl (by kernel_rfl) ?_; clear S; intro w9 hk8 hsel S
        refine d_rest [0, 1, 2, 3, 4, 5, 6, 7, 8, 9, 10, 11, 12, 13, 14, 15, 16, 17, 18, 19, 20, 21] hsel (by kernel_rfl) rfl ?_
        clear hsel
        refine s_lv S rfl (rn_fld fa_45_5 (S.tm rfl)) rfl ?_; clear S; intro a S
        refine s_lv S rfl (rn_load Tryd.isAgg3 (S.tm rfl) (S.cell (i := 1) rfl rfl)) rfl ?_; clear S; intro a S
        refine s_lv S rfl (rn_eql (S.tm rfl) rfl) rfl ?_; clear S; intro a S
        refine s_lv S rfl (rn_move (S.tm rfl)) rfl ?_; clear S; intro a S
        refine s_skip S rfl rfl rfl rfl (neq_t hb1) rfl ?_ rfl; clear S; intro a S
        refine s_skip S rfl rfl rfl rfl (neq_t hb1) rfl ?_ rfl; clear S; intro a S
        refine s_skip S rfl rfl rfl rfl (neq_t hb1) rfl ?_ rfl; clear S; intro a S
        refine s_skip S rfl rfl rfl rfl (neq_t hb1) rfl ?_ rfl; clear S; intro a S
        refine s_skip S rfl rfl rfl rfl (neq_t hb1) rfl ?_ rfl; clear S; intro a S
        refine s_lv S rfl (rn_pick_b hb1 (S.tm rfl) rfl) rfl ?_; clear S; intro a S
        refine s_lv S rfl (rn_move (S.tm rfl)) rfl ?_; clear S; intro a S
        refine s_skip S rfl rfl rfl rfl (neq_f hb2) rfl ?_ rfl; clear S; intro a S
        refine s_skip S rfl rfl rfl rfl (neq_f hb2) rfl ?_ rfl; clear S; intro a S
        refine s_skip S rfl rfl rfl rfl (neq_f hb2) rfl ?_ rfl; clear S; intro a S
        refine s_skip S rfl rfl rfl rfl (neq_f hb2) rfl ?_ rfl; clear S; intro a S
        refine s_skip S rfl rfl rfl rfl (neq_f hb2) rfl ?_ rfl; clear S; intro a S
        refine s_skip S rfl rfl rfl rfl (neq_f hb2) rfl ?_ rfl; clear S; intro a S
        refine s_skip S rfl rfl rfl rfl (neq_f hb2) rfl ?_ rfl; clear S; intro a S
        refine s_skip S rfl rfl rfl rfl (neq_f hb2) rfl ?_ rfl; clear S; intro a S
        refine s_skip S rfl rfl rfl rfl (neq_f hb2) rfl ?_ rfl; clear S; intro a S
        refine s_lv S rfl (rn_pick_c hb2 (S.tm rfl) rfl) rfl ?_; clear S; intro a S
        refine s_lv S rfl (rn_assign (S.tm rfl)) rfl ?_; clear S; intro a S
        refine s_done ?_
        replace S := S.nf (L' := []) (K' := [(8, .bool false)]) [false, false] rfl ⟨rfl, trivial⟩
        refine then_n ?_
        exact ⟨false, h, S.nf [] rfl ⟨rfl, trivial⟩⟩
    · replace h := iteF h hb1
      rcases Bool.eq_false_or_eq_true (decide (p_r.Sex = p_s.Sex)) with hb3 | hb3
      · replace h := iteT h hb3
        obtain ⟨r2, hr2, h⟩ := bindE h
        refine d_region [] ([]) Tryd.mixed S rfl (by kernel_rfl) ?_; clear S; intro w12 hk11 hsel S
        refine d_quiet 0 S hsel rfl rfl rfl (by kernel_rfl) (by kernel_rfl) rfl (fun _ hw => (rn_fld fa_45_5 (S.tm rfl))) ?_; clear S; intro a S
        refine d_quiet 1 S hsel rfl rfl rfl (by kernel_rfl) (by kernel_rfl) rfl (fun _ hw => (rn_ld Tryd.isAgg3 (off := 0) (o := 5) (S.tm rfl) ((S.blk_mem (i := 1) (cells := [.string p_r.Key, .int .i64 p_r.Metres, .int .i64 p_r.Stroke, .int .i64 p_r.Course, .int .i64 p_r.Legs, .int .i64 p_r.Sex, .int .i64 p_r.Young, .int .i64 p_r.Old]) (b := b1) (T := 45) rfl (ne_nil (e' := .blk b1 [.string p_r.Key, .int .i64 p_r.Metres, .int .i64 p_r.Stroke, .int .i64 p_r.Course, .int .i64 p_r.Legs, .int .i64 p_r.Sex, .int .i64 p_r.Young, .int .i64 p_r.Old] 45))).kept hw) rfl)) ?_; clear S; intro a S
        refine d_quiet 2 S hsel rfl rfl rfl (by kernel_rfl) (by kernel_rfl) rfl (fun _ hw => (rn_eql (S.tm rfl) rfl)) ?_; clear S; intro a S
        refine d_quiet 3 S hsel rfl rfl rfl (by kernel_rfl) (by kernel_rfl) rfl (fun _ hw => (rn_move (S.tm rfl))) ?_; clear S; intro a S
        refine d_quiet_g 4 S hsel rfl rfl rfl rfl hb1 rfl rfl (by kernel_rfl) (by kernel_rfl) rfl (fun _ hw => (rn_fld fa_45_5 (S.tm rfl))) ?_; clear S; intro a S
        refine d_quiet_g 5 S hsel rfl rfl rfl rfl hb1 rfl rfl (by kernel_rfl) (by kernel_rfl) rfl (fun _ hw => (rn_ld Tryd.isAgg3 (off := 0) (o := 5) (S.tm rfl) ((S.blk_mem (i := 1) (cells := [.string p_r.Key, .int .i64 p_r.Metres, .int .i64 p_r.Stroke, .int .i64 p_r.Course, .int .i64 p_r.Legs, .int .i64 p_r.Sex, .int .i64 p_r.Young, .int .i64 p_r.Old]) (b := b1) (T := 45) rfl (ne_nil (e' := .blk b1 [.string p_r.Key, .int .i64 p_r.Metres, .int .i64 p_r.Stroke, .int .i64 p_r.Course, .int .i64 p_r.Legs, .int .i64 p_r.Sex, .int .i64 p_r.Young, .int .i64 p_r.Old] 45))).kept hw) rfl)) ?_; clear S; intro a S
        refine d_quiet_g 6 S hsel rfl rfl rfl rfl hb1 rfl rfl (by kernel_rfl) (by kernel_rfl) rfl (fun _ hw => (rn_fld fa_49_1 (S.tm rfl))) ?_; clear S; intro a S
        refine d_quiet_g 7 S hsel rfl rfl rfl rfl hb1 rfl rfl (by kernel_rfl) (by kernel_rfl) rfl (fun _ hw => (rn_ld Tryd.isAgg3 (off := 0) (o := 1) (S.tm rfl) ((S.blk_mem (i := 0) (cells := [.string p_s.Key, .int .i64 p_s.Sex, .int .i64 p_s.Born]) (b := b2) (T := 49) rfl (ne_nil (e' := .blk b2 [.string p_s.Key, .int .i64 p_s.Sex, .int .i64 p_s.Born] 49))).kept hw) rfl)) ?_; clear S; intro a S
        refine d_quiet_g 8 S hsel rfl rfl rfl rfl hb1 rfl rfl (by kernel_rfl) (by kernel_rfl) rfl (fun _ hw => (rn_eql (S.tm rfl) (S.tm rfl))) ?_; clear S; intro a S
        refine d_quiet 9 S hsel rfl rfl rfl (by kernel_rfl) (by kernel_rfl) rfl (fun _ hw => (rn_pick_c hb1 (S.tm rfl) (S.tm rfl))) ?_; clear S; intro a S
        refine d_quiet 10 S hsel rfl rfl rfl (by kernel_rfl) (by kernel_rfl) rfl (fun _ hw => (rn_move (S.tm rfl))) ?_; clear S; intro a S
        refine d_quiet_g 11 S hsel rfl rfl rfl rfl hb3 rfl rfl (by kernel_rfl) (by kernel_rfl) rfl (fun _ hw => (rn_ldA Tryd.isAgg49 Tryd.sizeOf49 (off := 0) (o := 0) (part := [.string p_s.Key, .int .i64 p_s.Sex, .int .i64 p_s.Born]) rfl rfl (S.tm rfl) ((S.blk_mem (i := 0) (cells := [.string p_s.Key, .int .i64 p_s.Sex, .int .i64 p_s.Born]) (b := b2) (T := 49) rfl (ne_nil (e' := .blk b2 [.string p_s.Key, .int .i64 p_s.Sex, .int .i64 p_s.Born] 49))).kept hw))) ?_; clear S; intro a S
        refine d_quiet_g 12 S hsel rfl rfl rfl rfl hb3 rfl rfl (by kernel_rfl) (by kernel_rfl) rfl (fun _ hw => (rn_move (S.tm rfl))) ?_; clear S; intro a S
        refine d_quiet_g 13 S hsel rfl rfl rfl rfl hb3 rfl rfl (by kernel_rfl) (by kernel_rfl) rfl (fun _ hw => (rn_move (S.tm rfl))) ?_; clear S; intro a S
        refine d_quiet_g 15 S hsel rfl rfl rfl rfl hb3 rfl rfl (by kernel_rfl) (by kernel_rfl) rfl (fun _ hw => (rn_fld fa_45_6 (S.tm rfl))) ?_; clear S; intro a S
        refine d_quiet_g 16 S hsel rfl rfl rfl rfl hb3 rfl rfl (by kernel_rfl) (by kernel_rfl) rfl (fun _ hw => (rn_ld Tryd.isAgg3 (off := 0) (o := 6) (S.tm rfl) ((S.blk_mem (i := 1) (cells := [.string p_r.Key, .int .i64 p_r.Metres, .int .i64 p_r.Stroke, .int .i64 p_r.Course, .int .i64 p_r.Legs, .int .i64 p_r.Sex, .int .i64 p_r.Young, .int .i64 p_r.Old]) (b := b1) (T := 45) rfl (ne_nil (e' := .blk b1 [.string p_r.Key, .int .i64 p_r.Metres, .int .i64 p_r.Stroke, .int .i64 p_r.Course, .int .i64 p_r.Legs, .int .i64 p_r.Sex, .int .i64 p_r.Young, .int .i64 p_r.Old] 45))).kept hw) rfl)) ?_; clear S; intro a S
        refine d_quiet_g 17 S hsel rfl rfl rfl rfl hb3 rfl rfl (by kernel_rfl) (by kernel_rfl) rfl (fun _ hw => (rn_fld fa_45_7 (S.tm rfl))) ?_; clear S; intro a S
        refine d_quiet_g 18 S hsel rfl rfl rfl rfl hb3 rfl rfl (by kernel_rfl) (by kernel_rfl) rfl (fun _ hw => (rn_ld Tryd.isAgg3 (off := 0) (o := 7) (S.tm rfl) ((S.blk_mem (i := 1) (cells := [.string p_r.Key, .int .i64 p_r.Metres, .int .i64 p_r.Stroke, .int .i64 p_r.Course, .int .i64 p_r.Legs, .int .i64 p_r.Sex, .int .i64 p_r.Young, .int .i64 p_r.Old]) (b := b1) (T := 45) rfl (ne_nil (e' := .blk b1 [.string p_r.Key, .int .i64 p_r.Metres, .int .i64 p_r.Stroke, .int .i64 p_r.Course, .int .i64 p_r.Legs, .int .i64 p_r.Sex, .int .i64 p_r.Young, .int .i64 p_r.Old] 45))).kept hw) rfl)) ?_; clear S; intro a S
        refine d_loud1 14 (by kernel_rfl) rfl ?_
        refine l_want S rfl rfl rfl hb3 ?_
        refine l_enter S (fun _ => run_call (vs := [.agg (GSwimmer.enc p_s).toArray, .int .i64 p_day, .int .i64 p_way]) ⟨(S.tm rfl), (S.tm rfl), (S.tm rfl), trivial⟩ Tryd.call46) (tumbref2_AgeFor_ok _ p_s p_day p_way _ hr2) rfl ?_; clear S; intro v7 a w13 hv7 hk12 hn7 S
        subst hv7
        refine l_done ?_
        refine d_next hk12 ?_
        refine d_loud1 19 (by kernel_rfl) rfl ?_
        refine l_want S rfl rfl rfl hb3 ?_
        refine l_enter S (fun _ => run_call (vs := [.int .i64 r2, .int .i64 p_r.Young, .int .i64 p_r.Old]) ⟨(S.tm rfl), (S.tm rfl), (S.tm rfl), trivial⟩ Tryd.call33) (tumbref2_in_ok _ r2 p_r.Young p_r.Old _ rfl) rfl ?_; clear S; intro v8 a w14 hv8 hk13 hn8 S
        subst hv8
        refine l_done ?_
        refine d_next hk13 ?_
        refine d_rest [20, 21] hsel (by kernel_rfl) rfl ?_
        clear hsel
        refine s_lv S rfl (rn_pick_b hb3 (S.tm rfl) (S.tm rfl)) rfl ?_; clear S; intro a S
        refine s_lv S rfl (rn_assign (S.tm rfl)) rfl ?_; clear S; intro a S
        refine s_done ?_
        replace S := S.nf (L' := []) (K' := [(8, .bool (tumbref2_in r2 p_r.Young p_r.Old))]) [false, false] rfl ⟨rfl, trivial⟩
        refine then_n ?_
        exact ⟨(tumbref2_in r2 p_r.Young p_r.Old), h, S.nf [] rfl ⟨rfl, trivial⟩⟩
      · replace h := iteF h hb3
        refine d_region [] ([]) Tryd.mixed S rfl (by kernel_rfl) ?_; clear S; intro w15 hk14 hsel S
        refine d_rest [0, 1, 2, 3, 4, 5, 6, 7, 8, 9, 10, 11, 12, 13, 14, 15, 16, 17, 18, 19, 20, 21] hsel (by kernel_rfl) rfl ?_
        clear hsel
        refine s_lv S rfl (rn_fld fa_45_5 (S.tm rfl)) rfl ?_; clear S; intro a S
        refine s_lv S rfl (rn_load Tryd.isAgg3 (S.tm rfl) (S.cell (i := 1) rfl rfl)) rfl ?_; clear S; intro a S
        refine s_lv S rfl (rn_eql (S.tm rfl) rfl) rfl ?_; clear S; intro a S
        refine s_lv S rfl (rn_move (S.tm rfl)) rfl ?_; clear S; intro a S
        refine s_want S rfl rfl rfl rfl hb1 ?_
        refine s_lv0 S (rn_fld fa_45_5 (S.tm rfl)) rfl ?_; clear S; intro a S
        refine s_want S rfl rfl rfl rfl hb1 ?_
        refine s_lv0 S (rn_load Tryd.isAgg3 (S.tm rfl) (S.cell (i := 1) rfl rfl)) rfl ?_; clear S; intro a S
        refine s_want S rfl rfl rfl rfl hb1 ?_
        refine s_lv0 S (rn_fld fa_49_1 (S.tm rfl)) rfl ?_; clear S; intro a S
        refine s_want S rfl rfl rfl rfl hb1 ?_
        refine s_lv0 S (rn_load Tryd.isAgg3 (S.tm rfl) (S.cell (i := 0) rfl rfl)) rfl ?_; clear S; intro a S
        refine s_want S rfl rfl rfl rfl hb1 ?_
        refine s_lv0 S (rn_eql (S.tm rfl) (S.tm rfl)) rfl ?_; clear S; intro a S
        refine s_lv S rfl (rn_pick_c hb1 (S.tm rfl) (S.tm rfl)) rfl ?_; clear S; intro a S
        refine s_lv S rfl (rn_move (S.tm rfl)) rfl ?_; clear S; intro a S
        refine s_skip S rfl rfl rfl rfl (neq_f hb3) rfl ?_ rfl; clear S; intro a S
        refine s_skip S rfl rfl rfl rfl (neq_f hb3) rfl ?_ rfl; clear S; intro a S
        refine s_skip S rfl rfl rfl rfl (neq_f hb3) rfl ?_ rfl; clear S; intro a S
        refine s_skip S rfl rfl rfl rfl (neq_f hb3) rfl ?_ rfl; clear S; intro a S
        refine s_skip S rfl rfl rfl rfl (neq_f hb3) rfl ?_ rfl; clear S; intro a S
        refine s_skip S rfl rfl rfl rfl (neq_f hb3) rfl ?_ rfl; clear S; intro a S
        refine s_skip S rfl rfl rfl rfl (neq_f hb3) rfl ?_ rfl; clear S; intro a S
        refine s_skip S rfl rfl rfl rfl (neq_f hb3) rfl ?_ rfl; clear S; intro a S
        refine s_skip S rfl rfl rfl rfl (neq_f hb3) rfl ?_ rfl; clear S; intro a S
        refine s_lv S rfl (rn_pick_c hb3 (S.tm rfl) rfl) rfl ?_; clear S; intro a S
        refine s_lv S rfl (rn_assign (S.tm rfl)) rfl ?_; clear S; intro a S
        refine s_done ?_
        replace S := S.nf (L' := []) (K' := [(8, .bool false)]) [false, false] rfl ⟨rfl, trivial⟩
        refine then_n ?_
        exact ⟨false, h, S.nf [] rfl ⟨rfl, trivial⟩⟩
  clear S h; rintro a w3 ⟨x1, h, S⟩; rw [hj1] at h; clear hj1 j1
  refine then_n ?_
  refine wp_ret ?_
  obtain rfl := Option.some.inj h
  exact f_ret S Tryd.results24 rfl rfl
set_option maxRecDepth 20000 in
theorem swimmer_DayOf_ok (w : World) (p_d : GDate) (r : Int × Int) (h : swimmer_DayOf p_d = some r) :
    Calls Tryd.prog 47 [.agg (GDate.enc p_d).toArray].toArray w (Ret w [] fun τ v w' => v = .tuple #[.int .i64 r.1, .int .i64 r.2]) := by
  refine f_enter [] [] Tryd.func47 rfl Tryd.ntmps47 rfl (by simp) (by simp [fps]) (by simp [fps]) fun a S => ?_
  unfold swimmer_DayOf at h
  replace S := S.nf (L' := []) (K' := [(0, .agg (GDate.enc p_d).toArray)]) [] rfl ⟨rfl, trivial⟩
  refine f_seq ?_
  refine f_region ?_
  refine l_box S (S.tm rfl) (cs := [.int .i64 p_d.Year, .int .i64 p_d.Month, .int .i64 p_d.Day]) rfl rfl ?_; clear S; intro a w1 b1 hz1 hk1 S
  refine lv S (rn_assign rfl) rfl ?_; clear S; intro a S
  refine lv S (rn_assign rfl) rfl ?_; clear S; intro a S
  refine l_done ?_
  replace S := S.nf (L' := [.blk b1 [.int .i64 p_d.Year, .int .i64 p_d.Month, .int .i64 p_d.Day] 75]) (K' := [(1, .pointer (some ⟨b1, 0, none⟩))]) [true] rfl ⟨rfl, trivial⟩
  refine then_n ?_
  refine f_seq ?_
  refine f_seq ?_
  obtain ⟨j1, hj1, h⟩ := joinE h
  refine f_join (fun a w' => ∃ x1 : Bool, j1 x1 = some r ∧ Sx w [] nov [.blk b1 [.int .i64 p_d.Year, .int .i64 p_d.Month, .int .i64 p_d.Day] 75] [(1, .pointer (some ⟨b1, 0, none⟩)), (28, .bool x1)] 68 a w') ?_ ?_
  · rcases Bool.eq_false_or_eq_true (!(words_Within p_d.Year 1900 2100)) with hb1 | hb1
    · replace h := iteT h hb1
      rcases Bool.eq_false_or_eq_true true with hb2 | hb2
      · replace h := iteT h hb2
        refine d_region [] ([]) Tryd.mixed S rfl (by kernel_rfl) ?_; clear S; intro w6 hk5 hsel S
        refine d_quiet 0 S hsel rfl rfl rfl (by kernel_rfl) (by kernel_rfl) rfl (fun _ hw => (rn_fld fa_75_0 (S.tm rfl))) ?_; clear S; intro a S
        refine d_quiet 1 S hsel rfl rfl rfl (by kernel_rfl) (by kernel_rfl) rfl (fun _ hw => (rn_ld Tryd.isAgg3 (off := 0) (o := 0) (S.tm rfl) ((S.blk_mem (i := 0) (cells := [.int .i64 p_d.Year, .int .i64 p_d.Month, .int .i64 p_d.Day]) (b := b1) (T := 75) rfl (ne_nil (e' := .blk b1 [.int .i64 p_d.Year, .int .i64 p_d.Month, .int .i64 p_d.Day] 75))).kept hw) rfl)) ?_; clear S; intro a S
        refine d_loud1 2 (by kernel_rfl) rfl ?_
        refine l_enter S (fun _ => run_call (vs := [.int .i64 p_d.Year, .int .i64 1900, .int .i64 2100]) ⟨(S.tm rfl), rfl, rfl, trivial⟩ Tryd.call54) (words_Within_ok _ p_d.Year 1900 2100 _ rfl) rfl ?_; clear S; intro v4 a w7 hv4 hk6 hn4 S
        subst hv4
        refine l_done ?_
        refine d_next hk6 ?_
        refine d_rest [3, 4, 5, 6, 7, 8, 9, 10, 11, 12, 13, 14, 15, 16, 17, 18, 19, 20] hsel (by kernel_rfl) rfl ?_
        clear hsel
        refine s_lv S rfl (rn_not (S.tm rfl)) rfl ?_; clear S; intro a S
        refine s_lv S rfl (rn_move (S.tm rfl)) rfl ?_; clear S; intro a S
        refine s_skip S rfl rfl rfl rfl (neq_t hb1) rfl ?_ rfl; clear S; intro a S
        refine s_skip S rfl rfl rfl rfl (neq_t hb1) rfl ?_ rfl; clear S; intro a S
        refine s_skip S rfl rfl rfl rfl (neq_t hb1) rfl ?_ rfl; clear S; intro a S
        refine s_skip S rfl rfl rfl rfl (neq_t hb1) rfl ?_ rfl; clear S; intro a S
        refine s_lv S rfl (rn_pick_b hb1 (S.tm rfl) rfl) rfl ?_; clear S; intro a S
        refine s_lv S rfl (rn_move (S.tm rfl)) rfl ?_; clear S; intro a S
        refine s_skip S rfl rfl rfl rfl (neq_t hb2) rfl ?_ rfl; clear S; intro a S
        refine s_skip S rfl rfl rfl rfl (neq_t hb2) rfl ?_ rfl; clear S; intro a S
        refine s_skip S rfl rfl rfl rfl (neq_t hb2) rfl ?_ rfl; clear S; intro a S
        refine s_skip S rfl rfl rfl rfl (neq_t hb2) rfl ?_ rfl; clear S; intro a S
        refine s_skip S rfl rfl rfl rfl (neq_t hb2) rfl ?_ rfl; clear S; intro a S
        refine s_skip S rfl rfl rfl rfl (neq_t hb2) rfl ?_ rfl; clear S; intro a S
        refine s_skip S rfl rfl rfl rfl (neq_t hb2) rfl ?_ rfl; clear S; intro a S
        refine s_skip S rfl rfl rfl rfl (neq_t hb2) rfl ?_ rfl; clear S; intro a S
        refine s_skip S rfl rfl rfl rfl (neq_t hb2) rfl ?_ rfl; clear S; intro a S
        refine s_lv S rfl (rn_pick_b hb2 (S.tm rfl) rfl) rfl ?_; clear S; intro a S
        refine s_done ?_
        replace S := S.nf (L' := [.blk b1 [.int .i64 p_d.Year, .int .i64 p_d.Month, .int .i64 p_d.Day] 75]) (K' := [(1, .pointer (some ⟨b1, 0, none⟩)), (28, .bool true)]) [true] rfl ⟨rfl, rfl, trivial⟩
        refine then_n ?_
        exact ⟨true, h, S.nf [true] rfl ⟨rfl, rfl, trivial⟩⟩
      · replace h := iteF h hb2
        refine d_region [] ([]) Tryd.mixed S rfl (by kernel_rfl) ?_; clear S; intro w11 hk10 hsel S
        refine d_quiet 0 S hsel rfl rfl rfl (by kernel_rfl) (by kernel_rfl) rfl (fun _ hw => (rn_fld fa_75_0 (S.tm rfl))) ?_; clear S; intro a S
        refine d_quiet 1 S hsel rfl rfl rfl (by kernel_rfl) (by kernel_rfl) rfl (fun _ hw => (rn_ld Tryd.isAgg3 (off := 0) (o := 0) (S.tm rfl) ((S.blk_mem (i := 0) (cells := [.int .i64 p_d.Year, .int .i64 p_d.Month, .int .i64 p_d.Day]) (b := b1) (T := 75) rfl (ne_nil (e' := .blk b1 [.int .i64 p_d.Year, .int .i64 p_d.Month, .int .i64 p_d.Day] 75))).kept hw) rfl)) ?_; clear S; intro a S
        refine d_loud1 2 (by kernel_rfl) rfl ?_
        refine l_enter S (fun _ => run_call (vs := [.int .i64 p_d.Year, .int .i64 1900, .int .i64 2100]) ⟨(S.tm rfl), rfl, rfl, trivial⟩ Tryd.call54) (words_Within_ok _ p_d.Year 1900 2100 _ rfl) rfl ?_; clear S; intro v8 a w12 hv8 hk11 hn8 S
        subst hv8
        refine l_done ?_
        refine d_next hk11 ?_
        refine d_quiet 3 S hsel rfl rfl rfl (by kernel_rfl) (by kernel_rfl) rfl (fun _ hw => (rn_not (S.tm rfl))) ?_; clear S; intro a S
        refine d_quiet 4 S hsel rfl rfl rfl (by kernel_rfl) (by kernel_rfl) rfl (fun _ hw => (rn_move (S.tm rfl))) ?_; clear S; intro a S
        refine d_skip 5 S hsel rfl rfl rfl rfl (neq_t hb1) rfl (by kernel_rfl) (by kernel_rfl) rfl ?_; clear S; intro a S
        refine d_skip 6 S hsel rfl rfl rfl rfl (neq_t hb1) rfl (by kernel_rfl) (by kernel_rfl) rfl ?_; clear S; intro a S
        refine d_skip 7 S hsel rfl rfl rfl rfl (neq_t hb1) rfl (by kernel_rfl) (by kernel_rfl) rfl ?_; clear S; intro a S
        refine d_skip 8 S hsel rfl rfl rfl rfl (neq_t hb1) rfl (by kernel_rfl) (by kernel_rfl) rfl ?_; clear S; intro a S
        refine d_quiet 9 S hsel rfl rfl rfl (by kernel_rfl) (by kernel_rfl) rfl (fun _ hw => (rn_pick_b hb1 (S.tm rfl) rfl)) ?_; clear S; intro a S
        refine d_quiet 10 S hsel rfl rfl rfl (by kernel_rfl) (by kernel_rfl) rfl (fun _ hw => (rn_move (S.tm rfl))) ?_; clear S; intro a S
        refine d_quiet_g 11 S hsel rfl rfl rfl rfl hb2 rfl rfl (by kernel_rfl) (by kernel_rfl) rfl (fun _ hw => (rn_fld fa_75_2 (S.tm rfl))) ?_; clear S; intro a S
        refine d_quiet_g 12 S hsel rfl rfl rfl rfl hb2 rfl rfl (by kernel_rfl) (by kernel_rfl) rfl (fun _ hw => (rn_ld Tryd.isAgg3 (off := 0) (o := 2) (S.tm rfl) ((S.blk_mem (i := 0) (cells := [.int .i64 p_d.Year, .int .i64 p_d.Month, .int .i64 p_d.Day]) (b := b1) (T := 75) rfl (ne_nil (e' := .blk b1 [.int .i64 p_d.Year, .int .i64 p_d.Month, .int .i64 p_d.Day] 75))).kept hw) rfl)) ?_; clear S; intro a S
        refine d_quiet_g 13 S hsel rfl rfl rfl rfl hb2 rfl rfl (by kernel_rfl) (by kernel_rfl) rfl (fun _ hw => (rn_fld fa_75_0 (S.tm rfl))) ?_; clear S; intro a S
        refine d_quiet_g 14 S hsel rfl rfl rfl rfl hb2 rfl rfl (by kernel_rfl) (by kernel_rfl) rfl (fun _ hw => (rn_ld Tryd.isAgg3 (off := 0) (o := 0) (S.tm rfl) ((S.blk_mem (i := 0) (cells := [.int .i64 p_d.Year, .int .i64 p_d.Month, .int .i64 p_d.Day]) (b := b1) (T := 75) rfl (ne_nil (e' := .blk b1 [.int .i64 p_d.Year, .int .i64 p_d.Month, .int .i64 p_d.Day] 75))).kept hw) rfl)) ?_; clear S; intro a S
        refine d_quiet_g 15 S hsel rfl rfl rfl rfl hb2 rfl rfl (by kernel_rfl) (by kernel_rfl) rfl (fun _ hw => (rn_fld fa_75_1 (S.tm rfl))) ?_; clear S; intro a S
        refine d_quiet_g 16 S hsel rfl rfl rfl rfl hb2 rfl rfl (by kernel_rfl) (by kernel_rfl) rfl (fun _ hw => (rn_ld Tryd.isAgg3 (off := 0) (o := 1) (S.tm rfl) ((S.blk_mem (i := 0) (cells := [.int .i64 p_d.Year, .int .i64 p_d.Month, .int .i64 p_d.Day]) (b := b1) (T := 75) rfl (ne_nil (e' := .blk b1 [.int .i64 p_d.Year, .int .i64 p_d.Month, .int .i64 p_d.Day] 75))).kept hw) rfl)) ?_; clear S; intro a S
        refine d_loud1 17 (by kernel_rfl) rfl ?_
        refine l_want S rfl rfl rfl hb2 ?_
        refine l_enter S (fun _ => run_call (vs := [.int .i64 p_d.Year, .int .i64 p_d.Month]) ⟨(S.tm rfl), (S.tm rfl), trivial⟩ Tryd.call63) (swimmer_long_ok _ p_d.Year p_d.Month _ rfl) rfl ?_; clear S; intro v9 a w13 hv9 hk12 hn9 S
        subst hv9
        refine l_done ?_
        refine d_next hk12 ?_
        refine d_loud1 18 (by kernel_rfl) rfl ?_
        refine l_want S rfl rfl rfl hb2 ?_
        refine l_enter S (fun _ => run_call (vs := [.int .i64 p_d.Day, .int .i64 1, .int .i64 (swimmer_long p_d.Year p_d.Month)]) ⟨(S.tm rfl), rfl, (S.tm rfl), trivial⟩ Tryd.call54) (words_Within_ok _ p_d.Day 1 (swimmer_long p_d.Year p_d.Month) _ rfl) rfl ?_; clear S; intro v10 a w14 hv10 hk13 hn10 S
        subst hv10
        refine l_done ?_
        refine d_next hk13 ?_
        refine d_rest [19, 20] hsel (by kernel_rfl) rfl ?_
        clear hsel
        refine s_want S rfl rfl rfl rfl hb2 ?_
        refine s_lv0 S (rn_not (S.tm rfl)) rfl ?_; clear S; intro a S
        refine s_lv S rfl (rn_pick_c hb2 (S.tm rfl) (S.tm rfl)) rfl ?_; clear S; intro a S
        refine s_done ?_
        replace S := S.nf (L' := [.blk b1 [.int .i64 p_d.Year, .int .i64 p_d.Month, .int .i64 p_d.Day] 75]) (K' := [(1, .pointer (some ⟨b1, 0, none⟩)), (28, .bool (!(words_Within p_d.Day 1 (swimmer_long p_d.Year p_d.Month))))]) [true] rfl ⟨rfl, rfl, trivial⟩
        refine then_n ?_
        exact ⟨!(words_Within p_d.Day 1 (swimmer_long p_d.Year p_d.Month)), h, S.nf [true] rfl ⟨rfl, rfl, trivial⟩⟩
    · replace h := iteF h hb1
      rcases Bool.eq_false_or_eq_true (!(words_Within p_d.Month 1 12)) with hb3 | hb3
      · replace h := iteT h hb3
        refine d_region [] ([]) Tryd.mixed S rfl (by kernel_rfl) ?_; clear S; intro w19 hk18 hsel S
        refine d_quiet 0 S hsel rfl rfl rfl (by kernel_rfl) (by kernel_rfl) rfl (fun _ hw => (rn_fld fa_75_0 (S.tm rfl))) ?_; clear S; intro a S
        refine d_quiet 1 S hsel rfl rfl rfl (by kernel_rfl) (by kernel_rfl) rfl (fun _ hw => (rn_ld Tryd.isAgg3 (off := 0) (o := 0) (S.tm rfl) ((S.blk_mem (i := 0) (cells := [.int .i64 p_d.Year, .int .i64 p_d.Month, .int .i64 p_d.Day]) (b := b1) (T := 75) rfl (ne_nil (e' := .blk b1 [.int .i64 p_d.Year, .int .i64 p_d.Month, .int .i64 p_d.Day] 75))).kept hw) rfl)) ?_; clear S; intro a S
        refine d_loud1 2 (by kernel_rfl) rfl ?_
        refine l_enter S (fun _ => run_call (vs := [.int .i64 p_d.Year, .int .i64 1900, .int .i64 2100]) ⟨(S.tm rfl), rfl, rfl, trivial⟩ Tryd.call54) (words_Within_ok _ p_d.Year 1900 2100 _ rfl) rfl ?_; clear S; intro v15 a w20 hv15 hk19 hn15 S
        subst hv15
        refine l_done ?_
        refine d_next hk19 ?_
        refine d_quiet 3 S hsel rfl rfl rfl (by kernel_rfl) (by kernel_rfl) rfl (fun _ hw => (rn_not (S.tm rfl))) ?_; clear S; intro a S
        refine d_quiet 4 S hsel rfl rfl rfl (by kernel_rfl) (by kernel_rfl) rfl (fun _ hw => (rn_move (S.tm rfl))) ?_; clear S; intro a S
        refine d_quiet_g 5 S hsel rfl rfl rfl rfl hb1 rfl rfl (by kernel_rfl) (by kernel_rfl) rfl (fun _ hw => (rn_fld fa_75_1 (S.tm rfl))) ?_; clear S; intro a S
        refine d_quiet_g 6 S hsel rfl rfl rfl rfl hb1 rfl rfl (by kernel_rfl) (by kernel_rfl) rfl (fun _ hw => (rn_ld Tryd.isAgg3 (off := 0) (o := 1) (S.tm rfl) ((S.blk_mem (i := 0) (cells := [.int .i64 p_d.Year, .int .i64 p_d.Month, .int .i64 p_d.Day]) (b := b1) (T := 75) rfl (ne_nil (e' := .blk b1 [.int .i64 p_d.Year, .int .i64 p_d.Month, .int .i64 p_d.Day] 75))).kept hw) rfl)) ?_; clear S; intro a S
        refine d_loud1 7 (by kernel_rfl) rfl ?_
        refine l_want S rfl rfl rfl hb1 ?_
        refine l_enter S (fun _ => run_call (vs := [.int .i64 p_d.Month, .int .i64 1, .int .i64 12]) ⟨(S.tm rfl), rfl, rfl, trivial⟩ Tryd.call54) (words_Within_ok _ p_d.Month 1 12 _ rfl) rfl ?_; clear S; intro v16 a w21 hv16 hk20 hn16 S
        subst hv16
        refine l_done ?_
        refine d_next hk20 ?_
        refine d_rest [8, 9, 10, 11, 12, 13, 14, 15, 16, 17, 18, 19, 20] hsel (by kernel_rfl) rfl ?_
        clear hsel
        refine s_want S rfl rfl rfl rfl hb1 ?_
        refine s_lv0 S (rn_not (S.tm rfl)) rfl ?_; clear S; intro a S
        refine s_lv S rfl (rn_pick_c hb1 (S.tm rfl) (S.tm rfl)) rfl ?_; clear S; intro a S
        refine s_lv S rfl (rn_move (S.tm rfl)) rfl ?_; clear S; intro a S
        refine s_skip S rfl rfl rfl rfl (neq_t hb3) rfl ?_ rfl; clear S; intro a S
        refine s_skip S rfl rfl rfl rfl (neq_t hb3) rfl ?_ rfl; clear S; intro a S
        refine s_skip S rfl rfl rfl rfl (neq_t hb3) rfl ?_ rfl; clear S; intro a S
        refine s_skip S rfl rfl rfl rfl (neq_t hb3) rfl ?_ rfl; clear S; intro a S
        refine s_skip S rfl rfl rfl rfl (neq_t hb3) rfl ?_ rfl; clear S; intro a S
        refine s_skip S rfl rfl rfl rfl (neq_t hb3) rfl ?_ rfl; clear S; intro a S
        refine s_skip S rfl rfl rfl rfl (neq_t hb3) rfl ?_ rfl; clear S; intro a S
        refine s_skip S rfl rfl rfl rfl (neq_t hb3) rfl ?_ rfl; clear S; intro a S
        refine s_skip S rfl rfl rfl rfl (neq_t hb3) rfl ?_ rfl; clear S; intro a S
        refine s_lv S rfl (rn_pick_b hb3 (S.tm rfl) rfl) rfl ?_; clear S; intro a S
        refine s_done ?_
        replace S := S.nf (L' := [.blk b1 [.int .i64 p_d.Year, .int .i64 p_d.Month, .int .i64 p_d.Day] 75]) (K' := [(1, .pointer (some ⟨b1, 0, none⟩)), (28, .bool true)]) [true] rfl ⟨rfl, rfl, trivial⟩
        refine then_n ?_
        exact ⟨true, h, S.nf [true] rfl ⟨rfl, rfl, trivial⟩⟩
      · replace h := iteF h hb3
        refine d_region [] ([]) Tryd.mixed S rfl (by kernel_rfl) ?_; clear S; intro w26 hk25 hsel S
        refine d_quiet 0 S hsel rfl rfl rfl (by kernel_rfl) (by kernel_rfl) rfl (fun _ hw => (rn_fld fa_75_0 (S.tm rfl))) ?_; clear S; intro a S
        refine d_quiet 1 S hsel rfl rfl rfl (by kernel_rfl) (by kernel_rfl) rfl (fun _ hw => (rn_ld Tryd.isAgg3 (off := 0) (o := 0) (S.tm rfl) ((S.blk_mem (i := 0) (cells := [.int .i64 p_d.Year, .int .i64 p_d.Month, .int .i64 p_d.Day]) (b := b1) (T := 75) rfl (ne_nil (e' := .blk b1 [.int .i64 p_d.Year, .int .i64 p_d.Month, .int .i64 p_d.Day] 75))).kept hw) rfl)) ?_; clear S; intro a S
        refine d_loud1 2 (by kernel_rfl) rfl ?_
        refine l_enter S (fun _ => run_call (vs := [.int .i64 p_d.Year, .int .i64 1900, .int .i64 2100]) ⟨(S.tm rfl), rfl, rfl, trivial⟩ Tryd.call54) (words_Within_ok _ p_d.Year 1900 2100 _ rfl) rfl ?_; clear S; intro v21 a w27 hv21 hk26 hn21 S
        subst hv21
        refine l_done ?_
        refine d_next hk26 ?_
        refine d_quiet 3 S hsel rfl rfl rfl (by kernel_rfl) (by kernel_rfl) rfl (fun _ hw => (rn_not (S.tm rfl))) ?_; clear S; intro a S
        refine d_quiet 4 S hsel rfl rfl rfl (by kernel_rfl) (by kernel_rfl) rfl (fun _ hw => (rn_move (S.tm rfl))) ?_; clear S; intro a S
        refine d_quiet_g 5 S hsel rfl rfl rfl rfl hb1 rfl rfl (by kernel_rfl) (by kernel_rfl) rfl (fun _ hw => (rn_fld fa_75_1 (S.tm rfl))) ?_; clear S; intro a S
        refine d_quiet_g 6 S hsel rfl rfl rfl rfl hb1 rfl rfl (by kernel_rfl) (by kernel_rfl) rfl (fun _ hw => (rn_ld Tryd.isAgg3 (off := 0) (o := 1) (S.tm rfl) ((S.blk_mem (i := 0) (cells := [.int .i64 p_d.Year, .int .i64 p_d.Month, .int .i64 p_d.Day]) (b := b1) (T := 75) rfl (ne_nil (e' := .blk b1 [.int .i64 p_d.Year, .int .i64 p_d.Month, .int .i64 p_d.Day] 75))).kept hw) rfl)) ?_; clear S; intro a S
        refine d_loud1 7 (by kernel_rfl) rfl ?_
        refine l_want S rfl rfl rfl hb1 ?_
        refine l_enter S (fun _ => run_call (vs := [.int .i64 p_d.Month, .int .i64 1, .int .i64 12]) ⟨(S.tm rfl), rfl, rfl, trivial⟩ Tryd.call54) (words_Within_ok _ p_d.Month 1 12 _ rfl) rfl ?_; clear S; intro v22 a w28 hv22 hk27 hn22 S
        subst hv22
        refine l_done ?_
        refine d_next hk27 ?_
        refine d_quiet_g 8 S hsel rfl rfl rfl rfl hb1 rfl rfl (by kernel_rfl) (by kernel_rfl) rfl (fun _ hw => (rn_not (S.tm rfl))) ?_; clear S; intro a S
        refine d_quiet 9 S hsel rfl rfl rfl (by kernel_rfl) (by kernel_rfl) rfl (fun _ hw => (rn_pick_c hb1 (S.tm rfl) (S.tm rfl))) ?_; clear S; intro a S
        refine d_quiet 10 S hsel rfl rfl rfl (by kernel_rfl) (by kernel_rfl) rfl (fun _ hw => (rn_move (S.tm rfl))) ?_; clear S; intro a S
        refine d_quiet_g 11 S hsel rfl rfl rfl rfl hb3 rfl rfl (by kernel_rfl) (by kernel_rfl) rfl (fun _ hw => (rn_fld fa_75_2 (S.tm rfl))) ?_; clear S; intro a S
        refine d_quiet_g 12 S hsel rfl rfl rfl rfl hb3 rfl rfl (by kernel_rfl) (by kernel_rfl) rfl (fun _ hw => (rn_ld Tryd.isAgg3 (off := 0) (o := 2) (S.tm rfl) ((S.blk_mem (i := 0) (cells := [.int .i64 p_d.Year, .int .i64 p_d.Month, .int .i64 p_d.Day]) (b := b1) (T := 75) rfl (ne_nil (e' := .blk b1 [.int .i64 p_d.Year, .int .i64 p_d.Month, .int .i64 p_d.Day] 75))).kept hw) rfl)) ?_; clear S; intro a S
        refine d_quiet_g 13 S hsel rfl rfl rfl rfl hb3 rfl rfl (by kernel_rfl) (by kernel_rfl) rfl (fun _ hw => (rn_fld fa_75_0 (S.tm rfl))) ?_; clear S; intro a S
        refine d_quiet_g 14 S hsel rfl rfl rfl rfl hb3 rfl rfl (by kernel_rfl) (by kernel_rfl) rfl (fun _ hw => (rn_ld Tryd.isAgg3 (off := 0) (o := 0) (S.tm rfl) ((S.blk_mem (i := 0) (cells := [.int .i64 p_d.Year, .int .i64 p_d.Month, .int .i64 p_d.Day]) (b := b1) (T := 75) rfl (ne_nil (e' := .blk b1 [.int .i64 p_d.Year, .int .i64 p_d.Month, .int .i64 p_d.Day] 75))).kept hw) rfl)) ?_; clear S; intro a S
        refine d_quiet_g 15 S hsel rfl rfl rfl rfl hb3 rfl rfl (by kernel_rfl) (by kernel_rfl) rfl (fun _ hw => (rn_fld fa_75_1 (S.tm rfl))) ?_; clear S; intro a S
        refine d_quiet_g 16 S hsel rfl rfl rfl rfl hb3 rfl rfl (by kernel_rfl) (by kernel_rfl) rfl (fun _ hw => (rn_ld Tryd.isAgg3 (off := 0) (o := 1) (S.tm rfl) ((S.blk_mem (i := 0) (cells := [.int .i64 p_d.Year, .int .i64 p_d.Month, .int .i64 p_d.Day]) (b := b1) (T := 75) rfl (ne_nil (e' := .blk b1 [.int .i64 p_d.Year, .int .i64 p_d.Month, .int .i64 p_d.Day] 75))).kept hw) rfl)) ?_; clear S; intro a S
        refine d_loud1 17 (by kernel_rfl) rfl ?_
        refine l_want S rfl rfl rfl hb3 ?_
        refine l_enter S (fun _ => run_call (vs := [.int .i64 p_d.Year, .int .i64 p_d.Month]) ⟨(S.tm rfl), (S.tm rfl), trivial⟩ Tryd.call63) (swimmer_long_ok _ p_d.Year p_d.Month _ rfl) rfl ?_; clear S; intro v23 a w29 hv23 hk28 hn23 S
        subst hv23
        refine l_done ?_
        refine d_next hk28 ?_
        refine d_loud1 18 (by kernel_rfl) rfl ?_
        refine l_want S rfl rfl rfl hb3 ?_
        refine l_enter S (fun _ => run_call (vs := [.int .i64 p_d.Day, .int .i64 1, .int .i64 (swimmer_long p_d.Year p_d.Month)]) ⟨(S.tm rfl), rfl, (S.tm rfl), trivial⟩ Tryd.call54) (words_Within_ok _ p_d.Day 1 (swimmer_long p_d.Year p_d.Month) _ rfl) rfl ?_; clear S; intro v24 a w30 hv24 hk29 hn24 S
        subst hv24
        refine l_done ?_
        refine d_next hk29 ?_
        refine d_rest [19, 20] hsel (by kernel_rfl) rfl ?_
        clear hsel
        refine s_want S rfl rfl rfl rfl hb3 ?_
        refine s_lv0 S (rn_not (S.tm rfl)) rfl ?_; clear S; intro a S
        refine s_lv S rfl (rn_pick_c hb3 (S.tm rfl) (S.tm rfl)) rfl ?_; clear S; intro a S
        refine s_done ?_
        replace S := S.nf (L' := [.blk b1 [.int .i64 p_d.Year, .int .i64 p_d.Month, .int .i64 p_d.Day] 75]) (K' := [(1, .pointer (some ⟨b1, 0, none⟩)), (28, .bool (!(words_Within p_d.Day 1 (swimmer_long p_d.Year p_d.Month))))]) [true] rfl ⟨rfl, rfl, trivial⟩
        refine then_n ?_
        exact ⟨!(words_Within p_d.Day 1 (swimmer_long p_d.Year p_d.Month)), h, S.nf [true] rfl ⟨rfl, rfl, trivial⟩⟩
  clear S h; rintro a w2 ⟨x1, h, S⟩; rw [hj1] at h; clear hj1 j1
  refine then_n ?_
  refine f_cond (S.tm rfl) (fun hb4 => ?_) (fun hb4 => ?_)
  · replace h := iteT h hb4
    refine f_seq ?_
    refine f_region ?_
    refine lv S (rn_assign rfl) rfl ?_; clear S; intro a S
    refine lv S (rn_assign rfl) rfl ?_; clear S; intro a S
    refine l_done ?_
    replace S := S.nf (L' := []) (K' := [(2, .int .i64 0), (3, .int .i64 1)]) [false] rfl ⟨rfl, rfl, trivial⟩
    refine then_n ?_
    refine wp_ret ?_
    refine then_r ?_
    obtain rfl := Option.some.inj h
    exact f_ret2 S Tryd.results47 rfl rfl rfl
  · replace h := iteF h hb4
    refine wp_skip ?_
    refine then_n ?_
    refine f_seq ?_
    refine f_region ?_
    refine lv S (rn_fld fa_75_2 (S.tm rfl)) rfl ?_; clear S; intro a S
    refine lv S (rn_load Tryd.isAgg3 (S.tm rfl) (S.cell (i := 0) rfl rfl)) rfl ?_; clear S; intro a S
    refine lv S (rn_sub (S.tm rfl) rfl) rfl ?_; clear S; intro a S
    refine lv S (rn_assign (S.tm rfl)) rfl ?_; clear S; intro a S
    refine l_done ?_
    replace S := S.nf (L' := [.blk b1 [.int .i64 p_d.Year, .int .i64 p_d.Month, .int .i64 p_d.Day] 75]) (K' := [(1, .pointer (some ⟨b1, 0, none⟩)), (4, .int .i64 (W (p_d.Day - 1)))]) [true] rfl ⟨rfl, rfl, trivial⟩
    refine then_n ?_
    refine f_seq ?_
    refine f_seq ?_
    refine f_region ?_
    refine lv S (rn_assign rfl) rfl ?_; clear S; intro a S
    refine l_done ?_
    replace S := S.nf (L' := [.blk b1 [.int .i64 p_d.Year, .int .i64 p_d.Month, .int .i64 p_d.Day] 75]) (K' := [(1, .pointer (some ⟨b1, 0, none⟩)), (4, .int .i64 (W (p_d.Day - 1))), (5, .int .i64 1)]) [true] rfl ⟨rfl, rfl, rfl, trivial⟩
    refine then_n ?_
    obtain ⟨j2, hj2, h⟩ := joinE h
    refine f_join (fun a w' => ∃ x2 : Int, j2 x2 = some r ∧ Sx w [] nov [.blk b1 [.int .i64 p_d.Year, .int .i64 p_d.Month, .int .i64 p_d.Day] 75] [(1, .pointer (some ⟨b1, 0, none⟩)), (4, .int .i64 x2)] 68 a w') ?_ ?_
    · refine wp_block ?_
      refine f_loop (fun (m1 : Nat) a w' => ∃ x2 : Int, ∃ x3 : Int, swimmer_DayOf_l1 p_d j2 m1 x2 x3 = some r ∧ Sx w [] nov [.blk b1 [.int .i64 p_d.Year, .int .i64 p_d.Month, .int .i64 p_d.Day] 75] [(1, .pointer (some ⟨b1, 0, none⟩)), (4, .int .i64 x2), (5, .int .i64 x3)] 68 a w') id ((p_d.Month - 1).toNat + 2) ⟨W (p_d.Day - 1), 1, h, S.nf [true] rfl ⟨rfl, rfl, rfl, trivial⟩⟩ ?_
      clear S h; rintro m1 a w31 ⟨x2, x3, h, S⟩
      cases m1 with
      | zero => rw [swimmer_DayOf_l1.eq_1] at h; cases h
      | succ m1 =>
        rw [swimmer_DayOf_l1.eq_2] at h
        refine f_seq ?_
        refine f_seq ?_
        refine f_region ?_
        refine lv S (rn_move (S.tm rfl)) rfl ?_; clear S; intro a S
        refine lv S (rn_fld fa_75_1 (S.tm rfl)) rfl ?_; clear S; intro a S
        refine lv S (rn_load Tryd.isAgg3 (S.tm rfl) (S.cell (i := 0) rfl rfl)) rfl ?_; clear S; intro a S
        refine lv S (rn_lss (S.tm rfl) (S.tm rfl)) rfl ?_; clear S; intro a S
        refine l_done ?_
        replace S := S.nf (L' := [.blk b1 [.int .i64 p_d.Year, .int .i64 p_d.Month, .int .i64 p_d.Day] 75]) (K' := [(1, .pointer (some ⟨b1, 0, none⟩)), (4, .int .i64 x2), (5, .int .i64 x3), (35, .bool (decide (x3 < p_d.Month)))]) [true] rfl ⟨rfl, rfl, rfl, rfl, trivial⟩
        refine then_n ?_
        refine f_cond (S.tm rfl) (fun hb5 => ?_) (fun hb5 => ?_)
        · replace h := iteT h hb5
          refine wp_skip ?_
          refine then_n ?_
          refine f_seq ?_
          refine wp_block ?_
          refine f_region ?_
          refine lv S (rn_move (S.tm rfl)) rfl ?_; clear S; intro a S
          refine lv S (rn_fld fa_75_0 (S.tm rfl)) rfl ?_; clear S; intro a S
          refine lv S (rn_load Tryd.isAgg3 (S.tm rfl) (S.cell (i := 0) rfl rfl)) rfl ?_; clear S; intro a S
          refine lv S (rn_move (S.tm rfl)) rfl ?_; clear S; intro a S
          refine l_enter S (fun _ => run_call (vs := [.int .i64 p_d.Year, .int .i64 x3]) ⟨(S.tm rfl), (S.tm rfl), trivial⟩ Tryd.call63) (swimmer_long_ok _ p_d.Year x3 _ rfl) rfl ?_; clear S; intro v25 a w33 hv25 hk30 hn25 S
          subst hv25
          refine lv S (rn_add (S.tm rfl) (S.tm rfl)) rfl ?_; clear S; intro a S
          refine lv S (rn_assign (S.tm rfl)) rfl ?_; clear S; intro a S
          refine l_done ?_
          replace S := S.nf (L' := [.blk b1 [.int .i64 p_d.Year, .int .i64 p_d.Month, .int .i64 p_d.Day] 75]) (K' := [(1, .pointer (some ⟨b1, 0, none⟩)), (4, .int .i64 (W (x2 + (swimmer_long p_d.Year x3)))), (5, .int .i64 x3)]) [true] rfl ⟨rfl, rfl, rfl, trivial⟩
          refine blk_n ?_
          refine then_n ?_
          refine f_region ?_
          refine lv S (rn_move (S.tm rfl)) rfl ?_; clear S; intro a S
          refine lv S (rn_add (S.tm rfl) rfl) rfl ?_; clear S; intro a S
          refine lv S (rn_assign (S.tm rfl)) rfl ?_; clear S; intro a S
          refine l_done ?_
          replace S := S.nf (L' := [.blk b1 [.int .i64 p_d.Year, .int .i64 p_d.Month, .int .i64 p_d.Day] 75]) (K' := [(1, .pointer (some ⟨b1, 0, none⟩)), (4, .int .i64 (W (x2 + (swimmer_long p_d.Year x3)))), (5, .int .i64 (W (x3 + 1)))]) [true] rfl ⟨rfl, rfl, rfl, trivial⟩
          refine then_n ?_
          exact ⟨m1, ⟨W (x2 + (swimmer_long p_d.Year x3)), W (x3 + 1), h, S.nf [true] rfl ⟨rfl, rfl, rfl, trivial⟩⟩, Nat.lt_succ_self _⟩
        · replace h := iteF h hb5
          refine wp_exit ?_
          refine then_x ?_
          refine then_x ?_
          refine x_same ?_
          refine then_n ?_
          exact ⟨x2, h, S.nf [true] rfl ⟨rfl, rfl, trivial⟩⟩
    clear S h; rintro a w32 ⟨x2, h, S⟩; rw [hj2] at h; clear hj2 j2
    refine then_n ?_
    refine f_seq ?_
    refine f_seq ?_
    refine f_region ?_
    refine lv S (rn_assign rfl) rfl ?_; clear S; intro a S
    refine l_done ?_
    replace S := S.nf (L' := [.blk b1 [.int .i64 p_d.Year, .int .i64 p_d.Month, .int .i64 p_d.Day] 75]) (K' := [(1, .pointer (some ⟨b1, 0, none⟩)), (4, .int .i64 x2), (6, .int .i64 2024)]) [true] rfl ⟨rfl, rfl, rfl, trivial⟩
    refine then_n ?_
    obtain ⟨j3, hj3, h⟩ := joinE h
    refine f_join (fun a w' => ∃ x4 : Int, j3 x4 = some r ∧ Sx w [] nov [.blk b1 [.int .i64 p_d.Year, .int .i64 p_d.Month, .int .i64 p_d.Day] 75] [(1, .pointer (some ⟨b1, 0, none⟩)), (4, .int .i64 x4)] 68 a w') ?_ ?_
    · refine wp_block ?_
      refine f_loop (fun (m2 : Nat) a w' => ∃ x4 : Int, ∃ x5 : Int, swimmer_DayOf_l2 p_d j3 m2 x4 x5 = some r ∧ Sx w [] nov [.blk b1 [.int .i64 p_d.Year, .int .i64 p_d.Month, .int .i64 p_d.Day] 75] [(1, .pointer (some ⟨b1, 0, none⟩)), (4, .int .i64 x4), (6, .int .i64 x5)] 68 a w') id ((p_d.Year - 2024).toNat + 2) ⟨x2, 2024, h, S.nf [true] rfl ⟨rfl, rfl, rfl, trivial⟩⟩ ?_
      clear S h; rintro m2 a w34 ⟨x4, x5, h, S⟩
      cases m2 with
      | zero => rw [swimmer_DayOf_l2.eq_1] at h; cases h
      | succ m2 =>
        rw [swimmer_DayOf_l2.eq_2] at h
        refine f_seq ?_
        refine f_seq ?_
        refine f_region ?_
        refine lv S (rn_move (S.tm rfl)) rfl ?_; clear S; intro a S
        refine lv S (rn_fld fa_75_0 (S.tm rfl)) rfl ?_; clear S; intro a S
        refine lv S (rn_load Tryd.isAgg3 (S.tm rfl) (S.cell (i := 0) rfl rfl)) rfl ?_; clear S; intro a S
        refine lv S (rn_lss (S.tm rfl) (S.tm rfl)) rfl ?_; clear S; intro a S
        refine l_done ?_
        replace S := S.nf (L' := [.blk b1 [.int .i64 p_d.Year, .int .i64 p_d.Month, .int .i64 p_d.Day] 75]) (K' := [(1, .pointer (some ⟨b1, 0, none⟩)), (4, .int .i64 x4), (6, .int .i64 x5), (47, .bool (decide (x5 < p_d.Year)))]) [true] rfl ⟨rfl, rfl, rfl, rfl, trivial⟩
        refine then_n ?_
        refine f_cond (S.tm rfl) (fun hb6 => ?_) (fun hb6 => ?_)
        · replace h := iteT h hb6
          refine wp_skip ?_
          refine then_n ?_
          refine f_seq ?_
          refine wp_block ?_
          refine f_region ?_
          refine lv S (rn_move (S.tm rfl)) rfl ?_; clear S; intro a S
          refine lv S (rn_move (S.tm rfl)) rfl ?_; clear S; intro a S
          refine l_enter S (fun _ => run_call (vs := [.int .i64 x5]) ⟨(S.tm rfl), trivial⟩ Tryd.call64) (swimmer_yearLong_ok _ x5 _ rfl) rfl ?_; clear S; intro v26 a w36 hv26 hk31 hn26 S
          subst hv26
          refine lv S (rn_add (S.tm rfl) (S.tm rfl)) rfl ?_; clear S; intro a S
          refine lv S (rn_assign (S.tm rfl)) rfl ?_; clear S; intro a S
          refine l_done ?_
          replace S := S.nf (L' := [.blk b1 [.int .i64 p_d.Year, .int .i64 p_d.Month, .int .i64 p_d.Day] 75]) (K' := [(1, .pointer (some ⟨b1, 0, none⟩)), (4, .int .i64 (W (x4 + (swimmer_yearLong x5)))), (6, .int .i64 x5)]) [true] rfl ⟨rfl, rfl, rfl, trivial⟩
          refine blk_n ?_
          refine then_n ?_
          refine f_region ?_
          refine lv S (rn_move (S.tm rfl)) rfl ?_; clear S; intro a S
          refine lv S (rn_add (S.tm rfl) rfl) rfl ?_; clear S; intro a S
          refine lv S (rn_assign (S.tm rfl)) rfl ?_; clear S; intro a S
          refine l_done ?_
          replace S := S.nf (L' := [.blk b1 [.int .i64 p_d.Year, .int .i64 p_d.Month, .int .i64 p_d.Day] 75]) (K' := [(1, .pointer (some ⟨b1, 0, none⟩)), (4, .int .i64 (W (x4 + (swimmer_yearLong x5)))), (6, .int .i64 (W (x5 + 1)))]) [true] rfl ⟨rfl, rfl, rfl, trivial⟩
          refine then_n ?_
          exact ⟨m2, ⟨W (x4 + (swimmer_yearLong x5)), W (x5 + 1), h, S.nf [true] rfl ⟨rfl, rfl, rfl, trivial⟩⟩, Nat.lt_succ_self _⟩
        · replace h := iteF h hb6
          refine wp_exit ?_
          refine then_x ?_
          refine then_x ?_
          refine x_same ?_
          refine then_n ?_
          exact ⟨x4, h, S.nf [true] rfl ⟨rfl, rfl, trivial⟩⟩
    clear S h; rintro a w35 ⟨x4, h, S⟩; rw [hj3] at h; clear hj3 j3
    refine then_n ?_
    refine f_seq ?_
    refine f_seq ?_
    refine f_region ?_
    refine lv S (rn_fld fa_75_0 (S.tm rfl)) rfl ?_; clear S; intro a S
    refine lv S (rn_load Tryd.isAgg3 (S.tm rfl) (S.cell (i := 0) rfl rfl)) rfl ?_; clear S; intro a S
    refine lv S (rn_assign (S.tm rfl)) rfl ?_; clear S; intro a S
    refine l_done ?_
    replace S := S.nf (L' := []) (K' := [(4, .int .i64 x4), (7, .int .i64 p_d.Year)]) [false] rfl ⟨rfl, rfl, trivial⟩
    refine then_n ?_
    obtain ⟨j4, hj4, h⟩ := joinE h
    refine f_join (fun a w' => ∃ x6 : Int, j4 x6 = some r ∧ Sx w [] nov [] [(4, .int .i64 x6)] 68 a w') ?_ ?_
    · refine wp_block ?_
      refine f_loop (fun (m3 : Nat) a w' => ∃ x6 : Int, ∃ x7 : Int, swimmer_DayOf_l3 j4 m3 x6 x7 = some r ∧ Sx w [] nov [] [(4, .int .i64 x6), (7, .int .i64 x7)] 68 a w') id ((2024 - p_d.Year).toNat + 2) ⟨x4, p_d.Year, h, S.nf [] rfl ⟨rfl, rfl, trivial⟩⟩ ?_
      clear S h; rintro m3 a w37 ⟨x6, x7, h, S⟩
      cases m3 with
      | zero => rw [swimmer_DayOf_l3.eq_1] at h; cases h
      | succ m3 =>
        rw [swimmer_DayOf_l3.eq_2] at h
        refine f_seq ?_
        refine f_seq ?_
        refine f_region ?_
        refine lv S (rn_move (S.tm rfl)) rfl ?_; clear S; intro a S
        refine lv S (rn_lss (S.tm rfl) rfl) rfl ?_; clear S; intro a S
        refine l_done ?_
        replace S := S.nf (L' := []) (K' := [(4, .int .i64 x6), (7, .int .i64 x7), (57, .bool (decide (x7 < 2024)))]) [] rfl ⟨rfl, rfl, rfl, trivial⟩
        refine then_n ?_
        refine f_cond (S.tm rfl) (fun hb7 => ?_) (fun hb7 => ?_)
        · replace h := iteT h hb7
          refine wp_skip ?_
          refine then_n ?_
          refine f_seq ?_
          refine wp_block ?_
          refine f_region ?_
          refine lv S (rn_move (S.tm rfl)) rfl ?_; clear S; intro a S
          refine lv S (rn_move (S.tm rfl)) rfl ?_; clear S; intro a S
          refine l_enter S (fun _ => run_call (vs := [.int .i64 x7]) ⟨(S.tm rfl), trivial⟩ Tryd.call64) (swimmer_yearLong_ok _ x7 _ rfl) rfl ?_; clear S; intro v27 a w39 hv27 hk32 hn27 S
          subst hv27
          refine lv S (rn_sub (S.tm rfl) (S.tm rfl)) rfl ?_; clear S; intro a S
          refine lv S (rn_assign (S.tm rfl)) rfl ?_; clear S; intro a S
          refine l_done ?_
          replace S := S.nf (L' := []) (K' := [(4, .int .i64 (W (x6 - (swimmer_yearLong x7)))), (7, .int .i64 x7)]) [] rfl ⟨rfl, rfl, trivial⟩
          refine blk_n ?_
          refine then_n ?_
          refine f_region ?_
          refine lv S (rn_move (S.tm rfl)) rfl ?_; clear S; intro a S
          refine lv S (rn_add (S.tm rfl) rfl) rfl ?_; clear S; intro a S
          refine lv S (rn_assign (S.tm rfl)) rfl ?_; clear S; intro a S
          refine l_done ?_
          replace S := S.nf (L' := []) (K' := [(4, .int .i64 (W (x6 - (swimmer_yearLong x7)))), (7, .int .i64 (W (x7 + 1)))]) [] rfl ⟨rfl, rfl, trivial⟩
          refine then_n ?_
          exact ⟨m3, ⟨W (x6 - (swimmer_yearLong x7)), W (x7 + 1), h, S.nf [] rfl ⟨rfl, rfl, trivial⟩⟩, Nat.lt_succ_self _⟩
        · replace h := iteF h hb7
          refine wp_exit ?_
          refine then_x ?_
          refine then_x ?_
          refine x_same ?_
          refine then_n ?_
          exact ⟨x6, h, S.nf [] rfl ⟨rfl, trivial⟩⟩
    clear S h; rintro a w38 ⟨x6, h, S⟩; rw [hj4] at h; clear hj4 j4
    refine then_n ?_
    refine f_seq ?_
    refine f_seq ?_
    refine f_region ?_
    refine lv S (rn_move (S.tm rfl)) rfl ?_; clear S; intro a S
    refine l_enter S (fun _ => run_call (vs := [.int .i64 x6]) ⟨(S.tm rfl), trivial⟩ Tryd.call36) (swimmer_isDay_ok _ x6 _ rfl) rfl ?_; clear S; intro v28 a w40 hv28 hk33 hn28 S
    subst hv28
    refine lv S (rn_not (S.tm rfl)) rfl ?_; clear S; intro a S
    refine l_done ?_
    replace S := S.nf (L' := []) (K' := [(4, .int .i64 x6), (66, .bool (!(swimmer_isDay x6)))]) [] rfl ⟨rfl, rfl, trivial⟩
    refine then_n ?_
    refine f_cond (S.tm rfl) (fun hb8 => ?_) (fun hb8 => ?_)
    · replace h := iteT h hb8
      refine f_seq ?_
      refine f_region ?_
      refine lv S (rn_assign rfl) rfl ?_; clear S; intro a S
      refine lv S (rn_assign rfl) rfl ?_; clear S; intro a S
      refine l_done ?_
      replace S := S.nf (L' := []) (K' := [(2, .int .i64 0), (3, .int .i64 1)]) [] rfl ⟨rfl, rfl, trivial⟩
      refine then_n ?_
      refine wp_ret ?_
      refine then_r ?_
      obtain rfl := Option.some.inj h
      exact f_ret2 S Tryd.results47 rfl rfl rfl
    · replace h := iteF h hb8
      refine wp_skip ?_
      refine then_n ?_
      refine f_seq ?_
      refine f_region ?_
      refine lv S (rn_move (S.tm rfl)) rfl ?_; clear S; intro a S
      refine lv S (rn_assign (S.tm rfl)) rfl ?_; clear S; intro a S
      refine lv S (rn_assign rfl) rfl ?_; clear S; intro a S
      refine l_done ?_
      replace S := S.nf (L' := []) (K' := [(2, .int .i64 x6), (3, .int .i64 0)]) [] rfl ⟨rfl, rfl, trivial⟩
      refine then_n ?_
      refine wp_ret ?_
      obtain rfl := Option.some.inj h
      exact f_ret2 S Tryd.results47 rfl rfl rfl
theorem tumblaw2_dated_ok (w : World) (r : Bool) (h : tumblaw2_dated = some r) :
    Calls Tryd.prog 25 [].toArray w (Ret w [] fun τ v w' => v = .bool r) := by
  refine f_enter [] [] Tryd.func25 rfl Tryd.ntmps25 rfl (by simp) (by simp [fps]) (by simp [fps]) fun a S => ?_
  unfold tumblaw2_dated at h
  replace S := S.nf (L' := []) (K' := []) [] rfl trivial
  refine f_seq ?_
  refine f_region ?_
  refine lv S (rn_assign rfl) rfl ?_; clear S; intro a S
  refine l_done ?_
  replace S := S.nf (L' := []) (K' := []) [] rfl trivial
  refine then_n ?_
  refine f_seq ?_
  refine f_region ?_
  refine lv S (rn_bld bt_75 (pv := [(0, .int .i64 2024), (1, .int .i64 3), (2, .int .i64 1)]) ⟨rfl, rfl, rfl, rfl, rfl, rfl, trivial⟩ (cs := [.int .i64 2024, .int .i64 3, .int .i64 1]) (by kernel_rfl)) rfl ?_; clear S; intro a S
  obtain ⟨r1, hr1, h⟩ := bindE h
  refine l_enter S (fun _ => run_call (vs := [.agg (GDate.enc (GDate.mk 2024 3 1)).toArray]) ⟨(S.tm rfl), trivial⟩ Tryd.call47) (swimmer_DayOf_ok _ (GDate.mk 2024 3 1) _ hr1) rfl ?_; clear S; intro v1 a w1 hv1 hk1 hn1 S
  subst hv1
  refine lv S (rn_move (S.tm rfl)) rfl ?_; clear S; intro a S
  refine lv S (rn_extract (S.tm rfl) rfl) rfl ?_; clear S; intro a S
  refine lv S (rn_extract (S.tm rfl) rfl) rfl ?_; clear S; intro a S
  refine lv S (rn_assign (S.tm rfl)) rfl ?_; clear S; intro a S
  refine lv S (rn_assign (S.tm rfl)) rfl ?_; clear S; intro a S
  refine l_done ?_
  replace S := S.nf (L' := []) (K' := [(1, .int .i64 r1.1), (2, .int .i64 r1.2)]) [] rfl ⟨rfl, rfl, trivial⟩
  refine then_n ?_
  refine f_seq ?_
  refine f_region ?_
  refine lv S (rn_move (S.tm rfl)) rfl ?_; clear S; intro a S
  refine lv S (rn_eql (S.tm rfl) rfl) rfl ?_; clear S; intro a S
  refine lv S (rn_move (S.tm rfl)) rfl ?_; clear S; intro a S
  refine f_cutm 3 (fun a w' => Keep [] w1 w' ∧ Sx w [] nov [] [(13, .bool ((decide (r1.2 = 0)) && (decide (r1.1 = 60))))] 14 a w') ?_ ?_
  · rcases Bool.eq_false_or_eq_true (decide (r1.2 = 0)) with hb1 | hb1
    · refine l_want S rfl rfl rfl hb1 ?_
      refine lv S (rn_move (S.tm rfl)) rfl ?_; clear S; intro a S
      refine l_want S rfl rfl rfl hb1 ?_
      refine lv S (rn_eql (S.tm rfl) rfl) rfl ?_; clear S; intro a S
      refine lv S (rn_and_t hb1 (S.tm rfl) (S.tm rfl)) rfl ?_; clear S; intro a S
      refine l_done ?_
      refine then_n ?_
      exact ⟨Keep.refl _ _, S.nf [] rfl ⟨rfl, trivial⟩⟩
    · refine l_skip S rfl rfl rfl (neq_f hb1) rfl ?_ rfl; clear S; intro a S
      refine l_skip S rfl rfl rfl (neq_f hb1) rfl ?_ rfl; clear S; intro a S
      refine lv S (rn_and_f (decide (r1.1 = 60)) hb1 (S.tm rfl) rfl) rfl ?_; clear S; intro a S
      refine l_done ?_
      refine then_n ?_
      exact ⟨Keep.refl _ _, S.nf [] rfl ⟨rfl, trivial⟩⟩
  clear S; rintro a w2 ⟨hk2, S⟩
  refine lv S (rn_assign (S.tm rfl)) rfl ?_; clear S; intro a S
  refine l_done ?_
  replace S := S.nf (L' := []) (K' := [(0, .bool ((decide (r1.2 = 0)) && (decide (r1.1 = 60))))]) [] rfl ⟨rfl, trivial⟩
  refine then_n ?_
  refine wp_ret ?_
  obtain rfl := Option.some.inj h
  exact f_ret S Tryd.results25 rfl rfl
set_option maxRecDepth 20000 in
theorem tumblaw2_ClubsMoves_ok (w : World) (v_p_l : Value) (p_l : List Int) (hs_p_l : Slc (view w []) 1 v_p_l (p_l.map eInt)) (r : Bool) (h : tumblaw2_ClubsMoves p_l = some r) :
    Calls Tryd.prog 3 [v_p_l].toArray w (Ret w [] fun τ v w' => v = .bool r) := by
  refine f_enter [] [] Tryd.func3 rfl Tryd.ntmps3 rfl (by simp) (by simp [fps]) (by simp [fps]) fun a S => ?_
  unfold tumblaw2_ClubsMoves at h
  replace S := S.nf (L' := []) (K' := [(0, v_p_l)]) [] rfl ⟨rfl, trivial⟩
  refine f_seq ?_
  refine f_region ?_
  refine lv S (rn_assign rfl) rfl ?_; clear S; intro a S
  refine l_done ?_
  replace S := S.nf (L' := []) (K' := [(0, v_p_l)]) [] rfl ⟨rfl, trivial⟩
  refine then_n ?_
  refine f_seq ?_
  refine f_region ?_
  refine lv S (rn_move (S.tm rfl)) rfl ?_; clear S; intro a S
  refine lv S (rn_bld bt_25 (pv := [(0, v_p_l)]) ⟨rfl, (S.tm rfl), trivial⟩ (cs := [v_p_l, .int .i64 0]) (by obtain ⟨_, _, hv⟩ := (slc_len hs_p_l); rw [hv]; clear hv; kernel_rfl)) rfl ?_; clear S; intro a S
  refine l_box S (S.tm rfl) (cs := [v_p_l, .int .i64 0]) rfl rfl ?_; clear S; intro a w1 b1 hz1 hk1 S
  refine lv S (rn_assign (S.tm rfl)) rfl ?_; clear S; intro a S
  refine l_done ?_
  replace S := S.nf (L' := [.blk b1 [v_p_l, .int .i64 0] 25]) (K' := [(3, .pointer (some ⟨b1, 0, none⟩))]) [true] rfl ⟨rfl, trivial⟩
  refine then_n ?_
  refine f_seq ?_
  refine f_region ?_
  refine lv S (rn_move (S.tm rfl)) rfl ?_; clear S; intro a S
  obtain ⟨r1, hr1, h⟩ := bindE h
  have hz2 := S.keep.size
  refine l_enter1 0 S (b := b1) rfl rfl (fun _ => .blk b1 [v_p_l, .int .i64 r1.2] 25) (fun _ => run_call (vs := [.pointer (some ⟨b1, 0, none⟩)]) ⟨(S.tm rfl), trivial⟩ Tryd.call4) (Stream_Moves_ok _ b1 v_p_l p_l (hs_p_l.mono (S.le_arg (fp_sub (i := 0) (e := .blk b1 [v_p_l, .int .i64 0] 25) rfl))) 0 (S.holds _ (List.mem_of_getElem? (i := 0) rfl)) _ hr1) rfl (fun _ _ _ h => ⟨h.1, fun _ hc => by cases hc; rfl⟩) ?_; clear S; intro v1 a w2 hv1 hk2 hn1 S
  replace hv1 := hv1.2
  obtain ⟨φ1, hl1, hm1, S⟩ := S.see' hn1 hz2
  have hs1 := hv1.mono hm1
  refine lv S (rn_move (S.tm rfl)) rfl ?_; clear S; intro a S
  refine l_buildSlice S Tryd.underlying33 Tryd.sizeOf9 Tryd.zeroValue9 rfl rfl (pv := [(0, .string k_ann), (1, .string k_bea), (2, .string k_cid), (3, .string k_zed), (4, .string k_empty)]) ⟨rfl, rfl, rfl, rfl, rfl, rfl, rfl, rfl, rfl, rfl, trivial⟩ (cs := [.string k_ann, .string k_bea, .string k_cid, .string k_zed, .string k_empty]) (by kernel_rfl) rfl ?_; clear S; intro a w3 b2 hz3 hk3 S
  obtain ⟨r2, hr2, h⟩ := bindE h
  refine l_enter1 1 S (b := b1) rfl rfl (fun _ => .blk b1 [v_p_l, .int .i64 r2.2] 25) (fun _ => run_call (vs := [.pointer (some ⟨b1, 0, none⟩), .slice (some ⟨b2, 0, none⟩) 5 5]) ⟨(S.tm rfl), (S.tm rfl), trivial⟩ Tryd.call5) (Stream_Some_ok _ b1 v_p_l p_l (hs_p_l.mono (S.le_arg (fp_sub (i := 1) (e := .blk b1 [v_p_l, .int .i64 r1.2] 25) rfl))) r1.2 (S.holds _ (List.mem_of_getElem? (i := 1) rfl)) (.slice (some ⟨b2, 0, none⟩) 5 5) [k_ann, k_bea, k_cid, k_zed, k_empty] (lit_slcT enc_str S (i := 0) rfl rfl rfl rfl ((ne_fp (i := 1) (j := 0) (e := .blk b1 [v_p_l, .int .i64 r1.2] 25) (e' := .blk b2 [.string k_ann, .string k_bea, .string k_cid, .string k_zed, .string k_empty] 9) S rfl rfl rfl) _ rfl)) _ hr2) rfl (fun _ _ _ h => ⟨h.1, fun _ hc => by cases hc; rfl⟩) ?_; clear S; intro v2 a w4 hv2 hk4 hn2 S
  replace hv2 := hv2.2
  subst hv2
  refine lv S (rn_move (S.tm rfl)) rfl ?_; clear S; intro a S
  refine l_buildSlice S Tryd.underlying33 Tryd.sizeOf9 Tryd.zeroValue9 rfl rfl (pv := [(0, .string k_blue), (1, .string k_red), (2, .string k_zed), (3, .string k_A)]) ⟨rfl, rfl, rfl, rfl, rfl, rfl, rfl, rfl, trivial⟩ (cs := [.string k_blue, .string k_red, .string k_zed, .string k_A]) (by kernel_rfl) rfl ?_; clear S; intro a w5 b3 hz4 hk5 S
  obtain ⟨r3, hr3, h⟩ := bindE h
  refine l_enter1 2 S (b := b1) rfl rfl (fun _ => .blk b1 [v_p_l, .int .i64 r3.2] 25) (fun _ => run_call (vs := [.pointer (some ⟨b1, 0, none⟩), .slice (some ⟨b3, 0, none⟩) 4 4]) ⟨(S.tm rfl), (S.tm rfl), trivial⟩ Tryd.call5) (Stream_Some_ok _ b1 v_p_l p_l (hs_p_l.mono (S.le_arg (fp_sub (i := 2) (e := .blk b1 [v_p_l, .int .i64 r2.2] 25) rfl))) r2.2 (S.holds _ (List.mem_of_getElem? (i := 2) rfl)) (.slice (some ⟨b3, 0, none⟩) 4 4) [k_blue, k_red, k_zed, k_A] (lit_slcT enc_str S (i := 0) rfl rfl rfl rfl ((ne_fp (i := 2) (j := 0) (e := .blk b1 [v_p_l, .int .i64 r2.2] 25) (e' := .blk b3 [.string k_blue, .string k_red, .string k_zed, .string k_A] 9) S rfl rfl rfl) _ rfl)) _ hr3) rfl (fun _ _ _ h => ⟨h.1, fun _ hc => by cases hc; rfl⟩) ?_; clear S; intro v3 a w6 hv3 hk6 hn3 S
  replace hv3 := hv3.2
  subst hv3
  refine lv S (rn_move (S.tm rfl)) rfl ?_; clear S; intro a S
  obtain ⟨r4, hr4, h⟩ := bindE h
  refine l_enter1 2 S (b := b1) rfl rfl (fun _ => .blk b1 [v_p_l, .int .i64 r4.2] 25) (fun _ => run_call (vs := [.pointer (some ⟨b1, 0, none⟩)]) ⟨(S.tm rfl), trivial⟩ Tryd.call6) (Stream_MeetDay_ok _ b1 v_p_l p_l (hs_p_l.mono (S.le_arg (fp_sub (i := 2) (e := .blk b1 [v_p_l, .int .i64 r3.2] 25) rfl))) r3.2 (S.holds _ (List.mem_of_getElem? (i := 2) rfl)) _ hr4) rfl (fun _ _ _ h => ⟨h.1, fun _ hc => by cases hc; rfl⟩) ?_; clear S; intro v4 a w7 hv4 hk7 hn4 S
  replace hv4 := hv4.2
  subst hv4
  refine lv S (rn_assign (S.tm rfl)) rfl ?_; clear S; intro a S
  refine lv S (rn_assign (S.tm rfl)) rfl ?_; clear S; intro a S
  refine lv S (rn_assign (S.tm rfl)) rfl ?_; clear S; intro a S
  refine lv S (rn_assign (S.tm rfl)) rfl ?_; clear S; intro a S
  refine l_done ?_
  replace S := S.nf (L' := [.blk b1 [v_p_l, .int .i64 r4.2] 25]) (K' := [(3, .pointer (some ⟨b1, 0, none⟩)), (4, v1), (5, .string r2.1), (6, .string r3.1), (7, .int .i64 r4.1)]) [false, false, true] rfl ⟨rfl, rfl, rfl, rfl, rfl, trivial⟩
  refine then_n ?_
  refine f_seq ?_
  refine f_region ?_
  refine lv S (rn_move (S.tm rfl)) rfl ?_; clear S; intro a S
  refine lv S (rn_move (S.tm rfl)) rfl ?_; clear S; intro a S
  refine lv S (rn_move (S.tm rfl)) rfl ?_; clear S; intro a S
  obtain ⟨r5, hr5, h⟩ := bindE h
  refine l_enter S (fun _ => run_call (vs := [v1, .string r2.1, .int .i64 r4.1]) ⟨(S.tm rfl), (S.tm rfl), (S.tm rfl), trivial⟩ Tryd.call7) (swimmer_ClubAt_ok _ v1 r1.1 (((ownV_slcT GMove.enc_ok hs1)).mono (S.le_new nil_sub)) r2.1 r4.1 _ hr5) rfl ?_; clear S; intro v5 a w8 hv5 hk8 hn5 S
  subst hv5
  refine lv S (rn_move (S.tm rfl)) rfl ?_; clear S; intro a S
  refine lv S (rn_extract (S.tm rfl) rfl) rfl ?_; clear S; intro a S
  refine lv S (rn_extract (S.tm rfl) rfl) rfl ?_; clear S; intro a S
  refine lv S (rn_assign (S.tm rfl)) rfl ?_; clear S; intro a S
  refine lv S (rn_assign (S.tm rfl)) rfl ?_; clear S; intro a S
  refine l_done ?_
  replace S := S.nf (L' := [.blk b1 [v_p_l, .int .i64 r4.2] 25]) (K' := [(3, .pointer (some ⟨b1, 0, none⟩)), (4, v1), (5, .string r2.1), (6, .string r3.1), (7, .int .i64 r4.1), (8, .string r5.1), (9, .int .i64 r5.2)]) [true] rfl ⟨rfl, rfl, rfl, rfl, rfl, rfl, rfl, trivial⟩
  refine then_n ?_
  refine f_seq ?_
  refine f_region ?_
  refine lv S (rn_move (S.tm rfl)) rfl ?_; clear S; intro a S
  refine lv S (rn_move (S.tm rfl)) rfl ?_; clear S; intro a S
  refine lv S (rn_move (S.tm rfl)) rfl ?_; clear S; intro a S
  obtain ⟨r6, hr6, h⟩ := bindE h
  have hz5 := S.keep.size
  refine l_enter S (fun _ => run_call (vs := [v1, .string r3.1, .int .i64 r4.1]) ⟨(S.tm rfl), (S.tm rfl), (S.tm rfl), trivial⟩ Tryd.call8) (swimmer_Members_ok _ v1 r1.1 (((ownV_slcT GMove.enc_ok hs1)).mono (S.le_new nil_sub)) r3.1 r4.1 _ hr6) rfl ?_; clear S; intro v6 a w9 hv6 hk9 hn6 S
  obtain ⟨u2, rfl, ho2⟩ := hv6
  obtain ⟨φ2, hl2, hm2, S⟩ := S.see' hn6 hz5
  have hs2 := ho2.mono hm2
  refine lv S (rn_move (S.tm rfl)) rfl ?_; clear S; intro a S
  refine lv S (rn_extract (S.tm rfl) rfl) rfl ?_; clear S; intro a S
  refine lv S (rn_extract (S.tm rfl) rfl) rfl ?_; clear S; intro a S
  refine lv S (rn_assign (S.tm rfl)) rfl ?_; clear S; intro a S
  refine lv S (rn_assign (S.tm rfl)) rfl ?_; clear S; intro a S
  refine l_done ?_
  replace S := S.nf (L' := [.blk b1 [v_p_l, .int .i64 r4.2] 25]) (K' := [(3, .pointer (some ⟨b1, 0, none⟩)), (4, v1), (5, .string r2.1), (6, .string r3.1), (7, .int .i64 r4.1), (8, .string r5.1), (9, .int .i64 r5.2), (10, u2), (11, .int .i64 r6.2)]) [true] rfl ⟨rfl, rfl, rfl, rfl, rfl, rfl, rfl, rfl, rfl, trivial⟩
  refine then_n ?_
  refine f_seq ?_
  refine f_region ?_
  refine lv S (rn_move (S.tm rfl)) rfl ?_; clear S; intro a S
  obtain ⟨r7, hr7, h⟩ := bindE h
  refine l_enter S (fun _ => run_call (vs := [v1]) ⟨(S.tm rfl), trivial⟩ Tryd.call9) (tumbref2_MovesFault_ok _ v1 r1.1 (((ownV_slcT GMove.enc_ok hs1).mono hl2).mono (S.le_new nil_sub)) _ hr7) rfl ?_; clear S; intro v7 a w10 hv7 hk10 hn7 S
  subst hv7
  refine lv S (rn_assign (S.tm rfl)) rfl ?_; clear S; intro a S
  refine l_done ?_
  replace S := S.nf (L' := [.blk b1 [v_p_l, .int .i64 r4.2] 25]) (K' := [(3, .pointer (some ⟨b1, 0, none⟩)), (4, v1), (5, .string r2.1), (6, .string r3.1), (7, .int .i64 r4.1), (8, .string r5.1), (9, .int .i64 r5.2), (10, u2), (11, .int .i64 r6.2), (12, .int .i64 r7)]) [true] rfl ⟨rfl, rfl, rfl, rfl, rfl, rfl, rfl, rfl, rfl, rfl, trivial⟩
  refine then_n ?_
  refine f_seq ?_
  refine f_region ?_
  refine lv S (rn_move (S.tm rfl)) rfl ?_; clear S; intro a S
  refine lv S (rn_move (S.tm rfl)) rfl ?_; clear S; intro a S
  obtain ⟨r8, hr8, h⟩ := bindE h
  refine l_enter S (fun _ => run_call (vs := [.string r2.1]) ⟨(S.tm rfl), trivial⟩ Tryd.call11) (tumblaw2_nameFault_ok _ r2.1 _ hr8) rfl ?_; clear S; intro v8 a w11 hv8 hk11 hn8 S
  subst hv8
  refine lv S (rn_move (S.tm rfl)) rfl ?_; clear S; intro a S
  refine l_enter S (fun _ => run_call (vs := [.int .i64 r4.1]) ⟨(S.tm rfl), trivial⟩ Tryd.call13) (tumbref2_Day_ok _ r4.1 _ rfl) rfl ?_; clear S; intro v9 a w12 hv9 hk12 hn9 S
  subst hv9
  refine lv S (rn_not (S.tm rfl)) rfl ?_; clear S; intro a S
  refine l_enter S (fun _ => run_call (vs := [.bool (!(tumbref2_Day r4.1)), .int .i64 1]) ⟨(S.tm rfl), rfl, trivial⟩ Tryd.call12) (tumblaw2_when_ok _ (!(tumbref2_Day r4.1)) 1 _ rfl) rfl ?_; clear S; intro v10 a w13 hv10 hk13 hn10 S
  subst hv10
  refine l_buildSlice S Tryd.underlying65 Tryd.sizeOf30 Tryd.zeroValue30 rfl rfl (pv := [(0, .int .i64 r7), (1, .int .i64 r8), (2, .int .i64 (tumblaw2_when (!(tumbref2_Day r4.1)) 1))]) ⟨rfl, (S.tm rfl), rfl, (S.tm rfl), rfl, (S.tm rfl), trivial⟩ (cs := [.int .i64 r7, .int .i64 r8, .int .i64 (tumblaw2_when (!(tumbref2_Day r4.1)) 1)]) (by kernel_rfl) rfl ?_; clear S; intro a w14 b4 hz6 hk14 S
  refine l_enter S (fun _ => run_call (vs := [.slice (some ⟨b4, 0, none⟩) 3 3]) ⟨(S.tm rfl), trivial⟩ Tryd.call10) (tumblaw2_errs_ok _ (.slice (some ⟨b4, 0, none⟩) 3 3) [r7, r8, (tumblaw2_when (!(tumbref2_Day r4.1)) 1)] (lit_slcT enc_int S (i := 0) rfl rfl rfl rfl ((ne_nil (e' := .blk b4 [.int .i64 r7, .int .i64 r8, .int .i64 (tumblaw2_when (!(tumbref2_Day r4.1)) 1)] 30)) _ rfl)) _ rfl) rfl ?_; clear S; intro v11 a w15 hv11 hk15 hn11 S
  subst hv11
  refine lv S (rn_move (S.tm rfl)) rfl ?_; clear S; intro a S
  refine lv S (rn_move (S.tm rfl)) rfl ?_; clear S; intro a S
  obtain ⟨r9, hr9, h⟩ := bindE h
  refine l_enter S (fun _ => run_call (vs := [.string r3.1]) ⟨(S.tm rfl), trivial⟩ Tryd.call11) (tumblaw2_nameFault_ok _ r3.1 _ hr9) rfl ?_; clear S; intro v12 a w16 hv12 hk16 hn12 S
  subst hv12
  refine lv S (rn_move (S.tm rfl)) rfl ?_; clear S; intro a S
  refine l_enter S (fun _ => run_call (vs := [.int .i64 r4.1]) ⟨(S.tm rfl), trivial⟩ Tryd.call13) (tumbref2_Day_ok _ r4.1 _ rfl) rfl ?_; clear S; intro v13 a w17 hv13 hk17 hn13 S
  subst hv13
  refine lv S (rn_not (S.tm rfl)) rfl ?_; clear S; intro a S
  refine l_enter S (fun _ => run_call (vs := [.bool (!(tumbref2_Day r4.1)), .int .i64 1]) ⟨(S.tm rfl), rfl, trivial⟩ Tryd.call12) (tumblaw2_when_ok _ (!(tumbref2_Day r4.1)) 1 _ rfl) rfl ?_; clear S; intro v14 a w18 hv14 hk18 hn14 S
  subst hv14
  refine l_buildSlice S Tryd.underlying65 Tryd.sizeOf30 Tryd.zeroValue30 rfl rfl (pv := [(0, .int .i64 r7), (1, .int .i64 r9), (2, .int .i64 (tumblaw2_when (!(tumbref2_Day r4.1)) 1))]) ⟨rfl, (S.tm rfl), rfl, (S.tm rfl), rfl, (S.tm rfl), trivial⟩ (cs := [.int .i64 r7, .int .i64 r9, .int .i64 (tumblaw2_when (!(tumbref2_Day r4.1)) 1)]) (by kernel_rfl) rfl ?_; clear S; intro a w19 b5 hz7 hk19 S
  refine l_enter S (fun _ => run_call (vs := [.slice (some ⟨b5, 0, none⟩) 3 3]) ⟨(S.tm rfl), trivial⟩ Tryd.call10) (tumblaw2_errs_ok _ (.slice (some ⟨b5, 0, none⟩) 3 3) [r7, r9, (tumblaw2_when (!(tumbref2_Day r4.1)) 1)] (lit_slcT enc_int S (i := 0) rfl rfl rfl rfl ((ne_nil (e' := .blk b5 [.int .i64 r7, .int .i64 r9, .int .i64 (tumblaw2_when (!(tumbref2_Day r4.1)) 1)] 30)) _ rfl)) _ rfl) rfl ?_; clear S; intro v15 a w20 hv15 hk20 hn15 S
  subst hv15
  refine lv S (rn_assign (S.tm rfl)) rfl ?_; clear S; intro a S
  refine lv S (rn_assign (S.tm rfl)) rfl ?_; clear S; intro a S
  refine l_done ?_
  replace S := S.nf (L' := [.blk b1 [v_p_l, .int .i64 r4.2] 25]) (K' := [(3, .pointer (some ⟨b1, 0, none⟩)), (4, v1), (5, .string r2.1), (6, .string r3.1), (7, .int .i64 r4.1), (8, .string r5.1), (9, .int .i64 r5.2), (10, u2), (11, .int .i64 r6.2), (12, .int .i64 r7), (13, .int .i64 (tumblaw2_errs [r7, r8, (tumblaw2_when (!(tumbref2_Day r4.1)) 1)])), (14, .int .i64 (tumblaw2_errs [r7, r9, (tumblaw2_when (!(tumbref2_Day r4.1)) 1)]))]) [false, false, true] rfl ⟨rfl, rfl, rfl, rfl, rfl, rfl, rfl, rfl, rfl, rfl, rfl, rfl, trivial⟩
  refine then_n ?_
  refine f_seq ?_
  refine f_region ?_
  refine lv S (rn_assign rfl) rfl ?_; clear S; intro a S
  refine l_done ?_
  replace S := S.nf (L' := [.blk b1 [v_p_l, .int .i64 r4.2] 25]) (K' := [(3, .pointer (some ⟨b1, 0, none⟩)), (4, v1), (5, .string r2.1), (6, .string r3.1), (7, .int .i64 r4.1), (8, .string r5.1), (9, .int .i64 r5.2), (10, u2), (11, .int .i64 r6.2), (12, .int .i64 r7), (13, .int .i64 (tumblaw2_errs [r7, r8, (tumblaw2_when (!(tumbref2_Day r4.1)) 1)])), (14, .int .i64 (tumblaw2_errs [r7, r9, (tumblaw2_when (!(tumbref2_Day r4.1)) 1)])), (15, .string k_empty)]) [true] rfl ⟨rfl, rfl, rfl, rfl, rfl, rfl, rfl, rfl, rfl, rfl, rfl, rfl, rfl, trivial⟩
  refine then_n ?_
  refine f_seq ?_
  refine f_region ?_
  refine lv S (rn_assign rfl) rfl ?_; clear S; intro a S
  refine l_done ?_
  replace S := S.nf (L' := [.blk b1 [v_p_l, .int .i64 r4.2] 25]) (K' := [(3, .pointer (some ⟨b1, 0, none⟩)), (4, v1), (5, .string r2.1), (6, .string r3.1), (7, .int .i64 r4.1), (8, .string r5.1), (9, .int .i64 r5.2), (10, u2), (11, .int .i64 r6.2), (12, .int .i64 r7), (13, .int .i64 (tumblaw2_errs [r7, r8, (tumblaw2_when (!(tumbref2_Day r4.1)) 1)])), (14, .int .i64 (tumblaw2_errs [r7, r9, (tumblaw2_when (!(tumbref2_Day r4.1)) 1)])), (15, .string k_empty), (16, .slice none 0 0)]) [true] rfl ⟨rfl, rfl, rfl, rfl, rfl, rfl, rfl, rfl, rfl, rfl, rfl, rfl, rfl, rfl, trivial⟩
  refine then_n ?_
  refine f_seq ?_
  refine f_seq ?_
  refine f_region ?_
  refine lv S (rn_move (S.tm rfl)) rfl ?_; clear S; intro a S
  refine lv S (rn_eql (S.tm rfl) rfl) rfl ?_; clear S; intro a S
  refine l_done ?_
  replace S := S.nf (L' := [.blk b1 [v_p_l, .int .i64 r4.2] 25]) (K' := [(3, .pointer (some ⟨b1, 0, none⟩)), (4, v1), (5, .string r2.1), (6, .string r3.1), (7, .int .i64 r4.1), (8, .string r5.1), (9, .int .i64 r5.2), (10, u2), (11, .int .i64 r6.2), (12, .int .i64 r7), (13, .int .i64 (tumblaw2_errs [r7, r8, (tumblaw2_when (!(tumbref2_Day r4.1)) 1)])), (14, .int .i64 (tumblaw2_errs [r7, r9, (tumblaw2_when (!(tumbref2_Day r4.1)) 1)])), (15, .string k_empty), (16, .slice none 0 0), (71, .bool (decide ((tumblaw2_errs [r7, r8, (tumblaw2_when (!(tumbref2_Day r4.1)) 1)]) = 0)))]) [true] rfl ⟨rfl, rfl, rfl, rfl, rfl, rfl, rfl, rfl, rfl, rfl, rfl, rfl, rfl, rfl, rfl, trivial⟩
  refine then_n ?_
  obtain ⟨j1, hj1, h⟩ := joinE h
  refine f_join (fun a w' => ∃ x1 : ByteArray, j1 x1 = some r ∧ Sx w [] φ2 [.blk b1 [v_p_l, .int .i64 r4.2] 25] [(3, .pointer (some ⟨b1, 0, none⟩)), (4, v1), (6, .string r3.1), (7, .int .i64 r4.1), (8, .string r5.1), (9, .int .i64 r5.2), (10, u2), (11, .int .i64 r6.2), (12, .int .i64 r7), (13, .int .i64 (tumblaw2_errs [r7, r8, (tumblaw2_when (!(tumbref2_Day r4.1)) 1)])), (14, .int .i64 (tumblaw2_errs [r7, r9, (tumblaw2_when (!(tumbref2_Day r4.1)) 1)])), (15, .string x1), (16, .slice none 0 0)] 157 a w') ?_ ?_
  · refine f_cond (S.tm rfl) (fun hb1 => ?_) (fun hb1 => ?_)
    · replace h := iteT h hb1
      refine f_region ?_
      refine lv S (rn_move (S.tm rfl)) rfl ?_; clear S; intro a S
      refine lv S (rn_move (S.tm rfl)) rfl ?_; clear S; intro a S
      refine lv S (rn_move (S.tm rfl)) rfl ?_; clear S; intro a S
      refine l_enter S (fun _ => run_call (vs := [v1, .string r2.1, .int .i64 r4.1]) ⟨(S.tm rfl), (S.tm rfl), (S.tm rfl), trivial⟩ Tryd.call14) (tumbref2_ClubFor_ok _ v1 r1.1 (((ownV_slcT GMove.enc_ok hs1).mono hl2).mono (S.le_new nil_sub)) r2.1 r4.1 _ rfl) rfl ?_; clear S; intro v16 a w22 hv16 hk21 hn16 S
      subst hv16
      refine lv S (rn_assign (S.tm rfl)) rfl ?_; clear S; intro a S
      refine l_done ?_
      replace S := S.nf (L' := [.blk b1 [v_p_l, .int .i64 r4.2] 25]) (K' := [(3, .pointer (some ⟨b1, 0, none⟩)), (4, v1), (6, .string r3.1), (7, .int .i64 r4.1), (8, .string r5.1), (9, .int .i64 r5.2), (10, u2), (11, .int .i64 r6.2), (12, .int .i64 r7), (13, .int .i64 (tumblaw2_errs [r7, r8, (tumblaw2_when (!(tumbref2_Day r4.1)) 1)])), (14, .int .i64 (tumblaw2_errs [r7, r9, (tumblaw2_when (!(tumbref2_Day r4.1)) 1)])), (15, .string (tumbref2_ClubFor r1.1 r2.1 r4.1)), (16, .slice none 0 0)]) [true] rfl ⟨rfl, rfl, rfl, rfl, rfl, rfl, rfl, rfl, rfl, rfl, rfl, rfl, rfl, trivial⟩
      refine then_n ?_
      exact ⟨(tumbref2_ClubFor r1.1 r2.1 r4.1), h, S.nf [true] rfl ⟨rfl, rfl, rfl, rfl, rfl, rfl, rfl, rfl, rfl, rfl, rfl, rfl, rfl, trivial⟩⟩
    · replace h := iteF h hb1
      refine wp_skip ?_
      refine then_n ?_
      exact ⟨k_empty, h, S.nf [true] rfl ⟨rfl, rfl, rfl, rfl, rfl, rfl, rfl, rfl, rfl, rfl, rfl, rfl, rfl, trivial⟩⟩
  clear S h; rintro a w21 ⟨x1, h, S⟩; rw [hj1] at h; clear hj1 j1
  refine then_n ?_
  refine f_seq ?_
  refine f_seq ?_
  refine f_region ?_
  refine lv S (rn_move (S.tm rfl)) rfl ?_; clear S; intro a S
  refine lv S (rn_eql (S.tm rfl) rfl) rfl ?_; clear S; intro a S
  refine l_done ?_
  replace S := S.nf (L' := [.blk b1 [v_p_l, .int .i64 r4.2] 25]) (K' := [(3, .pointer (some ⟨b1, 0, none⟩)), (4, v1), (6, .string r3.1), (7, .int .i64 r4.1), (8, .string r5.1), (9, .int .i64 r5.2), (10, u2), (11, .int .i64 r6.2), (12, .int .i64 r7), (13, .int .i64 (tumblaw2_errs [r7, r8, (tumblaw2_when (!(tumbref2_Day r4.1)) 1)])), (14, .int .i64 (tumblaw2_errs [r7, r9, (tumblaw2_when (!(tumbref2_Day r4.1)) 1)])), (15, .string x1), (16, .slice none 0 0), (77, .bool (decide ((tumblaw2_errs [r7, r9, (tumblaw2_when (!(tumbref2_Day r4.1)) 1)]) = 0)))]) [true] rfl ⟨rfl, rfl, rfl, rfl, rfl, rfl, rfl, rfl, rfl, rfl, rfl, rfl, rfl, rfl, trivial⟩
  refine then_n ?_
  obtain ⟨j2, hj2, h⟩ := joinE h
  refine f_join (fun a w' => ∃ x2 : List ByteArray, ∃ φ3 : View, ∃ v17 : Value, j2 x2 = some r ∧ View.le φ2 φ3 ∧ OwnV φ3 9 1 v17 x2.length (x2.flatMap eStr) ∧ Sx w [] φ3 [.blk b1 [v_p_l, .int .i64 r4.2] 25] [(3, .pointer (some ⟨b1, 0, none⟩)), (4, v1), (7, .int .i64 r4.1), (8, .string r5.1), (9, .int .i64 r5.2), (10, u2), (11, .int .i64 r6.2), (12, .int .i64 r7), (13, .int .i64 (tumblaw2_errs [r7, r8, (tumblaw2_when (!(tumbref2_Day r4.1)) 1)])), (14, .int .i64 (tumblaw2_errs [r7, r9, (tumblaw2_when (!(tumbref2_Day r4.1)) 1)])), (15, .string x1), (16, v17)] 157 a w') ?_ ?_
  · refine f_cond (S.tm rfl) (fun hb2 => ?_) (fun hb2 => ?_)
    · replace h := iteT h hb2
      refine f_region ?_
      refine lv S (rn_move (S.tm rfl)) rfl ?_; clear S; intro a S
      refine lv S (rn_move (S.tm rfl)) rfl ?_; clear S; intro a S
      refine lv S (rn_move (S.tm rfl)) rfl ?_; clear S; intro a S
      obtain ⟨r10, hr10, h⟩ := bindE h
      have hz8 := S.keep.size
      refine l_enter S (fun _ => run_call (vs := [v1, .string r3.1, .int .i64 r4.1]) ⟨(S.tm rfl), (S.tm rfl), (S.tm rfl), trivial⟩ Tryd.call15) (tumbref2_MembersOf_ok _ v1 r1.1 (((ownV_slcT GMove.enc_ok hs1).mono hl2).mono (S.le_new nil_sub)) r3.1 r4.1 _ hr10) rfl ?_; clear S; intro v18 a w24 hv17 hk22 hn17 S
      obtain ⟨φ4, hl4, hm3, S⟩ := S.see' hn17 hz8
      have hs4 := hv17.mono hm3
      refine lv S (rn_assign (S.tm rfl)) rfl ?_; clear S; intro a S
      refine l_done ?_
      replace S := S.nf (L' := [.blk b1 [v_p_l, .int .i64 r4.2] 25]) (K' := [(3, .pointer (some ⟨b1, 0, none⟩)), (4, v1), (7, .int .i64 r4.1), (8, .string r5.1), (9, .int .i64 r5.2), (10, u2), (11, .int .i64 r6.2), (12, .int .i64 r7), (13, .int .i64 (tumblaw2_errs [r7, r8, (tumblaw2_when (!(tumbref2_Day r4.1)) 1)])), (14, .int .i64 (tumblaw2_errs [r7, r9, (tumblaw2_when (!(tumbref2_Day r4.1)) 1)])), (15, .string x1), (16, v18)]) [true] rfl ⟨rfl, rfl, rfl, rfl, rfl, rfl, rfl, rfl, rfl, rfl, rfl, rfl, trivial⟩
      refine then_n ?_
      exact ⟨r10, φ4, v18, h, hl4, hs4, S.nf [true] rfl ⟨rfl, rfl, rfl, rfl, rfl, rfl, rfl, rfl, rfl, rfl, rfl, rfl, trivial⟩⟩
    · replace h := iteF h hb2
      refine wp_skip ?_
      refine then_n ?_
      exact ⟨([] : List ByteArray), φ2, .slice none 0 0, h, (View.le_refl _), (ownV_nil _ _ _), S.nf [true] rfl ⟨rfl, rfl, rfl, rfl, rfl, rfl, rfl, rfl, rfl, rfl, rfl, rfl, trivial⟩⟩
  clear S h; rintro a w23 ⟨x2, φ3, v17, h, hl3, hs3, S⟩; rw [hj2] at h; clear hj2 j2
  refine then_n ?_
  refine f_seq ?_
  refine f_seq ?_
  refine f_region ?_
  refine lv S (rn_move (S.tm rfl)) rfl ?_; clear S; intro a S
  obtain ⟨r11, hr11, h⟩ := bindE h
  refine l_enter S (fun _ => run_call (vs := [v1]) ⟨(S.tm rfl), trivial⟩ Tryd.call16) (swimmer_CheckMoves_ok _ v1 r1.1 (((ownV_slcT GMove.enc_ok hs1).mono (View.le_trans hl2 hl3)).mono (S.le_new nil_sub)) _ hr11) rfl ?_; clear S; intro v19 a w25 hv18 hk23 hn18 S
  subst hv18
  refine lv S (rn_move (S.tm rfl)) rfl ?_; clear S; intro a S
  refine lv S (rn_neq (S.tm rfl) (S.tm rfl)) rfl ?_; clear S; intro a S
  refine lv S (rn_move (S.tm rfl)) rfl ?_; clear S; intro a S
  refine f_cutm 4 (fun a w' => Keep [] w25 w' ∧ Sx w [] φ3 [.blk b1 [v_p_l, .int .i64 r4.2] 25] [(3, .pointer (some ⟨b1, 0, none⟩)), (7, .int .i64 r4.1), (8, .string r5.1), (10, u2), (11, .int .i64 r6.2), (14, .int .i64 (tumblaw2_errs [r7, r9, (tumblaw2_when (!(tumbref2_Day r4.1)) 1)])), (15, .string x1), (16, v17), (90, .bool ((!decide (r11 = r7)) || (!decide (r5.2 = (tumblaw2_errs [r7, r8, (tumblaw2_when (!(tumbref2_Day r4.1)) 1)])))))] 157 a w') ?_ ?_
  · rcases Bool.eq_false_or_eq_true (!decide (r11 = r7)) with hb3 | hb3
    · refine l_skip S rfl rfl rfl (neq_t hb3) rfl ?_ rfl; clear S; intro a S
      refine l_skip S rfl rfl rfl (neq_t hb3) rfl ?_ rfl; clear S; intro a S
      refine l_skip S rfl rfl rfl (neq_t hb3) rfl ?_ rfl; clear S; intro a S
      refine lv S (rn_or_t (!decide (r5.2 = (tumblaw2_errs [r7, r8, (tumblaw2_when (!(tumbref2_Day r4.1)) 1)]))) hb3 (S.tm rfl) rfl) rfl ?_; clear S; intro a S
      refine l_done ?_
      refine then_n ?_
      exact ⟨Keep.refl _ _, S.nf [true] rfl ⟨rfl, rfl, rfl, rfl, rfl, rfl, rfl, rfl, rfl, trivial⟩⟩
    · refine l_want S rfl rfl rfl hb3 ?_
      refine lv S (rn_move (S.tm rfl)) rfl ?_; clear S; intro a S
      refine l_want S rfl rfl rfl hb3 ?_
      refine lv S (rn_move (S.tm rfl)) rfl ?_; clear S; intro a S
      refine l_want S rfl rfl rfl hb3 ?_
      refine lv S (rn_neq (S.tm rfl) (S.tm rfl)) rfl ?_; clear S; intro a S
      refine lv S (rn_or_f hb3 (S.tm rfl) (S.tm rfl)) rfl ?_; clear S; intro a S
      refine l_done ?_
      refine then_n ?_
      exact ⟨Keep.refl _ _, S.nf [true] rfl ⟨rfl, rfl, rfl, rfl, rfl, rfl, rfl, rfl, rfl, trivial⟩⟩
  clear S; rintro a w26 ⟨hk24, S⟩
  refine lv S (rn_move (S.tm rfl)) rfl ?_; clear S; intro a S
  refine f_cutm 4 (fun a w' => Keep [] w26 w' ∧ Sx w [] φ3 [.blk b1 [v_p_l, .int .i64 r4.2] 25] [(3, .pointer (some ⟨b1, 0, none⟩)), (7, .int .i64 r4.1), (10, u2), (11, .int .i64 r6.2), (14, .int .i64 (tumblaw2_errs [r7, r9, (tumblaw2_when (!(tumbref2_Day r4.1)) 1)])), (16, v17), (95, .bool (((!decide (r11 = r7)) || (!decide (r5.2 = (tumblaw2_errs [r7, r8, (tumblaw2_when (!(tumbref2_Day r4.1)) 1)])))) || (!decide (r5.1 = x1))))] 157 a w') ?_ ?_
  · rcases Bool.eq_false_or_eq_true ((!decide (r11 = r7)) || (!decide (r5.2 = (tumblaw2_errs [r7, r8, (tumblaw2_when (!(tumbref2_Day r4.1)) 1)])))) with hb4 | hb4
    · refine l_skip S rfl rfl rfl (neq_t hb4) rfl ?_ rfl; clear S; intro a S
      refine l_skip S rfl rfl rfl (neq_t hb4) rfl ?_ rfl; clear S; intro a S
      refine l_skip S rfl rfl rfl (neq_t hb4) rfl ?_ rfl; clear S; intro a S
      refine lv S (rn_or_t (!decide (r5.1 = x1)) hb4 (S.tm rfl) rfl) rfl ?_; clear S; intro a S
      refine l_done ?_
      refine then_n ?_
      exact ⟨Keep.refl _ _, S.nf [true] rfl ⟨rfl, rfl, rfl, rfl, rfl, rfl, rfl, trivial⟩⟩
    · refine l_want S rfl rfl rfl hb4 ?_
      refine lv S (rn_move (S.tm rfl)) rfl ?_; clear S; intro a S
      refine l_want S rfl rfl rfl hb4 ?_
      refine lv S (rn_move (S.tm rfl)) rfl ?_; clear S; intro a S
      refine l_want S rfl rfl rfl hb4 ?_
      refine lv S (rn_sneq (S.tm rfl) (S.tm rfl)) rfl ?_; clear S; intro a S
      refine lv S (rn_or_f hb4 (S.tm rfl) (S.tm rfl)) rfl ?_; clear S; intro a S
      refine l_done ?_
      refine then_n ?_
      exact ⟨Keep.refl _ _, S.nf [true] rfl ⟨rfl, rfl, rfl, rfl, rfl, rfl, rfl, trivial⟩⟩
  clear S; rintro a w27 ⟨hk25, S⟩
  refine lv S (rn_move (S.tm rfl)) rfl ?_; clear S; intro a S
  refine f_cutm 4 (fun a w' => Keep [] w27 w' ∧ Sx w [] φ3 [.blk b1 [v_p_l, .int .i64 r4.2] 25] [(3, .pointer (some ⟨b1, 0, none⟩)), (7, .int .i64 r4.1), (10, u2), (16, v17), (100, .bool ((((!decide (r11 = r7)) || (!decide (r5.2 = (tumblaw2_errs [r7, r8, (tumblaw2_when (!(tumbref2_Day r4.1)) 1)])))) || (!decide (r5.1 = x1))) || (!decide (r6.2 = (tumblaw2_errs [r7, r9, (tumblaw2_when (!(tumbref2_Day r4.1)) 1)])))))] 157 a w') ?_ ?_
  · rcases Bool.eq_false_or_eq_true (((!decide (r11 = r7)) || (!decide (r5.2 = (tumblaw2_errs [r7, r8, (tumblaw2_when (!(tumbref2_Day r4.1)) 1)])))) || (!decide (r5.1 = x1))) with hb5 | hb5
    · refine l_skip S rfl rfl rfl (neq_t hb5) rfl ?_ rfl; clear S; intro a S
      refine l_skip S rfl rfl rfl (neq_t hb5) rfl ?_ rfl; clear S; intro a S
      refine l_skip S rfl rfl rfl (neq_t hb5) rfl ?_ rfl; clear S; intro a S
      refine lv S (rn_or_t (!decide (r6.2 = (tumblaw2_errs [r7, r9, (tumblaw2_when (!(tumbref2_Day r4.1)) 1)]))) hb5 (S.tm rfl) rfl) rfl ?_; clear S; intro a S
      refine l_done ?_
      refine then_n ?_
      exact ⟨Keep.refl _ _, S.nf [true] rfl ⟨rfl, rfl, rfl, rfl, rfl, trivial⟩⟩
    · refine l_want S rfl rfl rfl hb5 ?_
      refine lv S (rn_move (S.tm rfl)) rfl ?_; clear S; intro a S
      refine l_want S rfl rfl rfl hb5 ?_
      refine lv S (rn_move (S.tm rfl)) rfl ?_; clear S; intro a S
      refine l_want S rfl rfl rfl hb5 ?_
      refine lv S (rn_neq (S.tm rfl) (S.tm rfl)) rfl ?_; clear S; intro a S
      refine lv S (rn_or_f hb5 (S.tm rfl) (S.tm rfl)) rfl ?_; clear S; intro a S
      refine l_done ?_
      refine then_n ?_
      exact ⟨Keep.refl _ _, S.nf [true] rfl ⟨rfl, rfl, rfl, rfl, rfl, trivial⟩⟩
  clear S; rintro a w28 ⟨hk26, S⟩
  refine lv S (rn_move (S.tm rfl)) rfl ?_; clear S; intro a S
  obtain ⟨j3, hj3, h⟩ := joinE h
  refine f_cutm 5 (fun a w' => ∃ c1, j3 c1 = some r ∧ Keep [] w28 w' ∧ Sx w [] φ3 [.blk b1 [v_p_l, .int .i64 r4.2] 25] [(3, .pointer (some ⟨b1, 0, none⟩)), (7, .int .i64 r4.1), (106, .bool c1)] 157 a w') ?_ ?_
  · rcases Bool.eq_false_or_eq_true ((((!decide (r11 = r7)) || (!decide (r5.2 = (tumblaw2_errs [r7, r8, (tumblaw2_when (!(tumbref2_Day r4.1)) 1)])))) || (!decide (r5.1 = x1))) || (!decide (r6.2 = (tumblaw2_errs [r7, r9, (tumblaw2_when (!(tumbref2_Day r4.1)) 1)])))) with hb6 | hb6
    · replace h := iteT h hb6
      refine l_skip S rfl rfl rfl (neq_t hb6) rfl ?_ rfl; clear S; intro a S
      refine l_skip S rfl rfl rfl (neq_t hb6) rfl ?_ rfl; clear S; intro a S
      refine l_skip S rfl rfl rfl (neq_t hb6) rfl ?_ rfl; clear S; intro a S
      refine l_skip S rfl rfl rfl (neq_t hb6) rfl ?_ rfl; clear S; intro a S
      refine lv S (rn_or_t true hb6 (S.tm rfl) rfl) rfl ?_; clear S; intro a S
      refine l_done ?_
      refine then_n ?_
      exact ⟨_, h, Keep.refl _ _, S.nf [true] rfl ⟨rfl, rfl, rfl, trivial⟩⟩
    · replace h := iteF h hb6
      refine l_want S rfl rfl rfl hb6 ?_
      refine lv S (rn_move (S.tm rfl)) rfl ?_; clear S; intro a S
      refine l_want S rfl rfl rfl hb6 ?_
      refine lv S (rn_move (S.tm rfl)) rfl ?_; clear S; intro a S
      refine l_want S rfl rfl rfl hb6 ?_
      obtain ⟨r12, hr12, h⟩ := bindE h
      refine l_enter S (fun _ => run_call (vs := [u2, v17]) ⟨(S.tm rfl), (S.tm rfl), trivial⟩ Tryd.call17) (slices_Equal_string_ok _ u2 r6.1 (((ownV_slcT enc_str hs2).mono hl3).mono (S.le_new nil_sub)) v17 x2 (((ownV_slcT enc_str hs3)).mono (S.le_new nil_sub)) _ hr12) rfl ?_; clear S; intro v20 a w30 hv19 hk27 hn19 S
      subst hv19
      refine l_want S rfl rfl rfl hb6 ?_
      refine lv S (rn_not (S.tm rfl)) rfl ?_; clear S; intro a S
      refine lv S (rn_or_f hb6 (S.tm rfl) (S.tm rfl)) rfl ?_; clear S; intro a S
      refine l_done ?_
      refine then_n ?_
      exact ⟨_, h, hk27, S.nf [true] rfl ⟨rfl, rfl, rfl, trivial⟩⟩
  clear S h; rintro a w29 ⟨c1, h, hk28, S⟩; rw [hj3] at h; clear hj3 j3
  refine l_done ?_
  replace S := S.nf (L' := [.blk b1 [v_p_l, .int .i64 r4.2] 25]) (K' := [(3, .pointer (some ⟨b1, 0, none⟩)), (7, .int .i64 r4.1), (106, .bool c1)]) [true] rfl ⟨rfl, rfl, rfl, trivial⟩
  refine then_n ?_
  refine f_cond (S.tm rfl) (fun hb7 => ?_) (fun hb7 => ?_)
  · replace h := iteT h hb7
    refine f_seq ?_
    refine f_region ?_
    refine lv S (rn_assign rfl) rfl ?_; clear S; intro a S
    refine l_done ?_
    replace S := S.nf (L' := []) (K' := [(2, .bool false)]) [false] rfl ⟨rfl, trivial⟩
    refine then_n ?_
    refine wp_ret ?_
    refine then_r ?_
    obtain rfl := Option.some.inj h
    exact f_ret S Tryd.results3 rfl rfl
  · replace h := iteF h hb7
    refine wp_skip ?_
    refine then_n ?_
    refine f_seq ?_
    refine f_region ?_
    refine lv S (rn_move (S.tm rfl)) rfl ?_; clear S; intro a S
    obtain ⟨r13, hr13, h⟩ := bindE h
    refine l_enter1 0 S (b := b1) rfl rfl (fun _ => .blk b1 [v_p_l, .int .i64 r13.2] 25) (fun _ => run_call (vs := [.pointer (some ⟨b1, 0, none⟩), .string k_ra]) ⟨(S.tm rfl), rfl, trivial⟩ Tryd.call18) (Stream_MeetRace_ok _ b1 v_p_l p_l (hs_p_l.mono (S.le_arg (fp_sub (i := 0) (e := .blk b1 [v_p_l, .int .i64 r4.2] 25) rfl))) r4.2 (S.holds _ (List.mem_of_getElem? (i := 0) rfl)) k_ra _ hr13) rfl (fun _ _ _ h => ⟨h.1, fun _ hc => by cases hc; rfl⟩) ?_; clear S; intro v21 a w31 hv20 hk29 hn20 S
    replace hv20 := hv20.2
    subst hv20
    refine lv S (rn_move (S.tm rfl)) rfl ?_; clear S; intro a S
    refine l_buildSlice S Tryd.underlying22 Tryd.sizeOf3 Tryd.zeroValue3 rfl rfl (pv := [(0, .int .i64 1), (1, .int .i64 2)]) ⟨rfl, rfl, rfl, rfl, trivial⟩ (cs := [.int .i64 1, .int .i64 2]) (by kernel_rfl) rfl ?_; clear S; intro a w32 b6 hz9 hk30 S
    obtain ⟨r14, hr14, h⟩ := bindE h
    refine l_enter1 1 S (b := b1) rfl rfl (fun _ => .blk b1 [v_p_l, .int .i64 r14.2] 25) (fun _ => run_call (vs := [.pointer (some ⟨b1, 0, none⟩), .slice (some ⟨b6, 0, none⟩) 2 2]) ⟨(S.tm rfl), (S.tm rfl), trivial⟩ Tryd.call19) (Stream_Pick_ok _ b1 v_p_l p_l (hs_p_l.mono (S.le_arg (fp_sub (i := 1) (e := .blk b1 [v_p_l, .int .i64 r13.2] 25) rfl))) r13.2 (S.holds _ (List.mem_of_getElem? (i := 1) rfl)) (.slice (some ⟨b6, 0, none⟩) 2 2) [1, 2] (lit_slcT enc_int S (i := 0) rfl rfl rfl rfl ((ne_fp (i := 1) (j := 0) (e := .blk b1 [v_p_l, .int .i64 r13.2] 25) (e' := .blk b6 [.int .i64 1, .int .i64 2] 3) S rfl rfl rfl) _ rfl)) _ hr14) rfl (fun _ _ _ h => ⟨h.1, fun _ hc => by cases hc; rfl⟩) ?_; clear S; intro v22 a w33 hv21 hk31 hn21 S
    replace hv21 := hv21.2
    subst hv21
    refine lv S (rn_move (S.tm rfl)) rfl ?_; clear S; intro a S
    refine l_buildSlice S Tryd.underlying22 Tryd.sizeOf3 Tryd.zeroValue3 rfl rfl (pv := [(0, .int .i64 59), (1, .int .i64 0), (2, .int .i64 (-1)), (3, .int .i64 (-3653))]) ⟨rfl, rfl, rfl, rfl, rfl, rfl, rfl, rfl, trivial⟩ (cs := [.int .i64 59, .int .i64 0, .int .i64 (-1), .int .i64 (-3653)]) (by kernel_rfl) rfl ?_; clear S; intro a w34 b7 hz10 hk32 S
    obtain ⟨r15, hr15, h⟩ := bindE h
    refine l_enter1 2 S (b := b1) rfl rfl (fun _ => .blk b1 [v_p_l, .int .i64 r15.2] 25) (fun _ => run_call (vs := [.pointer (some ⟨b1, 0, none⟩), .slice (some ⟨b7, 0, none⟩) 4 4]) ⟨(S.tm rfl), (S.tm rfl), trivial⟩ Tryd.call19) (Stream_Pick_ok _ b1 v_p_l p_l (hs_p_l.mono (S.le_arg (fp_sub (i := 2) (e := .blk b1 [v_p_l, .int .i64 r14.2] 25) rfl))) r14.2 (S.holds _ (List.mem_of_getElem? (i := 2) rfl)) (.slice (some ⟨b7, 0, none⟩) 4 4) [59, 0, (-1), (-3653)] (lit_slcT enc_int S (i := 0) rfl rfl rfl rfl ((ne_fp (i := 2) (j := 0) (e := .blk b1 [v_p_l, .int .i64 r14.2] 25) (e' := .blk b7 [.int .i64 59, .int .i64 0, .int .i64 (-1), .int .i64 (-3653)] 3) S rfl rfl rfl) _ rfl)) _ hr15) rfl (fun _ _ _ h => ⟨h.1, fun _ hc => by cases hc; rfl⟩) ?_; clear S; intro v23 a w35 hv22 hk33 hn22 S
    replace hv22 := hv22.2
    subst hv22
    refine lv S (rn_bld bt_49 (pv := [(0, .string k_ann), (1, .int .i64 r14.1), (2, .int .i64 r15.1)]) ⟨rfl, rfl, rfl, (S.tm rfl), rfl, (S.tm rfl), trivial⟩ (cs := [.string k_ann, .int .i64 r14.1, .int .i64 r15.1]) (by kernel_rfl)) rfl ?_; clear S; intro a S
    refine lv S (rn_move (S.tm rfl)) rfl ?_; clear S; intro a S
    refine l_buildSlice S Tryd.underlying22 Tryd.sizeOf3 Tryd.zeroValue3 rfl rfl (pv := [(0, .int .i64 1), (1, .int .i64 2), (2, .int .i64 0)]) ⟨rfl, rfl, rfl, rfl, rfl, rfl, trivial⟩ (cs := [.int .i64 1, .int .i64 2, .int .i64 0]) (by kernel_rfl) rfl ?_; clear S; intro a w36 b8 hz11 hk34 S
    obtain ⟨r16, hr16, h⟩ := bindE h
    refine l_enter1 3 S (b := b1) rfl rfl (fun _ => .blk b1 [v_p_l, .int .i64 r16.2] 25) (fun _ => run_call (vs := [.pointer (some ⟨b1, 0, none⟩), .slice (some ⟨b8, 0, none⟩) 3 3]) ⟨(S.tm rfl), (S.tm rfl), trivial⟩ Tryd.call19) (Stream_Pick_ok _ b1 v_p_l p_l (hs_p_l.mono (S.le_arg (fp_sub (i := 3) (e := .blk b1 [v_p_l, .int .i64 r15.2] 25) rfl))) r15.2 (S.holds _ (List.mem_of_getElem? (i := 3) rfl)) (.slice (some ⟨b8, 0, none⟩) 3 3) [1, 2, 0] (lit_slcT enc_int S (i := 0) rfl rfl rfl rfl ((ne_fp (i := 3) (j := 0) (e := .blk b1 [v_p_l, .int .i64 r15.2] 25) (e' := .blk b8 [.int .i64 1, .int .i64 2, .int .i64 0] 3) S rfl rfl rfl) _ rfl)) _ hr16) rfl (fun _ _ _ h => ⟨h.1, fun _ hc => by cases hc; rfl⟩) ?_; clear S; intro v24 a w37 hv23 hk35 hn23 S
    replace hv23 := hv23.2
    subst hv23
    refine l_alloc S Tryd.zeroValue45 (cs := [.string k_empty, .int .i64 0, .int .i64 0, .int .i64 0, .int .i64 0, .int .i64 0, .int .i64 0, .int .i64 0]) rfl rfl ?_; clear S; intro a w38 b9 hz12 hk36 S
    refine l_alloc S Tryd.zeroValue49 (cs := [.string k_empty, .int .i64 0, .int .i64 0]) rfl rfl ?_; clear S; intro a w39 b10 hz13 hk37 S
    refine l_store S (S.tm rfl) (S.tm rfl) (i := 1) (off := 0) rfl Tryd.sizeOf45 (vs := [.string r13.1.Key, .int .i64 r13.1.Metres, .int .i64 r13.1.Stroke, .int .i64 r13.1.Course, .int .i64 r13.1.Legs, .int .i64 r13.1.Sex, .int .i64 r13.1.Young, .int .i64 r13.1.Old]) rfl rfl rfl rfl ?_; clear S; intro w40 hk38 S
    refine l_store S (S.tm rfl) (S.tm rfl) (i := 0) (off := 0) rfl Tryd.sizeOf49 (vs := [.string k_ann, .int .i64 r14.1, .int .i64 r15.1]) rfl rfl rfl rfl ?_; clear S; intro w41 hk39 S
    refine lv S (rn_assign (S.tm rfl)) rfl ?_; clear S; intro a S
    refine l_done ?_
    replace S := S.nf (L' := [.blk b10 [.string k_ann, .int .i64 r14.1, .int .i64 r15.1] 49, .blk b9 [.string r13.1.Key, .int .i64 r13.1.Metres, .int .i64 r13.1.Stroke, .int .i64 r13.1.Course, .int .i64 r13.1.Legs, .int .i64 r13.1.Sex, .int .i64 r13.1.Young, .int .i64 r13.1.Old] 45, .blk b1 [v_p_l, .int .i64 r16.2] 25]) (K' := [(3, .pointer (some ⟨b1, 0, none⟩)), (7, .int .i64 r4.1), (17, .pointer (some ⟨b9, 0, none⟩)), (18, .pointer (some ⟨b10, 0, none⟩)), (19, .int .i64 r16.1)]) [true, true, false, false, false, true] rfl ⟨rfl, rfl, rfl, rfl, rfl, trivial⟩
    refine then_n ?_
    refine f_seq ?_
    refine f_seq ?_
    refine f_region ?_
    refine lv S (rn_move (S.tm rfl)) rfl ?_; clear S; intro a S
    obtain ⟨r17, hr17, h⟩ := bindE h
    refine l_enter1 2 S (b := b1) rfl rfl (fun _ => .blk b1 [v_p_l, .int .i64 r17.2] 25) (fun _ => run_call (vs := [.pointer (some ⟨b1, 0, none⟩), .int .i64 12]) ⟨(S.tm rfl), rfl, trivial⟩ Tryd.call20) (Stream_Flip_ok _ b1 v_p_l p_l (hs_p_l.mono (S.le_arg (fp_sub (i := 2) (e := .blk b1 [v_p_l, .int .i64 r16.2] 25) rfl))) r16.2 (S.holds _ (List.mem_of_getElem? (i := 2) rfl)) 12 _ hr17) rfl (fun _ _ _ h => ⟨h.1, fun _ hc => by cases hc; rfl⟩) ?_; clear S; intro v25 a w42 hv24 hk40 hn24 S
    replace hv24 := hv24.2
    subst hv24
    refine l_done ?_
    replace S := S.nf (L' := [.blk b10 [.string k_ann, .int .i64 r14.1, .int .i64 r15.1] 49, .blk b9 [.string r13.1.Key, .int .i64 r13.1.Metres, .int .i64 r13.1.Stroke, .int .i64 r13.1.Course, .int .i64 r13.1.Legs, .int .i64 r13.1.Sex, .int .i64 r13.1.Young, .int .i64 r13.1.Old] 45]) (K' := [(7, .int .i64 r4.1), (17, .pointer (some ⟨b9, 0, none⟩)), (18, .pointer (some ⟨b10, 0, none⟩)), (19, .int .i64 r16.1), (120, .bool r17.1)]) [true, true, false] rfl ⟨rfl, rfl, rfl, rfl, rfl, trivial⟩
    refine then_n ?_
    obtain ⟨j4, hj4, h⟩ := joinE h
    refine f_join (fun a w' => ∃ x3 : Int, j4 x3 = some r ∧ Sx w [] φ3 [.blk b10 [.string k_ann, .int .i64 r14.1, .int .i64 r15.1] 49, .blk b9 [.string r13.1.Key, .int .i64 r13.1.Metres, .int .i64 r13.1.Stroke, .int .i64 x3, .int .i64 r13.1.Legs, .int .i64 r13.1.Sex, .int .i64 r13.1.Young, .int .i64 r13.1.Old] 45] [(7, .int .i64 r4.1), (17, .pointer (some ⟨b9, 0, none⟩)), (18, .pointer (some ⟨b10, 0, none⟩)), (19, .int .i64 r16.1)] 157 a w') ?_ ?_
    · refine f_cond (S.tm rfl) (fun hb8 => ?_) (fun hb8 => ?_)
      · replace h := iteT h hb8
        refine f_region ?_
        refine lv S (rn_fld fa_45_3 (S.tm rfl)) rfl ?_; clear S; intro a S
        refine l_store S (S.tm rfl) rfl (i := 1) (off := 3) rfl Tryd.sizeOf3 (vs := [.int .i64 33]) rfl rfl rfl rfl ?_; clear S; intro w44 hk41 S
        refine l_done ?_
        replace S := S.nf (L' := [.blk b10 [.string k_ann, .int .i64 r14.1, .int .i64 r15.1] 49, .blk b9 [.string r13.1.Key, .int .i64 r13.1.Metres, .int .i64 r13.1.Stroke, .int .i64 33, .int .i64 r13.1.Legs, .int .i64 r13.1.Sex, .int .i64 r13.1.Young, .int .i64 r13.1.Old] 45]) (K' := [(7, .int .i64 r4.1), (17, .pointer (some ⟨b9, 0, none⟩)), (18, .pointer (some ⟨b10, 0, none⟩)), (19, .int .i64 r16.1)]) [true, true] rfl ⟨rfl, rfl, rfl, rfl, trivial⟩
        refine then_n ?_
        exact ⟨33, h, S.nf [true, true] rfl ⟨rfl, rfl, rfl, rfl, trivial⟩⟩
      · replace h := iteF h hb8
        refine wp_skip ?_
        refine then_n ?_
        exact ⟨r13.1.Course, h, S.nf [true, true] rfl ⟨rfl, rfl, rfl, rfl, trivial⟩⟩
    clear S h; rintro a w43 ⟨x3, h, S⟩; rw [hj4] at h; clear hj4 j4
    refine then_n ?_
    refine f_seq ?_
    refine f_region ?_
    refine lv S (rn_ldA Tryd.isAgg45 Tryd.sizeOf45 (off := 0) (o := 0) (part := [.string r13.1.Key, .int .i64 r13.1.Metres, .int .i64 r13.1.Stroke, .int .i64 x3, .int .i64 r13.1.Legs, .int .i64 r13.1.Sex, .int .i64 r13.1.Young, .int .i64 r13.1.Old]) rfl rfl (S.tm rfl) (S.cellsAt (i := 1) rfl)) rfl ?_; clear S; intro a S
    refine lv S (rn_ldA Tryd.isAgg49 Tryd.sizeOf49 (off := 0) (o := 0) (part := [.string k_ann, .int .i64 r14.1, .int .i64 r15.1]) rfl rfl (S.tm rfl) (S.cellsAt (i := 0) rfl)) rfl ?_; clear S; intro a S
    refine lv S (rn_move (S.tm rfl)) rfl ?_; clear S; intro a S
    refine lv S (rn_move (S.tm rfl)) rfl ?_; clear S; intro a S
    obtain ⟨r18, hr18, h⟩ := bindE h
    refine l_enter S (fun _ => run_call (vs := [.agg (GRace.enc (GRace.mk r13.1.Key r13.1.Metres r13.1.Stroke x3 r13.1.Legs r13.1.Sex r13.1.Young r13.1.Old)).toArray, .agg (GSwimmer.enc (GSwimmer.mk k_ann r14.1 r15.1)).toArray, .int .i64 r4.1, .int .i64 r16.1]) ⟨(S.tm rfl), (S.tm rfl), (S.tm rfl), (S.tm rfl), trivial⟩ Tryd.call21) (swimmer_May_ok _ (GRace.mk r13.1.Key r13.1.Metres r13.1.Stroke x3 r13.1.Legs r13.1.Sex r13.1.Young r13.1.Old) (GSwimmer.mk k_ann r14.1 r15.1) r4.1 r16.1 _ hr18) rfl ?_; clear S; intro v26 a w45 hv25 hk42 hn25 S
    subst hv25
    refine lv S (rn_move (S.tm rfl)) rfl ?_; clear S; intro a S
    refine lv S (rn_extract (S.tm rfl) rfl) rfl ?_; clear S; intro a S
    refine lv S (rn_extract (S.tm rfl) rfl) rfl ?_; clear S; intro a S
    refine lv S (rn_assign (S.tm rfl)) rfl ?_; clear S; intro a S
    refine lv S (rn_assign (S.tm rfl)) rfl ?_; clear S; intro a S
    refine l_done ?_
    replace S := S.nf (L' := [.blk b10 [.string k_ann, .int .i64 r14.1, .int .i64 r15.1] 49, .blk b9 [.string r13.1.Key, .int .i64 r13.1.Metres, .int .i64 r13.1.Stroke, .int .i64 x3, .int .i64 r13.1.Legs, .int .i64 r13.1.Sex, .int .i64 r13.1.Young, .int .i64 r13.1.Old] 45]) (K' := [(7, .int .i64 r4.1), (17, .pointer (some ⟨b9, 0, none⟩)), (18, .pointer (some ⟨b10, 0, none⟩)), (19, .int .i64 r16.1), (20, .bool r18.1), (21, .int .i64 r18.2)]) [true, true] rfl ⟨rfl, rfl, rfl, rfl, rfl, rfl, trivial⟩
    refine then_n ?_
    refine f_seq ?_
    obtain ⟨r19, hr19, h⟩ := bindE h
    obtain ⟨r20, hr20, h⟩ := bindE h
    refine d_region [] ([]) Tryd.mixed S rfl (by kernel_rfl) ?_; clear S; intro w50 hk47 hsel S
    refine d_quiet 0 S hsel rfl rfl rfl (by kernel_rfl) (by kernel_rfl) rfl (fun _ hw => (rn_ldA Tryd.isAgg45 Tryd.sizeOf45 (off := 0) (o := 0) (part := [.string r13.1.Key, .int .i64 r13.1.Metres, .int .i64 r13.1.Stroke, .int .i64 x3, .int .i64 r13.1.Legs, .int .i64 r13.1.Sex, .int .i64 r13.1.Young, .int .i64 r13.1.Old]) rfl rfl (S.tm rfl) ((S.blk_mem (i := 1) (cells := [.string r13.1.Key, .int .i64 r13.1.Metres, .int .i64 r13.1.Stroke, .int .i64 x3, .int .i64 r13.1.Legs, .int .i64 r13.1.Sex, .int .i64 r13.1.Young, .int .i64 r13.1.Old]) (b := b9) (T := 45) rfl (ne_nil (e' := .blk b9 [.string r13.1.Key, .int .i64 r13.1.Metres, .int .i64 r13.1.Stroke, .int .i64 x3, .int .i64 r13.1.Legs, .int .i64 r13.1.Sex, .int .i64 r13.1.Young, .int .i64 r13.1.Old] 45))).kept hw))) ?_; clear S; intro a S
    refine d_quiet 2 S hsel rfl rfl rfl (by kernel_rfl) (by kernel_rfl) rfl (fun _ hw => (rn_ldA Tryd.isAgg49 Tryd.sizeOf49 (off := 0) (o := 0) (part := [.string k_ann, .int .i64 r14.1, .int .i64 r15.1]) rfl rfl (S.tm rfl) ((S.blk_mem (i := 0) (cells := [.string k_ann, .int .i64 r14.1, .int .i64 r15.1]) (b := b10) (T := 49) rfl (ne_nil (e' := .blk b10 [.string k_ann, .int .i64 r14.1, .int .i64 r15.1] 49))).kept hw))) ?_; clear S; intro a S
    refine d_quiet 3 S hsel rfl rfl rfl (by kernel_rfl) (by kernel_rfl) rfl (fun _ hw => (rn_move (S.tm rfl))) ?_; clear S; intro a S
    refine d_quiet 4 S hsel rfl rfl rfl (by kernel_rfl) (by kernel_rfl) rfl (fun _ hw => (rn_move (S.tm rfl))) ?_; clear S; intro a S
    refine d_loud1 1 (by kernel_rfl) rfl ?_
    refine l_enter S (fun _ => run_call (vs := [.agg (GRace.enc (GRace.mk r13.1.Key r13.1.Metres r13.1.Stroke x3 r13.1.Legs r13.1.Sex r13.1.Young r13.1.Old)).toArray]) ⟨(S.tm rfl), trivial⟩ Tryd.call22) (tumbref1_RaceFault_ok _ (GRace.mk r13.1.Key r13.1.Metres r13.1.Stroke x3 r13.1.Legs r13.1.Sex r13.1.Young r13.1.Old) _ hr19) rfl ?_; clear S; intro v30 a w51 hv29 hk48 hn29 S
    subst hv29
    refine l_done ?_
    refine d_next hk48 ?_
    refine d_loud1 5 (by kernel_rfl) rfl ?_
    refine l_enter S (fun _ => run_call (vs := [.agg (GSwimmer.enc (GSwimmer.mk k_ann r14.1 r15.1)).toArray, .int .i64 r4.1, .int .i64 r16.1]) ⟨(S.tm rfl), (S.tm rfl), (S.tm rfl), trivial⟩ Tryd.call23) (tumbref2_AgeFault_ok _ (GSwimmer.mk k_ann r14.1 r15.1) r4.1 r16.1 _ hr20) rfl ?_; clear S; intro v31 a w52 hv30 hk49 hn30 S
    subst hv30
    refine l_done ?_
    refine d_next hk49 ?_
    refine d_loud1 6 (by kernel_rfl) rfl ?_
    refine l_buildSlice S Tryd.underlying65 Tryd.sizeOf30 Tryd.zeroValue30 rfl rfl (pv := [(0, .int .i64 r19), (1, .int .i64 r20)]) ⟨rfl, (S.tm rfl), rfl, (S.tm rfl), trivial⟩ (cs := [.int .i64 r19, .int .i64 r20]) (by kernel_rfl) rfl ?_; clear S; intro a w53 b12 hz15 hk50 S
    refine l_done ?_
    refine d_next hk50 ?_
    refine d_loud1 7 (by kernel_rfl) rfl ?_
    refine l_enter S (fun _ => run_call (vs := [.slice (some ⟨b12, 0, none⟩) 2 2]) ⟨(S.tm rfl), trivial⟩ Tryd.call10) (tumblaw2_errs_ok _ (.slice (some ⟨b12, 0, none⟩) 2 2) [r19, r20] (lit_slcT enc_int S (i := 0) rfl rfl rfl rfl ((ne_nil (e' := .blk b12 [.int .i64 r19, .int .i64 r20] 30)) _ rfl)) _ rfl) rfl ?_; clear S; intro v32 a w54 hv31 hk51 hn31 S
    subst hv31
    refine l_done ?_
    refine d_next hk51 ?_
    refine d_rest [8] hsel (by kernel_rfl) rfl ?_
    clear hsel
    refine s_lv S rfl (rn_assign (S.tm rfl)) rfl ?_; clear S; intro a S
    refine s_done ?_
    replace S := S.nf (L' := [.blk b10 [.string k_ann, .int .i64 r14.1, .int .i64 r15.1] 49, .blk b9 [.string r13.1.Key, .int .i64 r13.1.Metres, .int .i64 r13.1.Stroke, .int .i64 x3, .int .i64 r13.1.Legs, .int .i64 r13.1.Sex, .int .i64 r13.1.Young, .int .i64 r13.1.Old] 45]) (K' := [(7, .int .i64 r4.1), (17, .pointer (some ⟨b9, 0, none⟩)), (18, .pointer (some ⟨b10, 0, none⟩)), (19, .int .i64 r16.1), (20, .bool r18.1), (21, .int .i64 r18.2), (22, .int .i64 (tumblaw2_errs [r19, r20]))]) [false, true, true] rfl ⟨rfl, rfl, rfl, rfl, rfl, rfl, rfl, trivial⟩
    refine then_n ?_
    refine f_seq ?_
    refine f_region ?_
    refine lv S (rn_move (S.tm rfl)) rfl ?_; clear S; intro a S
    refine lv S (rn_move (S.tm rfl)) rfl ?_; clear S; intro a S
    refine lv S (rn_eql (S.tm rfl) (S.tm rfl)) rfl ?_; clear S; intro a S
    refine lv S (rn_move (S.tm rfl)) rfl ?_; clear S; intro a S
    obtain ⟨j5, hj5, h⟩ := joinE h
    refine f_cutm 12 (fun a w' => ∃ c2, j5 c2 = some r ∧ Keep [] w54 w' ∧ Sx w [] φ3 [.blk b10 [.string k_ann, .int .i64 r14.1, .int .i64 r15.1] 49, .blk b9 [.string r13.1.Key, .int .i64 r13.1.Metres, .int .i64 r13.1.Stroke, .int .i64 x3, .int .i64 r13.1.Legs, .int .i64 r13.1.Sex, .int .i64 r13.1.Young, .int .i64 r13.1.Old] 45] [(153, .bool c2)] 157 a w') ?_ ?_
    · rcases Bool.eq_false_or_eq_true (decide (r18.2 = (tumblaw2_errs [r19, r20]))) with hb9 | hb9
      · replace h := iteT h hb9
        refine l_want S rfl rfl rfl hb9 ?_
        refine lv S (rn_move (S.tm rfl)) rfl ?_; clear S; intro a S
        refine l_want S rfl rfl rfl hb9 ?_
        refine lv S (rn_move (S.tm rfl)) rfl ?_; clear S; intro a S
        refine l_want S rfl rfl rfl hb9 ?_
        refine lv S (rn_eql (S.tm rfl) rfl) rfl ?_; clear S; intro a S
        refine l_want S rfl rfl rfl hb9 ?_
        refine lv S (rn_move (S.tm rfl)) rfl ?_; clear S; intro a S
        obtain ⟨j6, hj6, h⟩ := joinE h
        refine f_cutm 6 (fun a w' => ∃ c3, j6 c3 = some r ∧ Keep [] w54 w' ∧ Sx w [] φ3 [.blk b10 [.string k_ann, .int .i64 r14.1, .int .i64 r15.1] 49, .blk b9 [.string r13.1.Key, .int .i64 r13.1.Metres, .int .i64 r13.1.Stroke, .int .i64 x3, .int .i64 r13.1.Legs, .int .i64 r13.1.Sex, .int .i64 r13.1.Young, .int .i64 r13.1.Old] 45] [(141, .bool (decide (r18.2 = (tumblaw2_errs [r19, r20])))), (142, .bool r18.1), (151, .bool c3)] 157 a w') ?_ ?_
        · rcases Bool.eq_false_or_eq_true (decide ((tumblaw2_errs [r19, r20]) = 0)) with hb10 | hb10
          · replace h := iteT h hb10
            refine l_want S rfl rfl rfl hb10 ?_
            refine lv S (rn_ldA Tryd.isAgg45 Tryd.sizeOf45 (off := 0) (o := 0) (part := [.string r13.1.Key, .int .i64 r13.1.Metres, .int .i64 r13.1.Stroke, .int .i64 x3, .int .i64 r13.1.Legs, .int .i64 r13.1.Sex, .int .i64 r13.1.Young, .int .i64 r13.1.Old]) rfl rfl (S.tm rfl) (S.cellsAt (i := 1) rfl)) rfl ?_; clear S; intro a S
            refine l_want S rfl rfl rfl hb10 ?_
            refine lv S (rn_ldA Tryd.isAgg49 Tryd.sizeOf49 (off := 0) (o := 0) (part := [.string k_ann, .int .i64 r14.1, .int .i64 r15.1]) rfl rfl (S.tm rfl) (S.cellsAt (i := 0) rfl)) rfl ?_; clear S; intro a S
            refine l_want S rfl rfl rfl hb10 ?_
            refine lv S (rn_move (S.tm rfl)) rfl ?_; clear S; intro a S
            refine l_want S rfl rfl rfl hb10 ?_
            refine lv S (rn_move (S.tm rfl)) rfl ?_; clear S; intro a S
            refine l_want S rfl rfl rfl hb10 ?_
            obtain ⟨r21, hr21, h⟩ := bindE h
            refine l_enter S (fun _ => run_call (vs := [.agg (GRace.enc (GRace.mk r13.1.Key r13.1.Metres r13.1.Stroke x3 r13.1.Legs r13.1.Sex r13.1.Young r13.1.Old)).toArray, .agg (GSwimmer.enc (GSwimmer.mk k_ann r14.1 r15.1)).toArray, .int .i64 r4.1, .int .i64 r16.1]) ⟨(S.tm rfl), (S.tm rfl), (S.tm rfl), (S.tm rfl), trivial⟩ Tryd.call24) (tumbref2_MayFor_ok _ (GRace.mk r13.1.Key r13.1.Metres r13.1.Stroke x3 r13.1.Legs r13.1.Sex r13.1.Young r13.1.Old) (GSwimmer.mk k_ann r14.1 r15.1) r4.1 r16.1 _ hr21) rfl ?_; clear S; intro v33 a w57 hv32 hk52 hn32 S
            subst hv32
            refine l_want S rfl rfl rfl hb9 ?_
            refine lv S (rn_and_t hb10 (S.tm rfl) (S.tm rfl)) rfl ?_; clear S; intro a S
            refine l_done ?_
            refine then_n ?_
            exact ⟨_, h, hk52, S.nf [true, true] rfl ⟨rfl, rfl, rfl, trivial⟩⟩
          · replace h := iteF h hb10
            refine l_skip S rfl rfl rfl (neq_f hb10) rfl ?_ rfl; clear S; intro a S
            refine l_skip S rfl rfl rfl (neq_f hb10) rfl ?_ rfl; clear S; intro a S
            refine l_skip S rfl rfl rfl (neq_f hb10) rfl ?_ rfl; clear S; intro a S
            refine l_skip S rfl rfl rfl (neq_f hb10) rfl ?_ rfl; clear S; intro a S
            refine l_skip S rfl rfl rfl (neq_f hb10) rfl ?_ rfl; clear S; intro a S
            refine l_want S rfl rfl rfl hb9 ?_
            refine lv S (rn_and_f true hb10 (S.tm rfl) rfl) rfl ?_; clear S; intro a S
            refine l_done ?_
            refine then_n ?_
            exact ⟨_, h, Keep.refl _ _, S.nf [true, true] rfl ⟨rfl, rfl, rfl, trivial⟩⟩
        clear S h; rintro a w56 ⟨c3, h, hk53, S⟩; rw [hj6] at h; clear hj6 j6
        refine l_want S rfl rfl rfl hb9 ?_
        refine lv S (rn_beql Tryd.underlying4 (S.tm rfl) (S.tm rfl)) rfl ?_; clear S; intro a S
        refine lv S (rn_and_t hb9 (S.tm rfl) (S.tm rfl)) rfl ?_; clear S; intro a S
        refine l_done ?_
        refine then_n ?_
        exact ⟨_, h, hk53, S.nf [true, true] rfl ⟨rfl, trivial⟩⟩
      · replace h := iteF h hb9
        refine l_skip S rfl rfl rfl (neq_f hb9) rfl ?_ rfl; clear S; intro a S
        refine l_skip S rfl rfl rfl (neq_f hb9) rfl ?_ rfl; clear S; intro a S
        refine l_skip S rfl rfl rfl (neq_f hb9) rfl ?_ rfl; clear S; intro a S
        refine l_skip S rfl rfl rfl (neq_f hb9) rfl ?_ rfl; clear S; intro a S
        refine l_skipU S rfl rfl rfl rfl ?_; clear S; intro a S
        refine l_skipU S rfl rfl rfl rfl ?_; clear S; intro a S
        refine l_skipU S rfl rfl rfl rfl ?_; clear S; intro a S
        refine l_skipU S rfl rfl rfl rfl ?_; clear S; intro a S
        refine l_skipU S rfl rfl rfl rfl ?_; clear S; intro a S
        refine l_skip S rfl rfl rfl (neq_f hb9) rfl ?_ rfl; clear S; intro a S
        refine l_skip S rfl rfl rfl (neq_f hb9) rfl ?_ rfl; clear S; intro a S
        refine lv S (rn_and_f true hb9 (S.tm rfl) rfl) rfl ?_; clear S; intro a S
        refine l_done ?_
        refine then_n ?_
        exact ⟨_, h, Keep.refl _ _, S.nf [true, true] rfl ⟨rfl, trivial⟩⟩
    clear S h; rintro a w55 ⟨c2, h, hk54, S⟩; rw [hj5] at h; clear hj5 j5
    refine lv S (rn_move (S.tm rfl)) rfl ?_; clear S; intro a S
    obtain ⟨j7, hj7, h⟩ := joinE h
    refine f_cutm 2 (fun a w' => ∃ c4, j7 c4 = some r ∧ Keep [] w55 w' ∧ Sx w [] φ3 [.blk b10 [.string k_ann, .int .i64 r14.1, .int .i64 r15.1] 49, .blk b9 [.string r13.1.Key, .int .i64 r13.1.Metres, .int .i64 r13.1.Stroke, .int .i64 x3, .int .i64 r13.1.Legs, .int .i64 r13.1.Sex, .int .i64 r13.1.Young, .int .i64 r13.1.Old] 45] [(156, .bool c4)] 157 a w') ?_ ?_
    · rcases Bool.eq_false_or_eq_true c2 with hb11 | hb11
      · replace h := iteT h hb11
        refine l_want S rfl rfl rfl hb11 ?_
        obtain ⟨r22, hr22, h⟩ := bindE h
        refine l_enter S (fun _ => run_call (vs := []) trivial Tryd.call25) (tumblaw2_dated_ok _ _ hr22) rfl ?_; clear S; intro v34 a w59 hv33 hk55 hn33 S
        subst hv33
        refine lv S (rn_and_t hb11 (S.tm rfl) (S.tm rfl)) rfl ?_; clear S; intro a S
        refine l_done ?_
        refine then_n ?_
        exact ⟨_, h, hk55, S.nf [true, true] rfl ⟨rfl, trivial⟩⟩
      · replace h := iteF h hb11
        refine l_skip S rfl rfl rfl (neq_f hb11) rfl ?_ rfl; clear S; intro a S
        refine lv S (rn_and_f true hb11 (S.tm rfl) rfl) rfl ?_; clear S; intro a S
        refine l_done ?_
        refine then_n ?_
        exact ⟨_, h, Keep.refl _ _, S.nf [true, true] rfl ⟨rfl, trivial⟩⟩
    clear S h; rintro a w58 ⟨c4, h, hk56, S⟩; rw [hj7] at h; clear hj7 j7
    refine lv S (rn_assign (S.tm rfl)) rfl ?_; clear S; intro a S
    refine l_done ?_
    replace S := S.nf (L' := []) (K' := [(2, .bool c4)]) [false, false] rfl ⟨rfl, trivial⟩
    refine then_n ?_
    refine wp_ret ?_
    obtain rfl := Option.some.inj h
    exact f_ret S Tryd.results3 rfl rfl
end Go.Proofs.YtoojifenkcnjdaaDoor
