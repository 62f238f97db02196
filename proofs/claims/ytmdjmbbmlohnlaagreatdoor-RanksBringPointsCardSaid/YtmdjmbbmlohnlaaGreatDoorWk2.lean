/- Each Go function computes its plain twin, by program. -/
import Derived.Test.YtmdjmbbmlohnlaaGreatDoorWk1
namespace Go.Proofs.YtmdjmbbmlohnlaaGreatDoor
open Go
set_option maxRecDepth 20000 in
theorem points_checkAll_ok (w : World) (O : Value) (Ab : List GScored) (Ad : Slc (view w []) 5 O (Ab.map GScored.enc)) (r : Int) (h : points_checkAll Ab = some r) :
    Calls Tryz.prog 41 [O].toArray w (Ret w [] fun _ v _ => v = iV r) := by
 refine f_enter [] [] Tryz.func41 rfl Tryz.ntmps41 rfl (by simp) (by simp [fps]) (by simp [fps]) fun a S => ?_
 unfold points_checkAll at h
 replace S := S.nk [] [(0, O)] [] rfl ⟨rfl, trivial⟩
 refine Fs (Fg (lv S (Ra rfl) rfl ?_));clear S;intro a S
 refine Ld (Tn (Fs (Fg (l_makeMap (κ := Gpoints_entry) (ν := Bool) S rfl (fun x => Value.agg (Gpoints_entry.enc x).toArray) Value.bool ?_))));clear S;intro a w1 b1 hz1 hk1 S
 refine lv S (Ra (S.tm rfl)) rfl ?_;clear S;intro a S
 refine Ld (Tn (Fs (Fs (Fg (lv S (Rm (S.tm rfl)) rfl ?_)))));clear S;intro a S
 refine lv S (rn_lenT sl_29 (S.tm rfl) (slc_len Ad)) rfl ?_;clear S;intro a S
 refine lv S (Rm rfl) rfl ?_;clear S;intro a S
 refine Ld (Tn ?_)
 replace S := S.nk [.map b1 (ments (fun x => Value.agg (Gpoints_entry.enc x).toArray) Value.bool ([] : List (Gpoints_entry × Bool))) ([] : List (Gpoints_entry × Bool)).length] [(0, O), (3, .map (some b1)), (17, O), (18, iV (Ab.length : Int)), (19, iV 0)] [true] rfl (subR rfl)
 obtain ⟨j1, hj1, h⟩ := joinE h
 refine f_join (fun a w' => ∃ x1 : List (Gpoints_entry × Bool), j1 x1 = some r ∧ Sx w [] nov [.map b1 (ments (fun x => Value.agg (Gpoints_entry.enc x).toArray) Value.bool x1) x1.length] [(0, O)] 122 a w') ?_ ?_
 ·refine wp_block (f_loop (fun (ys1 : List GScored) a w' => ∃ i1 : Nat, ∃ x1 : List (Gpoints_entry × Bool), (∃ dn, Ab = dn ++ ys1 ∧ dn.length = i1) ∧ points_checkAll_l1 j1 ys1 i1 x1 = some r ∧ Sx w [] nov [.map b1 (ments (fun x => Value.agg (Gpoints_entry.enc x).toArray) Value.bool x1) x1.length] [(0, O), (3, .map (some b1)), (17, O), (18, iV (Ab.length : Int)), (19, iV (i1 : Int))] 122 a w') List.length Ab ⟨0, ([] : List (Gpoints_entry × Bool)), ⟨[], rfl, rfl⟩, h, S.nf [true] rfl (subR rfl)⟩ ?_)
  clear S h;rintro ys1 a w2 ⟨i1, x1, ⟨dn, hd1, hi1⟩, h, S⟩
  cases ys1 with
  | nil =>
   rw [points_checkAll_l1.eq_1] at h
   refine Fs (Fg (lv S (rn_lss (S.tm rfl) (S.tm rfl)) rfl ?_));clear S;intro a S
   refine Ld ?_
   replace S := S.nk [.map b1 (ments (fun x => Value.agg (Gpoints_entry.enc x).toArray) Value.bool x1) x1.length] [(0, O), (3, .map (some b1)), (17, O), (18, iV (Ab.length : Int)), (19, iV (i1 : Int)), (20, bV (decide ((i1 : Int) < (Ab.length : Int))))] [true] rfl (subR rfl)
   refine Tn (Fs (wp_cond_false ((S.tm rfl).trans (congrArg Value.bool (rng_nil hd1 hi1))) (wp_exit (then_x (then_x (x_same ?_))))))
   refine Tn ?_
   exact ⟨x1, h, S.nf [true] rfl ⟨rfl, trivial⟩⟩
  | cons y1 ys1 =>
   rw [points_checkAll_l1.eq_2] at h
   refine Fs (Fg (lv S (rn_lss (S.tm rfl) (S.tm rfl)) rfl ?_));clear S;intro a S
   refine Ld ?_
   replace S := S.nk [.map b1 (ments (fun x => Value.agg (Gpoints_entry.enc x).toArray) Value.bool x1) x1.length] [(0, O), (3, .map (some b1)), (17, O), (18, iV (Ab.length : Int)), (19, iV (i1 : Int)), (20, bV (decide ((i1 : Int) < (Ab.length : Int))))] [true] rfl (subR rfl)
   refine Tn (Fs (wp_cond_true ((S.tm rfl).trans (congrArg Value.bool (rng_cons hd1 hi1))) (wp_skip (Tn (Fs (wp_block ?_))))))
   refine Fs (Fg ?_)
   obtain ⟨b2, o1, hm1, hr1⟩ := rn_indexT (a := a) (x := .tmp 17) (y := .tmp 19) (ty := 0) sl_29 Ad (get_mid hd1 hi1) rfl (S.tm rfl) (S.tm rfl)
   refine lv S (hr1 _) rfl ?_;clear S;intro a S
   clear hr1
   refine lv S (rn_ldA Tryz.isAgg54 Tryz.sizeOf54 (off := o1) (o := 0) (part := (GScored.enc y1)) rfl rfl (S.tm rfl) (hm1.at S.emb0)) rfl ?_;clear S;intro a S
   refine l_alloc S Tryz.zeroValue54 (cs := [sV k_empty, sV k_empty, sV k_empty, iV 0, bV false]) rfl rfl ?_;clear S;intro a w4 b3 hz2 hk2 S
   refine l_store S (S.tm rfl) (S.tm rfl) (i := 0) (off := 0) rfl Tryz.sizeOf54 (vs := (GScored.enc y1)) rfl rfl rfl rfl ?_;clear S;intro w5 hk3 S
   refine Ld (Tn (Fs (Fs (Fg (lv S (Rm (S.tm rfl)) rfl ?_)))));clear S;intro a S
   refine lv S (rn_fld fa_54_0 (S.tm rfl)) rfl ?_;clear S;intro a S
   refine lv S (rn_load Tryz.isAgg9 (S.tm rfl) (S.cell (i := 0) rfl rfl)) rfl ?_;clear S;intro a S
   refine lv S (rn_fld fa_54_1 (S.tm rfl)) rfl ?_;clear S;intro a S
   refine lv S (rn_load Tryz.isAgg9 (S.tm rfl) (S.cell (i := 0) rfl rfl)) rfl ?_;clear S;intro a S
   refine lv S (rn_bld bt_98 (pv := [(0, sV y1.Race), (1, sV y1.Who)]) ⟨rfl, (S.tm rfl), rfl, (S.tm rfl), trivial⟩ (cs := [sV y1.Race, sV y1.Who]) (by kernel_rfl)) rfl ?_;clear S;intro a S
   refine lv S (rn_lookup (kv := (fun x => Value.agg (Gpoints_entry.enc x).toArray)) (vv := Value.bool) (m := x1) (key := (Gpoints_entry.mk y1.Race y1.Who)) (z := false) (S.map_at (i := 1) rfl) Tryz.underlying96 keyT_98 Tryz.zeroValue4 (S.tm rfl) (S.tm rfl)) rfl ?_;clear S;intro a S
   refine Ld ?_
   replace S := S.nk [.blk b3 (GScored.enc y1) 54, .map b1 (ments (fun x => Value.agg (Gpoints_entry.enc x).toArray) Value.bool x1) x1.length] [(0, O), (3, .map (some b1)), (5, .pointer (some ⟨b3, 0, none⟩)), (17, O), (18, iV (Ab.length : Int)), (19, iV (i1 : Int)), (29, bV (mgetD x1 (Gpoints_entry.mk y1.Race y1.Who) false))] [true, true] rfl (subR rfl)
   refine Tn (f_cond (S.tm rfl) (fun hb1 => ?_) (fun hb1 => ?_))
   ·replace h := iteT h hb1
    refine Fs (Fg (lv S (Ra rfl) rfl ?_));clear S;intro a S
    refine Ld (Tn (wp_ret (then_r (blk_r (then_r (then_r ?_))))))
    refine blk_r (then_r (then_r ?_))
    obtain rfl := Option.some.inj h
    exact f_ret S Tryz.results41 rfl rfl
   ·replace h := iteF h hb1
    refine wp_skip (Tn (Fg (lv S (Rm (S.tm rfl)) rfl ?_)));clear S;intro a S
    refine lv S (rn_fld fa_54_0 (S.tm rfl)) rfl ?_;clear S;intro a S
    refine lv S (rn_load Tryz.isAgg9 (S.tm rfl) (S.cell (i := 0) rfl rfl)) rfl ?_;clear S;intro a S
    refine lv S (rn_fld fa_54_1 (S.tm rfl)) rfl ?_;clear S;intro a S
    refine lv S (rn_load Tryz.isAgg9 (S.tm rfl) (S.cell (i := 0) rfl rfl)) rfl ?_;clear S;intro a S
    refine lv S (rn_bld bt_98 (pv := [(0, sV y1.Race), (1, sV y1.Who)]) ⟨rfl, (S.tm rfl), rfl, (S.tm rfl), trivial⟩ (cs := [sV y1.Race, sV y1.Who]) (by kernel_rfl)) rfl ?_;clear S;intro a S
    refine l_mapUpdate (kv := (fun x => Value.agg (Gpoints_entry.enc x).toArray)) (vv := Value.bool) (m := x1) (key := (Gpoints_entry.mk y1.Race y1.Who)) (val := true) S (i := 1) rfl Tryz.underlying96 keyT_98 (S.tm rfl) (S.tm rfl) rfl ?_;clear S;intro w6 hk4 S
    refine Ld (blk_n (Tn (Fg (lv S (rn_add (S.tm rfl) rfl) rfl ?_))));clear S;intro a S
    refine lv S (Rm (S.tm rfl)) rfl ?_;clear S;intro a S
    refine Ld (Tn ?_)
    exact ⟨ys1, ⟨i1 + 1, (mput x1 (Gpoints_entry.mk y1.Race y1.Who) true), ⟨_, (hd1).trans (List.append_cons _ _ _), by simp [hi1]⟩, h, S.nf [false, true] rfl ⟨rfl, rfl, rfl, rfl, (congrArg (fun z => some (Value.int .i64 z)) (rng_next hd1 hi1 (slc_max Ad))), trivial⟩⟩, Nat.lt_succ_self _⟩
 clear S h;rintro a w3 ⟨x1, h, S⟩;rw [hj1] at h;clear hj1 j1
 refine Tn (Fs (Fg (lv S (Rm (S.tm rfl)) rfl ?_)));clear S;intro a S
 obtain ⟨r1, hr2, h⟩ := bindE h
 have hz3 := S.keep.size
 refine l_enter S (fun _ => run_call (vs := [O]) ⟨(S.tm rfl), trivial⟩ Tryz.call55) (points_races_ok _ (join (view w []) nov) (join_le (S.le_arg nil_sub) (S.le_new nil_sub)) O Ab (Ad.mono (le_join_left _ _)) _ hr2) rfl ?_;clear S;intro v1 a w7 hv1 hk5 hn1 S
 obtain ⟨φ1, hl1, hm2, S⟩ := S.see' hn1 hz3
 obtain ⟨rs1, ho2, hr3⟩ := hv1
 have hs1 := ho2.mono (all_step hl1 hm2)
 have hr4 := rels_29 (all_step hl1 hm2) hr3
 refine lv S (Ra (S.tm rfl)) rfl ?_;clear S;intro a S
 refine Ld (Tn (Fs (Fs (Fg (lv S (Rm (S.tm rfl)) rfl ?_)))));clear S;intro a S
 refine lv S (rn_lenT sl_87 (S.tm rfl) (slc_lenD hs1 hr4)) rfl ?_;clear S;intro a S
 refine lv S (Rm rfl) rfl ?_;clear S;intro a S
 refine Ld (Tn ?_)
 replace S := S.nk [] [(6, v1), (39, v1), (40, iV (r1.length : Int)), (41, iV 0)] [false] rfl (subR rfl)
 obtain ⟨j2, hj2, h⟩ := joinE h
 refine f_join (fun a w' => j2 = some r ∧ Sx w [] φ1 [] [(6, v1)] 122 a w') ?_ ?_
 ·refine wp_block (f_loop (fun (ys2 : List (List GScored)) a w' => ∃ i2 : Nat, (∃ dn, r1 = dn ++ ys2 ∧ dn.length = i2) ∧ points_checkAll_l2 j2 ys2 i2 = some r ∧ Sx w [] φ1 [] [(6, v1), (39, v1), (40, iV (r1.length : Int)), (41, iV (i2 : Int))] 122 a w') List.length r1 ⟨0, ⟨[], rfl, rfl⟩, h, S.nf [] rfl (subR rfl)⟩ ?_)
  clear S h;rintro ys2 a w8 ⟨i2, ⟨dn, hd2, hi2⟩, h, S⟩
  cases ys2 with
  | nil =>
   rw [points_checkAll_l2.eq_1] at h
   refine Fs (Fg (lv S (rn_lss (S.tm rfl) (S.tm rfl)) rfl ?_));clear S;intro a S
   refine Ld ?_
   replace S := S.nk [] [(6, v1), (39, v1), (40, iV (r1.length : Int)), (41, iV (i2 : Int)), (42, bV (decide ((i2 : Int) < (r1.length : Int))))] [] rfl (subR rfl)
   refine Tn (Fs (wp_cond_false ((S.tm rfl).trans (congrArg Value.bool (rng_nil hd2 hi2))) (wp_exit (then_x (then_x (x_same ?_))))))
   refine Tn ?_
   exact ⟨h, S.nf [] rfl ⟨rfl, trivial⟩⟩
  | cons y2 ys2 =>
   rw [points_checkAll_l2.eq_2] at h
   refine Fs (Fg (lv S (rn_lss (S.tm rfl) (S.tm rfl)) rfl ?_));clear S;intro a S
   refine Ld ?_
   replace S := S.nk [] [(6, v1), (39, v1), (40, iV (r1.length : Int)), (41, iV (i2 : Int)), (42, bV (decide ((i2 : Int) < (r1.length : Int))))] [] rfl (subR rfl)
   refine Tn (Fs (wp_cond_true ((S.tm rfl).trans (congrArg Value.bool (rng_cons hd2 hi2))) (wp_skip (Tn (Fs (wp_block ?_))))))
   refine Fs (Fg ?_)
   obtain ⟨r2, hg1, hl2⟩ := All2.at hr4 (get_mid hd2 hi2)
   have hs2 := hl2
   obtain ⟨b4, o2, hm3, hr5⟩ := rn_indexT (a := a) (x := .tmp 39) (y := .tmp 41) (ty := 0) sl_87 hs1 hg1 rfl (S.tm rfl) (S.tm rfl)
   refine lv S (hr5 _) rfl ?_;clear S;intro a S
   clear hr5
   refine lv S (rn_ld Tryz.isAgg29 (off := o2) (o := 0) (S.tm rfl) (hm3.at (emb_join S.emb0 S.emb)) rfl) rfl ?_;clear S;intro a S
   refine l_alloc S Tryz.zeroValue29 (cs := [.slice none 0 0]) rfl rfl ?_;clear S;intro a w10 b5 hz4 hk6 S
   refine l_store S (S.tm rfl) (S.tm rfl) (i := 0) (off := 0) rfl Tryz.sizeOf29 (vs := [r2.val]) (SlcLen.cells (slc_len hs2)) rfl rfl (all1 (SlcLen.one (slc_len hs2)) rfl) ?_;clear S;intro w11 hk7 S
   refine Ld (Tn (Fs (Fg (lv S (rn_load Tryz.isAgg29 (S.tm rfl) (S.cell (i := 0) rfl rfl)) rfl ?_))));clear S;intro a S
   refine lv S (rn_makeFunc (us := #[]) (xs := [].toArray) (ys := [.tmp 8].toArray) (by simp) (evA ⟨(S.tm rfl), trivial⟩ (vs := [.pointer (some ⟨b5, 0, none⟩)]))) rfl ?_;clear S;intro a S
   obtain ⟨r3, hr6, h⟩ := bindE h
   refine l_enter S (fun _ => run_call (vs := [r2.val, .func (.func 68) #[] #[.pointer (some ⟨b5, 0, none⟩)]]) ⟨(S.tm rfl), (S.tm rfl), trivial⟩ Tryz.call67) (slices_ContainsFunc_Scored_points_checkAll_c1_ok _ r2.val y2 (hs2.mono (join_le (S.le_arg nil_sub) (S.le_new nil_sub))) b5 r2.val y2 (hs2.mono (join_le (S.le_arg nil_sub) (S.le_new nil_sub))) (S.blk_view (i := 0) rfl ((ne_nil (e' := .blk b5 [r2.val] 29)) _ rfl)) _ hr6) rfl ?_;clear S;intro v2 a w12 hv2 hk8 hn2 S
   subst hv2
   refine Ld (Tn (f_cond (S.tm rfl) (fun hb2 => ?_) (fun hb2 => ?_)))
   ·replace h := iteT h hb2
    refine Fs (Fg (lv S (Ra rfl) rfl ?_));clear S;intro a S
    refine Ld (Tn (wp_ret (blk_r (then_r (then_r (blk_r ?_))))))
    refine then_r (then_r ?_)
    obtain rfl := Option.some.inj h
    exact f_ret S Tryz.results41 rfl rfl
   ·replace h := iteF h hb2
    refine wp_skip (blk_n (Tn (Fg (lv S (rn_add (S.tm rfl) rfl) rfl ?_))));clear S;intro a S
    refine lv S (Rm (S.tm rfl)) rfl ?_;clear S;intro a S
    refine Ld (Tn ?_)
    exact ⟨ys2, ⟨i2 + 1, ⟨_, (hd2).trans (List.append_cons _ _ _), by simp [hi2]⟩, h, S.nf [false] rfl ⟨rfl, rfl, rfl, (congrArg (fun z => some (Value.int .i64 z)) (rng_next hd2 hi2 (slc_maxD hs1 hr4))), trivial⟩⟩, Nat.lt_succ_self _⟩
 clear S h;rintro a w9 ⟨h, S⟩;rw [hj2] at h;clear hj2 j2
 refine Tn (Fs (Fs (Fg (lv S (Rm (S.tm rfl)) rfl ?_))));clear S;intro a S
 refine lv S (rn_lenT sl_87 (S.tm rfl) (slc_lenD hs1 hr4)) rfl ?_;clear S;intro a S
 refine lv S (Rm rfl) rfl ?_;clear S;intro a S
 refine Ld (Tn ?_)
 replace S := S.nk [] [(6, v1), (49, v1), (50, iV (r1.length : Int)), (51, iV 0)] [] rfl (subR rfl)
 obtain ⟨j3, hj3, h⟩ := joinE h
 refine f_join (fun a w' => j3 = some r ∧ Sx w [] φ1 [] [(6, v1)] 122 a w') ?_ ?_
 ·refine wp_block (f_loop (fun (ys3 : List (List GScored)) a w' => ∃ i3 : Nat, (∃ dn, r1 = dn ++ ys3 ∧ dn.length = i3) ∧ points_checkAll_l3 j3 ys3 i3 = some r ∧ Sx w [] φ1 [] [(6, v1), (49, v1), (50, iV (r1.length : Int)), (51, iV (i3 : Int))] 122 a w') List.length r1 ⟨0, ⟨[], rfl, rfl⟩, h, S.nf [] rfl (subR rfl)⟩ ?_)
  clear S h;rintro ys3 a w13 ⟨i3, ⟨dn, hd3, hi3⟩, h, S⟩
  cases ys3 with
  | nil =>
   rw [points_checkAll_l3.eq_1] at h
   refine Fs (Fg (lv S (rn_lss (S.tm rfl) (S.tm rfl)) rfl ?_));clear S;intro a S
   refine Ld ?_
   replace S := S.nk [] [(6, v1), (49, v1), (50, iV (r1.length : Int)), (51, iV (i3 : Int)), (52, bV (decide ((i3 : Int) < (r1.length : Int))))] [] rfl (subR rfl)
   refine Tn (Fs (wp_cond_false ((S.tm rfl).trans (congrArg Value.bool (rng_nil hd3 hi3))) (wp_exit (then_x (then_x (x_same ?_))))))
   refine Tn ?_
   exact ⟨h, S.nf [] rfl ⟨rfl, trivial⟩⟩
  | cons y3 ys3 =>
   rw [points_checkAll_l3.eq_2] at h
   refine Fs (Fg (lv S (rn_lss (S.tm rfl) (S.tm rfl)) rfl ?_));clear S;intro a S
   refine Ld ?_
   replace S := S.nk [] [(6, v1), (49, v1), (50, iV (r1.length : Int)), (51, iV (i3 : Int)), (52, bV (decide ((i3 : Int) < (r1.length : Int))))] [] rfl (subR rfl)
   refine Tn (Fs (wp_cond_true ((S.tm rfl).trans (congrArg Value.bool (rng_cons hd3 hi3))) (wp_skip (Tn (Fs (wp_block ?_))))))
   refine Fs (Fg ?_)
   obtain ⟨r4, hg2, hl3⟩ := All2.at hr4 (get_mid hd3 hi3)
   have hs3 := hl3
   obtain ⟨b6, o3, hm4, hr7⟩ := rn_indexT (a := a) (x := .tmp 49) (y := .tmp 51) (ty := 0) sl_87 hs1 hg2 rfl (S.tm rfl) (S.tm rfl)
   refine lv S (hr7 _) rfl ?_;clear S;intro a S
   clear hr7
   refine lv S (rn_ld Tryz.isAgg29 (off := o3) (o := 0) (S.tm rfl) (hm4.at (emb_join S.emb0 S.emb)) rfl) rfl ?_;clear S;intro a S
   refine lv S (Ra (S.tm rfl)) rfl ?_;clear S;intro a S
   refine Ld (Tn (Fs (Fg (lv S (Rm (S.tm rfl)) rfl ?_))));clear S;intro a S
   refine lv S (rn_lenT sl_29 (S.tm rfl) (slc_len hs3)) rfl ?_;clear S;intro a S
   refine lv S (Rm rfl) rfl ?_;clear S;intro a S
   refine Ld (Tn ?_)
   replace S := S.nk [] [(6, v1), (10, r4.val), (49, v1), (50, iV (r1.length : Int)), (51, iV (i3 : Int)), (55, r4.val), (56, iV (y3.length : Int)), (57, iV 0)] [] rfl (subR rfl)
   obtain ⟨j4, hj4, h⟩ := joinE h
   refine f_join (fun a w' => j4 = some r ∧ Sx w [] φ1 [] [(6, v1), (49, v1), (50, iV (r1.length : Int)), (51, iV (i3 : Int))] 122 a w') ?_ ?_
   ·refine wp_block (f_loop (fun (ys4 : List GScored) a w' => ∃ i4 : Nat, (∃ dn, y3 = dn ++ ys4 ∧ dn.length = i4) ∧ points_checkAll_l4 y3 j4 ys4 i4 = some r ∧ Sx w [] φ1 [] [(6, v1), (10, r4.val), (49, v1), (50, iV (r1.length : Int)), (51, iV (i3 : Int)), (55, r4.val), (56, iV (y3.length : Int)), (57, iV (i4 : Int))] 122 a w') List.length y3 ⟨0, ⟨[], rfl, rfl⟩, h, S.nf [] rfl (subR rfl)⟩ ?_)
    clear S h;rintro ys4 a w15 ⟨i4, ⟨dn, hd4, hi4⟩, h, S⟩
    cases ys4 with
    | nil =>
     rw [points_checkAll_l4.eq_1] at h
     refine Fs (Fg (lv S (rn_lss (S.tm rfl) (S.tm rfl)) rfl ?_));clear S;intro a S
     refine Ld ?_
     replace S := S.nk [] [(6, v1), (10, r4.val), (49, v1), (50, iV (r1.length : Int)), (51, iV (i3 : Int)), (55, r4.val), (56, iV (y3.length : Int)), (57, iV (i4 : Int)), (58, bV (decide ((i4 : Int) < (y3.length : Int))))] [] rfl (subR rfl)
     refine Tn (Fs (wp_cond_false ((S.tm rfl).trans (congrArg Value.bool (rng_nil hd4 hi4))) (wp_exit (then_x (then_x (x_same ?_))))))
     refine Tn ?_
     exact ⟨h, S.nf [] rfl (subR rfl)⟩
    | cons y4 ys4 =>
     rw [points_checkAll_l4.eq_2] at h
     refine Fs (Fg (lv S (rn_lss (S.tm rfl) (S.tm rfl)) rfl ?_));clear S;intro a S
     refine Ld ?_
     replace S := S.nk [] [(6, v1), (10, r4.val), (49, v1), (50, iV (r1.length : Int)), (51, iV (i3 : Int)), (55, r4.val), (56, iV (y3.length : Int)), (57, iV (i4 : Int)), (58, bV (decide ((i4 : Int) < (y3.length : Int))))] [] rfl (subR rfl)
     refine Tn (Fs (wp_cond_true ((S.tm rfl).trans (congrArg Value.bool (rng_cons hd4 hi4))) (wp_skip (Tn (Fs (wp_block ?_))))))
     refine Fs (Fg (lv S (Rm (S.tm rfl)) rfl ?_));clear S;intro a S
     obtain ⟨b7, o4, hm5, hr8⟩ := rn_indexT (a := a) (x := .tmp 55) (y := .tmp 57) (ty := 0) sl_29 hs3 (get_mid hd4 hi4) rfl (S.tm rfl) (S.tm rfl)
     refine lv S (hr8 _) rfl ?_;clear S;intro a S
     clear hr8
     refine lv S (rn_ldA Tryz.isAgg54 Tryz.sizeOf54 (off := o4) (o := 0) (part := (GScored.enc y4)) rfl rfl (S.tm rfl) (hm5.at (emb_join S.emb0 S.emb))) rfl ?_;clear S;intro a S
     refine l_alloc S Tryz.zeroValue54 (cs := [sV k_empty, sV k_empty, sV k_empty, iV 0, bV false]) rfl rfl ?_;clear S;intro a w17 b8 hz5 hk9 S
     refine lv S (Ra (S.tm rfl)) rfl ?_;clear S;intro a S
     refine l_store S (S.tm rfl) (S.tm rfl) (i := 0) (off := 0) rfl Tryz.sizeOf54 (vs := (GScored.enc y4)) rfl rfl rfl rfl ?_;clear S;intro w18 hk10 S
     refine Ld (Tn (Fs (d_region [] ([]) Tryz.mixed S rfl (by kernel_rfl) ?_)));clear S;intro w19 hk11 hsel S
     refine d_rest [0, 1, 2, 3, 4, 5, 6, 7, 8, 9, 10, 11, 12, 13, 14, 15, 16, 17, 18, 19, 20, 21, 22, 23, 24] hsel (by kernel_rfl) rfl ?_
     clear hsel
     refine s_lv S rfl (rn_fld fa_54_3 (S.tm rfl)) rfl ?_;clear S;intro a S
     refine s_lv S rfl (rn_load Tryz.isAgg3 (S.tm rfl) (S.cell (i := 0) rfl rfl)) rfl ?_;clear S;intro a S
     refine s_lv S rfl (rn_gtr (S.tm rfl) rfl) rfl ?_;clear S;intro a S
     refine s_lv S rfl (Rm (S.tm rfl)) rfl ?_;clear S;intro a S
     refine s_cutm 6 (fun a w' => Keep [] w19 w' ∧ Sx w [] φ1 [.blk b8 (GScored.enc y4) 54] [(6, v1), (10, r4.val), (11, iV (i4 : Int)), (12, .pointer (some ⟨b8, 0, none⟩)), (49, v1), (50, iV (r1.length : Int)), (51, iV (i3 : Int)), (55, r4.val), (56, iV (y3.length : Int)), (57, iV (i4 : Int)), (71, bV ((decide (0 < y4.Rank)) && (!decide (y4.Rank = (W ((i4 : Int) + 1))))))] 122 a w') ?_ ?_
     ·rcases Bool.eq_false_or_eq_true (decide (0 < y4.Rank)) with hb3 | hb3
      ·refine s_want S rfl rfl rfl rfl hb3 (s_lv0 S (rn_fld fa_54_3 (S.tm rfl)) rfl ?_);clear S;intro a S
       refine s_want S rfl rfl rfl rfl hb3 (s_lv0 S (rn_load Tryz.isAgg3 (S.tm rfl) (S.cell (i := 0) rfl rfl)) rfl ?_);clear S;intro a S
       refine s_want S rfl rfl rfl rfl hb3 (s_lv0 S (Rm (S.tm rfl)) rfl ?_);clear S;intro a S
       refine s_want S rfl rfl rfl rfl hb3 (s_lv0 S (rn_add (S.tm rfl) rfl) rfl ?_);clear S;intro a S
       refine s_want S rfl rfl rfl rfl hb3 (s_lv0 S (rn_neq (S.tm rfl) (S.tm rfl)) rfl ?_);clear S;intro a S
       refine s_lv S rfl (rn_and_t hb3 (S.tm rfl) (S.tm rfl)) rfl ?_;clear S;intro a S
       refine s_done ?_
       exact ⟨Keep.refl _ _, S.nf [true] rfl (subR rfl)⟩
      ·iterate 5 (refine s_skip S rfl rfl rfl rfl (neq_f hb3) rfl ?_ rfl;clear S;intro a S)
       refine s_lv S rfl (rn_and_f (!decide (y4.Rank = (W ((i4 : Int) + 1)))) hb3 (S.tm rfl) rfl) rfl ?_;clear S;intro a S
       refine s_done ?_
       exact ⟨Keep.refl _ _, S.nf [true] rfl (subR rfl)⟩
     clear S;rintro a w20 ⟨hk12, S⟩
     refine s_lv S rfl (Rm (S.tm rfl)) rfl ?_;clear S;intro a S
     obtain ⟨j5, hj5, h⟩ := joinE h
     refine s_cutm 14 (fun a w' => ∃ c1, j5 c1 = some r ∧ Keep [] w20 w' ∧ Sx w [] φ1 [.blk b8 (GScored.enc y4) 54] [(6, v1), (10, r4.val), (49, v1), (50, iV (r1.length : Int)), (51, iV (i3 : Int)), (55, r4.val), (56, iV (y3.length : Int)), (57, iV (i4 : Int)), (86, bV c1)] 122 a w') ?_ ?_
     ·rcases Bool.eq_false_or_eq_true ((decide (0 < y4.Rank)) && (!decide (y4.Rank = (W ((i4 : Int) + 1))))) with hb4 | hb4
      ·replace h := iteT h hb4
       refine s_want S rfl rfl rfl rfl hb4 (s_lv0 S (Rm (S.tm rfl)) rfl ?_);clear S;intro a S
       refine s_want S rfl rfl rfl rfl hb4 (s_lv0 S (rn_eql (S.tm rfl) rfl) rfl ?_);clear S;intro a S
       refine s_want S rfl rfl rfl rfl hb4 (s_lv0 S (Rm (S.tm rfl)) rfl ?_);clear S;intro a S
       obtain ⟨j6, hj6, h⟩ := joinE h
       refine s_cutm 10 (fun a w' => ∃ c2, j6 c2 = some r ∧ Keep [] w20 w' ∧ Sx w [] φ1 [.blk b8 (GScored.enc y4) 54] [(6, v1), (10, r4.val), (49, v1), (50, iV (r1.length : Int)), (51, iV (i3 : Int)), (55, r4.val), (56, iV (y3.length : Int)), (57, iV (i4 : Int)), (72, bV ((decide (0 < y4.Rank)) && (!decide (y4.Rank = (W ((i4 : Int) + 1)))))), (73, iV (i4 : Int)), (74, bV (decide ((i4 : Int) = 0))), (75, bV (decide ((i4 : Int) = 0))), (85, bV c2)] 122 a w') ?_ ?_
       ·rcases Bool.eq_false_or_eq_true (decide ((i4 : Int) = 0)) with hb5 | hb5
        ·replace h := iteT h hb5
         iterate 9 (refine s_skip S rfl rfl rfl rfl (neq_t hb5) rfl ?_ rfl;clear S;intro a S)
         refine s_want S rfl rfl rfl rfl hb4 (s_lv0 S (rn_or_t true hb5 (S.tm rfl) rfl) rfl ?_);clear S;intro a S
         refine s_done ?_
         exact ⟨_, h, Keep.refl _ _, S.nf [true] rfl (subR rfl)⟩
        ·replace h := iteF h hb5
         refine s_want S rfl rfl rfl rfl hb5 (s_lv0 S (rn_fld fa_54_3 (S.tm rfl)) rfl ?_);clear S;intro a S
         refine s_want S rfl rfl rfl rfl hb5 (s_lv0 S (rn_load Tryz.isAgg3 (S.tm rfl) (S.cell (i := 0) rfl rfl)) rfl ?_);clear S;intro a S
         refine s_want S rfl rfl rfl rfl hb5 (s_lv0 S (Rm (S.tm rfl)) rfl ?_);clear S;intro a S
         refine s_want S rfl rfl rfl rfl hb5 (s_lv0 S (Rm (S.tm rfl)) rfl ?_);clear S;intro a S
         refine s_want S rfl rfl rfl rfl hb5 (s_lv0 S (rn_sub (S.tm rfl) rfl) rfl ?_);clear S;intro a S
         refine s_want S rfl rfl rfl rfl hb5 ?_
         obtain ⟨hc1, h⟩ := chkE h
         obtain ⟨b9, o5, hm6, hr9⟩ := rn_indexT (a := a) (x := .tmp 78) (y := .tmp 80) (ty := 0) sl_29 hs3 (inB_get hc1).1 (inB_get hc1).2 (S.tm rfl) (S.tm rfl)
         refine s_lv0 S (hr9 _) rfl ?_;clear S;intro a S
         clear hr9
         refine s_want S rfl rfl rfl rfl hb5 (s_lv0 S (rn_fld fa_54_3 (S.tm rfl)) rfl ?_);clear S;intro a S
         refine s_want S rfl rfl rfl rfl hb5 (s_lv0 S (rn_ld Tryz.isAgg3 (off := o5) (o := 3) (S.tm rfl) (hm6.at (emb_join S.emb0 S.emb)) rfl) rfl ?_);clear S;intro a S
         refine s_want S rfl rfl rfl rfl hb5 (s_lv0 S (rn_neq (S.tm rfl) (S.tm rfl)) rfl ?_);clear S;intro a S
         refine s_want S rfl rfl rfl rfl hb4 (s_lv0 S (rn_or_f hb5 (S.tm rfl) (S.tm rfl)) rfl ?_);clear S;intro a S
         refine s_done ?_
         exact ⟨_, h, Keep.refl _ _, S.nf [true] rfl (subR rfl)⟩
       clear S h;rintro a w22 ⟨c2, h, hk13, S⟩;rw [hj6] at h;clear hj6 j6
       refine s_lv S rfl (rn_and_t hb4 (S.tm rfl) (S.tm rfl)) rfl ?_;clear S;intro a S
       refine s_done ?_
       exact ⟨_, h, hk13, S.nf [true] rfl (subR rfl)⟩
      ·replace h := iteF h hb4
       iterate 3 (refine s_skip S rfl rfl rfl rfl (neq_f hb4) rfl ?_ rfl;clear S;intro a S)
       iterate 9 (refine s_skipU S rfl rfl rfl rfl rfl ?_;clear S;intro a S)
       refine s_skip S rfl rfl rfl rfl (neq_f hb4) rfl ?_ rfl;clear S;intro a S
       refine s_lv S rfl (rn_and_f true hb4 (S.tm rfl) rfl) rfl ?_;clear S;intro a S
       refine s_done ?_
       exact ⟨_, h, Keep.refl _ _, S.nf [true] rfl (subR rfl)⟩
     clear S h;rintro a w21 ⟨c1, h, hk14, S⟩;rw [hj5] at h;clear hj5 j5
     refine s_done ?_
     replace S := S.nk [] [(6, v1), (10, r4.val), (49, v1), (50, iV (r1.length : Int)), (51, iV (i3 : Int)), (55, r4.val), (56, iV (y3.length : Int)), (57, iV (i4 : Int)), (86, bV c1)] [false] rfl (subR rfl)
     refine Tn (f_cond (S.tm rfl) (fun hb6 => ?_) (fun hb6 => ?_))
     ·replace h := iteT h hb6
      refine Fs (Fg (lv S (Ra rfl) rfl ?_));clear S;intro a S
      refine Ld (Tn (wp_ret (blk_r (then_r (then_r (blk_r ?_))))))
      refine then_r (blk_r (then_r (then_r (blk_r (then_r (then_r ?_))))))
      obtain rfl := Option.some.inj h
      exact f_ret S Tryz.results41 rfl rfl
     ·replace h := iteF h hb6
      refine wp_skip (blk_n (Tn (Fg (lv S (rn_add (S.tm rfl) rfl) rfl ?_))));clear S;intro a S
      refine lv S (Rm (S.tm rfl)) rfl ?_;clear S;intro a S
      refine Ld (Tn ?_)
      exact ⟨ys4, ⟨i4 + 1, ⟨_, (hd4).trans (List.append_cons _ _ _), by simp [hi4]⟩, h, S.nf [] rfl ⟨rfl, rfl, rfl, rfl, rfl, rfl, rfl, (congrArg (fun z => some (Value.int .i64 z)) (rng_next hd4 hi4 (slc_max hs3))), trivial⟩⟩, Nat.lt_succ_self _⟩
   clear S h;rintro a w16 ⟨h, S⟩;rw [hj4] at h;clear hj4 j4
   refine blk_n (Tn (Fg (lv S (rn_add (S.tm rfl) rfl) rfl ?_)));clear S;intro a S
   refine lv S (Rm (S.tm rfl)) rfl ?_;clear S;intro a S
   refine Ld (Tn ?_)
   exact ⟨ys3, ⟨i3 + 1, ⟨_, (hd3).trans (List.append_cons _ _ _), by simp [hi3]⟩, h, S.nf [] rfl ⟨rfl, rfl, rfl, (congrArg (fun z => some (Value.int .i64 z)) (rng_next hd3 hi3 (slc_maxD hs1 hr4))), trivial⟩⟩, Nat.lt_succ_self _⟩
 clear S h;rintro a w14 ⟨h, S⟩;rw [hj3] at h;clear hj3 j3
 refine Tn (Fs (Fs (Fg (lv S (Rm (S.tm rfl)) rfl ?_))));clear S;intro a S
 refine lv S (rn_lenT sl_87 (S.tm rfl) (slc_lenD hs1 hr4)) rfl ?_;clear S;intro a S
 refine lv S (Rm rfl) rfl ?_;clear S;intro a S
 refine Ld (Tn ?_)
 replace S := S.nk [] [(89, v1), (90, iV (r1.length : Int)), (91, iV 0)] [] rfl (subR rfl)
 obtain ⟨j7, hj7, h⟩ := joinE h
 refine f_join (fun a w' => j7 = some r ∧ Sx w [] φ1 [] [] 122 a w') ?_ ?_
 ·refine wp_block (f_loop (fun (ys5 : List (List GScored)) a w' => ∃ i5 : Nat, (∃ dn, r1 = dn ++ ys5 ∧ dn.length = i5) ∧ points_checkAll_l5 j7 ys5 i5 = some r ∧ Sx w [] φ1 [] [(89, v1), (90, iV (r1.length : Int)), (91, iV (i5 : Int))] 122 a w') List.length r1 ⟨0, ⟨[], rfl, rfl⟩, h, S.nf [] rfl (subR rfl)⟩ ?_)
  clear S h;rintro ys5 a w23 ⟨i5, ⟨dn, hd5, hi5⟩, h, S⟩
  cases ys5 with
  | nil =>
   rw [points_checkAll_l5.eq_1] at h
   refine Fs (Fg (lv S (rn_lss (S.tm rfl) (S.tm rfl)) rfl ?_));clear S;intro a S
   refine Ld ?_
   replace S := S.nk [] [(89, v1), (90, iV (r1.length : Int)), (91, iV (i5 : Int)), (92, bV (decide ((i5 : Int) < (r1.length : Int))))] [] rfl (subR rfl)
   refine Tn (Fs (wp_cond_false ((S.tm rfl).trans (congrArg Value.bool (rng_nil hd5 hi5))) (wp_exit (then_x (then_x (x_same ?_))))))
   refine Tn ?_
   exact ⟨h, S.nf [] rfl trivial⟩
  | cons y5 ys5 =>
   rw [points_checkAll_l5.eq_2] at h
   refine Fs (Fg (lv S (rn_lss (S.tm rfl) (S.tm rfl)) rfl ?_));clear S;intro a S
   refine Ld ?_
   replace S := S.nk [] [(89, v1), (90, iV (r1.length : Int)), (91, iV (i5 : Int)), (92, bV (decide ((i5 : Int) < (r1.length : Int))))] [] rfl (subR rfl)
   refine Tn (Fs (wp_cond_true ((S.tm rfl).trans (congrArg Value.bool (rng_cons hd5 hi5))) (wp_skip (Tn (Fs (wp_block ?_))))))
   refine Fs (Fg ?_)
   obtain ⟨r5, hg3, hl4⟩ := All2.at hr4 (get_mid hd5 hi5)
   have hs4 := hl4
   obtain ⟨b10, o6, hm7, hr10⟩ := rn_indexT (a := a) (x := .tmp 89) (y := .tmp 91) (ty := 0) sl_87 hs1 hg3 rfl (S.tm rfl) (S.tm rfl)
   refine lv S (hr10 _) rfl ?_;clear S;intro a S
   clear hr10
   refine lv S (rn_ld Tryz.isAgg29 (off := o6) (o := 0) (S.tm rfl) (hm7.at (emb_join S.emb0 S.emb)) rfl) rfl ?_;clear S;intro a S
   refine lv S (Ra (S.tm rfl)) rfl ?_;clear S;intro a S
   refine Ld (Tn (Fs (Fg (lv S (Ra rfl) rfl ?_))));clear S;intro a S
   refine Ld (Tn ?_)
   replace S := S.nk [] [(14, r5.val), (15, iV 10), (89, v1), (90, iV (r1.length : Int)), (91, iV (i5 : Int))] [] rfl (subR rfl)
   obtain ⟨j8, hj8, h⟩ := joinE h
   refine f_join (fun a w' => j8 = some r ∧ Sx w [] φ1 [] [(89, v1), (90, iV (r1.length : Int)), (91, iV (i5 : Int))] 122 a w') ?_ ?_
   ·refine wp_block (f_loop (fun (m1 : Nat) a w' => ∃ x2 : Int, points_checkAll_l6 y5 j8 m1 x2 = some r ∧ Sx w [] φ1 [] [(14, r5.val), (15, iV x2), (89, v1), (90, iV (r1.length : Int)), (91, iV (i5 : Int))] 122 a w') id (((y5.length : Int) - 10).toNat + 2) ⟨10, h, S.nf [] rfl (subR rfl)⟩ ?_)
    clear S h;rintro m1 a w25 ⟨x2, h, S⟩
    cases m1 with
    | zero => rw [points_checkAll_l6.eq_1] at h;cases h
    | succ m1 =>
     rw [points_checkAll_l6.eq_2] at h
     refine Fs (Fs (Fg (lv S (Rm (S.tm rfl)) rfl ?_)));clear S;intro a S
     refine lv S (Rm (S.tm rfl)) rfl ?_;clear S;intro a S
     refine lv S (rn_lenT sl_29 (S.tm rfl) (slc_len hs4)) rfl ?_;clear S;intro a S
     refine lv S (rn_lss (S.tm rfl) (S.tm rfl)) rfl ?_;clear S;intro a S
     refine Ld (Tn (f_cond (S.tm rfl) (fun hb7 => ?_) (fun hb7 => ?_)))
     ·replace h := iteT h hb7
      refine wp_skip (Tn (Fs (wp_block (Fs (d_region [] ([]) Tryz.mixed S rfl (by kernel_rfl) ?_)))));clear S;intro w27 hk15 hsel S
      refine d_rest [0, 1, 2, 3, 4, 5, 6, 7, 8, 9, 10, 11, 12, 13, 14, 15, 16, 17, 18, 19] hsel (by kernel_rfl) rfl ?_
      clear hsel
      refine s_lv S rfl (Rm (S.tm rfl)) rfl ?_;clear S;intro a S
      refine s_lv S rfl (Rm (S.tm rfl)) rfl ?_;clear S;intro a S
      obtain ⟨hc2, h⟩ := chkE h
      obtain ⟨b11, o7, hm8, hr11⟩ := rn_indexT (a := a) (x := .tmp 101) (y := .tmp 102) (ty := 0) sl_29 hs4 (inB_get hc2).1 (inB_get hc2).2 (S.tm rfl) (S.tm rfl)
      refine s_lv S rfl (hr11 _) rfl ?_;clear S;intro a S
      clear hr11
      refine s_lv S rfl (rn_fld fa_54_3 (S.tm rfl)) rfl ?_;clear S;intro a S
      refine s_lv S rfl (rn_ld Tryz.isAgg3 (off := o7) (o := 3) (S.tm rfl) (hm8.at (emb_join S.emb0 S.emb)) rfl) rfl ?_;clear S;intro a S
      refine s_lv S rfl (rn_gtr (S.tm rfl) rfl) rfl ?_;clear S;intro a S
      refine s_lv S rfl (Rm (S.tm rfl)) rfl ?_;clear S;intro a S
      obtain ⟨j9, hj9, h⟩ := joinE h
      refine s_cutm 13 (fun a w' => ∃ c3, j9 c3 = some r ∧ Keep [] w27 w' ∧ Sx w [] φ1 [] [(14, r5.val), (15, iV x2), (89, v1), (90, iV (r1.length : Int)), (91, iV (i5 : Int)), (120, bV c3)] 122 a w') ?_ ?_
      ·rcases Bool.eq_false_or_eq_true (decide (0 < ((nth y5 x2).Rank))) with hb8 | hb8
       ·replace h := iteT h hb8
        refine s_want S rfl rfl rfl rfl hb8 (s_lv0 S (Rm (S.tm rfl)) rfl ?_);clear S;intro a S
        refine s_want S rfl rfl rfl rfl hb8 (s_lv0 S (Rm (S.tm rfl)) rfl ?_);clear S;intro a S
        refine s_want S rfl rfl rfl rfl hb8 ?_
        obtain ⟨hc3, h⟩ := chkE h
        obtain ⟨b12, o8, hm9, hr12⟩ := rn_indexT (a := a) (x := .tmp 108) (y := .tmp 109) (ty := 0) sl_29 hs4 (inB_get hc3).1 (inB_get hc3).2 (S.tm rfl) (S.tm rfl)
        refine s_lv0 S (hr12 _) rfl ?_;clear S;intro a S
        clear hr12
        refine s_want S rfl rfl rfl rfl hb8 (s_lv0 S (rn_fld fa_54_3 (S.tm rfl)) rfl ?_);clear S;intro a S
        refine s_want S rfl rfl rfl rfl hb8 (s_lv0 S (rn_ld Tryz.isAgg3 (off := o8) (o := 3) (S.tm rfl) (hm9.at (emb_join S.emb0 S.emb)) rfl) rfl ?_);clear S;intro a S
        refine s_want S rfl rfl rfl rfl hb8 (s_lv0 S (Rm (S.tm rfl)) rfl ?_);clear S;intro a S
        refine s_want S rfl rfl rfl rfl hb8 (s_lv0 S (Rm (S.tm rfl)) rfl ?_);clear S;intro a S
        refine s_want S rfl rfl rfl rfl hb8 (s_lv0 S (rn_sub (S.tm rfl) rfl) rfl ?_);clear S;intro a S
        refine s_want S rfl rfl rfl rfl hb8 ?_
        obtain ⟨hc4, h⟩ := chkE h
        obtain ⟨b13, o9, hm10, hr13⟩ := rn_indexT (a := a) (x := .tmp 113) (y := .tmp 115) (ty := 0) sl_29 hs4 (inB_get hc4).1 (inB_get hc4).2 (S.tm rfl) (S.tm rfl)
        refine s_lv0 S (hr13 _) rfl ?_;clear S;intro a S
        clear hr13
        refine s_want S rfl rfl rfl rfl hb8 (s_lv0 S (rn_fld fa_54_3 (S.tm rfl)) rfl ?_);clear S;intro a S
        refine s_want S rfl rfl rfl rfl hb8 (s_lv0 S (rn_ld Tryz.isAgg3 (off := o9) (o := 3) (S.tm rfl) (hm10.at (emb_join S.emb0 S.emb)) rfl) rfl ?_);clear S;intro a S
        refine s_want S rfl rfl rfl rfl hb8 (s_lv0 S (rn_eql (S.tm rfl) (S.tm rfl)) rfl ?_);clear S;intro a S
        refine s_lv S rfl (rn_and_t hb8 (S.tm rfl) (S.tm rfl)) rfl ?_;clear S;intro a S
        refine s_done ?_
        exact ⟨_, h, Keep.refl _ _, S.nf [] rfl (subR rfl)⟩
       ·replace h := iteF h hb8
        iterate 12 (refine s_skip S rfl rfl rfl rfl (neq_f hb8) rfl ?_ rfl;clear S;intro a S)
        refine s_lv S rfl (rn_and_f true hb8 (S.tm rfl) rfl) rfl ?_;clear S;intro a S
        refine s_done ?_
        exact ⟨_, h, Keep.refl _ _, S.nf [] rfl (subR rfl)⟩
      clear S h;rintro a w28 ⟨c3, h, hk16, S⟩;rw [hj9] at h;clear hj9 j9
      refine s_done ?_
      replace S := S.nk [] [(14, r5.val), (15, iV x2), (89, v1), (90, iV (r1.length : Int)), (91, iV (i5 : Int)), (120, bV c3)] [] rfl (subR rfl)
      refine Tn (f_cond (S.tm rfl) (fun hb9 => ?_) (fun hb9 => ?_))
      ·replace h := iteT h hb9
       refine Fs (Fg (lv S (Ra rfl) rfl ?_));clear S;intro a S
       refine Ld (Tn (wp_ret (blk_r (then_r (then_r (blk_r ?_))))))
       refine then_r (blk_r (then_r (then_r (blk_r (then_r (then_r ?_))))))
       obtain rfl := Option.some.inj h
       exact f_ret S Tryz.results41 rfl rfl
      ·replace h := iteF h hb9
       refine wp_skip (blk_n (Tn (Fg (lv S (Rm (S.tm rfl)) rfl ?_))));clear S;intro a S
       refine lv S (rn_add (S.tm rfl) rfl) rfl ?_;clear S;intro a S
       refine lv S (Ra (S.tm rfl)) rfl ?_;clear S;intro a S
       refine Ld (Tn ?_)
       exact ⟨m1, ⟨W (x2 + 1), h, S.nf [] rfl ⟨rfl, rfl, rfl, rfl, rfl, trivial⟩⟩, Nat.lt_succ_self _⟩
     ·replace h := iteF h hb7
      refine wp_exit (then_x (then_x (x_same (Tn ?_))))
      exact ⟨h, S.nf [] rfl (subR rfl)⟩
   clear S h;rintro a w26 ⟨h, S⟩;rw [hj8] at h;clear hj8 j8
   refine blk_n (Tn (Fg (lv S (rn_add (S.tm rfl) rfl) rfl ?_)));clear S;intro a S
   refine lv S (Rm (S.tm rfl)) rfl ?_;clear S;intro a S
   refine Ld (Tn ?_)
   exact ⟨ys5, ⟨i5 + 1, ⟨_, (hd5).trans (List.append_cons _ _ _), by simp [hi5]⟩, h, S.nf [] rfl ⟨rfl, rfl, (congrArg (fun z => some (Value.int .i64 z)) (rng_next hd5 hi5 (slc_maxD hs1 hr4))), trivial⟩⟩, Nat.lt_succ_self _⟩
 clear S h;rintro a w24 ⟨h, S⟩;rw [hj7] at h;clear hj7 j7
 refine Tn (Fs (Fg (lv S (Ra rfl) rfl ?_)));clear S;intro a S
 refine Ld (Tn (wp_ret ?_))
 obtain rfl := Option.some.inj h
 exact f_ret S Tryz.results41 rfl rfl
set_option maxRecDepth 20000 in
theorem points_CheckScored_ok (w : World) (O : Value) (Ab : List GScored) (Ad : Slc (view w []) 5 O (Ab.map GScored.enc)) (r : Int) (h : points_CheckScored Ab = some r) :
    Calls Tryz.prog 14 [O].toArray w (Ret w [] fun _ v _ => v = iV r) := by
 refine f_enter [] [] Tryz.func14 rfl Tryz.ntmps14 rfl (by simp) (by simp [fps]) (by simp [fps]) fun a S => ?_
 unfold points_CheckScored at h
 replace S := S.nk [] [(0, O)] [] rfl ⟨rfl, trivial⟩
 refine Fs (Fg (lv S (Ra rfl) rfl ?_));clear S;intro a S
 refine Ld (Tn (Fs (Fs (Fg (lv S (Rm (S.tm rfl)) rfl ?_)))));clear S;intro a S
 refine lv S (rn_lenT sl_29 (S.tm rfl) (slc_len Ad)) rfl ?_;clear S;intro a S
 refine lv S (rn_gtr (S.tm rfl) rfl) rfl ?_;clear S;intro a S
 refine Ld (Tn (f_cond (S.tm rfl) (fun hb1 => ?_) (fun hb1 => ?_)))
 ·replace h := iteT h hb1
  refine Fs (Fg (lv S (Ra rfl) rfl ?_));clear S;intro a S
  refine Ld (Tn (wp_ret (then_r ?_)))
  obtain rfl := Option.some.inj h
  exact f_ret S Tryz.results14 rfl rfl
 ·replace h := iteF h hb1
  refine wp_skip (Tn (Fs (Fs (Fg (lv S (Rm (S.tm rfl)) rfl ?_)))));clear S;intro a S
  refine lv S (rn_lenT sl_29 (S.tm rfl) (slc_len Ad)) rfl ?_;clear S;intro a S
  refine lv S (Rm rfl) rfl ?_;clear S;intro a S
  refine Ld (Tn ?_)
  replace S := S.nk [] [(0, O), (8, O), (9, iV (Ab.length : Int)), (10, iV 0)] [] rfl (subR rfl)
  obtain ⟨j1, hj1, h⟩ := joinE h
  refine f_join (fun a w' => j1 = some r ∧ Sx w [] nov [] [(0, O)] 58 a w') ?_ ?_
  ·refine wp_block (f_loop (fun (ys1 : List GScored) a w' => ∃ i1 : Nat, (∃ dn, Ab = dn ++ ys1 ∧ dn.length = i1) ∧ points_CheckScored_l1 Ab j1 ys1 i1 = some r ∧ Sx w [] nov [] [(0, O), (8, O), (9, iV (Ab.length : Int)), (10, iV (i1 : Int))] 58 a w') List.length Ab ⟨0, ⟨[], rfl, rfl⟩, h, S.nf [] rfl (subR rfl)⟩ ?_)
   clear S h;rintro ys1 a w1 ⟨i1, ⟨dn, hd1, hi1⟩, h, S⟩
   cases ys1 with
   | nil =>
    rw [points_CheckScored_l1.eq_1] at h
    refine Fs (Fg (lv S (rn_lss (S.tm rfl) (S.tm rfl)) rfl ?_));clear S;intro a S
    refine Ld ?_
    replace S := S.nk [] [(0, O), (8, O), (9, iV (Ab.length : Int)), (10, iV (i1 : Int)), (11, bV (decide ((i1 : Int) < (Ab.length : Int))))] [] rfl (subR rfl)
    refine Tn (Fs (wp_cond_false ((S.tm rfl).trans (congrArg Value.bool (rng_nil hd1 hi1))) (wp_exit (then_x (then_x (x_same ?_))))))
    refine Tn ?_
    exact ⟨h, S.nf [] rfl ⟨rfl, trivial⟩⟩
   | cons y1 ys1 =>
    rw [points_CheckScored_l1.eq_2] at h
    refine Fs (Fg (lv S (rn_lss (S.tm rfl) (S.tm rfl)) rfl ?_));clear S;intro a S
    refine Ld ?_
    replace S := S.nk [] [(0, O), (8, O), (9, iV (Ab.length : Int)), (10, iV (i1 : Int)), (11, bV (decide ((i1 : Int) < (Ab.length : Int))))] [] rfl (subR rfl)
    refine Tn (Fs (wp_cond_true ((S.tm rfl).trans (congrArg Value.bool (rng_cons hd1 hi1))) (wp_skip (Tn (Fs (wp_block ?_))))))
    refine Fs (Fg (lv S (Rm (S.tm rfl)) rfl ?_));clear S;intro a S
    obtain ⟨b1, o1, hm1, hr1⟩ := rn_indexT (a := a) (x := .tmp 8) (y := .tmp 10) (ty := 0) sl_29 Ad (get_mid hd1 hi1) rfl (S.tm rfl) (S.tm rfl)
    refine lv S (hr1 _) rfl ?_;clear S;intro a S
    clear hr1
    refine lv S (rn_ldA Tryz.isAgg54 Tryz.sizeOf54 (off := o1) (o := 0) (part := (GScored.enc y1)) rfl rfl (S.tm rfl) (hm1.at S.emb0)) rfl ?_;clear S;intro a S
    refine l_alloc S Tryz.zeroValue54 (cs := [sV k_empty, sV k_empty, sV k_empty, iV 0, bV false]) rfl rfl ?_;clear S;intro a w3 b2 hz1 hk1 S
    refine lv S (Ra (S.tm rfl)) rfl ?_;clear S;intro a S
    refine l_store S (S.tm rfl) (S.tm rfl) (i := 0) (off := 0) rfl Tryz.sizeOf54 (vs := (GScored.enc y1)) rfl rfl rfl rfl ?_;clear S;intro w4 hk2 S
    refine Ld (Tn (wp_block (Fs (Fg (lv S (rn_fld fa_54_0 (S.tm rfl)) rfl ?_)))));clear S;intro a S
    refine lv S (rn_load Tryz.isAgg9 (S.tm rfl) (S.cell (i := 0) rfl rfl)) rfl ?_;clear S;intro a S
    obtain ⟨r1, hr2, h⟩ := bindE h
    refine l_enter S (fun _ => run_call (vs := [sV y1.Race]) ⟨(S.tm rfl), trivial⟩ Tryz.call39) (words_IsKey_ok _ y1.Race _ hr2) rfl ?_;clear S;intro v1 a w5 hv1 hk3 hn1 S
    subst hv1
    refine lv S (rn_not (S.tm rfl)) rfl ?_;clear S;intro a S
    refine lv S (Rm (S.tm rfl)) rfl ?_;clear S;intro a S
    obtain ⟨j2, hj2, h⟩ := joinE h
    refine f_cutm 5 (fun a w' => ∃ c1, j2 c1 = some r ∧ Keep [] w5 w' ∧ Sx w [] nov [.blk b2 (GScored.enc y1) 54] [(0, O), (3, iV (i1 : Int)), (4, .pointer (some ⟨b2, 0, none⟩)), (8, O), (9, iV (Ab.length : Int)), (10, iV (i1 : Int)), (25, bV c1)] 58 a w') ?_ ?_
    ·rcases Bool.eq_false_or_eq_true (!r1) with hb2 | hb2
     ·replace h := iteT h hb2
      iterate 4 (refine l_skip S rfl rfl rfl (neq_t hb2) rfl ?_ rfl;clear S;intro a S)
      refine lv S (rn_or_t true hb2 (S.tm rfl) rfl) rfl ?_;clear S;intro a S
      refine Ld (Tn ?_)
      exact ⟨_, h, Keep.refl _ _, S.nf [true] rfl (subR rfl)⟩
     ·replace h := iteF h hb2
      refine l_want S rfl rfl rfl hb2 (lv S (rn_fld fa_54_1 (S.tm rfl)) rfl ?_);clear S;intro a S
      refine l_want S rfl rfl rfl hb2 (lv S (rn_load Tryz.isAgg9 (S.tm rfl) (S.cell (i := 0) rfl rfl)) rfl ?_);clear S;intro a S
      refine l_want S rfl rfl rfl hb2 ?_
      obtain ⟨r2, hr3, h⟩ := bindE h
      refine l_enter S (fun _ => run_call (vs := [sV y1.Who]) ⟨(S.tm rfl), trivial⟩ Tryz.call39) (words_IsKey_ok _ y1.Who _ hr3) rfl ?_;clear S;intro v2 a w7 hv2 hk4 hn2 S
      subst hv2
      refine l_want S rfl rfl rfl hb2 (lv S (rn_not (S.tm rfl)) rfl ?_);clear S;intro a S
      refine lv S (rn_or_f hb2 (S.tm rfl) (S.tm rfl)) rfl ?_;clear S;intro a S
      refine Ld (Tn ?_)
      exact ⟨_, h, hk4, S.nf [true] rfl (subR rfl)⟩
    clear S h;rintro a w6 ⟨c1, h, hk5, S⟩;rw [hj2] at h;clear hj2 j2
    refine lv S (Rm (S.tm rfl)) rfl ?_;clear S;intro a S
    obtain ⟨j3, hj3, h⟩ := joinE h
    refine f_cutm 10 (fun a w' => ∃ c2, j3 c2 = some r ∧ Keep [] w6 w' ∧ Sx w [] nov [.blk b2 (GScored.enc y1) 54] [(0, O), (3, iV (i1 : Int)), (4, .pointer (some ⟨b2, 0, none⟩)), (8, O), (9, iV (Ab.length : Int)), (10, iV (i1 : Int)), (36, bV c2)] 58 a w') ?_ ?_
    ·rcases Bool.eq_false_or_eq_true c1 with hb3 | hb3
     ·replace h := iteT h hb3
      iterate 4 (refine l_skip S rfl rfl rfl (neq_t hb3) rfl ?_ rfl;clear S;intro a S)
      iterate 4 (refine l_skipU S rfl rfl rfl rfl ?_;clear S;intro a S)
      refine l_skip S rfl rfl rfl (neq_t hb3) rfl ?_ rfl;clear S;intro a S
      refine lv S (rn_or_t true hb3 (S.tm rfl) rfl) rfl ?_;clear S;intro a S
      refine Ld (Tn ?_)
      exact ⟨_, h, Keep.refl _ _, S.nf [true] rfl (subR rfl)⟩
     ·replace h := iteF h hb3
      refine l_want S rfl rfl rfl hb3 (lv S (rn_fld fa_54_2 (S.tm rfl)) rfl ?_);clear S;intro a S
      refine l_want S rfl rfl rfl hb3 (lv S (rn_load Tryz.isAgg9 (S.tm rfl) (S.cell (i := 0) rfl rfl)) rfl ?_);clear S;intro a S
      refine l_want S rfl rfl rfl hb3 (lv S (rn_sneq (S.tm rfl) rfl) rfl ?_);clear S;intro a S
      refine l_want S rfl rfl rfl hb3 (lv S (Rm (S.tm rfl)) rfl ?_);clear S;intro a S
      obtain ⟨j4, hj4, h⟩ := joinE h
      refine f_cutm 5 (fun a w' => ∃ c3, j4 c3 = some r ∧ Keep [] w6 w' ∧ Sx w [] nov [.blk b2 (GScored.enc y1) 54] [(0, O), (3, iV (i1 : Int)), (4, .pointer (some ⟨b2, 0, none⟩)), (8, O), (9, iV (Ab.length : Int)), (10, iV (i1 : Int)), (26, bV c1), (27, .pointer (some ⟨b2, 2, none⟩)), (28, sV y1.Club), (29, bV (!decide (y1.Club = k_empty))), (30, bV (!decide (y1.Club = k_empty))), (35, bV c3)] 58 a w') ?_ ?_
      ·rcases Bool.eq_false_or_eq_true (!decide (y1.Club = k_empty)) with hb4 | hb4
       ·replace h := iteT h hb4
        refine l_want S rfl rfl rfl hb4 (lv S (rn_fld fa_54_2 (S.tm rfl)) rfl ?_);clear S;intro a S
        refine l_want S rfl rfl rfl hb4 (lv S (rn_load Tryz.isAgg9 (S.tm rfl) (S.cell (i := 0) rfl rfl)) rfl ?_);clear S;intro a S
        refine l_want S rfl rfl rfl hb4 ?_
        obtain ⟨r3, hr4, h⟩ := bindE h
        refine l_enter S (fun _ => run_call (vs := [sV y1.Club]) ⟨(S.tm rfl), trivial⟩ Tryz.call39) (words_IsKey_ok _ y1.Club _ hr4) rfl ?_;clear S;intro v3 a w10 hv3 hk6 hn3 S
        subst hv3
        refine l_want S rfl rfl rfl hb4 (lv S (rn_not (S.tm rfl)) rfl ?_);clear S;intro a S
        refine l_want S rfl rfl rfl hb3 (lv S (rn_and_t hb4 (S.tm rfl) (S.tm rfl)) rfl ?_);clear S;intro a S
        refine Ld (Tn ?_)
        exact ⟨_, h, hk6, S.nf [true] rfl (subR rfl)⟩
       ·replace h := iteF h hb4
        iterate 4 (refine l_skip S rfl rfl rfl (neq_f hb4) rfl ?_ rfl;clear S;intro a S)
        refine l_want S rfl rfl rfl hb3 (lv S (rn_and_f true hb4 (S.tm rfl) rfl) rfl ?_);clear S;intro a S
        refine Ld (Tn ?_)
        exact ⟨_, h, Keep.refl _ _, S.nf [true] rfl (subR rfl)⟩
      clear S h;rintro a w9 ⟨c3, h, hk7, S⟩;rw [hj4] at h;clear hj4 j4
      refine lv S (rn_or_f hb3 (S.tm rfl) (S.tm rfl)) rfl ?_;clear S;intro a S
      refine Ld (Tn ?_)
      exact ⟨_, h, hk7, S.nf [true] rfl (subR rfl)⟩
    clear S h;rintro a w8 ⟨c2, h, hk8, S⟩;rw [hj3] at h;clear hj3 j3
    refine lv S (Ra (S.tm rfl)) rfl ?_;clear S;intro a S
    refine Ld (Tn (f_cond (S.tm rfl) (fun hb5 => ?_) (fun hb5 => ?_)))
    ·replace h := iteT h hb5
     refine Fs (Fg (lv S (Ra rfl) rfl ?_));clear S;intro a S
     refine Ld (Tn (wp_ret (blk_r (blk_r (then_r (then_r ?_))))))
     refine blk_r (then_r (then_r ?_))
     obtain rfl := Option.some.inj h
     exact f_ret S Tryz.results14 rfl rfl
    ·replace h := iteF h hb5
     refine Fs (Fg (lv S (rn_fld fa_54_3 (S.tm rfl)) rfl ?_));clear S;intro a S
     refine lv S (rn_load Tryz.isAgg3 (S.tm rfl) (S.cell (i := 0) rfl rfl)) rfl ?_;clear S;intro a S
     refine l_enter S (fun _ => run_call (vs := [iV y1.Rank, iV 0, iV 300]) ⟨(S.tm rfl), rfl, rfl, trivial⟩ Tryz.call38) (words_Within_ok _ y1.Rank 0 300 _ rfl) rfl ?_;clear S;intro v4 a w11 hv4 hk9 hn4 S
     subst hv4
     refine lv S (rn_not (S.tm rfl)) rfl ?_;clear S;intro a S
     refine lv S (Ra (S.tm rfl)) rfl ?_;clear S;intro a S
     refine Ld (Tn (f_cond (S.tm rfl) (fun hb6 => ?_) (fun hb6 => ?_)))
     ·replace h := iteT h hb6
      refine Fs (Fg (lv S (Ra rfl) rfl ?_));clear S;intro a S
      refine Ld (Tn (wp_ret (blk_r (blk_r (then_r (then_r ?_))))))
      refine blk_r (then_r (then_r ?_))
      obtain rfl := Option.some.inj h
      exact f_ret S Tryz.results14 rfl rfl
     ·replace h := iteF h hb6
      refine Fs ?_
      obtain ⟨j5, hj5, h⟩ := joinE h
      refine f_join (fun a w' => ∃ x1 : Bool, j5 x1 = some r ∧ Sx w [] nov [] [(0, O), (8, O), (9, iV (Ab.length : Int)), (10, iV (i1 : Int)), (42, bV x1)] 58 a w') ?_ ?_
      ·rcases Bool.eq_false_or_eq_true (decide (0 < (i1 : Int))) with hb7 | hb7
       ·replace h := iteT h hb7
        obtain ⟨hc1, h⟩ := chkE h
        refine d_region [] ([]) Tryz.mixed S rfl (by kernel_rfl) ?_;clear S;intro w14 hk11 hsel S
        refine d_quiet 0 S hsel rfl rfl rfl (by kernel_rfl) (by kernel_rfl) rfl (fun _ hw => (Rm (S.tm rfl))) ?_;clear S;intro a S
        refine d_quiet 1 S hsel rfl rfl rfl (by kernel_rfl) (by kernel_rfl) rfl (fun _ hw => (rn_gtr (S.tm rfl) rfl)) ?_;clear S;intro a S
        refine d_quiet 2 S hsel rfl rfl rfl (by kernel_rfl) (by kernel_rfl) rfl (fun _ hw => (Rm (S.tm rfl))) ?_;clear S;intro a S
        refine d_quiet_g 3 S hsel rfl rfl rfl rfl hb7 rfl rfl (by kernel_rfl) (by kernel_rfl) rfl (fun _ hw => (Rm (S.tm rfl))) ?_;clear S;intro a S
        refine d_quiet_g 4 S hsel rfl rfl rfl rfl hb7 rfl rfl (by kernel_rfl) (by kernel_rfl) rfl (fun _ hw => (Rm (S.tm rfl))) ?_;clear S;intro a S
        refine d_quiet_g 5 S hsel rfl rfl rfl rfl hb7 rfl rfl (by kernel_rfl) (by kernel_rfl) rfl (fun _ hw => (rn_sub (S.tm rfl) rfl)) ?_;clear S;intro a S
        obtain ⟨b4, o3, hm3, hr6⟩ := rn_indexT (a := a) (x := .tmp 46) (y := .tmp 48) (ty := 0) sl_29 (Ad.mono (S.le_arg nil_sub)) (inB_get hc1).1 (inB_get hc1).2 (S.tm rfl) (S.tm rfl)
        refine d_quiet_g 6 S hsel rfl rfl rfl rfl hb7 rfl rfl (by kernel_rfl) (by kernel_rfl) rfl (fun _ hw => hr6 _) ?_;clear S;intro a S
        clear hr6
        refine d_quiet_g 7 S hsel rfl rfl rfl rfl hb7 rfl rfl (by kernel_rfl) (by kernel_rfl) rfl (fun _ hw => (rn_ldA Tryz.isAgg54 Tryz.sizeOf54 (off := o3) (o := 0) (part := (GScored.enc (nth Ab (W ((i1 : Int) - 1))))) rfl rfl (S.tm rfl) (hm3.kept hw))) ?_;clear S;intro a S
        refine d_quiet_g 8 S hsel rfl rfl rfl rfl hb7 rfl rfl (by kernel_rfl) (by kernel_rfl) rfl (fun _ hw => (rn_ldA Tryz.isAgg54 Tryz.sizeOf54 (off := 0) (o := 0) (part := (GScored.enc y1)) rfl rfl (S.tm rfl) ((S.blk_mem (i := 0) (cells := (GScored.enc y1)) (b := b2) (T := 54) rfl (ne_nil (e' := .blk b2 (GScored.enc y1) 54))).kept hw))) ?_;clear S;intro a S
        refine d_loud1 9 (by kernel_rfl) rfl (l_want S rfl rfl rfl hb7 (l_enter S (fun _ => run_call (vs := [.agg (GScored.enc (nth Ab (W ((i1 : Int) - 1)))).toArray, .agg (GScored.enc y1).toArray]) ⟨(S.tm rfl), (S.tm rfl), trivial⟩ Tryz.call40) (points_compare_ok _ (nth Ab (W ((i1 : Int) - 1))) y1 _ rfl) rfl ?_));clear S;intro v6 a w15 hv6 hk12 hn6 S
        subst hv6
        refine Ld (d_next hk12 (d_rest [10, 11, 12] hsel (by kernel_rfl) rfl ?_))
        clear hsel
        refine s_want S rfl rfl rfl rfl hb7 (s_lv0 S (rn_geq (S.tm rfl) rfl) rfl ?_);clear S;intro a S
        refine s_lv S rfl (rn_pick_b hb7 (S.tm rfl) (S.tm rfl)) rfl ?_;clear S;intro a S
        refine s_lv S rfl (Ra (S.tm rfl)) rfl ?_;clear S;intro a S
        refine s_done ?_
        replace S := S.nk [] [(0, O), (8, O), (9, iV (Ab.length : Int)), (10, iV (i1 : Int)), (42, bV (decide (0 ≤ (points_compare (nth Ab (W ((i1 : Int) - 1))) y1)))), (46, O), (47, iV (i1 : Int)), (48, iV (W ((i1 : Int) - 1))), (49, .pointer (some ⟨b4, o3, none⟩)), (50, .agg (GScored.enc (nth Ab (W ((i1 : Int) - 1)))).toArray), (51, .agg (GScored.enc y1).toArray), (52, iV (points_compare (nth Ab (W ((i1 : Int) - 1))) y1)), (53, bV (decide (0 ≤ (points_compare (nth Ab (W ((i1 : Int) - 1))) y1))))] [false] rfl (subR rfl)
        refine Tn ?_
        exact ⟨decide (0 ≤ (points_compare (nth Ab (W ((i1 : Int) - 1))) y1)), h, S.nf [] rfl (subR rfl)⟩
       ·replace h := iteF h hb7
        refine d_region [] ([]) Tryz.mixed S rfl (by kernel_rfl) ?_;clear S;intro w16 hk13 hsel S
        refine d_rest [0, 1, 2, 3, 4, 5, 6, 7, 8, 9, 10, 11, 12] hsel (by kernel_rfl) rfl ?_
        clear hsel
        refine s_lv S rfl (Rm (S.tm rfl)) rfl ?_;clear S;intro a S
        refine s_lv S rfl (rn_gtr (S.tm rfl) rfl) rfl ?_;clear S;intro a S
        refine s_lv S rfl (Rm (S.tm rfl)) rfl ?_;clear S;intro a S
        iterate 8 (refine s_skip S rfl rfl rfl rfl (neq_f hb7) rfl ?_ rfl;clear S;intro a S)
        refine s_lv S rfl (rn_pick_c hb7 (S.tm rfl) rfl) rfl ?_;clear S;intro a S
        refine s_lv S rfl (Ra (S.tm rfl)) rfl ?_;clear S;intro a S
        refine s_done ?_
        replace S := S.nk [] [(0, O), (8, O), (9, iV (Ab.length : Int)), (10, iV (i1 : Int)), (42, bV false)] [false] rfl (subR rfl)
        refine Tn ?_
        exact ⟨false, h, S.nf [] rfl (subR rfl)⟩
      clear S h;rintro a w12 ⟨x1, h, S⟩;rw [hj5] at h;clear hj5 j5
      refine Tn (f_cond (S.tm rfl) (fun hb8 => ?_) (fun hb8 => ?_))
      ·replace h := iteT h hb8
       refine Fs (Fg (lv S (Ra rfl) rfl ?_));clear S;intro a S
       refine Ld (Tn (wp_ret (blk_r (blk_r (then_r (then_r ?_))))))
       refine blk_r (then_r (then_r ?_))
       obtain rfl := Option.some.inj h
       exact f_ret S Tryz.results14 rfl rfl
      ·replace h := iteF h hb8
       refine wp_skip (blk_n (blk_n (Tn (Fg (lv S (rn_add (S.tm rfl) rfl) rfl ?_)))));clear S;intro a S
       refine lv S (Rm (S.tm rfl)) rfl ?_;clear S;intro a S
       refine Ld (Tn ?_)
       exact ⟨ys1, ⟨i1 + 1, ⟨_, (hd1).trans (List.append_cons _ _ _), by simp [hi1]⟩, h, S.nf [] rfl ⟨rfl, rfl, rfl, (congrArg (fun z => some (Value.int .i64 z)) (rng_next hd1 hi1 (slc_max Ad))), trivial⟩⟩, Nat.lt_succ_self _⟩
  clear S h;rintro a w2 ⟨h, S⟩;rw [hj1] at h;clear hj1 j1
  refine Tn (Fs (Fg (lv S (Rm (S.tm rfl)) rfl ?_)));clear S;intro a S
  obtain ⟨r4, hr7, h⟩ := bindE h
  refine l_enter S (fun _ => run_call (vs := [O]) ⟨(S.tm rfl), trivial⟩ Tryz.call41) (points_checkAll_ok _ O Ab (Ad.mono (S.le_arg nil_sub)) _ hr7) rfl ?_;clear S;intro v7 a w17 hv7 hk14 hn7 S
  subst hv7
  refine lv S (Ra (S.tm rfl)) rfl ?_;clear S;intro a S
  refine Ld (Tn (wp_ret ?_))
  obtain rfl := Option.some.inj h
  exact f_ret S Tryz.results14 rfl rfl
theorem points_checkBoth_ok (w : World) (Aa : GTable) (Ar : R27) (At : rel_27 (view w []) Aa Ar) (O : Value) (Ab : List GScored) (Ad : Slc (view w []) 5 O (Ab.map GScored.enc)) (r : Int) (h : points_checkBoth Aa Ab = some r) :
    Calls Tryz.prog 29 [.agg (R27.enc Ar).toArray, O].toArray w (Ret w [] fun _ v _ => v = iV r) := by
 obtain ⟨u1, rfl, hs1⟩ := At
 refine f_enter [] [] Tryz.func29 rfl Tryz.ntmps29 rfl (by simp) (by simp [fps]) (by simp [fps]) fun a S => ?_
 unfold points_checkBoth at h
 replace S := S.nk [] [(0, .agg #[u1.val, iV Aa.Relay, iV Aa.Most]), (1, O)] [] rfl (subR rfl)
 refine Fs (Fg (l_box S (S.tm rfl) (cs := [u1.val, iV Aa.Relay, iV Aa.Most]) rfl rfl ?_));clear S;intro a w1 b1 hz1 hk1 S
 refine lv S (Ra rfl) rfl ?_;clear S;intro a S
 refine Ld (Tn (Fs (Fs (Fg (lv S (rn_ldA Tryz.isAgg27 Tryz.sizeOf27 (off := 0) (o := 0) (part := [u1.val, iV Aa.Relay, iV Aa.Most]) rfl rfl (S.tm rfl) (S.cellsAt (i := 0) rfl)) rfl ?_)))));clear S;intro a S
 obtain ⟨r1, hr1, h⟩ := bindE h
 refine l_enter S (fun _ => run_call (vs := [.agg (R27.enc (R27.mk u1 Aa.Relay Aa.Most)).toArray]) ⟨(S.tm rfl), trivial⟩ Tryz.call13) (points_CheckTable_ok _ Aa (R27.mk u1 Aa.Relay Aa.Most) ⟨u1, rfl, (hs1.mono (S.le_arg nil_sub))⟩ _ hr1) rfl ?_;clear S;intro v1 a w2 hv1 hk2 hn1 S
 subst hv1
 refine lv S (Ra (S.tm rfl)) rfl ?_;clear S;intro a S
 refine Ld (Tn (Fs (Fg (lv S (Rm (S.tm rfl)) rfl ?_))));clear S;intro a S
 refine lv S (rn_neq (S.tm rfl) rfl) rfl ?_;clear S;intro a S
 refine Ld (Tn (f_cond (S.tm rfl) (fun hb1 => ?_) (fun hb1 => ?_)))
 ·replace h := iteT h hb1
  refine Fs (Fg (lv S (Rm (S.tm rfl)) rfl ?_));clear S;intro a S
  refine lv S (Ra (S.tm rfl)) rfl ?_;clear S;intro a S
  refine Ld (Tn (wp_ret (then_r ?_)))
  obtain rfl := Option.some.inj h
  exact f_ret S Tryz.results29 rfl rfl
 ·replace h := iteF h hb1
  refine wp_skip (Tn (Fs (Fg (lv S (Rm (S.tm rfl)) rfl ?_))));clear S;intro a S
  obtain ⟨r2, hr2, h⟩ := bindE h
  refine l_enter S (fun _ => run_call (vs := [O]) ⟨(S.tm rfl), trivial⟩ Tryz.call14) (points_CheckScored_ok _ O Ab (Ad.mono (S.le_arg nil_sub)) _ hr2) rfl ?_;clear S;intro v2 a w3 hv2 hk3 hn2 S
  subst hv2
  refine lv S (Ra (S.tm rfl)) rfl ?_;clear S;intro a S
  refine Ld (Tn (wp_ret ?_))
  obtain rfl := Option.some.inj h
  exact f_ret S Tryz.results29 rfl rfl
theorem points_none_ok (w : World) (r : GFraction) (h : points_none = r) :
    Calls Tryz.prog 33 [].toArray w (Ret w [] fun _ v _ => v = .agg (GFraction.enc r).toArray) := by
 refine f_enter [] [] Tryz.func33 rfl Tryz.ntmps33 rfl (by simp) (by simp [fps]) (by simp [fps]) fun a S => ?_
 unfold points_none at h
 replace S := S.nk [] [] [] rfl trivial
 refine Fs (Fg (l_alloc S Tryz.zeroValue36 (cs := [iV 0, iV 0]) rfl rfl ?_));clear S;intro a w1 b1 hz1 hk1 S
 refine Ld (Tn (Fs (Fg (lv S (rn_bld bt_36 (pv := [(0, iV 0), (1, iV 1)]) ⟨rfl, rfl, rfl, rfl, trivial⟩ (cs := [iV 0, iV 1]) (by kernel_rfl)) rfl ?_))));clear S;intro a S
 refine l_store S (S.tm rfl) (S.tm rfl) (i := 0) (off := 0) rfl Tryz.sizeOf36 (vs := [iV 0, iV 1]) rfl rfl rfl rfl ?_;clear S;intro w2 hk2 S
 refine Ld (Tn (wp_ret ?_))
 subst h
 exact f_retG S (rs := [.cell 0 36]) (vs := [.agg #[iV 0, iV 1]]) Tryz.results33 ⟨(res_cell (off := 0) S rfl Tryz.isAgg36 Tryz.sizeOf36 rfl (S.cellsAt (i := 0) rfl)), trivial⟩ rfl rfl
theorem words_Fraction_ok (w : World) (Af : Int) (Ah : Int) (r : GFraction) (h : words_Fraction Af Ah = some r) :
    Calls Tryz.prog 60 [iV Af, iV Ah].toArray w (Ret w [] fun _ v _ => v = .agg (GFraction.enc r).toArray) := by
 refine f_enter [] [] Tryz.func60 rfl Tryz.ntmps60 rfl (by simp) (by simp [fps]) (by simp [fps]) fun a S => ?_
 unfold words_Fraction at h
 replace S := S.nk [] [(0, iV Af), (1, iV Ah)] [] rfl (subR rfl)
 refine Fs (Fg (l_alloc S Tryz.zeroValue36 (cs := [iV 0, iV 0]) rfl rfl ?_));clear S;intro a w1 b1 hz1 hk1 S
 refine Ld (Tn (Fs (Fg (lv S (Rm (S.tm rfl)) rfl ?_))));clear S;intro a S
 refine lv S (Rm (S.tm rfl)) rfl ?_;clear S;intro a S
 refine lv S (Ra (S.tm rfl)) rfl ?_;clear S;intro a S
 refine lv S (Ra (S.tm rfl)) rfl ?_;clear S;intro a S
 refine Ld (Tn (Fs ?_))
 replace S := S.nk [.blk b1 [iV 0, iV 0] 36] [(0, iV Af), (1, iV Ah), (4, .pointer (some ⟨b1, 0, none⟩)), (5, iV Af), (6, iV Ah)] [true] rfl (subR rfl)
 obtain ⟨j1, hj1, h⟩ := joinE h
 refine f_join (fun a w' => ∃ x2 : Int, j1 x2 = some r ∧ Sx w [] nov [.blk b1 [iV 0, iV 0] 36] [(0, iV Af), (1, iV Ah), (4, .pointer (some ⟨b1, 0, none⟩)), (6, iV x2)] 22 a w') ?_ ?_
 ·refine wp_block (f_loop (fun (m1 : Nat) a w' => ∃ x1 : Int, ∃ x2 : Int, words_Fraction_l1 j1 m1 x1 x2 = some r ∧ Sx w [] nov [.blk b1 [iV 0, iV 0] 36] [(0, iV Af), (1, iV Ah), (4, .pointer (some ⟨b1, 0, none⟩)), (5, iV x1), (6, iV x2)] 22 a w') id ((Af - 0).toNat + 2) ⟨Af, Ah, h, S.nf [true] rfl (subR rfl)⟩ ?_)
  clear S h;rintro m1 a w2 ⟨x1, x2, h, S⟩
  cases m1 with
  | zero => rw [words_Fraction_l1.eq_1] at h;cases h
  | succ m1 =>
   rw [words_Fraction_l1.eq_2] at h
   refine Fs (Fs (Fg (lv S (Rm (S.tm rfl)) rfl ?_)));clear S;intro a S
   refine lv S (rn_gtr (S.tm rfl) rfl) rfl ?_;clear S;intro a S
   refine Ld (Tn (f_cond (S.tm rfl) (fun hb1 => ?_) (fun hb1 => ?_)))
   ·replace h := iteT h hb1
    refine wp_skip (Tn (wp_block (Fg (lv S (Rm (S.tm rfl)) rfl ?_))));clear S;intro a S
    refine lv S (Rm (S.tm rfl)) rfl ?_;clear S;intro a S
    obtain ⟨hc1, h⟩ := chkE h
    refine lv S (rn_rem (S.tm rfl) (S.tm rfl) (ne0_of hc1)) rfl ?_;clear S;intro a S
    refine lv S (Rm (S.tm rfl)) rfl ?_;clear S;intro a S
    refine lv S (Ra (S.tm rfl)) rfl ?_;clear S;intro a S
    refine lv S (Ra (S.tm rfl)) rfl ?_;clear S;intro a S
    refine Ld (blk_n (Tn ?_))
    exact ⟨m1, ⟨Int.tmod x2 x1, x1, h, S.nf [true] rfl ⟨rfl, rfl, rfl, rfl, rfl, trivial⟩⟩, Nat.lt_succ_self _⟩
   ·replace h := iteF h hb1
    refine wp_exit (then_x (then_x (x_same (Tn ?_))))
    exact ⟨x2, h, S.nf [true] rfl (subR rfl)⟩
 clear S h;rintro a w3 ⟨x2, h, S⟩;rw [hj1] at h;clear hj1 j1
 refine Tn (Fs ?_)
 obtain ⟨hc2, h⟩ := chkE h
 obtain ⟨hc3, h⟩ := chkE h
 refine d_region [] ([b1]) Tryz.mixed S rfl (by kernel_rfl) ?_;clear S;intro w5 hk3 hsel S
 refine d_quiet 0 S hsel rfl rfl rfl (by kernel_rfl) (by kernel_rfl) rfl (fun _ hw => (Rm (S.tm rfl))) ?_;clear S;intro a S
 refine d_quiet 1 S hsel rfl rfl rfl (by kernel_rfl) (by kernel_rfl) rfl (fun _ hw => (Rm (S.tm rfl))) ?_;clear S;intro a S
 refine d_quiet 2 S hsel rfl rfl rfl (by kernel_rfl) (by kernel_rfl) rfl (fun _ hw => (rn_quo (S.tm rfl) (S.tm rfl) (ne0_of hc2))) ?_;clear S;intro a S
 refine d_quiet 3 S hsel rfl rfl rfl (by kernel_rfl) (by kernel_rfl) rfl (fun _ hw => (Rm (S.tm rfl))) ?_;clear S;intro a S
 refine d_quiet 4 S hsel rfl rfl rfl (by kernel_rfl) (by kernel_rfl) rfl (fun _ hw => (Rm (S.tm rfl))) ?_;clear S;intro a S
 refine d_quiet 5 S hsel rfl rfl rfl (by kernel_rfl) (by kernel_rfl) rfl (fun _ hw => (rn_quo (S.tm rfl) (S.tm rfl) (ne0_of hc3))) ?_;clear S;intro a S
 refine d_quiet 6 S hsel rfl rfl rfl (by kernel_rfl) (by kernel_rfl) rfl (fun _ hw => (rn_bld bt_36 (pv := [(0, iV (W (Int.tdiv Af x2))), (1, iV (W (Int.tdiv Ah x2)))]) ⟨rfl, (S.tm rfl), rfl, (S.tm rfl), trivial⟩ (cs := [iV (W (Int.tdiv Af x2)), iV (W (Int.tdiv Ah x2))]) (by kernel_rfl))) ?_;clear S;intro a S
 refine d_loud1 7 (by kernel_rfl) rfl (l_store S (S.tm rfl) (S.tm rfl) (i := 0) (off := 0) rfl Tryz.sizeOf36 (vs := [iV (W (Int.tdiv Af x2)), iV (W (Int.tdiv Ah x2))]) rfl rfl rfl rfl ?_);clear S;intro w6 hk4 S
 refine Ld (d_next hk4 (d_end (by kernel_rfl) ?_))
 clear hsel
 replace S := S.nk [.blk b1 [iV (W (Int.tdiv Af x2)), iV (W (Int.tdiv Ah x2))] 36] [(4, .pointer (some ⟨b1, 0, none⟩))] [true] rfl ⟨rfl, trivial⟩
 refine Tn (wp_ret ?_)
 obtain rfl := Option.some.inj h
 exact f_retG S (rs := [.cell 4 36]) (vs := [.agg #[iV (W (Int.tdiv Af x2)), iV (W (Int.tdiv Ah x2))]]) Tryz.results60 ⟨(res_cell (off := 0) S rfl Tryz.isAgg36 Tryz.sizeOf36 rfl (S.cellsAt (i := 0) rfl)), trivial⟩ rfl rfl
set_option maxRecDepth 20000 in
theorem points_race_ok (w : World) (Aa : GTable) (Ar : R27) (At : rel_27 (view w []) Aa Ar) (O : Value) (Ab : List GScored) (Ad : Slc (view w []) 5 O (Ab.map GScored.enc)) (r : (List Gpoints_row)) (h : points_race Aa Ab = some r) :
    Calls Tryz.prog 56 [.agg (R27.enc Ar).toArray, O].toArray w (Ret w [] fun τ v _ => OwnV τ 61 7 v r.length (r.flatMap Gpoints_row.enc)) := by
 obtain ⟨u1, rfl, hs1⟩ := At
 refine f_enter [] [] Tryz.func56 rfl Tryz.ntmps56 rfl (by simp) (by simp [fps]) (by simp [fps]) fun a S => ?_
 unfold points_race at h
 replace S := S.nk [] [(0, .agg #[u1.val, iV Aa.Relay, iV Aa.Most]), (1, O)] [] rfl (subR rfl)
 refine Fs (Fg (l_box S (S.tm rfl) (cs := [u1.val, iV Aa.Relay, iV Aa.Most]) rfl rfl ?_));clear S;intro a w1 b1 hz1 hk1 S
 refine lv S (Ra rfl) rfl ?_;clear S;intro a S
 refine Ld (Tn (Fs (Fg (lv S (Ra rfl) rfl ?_))));clear S;intro a S
 replace S := S.nil 61 7
 refine Ld (Tn (Fs (Fg (lv S (Ra rfl) rfl ?_))));clear S;intro a S
 replace S := S.nil 3 1
 refine Ld (Tn (Fs (Fg (l_makeMap (κ := ByteArray) (ν := Int) S rfl Value.string (Value.int .i64) ?_))));clear S;intro a w2 b2 hz2 hk2 S
 refine lv S (Ra (S.tm rfl)) rfl ?_;clear S;intro a S
 refine Ld (Tn (Fs (Fs (Fg (lv S (Rm (S.tm rfl)) rfl ?_)))));clear S;intro a S
 refine lv S (rn_lenT sl_29 (S.tm rfl) (slc_len Ad)) rfl ?_;clear S;intro a S
 refine lv S (Rm rfl) rfl ?_;clear S;intro a S
 refine Ld (Tn ?_)
 replace S := S.nk [.map b2 (ments Value.string (Value.int .i64) ([] : List (ByteArray × Int))) ([] : List (ByteArray × Int)).length, .own (.slice none 0 0) 3 1 ([] : List Int).length (([] : List Int).flatMap eInt), .own (.slice none 0 0) 61 7 ([] : List Gpoints_row).length (([] : List Gpoints_row).flatMap Gpoints_row.enc), .blk b1 [u1.val, iV Aa.Relay, iV Aa.Most] 27] [(1, O), (2, .pointer (some ⟨b1, 0, none⟩)), (5, (.slice none 0 0)), (6, (.slice none 0 0)), (7, .map (some b2)), (16, O), (17, iV (Ab.length : Int)), (18, iV 0)] [true, true, true, true] rfl (subR rfl)
 obtain ⟨j1, hj1, h⟩ := joinE h
 refine f_join (fun a w' => ∃ x1 : List (ByteArray × Int), ∃ x2 : List Int, ∃ x3 : List Gpoints_row, ∃ v1 : Value, ∃ v2 : Value, j1 x1 x2 x3 = some r ∧ Sx w [] nov [.map b2 (ments Value.string (Value.int .i64) x1) x1.length, .own v1 3 1 x2.length (x2.flatMap eInt), .own v2 61 7 x3.length (x3.flatMap Gpoints_row.enc), .blk b1 [u1.val, iV Aa.Relay, iV Aa.Most] 27] [(1, O), (2, .pointer (some ⟨b1, 0, none⟩)), (5, v2), (6, v1)] 132 a w') ?_ ?_
 ·refine wp_block (f_loop (fun (ys1 : List GScored) a w' => ∃ i1 : Nat, ∃ x1 : List (ByteArray × Int), ∃ x2 : List Int, ∃ x3 : List Gpoints_row, ∃ v1 : Value, ∃ v2 : Value, (∃ dn, Ab = dn ++ ys1 ∧ dn.length = i1) ∧ points_race_l1 Aa j1 ys1 i1 x1 x2 x3 = some r ∧ Sx w [] nov [.map b2 (ments Value.string (Value.int .i64) x1) x1.length, .own v1 3 1 x2.length (x2.flatMap eInt), .own v2 61 7 x3.length (x3.flatMap Gpoints_row.enc), .blk b1 [u1.val, iV Aa.Relay, iV Aa.Most] 27] [(1, O), (2, .pointer (some ⟨b1, 0, none⟩)), (5, v2), (6, v1), (7, .map (some b2)), (16, O), (17, iV (Ab.length : Int)), (18, iV (i1 : Int))] 132 a w') List.length Ab ⟨0, ([] : List (ByteArray × Int)), ([] : List Int), ([] : List Gpoints_row), (.slice none 0 0), (.slice none 0 0), ⟨[], rfl, rfl⟩, h, S.nf [true, true, true, true] rfl (subR rfl)⟩ ?_)
  clear S h;rintro ys1 a w3 ⟨i1, x1, x2, x3, v1, v2, ⟨dn, hd1, hi1⟩, h, S⟩
  cases ys1 with
  | nil =>
   rw [points_race_l1.eq_1] at h
   refine Fs (Fg (lv S (rn_lss (S.tm rfl) (S.tm rfl)) rfl ?_));clear S;intro a S
   refine Ld ?_
   replace S := S.nk [.map b2 (ments Value.string (Value.int .i64) x1) x1.length, .own v1 3 1 x2.length (x2.flatMap eInt), .own v2 61 7 x3.length (x3.flatMap Gpoints_row.enc), .blk b1 [u1.val, iV Aa.Relay, iV Aa.Most] 27] [(1, O), (2, .pointer (some ⟨b1, 0, none⟩)), (5, v2), (6, v1), (7, .map (some b2)), (16, O), (17, iV (Ab.length : Int)), (18, iV (i1 : Int)), (19, bV (decide ((i1 : Int) < (Ab.length : Int))))] [true, true, true, true] rfl (subR rfl)
   refine Tn (Fs (wp_cond_false ((S.tm rfl).trans (congrArg Value.bool (rng_nil hd1 hi1))) (wp_exit (then_x (then_x (x_same ?_))))))
   refine Tn ?_
   exact ⟨x1, x2, x3, v1, v2, h, S.nf [true, true, true, true] rfl (subR rfl)⟩
  | cons y1 ys1 =>
   rw [points_race_l1.eq_2] at h
   refine Fs (Fg (lv S (rn_lss (S.tm rfl) (S.tm rfl)) rfl ?_));clear S;intro a S
   refine Ld ?_
   replace S := S.nk [.map b2 (ments Value.string (Value.int .i64) x1) x1.length, .own v1 3 1 x2.length (x2.flatMap eInt), .own v2 61 7 x3.length (x3.flatMap Gpoints_row.enc), .blk b1 [u1.val, iV Aa.Relay, iV Aa.Most] 27] [(1, O), (2, .pointer (some ⟨b1, 0, none⟩)), (5, v2), (6, v1), (7, .map (some b2)), (16, O), (17, iV (Ab.length : Int)), (18, iV (i1 : Int)), (19, bV (decide ((i1 : Int) < (Ab.length : Int))))] [true, true, true, true] rfl (subR rfl)
   refine Tn (Fs (wp_cond_true ((S.tm rfl).trans (congrArg Value.bool (rng_cons hd1 hi1))) (wp_skip (Tn (Fs ?_)))))
   obtain ⟨j2, hj2, h⟩ := joinE h
   refine f_join (fun a w' => ∃ x4 : List (ByteArray × Int), ∃ x5 : List Int, ∃ x6 : List Gpoints_row, ∃ v3 : Value, ∃ v4 : Value, j2 x4 x5 x6 = some r ∧ Sx w [] nov [.map b2 (ments Value.string (Value.int .i64) x4) x4.length, .own v3 3 1 x5.length (x5.flatMap eInt), .own v4 61 7 x6.length (x6.flatMap Gpoints_row.enc), .blk b1 [u1.val, iV Aa.Relay, iV Aa.Most] 27] [(1, O), (2, .pointer (some ⟨b1, 0, none⟩)), (5, v4), (6, v3), (7, .map (some b2)), (16, O), (17, iV (Ab.length : Int)), (18, iV (i1 : Int))] 132 a w') ?_ ?_
   ·refine wp_block (Fs (Fg ?_))
    obtain ⟨b3, o1, hm1, hr1⟩ := rn_indexT (a := a) (x := .tmp 16) (y := .tmp 18) (ty := 0) sl_29 Ad (get_mid hd1 hi1) rfl (S.tm rfl) (S.tm rfl)
    refine lv S (hr1 _) rfl ?_;clear S;intro a S
    clear hr1
    refine lv S (rn_ldA Tryz.isAgg54 Tryz.sizeOf54 (off := o1) (o := 0) (part := (GScored.enc y1)) rfl rfl (S.tm rfl) (hm1.at S.emb0)) rfl ?_;clear S;intro a S
    refine l_alloc S Tryz.zeroValue54 (cs := [sV k_empty, sV k_empty, sV k_empty, iV 0, bV false]) rfl rfl ?_;clear S;intro a w6 b4 hz3 hk3 S
    refine l_store S (S.tm rfl) (S.tm rfl) (i := 0) (off := 0) rfl Tryz.sizeOf54 (vs := (GScored.enc y1)) rfl rfl rfl rfl ?_;clear S;intro w7 hk4 S
    refine Ld (Tn (Fs (Fs (Fg (lv S (rn_fld fa_54_3 (S.tm rfl)) rfl ?_)))));clear S;intro a S
    refine lv S (rn_load Tryz.isAgg3 (S.tm rfl) (S.cell (i := 0) rfl rfl)) rfl ?_;clear S;intro a S
    refine lv S (rn_eql (S.tm rfl) rfl) rfl ?_;clear S;intro a S
    refine lv S (Rm (S.tm rfl)) rfl ?_;clear S;intro a S
    refine f_cutm 4 (fun a w' => Keep [] w7 w' ∧ Sx w [] nov [.blk b4 (GScored.enc y1) 54, .map b2 (ments Value.string (Value.int .i64) x1) x1.length, .own v1 3 1 x2.length (x2.flatMap eInt), .own v2 61 7 x3.length (x3.flatMap Gpoints_row.enc), .blk b1 [u1.val, iV Aa.Relay, iV Aa.Most] 27] [(1, O), (2, .pointer (some ⟨b1, 0, none⟩)), (5, v2), (6, v1), (7, .map (some b2)), (9, .pointer (some ⟨b4, 0, none⟩)), (16, O), (17, iV (Ab.length : Int)), (18, iV (i1 : Int)), (29, bV ((decide (y1.Rank = 0)) || (decide (y1.Club = k_empty))))] 132 a w') ?_ ?_
    ·rcases Bool.eq_false_or_eq_true (decide (y1.Rank = 0)) with hb1 | hb1
     ·iterate 3 (refine l_skip S rfl rfl rfl (neq_t hb1) rfl ?_ rfl;clear S;intro a S)
      refine lv S (rn_or_t (decide (y1.Club = k_empty)) hb1 (S.tm rfl) rfl) rfl ?_;clear S;intro a S
      refine Ld (Tn ?_)
      exact ⟨Keep.refl _ _, S.nf [true, true, true, true, true] rfl (subR rfl)⟩
     ·refine l_want S rfl rfl rfl hb1 (lv S (rn_fld fa_54_2 (S.tm rfl)) rfl ?_);clear S;intro a S
      refine l_want S rfl rfl rfl hb1 (lv S (rn_load Tryz.isAgg9 (S.tm rfl) (S.cell (i := 0) rfl rfl)) rfl ?_);clear S;intro a S
      refine l_want S rfl rfl rfl hb1 (lv S (rn_seql (S.tm rfl) rfl) rfl ?_);clear S;intro a S
      refine lv S (rn_or_f hb1 (S.tm rfl) (S.tm rfl)) rfl ?_;clear S;intro a S
      refine Ld (Tn ?_)
      exact ⟨Keep.refl _ _, S.nf [true, true, true, true, true] rfl (subR rfl)⟩
    clear S;rintro a w8 ⟨hk5, S⟩
    refine Ld (Tn (f_cond (S.tm rfl) (fun hb2 => ?_) (fun hb2 => ?_)))
    ·replace h := iteT h hb2
     refine wp_exit (then_x (x_same (Tn ?_)))
     exact ⟨x1, x2, x3, v1, v2, h, S.nf [false, true, true, true, true] rfl (subR rfl)⟩
    ·replace h := iteF h hb2
     refine wp_skip (Tn (Fs (Fs (Fg (lv S (Rm (S.tm rfl)) rfl ?_)))));clear S;intro a S
     refine lv S (rn_fld fa_54_2 (S.tm rfl)) rfl ?_;clear S;intro a S
     refine lv S (rn_load Tryz.isAgg9 (S.tm rfl) (S.cell (i := 0) rfl rfl)) rfl ?_;clear S;intro a S
     refine lv S (rn_lookup (kv := Value.string) (vv := (Value.int .i64)) (m := x1) (key := y1.Club) (z := 0) (S.map_at (i := 1) rfl) Tryz.underlying102 (keyT_str Tryz.underlying9) Tryz.zeroValue3 (S.tm rfl) (S.tm rfl)) rfl ?_;clear S;intro a S
     refine lv S (rn_add (S.tm rfl) rfl) rfl ?_;clear S;intro a S
     refine l_mapUpdate (kv := Value.string) (vv := (Value.int .i64)) (m := x1) (key := y1.Club) (val := W ((mgetD x1 y1.Club 0) + 1)) S (i := 1) rfl Tryz.underlying102 (keyT_str Tryz.underlying9) (S.tm rfl) (S.tm rfl) (S.tm rfl) ?_;clear S;intro w9 hk6 S
     refine Ld ?_
     replace S := S.nk [.blk b4 (GScored.enc y1) 54, .map b2 (ments Value.string (Value.int .i64) (mput x1 y1.Club (W ((mgetD x1 y1.Club 0) + 1)))) (mput x1 y1.Club (W ((mgetD x1 y1.Club 0) + 1))).length, .own v1 3 1 x2.length (x2.flatMap eInt), .own v2 61 7 x3.length (x3.flatMap Gpoints_row.enc), .blk b1 [u1.val, iV Aa.Relay, iV Aa.Most] 27] [(1, O), (2, .pointer (some ⟨b1, 0, none⟩)), (5, v2), (6, v1), (7, .map (some b2)), (9, .pointer (some ⟨b4, 0, none⟩)), (16, O), (17, iV (Ab.length : Int)), (18, iV (i1 : Int))] [true, true, true, true, true] rfl (subR rfl)
     refine Tn (Fs (Fg (lv S (rn_fld fa_27_2 (S.tm rfl)) rfl ?_)));clear S;intro a S
     refine lv S (rn_load Tryz.isAgg3 (S.tm rfl) (S.cell (i := 4) rfl rfl)) rfl ?_;clear S;intro a S
     refine lv S (rn_eql (S.tm rfl) rfl) rfl ?_;clear S;intro a S
     refine lv S (Rm (S.tm rfl)) rfl ?_;clear S;intro a S
     refine f_cutm 8 (fun a w' => Keep [] w9 w' ∧ Sx w [] nov [.blk b4 (GScored.enc y1) 54, .map b2 (ments Value.string (Value.int .i64) (mput x1 y1.Club (W ((mgetD x1 y1.Club 0) + 1)))) (mput x1 y1.Club (W ((mgetD x1 y1.Club 0) + 1))).length, .own v1 3 1 x2.length (x2.flatMap eInt), .own v2 61 7 x3.length (x3.flatMap Gpoints_row.enc), .blk b1 [u1.val, iV Aa.Relay, iV Aa.Most] 27] [(1, O), (2, .pointer (some ⟨b1, 0, none⟩)), (5, v2), (6, v1), (7, .map (some b2)), (9, .pointer (some ⟨b4, 0, none⟩)), (16, O), (17, iV (Ab.length : Int)), (18, iV (i1 : Int)), (46, bV ((decide (Aa.Most = 0)) || (decide ((mgetD (mput x1 y1.Club (W ((mgetD x1 y1.Club 0) + 1))) y1.Club 0) ≤ Aa.Most))))] 132 a w') ?_ ?_
     ·rcases Bool.eq_false_or_eq_true (decide (Aa.Most = 0)) with hb3 | hb3
      ·iterate 7 (refine l_skip S rfl rfl rfl (neq_t hb3) rfl ?_ rfl;clear S;intro a S)
       refine lv S (rn_or_t (decide ((mgetD (mput x1 y1.Club (W ((mgetD x1 y1.Club 0) + 1))) y1.Club 0) ≤ Aa.Most)) hb3 (S.tm rfl) rfl) rfl ?_;clear S;intro a S
       refine Ld (Tn ?_)
       exact ⟨Keep.refl _ _, S.nf [true, true, true, true, true] rfl (subR rfl)⟩
      ·refine l_want S rfl rfl rfl hb3 (lv S (Rm (S.tm rfl)) rfl ?_);clear S;intro a S
       refine l_want S rfl rfl rfl hb3 (lv S (rn_fld fa_54_2 (S.tm rfl)) rfl ?_);clear S;intro a S
       refine l_want S rfl rfl rfl hb3 (lv S (rn_load Tryz.isAgg9 (S.tm rfl) (S.cell (i := 0) rfl rfl)) rfl ?_);clear S;intro a S
       refine l_want S rfl rfl rfl hb3 (lv S (rn_lookup (kv := Value.string) (vv := (Value.int .i64)) (m := (mput x1 y1.Club (W ((mgetD x1 y1.Club 0) + 1)))) (key := y1.Club) (z := 0) (S.map_at (i := 1) rfl) Tryz.underlying102 (keyT_str Tryz.underlying9) Tryz.zeroValue3 (S.tm rfl) (S.tm rfl)) rfl ?_);clear S;intro a S
       refine l_want S rfl rfl rfl hb3 (lv S (rn_fld fa_27_2 (S.tm rfl)) rfl ?_);clear S;intro a S
       refine l_want S rfl rfl rfl hb3 (lv S (rn_load Tryz.isAgg3 (S.tm rfl) (S.cell (i := 4) rfl rfl)) rfl ?_);clear S;intro a S
       refine l_want S rfl rfl rfl hb3 (lv S (rn_leq (S.tm rfl) (S.tm rfl)) rfl ?_);clear S;intro a S
       refine lv S (rn_or_f hb3 (S.tm rfl) (S.tm rfl)) rfl ?_;clear S;intro a S
       refine Ld (Tn ?_)
       exact ⟨Keep.refl _ _, S.nf [true, true, true, true, true] rfl (subR rfl)⟩
     clear S;rintro a w10 ⟨hk7, S⟩
     refine Ld (Tn ?_)
     obtain ⟨j3, hj3, h⟩ := joinE h
     refine f_join (fun a w' => ∃ x7 : List Int, ∃ v5 : Value, j3 x7 = some r ∧ Sx w [] nov [.blk b4 (GScored.enc y1) 54, .map b2 (ments Value.string (Value.int .i64) (mput x1 y1.Club (W ((mgetD x1 y1.Club 0) + 1)))) (mput x1 y1.Club (W ((mgetD x1 y1.Club 0) + 1))).length, .own v5 3 1 x7.length (x7.flatMap eInt), .own v2 61 7 x3.length (x3.flatMap Gpoints_row.enc), .blk b1 [u1.val, iV Aa.Relay, iV Aa.Most] 27] [(1, O), (2, .pointer (some ⟨b1, 0, none⟩)), (5, v2), (6, v5), (7, .map (some b2)), (9, .pointer (some ⟨b4, 0, none⟩)), (16, O), (17, iV (Ab.length : Int)), (18, iV (i1 : Int))] 132 a w') ?_ ?_
     ·refine f_cond (S.tm rfl) (fun hb4 => ?_) (fun hb4 => ?_)
      ·replace h := iteT h hb4
       refine Fg (lv S (Rm (S.tm rfl)) rfl ?_);clear S;intro a S
       refine lv S (Rm (S.tm rfl)) rfl ?_;clear S;intro a S
       refine lv S (rn_lenT sl_58 (S.tm rfl) (own_len (S.own_at (i := 3) rfl))) rfl ?_;clear S;intro a S
       refine l_buildSlice S Tryz.underlying22 Tryz.sizeOf3 Tryz.zeroValue3 rfl rfl (pv := [(0, iV (x3.length : Int))]) ⟨rfl, (S.tm rfl), trivial⟩ (cs := [iV (x3.length : Int)]) (by kernel_rfl) rfl ?_;clear S;intro a w12 b5 hz4 hk8 S
       obtain ⟨hc1, h⟩ := chkE h
       refine l_appendT sl_22 enc_int S (S.tm rfl) (i := 3) rfl (S.tm rfl) (j := 0) rfl (ys := [(x3.length : Int)]) rfl rfl rfl rfl (by have := room_lt hc1;omega) rfl ?_;clear S;intro v6 a w13 hk9 S
       refine lv S (Ra (S.tm rfl)) rfl ?_;clear S;intro a S
       refine Ld ?_
       replace S := S.nk [.blk b4 (GScored.enc y1) 54, .map b2 (ments Value.string (Value.int .i64) (mput x1 y1.Club (W ((mgetD x1 y1.Club 0) + 1)))) (mput x1 y1.Club (W ((mgetD x1 y1.Club 0) + 1))).length, .own v6 3 1 (x2 ++ [(x3.length : Int)]).length ((x2 ++ [(x3.length : Int)]).flatMap eInt), .own v2 61 7 x3.length (x3.flatMap Gpoints_row.enc), .blk b1 [u1.val, iV Aa.Relay, iV Aa.Most] 27] [(1, O), (2, .pointer (some ⟨b1, 0, none⟩)), (5, v2), (6, v6), (7, .map (some b2)), (9, .pointer (some ⟨b4, 0, none⟩)), (16, O), (17, iV (Ab.length : Int)), (18, iV (i1 : Int))] [false, true, true, true, true, true] rfl (subR rfl)
       refine Tn ?_
       exact ⟨(x2 ++ [(x3.length : Int)]), v6, h, S.nf [true, true, true, true, true] rfl (subR rfl)⟩
      ·replace h := iteF h hb4
       refine wp_skip (Tn ?_)
       exact ⟨x2, v1, h, S.nf [true, true, true, true, true] rfl (subR rfl)⟩
     clear S h;rintro a w11 ⟨x7, v5, h, S⟩;rw [hj3] at h;clear hj3 j3
     refine Tn ?_
     obtain ⟨hc2, h⟩ := chkE h
     refine d_region [] (v2.ownBlock.toList) Tryz.mixed S rfl (by kernel_rfl) ?_;clear S;intro w17 hk13 hsel S
     refine d_quiet 0 S hsel rfl rfl rfl (by kernel_rfl) (by kernel_rfl) rfl (fun _ hw => (Rm (S.tm rfl))) ?_;clear S;intro a S
     refine d_quiet 1 S hsel rfl rfl rfl (by kernel_rfl) (by kernel_rfl) rfl (fun _ hw => (rn_ldA Tryz.isAgg54 Tryz.sizeOf54 (off := 0) (o := 0) (part := (GScored.enc y1)) rfl rfl (S.tm rfl) ((S.blk_mem (i := 0) (cells := (GScored.enc y1)) (b := b4) (T := 54) rfl (ne_fp (i := 3) (j := 0) (e := .own v2 61 7 x3.length (x3.flatMap Gpoints_row.enc)) (e' := .blk b4 (GScored.enc y1) 54) S rfl rfl rfl)).kept hw))) ?_;clear S;intro a S
     refine d_loud1 2 (by kernel_rfl) rfl (l_enter S (fun _ => run_call (vs := []) trivial Tryz.call33) (points_none_ok _ _ rfl) rfl ?_);clear S;intro v9 a w18 hv2 hk14 hn2 S
     subst hv2
     refine Ld (d_next (Keep.none hk14) (d_quiet 3 S hsel rfl rfl rfl (by kernel_rfl) (by kernel_rfl) rfl (fun _ hw => (rn_bld bt_61 (pv := [(0, .agg (GScored.enc y1).toArray), (1, .agg (GFraction.enc points_none).toArray)]) ⟨rfl, (S.tm rfl), rfl, (S.tm rfl), trivial⟩ (cs := [sV y1.Race, sV y1.Who, sV y1.Club, iV y1.Rank, bV y1.Relay, iV points_none.Num, iV points_none.Den]) (by kernel_rfl))) ?_));clear S;intro a S
     refine d_loud1 4 (by kernel_rfl) rfl (l_buildSlice S Tryz.underlying58 Tryz.sizeOf61 Tryz.zeroValue61 rfl rfl (pv := [(0, .agg (Gpoints_row.enc (Gpoints_row.mk y1 points_none)).toArray)]) ⟨rfl, (S.tm rfl), trivial⟩ (cs := [sV y1.Race, sV y1.Who, sV y1.Club, iV y1.Rank, bV y1.Relay, iV points_none.Num, iV points_none.Den]) (by kernel_rfl) rfl ?_);clear S;intro a w19 b7 hz6 hk15 S
     refine Ld (d_next (Keep.none hk15) (d_loud1 5 (by kernel_rfl) rfl ?_))
     refine l_appendT sl_58 Gpoints_row.enc_ok S (S.tm rfl) (i := 4) rfl (S.tm rfl) (j := 0) rfl (ys := [(Gpoints_row.mk y1 points_none)]) rfl rfl rfl rfl (by have := room_lt hc2;omega) rfl ?_;clear S;intro v10 a w20 hk16 S
     refine Ld (d_next hk16 (d_rest [6] hsel (by kernel_rfl) rfl ?_))
     clear hsel
     refine s_lv S rfl (Ra (S.tm rfl)) rfl ?_;clear S;intro a S
     refine s_done ?_
     replace S := S.nk [.map b2 (ments Value.string (Value.int .i64) (mput x1 y1.Club (W ((mgetD x1 y1.Club 0) + 1)))) (mput x1 y1.Club (W ((mgetD x1 y1.Club 0) + 1))).length, .own v5 3 1 x7.length (x7.flatMap eInt), .own v10 61 7 (x3 ++ [(Gpoints_row.mk y1 points_none)]).length ((x3 ++ [(Gpoints_row.mk y1 points_none)]).flatMap Gpoints_row.enc), .blk b1 [u1.val, iV Aa.Relay, iV Aa.Most] 27] [(1, O), (2, .pointer (some ⟨b1, 0, none⟩)), (5, v10), (6, v5), (7, .map (some b2)), (16, O), (17, iV (Ab.length : Int)), (18, iV (i1 : Int))] [false, false, true, true, true, true] rfl (subR rfl)
     refine blk_n (Tn ?_)
     exact ⟨(mput x1 y1.Club (W ((mgetD x1 y1.Club 0) + 1))), x7, (x3 ++ [(Gpoints_row.mk y1 points_none)]), v5, v10, h, S.nf [true, true, true, true] rfl (subR rfl)⟩
   clear S h;rintro a w5 ⟨x4, x5, x6, v3, v4, h, S⟩;rw [hj2] at h;clear hj2 j2
   refine Tn (Fg (lv S (rn_add (S.tm rfl) rfl) rfl ?_));clear S;intro a S
   refine lv S (Rm (S.tm rfl)) rfl ?_;clear S;intro a S
   refine Ld (Tn ?_)
   exact ⟨ys1, ⟨i1 + 1, x4, x5, x6, v3, v4, ⟨_, (hd1).trans (List.append_cons _ _ _), by simp [hi1]⟩, h, S.nf [true, true, true, true] rfl ⟨rfl, rfl, rfl, rfl, rfl, rfl, rfl, (congrArg (fun z => some (Value.int .i64 z)) (rng_next hd1 hi1 (slc_max Ad))), trivial⟩⟩, Nat.lt_succ_self _⟩
 clear S h;rintro a w4 ⟨x1, x2, x3, v1, v2, h, S⟩;rw [hj1] at h;clear hj1 j1
 refine Tn (Fs (Fs (Fg (lv S (Ra rfl) rfl ?_))));clear S;intro a S
 refine Ld (Tn ?_)
 replace S := S.nk [.own v1 3 1 x2.length (x2.flatMap eInt), .own v2 61 7 x3.length (x3.flatMap Gpoints_row.enc), .blk b1 [u1.val, iV Aa.Relay, iV Aa.Most] 27] [(1, O), (2, .pointer (some ⟨b1, 0, none⟩)), (5, v2), (6, v1), (10, iV 0)] [false, true, true, true] rfl (subR rfl)
 obtain ⟨j4, hj4, h⟩ := joinE h
 refine f_join (fun a w' => ∃ x8 : List Gpoints_row, ∃ v11 : Value, j4 x8 = some r ∧ Sx w [] nov [.own v1 3 1 x2.length (x2.flatMap eInt), .own v11 61 7 x8.length (x8.flatMap Gpoints_row.enc), .blk b1 [u1.val, iV Aa.Relay, iV Aa.Most] 27] [(5, v11)] 132 a w') ?_ ?_
 ·refine wp_block (f_loop (fun (m1 : Nat) a w' => ∃ x8 : List Gpoints_row, ∃ x9 : Int, ∃ v11 : Value, points_race_l2 x2 Ab Aa j4 m1 x8 x9 = some r ∧ Sx w [] nov [.own v1 3 1 x2.length (x2.flatMap eInt), .own v11 61 7 x8.length (x8.flatMap Gpoints_row.enc), .blk b1 [u1.val, iV Aa.Relay, iV Aa.Most] 27] [(1, O), (2, .pointer (some ⟨b1, 0, none⟩)), (5, v11), (6, v1), (10, iV x9)] 132 a w') id (((x2.length : Int) - 0).toNat + 2) ⟨x3, 0, v2, h, S.nf [true, true, true] rfl (subR rfl)⟩ ?_)
  clear S h;rintro m1 a w21 ⟨x8, x9, v11, h, S⟩
  cases m1 with
  | zero => rw [points_race_l2.eq_1] at h;cases h
  | succ m1 =>
   rw [points_race_l2.eq_2] at h
   refine Fs (Fs (Fg (lv S (Rm (S.tm rfl)) rfl ?_)));clear S;intro a S
   refine lv S (Rm (S.tm rfl)) rfl ?_;clear S;intro a S
   refine lv S (rn_lenT sl_22 (S.tm rfl) (own_len (S.own_at (i := 0) rfl))) rfl ?_;clear S;intro a S
   refine lv S (rn_lss (S.tm rfl) (S.tm rfl)) rfl ?_;clear S;intro a S
   refine Ld (Tn (f_cond (S.tm rfl) (fun hb5 => ?_) (fun hb5 => ?_)))
   ·replace h := iteT h hb5
    refine wp_skip (Tn (wp_block (Fs (Fg (lv S (Rm (S.tm rfl)) rfl ?_)))));clear S;intro a S
    refine lv S (Ra (S.tm rfl)) rfl ?_;clear S;intro a S
    refine lv S (Ra rfl) rfl ?_;clear S;intro a S
    refine Ld (Tn (Fs ?_))
    replace S := S.nk [.own v1 3 1 x2.length (x2.flatMap eInt), .own v11 61 7 x8.length (x8.flatMap Gpoints_row.enc), .blk b1 [u1.val, iV Aa.Relay, iV Aa.Most] 27] [(1, O), (2, .pointer (some ⟨b1, 0, none⟩)), (5, v11), (6, v1), (10, iV x9), (11, iV x9), (12, iV 0)] [true, true, true] rfl (subR rfl)
    obtain ⟨j5, hj5, h⟩ := joinE h
    refine f_join (fun a w' => ∃ x10 : Int, ∃ x11 : Int, j5 x10 x11 = some r ∧ Sx w [] nov [.own v1 3 1 x2.length (x2.flatMap eInt), .own v11 61 7 x8.length (x8.flatMap Gpoints_row.enc), .blk b1 [u1.val, iV Aa.Relay, iV Aa.Most] 27] [(1, O), (2, .pointer (some ⟨b1, 0, none⟩)), (5, v11), (6, v1), (10, iV x9), (11, iV x10), (12, iV x11)] 132 a w') ?_ ?_
    ·refine wp_block (f_loop (fun (m2 : Nat) a w' => ∃ x10 : Int, ∃ x11 : Int, points_race_l3 Aa x2 x8 x9 j5 m2 x10 x11 = some r ∧ Sx w [] nov [.own v1 3 1 x2.length (x2.flatMap eInt), .own v11 61 7 x8.length (x8.flatMap Gpoints_row.enc), .blk b1 [u1.val, iV Aa.Relay, iV Aa.Most] 27] [(1, O), (2, .pointer (some ⟨b1, 0, none⟩)), (5, v11), (6, v1), (10, iV x9), (11, iV x10), (12, iV x11)] 132 a w') id (((x2.length : Int) - x9).toNat + 2) ⟨x9, 0, h, S.nf [true, true, true] rfl (subR rfl)⟩ ?_)
     clear S h;rintro m2 a w23 ⟨x10, x11, h, S⟩
     cases m2 with
     | zero => rw [points_race_l3.eq_1] at h;cases h
     | succ m2 =>
      rw [points_race_l3.eq_2] at h
      refine Fs (Fs (d_region [] ([]) Tryz.mixed S rfl (by kernel_rfl) ?_));clear S;intro w25 hk17 hsel S
      refine d_rest [0, 1, 2, 3, 4, 5, 6, 7, 8, 9, 10, 11, 12, 13, 14, 15, 16, 17, 18, 19, 20, 21, 22, 23, 24] hsel (by kernel_rfl) rfl ?_
      clear hsel
      refine s_lv S rfl (Rm (S.tm rfl)) rfl ?_;clear S;intro a S
      refine s_lv S rfl (Rm (S.tm rfl)) rfl ?_;clear S;intro a S
      refine s_lv S rfl (rn_lenT sl_22 (S.tm rfl) (own_len (S.own_at (i := 0) rfl))) rfl ?_;clear S;intro a S
      refine s_lv S rfl (rn_lss (S.tm rfl) (S.tm rfl)) rfl ?_;clear S;intro a S
      refine s_lv S rfl (Rm (S.tm rfl)) rfl ?_;clear S;intro a S
      obtain ⟨j6, hj6, h⟩ := joinE h
      refine s_cutm 20 (fun a w' => ∃ c1, j6 c1 = some r ∧ Keep [] w25 w' ∧ Sx w [] nov [.own v1 3 1 x2.length (x2.flatMap eInt), .own v11 61 7 x8.length (x8.flatMap Gpoints_row.enc), .blk b1 [u1.val, iV Aa.Relay, iV Aa.Most] 27] [(1, O), (2, .pointer (some ⟨b1, 0, none⟩)), (5, v11), (6, v1), (10, iV x9), (11, iV x10), (12, iV x11), (88, bV c1)] 132 a w') ?_ ?_
      ·rcases Bool.eq_false_or_eq_true (decide (x10 < (x2.length : Int))) with hb6 | hb6
       ·replace h := iteT h hb6
        refine s_want S rfl rfl rfl rfl hb6 (s_lv0 S (Rm (S.tm rfl)) rfl ?_);clear S;intro a S
        refine s_want S rfl rfl rfl rfl hb6 (s_lv0 S (Rm (S.tm rfl)) rfl ?_);clear S;intro a S
        refine s_want S rfl rfl rfl rfl hb6 (s_lv0 S (Rm (S.tm rfl)) rfl ?_);clear S;intro a S
        refine s_want S rfl rfl rfl rfl hb6 ?_
        obtain ⟨hc3, h⟩ := chkE h
        obtain ⟨b8, hg1, hr2⟩ := rn_indexS (a := a) (x := .tmp 70) (y := .tmp 71) (ty := 0) sl_22 enc_int S (i := 0) rfl (inB_get hc3).1 (inB_get hc3).2 (S.tm rfl) (S.tm rfl)
        refine s_lv0 S (hr2 _) rfl ?_;clear S;intro a S
        clear hr2
        refine s_want S rfl rfl rfl rfl hb6 (s_lv0 S (rn_ld Tryz.isAgg3 (off := x10.toNat * 1) (o := 0) (S.tm rfl) (own_cells enc_int S (i := 0) rfl hg1 (inB_get hc3).1) rfl) rfl ?_);clear S;intro a S
        refine s_want S rfl rfl rfl rfl hb6 ?_
        obtain ⟨hc4, h⟩ := chkE h
        obtain ⟨b9, hg2, hr3⟩ := rn_indexS (a := a) (x := .tmp 69) (y := .tmp 73) (ty := 0) sl_58 Gpoints_row.enc_ok S (i := 1) rfl (inB_get hc4).1 (inB_get hc4).2 (S.tm rfl) (S.tm rfl)
        refine s_lv0 S (hr3 _) rfl ?_;clear S;intro a S
        clear hr3
        refine s_want S rfl rfl rfl rfl hb6 (s_lv0 S (rn_fld fa_61_0 (S.tm rfl)) rfl ?_);clear S;intro a S
        refine s_want S rfl rfl rfl rfl hb6 (s_lv0 S (rn_fld fa_54_3 (S.tm rfl)) rfl ?_);clear S;intro a S
        refine s_want S rfl rfl rfl rfl hb6 (s_lv0 S (rn_ld Tryz.isAgg3 (off := ((nth x2 x10).toNat) * 7) (o := 3) (S.tm rfl) (own_cells Gpoints_row.enc_ok S (i := 1) rfl hg2 (inB_get hc4).1) rfl) rfl ?_);clear S;intro a S
        refine s_want S rfl rfl rfl rfl hb6 (s_lv0 S (Rm (S.tm rfl)) rfl ?_);clear S;intro a S
        refine s_want S rfl rfl rfl rfl hb6 (s_lv0 S (Rm (S.tm rfl)) rfl ?_);clear S;intro a S
        refine s_want S rfl rfl rfl rfl hb6 (s_lv0 S (Rm (S.tm rfl)) rfl ?_);clear S;intro a S
        refine s_want S rfl rfl rfl rfl hb6 ?_
        obtain ⟨hc5, h⟩ := chkE h
        obtain ⟨b10, hg3, hr4⟩ := rn_indexS (a := a) (x := .tmp 79) (y := .tmp 80) (ty := 0) sl_22 enc_int S (i := 0) rfl (inB_get hc5).1 (inB_get hc5).2 (S.tm rfl) (S.tm rfl)
        refine s_lv0 S (hr4 _) rfl ?_;clear S;intro a S
        clear hr4
        refine s_want S rfl rfl rfl rfl hb6 (s_lv0 S (rn_ld Tryz.isAgg3 (off := x9.toNat * 1) (o := 0) (S.tm rfl) (own_cells enc_int S (i := 0) rfl hg3 (inB_get hc5).1) rfl) rfl ?_);clear S;intro a S
        refine s_want S rfl rfl rfl rfl hb6 ?_
        obtain ⟨hc6, h⟩ := chkE h
        obtain ⟨b11, hg4, hr5⟩ := rn_indexS (a := a) (x := .tmp 78) (y := .tmp 82) (ty := 0) sl_58 Gpoints_row.enc_ok S (i := 1) rfl (inB_get hc6).1 (inB_get hc6).2 (S.tm rfl) (S.tm rfl)
        refine s_lv0 S (hr5 _) rfl ?_;clear S;intro a S
        clear hr5
        refine s_want S rfl rfl rfl rfl hb6 (s_lv0 S (rn_fld fa_61_0 (S.tm rfl)) rfl ?_);clear S;intro a S
        refine s_want S rfl rfl rfl rfl hb6 (s_lv0 S (rn_fld fa_54_3 (S.tm rfl)) rfl ?_);clear S;intro a S
        refine s_want S rfl rfl rfl rfl hb6 (s_lv0 S (rn_ld Tryz.isAgg3 (off := ((nth x2 x9).toNat) * 7) (o := 3) (S.tm rfl) (own_cells Gpoints_row.enc_ok S (i := 1) rfl hg4 (inB_get hc6).1) rfl) rfl ?_);clear S;intro a S
        refine s_want S rfl rfl rfl rfl hb6 (s_lv0 S (rn_eql (S.tm rfl) (S.tm rfl)) rfl ?_);clear S;intro a S
        refine s_lv S rfl (rn_and_t hb6 (S.tm rfl) (S.tm rfl)) rfl ?_;clear S;intro a S
        refine s_done ?_
        exact ⟨_, h, Keep.refl _ _, S.nf [true, true, true] rfl (subR rfl)⟩
       ·replace h := iteF h hb6
        iterate 19 (refine s_skip S rfl rfl rfl rfl (neq_f hb6) rfl ?_ rfl;clear S;intro a S)
        refine s_lv S rfl (rn_and_f true hb6 (S.tm rfl) rfl) rfl ?_;clear S;intro a S
        refine s_done ?_
        exact ⟨_, h, Keep.refl _ _, S.nf [true, true, true] rfl (subR rfl)⟩
      clear S h;rintro a w26 ⟨c1, h, hk18, S⟩;rw [hj6] at h;clear hj6 j6
      refine s_done ?_
      replace S := S.nk [.own v1 3 1 x2.length (x2.flatMap eInt), .own v11 61 7 x8.length (x8.flatMap Gpoints_row.enc), .blk b1 [u1.val, iV Aa.Relay, iV Aa.Most] 27] [(1, O), (2, .pointer (some ⟨b1, 0, none⟩)), (5, v11), (6, v1), (10, iV x9), (11, iV x10), (12, iV x11), (88, bV c1)] [true, true, true] rfl (subR rfl)
      refine Tn (f_cond (S.tm rfl) (fun hb7 => ?_) (fun hb7 => ?_))
      ·replace h := iteT h hb7
       refine wp_skip (Tn (Fs ?_))
       obtain ⟨j7, hj7, h⟩ := joinE h
       refine f_join (fun a w' => ∃ x12 : Int, j7 x12 = some r ∧ Sx w [] nov [.own v1 3 1 x2.length (x2.flatMap eInt), .own v11 61 7 x8.length (x8.flatMap Gpoints_row.enc), .blk b1 [u1.val, iV Aa.Relay, iV Aa.Most] 27] [(1, O), (2, .pointer (some ⟨b1, 0, none⟩)), (5, v11), (6, v1), (10, iV x9), (11, iV x10), (12, iV x12)] 132 a w') ?_ ?_
       ·refine wp_block (Fs (Fg (lv S (Rm (S.tm rfl)) rfl ?_)));clear S;intro a S
        refine lv S (rn_fld fa_27_0 (S.tm rfl)) rfl ?_;clear S;intro a S
        refine lv S (rn_load Tryz.isAgg22 (S.tm rfl) (S.cell (i := 2) rfl rfl)) rfl ?_;clear S;intro a S
        refine lv S (rn_lenT sl_22 (S.tm rfl) (slc_len hs1)) rfl ?_;clear S;intro a S
        refine lv S (rn_lss (S.tm rfl) (S.tm rfl)) rfl ?_;clear S;intro a S
        refine Ld (Tn ?_)
        obtain ⟨j8, hj8, h⟩ := joinE h
        refine f_join (fun a w' => ∃ x13 : Int, j8 x13 = some r ∧ Sx w [] nov [.own v1 3 1 x2.length (x2.flatMap eInt), .own v11 61 7 x8.length (x8.flatMap Gpoints_row.enc), .blk b1 [u1.val, iV Aa.Relay, iV Aa.Most] 27] [(1, O), (2, .pointer (some ⟨b1, 0, none⟩)), (5, v11), (6, v1), (10, iV x9), (11, iV x10), (12, iV x13)] 132 a w') ?_ ?_
        ·refine f_cond (S.tm rfl) (fun hb8 => ?_) (fun hb8 => ?_)
         ·replace h := iteT h hb8
          refine Fg (lv S (Rm (S.tm rfl)) rfl ?_);clear S;intro a S
          refine lv S (rn_fld fa_27_0 (S.tm rfl)) rfl ?_;clear S;intro a S
          refine lv S (rn_load Tryz.isAgg22 (S.tm rfl) (S.cell (i := 2) rfl rfl)) rfl ?_;clear S;intro a S
          refine lv S (Rm (S.tm rfl)) rfl ?_;clear S;intro a S
          obtain ⟨hc7, h⟩ := chkE h
          obtain ⟨b12, o6, hm6, hr6⟩ := rn_indexT (a := a) (x := .tmp 98) (y := .tmp 99) (ty := 0) sl_22 hs1 (inB_get hc7).1 (inB_get hc7).2 (S.tm rfl) (S.tm rfl)
          refine lv S (hr6 _) rfl ?_;clear S;intro a S
          clear hr6
          refine lv S (rn_ld Tryz.isAgg3 (off := o6) (o := 0) (S.tm rfl) (hm6.at S.emb0) rfl) rfl ?_;clear S;intro a S
          refine lv S (rn_add (S.tm rfl) (S.tm rfl)) rfl ?_;clear S;intro a S
          refine lv S (Ra (S.tm rfl)) rfl ?_;clear S;intro a S
          refine Ld ?_
          replace S := S.nk [.own v1 3 1 x2.length (x2.flatMap eInt), .own v11 61 7 x8.length (x8.flatMap Gpoints_row.enc), .blk b1 [u1.val, iV Aa.Relay, iV Aa.Most] 27] [(1, O), (2, .pointer (some ⟨b1, 0, none⟩)), (5, v11), (6, v1), (10, iV x9), (11, iV x10), (12, iV (W (x11 + (nth Aa.Points x10))))] [true, true, true] rfl (subR rfl)
          refine Tn ?_
          exact ⟨W (x11 + (nth Aa.Points x10)), h, S.nf [true, true, true] rfl (subR rfl)⟩
         ·replace h := iteF h hb8
          refine wp_skip (Tn ?_)
          exact ⟨x11, h, S.nf [true, true, true] rfl (subR rfl)⟩
        clear S h;rintro a w28 ⟨x13, h, S⟩;rw [hj8] at h;clear hj8 j8
        refine blk_n (Tn ?_)
        exact ⟨x13, h, S.nf [true, true, true] rfl (subR rfl)⟩
       clear S h;rintro a w27 ⟨x12, h, S⟩;rw [hj7] at h;clear hj7 j7
       refine Tn (Fg (lv S (Rm (S.tm rfl)) rfl ?_));clear S;intro a S
       refine lv S (rn_add (S.tm rfl) rfl) rfl ?_;clear S;intro a S
       refine lv S (Ra (S.tm rfl)) rfl ?_;clear S;intro a S
       refine Ld (Tn ?_)
       exact ⟨m2, ⟨W (x10 + 1), x12, h, S.nf [true, true, true] rfl ⟨rfl, rfl, rfl, rfl, rfl, rfl, rfl, trivial⟩⟩, Nat.lt_succ_self _⟩
      ·replace h := iteF h hb7
       refine wp_exit (then_x (then_x (x_same (Tn ?_))))
       exact ⟨x10, x11, h, S.nf [true, true, true] rfl (subR rfl)⟩
    clear S h;rintro a w24 ⟨x10, x11, h, S⟩;rw [hj5] at h;clear hj5 j5
    refine Tn (Fs (Fs (Fg (lv S (Rm (S.tm rfl)) rfl ?_))));clear S;intro a S
    obtain ⟨hc8, h⟩ := chkE h
    obtain ⟨b13, o7, hm7, hr7⟩ := rn_indexT (a := a) (x := .tmp 103) (y := .const (iV 0)) (ty := 0) sl_29 Ad (inB_get hc8).1 (inB_get hc8).2 (S.tm rfl) rfl
    refine lv S (hr7 _) rfl ?_;clear S;intro a S
    clear hr7
    refine lv S (rn_fld fa_54_4 (S.tm rfl)) rfl ?_;clear S;intro a S
    refine lv S (rn_ld Tryz.isAgg4 (off := o7) (o := 4) (S.tm rfl) (hm7.at S.emb0) rfl) rfl ?_;clear S;intro a S
    refine Ld (Tn ?_)
    obtain ⟨j9, hj9, h⟩ := joinE h
    refine f_join (fun a w' => ∃ x14 : Int, j9 x14 = some r ∧ Sx w [] nov [.own v1 3 1 x2.length (x2.flatMap eInt), .own v11 61 7 x8.length (x8.flatMap Gpoints_row.enc), .blk b1 [u1.val, iV Aa.Relay, iV Aa.Most] 27] [(1, O), (2, .pointer (some ⟨b1, 0, none⟩)), (5, v11), (6, v1), (10, iV x9), (11, iV x10), (12, iV x14)] 132 a w') ?_ ?_
    ·refine f_cond (S.tm rfl) (fun hb9 => ?_) (fun hb9 => ?_)
     ·replace h := iteT h hb9
      refine Fg (lv S (Rm (S.tm rfl)) rfl ?_);clear S;intro a S
      refine lv S (rn_fld fa_27_1 (S.tm rfl)) rfl ?_;clear S;intro a S
      refine lv S (rn_load Tryz.isAgg3 (S.tm rfl) (S.cell (i := 2) rfl rfl)) rfl ?_;clear S;intro a S
      refine lv S (rn_mul (S.tm rfl) (S.tm rfl)) rfl ?_;clear S;intro a S
      refine lv S (Ra (S.tm rfl)) rfl ?_;clear S;intro a S
      refine Ld ?_
      replace S := S.nk [.own v1 3 1 x2.length (x2.flatMap eInt), .own v11 61 7 x8.length (x8.flatMap Gpoints_row.enc), .blk b1 [u1.val, iV Aa.Relay, iV Aa.Most] 27] [(1, O), (2, .pointer (some ⟨b1, 0, none⟩)), (5, v11), (6, v1), (10, iV x9), (11, iV x10), (12, iV (W (x11 * Aa.Relay)))] [true, true, true] rfl (subR rfl)
      refine Tn ?_
      exact ⟨W (x11 * Aa.Relay), h, S.nf [true, true, true] rfl (subR rfl)⟩
     ·replace h := iteF h hb9
      refine wp_skip (Tn ?_)
      exact ⟨x11, h, S.nf [true, true, true] rfl (subR rfl)⟩
    clear S h;rintro a w29 ⟨x14, h, S⟩;rw [hj9] at h;clear hj9 j9
    refine Tn (Fs (Fs (Fg (lv S (Rm (S.tm rfl)) rfl ?_))));clear S;intro a S
    refine lv S (Rm (S.tm rfl)) rfl ?_;clear S;intro a S
    refine lv S (Rm (S.tm rfl)) rfl ?_;clear S;intro a S
    obtain ⟨hc9, h⟩ := chkE h
    obtain ⟨u2, hu1, hr8⟩ := rn_sub2 (a := a) (x := .tmp 111) (y := .tmp 112) (y' := .tmp 113) (ty := 22) sl_22 S (i := 0) rfl (S.tm rfl) (S.tm rfl) (S.tm rfl) hc9
    refine lv S (hr8 _) rfl ?_;clear S;intro a S
    clear hr8
    refine lv S (rn_lenT sl_22 (S.tm rfl) (subLen hu1)) rfl ?_;clear S;intro a S
    refine lv S (Rm rfl) rfl ?_;clear S;intro a S
    refine Ld (Tn ?_)
    replace S := S.nk [.own v1 3 1 x2.length (x2.flatMap eInt), .own v11 61 7 x8.length (x8.flatMap Gpoints_row.enc), .blk b1 [u1.val, iV Aa.Relay, iV Aa.Most] 27] [(1, O), (2, .pointer (some ⟨b1, 0, none⟩)), (5, v11), (6, v1), (10, iV x9), (11, iV x10), (12, iV x14), (114, u2), (115, iV ((x10.toNat - x9.toNat : Nat) : Int)), (116, iV 0)] [true, true, true] rfl (subR rfl)
    obtain ⟨j10, hj10, h⟩ := joinE h
    refine f_join (fun a w' => ∃ x15 : List Gpoints_row, ∃ v12 : Value, j10 x15 = some r ∧ Sx w [] nov [.own v1 3 1 x2.length (x2.flatMap eInt), .own v12 61 7 x15.length (x15.flatMap Gpoints_row.enc), .blk b1 [u1.val, iV Aa.Relay, iV Aa.Most] 27] [(1, O), (2, .pointer (some ⟨b1, 0, none⟩)), (5, v12), (6, v1), (11, iV x10)] 132 a w') ?_ ?_
    ·refine wp_block (f_loop (fun (m3 : Nat) a w' => ∃ x15 : List Gpoints_row, ∃ x16 : Int, ∃ v12 : Value, points_race_l4 x10 x9 x14 x2 j10 m3 x15 x16 = some r ∧ Sx w [] nov [.own v1 3 1 x2.length (x2.flatMap eInt), .own v12 61 7 x15.length (x15.flatMap Gpoints_row.enc), .blk b1 [u1.val, iV Aa.Relay, iV Aa.Most] 27] [(1, O), (2, .pointer (some ⟨b1, 0, none⟩)), (5, v12), (6, v1), (10, iV x9), (11, iV x10), (12, iV x14), (114, u2), (115, iV ((x10.toNat - x9.toNat : Nat) : Int)), (116, iV x16)] 132 a w') id ((((x10.toNat - x9.toNat : Nat) : Int) - 0).toNat + 2) ⟨x8, 0, v11, h, S.nf [true, true, true] rfl (subR rfl)⟩ ?_)
     clear S h;rintro m3 a w30 ⟨x15, x16, v12, h, S⟩
     cases m3 with
     | zero => rw [points_race_l4.eq_1] at h;cases h
     | succ m3 =>
      rw [points_race_l4.eq_2] at h
      refine Fs (Fg (lv S (rn_lss (S.tm rfl) (S.tm rfl)) rfl ?_));clear S;intro a S
      refine Ld (Tn (Fs (f_cond (S.tm rfl) (fun hb10 => ?_) (fun hb10 => ?_))))
      ·replace h := iteT h hb10
       refine wp_skip (Tn (Fs (wp_block (Fs (Fg ?_)))))
       obtain ⟨hc10, h⟩ := chkE h
       have hj11 := (sub_get (sub_le S (i := 0) rfl hu1) hc10).1
       obtain ⟨b14, hg5, hr9⟩ := rn_indexSub (a := a) (x := .tmp 114) (y := .tmp 116) (ty := 0) sl_22 enc_int S (i := 0) rfl hu1 hc10 (S.tm rfl) (S.tm rfl)
       refine lv S (hr9 _) rfl ?_;clear S;intro a S
       clear hr9
       refine lv S (rn_ld Tryz.isAgg3 (off := (x9.toNat + x16.toNat) * 1) (o := 0) (S.tm rfl) (own_cells enc_int S (i := 0) rfl hg5 hj11) rfl) rfl ?_;clear S;intro a S
       refine lv S (Ra (S.tm rfl)) rfl ?_;clear S;intro a S
       refine Ld (Tn (Fg (lv S (Rm (S.tm rfl)) rfl ?_)));clear S;intro a S
       iterate 4 (refine lv S (Rm (S.tm rfl)) rfl ?_;clear S;intro a S)
       refine lv S (rn_sub (S.tm rfl) (S.tm rfl)) rfl ?_;clear S;intro a S
       obtain ⟨r1, hr10, h⟩ := bindE h
       refine l_enter S (fun _ => run_call (vs := [iV x14, iV (W (x10 - x9))]) ⟨(S.tm rfl), (S.tm rfl), trivial⟩ Tryz.call60) (words_Fraction_ok _ x14 (W (x10 - x9)) _ hr10) rfl ?_;clear S;intro v13 a w32 hv3 hk19 hn3 S
       subst hv3
       obtain ⟨hc11, h⟩ := chkE h
       obtain ⟨b15, hg6, hr11⟩ := rn_indexS (a := a) (x := .tmp 120) (y := .tmp 121) (ty := 0) sl_58 Gpoints_row.enc_ok S (i := 1) rfl (inB_get hc11).1 (inB_get hc11).2 (S.tm rfl) (S.tm rfl)
       refine lv S (hr11 _) rfl ?_;clear S;intro a S
       clear hr11
       refine lv S (rn_fld fa_61_1 (S.tm rfl)) rfl ?_;clear S;intro a S
       refine l_storeO (c := 5) (j := (nth (cut x2 x9 x10) x16).toNat) (Gpoints_row.mk ((nth x15 (nth (cut x2 x9 x10) x16)).x_) r1) Gpoints_row.enc_ok S (S.tm rfl) (S.tm rfl) (i := 1) rfl hg6 (inB_get hc11).1 Tryz.sizeOf36 (vs := [iV r1.Num, iV r1.Den]) rfl rfl rfl rfl rfl ?_;clear S;intro w34 hk21 S
       refine Ld ?_
       replace S := S.nk [.own v1 3 1 x2.length (x2.flatMap eInt), .own v12 61 7 (x15.set ((nth (cut x2 x9 x10) x16).toNat) (Gpoints_row.mk ((nth x15 (nth (cut x2 x9 x10) x16)).x_) r1)).length ((x15.set ((nth (cut x2 x9 x10) x16).toNat) (Gpoints_row.mk ((nth x15 (nth (cut x2 x9 x10) x16)).x_) r1)).flatMap Gpoints_row.enc), .blk b1 [u1.val, iV Aa.Relay, iV Aa.Most] 27] [(1, O), (2, .pointer (some ⟨b1, 0, none⟩)), (5, v12), (6, v1), (10, iV x9), (11, iV x10), (12, iV x14), (114, u2), (115, iV ((x10.toNat - x9.toNat : Nat) : Int)), (116, iV x16)] [true, true, true] rfl (subR rfl)
       refine blk_n (Tn (Fg (lv S (rn_add (S.tm rfl) rfl) rfl ?_)));clear S;intro a S
       refine lv S (Rm (S.tm rfl)) rfl ?_;clear S;intro a S
       refine Ld (Tn ?_)
       exact ⟨m3, ⟨(x15.set ((nth (cut x2 x9 x10) x16).toNat) (Gpoints_row.mk ((nth x15 (nth (cut x2 x9 x10) x16)).x_) r1)), W (x16 + 1), v12, h, S.nf [true, true, true] rfl ⟨rfl, rfl, rfl, rfl, rfl, rfl, rfl, rfl, rfl, rfl, trivial⟩⟩, Nat.lt_succ_self _⟩
      ·replace h := iteF h hb10
       refine wp_exit (then_x (then_x (x_same (Tn ?_))))
       exact ⟨x15, v12, h, S.nf [true, true, true] rfl (subR rfl)⟩
    clear S h;rintro a w31 ⟨x15, v12, h, S⟩;rw [hj10] at h;clear hj10 j10
    refine Tn (Fg (lv S (Rm (S.tm rfl)) rfl ?_));clear S;intro a S
    refine lv S (Ra (S.tm rfl)) rfl ?_;clear S;intro a S
    refine Ld (blk_n (Tn ?_))
    exact ⟨m1, ⟨x15, x10, v12, h, S.nf [true, true, true] rfl ⟨rfl, rfl, rfl, rfl, rfl, trivial⟩⟩, Nat.lt_succ_self _⟩
   ·replace h := iteF h hb5
    refine wp_exit (then_x (then_x (x_same (Tn ?_))))
    exact ⟨x8, v11, h, S.nf [true, true, true] rfl ⟨rfl, trivial⟩⟩
 clear S h;rintro a w22 ⟨x8, v11, h, S⟩;rw [hj4] at h;clear hj4 j4
 refine Tn (Fs (Fg (lv S (Rm (S.tm rfl)) rfl ?_)));clear S;intro a S
 refine lv S (Ra (S.tm rfl)) rfl ?_;clear S;intro a S
 refine Ld (Tn (wp_ret ?_))
 obtain rfl := Option.some.inj h
 exact f_ret S Tryz.results56 rfl (own_retT S (i := 1) rfl rfl)
theorem points_rows_ok (w : World) (Aa : GTable) (Ar : R27) (At : rel_27 (view w []) Aa Ar) (O : Value) (Ab : List GScored) (Ad : Slc (view w []) 5 O (Ab.map GScored.enc)) (r : (List Gpoints_row)) (h : points_rows Aa Ab = some r) :
    Calls Tryz.prog 30 [.agg (R27.enc Ar).toArray, O].toArray w (Ret w [] fun τ v _ => OwnV τ 61 7 v r.length (r.flatMap Gpoints_row.enc)) := by
 obtain ⟨u1, rfl, hs1⟩ := At
 refine f_enter [] [] Tryz.func30 rfl Tryz.ntmps30 rfl (by simp) (by simp [fps]) (by simp [fps]) fun a S => ?_
 unfold points_rows at h
 replace S := S.nk [] [(0, .agg #[u1.val, iV Aa.Relay, iV Aa.Most]), (1, O)] [] rfl (subR rfl)
 refine Fs (Fg (l_box S (S.tm rfl) (cs := [u1.val, iV Aa.Relay, iV Aa.Most]) rfl rfl ?_));clear S;intro a w1 b1 hz1 hk1 S
 refine lv S (Ra rfl) rfl ?_;clear S;intro a S
 refine Ld (Tn (Fs (Fg (lv S (Ra rfl) rfl ?_))));clear S;intro a S
 replace S := S.nil 61 7
 refine Ld (Tn (Fs (Fs (Fg (lv S (Rm (S.tm rfl)) rfl ?_)))));clear S;intro a S
 obtain ⟨r1, hr1, h⟩ := bindE h
 have hz2 := S.keep.size
 refine l_enter S (fun _ => run_call (vs := [O]) ⟨(S.tm rfl), trivial⟩ Tryz.call55) (points_races_ok _ (join (view w []) nov) (join_le (S.le_arg nil_sub) (S.le_new nil_sub)) O Ab (Ad.mono (le_join_left _ _)) _ hr1) rfl ?_;clear S;intro v1 a w2 hv1 hk2 hn1 S
 obtain ⟨φ1, hl1, hm1, S⟩ := S.see' hn1 hz2
 obtain ⟨rs1, ho2, hr2⟩ := hv1
 have hs2 := ho2.mono (all_step hl1 hm1)
 have hr3 := rels_29 (all_step hl1 hm1) hr2
 refine lv S (rn_lenT sl_87 (S.tm rfl) (slc_lenD hs2 hr3)) rfl ?_;clear S;intro a S
 refine lv S (Rm rfl) rfl ?_;clear S;intro a S
 refine Ld (Tn ?_)
 replace S := S.nk [.own (.slice none 0 0) 61 7 ([] : List Gpoints_row).length (([] : List Gpoints_row).flatMap Gpoints_row.enc), .blk b1 [u1.val, iV Aa.Relay, iV Aa.Most] 27] [(2, .pointer (some ⟨b1, 0, none⟩)), (5, (.slice none 0 0)), (9, v1), (10, iV (r1.length : Int)), (11, iV 0)] [true, true] rfl (subR rfl)
 obtain ⟨j1, hj1, h⟩ := joinE h
 refine f_join (fun a w' => ∃ x1 : List Gpoints_row, ∃ φ2 : View, ∃ v2 : Value, j1 x1 = some r ∧ View.le φ1 φ2 ∧ Sx w [] φ2 [.own v2 61 7 x1.length (x1.flatMap Gpoints_row.enc), .blk b1 [u1.val, iV Aa.Relay, iV Aa.Most] 27] [(5, v2)] 22 a w') ?_ ?_
 ·refine wp_block (f_loop (fun (ys1 : List (List GScored)) a w' => ∃ i1 : Nat, ∃ x1 : List Gpoints_row, ∃ φ2 : View, ∃ v2 : Value, (∃ dn, r1 = dn ++ ys1 ∧ dn.length = i1) ∧ points_rows_l1 Aa j1 ys1 i1 x1 = some r ∧ View.le φ1 φ2 ∧ Sx w [] φ2 [.own v2 61 7 x1.length (x1.flatMap Gpoints_row.enc), .blk b1 [u1.val, iV Aa.Relay, iV Aa.Most] 27] [(2, .pointer (some ⟨b1, 0, none⟩)), (5, v2), (9, v1), (10, iV (r1.length : Int)), (11, iV (i1 : Int))] 22 a w') List.length r1 ⟨0, ([] : List Gpoints_row), φ1, (.slice none 0 0), ⟨[], rfl, rfl⟩, h, View.le_refl _, S.nf [true, true] rfl (subR rfl)⟩ ?_)
  clear S h;rintro ys1 a w3 ⟨i1, x1, φ2, v2, ⟨dn, hd1, hi1⟩, h, hl2, S⟩
  cases ys1 with
  | nil =>
   rw [points_rows_l1.eq_1] at h
   refine Fs (Fg (lv S (rn_lss (S.tm rfl) (S.tm rfl)) rfl ?_));clear S;intro a S
   refine Ld ?_
   replace S := S.nk [.own v2 61 7 x1.length (x1.flatMap Gpoints_row.enc), .blk b1 [u1.val, iV Aa.Relay, iV Aa.Most] 27] [(2, .pointer (some ⟨b1, 0, none⟩)), (5, v2), (9, v1), (10, iV (r1.length : Int)), (11, iV (i1 : Int)), (12, bV (decide ((i1 : Int) < (r1.length : Int))))] [true, true] rfl (subR rfl)
   refine Tn (Fs (wp_cond_false ((S.tm rfl).trans (congrArg Value.bool (rng_nil hd1 hi1))) (wp_exit (then_x (then_x (x_same ?_))))))
   refine Tn ?_
   exact ⟨x1, φ2, v2, h, hl2, S.nf [true, true] rfl ⟨rfl, trivial⟩⟩
  | cons y1 ys1 =>
   rw [points_rows_l1.eq_2] at h
   refine Fs (Fg (lv S (rn_lss (S.tm rfl) (S.tm rfl)) rfl ?_));clear S;intro a S
   refine Ld ?_
   replace S := S.nk [.own v2 61 7 x1.length (x1.flatMap Gpoints_row.enc), .blk b1 [u1.val, iV Aa.Relay, iV Aa.Most] 27] [(2, .pointer (some ⟨b1, 0, none⟩)), (5, v2), (9, v1), (10, iV (r1.length : Int)), (11, iV (i1 : Int)), (12, bV (decide ((i1 : Int) < (r1.length : Int))))] [true, true] rfl (subR rfl)
   refine Tn (Fs (wp_cond_true ((S.tm rfl).trans (congrArg Value.bool (rng_cons hd1 hi1))) (wp_skip (Tn (Fs (wp_block ?_))))))
   refine Fs (Fg ?_)
   obtain ⟨r2, hg1, hl3⟩ := All2.at hr3 (get_mid hd1 hi1)
   have hs3 := hl3
   obtain ⟨b2, o1, hm2, hr4⟩ := rn_indexT (a := a) (x := .tmp 9) (y := .tmp 11) (ty := 0) sl_87 hs2 hg1 rfl (S.tm rfl) (S.tm rfl)
   refine lv S (hr4 _) rfl ?_;clear S;intro a S
   clear hr4
   refine lv S (rn_ld Tryz.isAgg29 (off := o1) (o := 0) (S.tm rfl) ((hm2.mono (all_mono hl2)).at (emb_join S.emb0 S.emb)) rfl) rfl ?_;clear S;intro a S
   refine lv S (Ra (S.tm rfl)) rfl ?_;clear S;intro a S
   refine Ld (Tn (Fg (lv S (Rm (S.tm rfl)) rfl ?_)));clear S;intro a S
   refine lv S (rn_ldA Tryz.isAgg27 Tryz.sizeOf27 (off := 0) (o := 0) (part := [u1.val, iV Aa.Relay, iV Aa.Most]) rfl rfl (S.tm rfl) (S.cellsAt (i := 1) rfl)) rfl ?_;clear S;intro a S
   refine lv S (Rm (S.tm rfl)) rfl ?_;clear S;intro a S
   obtain ⟨r3, hr5, h⟩ := bindE h
   have hz3 := S.keep.size
   refine l_enter S (fun _ => run_call (vs := [.agg (R27.enc (R27.mk u1 Aa.Relay Aa.Most)).toArray, r2.val]) ⟨(S.tm rfl), (S.tm rfl), trivial⟩ Tryz.call56) (points_race_ok _ Aa (R27.mk u1 Aa.Relay Aa.Most) ⟨u1, rfl, (hs1.mono (S.le_arg nil_sub))⟩ r2.val y1 (hs3.mono (join_le (S.le_arg nil_sub) (View.le_trans hl2 (S.le_new nil_sub)))) _ hr5) rfl ?_;clear S;intro v3 a w5 hv2 hk3 hn2 S
   obtain ⟨φ3, hl4, hm3, S⟩ := S.see' hn2 hz3
   have hs4 := hv2.mono hm3
   obtain ⟨hc1, h⟩ := chkE h
   refine l_appendS (Y := []) sl_58 Gpoints_row.enc_ok S (S.tm rfl) (i := 0) rfl (S.tm rfl) ((ownV_slcT Gpoints_row.enc_ok hs4).mono (S.le_new (fun _ h => by cases h))) rfl rfl (by have := room_lt hc1;omega) rfl ?_;clear S;intro v4 a w6 hk4 S
   refine lv S (Ra (S.tm rfl)) rfl ?_;clear S;intro a S
   refine Ld (blk_n (Tn (Fg (lv S (rn_add (S.tm rfl) rfl) rfl ?_))));clear S;intro a S
   refine lv S (Rm (S.tm rfl)) rfl ?_;clear S;intro a S
   refine Ld ?_
   replace S := S.nk [.own v4 61 7 (x1 ++ r3).length ((x1 ++ r3).flatMap Gpoints_row.enc), .blk b1 [u1.val, iV Aa.Relay, iV Aa.Most] 27] [(2, .pointer (some ⟨b1, 0, none⟩)), (5, v4), (9, v1), (10, iV (r1.length : Int)), (11, iV (W ((i1 : Int) + 1)))] [true, true] rfl (subR rfl)
   refine Tn ?_
   exact ⟨ys1, ⟨i1 + 1, (x1 ++ r3), φ3, v4, ⟨_, (hd1).trans (List.append_cons _ _ _), by simp [hi1]⟩, h, (View.le_trans hl2 hl4), S.nf [true, true] rfl ⟨rfl, rfl, rfl, rfl, (congrArg (fun z => some (Value.int .i64 z)) (rng_next hd1 hi1 (slc_maxD hs2 hr3))), trivial⟩⟩, Nat.lt_succ_self _⟩
 clear S h;rintro a w4 ⟨x1, φ2, v2, h, hl2, S⟩;rw [hj1] at h;clear hj1 j1
 refine Tn (Fs (Fg (lv S (Rm (S.tm rfl)) rfl ?_)));clear S;intro a S
 refine lv S (Ra (S.tm rfl)) rfl ?_;clear S;intro a S
 refine Ld (Tn (wp_ret ?_))
 obtain rfl := Option.some.inj h
 exact f_ret S Tryz.results30 rfl (own_retT S (i := 0) rfl rfl)
theorem points_Given_ok (w : World) (Aa : GTable) (Ar : R27) (At : rel_27 (view w []) Aa Ar) (O : Value) (Ab : List GScored) (Ad : Slc (view w []) 5 O (Ab.map GScored.enc)) (r : (List GGiven) × Int) (h : points_Given Aa Ab = some r) :
    Calls Tryz.prog 6 [.agg (R27.enc Ar).toArray, O].toArray w (Ret w [] fun τ v _ => ∃ u1 : Value, v = .tuple #[u1, iV r.2] ∧ OwnV τ 45 3 u1 r.1.length (r.1.flatMap GGiven.enc)) := by
 obtain ⟨u1, rfl, hs1⟩ := At
 refine f_enter [] [] Tryz.func6 rfl Tryz.ntmps6 rfl (by simp) (by simp [fps]) (by simp [fps]) fun a S => ?_
 unfold points_Given at h
 replace S := S.nk [] [(0, .agg #[u1.val, iV Aa.Relay, iV Aa.Most]), (1, O)] [] rfl (subR rfl)
 refine Fs (Fg (l_box S (S.tm rfl) (cs := [u1.val, iV Aa.Relay, iV Aa.Most]) rfl rfl ?_));clear S;intro a w1 b1 hz1 hk1 S
 refine lv S (Ra rfl) rfl ?_;clear S;intro a S
 refine lv S (Ra rfl) rfl ?_;clear S;intro a S
 refine Ld (Tn (Fs (Fs (Fg (lv S (rn_ldA Tryz.isAgg27 Tryz.sizeOf27 (off := 0) (o := 0) (part := [u1.val, iV Aa.Relay, iV Aa.Most]) rfl rfl (S.tm rfl) (S.cellsAt (i := 0) rfl)) rfl ?_)))));clear S;intro a S
 refine lv S (Rm (S.tm rfl)) rfl ?_;clear S;intro a S
 obtain ⟨r1, hr1, h⟩ := bindE h
 refine l_enter S (fun _ => run_call (vs := [.agg (R27.enc (R27.mk u1 Aa.Relay Aa.Most)).toArray, O]) ⟨(S.tm rfl), (S.tm rfl), trivial⟩ Tryz.call29) (points_checkBoth_ok _ Aa (R27.mk u1 Aa.Relay Aa.Most) ⟨u1, rfl, (hs1.mono (S.le_arg nil_sub))⟩ O Ab (Ad.mono (S.le_arg nil_sub)) _ hr1) rfl ?_;clear S;intro v1 a w2 hv1 hk2 hn1 S
 subst hv1
 refine lv S (Ra (S.tm rfl)) rfl ?_;clear S;intro a S
 refine Ld (Tn (Fs (Fg (lv S (Rm (S.tm rfl)) rfl ?_))));clear S;intro a S
 refine lv S (rn_neq (S.tm rfl) rfl) rfl ?_;clear S;intro a S
 refine Ld (Tn (f_cond (S.tm rfl) (fun hb1 => ?_) (fun hb1 => ?_)))
 ·replace h := iteT h hb1
  refine Fs (Fg (lv S (Rm (S.tm rfl)) rfl ?_));clear S;intro a S
  refine lv S (Ra rfl) rfl ?_;clear S;intro a S
  refine lv S (Ra (S.tm rfl)) rfl ?_;clear S;intro a S
  refine Ld (Tn (wp_ret (then_r ?_)))
  obtain rfl := Option.some.inj h
  exact f_ret2 S Tryz.results6 rfl rfl ⟨_, rfl, (ownV_nil _ _ _)⟩
 ·replace h := iteF h hb1
  refine wp_skip (Tn (Fs (Fg (lv S (Ra rfl) rfl ?_))));clear S;intro a S
  replace S := S.nil 45 3
  refine Ld (Tn (Fs (Fs (Fg (lv S (rn_ldA Tryz.isAgg27 Tryz.sizeOf27 (off := 0) (o := 0) (part := [u1.val, iV Aa.Relay, iV Aa.Most]) rfl rfl (S.tm rfl) (S.cellsAt (i := 1) rfl)) rfl ?_)))));clear S;intro a S
  refine lv S (Rm (S.tm rfl)) rfl ?_;clear S;intro a S
  obtain ⟨r2, hr2, h⟩ := bindE h
  have hz2 := S.keep.size
  refine l_enter S (fun _ => run_call (vs := [.agg (R27.enc (R27.mk u1 Aa.Relay Aa.Most)).toArray, O]) ⟨(S.tm rfl), (S.tm rfl), trivial⟩ Tryz.call30) (points_rows_ok _ Aa (R27.mk u1 Aa.Relay Aa.Most) ⟨u1, rfl, (hs1.mono (S.le_arg nil_sub))⟩ O Ab (Ad.mono (S.le_arg nil_sub)) _ hr2) rfl ?_;clear S;intro v2 a w3 hv2 hk3 hn2 S
  obtain ⟨φ1, hl1, hm1, S⟩ := S.see' hn2 hz2
  have hs2 := hv2.mono hm1
  refine lv S (rn_lenT sl_58 (S.tm rfl) (slc_len (ownV_slcT Gpoints_row.enc_ok hs2))) rfl ?_;clear S;intro a S
  refine lv S (Rm rfl) rfl ?_;clear S;intro a S
  refine Ld ?_
  replace S := S.nk [.own (.slice none 0 0) 45 3 ([] : List GGiven).length (([] : List GGiven).flatMap GGiven.enc)] [(7, (.slice none 0 0)), (18, v2), (19, iV (r2.length : Int)), (20, iV 0)] [true, false] rfl (subR rfl)
  refine Tn ?_
  obtain ⟨j1, hj1, h⟩ := joinE h
  refine f_join (fun a w' => ∃ x1 : List GGiven, ∃ v3 : Value, j1 x1 = some r ∧ Sx w [] φ1 [.own v3 45 3 x1.length (x1.flatMap GGiven.enc)] [(7, v3)] 40 a w') ?_ ?_
  ·refine wp_block (f_loop (fun (ys1 : List Gpoints_row) a w' => ∃ i1 : Nat, ∃ x1 : List GGiven, ∃ v3 : Value, (∃ dn, r2 = dn ++ ys1 ∧ dn.length = i1) ∧ points_Given_l1 j1 ys1 i1 x1 = some r ∧ Sx w [] φ1 [.own v3 45 3 x1.length (x1.flatMap GGiven.enc)] [(7, v3), (18, v2), (19, iV (r2.length : Int)), (20, iV (i1 : Int))] 40 a w') List.length r2 ⟨0, ([] : List GGiven), (.slice none 0 0), ⟨[], rfl, rfl⟩, h, S.nf [true] rfl (subR rfl)⟩ ?_)
   clear S h;rintro ys1 a w4 ⟨i1, x1, v3, ⟨dn, hd1, hi1⟩, h, S⟩
   cases ys1 with
   | nil =>
    rw [points_Given_l1.eq_1] at h
    refine Fs (Fg (lv S (rn_lss (S.tm rfl) (S.tm rfl)) rfl ?_));clear S;intro a S
    refine Ld ?_
    replace S := S.nk [.own v3 45 3 x1.length (x1.flatMap GGiven.enc)] [(7, v3), (18, v2), (19, iV (r2.length : Int)), (20, iV (i1 : Int)), (21, bV (decide ((i1 : Int) < (r2.length : Int))))] [true] rfl (subR rfl)
    refine Tn (Fs (wp_cond_false ((S.tm rfl).trans (congrArg Value.bool (rng_nil hd1 hi1))) (wp_exit (then_x (then_x (x_same ?_))))))
    refine Tn ?_
    exact ⟨x1, v3, h, S.nf [true] rfl ⟨rfl, trivial⟩⟩
   | cons y1 ys1 =>
    rw [points_Given_l1.eq_2] at h
    refine Fs (Fg (lv S (rn_lss (S.tm rfl) (S.tm rfl)) rfl ?_));clear S;intro a S
    refine Ld ?_
    replace S := S.nk [.own v3 45 3 x1.length (x1.flatMap GGiven.enc)] [(7, v3), (18, v2), (19, iV (r2.length : Int)), (20, iV (i1 : Int)), (21, bV (decide ((i1 : Int) < (r2.length : Int))))] [true] rfl (subR rfl)
    refine Tn (Fs (wp_cond_true ((S.tm rfl).trans (congrArg Value.bool (rng_cons hd1 hi1))) (wp_skip (Tn (Fs (wp_block ?_))))))
    refine Fs (Fg ?_)
    obtain ⟨b2, o1, hm2, hr3⟩ := rn_indexT (a := a) (x := .tmp 18) (y := .tmp 20) (ty := 0) sl_58 (ownV_slcT Gpoints_row.enc_ok hs2) (get_mid hd1 hi1) rfl (S.tm rfl) (S.tm rfl)
    refine lv S (hr3 _) rfl ?_;clear S;intro a S
    clear hr3
    refine lv S (rn_ldA Tryz.isAgg61 Tryz.sizeOf61 (off := o1) (o := 0) (part := (Gpoints_row.enc y1)) rfl rfl (S.tm rfl) (hm2.at S.emb)) rfl ?_;clear S;intro a S
    refine l_alloc S Tryz.zeroValue61 (cs := [sV k_empty, sV k_empty, sV k_empty, iV 0, bV false, iV 0, iV 0]) rfl rfl ?_;clear S;intro a w6 b3 hz3 hk4 S
    refine l_store S (S.tm rfl) (S.tm rfl) (i := 0) (off := 0) rfl Tryz.sizeOf61 (vs := (Gpoints_row.enc y1)) rfl rfl rfl rfl ?_;clear S;intro w7 hk5 S
    refine Ld (Tn (Fg (lv S (Rm (S.tm rfl)) rfl ?_)));clear S;intro a S
    refine lv S (rn_fld fa_61_0 (S.tm rfl)) rfl ?_;clear S;intro a S
    refine lv S (rn_fld fa_54_0 (S.tm rfl)) rfl ?_;clear S;intro a S
    refine lv S (rn_load Tryz.isAgg9 (S.tm rfl) (S.cell (i := 0) rfl rfl)) rfl ?_;clear S;intro a S
    obtain ⟨hc1, h⟩ := chkE h
    refine lv S (rn_sadd (m := y1.x_.Race) (n := k__20) (S.tm rfl) rfl (by have := room_lt hc1;omega)) rfl ?_;clear S;intro a S
    refine lv S (rn_fld fa_61_0 (S.tm rfl)) rfl ?_;clear S;intro a S
    refine lv S (rn_fld fa_54_1 (S.tm rfl)) rfl ?_;clear S;intro a S
    refine lv S (rn_load Tryz.isAgg9 (S.tm rfl) (S.cell (i := 0) rfl rfl)) rfl ?_;clear S;intro a S
    obtain ⟨hc2, h⟩ := chkE h
    refine lv S (rn_sadd (m := (y1.x_.Race ++ k__20)) (n := y1.x_.Who) (S.tm rfl) (S.tm rfl) (by have := room_lt hc2;omega)) rfl ?_;clear S;intro a S
    refine lv S (rn_fld fa_61_1 (S.tm rfl)) rfl ?_;clear S;intro a S
    refine lv S (rn_ldA Tryz.isAgg36 Tryz.sizeOf36 (off := 0) (o := 5) (part := (GFraction.enc y1.points_)) rfl rfl (S.tm rfl) (S.cellsAt (i := 0) rfl)) rfl ?_;clear S;intro a S
    refine lv S (rn_bld bt_45 (pv := [(0, sV ((y1.x_.Race ++ k__20) ++ y1.x_.Who)), (1, .agg (GFraction.enc y1.points_).toArray)]) ⟨rfl, (S.tm rfl), rfl, (S.tm rfl), trivial⟩ (cs := [sV ((y1.x_.Race ++ k__20) ++ y1.x_.Who), iV y1.points_.Num, iV y1.points_.Den]) (by kernel_rfl)) rfl ?_;clear S;intro a S
    refine l_buildSlice S Tryz.underlying31 Tryz.sizeOf45 Tryz.zeroValue45 rfl rfl (pv := [(0, .agg #[sV ((y1.x_.Race ++ k__20) ++ y1.x_.Who), iV y1.points_.Num, iV y1.points_.Den])]) ⟨rfl, (S.tm rfl), trivial⟩ (cs := [sV ((y1.x_.Race ++ k__20) ++ y1.x_.Who), iV y1.points_.Num, iV y1.points_.Den]) (by kernel_rfl) rfl ?_;clear S;intro a w8 b4 hz4 hk6 S
    obtain ⟨hc3, h⟩ := chkE h
    refine l_appendT sl_31 GGiven.enc_ok S (S.tm rfl) (i := 2) rfl (S.tm rfl) (j := 0) rfl (ys := [(GGiven.mk ((y1.x_.Race ++ k__20) ++ y1.x_.Who) y1.points_)]) rfl rfl rfl rfl (by have := room_lt hc3;omega) rfl ?_;clear S;intro v4 a w9 hk7 S
    refine lv S (Ra (S.tm rfl)) rfl ?_;clear S;intro a S
    refine Ld ?_
    replace S := S.nk [.own v4 45 3 (x1 ++ [(GGiven.mk ((y1.x_.Race ++ k__20) ++ y1.x_.Who) y1.points_)]).length ((x1 ++ [(GGiven.mk ((y1.x_.Race ++ k__20) ++ y1.x_.Who) y1.points_)]).flatMap GGiven.enc)] [(7, v4), (18, v2), (19, iV (r2.length : Int)), (20, iV (i1 : Int))] [false, false, true] rfl (subR rfl)
    refine blk_n (Tn (Fg (lv S (rn_add (S.tm rfl) rfl) rfl ?_)));clear S;intro a S
    refine lv S (Rm (S.tm rfl)) rfl ?_;clear S;intro a S
    refine Ld (Tn ?_)
    exact ⟨ys1, ⟨i1 + 1, (x1 ++ [(GGiven.mk ((y1.x_.Race ++ k__20) ++ y1.x_.Who) y1.points_)]), v4, ⟨_, (hd1).trans (List.append_cons _ _ _), by simp [hi1]⟩, h, S.nf [true] rfl ⟨rfl, rfl, rfl, (congrArg (fun z => some (Value.int .i64 z)) (rng_next hd1 hi1 (slc_max (ownV_slcT Gpoints_row.enc_ok hs2)))), trivial⟩⟩, Nat.lt_succ_self _⟩
  clear S h;rintro a w5 ⟨x1, v3, h, S⟩;rw [hj1] at h;clear hj1 j1
  refine Tn (Fs (Fg (lv S (Rm (S.tm rfl)) rfl ?_)));clear S;intro a S
  refine lv S (Ra (S.tm rfl)) rfl ?_;clear S;intro a S
  refine lv S (Ra rfl) rfl ?_;clear S;intro a S
  refine Ld (Tn (wp_ret ?_))
  obtain rfl := Option.some.inj h
  exact f_ret2 S Tryz.results6 rfl rfl ⟨_, rfl, (own_retT S (i := 0) rfl rfl)⟩
theorem points_add_ok (w : World) (Af : GFraction) (Ah : GFraction) (r : GFraction) (h : points_add Af Ah = some r) :
    Calls Tryz.prog 34 [.agg (GFraction.enc Af).toArray, .agg (GFraction.enc Ah).toArray].toArray w (Ret w [] fun _ v _ => v = .agg (GFraction.enc r).toArray) := by
 refine f_enter [] [] Tryz.func34 rfl Tryz.ntmps34 rfl (by simp) (by simp [fps]) (by simp [fps]) fun a S => ?_
 unfold points_add at h
 replace S := S.nk [] [(0, .agg (GFraction.enc Af).toArray), (1, .agg (GFraction.enc Ah).toArray)] [] rfl (subR rfl)
 refine Fs (Fg (l_box S (S.tm rfl) (cs := (GFraction.enc Af)) rfl rfl ?_));clear S;intro a w1 b1 hz1 hk1 S
 refine l_box S (S.tm rfl) (cs := (GFraction.enc Ah)) rfl rfl ?_;clear S;intro a w2 b2 hz2 hk2 S
 refine l_alloc S Tryz.zeroValue36 (cs := [iV 0, iV 0]) rfl rfl ?_;clear S;intro a w3 b3 hz3 hk3 S
 refine Ld (Tn (Fs (Fg (lv S (rn_fld fa_36_0 (S.tm rfl)) rfl ?_))));clear S;intro a S
 refine lv S (rn_load Tryz.isAgg3 (S.tm rfl) (S.cell (i := 2) rfl rfl)) rfl ?_;clear S;intro a S
 refine lv S (rn_fld fa_36_1 (S.tm rfl)) rfl ?_;clear S;intro a S
 refine lv S (rn_load Tryz.isAgg3 (S.tm rfl) (S.cell (i := 1) rfl rfl)) rfl ?_;clear S;intro a S
 refine lv S (rn_mul (S.tm rfl) (S.tm rfl)) rfl ?_;clear S;intro a S
 refine lv S (rn_fld fa_36_0 (S.tm rfl)) rfl ?_;clear S;intro a S
 refine lv S (rn_load Tryz.isAgg3 (S.tm rfl) (S.cell (i := 1) rfl rfl)) rfl ?_;clear S;intro a S
 refine lv S (rn_fld fa_36_1 (S.tm rfl)) rfl ?_;clear S;intro a S
 refine lv S (rn_load Tryz.isAgg3 (S.tm rfl) (S.cell (i := 2) rfl rfl)) rfl ?_;clear S;intro a S
 refine lv S (rn_mul (S.tm rfl) (S.tm rfl)) rfl ?_;clear S;intro a S
 refine lv S (rn_add (S.tm rfl) (S.tm rfl)) rfl ?_;clear S;intro a S
 refine lv S (rn_fld fa_36_1 (S.tm rfl)) rfl ?_;clear S;intro a S
 refine lv S (rn_load Tryz.isAgg3 (S.tm rfl) (S.cell (i := 2) rfl rfl)) rfl ?_;clear S;intro a S
 refine lv S (rn_fld fa_36_1 (S.tm rfl)) rfl ?_;clear S;intro a S
 refine lv S (rn_load Tryz.isAgg3 (S.tm rfl) (S.cell (i := 1) rfl rfl)) rfl ?_;clear S;intro a S
 refine lv S (rn_mul (S.tm rfl) (S.tm rfl)) rfl ?_;clear S;intro a S
 obtain ⟨r1, hr1, h⟩ := bindE h
 refine l_enter S (fun _ => run_call (vs := [iV (W ((W (Af.Num * Ah.Den)) + (W (Ah.Num * Af.Den)))), iV (W (Af.Den * Ah.Den))]) ⟨(S.tm rfl), (S.tm rfl), trivial⟩ Tryz.call60) (words_Fraction_ok _ (W ((W (Af.Num * Ah.Den)) + (W (Ah.Num * Af.Den)))) (W (Af.Den * Ah.Den)) _ hr1) rfl ?_;clear S;intro v1 a w4 hv1 hk4 hn1 S
 subst hv1
 refine l_store S (S.tm rfl) (S.tm rfl) (i := 0) (off := 0) rfl Tryz.sizeOf36 (vs := (GFraction.enc r1)) rfl rfl rfl rfl ?_;clear S;intro w5 hk5 S
 refine Ld ?_
 replace S := S.nk [.blk b3 (GFraction.enc r1) 36] [(4, .pointer (some ⟨b3, 0, none⟩))] [true, false, false] rfl ⟨rfl, trivial⟩
 refine Tn (wp_ret ?_)
 obtain rfl := Option.some.inj h
 exact f_retG S (rs := [.cell 4 36]) (vs := [.agg #[iV r1.Num, iV r1.Den]]) Tryz.results34 ⟨(res_cell (off := 0) S rfl Tryz.isAgg36 Tryz.sizeOf36 rfl (S.cellsAt (i := 0) rfl)), trivial⟩ rfl rfl
theorem points_clubs_ok (w : World) (Aa : GTable) (Ar : R27) (At : rel_27 (view w []) Aa Ar) (O : Value) (Ab : List GScored) (Ad : Slc (view w []) 5 O (Ab.map GScored.enc)) (r : (List (ByteArray × GFraction))) (h : points_clubs Aa Ab = some r) :
    Calls Tryz.prog 32 [.agg (R27.enc Ar).toArray, O].toArray w (Ret w [] fun τ v _ => ∃ b : Nat, v = .map (some b) ∧ τ b = some (.map (ments Value.string (fun x => Value.agg (GFraction.enc x).toArray) r) r.length)) := by
 obtain ⟨u1, rfl, hs1⟩ := At
 refine f_enter [] [] Tryz.func32 rfl Tryz.ntmps32 rfl (by simp) (by simp [fps]) (by simp [fps]) fun a S => ?_
 unfold points_clubs at h
 replace S := S.nk [] [(0, .agg #[u1.val, iV Aa.Relay, iV Aa.Most]), (1, O)] [] rfl (subR rfl)
 refine Fs (Fg (l_box S (S.tm rfl) (cs := [u1.val, iV Aa.Relay, iV Aa.Most]) rfl rfl ?_));clear S;intro a w1 b1 hz1 hk1 S
 refine lv S (Ra rfl) rfl ?_;clear S;intro a S
 refine Ld (Tn (Fs (Fg (l_makeMap (κ := ByteArray) (ν := GFraction) S rfl Value.string (fun x => Value.agg (GFraction.enc x).toArray) ?_))));clear S;intro a w2 b2 hz2 hk2 S
 refine lv S (Ra (S.tm rfl)) rfl ?_;clear S;intro a S
 refine Ld (Tn (Fs (Fs (Fg (lv S (Rm (S.tm rfl)) rfl ?_)))));clear S;intro a S
 refine lv S (rn_lenT sl_29 (S.tm rfl) (slc_len Ad)) rfl ?_;clear S;intro a S
 refine lv S (Rm rfl) rfl ?_;clear S;intro a S
 refine Ld (Tn ?_)
 replace S := S.nk [.map b2 (ments Value.string (fun x => Value.agg (GFraction.enc x).toArray) ([] : List (ByteArray × GFraction))) ([] : List (ByteArray × GFraction)).length, .blk b1 [u1.val, iV Aa.Relay, iV Aa.Most] 27] [(1, O), (2, .pointer (some ⟨b1, 0, none⟩)), (5, .map (some b2)), (11, O), (12, iV (Ab.length : Int)), (13, iV 0)] [true, true] rfl (subR rfl)
 obtain ⟨j1, hj1, h⟩ := joinE h
 refine f_join (fun a w' => ∃ x1 : List (ByteArray × GFraction), j1 x1 = some r ∧ Sx w [] nov [.map b2 (ments Value.string (fun x => Value.agg (GFraction.enc x).toArray) x1) x1.length, .blk b1 [u1.val, iV Aa.Relay, iV Aa.Most] 27] [(1, O), (2, .pointer (some ⟨b1, 0, none⟩)), (5, .map (some b2))] 47 a w') ?_ ?_
 ·refine wp_block (f_loop (fun (ys1 : List GScored) a w' => ∃ i1 : Nat, ∃ x1 : List (ByteArray × GFraction), (∃ dn, Ab = dn ++ ys1 ∧ dn.length = i1) ∧ points_clubs_l1 j1 ys1 i1 x1 = some r ∧ Sx w [] nov [.map b2 (ments Value.string (fun x => Value.agg (GFraction.enc x).toArray) x1) x1.length, .blk b1 [u1.val, iV Aa.Relay, iV Aa.Most] 27] [(1, O), (2, .pointer (some ⟨b1, 0, none⟩)), (5, .map (some b2)), (11, O), (12, iV (Ab.length : Int)), (13, iV (i1 : Int))] 47 a w') List.length Ab ⟨0, ([] : List (ByteArray × GFraction)), ⟨[], rfl, rfl⟩, h, S.nf [true, true] rfl (subR rfl)⟩ ?_)
  clear S h;rintro ys1 a w3 ⟨i1, x1, ⟨dn, hd1, hi1⟩, h, S⟩
  cases ys1 with
  | nil =>
   rw [points_clubs_l1.eq_1] at h
   refine Fs (Fg (lv S (rn_lss (S.tm rfl) (S.tm rfl)) rfl ?_));clear S;intro a S
   refine Ld ?_
   replace S := S.nk [.map b2 (ments Value.string (fun x => Value.agg (GFraction.enc x).toArray) x1) x1.length, .blk b1 [u1.val, iV Aa.Relay, iV Aa.Most] 27] [(1, O), (2, .pointer (some ⟨b1, 0, none⟩)), (5, .map (some b2)), (11, O), (12, iV (Ab.length : Int)), (13, iV (i1 : Int)), (14, bV (decide ((i1 : Int) < (Ab.length : Int))))] [true, true] rfl (subR rfl)
   refine Tn (Fs (wp_cond_false ((S.tm rfl).trans (congrArg Value.bool (rng_nil hd1 hi1))) (wp_exit (then_x (then_x (x_same ?_))))))
   refine Tn ?_
   exact ⟨x1, h, S.nf [true, true] rfl (subR rfl)⟩
  | cons y1 ys1 =>
   rw [points_clubs_l1.eq_2] at h
   refine Fs (Fg (lv S (rn_lss (S.tm rfl) (S.tm rfl)) rfl ?_));clear S;intro a S
   refine Ld ?_
   replace S := S.nk [.map b2 (ments Value.string (fun x => Value.agg (GFraction.enc x).toArray) x1) x1.length, .blk b1 [u1.val, iV Aa.Relay, iV Aa.Most] 27] [(1, O), (2, .pointer (some ⟨b1, 0, none⟩)), (5, .map (some b2)), (11, O), (12, iV (Ab.length : Int)), (13, iV (i1 : Int)), (14, bV (decide ((i1 : Int) < (Ab.length : Int))))] [true, true] rfl (subR rfl)
   refine Tn (Fs (wp_cond_true ((S.tm rfl).trans (congrArg Value.bool (rng_cons hd1 hi1))) (wp_skip (Tn (Fs ?_)))))
   obtain ⟨j2, hj2, h⟩ := joinE h
   refine f_join (fun a w' => ∃ x2 : List (ByteArray × GFraction), j2 x2 = some r ∧ Sx w [] nov [.map b2 (ments Value.string (fun x => Value.agg (GFraction.enc x).toArray) x2) x2.length, .blk b1 [u1.val, iV Aa.Relay, iV Aa.Most] 27] [(1, O), (2, .pointer (some ⟨b1, 0, none⟩)), (5, .map (some b2)), (11, O), (12, iV (Ab.length : Int)), (13, iV (i1 : Int))] 47 a w') ?_ ?_
   ·refine wp_block (Fs (Fg ?_))
    obtain ⟨b3, o1, hm1, hr1⟩ := rn_indexT (a := a) (x := .tmp 11) (y := .tmp 13) (ty := 0) sl_29 Ad (get_mid hd1 hi1) rfl (S.tm rfl) (S.tm rfl)
    refine lv S (hr1 _) rfl ?_;clear S;intro a S
    clear hr1
    refine lv S (rn_ldA Tryz.isAgg54 Tryz.sizeOf54 (off := o1) (o := 0) (part := (GScored.enc y1)) rfl rfl (S.tm rfl) (hm1.at S.emb0)) rfl ?_;clear S;intro a S
    refine l_alloc S Tryz.zeroValue54 (cs := [sV k_empty, sV k_empty, sV k_empty, iV 0, bV false]) rfl rfl ?_;clear S;intro a w6 b4 hz3 hk3 S
    refine l_store S (S.tm rfl) (S.tm rfl) (i := 0) (off := 0) rfl Tryz.sizeOf54 (vs := (GScored.enc y1)) rfl rfl rfl rfl ?_;clear S;intro w7 hk4 S
    refine Ld (Tn (Fs (Fg (lv S (rn_fld fa_54_2 (S.tm rfl)) rfl ?_))));clear S;intro a S
    refine lv S (rn_load Tryz.isAgg9 (S.tm rfl) (S.cell (i := 0) rfl rfl)) rfl ?_;clear S;intro a S
    refine lv S (rn_sneq (S.tm rfl) rfl) rfl ?_;clear S;intro a S
    refine Ld (Tn ?_)
    obtain ⟨j3, hj3, h⟩ := joinE h
    refine f_join (fun a w' => ∃ x3 : List (ByteArray × GFraction), j3 x3 = some r ∧ Sx w [] nov [.map b2 (ments Value.string (fun x => Value.agg (GFraction.enc x).toArray) x3) x3.length, .blk b1 [u1.val, iV Aa.Relay, iV Aa.Most] 27] [(1, O), (2, .pointer (some ⟨b1, 0, none⟩)), (5, .map (some b2)), (11, O), (12, iV (Ab.length : Int)), (13, iV (i1 : Int))] 47 a w') ?_ ?_
    ·refine f_cond (S.tm rfl) (fun hb1 => ?_) (fun hb1 => ?_)
     ·replace h := iteT h hb1
      refine d_region [] ([b2]) Tryz.mixed S rfl (by kernel_rfl) ?_;clear S;intro w11 hk7 hsel S
      refine d_quiet 0 S hsel rfl rfl rfl (by kernel_rfl) (by kernel_rfl) rfl (fun _ hw => (Rm (S.tm rfl))) ?_;clear S;intro a S
      refine d_quiet 1 S hsel rfl rfl rfl (by kernel_rfl) (by kernel_rfl) rfl (fun _ hw => (rn_fld fa_54_2 (S.tm rfl))) ?_;clear S;intro a S
      refine d_quiet 2 S hsel rfl rfl rfl (by kernel_rfl) (by kernel_rfl) rfl (fun _ hw => (rn_ld Tryz.isAgg9 (off := 0) (o := 2) (S.tm rfl) ((S.blk_mem (i := 0) (cells := (GScored.enc y1)) (b := b4) (T := 54) rfl (ne_fp (i := 1) (j := 0) (e := .map b2 (ments Value.string (fun x => Value.agg (GFraction.enc x).toArray) x1) x1.length) (e' := .blk b4 (GScored.enc y1) 54) S rfl rfl rfl)).kept hw) rfl)) ?_;clear S;intro a S
      refine d_loud1 3 (by kernel_rfl) rfl (l_enter S (fun _ => run_call (vs := []) trivial Tryz.call33) (points_none_ok _ _ rfl) rfl ?_);clear S;intro v2 a w12 hv2 hk8 hn2 S
      subst hv2
      refine Ld (d_next (Keep.none hk8) (d_loud1 4 (by kernel_rfl) rfl (l_mapUpdate (kv := Value.string) (vv := (fun x => Value.agg (GFraction.enc x).toArray)) (m := x1) (key := y1.Club) (val := points_none) S (i := 1) rfl Tryz.underlying63 (keyT_str Tryz.underlying9) (S.tm rfl) (S.tm rfl) (S.tm rfl) ?_)));clear S;intro w13 hk9 S
      refine Ld (d_next hk9 (d_end (by kernel_rfl) ?_))
      clear hsel
      replace S := S.nk [.map b2 (ments Value.string (fun x => Value.agg (GFraction.enc x).toArray) (mput x1 y1.Club points_none)) (mput x1 y1.Club points_none).length, .blk b1 [u1.val, iV Aa.Relay, iV Aa.Most] 27] [(1, O), (2, .pointer (some ⟨b1, 0, none⟩)), (5, .map (some b2)), (11, O), (12, iV (Ab.length : Int)), (13, iV (i1 : Int))] [false, true, true] rfl (subR rfl)
      refine Tn ?_
      exact ⟨(mput x1 y1.Club points_none), h, S.nf [true, true] rfl (subR rfl)⟩
     ·replace h := iteF h hb1
      refine wp_skip (Tn ?_)
      exact ⟨x1, h, S.nf [false, true, true] rfl (subR rfl)⟩
    clear S h;rintro a w8 ⟨x3, h, S⟩;rw [hj3] at h;clear hj3 j3
    refine blk_n (Tn ?_)
    exact ⟨x3, h, S.nf [true, true] rfl (subR rfl)⟩
   clear S h;rintro a w5 ⟨x2, h, S⟩;rw [hj2] at h;clear hj2 j2
   refine Tn (Fg (lv S (rn_add (S.tm rfl) rfl) rfl ?_));clear S;intro a S
   refine lv S (Rm (S.tm rfl)) rfl ?_;clear S;intro a S
   refine Ld (Tn ?_)
   exact ⟨ys1, ⟨i1 + 1, x2, ⟨_, (hd1).trans (List.append_cons _ _ _), by simp [hi1]⟩, h, S.nf [true, true] rfl ⟨rfl, rfl, rfl, rfl, rfl, (congrArg (fun z => some (Value.int .i64 z)) (rng_next hd1 hi1 (slc_max Ad))), trivial⟩⟩, Nat.lt_succ_self _⟩
 clear S h;rintro a w4 ⟨x1, h, S⟩;rw [hj1] at h;clear hj1 j1
 refine Tn (Fs (Fs (Fg (lv S (rn_ldA Tryz.isAgg27 Tryz.sizeOf27 (off := 0) (o := 0) (part := [u1.val, iV Aa.Relay, iV Aa.Most]) rfl rfl (S.tm rfl) (S.cellsAt (i := 1) rfl)) rfl ?_))));clear S;intro a S
 refine lv S (Rm (S.tm rfl)) rfl ?_;clear S;intro a S
 obtain ⟨r1, hr2, h⟩ := bindE h
 have hz4 := S.keep.size
 refine l_enter S (fun _ => run_call (vs := [.agg (R27.enc (R27.mk u1 Aa.Relay Aa.Most)).toArray, O]) ⟨(S.tm rfl), (S.tm rfl), trivial⟩ Tryz.call30) (points_rows_ok _ Aa (R27.mk u1 Aa.Relay Aa.Most) ⟨u1, rfl, (hs1.mono (S.le_arg nil_sub))⟩ O Ab (Ad.mono (S.le_arg nil_sub)) _ hr2) rfl ?_;clear S;intro v3 a w14 hv3 hk10 hn3 S
 obtain ⟨φ1, hl1, hm2, S⟩ := S.see' hn3 hz4
 have hs2 := hv3.mono hm2
 refine lv S (rn_lenT sl_58 (S.tm rfl) (slc_len (ownV_slcT Gpoints_row.enc_ok hs2))) rfl ?_;clear S;intro a S
 refine lv S (Rm rfl) rfl ?_;clear S;intro a S
 refine Ld (Tn ?_)
 replace S := S.nk [.map b2 (ments Value.string (fun x => Value.agg (GFraction.enc x).toArray) x1) x1.length] [(5, .map (some b2)), (27, v3), (28, iV (r1.length : Int)), (29, iV 0)] [true, false] rfl (subR rfl)
 obtain ⟨j4, hj4, h⟩ := joinE h
 refine f_join (fun a w' => ∃ x4 : List (ByteArray × GFraction), j4 x4 = some r ∧ Sx w [] φ1 [.map b2 (ments Value.string (fun x => Value.agg (GFraction.enc x).toArray) x4) x4.length] [(5, .map (some b2))] 47 a w') ?_ ?_
 ·refine wp_block (f_loop (fun (ys2 : List Gpoints_row) a w' => ∃ i2 : Nat, ∃ x4 : List (ByteArray × GFraction), (∃ dn, r1 = dn ++ ys2 ∧ dn.length = i2) ∧ points_clubs_l2 j4 ys2 i2 x4 = some r ∧ Sx w [] φ1 [.map b2 (ments Value.string (fun x => Value.agg (GFraction.enc x).toArray) x4) x4.length] [(5, .map (some b2)), (27, v3), (28, iV (r1.length : Int)), (29, iV (i2 : Int))] 47 a w') List.length r1 ⟨0, x1, ⟨[], rfl, rfl⟩, h, S.nf [true] rfl (subR rfl)⟩ ?_)
  clear S h;rintro ys2 a w15 ⟨i2, x4, ⟨dn, hd2, hi2⟩, h, S⟩
  cases ys2 with
  | nil =>
   rw [points_clubs_l2.eq_1] at h
   refine Fs (Fg (lv S (rn_lss (S.tm rfl) (S.tm rfl)) rfl ?_));clear S;intro a S
   refine Ld ?_
   replace S := S.nk [.map b2 (ments Value.string (fun x => Value.agg (GFraction.enc x).toArray) x4) x4.length] [(5, .map (some b2)), (27, v3), (28, iV (r1.length : Int)), (29, iV (i2 : Int)), (30, bV (decide ((i2 : Int) < (r1.length : Int))))] [true] rfl (subR rfl)
   refine Tn (Fs (wp_cond_false ((S.tm rfl).trans (congrArg Value.bool (rng_nil hd2 hi2))) (wp_exit (then_x (then_x (x_same ?_))))))
   refine Tn ?_
   exact ⟨x4, h, S.nf [true] rfl ⟨rfl, trivial⟩⟩
  | cons y2 ys2 =>
   rw [points_clubs_l2.eq_2] at h
   refine Fs (Fg (lv S (rn_lss (S.tm rfl) (S.tm rfl)) rfl ?_));clear S;intro a S
   refine Ld ?_
   replace S := S.nk [.map b2 (ments Value.string (fun x => Value.agg (GFraction.enc x).toArray) x4) x4.length] [(5, .map (some b2)), (27, v3), (28, iV (r1.length : Int)), (29, iV (i2 : Int)), (30, bV (decide ((i2 : Int) < (r1.length : Int))))] [true] rfl (subR rfl)
   refine Tn (Fs (wp_cond_true ((S.tm rfl).trans (congrArg Value.bool (rng_cons hd2 hi2))) (wp_skip (Tn (Fs (wp_block ?_))))))
   refine Fs (Fg ?_)
   obtain ⟨b5, o2, hm3, hr3⟩ := rn_indexT (a := a) (x := .tmp 27) (y := .tmp 29) (ty := 0) sl_58 (ownV_slcT Gpoints_row.enc_ok hs2) (get_mid hd2 hi2) rfl (S.tm rfl) (S.tm rfl)
   refine lv S (hr3 _) rfl ?_;clear S;intro a S
   clear hr3
   refine lv S (rn_ldA Tryz.isAgg61 Tryz.sizeOf61 (off := o2) (o := 0) (part := (Gpoints_row.enc y2)) rfl rfl (S.tm rfl) (hm3.at S.emb)) rfl ?_;clear S;intro a S
   refine l_alloc S Tryz.zeroValue61 (cs := [sV k_empty, sV k_empty, sV k_empty, iV 0, bV false, iV 0, iV 0]) rfl rfl ?_;clear S;intro a w17 b6 hz5 hk11 S
   refine l_store S (S.tm rfl) (S.tm rfl) (i := 0) (off := 0) rfl Tryz.sizeOf61 (vs := (Gpoints_row.enc y2)) rfl rfl rfl rfl ?_;clear S;intro w18 hk12 S
   refine Ld (Tn ?_)
   obtain ⟨r2, hr4, h⟩ := bindE h
   refine d_region [12] ([]) Tryz.mixed S rfl (by kernel_rfl) ?_;clear S;intro w21 hk15 hsel S
   refine d_pure 0 S hsel rfl rfl (by kernel_rfl) (by kernel_rfl) rfl (fun _ => (Rm (S.tm rfl))) ?_;clear S;intro a S
   refine d_pure 1 S hsel rfl rfl (by kernel_rfl) (by kernel_rfl) rfl (fun _ => (rn_fld fa_61_0 (S.tm rfl))) ?_;clear S;intro a S
   refine d_pure 2 S hsel rfl rfl (by kernel_rfl) (by kernel_rfl) rfl (fun _ => (rn_fld fa_54_2 (S.tm rfl))) ?_;clear S;intro a S
   refine d_quiet 3 S hsel rfl (by kernel_rfl) (by kernel_rfl) (by kernel_rfl) (by kernel_rfl) rfl (fun _ hw => (rn_ld Tryz.isAgg9 (off := 0) (o := 2) (S.tm rfl) ((S.blk_mem (i := 0) (cells := (Gpoints_row.enc y2)) (b := b6) (T := 61) rfl (ne_nil (e' := .blk b6 (Gpoints_row.enc y2) 61))).kept hw) rfl)) ?_;clear S;intro a S
   refine d_pure 4 S hsel rfl rfl (by kernel_rfl) (by kernel_rfl) rfl (fun _ => (Rm (S.tm rfl))) ?_;clear S;intro a S
   refine d_pure 5 S hsel rfl rfl (by kernel_rfl) (by kernel_rfl) rfl (fun _ => (rn_fld fa_61_0 (S.tm rfl))) ?_;clear S;intro a S
   refine d_pure 6 S hsel rfl rfl (by kernel_rfl) (by kernel_rfl) rfl (fun _ => (rn_fld fa_54_2 (S.tm rfl))) ?_;clear S;intro a S
   refine d_quiet 7 S hsel rfl (by kernel_rfl) (by kernel_rfl) (by kernel_rfl) (by kernel_rfl) rfl (fun _ hw => (rn_ld Tryz.isAgg9 (off := 0) (o := 2) (S.tm rfl) ((S.blk_mem (i := 0) (cells := (Gpoints_row.enc y2)) (b := b6) (T := 61) rfl (ne_nil (e' := .blk b6 (Gpoints_row.enc y2) 61))).kept hw) rfl)) ?_;clear S;intro a S
   refine d_quiet 8 S hsel rfl (by kernel_rfl) (by kernel_rfl) (by kernel_rfl) (by kernel_rfl) rfl (fun _ hw => (rn_lookup (kv := Value.string) (vv := (fun x => Value.agg (GFraction.enc x).toArray)) (m := x4) (key := y2.x_.Club) (z := (GFraction.mk 0 0)) (S.map_kept (i := 1) rfl (ne_nil (e' := .map b2 (ments Value.string (fun x => Value.agg (GFraction.enc x).toArray) x4) x4.length)) hw) Tryz.underlying63 (keyT_str Tryz.underlying9) Tryz.zeroValue36 (S.tm rfl) (S.tm rfl))) ?_;clear S;intro a S
   refine d_pure 9 S hsel rfl rfl (by kernel_rfl) (by kernel_rfl) rfl (fun _ => (rn_fld fa_61_1 (S.tm rfl))) ?_;clear S;intro a S
   refine d_quiet 10 S hsel rfl (by kernel_rfl) (by kernel_rfl) (by kernel_rfl) (by kernel_rfl) rfl (fun _ hw => (rn_ldA Tryz.isAgg36 Tryz.sizeOf36 (off := 0) (o := 5) (part := (GFraction.enc y2.points_)) rfl rfl (S.tm rfl) ((S.blk_mem (i := 0) (cells := (Gpoints_row.enc y2)) (b := b6) (T := 61) rfl (ne_nil (e' := .blk b6 (Gpoints_row.enc y2) 61))).kept hw))) ?_;clear S;intro a S
   refine d_loud1 11 (by kernel_rfl) rfl (l_enter S (fun _ => run_call (vs := [.agg (GFraction.enc (mgetD x4 y2.x_.Club (GFraction.mk 0 0))).toArray, .agg (GFraction.enc y2.points_).toArray]) ⟨(S.tm rfl), (S.tm rfl), trivial⟩ Tryz.call34) (points_add_ok _ (mgetD x4 y2.x_.Club (GFraction.mk 0 0)) y2.points_ _ hr4) rfl ?_);clear S;intro v5 a w22 hv5 hk16 hn5 S
   subst hv5
   refine Ld (d_next hk16 (d_loudB 12 ([b2]) rfl (by kernel_rfl) rfl (l_mapUpdate (kv := Value.string) (vv := (fun x => Value.agg (GFraction.enc x).toArray)) (m := x4) (key := y2.x_.Club) (val := r2) S (i := 1) rfl Tryz.underlying63 (keyT_str Tryz.underlying9) (S.tm rfl) (S.tm rfl) (S.tm rfl) ?_)));clear S;intro w23 hk17 S
   refine Ld (d_nextB (d_end (by kernel_rfl) ?_))
   clear hsel
   replace S := S.nk [.map b2 (ments Value.string (fun x => Value.agg (GFraction.enc x).toArray) (mput x4 y2.x_.Club r2)) (mput x4 y2.x_.Club r2).length] [(5, .map (some b2)), (27, v3), (28, iV (r1.length : Int)), (29, iV (i2 : Int))] [false, true] rfl (subR rfl)
   refine blk_n (Tn (Fg (lv S (rn_add (S.tm rfl) rfl) rfl ?_)));clear S;intro a S
   refine lv S (Rm (S.tm rfl)) rfl ?_;clear S;intro a S
   refine Ld (Tn ?_)
   exact ⟨ys2, ⟨i2 + 1, (mput x4 y2.x_.Club r2), ⟨_, (hd2).trans (List.append_cons _ _ _), by simp [hi2]⟩, h, S.nf [true] rfl ⟨rfl, rfl, rfl, (congrArg (fun z => some (Value.int .i64 z)) (rng_next hd2 hi2 (slc_max (ownV_slcT Gpoints_row.enc_ok hs2)))), trivial⟩⟩, Nat.lt_succ_self _⟩
 clear S h;rintro a w16 ⟨x4, h, S⟩;rw [hj4] at h;clear hj4 j4
 refine Tn (Fs (Fg (lv S (Rm (S.tm rfl)) rfl ?_)));clear S;intro a S
 refine lv S (Ra (S.tm rfl)) rfl ?_;clear S;intro a S
 refine Ld (Tn (wp_ret ?_))
 obtain rfl := Option.some.inj h
 exact f_ret S Tryz.results32 rfl ⟨_, rfl, S.map_ret (i := 0) rfl rfl⟩
theorem points_sums_c1_ok (w : World) (Af : GGiven) (Ah : GGiven) (r : Int) (h : points_sums_c1 Af Ah = r) :
    Calls Tryz.prog 58 [.agg (GGiven.enc Af).toArray, .agg (GGiven.enc Ah).toArray].toArray w (Ret w [] fun _ v _ => v = iV r) := by
 refine f_enter [] [] Tryz.func58 rfl Tryz.ntmps58 rfl (by simp) (by simp [fps]) (by simp [fps]) fun a S => ?_
 unfold points_sums_c1 at h
 replace S := S.nk [] [(0, .agg (GGiven.enc Af).toArray), (1, .agg (GGiven.enc Ah).toArray)] [] rfl (subR rfl)
 refine Fs (Fg (l_box S (S.tm rfl) (cs := (GGiven.enc Af)) rfl rfl ?_));clear S;intro a w1 b1 hz1 hk1 S
 refine l_box S (S.tm rfl) (cs := (GGiven.enc Ah)) rfl rfl ?_;clear S;intro a w2 b2 hz2 hk2 S
 refine lv S (Ra rfl) rfl ?_;clear S;intro a S
 refine Ld (Tn (Fs (Fg (lv S (rn_fld fa_45_0 (S.tm rfl)) rfl ?_))));clear S;intro a S
 refine lv S (rn_load Tryz.isAgg9 (S.tm rfl) (S.cell (i := 1) rfl rfl)) rfl ?_;clear S;intro a S
 refine lv S (rn_fld fa_45_0 (S.tm rfl)) rfl ?_;clear S;intro a S
 refine lv S (rn_load Tryz.isAgg9 (S.tm rfl) (S.cell (i := 0) rfl rfl)) rfl ?_;clear S;intro a S
 refine l_enter S (fun _ => run_call (vs := [sV Af.Key, sV Ah.Key]) ⟨(S.tm rfl), (S.tm rfl), trivial⟩ Tryz.call59) (strings_Compare_ok _ Af.Key Ah.Key _ rfl) rfl ?_;clear S;intro v1 a w3 hv1 hk3 hn1 S
 subst hv1
 refine lv S (Ra (S.tm rfl)) rfl ?_;clear S;intro a S
 refine Ld (Tn (wp_ret ?_))
 subst h
 exact f_ret S Tryz.results58 rfl rfl
set_option maxRecDepth 20000 in
theorem slices_insertionSortCmpFunc_Given_points_sums_c1_ok (w : World) (Ac : Value) (Ap : List GGiven) (By : (LEnt.own Ac 45 3 Ap.length (Ap.flatMap GGiven.enc)).holds w) (Af : Int) (Ah : Int) (r : (List GGiven)) (h : slices_insertionSortCmpFunc_Given_points_sums_c1 Ap Af Ah = some r) :
    Calls Tryz.prog 105 [Ac, iV Af, iV Ah, .func (.func 58) #[] #[]].toArray w (Ret w (Ac.ownBlock.toList) fun _ v w' => (LEnt.own Ac 45 3 r.length (r.flatMap GGiven.enc)).holds w' ∧ v = .tuple #[]) := by
 refine f_enter (Ac.ownBlock.toList) [.own Ac 45 3 Ap.length (Ap.flatMap GGiven.enc)] Tryz.func105 rfl Tryz.ntmps105 rfl (fun e he => by simp only [List.mem_singleton] at he;subst he;exact By) (fps_one_nodup _) (fps_one_sub _) fun a S => ?_
 unfold slices_insertionSortCmpFunc_Given_points_sums_c1 at h
 replace S := S.nk [.own Ac 45 3 Ap.length (Ap.flatMap GGiven.enc)] [(0, Ac), (1, iV Af), (2, iV Ah), (3, .func (.func 58) #[] #[])] [true] rfl (subR rfl)
 refine Fs (Fg (lv S (Rm (S.tm rfl)) rfl ?_));clear S;intro a S
 refine lv S (rn_add (S.tm rfl) rfl) rfl ?_;clear S;intro a S
 refine lv S (Ra (S.tm rfl)) rfl ?_;clear S;intro a S
 refine Ld (Tn ?_)
 replace S := S.nk [.own Ac 45 3 Ap.length (Ap.flatMap GGiven.enc)] [(0, Ac), (1, iV Af), (2, iV Ah), (3, .func (.func 58) #[] #[]), (8, iV (W (Af + 1)))] [true] rfl (subR rfl)
 obtain ⟨j1, hj1, h⟩ := joinE h
 refine f_join (fun a w' => ∃ x1 : List GGiven, j1 x1 = some r ∧ Sx w (Ac.ownBlock.toList) nov [.own Ac 45 3 x1.length (x1.flatMap GGiven.enc)] [] 53 a w') ?_ ?_
 ·refine wp_block (f_loop (fun (m1 : Nat) a w' => ∃ x1 : List GGiven, ∃ x2 : Int, slices_insertionSortCmpFunc_Given_points_sums_c1_l1 Ah Af j1 m1 x1 x2 = some r ∧ Sx w (Ac.ownBlock.toList) nov [.own Ac 45 3 x1.length (x1.flatMap GGiven.enc)] [(0, Ac), (1, iV Af), (2, iV Ah), (3, .func (.func 58) #[] #[]), (8, iV x2)] 53 a w') id ((Ah - (W (Af + 1))).toNat + 2) ⟨Ap, W (Af + 1), h, S.nf [true] rfl (subR rfl)⟩ ?_)
  clear S h;rintro m1 a w1 ⟨x1, x2, h, S⟩
  cases m1 with
  | zero => rw [slices_insertionSortCmpFunc_Given_points_sums_c1_l1.eq_1] at h;cases h
  | succ m1 =>
   rw [slices_insertionSortCmpFunc_Given_points_sums_c1_l1.eq_2] at h
   refine Fs (Fs (Fg (lv S (Rm (S.tm rfl)) rfl ?_)));clear S;intro a S
   refine lv S (Rm (S.tm rfl)) rfl ?_;clear S;intro a S
   refine lv S (rn_lss (S.tm rfl) (S.tm rfl)) rfl ?_;clear S;intro a S
   refine Ld (Tn (f_cond (S.tm rfl) (fun hb1 => ?_) (fun hb1 => ?_)))
   ·replace h := iteT h hb1
    refine wp_skip (Tn (Fs (wp_block (Fs (Fg (lv S (Rm (S.tm rfl)) rfl ?_))))));clear S;intro a S
    refine lv S (Ra (S.tm rfl)) rfl ?_;clear S;intro a S
    refine Ld (Tn ?_)
    replace S := S.nk [.own Ac 45 3 x1.length (x1.flatMap GGiven.enc)] [(0, Ac), (1, iV Af), (2, iV Ah), (3, .func (.func 58) #[] #[]), (8, iV x2), (9, iV x2)] [true] rfl (subR rfl)
    obtain ⟨j2, hj2, h⟩ := joinE h
    refine f_join (fun a w' => ∃ x3 : List GGiven, j2 x3 = some r ∧ Sx w (Ac.ownBlock.toList) nov [.own Ac 45 3 x3.length (x3.flatMap GGiven.enc)] [(0, Ac), (1, iV Af), (2, iV Ah), (3, .func (.func 58) #[] #[]), (8, iV x2)] 53 a w') ?_ ?_
    ·refine wp_block (f_loop (fun (m2 : Nat) a w' => ∃ x3 : List GGiven, ∃ x4 : Int, slices_insertionSortCmpFunc_Given_points_sums_c1_l2 Af j2 m2 x3 x4 = some r ∧ Sx w (Ac.ownBlock.toList) nov [.own Ac 45 3 x3.length (x3.flatMap GGiven.enc)] [(0, Ac), (1, iV Af), (2, iV Ah), (3, .func (.func 58) #[] #[]), (8, iV x2), (9, iV x4)] 53 a w') id ((x2 - Af).toNat + 2) ⟨x1, x2, h, S.nf [true] rfl (subR rfl)⟩ ?_)
     clear S h;rintro m2 a w3 ⟨x3, x4, h, S⟩
     cases m2 with
     | zero => rw [slices_insertionSortCmpFunc_Given_points_sums_c1_l2.eq_1] at h;cases h
     | succ m2 =>
      rw [slices_insertionSortCmpFunc_Given_points_sums_c1_l2.eq_2] at h
      refine Fs (Fs ?_)
      obtain ⟨j3, hj3, h⟩ := joinE h
      refine f_join (fun a w' => ∃ x5 : Bool, j3 x5 = some r ∧ Sx w (Ac.ownBlock.toList) nov [.own Ac 45 3 x3.length (x3.flatMap GGiven.enc)] [(0, Ac), (1, iV Af), (2, iV Ah), (3, .func (.func 58) #[] #[]), (8, iV x2), (9, iV x4), (34, bV x5)] 53 a w') ?_ ?_
      ·rcases Bool.eq_false_or_eq_true (decide (Af < x4)) with hb2 | hb2
       ·replace h := iteT h hb2
        obtain ⟨hc1, h⟩ := chkE h
        obtain ⟨hc2, h⟩ := chkE h
        refine d_region [] ([]) Tryz.mixed S rfl (by kernel_rfl) ?_;clear S;intro w7 hk2 hsel S
        refine d_quiet 0 S hsel rfl rfl rfl (by kernel_rfl) (by kernel_rfl) rfl (fun _ hw => (Rm (S.tm rfl))) ?_;clear S;intro a S
        refine d_quiet 1 S hsel rfl rfl rfl (by kernel_rfl) (by kernel_rfl) rfl (fun _ hw => (Rm (S.tm rfl))) ?_;clear S;intro a S
        refine d_quiet 2 S hsel rfl rfl rfl (by kernel_rfl) (by kernel_rfl) rfl (fun _ hw => (rn_gtr (S.tm rfl) (S.tm rfl))) ?_;clear S;intro a S
        refine d_quiet 3 S hsel rfl rfl rfl (by kernel_rfl) (by kernel_rfl) rfl (fun _ hw => (Rm (S.tm rfl))) ?_;clear S;intro a S
        refine d_quiet_g 4 S hsel rfl rfl rfl rfl hb2 rfl rfl (by kernel_rfl) (by kernel_rfl) rfl (fun _ hw => (Rm (S.tm rfl))) ?_;clear S;intro a S
        refine d_quiet_g 5 S hsel rfl rfl rfl rfl hb2 rfl rfl (by kernel_rfl) (by kernel_rfl) rfl (fun _ hw => (Rm (S.tm rfl))) ?_;clear S;intro a S
        refine d_quiet_g 6 S hsel rfl rfl rfl rfl hb2 rfl rfl (by kernel_rfl) (by kernel_rfl) rfl (fun _ hw => (Rm (S.tm rfl))) ?_;clear S;intro a S
        obtain ⟨b3, hg3, hr3⟩ := rn_indexS (a := a) (x := .tmp 23) (y := .tmp 24) (ty := 0) sl_31 GGiven.enc_ok S (i := 0) rfl (inB_get hc1).1 (inB_get hc1).2 (S.tm rfl) (S.tm rfl)
        refine d_quiet_g 7 S hsel rfl rfl rfl rfl hb2 rfl rfl (by kernel_rfl) (by kernel_rfl) rfl (fun _ hw => (hr3 _)) ?_;clear S;intro a S
        clear hr3
        refine d_quiet_g 8 S hsel rfl rfl rfl rfl hb2 rfl rfl (by kernel_rfl) (by kernel_rfl) rfl (fun _ hw => (rn_ldA Tryz.isAgg45 Tryz.sizeOf45 (off := x4.toNat * 3) (o := 0) (part := (GGiven.enc (GGiven.mk ((nth x3 x4).Key) ((nth x3 x4).Points)))) rfl rfl (S.tm rfl) ((own_mem GGiven.enc_ok S (i := 0) rfl hg3 (inB_get hc1).1 (ne_nil (e' := .own Ac 45 3 x3.length (x3.flatMap GGiven.enc)))).kept hw))) ?_;clear S;intro a S
        refine d_quiet_g 9 S hsel rfl rfl rfl rfl hb2 rfl rfl (by kernel_rfl) (by kernel_rfl) rfl (fun _ hw => (Rm (S.tm rfl))) ?_;clear S;intro a S
        refine d_quiet_g 10 S hsel rfl rfl rfl rfl hb2 rfl rfl (by kernel_rfl) (by kernel_rfl) rfl (fun _ hw => (Rm (S.tm rfl))) ?_;clear S;intro a S
        refine d_quiet_g 11 S hsel rfl rfl rfl rfl hb2 rfl rfl (by kernel_rfl) (by kernel_rfl) rfl (fun _ hw => (rn_sub (S.tm rfl) rfl)) ?_;clear S;intro a S
        obtain ⟨b4, hg4, hr4⟩ := rn_indexS (a := a) (x := .tmp 27) (y := .tmp 29) (ty := 0) sl_31 GGiven.enc_ok S (i := 0) rfl (inB_get hc2).1 (inB_get hc2).2 (S.tm rfl) (S.tm rfl)
        refine d_quiet_g 12 S hsel rfl rfl rfl rfl hb2 rfl rfl (by kernel_rfl) (by kernel_rfl) rfl (fun _ hw => (hr4 _)) ?_;clear S;intro a S
        clear hr4
        refine d_quiet_g 13 S hsel rfl rfl rfl rfl hb2 rfl rfl (by kernel_rfl) (by kernel_rfl) rfl (fun _ hw => (rn_ldA Tryz.isAgg45 Tryz.sizeOf45 (off := ((W (x4 - 1)).toNat) * 3) (o := 0) (part := (GGiven.enc (GGiven.mk ((nth x3 (W (x4 - 1))).Key) ((nth x3 (W (x4 - 1))).Points)))) rfl rfl (S.tm rfl) ((own_mem GGiven.enc_ok S (i := 0) rfl hg4 (inB_get hc2).1 (ne_nil (e' := .own Ac 45 3 x3.length (x3.flatMap GGiven.enc)))).kept hw))) ?_;clear S;intro a S
        refine d_loud1 14 (by kernel_rfl) rfl (l_want S rfl rfl rfl hb2 (l_enter S (fun _ => run_callV (cap := []) (S.tm rfl) (vs := [.agg (GGiven.enc (GGiven.mk ((nth x3 x4).Key) ((nth x3 x4).Points))).toArray, .agg (GGiven.enc (GGiven.mk ((nth x3 (W (x4 - 1))).Key) ((nth x3 (W (x4 - 1))).Points))).toArray]) ⟨(S.tm rfl), (S.tm rfl), trivial⟩ Tryz.call58) (points_sums_c1_ok _ (GGiven.mk ((nth x3 x4).Key) ((nth x3 x4).Points)) (GGiven.mk ((nth x3 (W (x4 - 1))).Key) ((nth x3 (W (x4 - 1))).Points)) _ rfl) rfl ?_));clear S;intro v2 a w8 hv2 hk3 hn2 S
        subst hv2
        refine Ld (d_next hk3 (d_rest [15, 16] hsel (by kernel_rfl) rfl ?_))
        clear hsel
        refine s_want S rfl rfl rfl rfl hb2 (s_lv0 S (rn_lss (S.tm rfl) rfl) rfl ?_);clear S;intro a S
        refine s_lv S rfl (rn_pick_b hb2 (S.tm rfl) (S.tm rfl)) rfl ?_;clear S;intro a S
        refine s_done ?_
        replace S := S.nk [.own Ac 45 3 x3.length (x3.flatMap GGiven.enc)] [(0, Ac), (1, iV Af), (2, iV Ah), (3, .func (.func 58) #[] #[]), (8, iV x2), (9, iV x4), (22, .func (.func 58) #[] #[]), (23, Ac), (24, iV x4), (25, .pointer (some ⟨b3, x4.toNat * 3, none⟩)), (26, .agg (GGiven.enc (GGiven.mk ((nth x3 x4).Key) ((nth x3 x4).Points))).toArray), (27, Ac), (28, iV x4), (29, iV (W (x4 - 1))), (30, .pointer (some ⟨b4, ((W (x4 - 1)).toNat) * 3, none⟩)), (31, .agg (GGiven.enc (GGiven.mk ((nth x3 (W (x4 - 1))).Key) ((nth x3 (W (x4 - 1))).Points))).toArray), (32, iV (points_sums_c1 (GGiven.mk ((nth x3 x4).Key) ((nth x3 x4).Points)) (GGiven.mk ((nth x3 (W (x4 - 1))).Key) ((nth x3 (W (x4 - 1))).Points)))), (33, bV (decide ((points_sums_c1 (GGiven.mk ((nth x3 x4).Key) ((nth x3 x4).Points)) (GGiven.mk ((nth x3 (W (x4 - 1))).Key) ((nth x3 (W (x4 - 1))).Points))) < 0))), (34, bV (decide ((points_sums_c1 (GGiven.mk ((nth x3 x4).Key) ((nth x3 x4).Points)) (GGiven.mk ((nth x3 (W (x4 - 1))).Key) ((nth x3 (W (x4 - 1))).Points))) < 0)))] [true] rfl (subR rfl)
        refine Tn ?_
        exact ⟨decide ((points_sums_c1 (GGiven.mk ((nth x3 x4).Key) ((nth x3 x4).Points)) (GGiven.mk ((nth x3 (W (x4 - 1))).Key) ((nth x3 (W (x4 - 1))).Points))) < 0), h, S.nf [true] rfl (subR rfl)⟩
       ·replace h := iteF h hb2
        refine d_region [] ([]) Tryz.mixed S rfl (by kernel_rfl) ?_;clear S;intro w9 hk4 hsel S
        refine d_rest [0, 1, 2, 3, 4, 5, 6, 7, 8, 9, 10, 11, 12, 13, 14, 15, 16] hsel (by kernel_rfl) rfl ?_
        clear hsel
        refine s_lv S rfl (Rm (S.tm rfl)) rfl ?_;clear S;intro a S
        refine s_lv S rfl (Rm (S.tm rfl)) rfl ?_;clear S;intro a S
        refine s_lv S rfl (rn_gtr (S.tm rfl) (S.tm rfl)) rfl ?_;clear S;intro a S
        refine s_lv S rfl (Rm (S.tm rfl)) rfl ?_;clear S;intro a S
        iterate 12 (refine s_skip S rfl rfl rfl rfl (neq_f hb2) rfl ?_ rfl;clear S;intro a S)
        refine s_lv S rfl (rn_pick_c hb2 (S.tm rfl) rfl) rfl ?_;clear S;intro a S
        refine s_done ?_
        replace S := S.nk [.own Ac 45 3 x3.length (x3.flatMap GGiven.enc)] [(0, Ac), (1, iV Af), (2, iV Ah), (3, .func (.func 58) #[] #[]), (8, iV x2), (9, iV x4), (34, bV false)] [true] rfl (subR rfl)
        refine Tn ?_
        exact ⟨false, h, S.nf [true] rfl (subR rfl)⟩
      clear S h;rintro a w5 ⟨x5, h, S⟩;rw [hj3] at h;clear hj3 j3
      refine Tn (f_cond (S.tm rfl) (fun hb3 => ?_) (fun hb3 => ?_))
      ·replace h := iteT h hb3
       refine wp_skip (Tn (Fs (wp_block ?_)))
       obtain ⟨hc3, h⟩ := chkE h
       obtain ⟨hc4, h⟩ := chkE h
       obtain ⟨hc5, h⟩ := chkE h
       obtain ⟨hc6, h⟩ := chkE h
       refine d_region [15, 17] ([]) Tryz.mixed S rfl (by kernel_rfl) ?_;clear S;intro w14 hk9 hsel S
       refine d_pure 0 S hsel rfl rfl (by kernel_rfl) (by kernel_rfl) rfl (fun _ => (Rm (S.tm rfl))) ?_;clear S;intro a S
       refine d_pure 1 S hsel rfl rfl (by kernel_rfl) (by kernel_rfl) rfl (fun _ => (Rm (S.tm rfl))) ?_;clear S;intro a S
       refine d_pure 2 S hsel rfl rfl (by kernel_rfl) (by kernel_rfl) rfl (fun _ => (Rm (S.tm rfl))) ?_;clear S;intro a S
       refine d_pure 3 S hsel rfl rfl (by kernel_rfl) (by kernel_rfl) rfl (fun _ => (Rm (S.tm rfl))) ?_;clear S;intro a S
       refine d_pure 4 S hsel rfl rfl (by kernel_rfl) (by kernel_rfl) rfl (fun _ => (rn_sub (S.tm rfl) rfl)) ?_;clear S;intro a S
       refine d_pure 5 S hsel rfl rfl (by kernel_rfl) (by kernel_rfl) rfl (fun _ => (Rm (S.tm rfl))) ?_;clear S;intro a S
       refine d_pure 6 S hsel rfl rfl (by kernel_rfl) (by kernel_rfl) rfl (fun _ => (Rm (S.tm rfl))) ?_;clear S;intro a S
       refine d_pure 7 S hsel rfl rfl (by kernel_rfl) (by kernel_rfl) rfl (fun _ => (rn_sub (S.tm rfl) rfl)) ?_;clear S;intro a S
       obtain ⟨b9, hg9, hr9⟩ := rn_indexS (a := a) (x := .tmp 42) (y := .tmp 44) (ty := 0) sl_31 GGiven.enc_ok S (i := 0) rfl (inB_get hc3).1 (inB_get hc3).2 (S.tm rfl) (S.tm rfl)
       refine d_pure 8 S hsel rfl rfl (by kernel_rfl) (by kernel_rfl) rfl (fun _ => (hr9 _)) ?_;clear S;intro a S
       clear hr9
       refine d_quiet 9 S hsel rfl (by kernel_rfl) (by kernel_rfl) (by kernel_rfl) (by kernel_rfl) rfl (fun _ hw => (rn_ldA Tryz.isAgg45 Tryz.sizeOf45 (off := ((W (x4 - 1)).toNat) * 3) (o := 0) (part := (GGiven.enc (GGiven.mk ((nth x3 (W (x4 - 1))).Key) ((nth x3 (W (x4 - 1))).Points)))) rfl rfl (S.tm rfl) ((own_mem GGiven.enc_ok S (i := 0) rfl hg9 (inB_get hc3).1 (ne_nil (e' := .own Ac 45 3 x3.length (x3.flatMap GGiven.enc)))).kept hw))) ?_;clear S;intro a S
       refine d_pure 10 S hsel rfl rfl (by kernel_rfl) (by kernel_rfl) rfl (fun _ => (Rm (S.tm rfl))) ?_;clear S;intro a S
       refine d_pure 11 S hsel rfl rfl (by kernel_rfl) (by kernel_rfl) rfl (fun _ => (Rm (S.tm rfl))) ?_;clear S;intro a S
       obtain ⟨b10, hg10, hr10⟩ := rn_indexS (a := a) (x := .tmp 47) (y := .tmp 48) (ty := 0) sl_31 GGiven.enc_ok S (i := 0) rfl (inB_get hc4).1 (inB_get hc4).2 (S.tm rfl) (S.tm rfl)
       refine d_pure 12 S hsel rfl rfl (by kernel_rfl) (by kernel_rfl) rfl (fun _ => (hr10 _)) ?_;clear S;intro a S
       clear hr10
       refine d_quiet 13 S hsel rfl (by kernel_rfl) (by kernel_rfl) (by kernel_rfl) (by kernel_rfl) rfl (fun _ hw => (rn_ldA Tryz.isAgg45 Tryz.sizeOf45 (off := x4.toNat * 3) (o := 0) (part := (GGiven.enc (GGiven.mk ((nth x3 x4).Key) ((nth x3 x4).Points)))) rfl rfl (S.tm rfl) ((own_mem GGiven.enc_ok S (i := 0) rfl hg10 (inB_get hc4).1 (ne_nil (e' := .own Ac 45 3 x3.length (x3.flatMap GGiven.enc)))).kept hw))) ?_;clear S;intro a S
       obtain ⟨b11, hg11, hr11⟩ := rn_indexS (a := a) (x := .tmp 37) (y := .tmp 38) (ty := 0) sl_31 GGiven.enc_ok S (i := 0) rfl (inB_get hc5).1 (inB_get hc5).2 (S.tm rfl) (S.tm rfl)
       refine d_pure 14 S hsel rfl rfl (by kernel_rfl) (by kernel_rfl) rfl (fun _ => (hr11 _)) ?_;clear S;intro a S
       clear hr11
       refine d_loudB 15 (Ac.ownBlock.toList) rfl (by kernel_rfl) rfl (l_storeO (c := 0) (j := x4.toNat) (GGiven.mk ((nth x3 (W (x4 - 1))).Key) ((nth x3 (W (x4 - 1))).Points)) GGiven.enc_ok S (S.tm rfl) (S.tm rfl) (i := 0) rfl hg11 (inB_get hc5).1 Tryz.sizeOf45 (vs := [sV ((nth x3 (W (x4 - 1))).Key), iV (((nth x3 (W (x4 - 1))).Points).Num), iV (((nth x3 (W (x4 - 1))).Points).Den)]) rfl rfl rfl rfl rfl ?_);clear S;intro w16 hk11 S
       refine Ld (d_nextB ?_)
       obtain ⟨b12, hg12, hr12⟩ := rn_indexS (a := a) (x := .tmp 39) (y := .tmp 41) (ty := 0) sl_31 GGiven.enc_ok S (i := 0) rfl (inB_get hc6).1 (inB_get hc6).2 (S.tm rfl) (S.tm rfl)
       refine d_quiet 16 S hsel rfl rfl rfl (by kernel_rfl) (by kernel_rfl) rfl (fun _ hw => (hr12 _)) ?_;clear S;intro a S
       clear hr12
       refine d_loud1 17 (by kernel_rfl) rfl (l_storeO (c := 0) (j := (W (x4 - 1)).toNat) (GGiven.mk ((nth x3 x4).Key) ((nth x3 x4).Points)) GGiven.enc_ok S (S.tm rfl) (S.tm rfl) (i := 0) rfl hg12 (inB_get hc6).1 Tryz.sizeOf45 (vs := [sV ((nth x3 x4).Key), iV (((nth x3 x4).Points).Num), iV (((nth x3 x4).Points).Den)]) rfl rfl rfl rfl rfl ?_);clear S;intro w18 hk13 S
       refine Ld (d_next hk13 (d_end (by kernel_rfl) ?_))
       clear hsel
       replace S := S.nk [.own Ac 45 3 ((x3.set x4.toNat (GGiven.mk ((nth x3 (W (x4 - 1))).Key) ((nth x3 (W (x4 - 1))).Points))).set ((W (x4 - 1)).toNat) (GGiven.mk ((nth x3 x4).Key) ((nth x3 x4).Points))).length (((x3.set x4.toNat (GGiven.mk ((nth x3 (W (x4 - 1))).Key) ((nth x3 (W (x4 - 1))).Points))).set ((W (x4 - 1)).toNat) (GGiven.mk ((nth x3 x4).Key) ((nth x3 x4).Points))).flatMap GGiven.enc)] [(0, Ac), (1, iV Af), (2, iV Ah), (3, .func (.func 58) #[] #[]), (8, iV x2), (9, iV x4)] [true] rfl (subR rfl)
       refine blk_n (Tn (Fg (lv S (Rm (S.tm rfl)) rfl ?_)));clear S;intro a S
       refine lv S (rn_sub (S.tm rfl) rfl) rfl ?_;clear S;intro a S
       refine lv S (Ra (S.tm rfl)) rfl ?_;clear S;intro a S
       refine Ld (Tn ?_)
       exact ⟨m2, ⟨((x3.set x4.toNat (GGiven.mk ((nth x3 (W (x4 - 1))).Key) ((nth x3 (W (x4 - 1))).Points))).set ((W (x4 - 1)).toNat) (GGiven.mk ((nth x3 x4).Key) ((nth x3 x4).Points))), W (x4 - 1), h, S.nf [true] rfl ⟨rfl, rfl, rfl, rfl, rfl, rfl, trivial⟩⟩, Nat.lt_succ_self _⟩
      ·replace h := iteF h hb3
       refine wp_exit (then_x (then_x (x_same (Tn ?_))))
       exact ⟨x3, h, S.nf [true] rfl (subR rfl)⟩
    clear S h;rintro a w4 ⟨x3, h, S⟩;rw [hj2] at h;clear hj2 j2
    refine blk_n (Tn (Fg (lv S (Rm (S.tm rfl)) rfl ?_)));clear S;intro a S
    refine lv S (rn_add (S.tm rfl) rfl) rfl ?_;clear S;intro a S
    refine lv S (Ra (S.tm rfl)) rfl ?_;clear S;intro a S
    refine Ld (Tn ?_)
    exact ⟨m1, ⟨x3, W (x2 + 1), h, S.nf [true] rfl ⟨rfl, rfl, rfl, rfl, rfl, trivial⟩⟩, Nat.lt_succ_self _⟩
   ·replace h := iteF h hb1
    refine wp_exit (then_x (then_x (x_same (Tn ?_))))
    exact ⟨x1, h, S.nf [true] rfl trivial⟩
 clear S h;rintro a w2 ⟨x1, h, S⟩;rw [hj1] at h;clear hj1 j1
 obtain rfl := Option.some.inj h
 exact f_ret0 S Tryz.results105 ⟨(S.holds _ (List.mem_of_getElem? (i := 0) rfl)), rfl⟩
theorem slices_pdqsortCmpFunc_Given_points_sums_c1_ok (w : World) (Ac : Value) (Ap : List GGiven) (By : (LEnt.own Ac 45 3 Ap.length (Ap.flatMap GGiven.enc)).holds w) (Af : Int) (Ah : Int) (Bt : Int) (r : (List GGiven)) (h : slices_pdqsortCmpFunc_Given_points_sums_c1 Ap Af Ah Bt = some r) :
    Calls Tryz.prog 80 [Ac, iV Af, iV Ah, iV Bt, .func (.func 58) #[] #[]].toArray w (Ret w (Ac.ownBlock.toList) fun _ v w' => (LEnt.own Ac 45 3 r.length (r.flatMap GGiven.enc)).holds w' ∧ v = .tuple #[]) := by
 refine f_enter (Ac.ownBlock.toList) [.own Ac 45 3 Ap.length (Ap.flatMap GGiven.enc)] Tryz.func80 rfl Tryz.ntmps80 rfl (fun e he => by simp only [List.mem_singleton] at he;subst he;exact By) (fps_one_nodup _) (fps_one_sub _) fun a S => ?_
 unfold slices_pdqsortCmpFunc_Given_points_sums_c1 at h
 replace S := S.nk [.own Ac 45 3 Ap.length (Ap.flatMap GGiven.enc)] [(0, Ac), (1, iV Af), (2, iV Ah), (3, iV Bt), (4, .func (.func 58) #[] #[])] [true] rfl (subR rfl)
 refine Fs (Fg (lv S (Ra rfl) rfl ?_));clear S;intro a S
 refine Ld (Tn (Fs (Fg (lv S (Ra rfl) rfl ?_))));clear S;intro a S
 refine Ld (Tn ?_)
 replace S := S.nk [.own Ac 45 3 Ap.length (Ap.flatMap GGiven.enc)] [(0, Ac), (1, iV Af), (2, iV Ah), (3, iV Bt), (4, .func (.func 58) #[] #[]), (10, bV true)] [true] rfl (subR rfl)
 refine f_join (fun a w' => False) ?_ ?_
 ·refine wp_block (f_loop (fun (m1 : Nat) a w' => ∃ x1 : Int, ∃ x2 : Int, ∃ x3 : Int, ∃ x4 : Bool, slices_pdqsortCmpFunc_Given_points_sums_c1_l1 Ap m1 x1 x2 x3 x4 = some r ∧ Sx w (Ac.ownBlock.toList) nov [.own Ac 45 3 Ap.length (Ap.flatMap GGiven.enc)] [(0, Ac), (1, iV x1), (2, iV x2), (3, iV x3), (4, .func (.func 58) #[] #[]), (10, bV x4)] 148 a w') id 4611686018427387904 ⟨Af, Ah, Bt, true, h, S.nf [true] rfl (subR rfl)⟩ ?_)
  clear S h;rintro m1 a w1 ⟨x1, x2, x3, x4, h, S⟩
  cases m1 with
  | zero => rw [slices_pdqsortCmpFunc_Given_points_sums_c1_l1.eq_1] at h;cases h
  | succ m1 =>
   rw [slices_pdqsortCmpFunc_Given_points_sums_c1_l1.eq_2] at h
   refine wp_block (Fs (Fg (lv S (Rm (S.tm rfl)) rfl ?_)));clear S;intro a S
   refine lv S (Rm (S.tm rfl)) rfl ?_;clear S;intro a S
   refine lv S (rn_sub (S.tm rfl) (S.tm rfl)) rfl ?_;clear S;intro a S
   refine lv S (Ra (S.tm rfl)) rfl ?_;clear S;intro a S
   refine Ld (Tn (Fs (Fs (Fg (lv S (Rm (S.tm rfl)) rfl ?_)))));clear S;intro a S
   refine lv S (rn_leq (S.tm rfl) rfl) rfl ?_;clear S;intro a S
   refine Ld (Tn (f_cond (S.tm rfl) (fun hb1 => ?_) (fun hb1 => ?_)))
   ·replace h := iteT h hb1
    refine Fs (Fg (lv S (Rm (S.tm rfl)) rfl ?_));clear S;intro a S
    iterate 3 (refine lv S (Rm (S.tm rfl)) rfl ?_;clear S;intro a S)
    obtain ⟨r1, hr1, h⟩ := bindE h
    refine l_enterO 0 S rfl (fun _ => .own Ac 45 3 r1.length (r1.flatMap GGiven.enc)) (fun _ => run_call (vs := [Ac, iV x1, iV x2, .func (.func 58) #[] #[]]) ⟨(S.tm rfl), (S.tm rfl), (S.tm rfl), (S.tm rfl), trivial⟩ Tryz.call105) (slices_insertionSortCmpFunc_Given_points_sums_c1_ok _ Ac Ap (S.holds _ (List.mem_of_getElem? (i := 0) rfl)) x1 x2 _ hr1) rfl (fun _ _ _ h => ⟨h.1, fun _ hc => hc⟩) ?_;clear S;intro v1 a w3 hv1 hk1 hn1 S
    replace hv1 := hv1.2
    subst hv1
    refine Ld ?_
    replace S := S.nk [.own Ac 45 3 r1.length (r1.flatMap GGiven.enc)] [] [true] rfl trivial
    refine Tn (wp_ret (then_r (blk_r (then_r (blk_r (then_r ?_))))))
    obtain rfl := Option.some.inj h
    exact f_ret0 S Tryz.results80 ⟨(S.holds _ (List.mem_of_getElem? (i := 0) rfl)), rfl⟩
   ·replace h := iteF h hb1
    refine wp_skip (Tn (Fs (Fs (Fg (lv S (Rm (S.tm rfl)) rfl ?_)))));clear S;intro a S
    refine lv S (rn_eql (S.tm rfl) rfl) rfl ?_;clear S;intro a S
    refine Ld (Tn (f_cond (S.tm rfl) (fun hb2 => ?_) (fun hb2 => ?_)))
    ·replace h := iteT h hb2
     refine Fs ?_
     cases h
    ·replace h := iteF h hb2
     refine wp_skip (Tn (Fs (Fs (Fg (lv S (Rm (S.tm rfl)) rfl ?_)))));clear S;intro a S
     refine lv S (rn_not (S.tm rfl)) rfl ?_;clear S;intro a S
     refine Ld ?_
     replace S := S.nk [.own Ac 45 3 Ap.length (Ap.flatMap GGiven.enc)] [(39, bV (!x4))] [true] rfl ⟨rfl, trivial⟩
     refine Tn (f_cond (S.tm rfl) (fun hb3 => ?_) (fun hb3 => ?_))
     ·replace h := iteT h hb3
      refine Fs ?_
      cases h
     ·replace h := iteF h hb3
      refine wp_skip (Tn (Fs ?_))
      cases h
 exact fun _ _ h => h.elim
theorem slices_SortFunc_Given_points_sums_c1_ok (w : World) (Bc : Value) (Ag : List GGiven) (Cw : (LEnt.own Bc 45 3 Ag.length (Ag.flatMap GGiven.enc)).holds w) (r : (List GGiven)) (h : slices_SortFunc_Given_points_sums_c1 Ag = some r) :
    Calls Tryz.prog 57 [Bc, .func (.func 58) #[] #[]].toArray w (Ret w (Bc.ownBlock.toList) fun _ v w' => (LEnt.own Bc 45 3 r.length (r.flatMap GGiven.enc)).holds w' ∧ v = .tuple #[]) := by
 refine f_enter (Bc.ownBlock.toList) [.own Bc 45 3 Ag.length (Ag.flatMap GGiven.enc)] Tryz.func57 rfl Tryz.ntmps57 rfl (fun e he => by simp only [List.mem_singleton] at he;subst he;exact Cw) (fps_one_nodup _) (fps_one_sub _) fun a S => ?_
 unfold slices_SortFunc_Given_points_sums_c1 at h
 replace S := S.nk [.own Bc 45 3 Ag.length (Ag.flatMap GGiven.enc)] [(0, Bc), (1, .func (.func 58) #[] #[])] [true] rfl (subR rfl)
 refine Fs (Fg (lv S (Rm (S.tm rfl)) rfl ?_));clear S;intro a S
 refine lv S (rn_lenT sl_31 (S.tm rfl) (own_len (S.own_at (i := 0) rfl))) rfl ?_;clear S;intro a S
 refine lv S (Ra (S.tm rfl)) rfl ?_;clear S;intro a S
 refine Ld (Tn (Fg (lv S (Rm (S.tm rfl)) rfl ?_)));clear S;intro a S
 refine lv S (Rm (S.tm rfl)) rfl ?_;clear S;intro a S
 refine lv S (Rm (S.tm rfl)) rfl ?_;clear S;intro a S
 refine lv S (rn_conv Tryz.underlying3 Tryz.underlying108 (S.tm rfl)) rfl ?_;clear S;intro a S
 obtain ⟨r1, hr1, h⟩ := bindE h
 refine l_enter S (fun _ => run_call (vs := [.int .u64 (IntKind.wrap .u64 (Ag.length : Int))]) ⟨(S.tm rfl), trivial⟩ Tryz.call79) (bits_Len_ok _ (IntKind.wrap .u64 (Ag.length : Int)) _ hr1) rfl ?_;clear S;intro v1 a w1 hv1 hk1 hn1 S
 subst hv1
 refine lv S (Rm (S.tm rfl)) rfl ?_;clear S;intro a S
 obtain ⟨r2, hr2, h⟩ := bindE h
 refine l_enterO 0 S rfl (fun _ => .own Bc 45 3 r2.length (r2.flatMap GGiven.enc)) (fun _ => run_call (vs := [Bc, iV 0, iV (Ag.length : Int), iV r1, .func (.func 58) #[] #[]]) ⟨(S.tm rfl), rfl, (S.tm rfl), (S.tm rfl), (S.tm rfl), trivial⟩ Tryz.call80) (slices_pdqsortCmpFunc_Given_points_sums_c1_ok _ Bc Ag (S.holds _ (List.mem_of_getElem? (i := 0) rfl)) 0 (Ag.length : Int) r1 _ hr2) rfl (fun _ _ _ h => ⟨h.1, fun _ hc => hc⟩) ?_;clear S;intro v2 a w2 hv2 hk2 hn2 S
 replace hv2 := hv2.2
 subst hv2
 refine Ld ?_
 obtain rfl := Option.some.inj h
 exact f_ret0 S Tryz.results57 ⟨(S.holds _ (List.mem_of_getElem? (i := 0) rfl)), rfl⟩
theorem points_sums_ok (w : World) (Ct : Nat) (Cg : List (ByteArray × GFraction)) (De : (view w []) Ct = some (.map (ments Value.string (fun x => Value.agg (GFraction.enc x).toArray) Cg) Cg.length)) (r : (List GGiven)) (h : points_sums Cg = some r) :
    Calls Tryz.prog 31 [.map (some Ct)].toArray w (Ret w [] fun τ v _ => OwnV τ 45 3 v r.length (r.flatMap GGiven.enc)) := by
 refine f_enter [] [] Tryz.func31 rfl Tryz.ntmps31 rfl (by simp) (by simp [fps]) (by simp [fps]) fun a S => ?_
 unfold points_sums at h
 replace S := S.nk [] [(0, .map (some Ct))] [] rfl ⟨rfl, trivial⟩
 refine Fs (Fg (lv S (Ra rfl) rfl ?_));clear S;intro a S
 refine Ld (Tn (Fs (Fg (lv S (Ra rfl) rfl ?_))));clear S;intro a S
 replace S := S.nil 45 3
 refine Ld (Tn (Fs (Fs (Fg (lv S (Rm (S.tm rfl)) rfl ?_)))));clear S;intro a S
 refine l_range (es := ments Value.string (fun x => Value.agg (GFraction.enc x).toArray) Cg) (clk := Cg.length) S (S.emb0 _ _ De) Tryz.underlying63 (S.tm rfl) rfl ?_;clear S;intro a w1 b1 hz1 hk1 S
 refine Ld (Tn ?_)
 replace S := S.nk [.iter b1 Ct Cg.length #[] Cg.length, .own (.slice none 0 0) 45 3 ([] : List GGiven).length (([] : List GGiven).flatMap GGiven.enc)] [(3, (.slice none 0 0)), (7, .pointer (some ⟨b1, 0, none⟩))] [true, true] rfl (subR rfl)
 obtain ⟨j1, hj1, h⟩ := joinE h
 replace h := allE h
 refine f_join (fun a w' => ∃ x1 : List GGiven, ∃ v1 : Value, j1 x1 = some r ∧ Sx w [] nov [.own v1 45 3 x1.length (x1.flatMap GGiven.enc)] [(3, v1)] 22 a w') ?_ ?_
 ·refine wp_block (f_loop (fun (q : List (ByteArray × GFraction)) a w' => ∃ x1 : List GGiven, ∃ v1 : Value, ∃ sn1 : Array Nat, leftL Cg sn1 = q ∧ (∀ p, p.Perm q → points_sums_l1 j1 p x1 = some r) ∧ Sx w [] nov [.iter b1 Ct Cg.length sn1 Cg.length, .own v1 45 3 x1.length (x1.flatMap GGiven.enc)] [(3, v1), (7, .pointer (some ⟨b1, 0, none⟩))] 22 a w') List.length Cg ⟨([] : List GGiven), (.slice none 0 0), #[], (leftL_0 _), h, S.nf [true, true] rfl (subR rfl)⟩ ?_)
  clear S h;rintro q a w2 ⟨x1, v1, sn1, hq, h, S⟩
  refine Fs (Fg (l_next (kv := Value.string) (vv := (fun x => Value.agg (GFraction.enc x).toArray)) (m := Cg) S (i := 0) rfl (S.emb0 _ _ De) (S.tm rfl) rfl ?_ ?_))
  ·intro hn1;clear S;intro a S
   replace h := allp_nil h (hq.symm.trans hn1)
   rw [points_sums_l1.eq_1] at h
   refine lv S (rn_extract (S.tm rfl) rfl) rfl ?_;clear S;intro a S
   refine Ld ?_
   replace S := S.nk [.iter b1 Ct Cg.length sn1 Cg.length, .own v1 45 3 x1.length (x1.flatMap GGiven.enc)] [(3, v1), (7, .pointer (some ⟨b1, 0, none⟩)), (9, bV false)] [true, true] rfl (subR rfl)
   refine Tn (Fs (wp_cond_false (S.tm rfl) (wp_exit (then_x (then_x (x_same ?_))))))
   refine Tn ?_
   exact ⟨x1, v1, h, S.nf [false, true] rfl ⟨rfl, trivial⟩⟩
  ·clear S;intro y1 sn2 a w4 hp1 hl1 hk2 S
   obtain ⟨sq1, h, hn2⟩ := allp_cons h (by rw [← hq];exact hp1) (fun _ => rfl)
   refine lv S (rn_extract (S.tm rfl) rfl) rfl ?_;clear S;intro a S
   refine Ld ?_
   replace S := S.nk [.iter b1 Ct Cg.length sn2 Cg.length, .own v1 45 3 x1.length (x1.flatMap GGiven.enc)] [(3, v1), (7, .pointer (some ⟨b1, 0, none⟩)), (9, bV true)] [true, true] rfl (subR rfl)
   refine Tn (Fs (wp_cond_true (S.tm rfl) (wp_skip (Tn (wp_block (Fs ?_))))))
   refine Fg (lv S (rn_entry (kv := Value.string) (vv := (fun x => Value.agg (GFraction.enc x).toArray)) (m := Cg) (e := y1) (S.holds _ (List.mem_of_getElem? (i := 0) rfl)) (S.emb0 _ _ De) hl1 (S.tm rfl)) rfl ?_);clear S;intro a S
   refine lv S (rn_extract (S.tm rfl) rfl) rfl ?_;clear S;intro a S
   refine lv S (rn_extract (S.tm rfl) rfl) rfl ?_;clear S;intro a S
   refine l_alloc S Tryz.zeroValue36 (cs := [iV 0, iV 0]) rfl rfl ?_;clear S;intro a w5 b2 hz2 hk3 S
   refine lv S (Ra (S.tm rfl)) rfl ?_;clear S;intro a S
   refine l_store S (S.tm rfl) (S.tm rfl) (i := 0) (off := 0) rfl Tryz.sizeOf36 (vs := (GFraction.enc y1.2)) rfl rfl rfl rfl ?_;clear S;intro w6 hk4 S
   refine Ld (Tn (Fg (lv S (Rm (S.tm rfl)) rfl ?_)));clear S;intro a S
   refine lv S (Rm (S.tm rfl)) rfl ?_;clear S;intro a S
   refine lv S (rn_ldA Tryz.isAgg36 Tryz.sizeOf36 (off := 0) (o := 0) (part := (GFraction.enc y1.2)) rfl rfl (S.tm rfl) (S.cellsAt (i := 0) rfl)) rfl ?_;clear S;intro a S
   refine lv S (rn_bld bt_45 (pv := [(0, sV y1.1), (1, .agg #[iV y1.2.Num, iV y1.2.Den])]) ⟨rfl, (S.tm rfl), rfl, (S.tm rfl), trivial⟩ (cs := [sV y1.1, iV y1.2.Num, iV y1.2.Den]) (by kernel_rfl)) rfl ?_;clear S;intro a S
   refine l_buildSlice S Tryz.underlying31 Tryz.sizeOf45 Tryz.zeroValue45 rfl rfl (pv := [(0, .agg #[sV y1.1, iV y1.2.Num, iV y1.2.Den])]) ⟨rfl, (S.tm rfl), trivial⟩ (cs := [sV y1.1, iV y1.2.Num, iV y1.2.Den]) (by kernel_rfl) rfl ?_;clear S;intro a w7 b3 hz3 hk5 S
   obtain ⟨hc1, h⟩ := chkE h
   refine l_appendT sl_31 GGiven.enc_ok S (S.tm rfl) (i := 3) rfl (S.tm rfl) (j := 0) rfl (ys := [(GGiven.mk y1.1 y1.2)]) rfl rfl rfl rfl (by have := room_lt hc1;omega) rfl ?_;clear S;intro v2 a w8 hk6 S
   refine lv S (Ra (S.tm rfl)) rfl ?_;clear S;intro a S
   refine Ld (blk_n (Tn ?_))
   obtain rfl := Option.some.inj h
   exact ⟨leftL Cg sn2, ⟨(x1 ++ [(GGiven.mk y1.1 y1.2)]), v2, sn2, rfl, hn2, S.nf [false, false, true, true] rfl (subR rfl)⟩, by have := hp1.length_eq;rw [hq] at this;simp only [List.length_cons] at this;omega⟩
 clear S h;rintro a w3 ⟨x1, v1, h, S⟩;rw [hj1] at h;clear hj1 j1
 refine Tn (Fs (Fg (lv S (Rm (S.tm rfl)) rfl ?_)));clear S;intro a S
 obtain ⟨r1, hr1, h⟩ := bindE h
 refine l_enterO 0 S rfl (fun _ => .own v1 45 3 r1.length (r1.flatMap GGiven.enc)) (fun _ => run_call (vs := [v1, .func (.func 58) #[] #[]]) ⟨(S.tm rfl), rfl, trivial⟩ Tryz.call57) (slices_SortFunc_Given_points_sums_c1_ok _ v1 x1 (S.holds _ (List.mem_of_getElem? (i := 0) rfl)) _ hr1) rfl (fun _ _ _ h => ⟨h.1, fun _ hc => hc⟩) ?_;clear S;intro v3 a w9 hv1 hk7 hn3 S
 replace hv1 := hv1.2
 subst hv1
 refine Ld (Tn (Fs (Fg (lv S (Rm (S.tm rfl)) rfl ?_))));clear S;intro a S
 refine lv S (Ra (S.tm rfl)) rfl ?_;clear S;intro a S
 refine Ld (Tn (wp_ret ?_))
 obtain rfl := Option.some.inj h
 exact f_ret S Tryz.results31 rfl (own_retT S (i := 0) rfl rfl)
theorem points_Clubs_ok (w : World) (Aa : GTable) (Ar : R27) (At : rel_27 (view w []) Aa Ar) (O : Value) (Ab : List GScored) (Ad : Slc (view w []) 5 O (Ab.map GScored.enc)) (r : (List GGiven) × Int) (h : points_Clubs Aa Ab = some r) :
    Calls Tryz.prog 7 [.agg (R27.enc Ar).toArray, O].toArray w (Ret w [] fun τ v _ => ∃ u1 : Value, v = .tuple #[u1, iV r.2] ∧ OwnV τ 45 3 u1 r.1.length (r.1.flatMap GGiven.enc)) := by
 obtain ⟨u1, rfl, hs1⟩ := At
 refine f_enter [] [] Tryz.func7 rfl Tryz.ntmps7 rfl (by simp) (by simp [fps]) (by simp [fps]) fun a S => ?_
 unfold points_Clubs at h
 replace S := S.nk [] [(0, .agg #[u1.val, iV Aa.Relay, iV Aa.Most]), (1, O)] [] rfl (subR rfl)
 refine Fs (Fg (l_box S (S.tm rfl) (cs := [u1.val, iV Aa.Relay, iV Aa.Most]) rfl rfl ?_));clear S;intro a w1 b1 hz1 hk1 S
 refine lv S (Ra rfl) rfl ?_;clear S;intro a S
 refine lv S (Ra rfl) rfl ?_;clear S;intro a S
 refine Ld (Tn (Fs (Fs (Fg (lv S (rn_ldA Tryz.isAgg27 Tryz.sizeOf27 (off := 0) (o := 0) (part := [u1.val, iV Aa.Relay, iV Aa.Most]) rfl rfl (S.tm rfl) (S.cellsAt (i := 0) rfl)) rfl ?_)))));clear S;intro a S
 refine lv S (Rm (S.tm rfl)) rfl ?_;clear S;intro a S
 obtain ⟨r1, hr1, h⟩ := bindE h
 refine l_enter S (fun _ => run_call (vs := [.agg (R27.enc (R27.mk u1 Aa.Relay Aa.Most)).toArray, O]) ⟨(S.tm rfl), (S.tm rfl), trivial⟩ Tryz.call29) (points_checkBoth_ok _ Aa (R27.mk u1 Aa.Relay Aa.Most) ⟨u1, rfl, (hs1.mono (S.le_arg nil_sub))⟩ O Ab (Ad.mono (S.le_arg nil_sub)) _ hr1) rfl ?_;clear S;intro v1 a w2 hv1 hk2 hn1 S
 subst hv1
 refine lv S (Ra (S.tm rfl)) rfl ?_;clear S;intro a S
 refine Ld (Tn (Fs (Fg (lv S (Rm (S.tm rfl)) rfl ?_))));clear S;intro a S
 refine lv S (rn_neq (S.tm rfl) rfl) rfl ?_;clear S;intro a S
 refine Ld (Tn (f_cond (S.tm rfl) (fun hb1 => ?_) (fun hb1 => ?_)))
 ·replace h := iteT h hb1
  refine Fs (Fg (lv S (Rm (S.tm rfl)) rfl ?_));clear S;intro a S
  refine lv S (Ra rfl) rfl ?_;clear S;intro a S
  refine lv S (Ra (S.tm rfl)) rfl ?_;clear S;intro a S
  refine Ld (Tn (wp_ret (then_r ?_)))
  obtain rfl := Option.some.inj h
  exact f_ret2 S Tryz.results7 rfl rfl ⟨_, rfl, (ownV_nil _ _ _)⟩
 ·replace h := iteF h hb1
  refine wp_skip (Tn (Fs (Fg (lv S (rn_ldA Tryz.isAgg27 Tryz.sizeOf27 (off := 0) (o := 0) (part := [u1.val, iV Aa.Relay, iV Aa.Most]) rfl rfl (S.tm rfl) (S.cellsAt (i := 0) rfl)) rfl ?_))));clear S;intro a S
  refine lv S (Rm (S.tm rfl)) rfl ?_;clear S;intro a S
  obtain ⟨r2, hr2, h⟩ := bindE h
  have hz2 := S.keep.size
  refine l_enter S (fun _ => run_call (vs := [.agg (R27.enc (R27.mk u1 Aa.Relay Aa.Most)).toArray, O]) ⟨(S.tm rfl), (S.tm rfl), trivial⟩ Tryz.call32) (points_clubs_ok _ Aa (R27.mk u1 Aa.Relay Aa.Most) ⟨u1, rfl, (hs1.mono (S.le_arg nil_sub))⟩ O Ab (Ad.mono (S.le_arg nil_sub)) _ hr2) rfl ?_;clear S;intro v2 a w3 hv2 hk3 hn2 S
  obtain ⟨φ1, hl1, hm1, S⟩ := S.see' hn2 hz2
  obtain ⟨b2, rfl, hq1⟩ := hv2
  replace hq1 := hm1 _ _ hq1
  obtain ⟨r3, hr3, h⟩ := bindE h
  have hz3 := S.keep.size
  refine l_enter S (fun _ => run_call (vs := [.map (some b2)]) ⟨(S.tm rfl), trivial⟩ Tryz.call31) (points_sums_ok _ b2 r2 ((S.le_new nil_sub) _ _ hq1) _ hr3) rfl ?_;clear S;intro v3 a w4 hv3 hk4 hn3 S
  obtain ⟨φ2, hl2, hm2, S⟩ := S.see' hn3 hz3
  have hs2 := hv3.mono hm2
  refine lv S (Ra (S.tm rfl)) rfl ?_;clear S;intro a S
  refine lv S (Ra rfl) rfl ?_;clear S;intro a S
  refine Ld ?_
  replace S := S.nk [] [(4, v3), (5, iV 0)] [false] rfl (subR rfl)
  refine Tn (wp_ret ?_)
  obtain rfl := Option.some.inj h
  exact f_ret2 S Tryz.results7 rfl rfl ⟨_, rfl, ((hs2).mono S.le_newer)⟩
theorem points_Swimmers_ok (w : World) (Aa : GTable) (Ar : R27) (At : rel_27 (view w []) Aa Ar) (O : Value) (Ab : List GScored) (Ad : Slc (view w []) 5 O (Ab.map GScored.enc)) (r : (List GGiven) × Int) (h : points_Swimmers Aa Ab = some r) :
    Calls Tryz.prog 8 [.agg (R27.enc Ar).toArray, O].toArray w (Ret w [] fun τ v _ => ∃ u1 : Value, v = .tuple #[u1, iV r.2] ∧ OwnV τ 45 3 u1 r.1.length (r.1.flatMap GGiven.enc)) := by
 obtain ⟨u1, rfl, hs1⟩ := At
 refine f_enter [] [] Tryz.func8 rfl Tryz.ntmps8 rfl (by simp) (by simp [fps]) (by simp [fps]) fun a S => ?_
 unfold points_Swimmers at h
 replace S := S.nk [] [(0, .agg #[u1.val, iV Aa.Relay, iV Aa.Most]), (1, O)] [] rfl (subR rfl)
 refine Fs (Fg (l_box S (S.tm rfl) (cs := [u1.val, iV Aa.Relay, iV Aa.Most]) rfl rfl ?_));clear S;intro a w1 b1 hz1 hk1 S
 refine lv S (Ra rfl) rfl ?_;clear S;intro a S
 refine lv S (Ra rfl) rfl ?_;clear S;intro a S
 refine Ld (Tn (Fs (Fs (Fg (lv S (rn_ldA Tryz.isAgg27 Tryz.sizeOf27 (off := 0) (o := 0) (part := [u1.val, iV Aa.Relay, iV Aa.Most]) rfl rfl (S.tm rfl) (S.cellsAt (i := 0) rfl)) rfl ?_)))));clear S;intro a S
 refine lv S (Rm (S.tm rfl)) rfl ?_;clear S;intro a S
 obtain ⟨r1, hr1, h⟩ := bindE h
 refine l_enter S (fun _ => run_call (vs := [.agg (R27.enc (R27.mk u1 Aa.Relay Aa.Most)).toArray, O]) ⟨(S.tm rfl), (S.tm rfl), trivial⟩ Tryz.call29) (points_checkBoth_ok _ Aa (R27.mk u1 Aa.Relay Aa.Most) ⟨u1, rfl, (hs1.mono (S.le_arg nil_sub))⟩ O Ab (Ad.mono (S.le_arg nil_sub)) _ hr1) rfl ?_;clear S;intro v1 a w2 hv1 hk2 hn1 S
 subst hv1
 refine lv S (Ra (S.tm rfl)) rfl ?_;clear S;intro a S
 refine Ld (Tn (Fs (Fg (lv S (Rm (S.tm rfl)) rfl ?_))));clear S;intro a S
 refine lv S (rn_neq (S.tm rfl) rfl) rfl ?_;clear S;intro a S
 refine Ld (Tn (f_cond (S.tm rfl) (fun hb1 => ?_) (fun hb1 => ?_)))
 ·replace h := iteT h hb1
  refine Fs (Fg (lv S (Rm (S.tm rfl)) rfl ?_));clear S;intro a S
  refine lv S (Ra rfl) rfl ?_;clear S;intro a S
  refine lv S (Ra (S.tm rfl)) rfl ?_;clear S;intro a S
  refine Ld (Tn (wp_ret (then_r ?_)))
  obtain rfl := Option.some.inj h
  exact f_ret2 S Tryz.results8 rfl rfl ⟨_, rfl, (ownV_nil _ _ _)⟩
 ·replace h := iteF h hb1
  refine wp_skip (Tn (Fs (Fg (l_makeMap (κ := ByteArray) (ν := GFraction) S rfl Value.string (fun x => Value.agg (GFraction.enc x).toArray) ?_))));clear S;intro a w3 b2 hz2 hk3 S
  refine lv S (Ra (S.tm rfl)) rfl ?_;clear S;intro a S
  refine Ld (Tn (Fs (Fs (Fg (lv S (rn_ldA Tryz.isAgg27 Tryz.sizeOf27 (off := 0) (o := 0) (part := [u1.val, iV Aa.Relay, iV Aa.Most]) rfl rfl (S.tm rfl) (S.cellsAt (i := 1) rfl)) rfl ?_)))));clear S;intro a S
  refine lv S (Rm (S.tm rfl)) rfl ?_;clear S;intro a S
  obtain ⟨r2, hr2, h⟩ := bindE h
  have hz3 := S.keep.size
  refine l_enter S (fun _ => run_call (vs := [.agg (R27.enc (R27.mk u1 Aa.Relay Aa.Most)).toArray, O]) ⟨(S.tm rfl), (S.tm rfl), trivial⟩ Tryz.call30) (points_rows_ok _ Aa (R27.mk u1 Aa.Relay Aa.Most) ⟨u1, rfl, (hs1.mono (S.le_arg nil_sub))⟩ O Ab (Ad.mono (S.le_arg nil_sub)) _ hr2) rfl ?_;clear S;intro v2 a w4 hv2 hk4 hn2 S
  obtain ⟨φ1, hl1, hm1, S⟩ := S.see' hn2 hz3
  have hs2 := hv2.mono hm1
  refine lv S (rn_lenT sl_58 (S.tm rfl) (slc_len (ownV_slcT Gpoints_row.enc_ok hs2))) rfl ?_;clear S;intro a S
  refine lv S (Rm rfl) rfl ?_;clear S;intro a S
  refine Ld ?_
  replace S := S.nk [.map b2 (ments Value.string (fun x => Value.agg (GFraction.enc x).toArray) ([] : List (ByteArray × GFraction))) ([] : List (ByteArray × GFraction)).length] [(7, .map (some b2)), (21, v2), (22, iV (r2.length : Int)), (23, iV 0)] [true, false] rfl (subR rfl)
  refine Tn ?_
  obtain ⟨j1, hj1, h⟩ := joinE h
  refine f_join (fun a w' => ∃ x1 : List (ByteArray × GFraction), j1 x1 = some r ∧ Sx w [] φ1 [.map b2 (ments Value.string (fun x => Value.agg (GFraction.enc x).toArray) x1) x1.length] [(7, .map (some b2))] 52 a w') ?_ ?_
  ·refine wp_block (f_loop (fun (ys1 : List Gpoints_row) a w' => ∃ i1 : Nat, ∃ x1 : List (ByteArray × GFraction), (∃ dn, r2 = dn ++ ys1 ∧ dn.length = i1) ∧ points_Swimmers_l1 j1 ys1 i1 x1 = some r ∧ Sx w [] φ1 [.map b2 (ments Value.string (fun x => Value.agg (GFraction.enc x).toArray) x1) x1.length] [(7, .map (some b2)), (21, v2), (22, iV (r2.length : Int)), (23, iV (i1 : Int))] 52 a w') List.length r2 ⟨0, ([] : List (ByteArray × GFraction)), ⟨[], rfl, rfl⟩, h, S.nf [true] rfl (subR rfl)⟩ ?_)
   clear S h;rintro ys1 a w5 ⟨i1, x1, ⟨dn, hd1, hi1⟩, h, S⟩
   cases ys1 with
   | nil =>
    rw [points_Swimmers_l1.eq_1] at h
    refine Fs (Fg (lv S (rn_lss (S.tm rfl) (S.tm rfl)) rfl ?_));clear S;intro a S
    refine Ld ?_
    replace S := S.nk [.map b2 (ments Value.string (fun x => Value.agg (GFraction.enc x).toArray) x1) x1.length] [(7, .map (some b2)), (21, v2), (22, iV (r2.length : Int)), (23, iV (i1 : Int)), (24, bV (decide ((i1 : Int) < (r2.length : Int))))] [true] rfl (subR rfl)
    refine Tn (Fs (wp_cond_false ((S.tm rfl).trans (congrArg Value.bool (rng_nil hd1 hi1))) (wp_exit (then_x (then_x (x_same ?_))))))
    refine Tn ?_
    exact ⟨x1, h, S.nf [true] rfl ⟨rfl, trivial⟩⟩
   | cons y1 ys1 =>
    rw [points_Swimmers_l1.eq_2] at h
    refine Fs (Fg (lv S (rn_lss (S.tm rfl) (S.tm rfl)) rfl ?_));clear S;intro a S
    refine Ld ?_
    replace S := S.nk [.map b2 (ments Value.string (fun x => Value.agg (GFraction.enc x).toArray) x1) x1.length] [(7, .map (some b2)), (21, v2), (22, iV (r2.length : Int)), (23, iV (i1 : Int)), (24, bV (decide ((i1 : Int) < (r2.length : Int))))] [true] rfl (subR rfl)
    refine Tn (Fs (wp_cond_true ((S.tm rfl).trans (congrArg Value.bool (rng_cons hd1 hi1))) (wp_skip (Tn (Fs ?_)))))
    obtain ⟨j2, hj2, h⟩ := joinE h
    refine f_join (fun a w' => ∃ x2 : List (ByteArray × GFraction), j2 x2 = some r ∧ Sx w [] φ1 [.map b2 (ments Value.string (fun x => Value.agg (GFraction.enc x).toArray) x2) x2.length] [(7, .map (some b2)), (21, v2), (22, iV (r2.length : Int)), (23, iV (i1 : Int))] 52 a w') ?_ ?_
    ·refine wp_block (Fs (Fg ?_))
     obtain ⟨b3, o1, hm2, hr3⟩ := rn_indexT (a := a) (x := .tmp 21) (y := .tmp 23) (ty := 0) sl_58 (ownV_slcT Gpoints_row.enc_ok hs2) (get_mid hd1 hi1) rfl (S.tm rfl) (S.tm rfl)
     refine lv S (hr3 _) rfl ?_;clear S;intro a S
     clear hr3
     refine lv S (rn_ldA Tryz.isAgg61 Tryz.sizeOf61 (off := o1) (o := 0) (part := (Gpoints_row.enc y1)) rfl rfl (S.tm rfl) (hm2.at S.emb)) rfl ?_;clear S;intro a S
     refine l_alloc S Tryz.zeroValue61 (cs := [sV k_empty, sV k_empty, sV k_empty, iV 0, bV false, iV 0, iV 0]) rfl rfl ?_;clear S;intro a w8 b4 hz4 hk5 S
     refine l_store S (S.tm rfl) (S.tm rfl) (i := 0) (off := 0) rfl Tryz.sizeOf61 (vs := (Gpoints_row.enc y1)) rfl rfl rfl rfl ?_;clear S;intro w9 hk6 S
     refine Ld (Tn (Fs (Fs (Fg (lv S (rn_fld fa_61_0 (S.tm rfl)) rfl ?_)))));clear S;intro a S
     refine lv S (rn_fld fa_54_4 (S.tm rfl)) rfl ?_;clear S;intro a S
     refine lv S (rn_load Tryz.isAgg4 (S.tm rfl) (S.cell (i := 0) rfl rfl)) rfl ?_;clear S;intro a S
     refine Ld (Tn (f_cond (S.tm rfl) (fun hb2 => ?_) (fun hb2 => ?_)))
     ·replace h := iteT h hb2
      refine wp_exit (then_x (x_same (Tn ?_)))
      exact ⟨x1, h, S.nf [false, true] rfl (subR rfl)⟩
     ·replace h := iteF h hb2
      refine wp_skip (Tn (Fs (Fg (lv S (Rm (S.tm rfl)) rfl ?_))));clear S;intro a S
      refine lv S (rn_fld fa_61_0 (S.tm rfl)) rfl ?_;clear S;intro a S
      refine lv S (rn_fld fa_54_1 (S.tm rfl)) rfl ?_;clear S;intro a S
      refine lv S (rn_load Tryz.isAgg9 (S.tm rfl) (S.cell (i := 0) rfl rfl)) rfl ?_;clear S;intro a S
      refine lv S (rn_lookup2 (kv := Value.string) (vv := (fun x => Value.agg (GFraction.enc x).toArray)) (m := x1) (key := y1.x_.Who) (z := (GFraction.mk 0 0)) (S.map_at (i := 1) rfl) Tryz.underlying63 (keyT_str Tryz.underlying9) Tryz.zeroValue36 (S.tm rfl) (S.tm rfl)) rfl ?_;clear S;intro a S
      refine lv S (Rm (S.tm rfl)) rfl ?_;clear S;intro a S
      refine lv S (rn_extract (S.tm rfl) rfl) rfl ?_;clear S;intro a S
      refine lv S (rn_extract (S.tm rfl) rfl) rfl ?_;clear S;intro a S
      refine l_alloc S Tryz.zeroValue36 (cs := [iV 0, iV 0]) rfl rfl ?_;clear S;intro a w10 b5 hz5 hk7 S
      refine l_store S (S.tm rfl) (S.tm rfl) (i := 0) (off := 0) rfl Tryz.sizeOf36 (vs := (GFraction.enc (mgetD x1 y1.x_.Who (GFraction.mk 0 0)))) rfl rfl rfl rfl ?_;clear S;intro w11 hk8 S
      refine lv S (Ra (S.tm rfl)) rfl ?_;clear S;intro a S
      refine Ld ?_
      replace S := S.nk [.blk b5 (GFraction.enc (mgetD x1 y1.x_.Who (GFraction.mk 0 0))) 36, .blk b4 (Gpoints_row.enc y1) 61, .map b2 (ments Value.string (fun x => Value.agg (GFraction.enc x).toArray) x1) x1.length] [(7, .map (some b2)), (9, .pointer (some ⟨b4, 0, none⟩)), (10, .pointer (some ⟨b5, 0, none⟩)), (11, bV ((mget x1 y1.x_.Who).isSome)), (21, v2), (22, iV (r2.length : Int)), (23, iV (i1 : Int))] [true, true, true] rfl (subR rfl)
      refine Tn (Fs (Fs (Fg (lv S (Rm (S.tm rfl)) rfl ?_))));clear S;intro a S
      refine lv S (rn_not (S.tm rfl)) rfl ?_;clear S;intro a S
      refine Ld (Tn ?_)
      obtain ⟨j3, hj3, h⟩ := joinE h
      refine f_join (fun a w' => ∃ x3 : Int, ∃ x4 : Int, j3 x3 x4 = some r ∧ Sx w [] φ1 [.blk b5 [iV x3, iV x4] 36, .blk b4 (Gpoints_row.enc y1) 61, .map b2 (ments Value.string (fun x => Value.agg (GFraction.enc x).toArray) x1) x1.length] [(7, .map (some b2)), (9, .pointer (some ⟨b4, 0, none⟩)), (10, .pointer (some ⟨b5, 0, none⟩)), (21, v2), (22, iV (r2.length : Int)), (23, iV (i1 : Int))] 52 a w') ?_ ?_
      ·refine f_cond (S.tm rfl) (fun hb3 => ?_) (fun hb3 => ?_)
       ·replace h := iteT h hb3
        refine Fg (l_enter S (fun _ => run_call (vs := []) trivial Tryz.call33) (points_none_ok _ _ rfl) rfl ?_);clear S;intro v3 a w13 hv3 hk9 hn3 S
        subst hv3
        refine l_store S (S.tm rfl) (S.tm rfl) (i := 0) (off := 0) rfl Tryz.sizeOf36 (vs := (GFraction.enc points_none)) rfl rfl rfl rfl ?_;clear S;intro w14 hk10 S
        refine Ld (Tn ?_)
        exact ⟨points_none.Num, points_none.Den, h, S.nf [true, true, true] rfl (subR rfl)⟩
       ·replace h := iteF h hb3
        refine wp_skip (Tn ?_)
        exact ⟨(mgetD x1 y1.x_.Who (GFraction.mk 0 0)).Num, (mgetD x1 y1.x_.Who (GFraction.mk 0 0)).Den, h, S.nf [true, true, true] rfl (subR rfl)⟩
      clear S h;rintro a w12 ⟨x3, x4, h, S⟩;rw [hj3] at h;clear hj3 j3
      refine Tn ?_
      obtain ⟨r3, hr4, h⟩ := bindE h
      refine d_region [] ([b2]) Tryz.mixed S rfl (by kernel_rfl) ?_;clear S;intro w17 hk13 hsel S
      refine d_quiet 0 S hsel rfl rfl rfl (by kernel_rfl) (by kernel_rfl) rfl (fun _ hw => (Rm (S.tm rfl))) ?_;clear S;intro a S
      refine d_quiet 1 S hsel rfl rfl rfl (by kernel_rfl) (by kernel_rfl) rfl (fun _ hw => (rn_fld fa_61_0 (S.tm rfl))) ?_;clear S;intro a S
      refine d_quiet 2 S hsel rfl rfl rfl (by kernel_rfl) (by kernel_rfl) rfl (fun _ hw => (rn_fld fa_54_1 (S.tm rfl))) ?_;clear S;intro a S
      refine d_quiet 3 S hsel rfl rfl rfl (by kernel_rfl) (by kernel_rfl) rfl (fun _ hw => (rn_ld Tryz.isAgg9 (off := 0) (o := 1) (S.tm rfl) ((S.blk_mem (i := 1) (cells := (Gpoints_row.enc y1)) (b := b4) (T := 61) rfl (ne_fp (i := 2) (j := 1) (e := .map b2 (ments Value.string (fun x => Value.agg (GFraction.enc x).toArray) x1) x1.length) (e' := .blk b4 (Gpoints_row.enc y1) 61) S rfl rfl rfl)).kept hw) rfl)) ?_;clear S;intro a S
      refine d_quiet 4 S hsel rfl rfl rfl (by kernel_rfl) (by kernel_rfl) rfl (fun _ hw => (rn_ldA Tryz.isAgg36 Tryz.sizeOf36 (off := 0) (o := 0) (part := [iV x3, iV x4]) rfl rfl (S.tm rfl) ((S.blk_mem (i := 0) (cells := [iV x3, iV x4]) (b := b5) (T := 36) rfl (ne_fp (i := 2) (j := 0) (e := .map b2 (ments Value.string (fun x => Value.agg (GFraction.enc x).toArray) x1) x1.length) (e' := .blk b5 [iV x3, iV x4] 36) S rfl rfl rfl)).kept hw))) ?_;clear S;intro a S
      refine d_quiet 5 S hsel rfl rfl rfl (by kernel_rfl) (by kernel_rfl) rfl (fun _ hw => (rn_fld fa_61_1 (S.tm rfl))) ?_;clear S;intro a S
      refine d_quiet 6 S hsel rfl rfl rfl (by kernel_rfl) (by kernel_rfl) rfl (fun _ hw => (rn_ldA Tryz.isAgg36 Tryz.sizeOf36 (off := 0) (o := 5) (part := (GFraction.enc y1.points_)) rfl rfl (S.tm rfl) ((S.blk_mem (i := 1) (cells := (Gpoints_row.enc y1)) (b := b4) (T := 61) rfl (ne_fp (i := 2) (j := 1) (e := .map b2 (ments Value.string (fun x => Value.agg (GFraction.enc x).toArray) x1) x1.length) (e' := .blk b4 (Gpoints_row.enc y1) 61) S rfl rfl rfl)).kept hw))) ?_;clear S;intro a S
      refine d_loud1 7 (by kernel_rfl) rfl (l_enter S (fun _ => run_call (vs := [.agg (GFraction.enc (GFraction.mk x3 x4)).toArray, .agg (GFraction.enc y1.points_).toArray]) ⟨(S.tm rfl), (S.tm rfl), trivial⟩ Tryz.call34) (points_add_ok _ (GFraction.mk x3 x4) y1.points_ _ hr4) rfl ?_);clear S;intro v5 a w18 hv5 hk14 hn5 S
      subst hv5
      refine Ld (d_next (Keep.none hk14) (d_loud1 8 (by kernel_rfl) rfl (l_mapUpdate (kv := Value.string) (vv := (fun x => Value.agg (GFraction.enc x).toArray)) (m := x1) (key := y1.x_.Who) (val := r3) S (i := 2) rfl Tryz.underlying63 (keyT_str Tryz.underlying9) (S.tm rfl) (S.tm rfl) (S.tm rfl) ?_)));clear S;intro w19 hk15 S
      refine Ld (d_next hk15 (d_end (by kernel_rfl) ?_))
      clear hsel
      replace S := S.nk [.map b2 (ments Value.string (fun x => Value.agg (GFraction.enc x).toArray) (mput x1 y1.x_.Who r3)) (mput x1 y1.x_.Who r3).length] [(7, .map (some b2)), (21, v2), (22, iV (r2.length : Int)), (23, iV (i1 : Int))] [false, false, true] rfl (subR rfl)
      refine blk_n (Tn ?_)
      exact ⟨(mput x1 y1.x_.Who r3), h, S.nf [true] rfl (subR rfl)⟩
    clear S h;rintro a w7 ⟨x2, h, S⟩;rw [hj2] at h;clear hj2 j2
    refine Tn (Fg (lv S (rn_add (S.tm rfl) rfl) rfl ?_));clear S;intro a S
    refine lv S (Rm (S.tm rfl)) rfl ?_;clear S;intro a S
    refine Ld (Tn ?_)
    exact ⟨ys1, ⟨i1 + 1, x2, ⟨_, (hd1).trans (List.append_cons _ _ _), by simp [hi1]⟩, h, S.nf [true] rfl ⟨rfl, rfl, rfl, (congrArg (fun z => some (Value.int .i64 z)) (rng_next hd1 hi1 (slc_max (ownV_slcT Gpoints_row.enc_ok hs2)))), trivial⟩⟩, Nat.lt_succ_self _⟩
  clear S h;rintro a w6 ⟨x1, h, S⟩;rw [hj1] at h;clear hj1 j1
  refine Tn (Fs (Fg (lv S (Rm (S.tm rfl)) rfl ?_)));clear S;intro a S
  obtain ⟨r4, hr5, h⟩ := bindE h
  have hz6 := S.keep.size
  refine l_enter S (fun _ => run_call (vs := [.map (some b2)]) ⟨(S.tm rfl), trivial⟩ Tryz.call31) (points_sums_ok _ b2 x1 (S.map_view (i := 0) rfl (ne_nil (e' := .map b2 (ments Value.string (fun x => Value.agg (GFraction.enc x).toArray) x1) x1.length))) _ hr5) rfl ?_;clear S;intro v6 a w20 hv6 hk16 hn6 S
  obtain ⟨φ2, hl2, hm3, S⟩ := S.see' hn6 hz6
  have hs3 := hv6.mono hm3
  refine lv S (Ra (S.tm rfl)) rfl ?_;clear S;intro a S
  refine lv S (Ra rfl) rfl ?_;clear S;intro a S
  refine Ld (Tn (wp_ret ?_))
  obtain rfl := Option.some.inj h
  exact f_ret2 S Tryz.results8 rfl rfl ⟨_, rfl, ((hs3).mono S.le_newer)⟩
theorem points_All_ok (w : World) (Aa : GTable) (Ar : R27) (At : rel_27 (view w []) Aa Ar) (O : Value) (Ab : List GScored) (Ad : Slc (view w []) 5 O (Ab.map GScored.enc)) (r : GFraction × Int) (h : points_All Aa Ab = some r) :
    Calls Tryz.prog 9 [.agg (R27.enc Ar).toArray, O].toArray w (Ret w [] fun _ v _ => v = .tuple #[.agg (GFraction.enc r.1).toArray, iV r.2]) := by
 obtain ⟨u1, rfl, hs1⟩ := At
 refine f_enter [] [] Tryz.func9 rfl Tryz.ntmps9 rfl (by simp) (by simp [fps]) (by simp [fps]) fun a S => ?_
 unfold points_All at h
 replace S := S.nk [] [(0, .agg #[u1.val, iV Aa.Relay, iV Aa.Most]), (1, O)] [] rfl (subR rfl)
 refine Fs (Fg (l_box S (S.tm rfl) (cs := [u1.val, iV Aa.Relay, iV Aa.Most]) rfl rfl ?_));clear S;intro a w1 b1 hz1 hk1 S
 refine l_alloc S Tryz.zeroValue36 (cs := [iV 0, iV 0]) rfl rfl ?_;clear S;intro a w2 b2 hz2 hk2 S
 refine lv S (Ra rfl) rfl ?_;clear S;intro a S
 refine Ld (Tn (Fs (Fs (Fg (lv S (rn_ldA Tryz.isAgg27 Tryz.sizeOf27 (off := 0) (o := 0) (part := [u1.val, iV Aa.Relay, iV Aa.Most]) rfl rfl (S.tm rfl) (S.cellsAt (i := 1) rfl)) rfl ?_)))));clear S;intro a S
 refine lv S (Rm (S.tm rfl)) rfl ?_;clear S;intro a S
 obtain ⟨r1, hr1, h⟩ := bindE h
 refine l_enter S (fun _ => run_call (vs := [.agg (R27.enc (R27.mk u1 Aa.Relay Aa.Most)).toArray, O]) ⟨(S.tm rfl), (S.tm rfl), trivial⟩ Tryz.call29) (points_checkBoth_ok _ Aa (R27.mk u1 Aa.Relay Aa.Most) ⟨u1, rfl, (hs1.mono (S.le_arg nil_sub))⟩ O Ab (Ad.mono (S.le_arg nil_sub)) _ hr1) rfl ?_;clear S;intro v1 a w3 hv1 hk3 hn1 S
 subst hv1
 refine lv S (Ra (S.tm rfl)) rfl ?_;clear S;intro a S
 refine Ld (Tn (Fs (Fg (lv S (Rm (S.tm rfl)) rfl ?_))));clear S;intro a S
 refine lv S (rn_neq (S.tm rfl) rfl) rfl ?_;clear S;intro a S
 refine Ld (Tn (f_cond (S.tm rfl) (fun hb1 => ?_) (fun hb1 => ?_)))
 ·replace h := iteT h hb1
  refine Fs (Fg (lv S (rn_bld bt_36 (pv := []) trivial (cs := [iV 0, iV 0]) (by kernel_rfl)) rfl ?_));clear S;intro a S
  refine lv S (Rm (S.tm rfl)) rfl ?_;clear S;intro a S
  refine l_store S (S.tm rfl) (S.tm rfl) (i := 0) (off := 0) rfl Tryz.sizeOf36 (vs := [iV 0, iV 0]) rfl rfl rfl rfl ?_;clear S;intro w4 hk4 S
  refine lv S (Ra (S.tm rfl)) rfl ?_;clear S;intro a S
  refine Ld (Tn (wp_ret (then_r ?_)))
  obtain rfl := Option.some.inj h
  exact f_retG S (rs := [.cell 4 36, .tmp 5]) (vs := [.agg #[iV 0, iV 0], iV r1]) Tryz.results9 ⟨(res_cell (off := 0) S rfl Tryz.isAgg36 Tryz.sizeOf36 rfl (S.cellsAt (i := 0) rfl)), (res_tmp S rfl), trivial⟩ rfl rfl
 ·replace h := iteF h hb1
  refine wp_skip (Tn (Fs (Fg (l_enter S (fun _ => run_call (vs := []) trivial Tryz.call33) (points_none_ok _ _ rfl) rfl ?_))));clear S;intro v2 a w5 hv2 hk5 hn2 S
  subst hv2
  refine l_alloc S Tryz.zeroValue36 (cs := [iV 0, iV 0]) rfl rfl ?_;clear S;intro a w6 b3 hz3 hk6 S
  refine l_store S (S.tm rfl) (S.tm rfl) (i := 0) (off := 0) rfl Tryz.sizeOf36 (vs := (GFraction.enc points_none)) rfl rfl rfl rfl ?_;clear S;intro w7 hk7 S
  refine Ld (Tn (Fs (Fs (Fg (lv S (rn_ldA Tryz.isAgg27 Tryz.sizeOf27 (off := 0) (o := 0) (part := [u1.val, iV Aa.Relay, iV Aa.Most]) rfl rfl (S.tm rfl) (S.cellsAt (i := 2) rfl)) rfl ?_)))));clear S;intro a S
  refine lv S (Rm (S.tm rfl)) rfl ?_;clear S;intro a S
  obtain ⟨r2, hr2, h⟩ := bindE h
  have hz4 := S.keep.size
  refine l_enter S (fun _ => run_call (vs := [.agg (R27.enc (R27.mk u1 Aa.Relay Aa.Most)).toArray, O]) ⟨(S.tm rfl), (S.tm rfl), trivial⟩ Tryz.call30) (points_rows_ok _ Aa (R27.mk u1 Aa.Relay Aa.Most) ⟨u1, rfl, (hs1.mono (S.le_arg nil_sub))⟩ O Ab (Ad.mono (S.le_arg nil_sub)) _ hr2) rfl ?_;clear S;intro v3 a w8 hv3 hk8 hn3 S
  obtain ⟨φ1, hl1, hm1, S⟩ := S.see' hn3 hz4
  have hs2 := hv3.mono hm1
  refine lv S (rn_lenT sl_58 (S.tm rfl) (slc_len (ownV_slcT Gpoints_row.enc_ok hs2))) rfl ?_;clear S;intro a S
  refine lv S (Rm rfl) rfl ?_;clear S;intro a S
  refine Ld ?_
  replace S := S.nk [.blk b3 (GFraction.enc points_none) 36, .blk b2 [iV 0, iV 0] 36] [(4, .pointer (some ⟨b2, 0, none⟩)), (7, .pointer (some ⟨b3, 0, none⟩)), (20, v3), (21, iV (r2.length : Int)), (22, iV 0)] [true, true, false] rfl (subR rfl)
  refine Tn ?_
  obtain ⟨j1, hj1, h⟩ := joinE h
  refine f_join (fun a w' => ∃ x1 : Int, ∃ x2 : Int, j1 x1 x2 = some r ∧ Sx w [] φ1 [.blk b3 [iV x1, iV x2] 36, .blk b2 [iV 0, iV 0] 36] [(4, .pointer (some ⟨b2, 0, none⟩)), (7, .pointer (some ⟨b3, 0, none⟩))] 32 a w') ?_ ?_
  ·refine wp_block (f_loop (fun (ys1 : List Gpoints_row) a w' => ∃ i1 : Nat, ∃ x1 : Int, ∃ x2 : Int, (∃ dn, r2 = dn ++ ys1 ∧ dn.length = i1) ∧ points_All_l1 j1 ys1 i1 x1 x2 = some r ∧ Sx w [] φ1 [.blk b3 [iV x1, iV x2] 36, .blk b2 [iV 0, iV 0] 36] [(4, .pointer (some ⟨b2, 0, none⟩)), (7, .pointer (some ⟨b3, 0, none⟩)), (20, v3), (21, iV (r2.length : Int)), (22, iV (i1 : Int))] 32 a w') List.length r2 ⟨0, points_none.Num, points_none.Den, ⟨[], rfl, rfl⟩, h, S.nf [true, true] rfl (subR rfl)⟩ ?_)
   clear S h;rintro ys1 a w9 ⟨i1, x1, x2, ⟨dn, hd1, hi1⟩, h, S⟩
   cases ys1 with
   | nil =>
    rw [points_All_l1.eq_1] at h
    refine Fs (Fg (lv S (rn_lss (S.tm rfl) (S.tm rfl)) rfl ?_));clear S;intro a S
    refine Ld ?_
    replace S := S.nk [.blk b3 [iV x1, iV x2] 36, .blk b2 [iV 0, iV 0] 36] [(4, .pointer (some ⟨b2, 0, none⟩)), (7, .pointer (some ⟨b3, 0, none⟩)), (20, v3), (21, iV (r2.length : Int)), (22, iV (i1 : Int)), (23, bV (decide ((i1 : Int) < (r2.length : Int))))] [true, true] rfl (subR rfl)
    refine Tn (Fs (wp_cond_false ((S.tm rfl).trans (congrArg Value.bool (rng_nil hd1 hi1))) (wp_exit (then_x (then_x (x_same ?_))))))
    refine Tn ?_
    exact ⟨x1, x2, h, S.nf [true, true] rfl (subR rfl)⟩
   | cons y1 ys1 =>
    rw [points_All_l1.eq_2] at h
    refine Fs (Fg (lv S (rn_lss (S.tm rfl) (S.tm rfl)) rfl ?_));clear S;intro a S
    refine Ld ?_
    replace S := S.nk [.blk b3 [iV x1, iV x2] 36, .blk b2 [iV 0, iV 0] 36] [(4, .pointer (some ⟨b2, 0, none⟩)), (7, .pointer (some ⟨b3, 0, none⟩)), (20, v3), (21, iV (r2.length : Int)), (22, iV (i1 : Int)), (23, bV (decide ((i1 : Int) < (r2.length : Int))))] [true, true] rfl (subR rfl)
    refine Tn (Fs (wp_cond_true ((S.tm rfl).trans (congrArg Value.bool (rng_cons hd1 hi1))) (wp_skip (Tn (Fs (wp_block ?_))))))
    refine Fs (Fg ?_)
    obtain ⟨b4, o1, hm2, hr3⟩ := rn_indexT (a := a) (x := .tmp 20) (y := .tmp 22) (ty := 0) sl_58 (ownV_slcT Gpoints_row.enc_ok hs2) (get_mid hd1 hi1) rfl (S.tm rfl) (S.tm rfl)
    refine lv S (hr3 _) rfl ?_;clear S;intro a S
    clear hr3
    refine lv S (rn_ldA Tryz.isAgg61 Tryz.sizeOf61 (off := o1) (o := 0) (part := (Gpoints_row.enc y1)) rfl rfl (S.tm rfl) (hm2.at S.emb)) rfl ?_;clear S;intro a S
    refine l_alloc S Tryz.zeroValue61 (cs := [sV k_empty, sV k_empty, sV k_empty, iV 0, bV false, iV 0, iV 0]) rfl rfl ?_;clear S;intro a w11 b5 hz5 hk9 S
    refine l_store S (S.tm rfl) (S.tm rfl) (i := 0) (off := 0) rfl Tryz.sizeOf61 (vs := (Gpoints_row.enc y1)) rfl rfl rfl rfl ?_;clear S;intro w12 hk10 S
    refine Ld (Tn (Fg (lv S (rn_ldA Tryz.isAgg36 Tryz.sizeOf36 (off := 0) (o := 0) (part := [iV x1, iV x2]) rfl rfl (S.tm rfl) (S.cellsAt (i := 1) rfl)) rfl ?_)));clear S;intro a S
    refine lv S (rn_fld fa_61_1 (S.tm rfl)) rfl ?_;clear S;intro a S
    refine lv S (rn_ldA Tryz.isAgg36 Tryz.sizeOf36 (off := 0) (o := 5) (part := (GFraction.enc y1.points_)) rfl rfl (S.tm rfl) (S.cellsAt (i := 0) rfl)) rfl ?_;clear S;intro a S
    obtain ⟨r3, hr4, h⟩ := bindE h
    refine l_enter S (fun _ => run_call (vs := [.agg (GFraction.enc (GFraction.mk x1 x2)).toArray, .agg (GFraction.enc y1.points_).toArray]) ⟨(S.tm rfl), (S.tm rfl), trivial⟩ Tryz.call34) (points_add_ok _ (GFraction.mk x1 x2) y1.points_ _ hr4) rfl ?_;clear S;intro v4 a w13 hv4 hk11 hn4 S
    subst hv4
    refine l_store S (S.tm rfl) (S.tm rfl) (i := 1) (off := 0) rfl Tryz.sizeOf36 (vs := (GFraction.enc r3)) rfl rfl rfl rfl ?_;clear S;intro w14 hk12 S
    refine Ld (blk_n (Tn (Fg (lv S (rn_add (S.tm rfl) rfl) rfl ?_))));clear S;intro a S
    refine lv S (Rm (S.tm rfl)) rfl ?_;clear S;intro a S
    refine Ld (Tn ?_)
    exact ⟨ys1, ⟨i1 + 1, r3.Num, r3.Den, ⟨_, (hd1).trans (List.append_cons _ _ _), by simp [hi1]⟩, h, S.nf [false, true, true] rfl ⟨rfl, rfl, rfl, rfl, (congrArg (fun z => some (Value.int .i64 z)) (rng_next hd1 hi1 (slc_max (ownV_slcT Gpoints_row.enc_ok hs2)))), trivial⟩⟩, Nat.lt_succ_self _⟩
  clear S h;rintro a w10 ⟨x1, x2, h, S⟩;rw [hj1] at h;clear hj1 j1
  refine Tn (Fs (Fg (lv S (rn_ldA Tryz.isAgg36 Tryz.sizeOf36 (off := 0) (o := 0) (part := [iV x1, iV x2]) rfl rfl (S.tm rfl) (S.cellsAt (i := 0) rfl)) rfl ?_)));clear S;intro a S
  refine l_store S (S.tm rfl) (S.tm rfl) (i := 1) (off := 0) rfl Tryz.sizeOf36 (vs := [iV x1, iV x2]) rfl rfl rfl rfl ?_;clear S;intro w15 hk13 S
  refine lv S (Ra rfl) rfl ?_;clear S;intro a S
  refine Ld (Tn (wp_ret ?_))
  obtain rfl := Option.some.inj h
  exact f_retG S (rs := [.cell 4 36, .tmp 5]) (vs := [.agg #[iV x1, iV x2], iV 0]) Tryz.results9 ⟨(res_cell (off := 0) S rfl Tryz.isAgg36 Tryz.sizeOf36 rfl (S.cellsAt (i := 1) rfl)), (res_tmp S rfl), trivial⟩ rfl rfl
theorem tumbref2_in_ok (w : World) (Bb : Int) (Az : Int) (Au : Int) (r : Bool) (h : tumbref2_in Bb Az Au = r) :
    Calls Tryz.prog 35 [iV Bb, iV Az, iV Au].toArray w (Ret w [] fun _ v _ => v = bV r) := by
 refine f_enter [] [] Tryz.func35 rfl Tryz.ntmps35 rfl (by simp) (by simp [fps]) (by simp [fps]) fun a S => ?_
 unfold tumbref2_in at h
 replace S := S.nk [] [(0, iV Bb), (1, iV Az), (2, iV Au)] [] rfl (subR rfl)
 refine Fs (Fg (lv S (Ra rfl) rfl ?_));clear S;intro a S
 refine Ld (Tn (Fs (Fg (lv S (Rm (S.tm rfl)) rfl ?_))));clear S;intro a S
 refine lv S (Rm (S.tm rfl)) rfl ?_;clear S;intro a S
 refine lv S (rn_leq (S.tm rfl) (S.tm rfl)) rfl ?_;clear S;intro a S
 refine lv S (Rm (S.tm rfl)) rfl ?_;clear S;intro a S
 refine f_cutm 4 (fun a w' => Keep [] w w' ∧ Sx w [] nov [] [(14, bV ((decide (Az ≤ Bb)) && (decide (Bb ≤ Au))))] 15 a w') ?_ ?_
 ·rcases Bool.eq_false_or_eq_true (decide (Az ≤ Bb)) with hb1 | hb1
  ·refine l_want S rfl rfl rfl hb1 (lv S (Rm (S.tm rfl)) rfl ?_);clear S;intro a S
   refine l_want S rfl rfl rfl hb1 (lv S (Rm (S.tm rfl)) rfl ?_);clear S;intro a S
   refine l_want S rfl rfl rfl hb1 (lv S (rn_leq (S.tm rfl) (S.tm rfl)) rfl ?_);clear S;intro a S
   refine lv S (rn_and_t hb1 (S.tm rfl) (S.tm rfl)) rfl ?_;clear S;intro a S
   refine Ld (Tn ?_)
   exact ⟨Keep.refl _ _, S.nf [] rfl ⟨rfl, trivial⟩⟩
  ·iterate 3 (refine l_skip S rfl rfl rfl (neq_f hb1) rfl ?_ rfl;clear S;intro a S)
   refine lv S (rn_and_f (decide (Bb ≤ Au)) hb1 (S.tm rfl) rfl) rfl ?_;clear S;intro a S
   refine Ld (Tn ?_)
   exact ⟨Keep.refl _ _, S.nf [] rfl ⟨rfl, trivial⟩⟩
 clear S;rintro a w1 ⟨hk1, S⟩
 refine lv S (Ra (S.tm rfl)) rfl ?_;clear S;intro a S
 refine Ld (Tn (wp_ret ?_))
 subst h
 exact f_ret S Tryz.results35 rfl rfl
theorem tumbref2_TableFault_ok (w : World) (Aa : GTable) (Ar : R27) (At : rel_27 (view w []) Aa Ar) (r : Int) (h : tumbref2_TableFault Aa = some r) :
    Calls Tryz.prog 11 [.agg (R27.enc Ar).toArray].toArray w (Ret w [] fun _ v _ => v = iV r) := by
 obtain ⟨u1, rfl, hs1⟩ := At
 refine f_enter [] [] Tryz.func11 rfl Tryz.ntmps11 rfl (by simp) (by simp [fps]) (by simp [fps]) fun a S => ?_
 unfold tumbref2_TableFault at h
 replace S := S.nk [] [(0, .agg #[u1.val, iV Aa.Relay, iV Aa.Most])] [] rfl ⟨rfl, trivial⟩
 refine Fs (Fg (l_box S (S.tm rfl) (cs := [u1.val, iV Aa.Relay, iV Aa.Most]) rfl rfl ?_));clear S;intro a w1 b1 hz1 hk1 S
 refine lv S (Ra rfl) rfl ?_;clear S;intro a S
 refine Ld (Tn (Fs (Fs (Fg (lv S (rn_fld fa_27_0 (S.tm rfl)) rfl ?_)))));clear S;intro a S
 refine lv S (rn_load Tryz.isAgg22 (S.tm rfl) (S.cell (i := 0) rfl rfl)) rfl ?_;clear S;intro a S
 refine lv S (rn_lenT sl_22 (S.tm rfl) (slc_len hs1)) rfl ?_;clear S;intro a S
 refine lv S (rn_gtr (S.tm rfl) rfl) rfl ?_;clear S;intro a S
 refine Ld (Tn (f_cond (S.tm rfl) (fun hb1 => ?_) (fun hb1 => ?_)))
 ·replace h := iteT h hb1
  refine Fs (Fg (lv S (Ra rfl) rfl ?_));clear S;intro a S
  refine Ld (Tn (wp_ret (then_r ?_)))
  obtain rfl := Option.some.inj h
  exact f_ret S Tryz.results11 rfl rfl
 ·replace h := iteF h hb1
  refine wp_skip (Tn (Fs (Fs (Fg (lv S (rn_fld fa_27_0 (S.tm rfl)) rfl ?_)))));clear S;intro a S
  refine lv S (rn_load Tryz.isAgg22 (S.tm rfl) (S.cell (i := 0) rfl rfl)) rfl ?_;clear S;intro a S
  refine lv S (rn_lenT sl_22 (S.tm rfl) (slc_len hs1)) rfl ?_;clear S;intro a S
  refine lv S (Rm rfl) rfl ?_;clear S;intro a S
  refine Ld (Tn ?_)
  replace S := S.nk [.blk b1 [u1.val, iV Aa.Relay, iV Aa.Most] 27] [(1, .pointer (some ⟨b1, 0, none⟩)), (10, u1.val), (11, iV (Aa.Points.length : Int)), (12, iV 0)] [true] rfl (subR rfl)
  obtain ⟨j1, hj1, h⟩ := joinE h
  refine f_join (fun a w' => j1 = some r ∧ Sx w [] nov [.blk b1 [u1.val, iV Aa.Relay, iV Aa.Most] 27] [(1, .pointer (some ⟨b1, 0, none⟩))] 43 a w') ?_ ?_
  ·refine wp_block (f_loop (fun (ys1 : List Int) a w' => ∃ i1 : Nat, (∃ dn, Aa.Points = dn ++ ys1 ∧ dn.length = i1) ∧ tumbref2_TableFault_l1 Aa j1 ys1 i1 = some r ∧ Sx w [] nov [.blk b1 [u1.val, iV Aa.Relay, iV Aa.Most] 27] [(1, .pointer (some ⟨b1, 0, none⟩)), (10, u1.val), (11, iV (Aa.Points.length : Int)), (12, iV (i1 : Int))] 43 a w') List.length Aa.Points ⟨0, ⟨[], rfl, rfl⟩, h, S.nf [true] rfl (subR rfl)⟩ ?_)
   clear S h;rintro ys1 a w2 ⟨i1, ⟨dn, hd1, hi1⟩, h, S⟩
   cases ys1 with
   | nil =>
    rw [tumbref2_TableFault_l1.eq_1] at h
    refine Fs (Fg (lv S (rn_lss (S.tm rfl) (S.tm rfl)) rfl ?_));clear S;intro a S
    refine Ld ?_
    replace S := S.nk [.blk b1 [u1.val, iV Aa.Relay, iV Aa.Most] 27] [(1, .pointer (some ⟨b1, 0, none⟩)), (10, u1.val), (11, iV (Aa.Points.length : Int)), (12, iV (i1 : Int)), (13, bV (decide ((i1 : Int) < (Aa.Points.length : Int))))] [true] rfl (subR rfl)
    refine Tn (Fs (wp_cond_false ((S.tm rfl).trans (congrArg Value.bool (rng_nil hd1 hi1))) (wp_exit (then_x (then_x (x_same ?_))))))
    refine Tn ?_
    exact ⟨h, S.nf [true] rfl ⟨rfl, trivial⟩⟩
   | cons y1 ys1 =>
    rw [tumbref2_TableFault_l1.eq_2] at h
    refine Fs (Fg (lv S (rn_lss (S.tm rfl) (S.tm rfl)) rfl ?_));clear S;intro a S
    refine Ld ?_
    replace S := S.nk [.blk b1 [u1.val, iV Aa.Relay, iV Aa.Most] 27] [(1, .pointer (some ⟨b1, 0, none⟩)), (10, u1.val), (11, iV (Aa.Points.length : Int)), (12, iV (i1 : Int)), (13, bV (decide ((i1 : Int) < (Aa.Points.length : Int))))] [true] rfl (subR rfl)
    refine Tn (Fs (wp_cond_true ((S.tm rfl).trans (congrArg Value.bool (rng_cons hd1 hi1))) (wp_skip (Tn (Fs (wp_block ?_))))))
    refine Fs (Fg (lv S (Rm (S.tm rfl)) rfl ?_));clear S;intro a S
    obtain ⟨b2, o1, hm1, hr1⟩ := rn_indexT (a := a) (x := .tmp 10) (y := .tmp 12) (ty := 0) sl_22 hs1 (get_mid hd1 hi1) rfl (S.tm rfl) (S.tm rfl)
    refine lv S (hr1 _) rfl ?_;clear S;intro a S
    clear hr1
    refine lv S (rn_ld Tryz.isAgg3 (off := o1) (o := 0) (S.tm rfl) (hm1.at S.emb0) rfl) rfl ?_;clear S;intro a S
    refine lv S (Ra (S.tm rfl)) rfl ?_;clear S;intro a S
    refine lv S (Ra (S.tm rfl)) rfl ?_;clear S;intro a S
    refine Ld (Tn (Fs (Fs (Fg (lv S (Rm (S.tm rfl)) rfl ?_)))));clear S;intro a S
    refine l_enter S (fun _ => run_call (vs := [iV y1, iV 0, iV 10000]) ⟨(S.tm rfl), rfl, rfl, trivial⟩ Tryz.call35) (tumbref2_in_ok _ y1 0 10000 _ rfl) rfl ?_;clear S;intro v1 a w4 hv1 hk2 hn1 S
    subst hv1
    refine lv S (rn_not (S.tm rfl)) rfl ?_;clear S;intro a S
    refine Ld (Tn (f_cond (S.tm rfl) (fun hb2 => ?_) (fun hb2 => ?_)))
    ·replace h := iteT h hb2
     refine Fs (Fg (lv S (Ra rfl) rfl ?_));clear S;intro a S
     refine Ld (Tn (wp_ret (then_r (blk_r (then_r (then_r ?_))))))
     refine blk_r (then_r (then_r ?_))
     obtain rfl := Option.some.inj h
     exact f_ret S Tryz.results11 rfl rfl
    ·replace h := iteF h hb2
     refine wp_skip (Tn (Fs (Fg (lv S (Rm (S.tm rfl)) rfl ?_))));clear S;intro a S
     refine lv S (rn_gtr (S.tm rfl) rfl) rfl ?_;clear S;intro a S
     refine lv S (Rm (S.tm rfl)) rfl ?_;clear S;intro a S
     obtain ⟨j2, hj2, h⟩ := joinE h
     refine f_cutm 9 (fun a w' => ∃ c1, j2 c1 = some r ∧ Keep [] w4 w' ∧ Sx w [] nov [.blk b1 [u1.val, iV Aa.Relay, iV Aa.Most] 27] [(1, .pointer (some ⟨b1, 0, none⟩)), (10, u1.val), (11, iV (Aa.Points.length : Int)), (12, iV (i1 : Int)), (31, bV c1)] 43 a w') ?_ ?_
     ·rcases Bool.eq_false_or_eq_true (decide (0 < (i1 : Int))) with hb3 | hb3
      ·replace h := iteT h hb3
       refine l_want S rfl rfl rfl hb3 (lv S (Rm (S.tm rfl)) rfl ?_);clear S;intro a S
       refine l_want S rfl rfl rfl hb3 (lv S (rn_fld fa_27_0 (S.tm rfl)) rfl ?_);clear S;intro a S
       refine l_want S rfl rfl rfl hb3 (lv S (rn_load Tryz.isAgg22 (S.tm rfl) (S.cell (i := 0) rfl rfl)) rfl ?_);clear S;intro a S
       refine l_want S rfl rfl rfl hb3 (lv S (Rm (S.tm rfl)) rfl ?_);clear S;intro a S
       refine l_want S rfl rfl rfl hb3 (lv S (rn_sub (S.tm rfl) rfl) rfl ?_);clear S;intro a S
       refine l_want S rfl rfl rfl hb3 ?_
       obtain ⟨hc1, h⟩ := chkE h
       obtain ⟨b3, o2, hm2, hr2⟩ := rn_indexT (a := a) (x := .tmp 25) (y := .tmp 27) (ty := 0) sl_22 hs1 (inB_get hc1).1 (inB_get hc1).2 (S.tm rfl) (S.tm rfl)
       refine lv S (hr2 _) rfl ?_;clear S;intro a S
       clear hr2
       refine l_want S rfl rfl rfl hb3 (lv S (rn_ld Tryz.isAgg3 (off := o2) (o := 0) (S.tm rfl) (hm2.at S.emb0) rfl) rfl ?_);clear S;intro a S
       refine l_want S rfl rfl rfl hb3 (lv S (rn_gtr (S.tm rfl) (S.tm rfl)) rfl ?_);clear S;intro a S
       refine lv S (rn_and_t hb3 (S.tm rfl) (S.tm rfl)) rfl ?_;clear S;intro a S
       refine Ld (Tn ?_)
       exact ⟨_, h, Keep.refl _ _, S.nf [true] rfl (subR rfl)⟩
      ·replace h := iteF h hb3
       iterate 8 (refine l_skip S rfl rfl rfl (neq_f hb3) rfl ?_ rfl;clear S;intro a S)
       refine lv S (rn_and_f true hb3 (S.tm rfl) rfl) rfl ?_;clear S;intro a S
       refine Ld (Tn ?_)
       exact ⟨_, h, Keep.refl _ _, S.nf [true] rfl (subR rfl)⟩
     clear S h;rintro a w5 ⟨c1, h, hk3, S⟩;rw [hj2] at h;clear hj2 j2
     refine Ld (Tn (f_cond (S.tm rfl) (fun hb4 => ?_) (fun hb4 => ?_)))
     ·replace h := iteT h hb4
      refine Fs (Fg (lv S (Ra rfl) rfl ?_));clear S;intro a S
      refine Ld (Tn (wp_ret (blk_r (then_r (then_r (blk_r ?_))))))
      refine then_r (then_r ?_)
      obtain rfl := Option.some.inj h
      exact f_ret S Tryz.results11 rfl rfl
     ·replace h := iteF h hb4
      refine wp_skip (blk_n (Tn (Fg (lv S (rn_add (S.tm rfl) rfl) rfl ?_))));clear S;intro a S
      refine lv S (Rm (S.tm rfl)) rfl ?_;clear S;intro a S
      refine Ld (Tn ?_)
      exact ⟨ys1, ⟨i1 + 1, ⟨_, (hd1).trans (List.append_cons _ _ _), by simp [hi1]⟩, h, S.nf [true] rfl ⟨rfl, rfl, rfl, (congrArg (fun z => some (Value.int .i64 z)) (rng_next hd1 hi1 (slc_max hs1))), trivial⟩⟩, Nat.lt_succ_self _⟩
  clear S h;rintro a w3 ⟨h, S⟩;rw [hj1] at h;clear hj1 j1
  refine Tn (Fs (Fs (Fg (lv S (rn_fld fa_27_1 (S.tm rfl)) rfl ?_))));clear S;intro a S
  refine lv S (rn_load Tryz.isAgg3 (S.tm rfl) (S.cell (i := 0) rfl rfl)) rfl ?_;clear S;intro a S
  refine l_enter S (fun _ => run_call (vs := [iV Aa.Relay, iV 1, iV 10]) ⟨(S.tm rfl), rfl, rfl, trivial⟩ Tryz.call35) (tumbref2_in_ok _ Aa.Relay 1 10 _ rfl) rfl ?_;clear S;intro v2 a w6 hv2 hk4 hn2 S
  subst hv2
  refine lv S (rn_not (S.tm rfl)) rfl ?_;clear S;intro a S
  refine lv S (Rm (S.tm rfl)) rfl ?_;clear S;intro a S
  refine f_cutm 5 (fun a w' => Keep [] w6 w' ∧ Sx w [] nov [.blk b1 [u1.val, iV Aa.Relay, iV Aa.Most] 27] [(42, bV ((!(tumbref2_in Aa.Relay 1 10)) || (!(tumbref2_in Aa.Most 0 10))))] 43 a w') ?_ ?_
  ·rcases Bool.eq_false_or_eq_true (!(tumbref2_in Aa.Relay 1 10)) with hb5 | hb5
   ·iterate 4 (refine l_skip S rfl rfl rfl (neq_t hb5) rfl ?_ rfl;clear S;intro a S)
    refine lv S (rn_or_t (!(tumbref2_in Aa.Most 0 10)) hb5 (S.tm rfl) rfl) rfl ?_;clear S;intro a S
    refine Ld (Tn ?_)
    exact ⟨Keep.refl _ _, S.nf [true] rfl ⟨rfl, trivial⟩⟩
   ·refine l_want S rfl rfl rfl hb5 (lv S (rn_fld fa_27_2 (S.tm rfl)) rfl ?_);clear S;intro a S
    refine l_want S rfl rfl rfl hb5 (lv S (rn_load Tryz.isAgg3 (S.tm rfl) (S.cell (i := 0) rfl rfl)) rfl ?_);clear S;intro a S
    refine l_want S rfl rfl rfl hb5 (l_enter S (fun _ => run_call (vs := [iV Aa.Most, iV 0, iV 10]) ⟨(S.tm rfl), rfl, rfl, trivial⟩ Tryz.call35) (tumbref2_in_ok _ Aa.Most 0 10 _ rfl) rfl ?_);clear S;intro v3 a w8 hv3 hk5 hn3 S
    subst hv3
    refine l_want S rfl rfl rfl hb5 (lv S (rn_not (S.tm rfl)) rfl ?_);clear S;intro a S
    refine lv S (rn_or_f hb5 (S.tm rfl) (S.tm rfl)) rfl ?_;clear S;intro a S
    refine Ld (Tn ?_)
    exact ⟨hk5, S.nf [true] rfl ⟨rfl, trivial⟩⟩
  clear S;rintro a w7 ⟨hk6, S⟩
  refine Ld (Tn (f_cond (S.tm rfl) (fun hb6 => ?_) (fun hb6 => ?_)))
  ·replace h := iteT h hb6
   refine Fs (Fg (lv S (Ra rfl) rfl ?_));clear S;intro a S
   refine Ld (Tn (wp_ret (then_r ?_)))
   obtain rfl := Option.some.inj h
   exact f_ret S Tryz.results11 rfl rfl
  ·replace h := iteF h hb6
   refine wp_skip (Tn (Fs (Fg (lv S (Ra rfl) rfl ?_))));clear S;intro a S
   refine Ld (Tn (wp_ret ?_))
   obtain rfl := Option.some.inj h
   exact f_ret S Tryz.results11 rfl rfl
theorem strings_IndexByte_ok (w : World) (s : ByteArray) (c : Int) (r : Int) (h : strings_IndexByte s c = r) : Calls Tryz.prog 82 [.string s, .int .u8 c].toArray w (Ret w [] fun _ v _ => v = .int .i64 r) := by
  subst h
  exact ret_of_same (Any.strings_IndexByte Tryz.lays137 s c w)
theorem tumbref2_only_ok (w : World) (Ak : ByteArray) (Ci : ByteArray) (r : Bool) (h : tumbref2_only Ak Ci = some r) :
    Calls Tryz.prog 61 [sV Ak, sV Ci].toArray w (Ret w [] fun _ v _ => v = bV r) := by
 refine f_enter [] [] Tryz.func61 rfl Tryz.ntmps61 rfl (by simp) (by simp [fps]) (by simp [fps]) fun a S => ?_
 unfold tumbref2_only at h
 replace S := S.nk [] [(0, sV Ak), (1, sV Ci)] [] rfl (subR rfl)
 refine Fs (Fg (lv S (Ra rfl) rfl ?_));clear S;intro a S
 refine Ld (Tn (Fs (Fs (Fg (lv S (Rm (S.tm rfl)) rfl ?_)))));clear S;intro a S
 refine lv S (rn_len_str Tryz.underlying9 (S.tm rfl)) rfl ?_;clear S;intro a S
 refine lv S (Rm rfl) rfl ?_;clear S;intro a S
 refine Ld (Tn ?_)
 replace S := S.nk [] [(0, sV Ak), (1, sV Ci), (7, iV (Ak.size : Int)), (8, iV 0)] [] rfl (subR rfl)
 obtain ⟨j1, hj1, h⟩ := joinE h
 refine f_join (fun a w' => j1 = some r ∧ Sx w [] nov [] [] 18 a w') ?_ ?_
 ·refine wp_block (f_loop (fun (m1 : Nat) a w' => ∃ x1 : Int, tumbref2_only_l1 Ak Ci j1 m1 x1 = some r ∧ Sx w [] nov [] [(0, sV Ak), (1, sV Ci), (7, iV (Ak.size : Int)), (8, iV x1)] 18 a w') id (((Ak.size : Int) - 0).toNat + 2) ⟨0, h, S.nf [] rfl (subR rfl)⟩ ?_)
  clear S h;rintro m1 a w1 ⟨x1, h, S⟩
  cases m1 with
  | zero => rw [tumbref2_only_l1.eq_1] at h;cases h
  | succ m1 =>
   rw [tumbref2_only_l1.eq_2] at h
   refine Fs (Fg (lv S (rn_lss (S.tm rfl) (S.tm rfl)) rfl ?_));clear S;intro a S
   refine Ld (Tn (Fs (f_cond (S.tm rfl) (fun hb1 => ?_) (fun hb1 => ?_))))
   ·replace h := iteT h hb1
    refine wp_skip (Tn (Fs (wp_block (Fs (Fg (lv S (Rm (S.tm rfl)) rfl ?_))))));clear S;intro a S
    refine lv S (Ra (S.tm rfl)) rfl ?_;clear S;intro a S
    refine Ld (Tn (Fs (Fg (lv S (Rm (S.tm rfl)) rfl ?_))));clear S;intro a S
    refine lv S (Rm (S.tm rfl)) rfl ?_;clear S;intro a S
    refine lv S (Rm (S.tm rfl)) rfl ?_;clear S;intro a S
    obtain ⟨hc1, h⟩ := chkE h
    refine lv S (rn_sindexT Tryz.underlying9 (S.tm rfl) (S.tm rfl) hc1) rfl ?_;clear S;intro a S
    refine l_enter S (fun _ => run_call (vs := [sV Ci, .int .u8 (sbyte Ak x1)]) ⟨(S.tm rfl), (S.tm rfl), trivial⟩ Tryz.call82) (strings_IndexByte_ok _ Ci (sbyte Ak x1) _ rfl) rfl ?_;clear S;intro v1 a w3 hv1 hk1 hn1 S
    subst hv1
    refine lv S (rn_lss (S.tm rfl) rfl) rfl ?_;clear S;intro a S
    refine Ld (Tn (f_cond (S.tm rfl) (fun hb2 => ?_) (fun hb2 => ?_)))
    ·replace h := iteT h hb2
     refine Fs (Fg (lv S (Ra rfl) rfl ?_));clear S;intro a S
     refine Ld (Tn (wp_ret (blk_r (then_r (then_r (blk_r ?_))))))
     refine then_r (then_r ?_)
     obtain rfl := Option.some.inj h
     exact f_ret S Tryz.results61 rfl rfl
    ·replace h := iteF h hb2
     refine wp_skip (blk_n (Tn (Fg (lv S (rn_add (S.tm rfl) rfl) rfl ?_))));clear S;intro a S
     refine lv S (Rm (S.tm rfl)) rfl ?_;clear S;intro a S
     refine Ld (Tn ?_)
     exact ⟨m1, ⟨W (x1 + 1), h, S.nf [] rfl ⟨rfl, rfl, rfl, rfl, trivial⟩⟩, Nat.lt_succ_self _⟩
   ·replace h := iteF h hb1
    refine wp_exit (then_x (then_x (x_same (Tn ?_))))
    exact ⟨h, S.nf [] rfl trivial⟩
 clear S h;rintro a w2 ⟨h, S⟩;rw [hj1] at h;clear hj1 j1
 refine Tn (Fs (Fg (lv S (Ra rfl) rfl ?_)));clear S;intro a S
 refine Ld (Tn (wp_ret ?_))
 obtain rfl := Option.some.inj h
 exact f_ret S Tryz.results61 rfl rfl
theorem tumbref2_Key_ok (w : World) (Ak : ByteArray) (r : Bool) (h : tumbref2_Key Ak = some r) :
    Calls Tryz.prog 36 [sV Ak].toArray w (Ret w [] fun _ v _ => v = bV r) := by
 refine f_enter [] [] Tryz.func36 rfl Tryz.ntmps36 rfl (by simp) (by simp [fps]) (by simp [fps]) fun a S => ?_
 unfold tumbref2_Key at h
 replace S := S.nk [] [(0, sV Ak)] [] rfl ⟨rfl, trivial⟩
 refine Fs (Fg (lv S (Ra rfl) rfl ?_));clear S;intro a S
 refine Ld (Tn (Fs (Fg (lv S (Rm (S.tm rfl)) rfl ?_))));clear S;intro a S
 refine lv S (rn_len_str Tryz.underlying9 (S.tm rfl)) rfl ?_;clear S;intro a S
 refine l_enter S (fun _ => run_call (vs := [iV (Ak.size : Int), iV 1, iV 40]) ⟨(S.tm rfl), rfl, rfl, trivial⟩ Tryz.call35) (tumbref2_in_ok _ (Ak.size : Int) 1 40 _ rfl) rfl ?_;clear S;intro v1 a w1 hv1 hk1 hn1 S
 subst hv1
 refine lv S (Rm (S.tm rfl)) rfl ?_;clear S;intro a S
 obtain ⟨j1, hj1, h⟩ := joinE h
 refine f_cutm 4 (fun a w' => ∃ c1, j1 c1 = some r ∧ Keep [] w1 w' ∧ Sx w [] nov [] [(0, sV Ak), (10, bV c1)] 15 a w') ?_ ?_
 ·rcases Bool.eq_false_or_eq_true (tumbref2_in (Ak.size : Int) 1 40) with hb1 | hb1
  ·replace h := iteT h hb1
   refine l_want S rfl rfl rfl hb1 (lv S (Rm (S.tm rfl)) rfl ?_);clear S;intro a S
   refine l_want S rfl rfl rfl hb1 ?_
   obtain ⟨hc1, h⟩ := chkE h
   refine lv S (rn_scutTh Tryz.underlying9 (S.tm rfl) rfl hc1) rfl ?_;clear S;intro a S
   refine l_want S rfl rfl rfl hb1 ?_
   obtain ⟨r1, hr1, h⟩ := bindE h
   refine l_enter S (fun _ => run_call (vs := [sV (scut Ak 0 1), sV k_abcdefghijklmnopqrstuvwxyz]) ⟨(S.tm rfl), rfl, trivial⟩ Tryz.call61) (tumbref2_only_ok _ (scut Ak 0 1) k_abcdefghijklmnopqrstuvwxyz _ hr1) rfl ?_;clear S;intro v2 a w3 hv2 hk2 hn2 S
   subst hv2
   refine lv S (rn_and_t hb1 (S.tm rfl) (S.tm rfl)) rfl ?_;clear S;intro a S
   refine Ld (Tn ?_)
   exact ⟨_, h, hk2, S.nf [] rfl (subR rfl)⟩
  ·replace h := iteF h hb1
   iterate 3 (refine l_skip S rfl rfl rfl (neq_f hb1) rfl ?_ rfl;clear S;intro a S)
   refine lv S (rn_and_f true hb1 (S.tm rfl) rfl) rfl ?_;clear S;intro a S
   refine Ld (Tn ?_)
   exact ⟨_, h, Keep.refl _ _, S.nf [] rfl (subR rfl)⟩
 clear S h;rintro a w2 ⟨c1, h, hk3, S⟩;rw [hj1] at h;clear hj1 j1
 refine lv S (Rm (S.tm rfl)) rfl ?_;clear S;intro a S
 obtain ⟨j2, hj2, h⟩ := joinE h
 refine f_cutm 3 (fun a w' => ∃ c2, j2 c2 = some r ∧ Keep [] w2 w' ∧ Sx w [] nov [] [(14, bV c2)] 15 a w') ?_ ?_
 ·rcases Bool.eq_false_or_eq_true c1 with hb2 | hb2
  ·replace h := iteT h hb2
   refine l_want S rfl rfl rfl hb2 (lv S (Rm (S.tm rfl)) rfl ?_);clear S;intro a S
   refine l_want S rfl rfl rfl hb2 ?_
   obtain ⟨r2, hr2, h⟩ := bindE h
   refine l_enter S (fun _ => run_call (vs := [sV Ak, sV k_abcdefghijkl_h0e2e2c]) ⟨(S.tm rfl), rfl, trivial⟩ Tryz.call61) (tumbref2_only_ok _ Ak k_abcdefghijkl_h0e2e2c _ hr2) rfl ?_;clear S;intro v3 a w5 hv3 hk4 hn3 S
   subst hv3
   refine lv S (rn_and_t hb2 (S.tm rfl) (S.tm rfl)) rfl ?_;clear S;intro a S
   refine Ld (Tn ?_)
   exact ⟨_, h, hk4, S.nf [] rfl ⟨rfl, trivial⟩⟩
  ·replace h := iteF h hb2
   refine l_skip S rfl rfl rfl (neq_f hb2) rfl ?_ rfl;clear S;intro a S
   refine l_skip S rfl rfl rfl (neq_f hb2) rfl ?_ rfl;clear S;intro a S
   refine lv S (rn_and_f true hb2 (S.tm rfl) rfl) rfl ?_;clear S;intro a S
   refine Ld (Tn ?_)
   exact ⟨_, h, Keep.refl _ _, S.nf [] rfl ⟨rfl, trivial⟩⟩
 clear S h;rintro a w4 ⟨c2, h, hk5, S⟩;rw [hj2] at h;clear hj2 j2
 refine lv S (Ra (S.tm rfl)) rfl ?_;clear S;intro a S
 refine Ld (Tn (wp_ret ?_))
 obtain rfl := Option.some.inj h
 exact f_ret S Tryz.results36 rfl rfl
end Go.Proofs.YtmdjmbbmlohnlaaGreatDoor
