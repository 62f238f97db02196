/- Each Go function computes its plain twin, by program. -/
import Derived.Test.YtcnneeipmadakaaGreatDoorWk1
namespace Go.Proofs.YtcnneeipmadakaaGreatDoor
open Go
set_option maxRecDepth 20000 in
theorem points_checkAll_ok (w : World) (V : Value) (Z : List GScored) (Af : Slc (view w []) 5 V (Z.map GScored.enc)) (r : Int) (h : points_checkAll Z = some r) :
    Calls Tryz.prog 48 [V].toArray w (Ret w [] fun _ v _ => v = iV r) := by
 refine f_enter [] [] Tryz.func48 rfl Tryz.ntmps48 rfl (by simp) (by simp [fps]) (by simp [fps]) fun a S => ?_
 unfold points_checkAll at h
 replace S := S.nk [] [(0, V)] [] rfl ⟨rfl, trivial⟩
 refine Fs (Fg (lv S (Ra rfl) rfl ?_));clear S;intro a S
 refine Ld (Tn (Fs (Fg (l_makeMap (κ := Gpoints_entry) (ν := Bool) S rfl (fun x => Value.agg (Gpoints_entry.enc x).toArray) Value.bool ?_))));clear S;intro a w1 b1 hz1 hk1 S
 refine lv S (Ra (S.tm rfl)) rfl ?_;clear S;intro a S
 refine Ld (Tn (Fs (Fs (Fg (lv S (Rm (S.tm rfl)) rfl ?_)))));clear S;intro a S
 refine lv S (rn_lenT sl_26 (S.tm rfl) (slc_len Af)) rfl ?_;clear S;intro a S
 refine lv S (Rm rfl) rfl ?_;clear S;intro a S
 refine Ld (Tn ?_)
 replace S := S.nk [.map b1 (ments (fun x => Value.agg (Gpoints_entry.enc x).toArray) Value.bool ([] : List (Gpoints_entry × Bool))) ([] : List (Gpoints_entry × Bool)).length] [(0, V), (3, .map (some b1)), (17, V), (18, iV (Z.length : Int)), (19, iV 0)] [true] rfl (subR rfl)
 obtain ⟨j1, hj1, h⟩ := joinE h
 refine f_join (fun a w' => ∃ x1 : List (Gpoints_entry × Bool), j1 x1 = some r ∧ Sx w [] nov [.map b1 (ments (fun x => Value.agg (Gpoints_entry.enc x).toArray) Value.bool x1) x1.length] [(0, V)] 122 a w') ?_ ?_
 ·refine wp_block (f_loop (fun (ys1 : List GScored) a w' => ∃ i1 : Nat, ∃ x1 : List (Gpoints_entry × Bool), (∃ dn, Z = dn ++ ys1 ∧ dn.length = i1) ∧ points_checkAll_l1 j1 ys1 i1 x1 = some r ∧ Sx w [] nov [.map b1 (ments (fun x => Value.agg (Gpoints_entry.enc x).toArray) Value.bool x1) x1.length] [(0, V), (3, .map (some b1)), (17, V), (18, iV (Z.length : Int)), (19, iV (i1 : Int))] 122 a w') List.length Z ⟨0, ([] : List (Gpoints_entry × Bool)), ⟨[], rfl, rfl⟩, h, S.nf [true] rfl (subR rfl)⟩ ?_)
  clear S h;rintro ys1 a w2 ⟨i1, x1, ⟨dn, hd1, hi1⟩, h, S⟩
  cases ys1 with
  | nil =>
   rw [points_checkAll_l1.eq_1] at h
   refine Fs (Fg (lv S (rn_lss (S.tm rfl) (S.tm rfl)) rfl ?_));clear S;intro a S
   refine Ld ?_
   replace S := S.nk [.map b1 (ments (fun x => Value.agg (Gpoints_entry.enc x).toArray) Value.bool x1) x1.length] [(0, V), (3, .map (some b1)), (17, V), (18, iV (Z.length : Int)), (19, iV (i1 : Int)), (20, bV (decide ((i1 : Int) < (Z.length : Int))))] [true] rfl (subR rfl)
   refine Tn (Fs (wp_cond_false ((S.tm rfl).trans (congrArg Value.bool (rng_nil hd1 hi1))) (wp_exit (then_x (then_x (x_same ?_))))))
   refine Tn ?_
   exact ⟨x1, h, S.nf [true] rfl ⟨rfl, trivial⟩⟩
  | cons y1 ys1 =>
   rw [points_checkAll_l1.eq_2] at h
   refine Fs (Fg (lv S (rn_lss (S.tm rfl) (S.tm rfl)) rfl ?_));clear S;intro a S
   refine Ld ?_
   replace S := S.nk [.map b1 (ments (fun x => Value.agg (Gpoints_entry.enc x).toArray) Value.bool x1) x1.length] [(0, V), (3, .map (some b1)), (17, V), (18, iV (Z.length : Int)), (19, iV (i1 : Int)), (20, bV (decide ((i1 : Int) < (Z.length : Int))))] [true] rfl (subR rfl)
   refine Tn (Fs (wp_cond_true ((S.tm rfl).trans (congrArg Value.bool (rng_cons hd1 hi1))) (wp_skip (Tn (Fs (wp_block ?_))))))
   refine Fs (Fg ?_)
   obtain ⟨b2, o1, hm1, hr1⟩ := rn_indexT (a := a) (x := .tmp 17) (y := .tmp 19) (ty := 0) sl_26 Af (get_mid hd1 hi1) rfl (S.tm rfl) (S.tm rfl)
   refine lv S (hr1 _) rfl ?_;clear S;intro a S
   clear hr1
   refine lv S (rn_ldA Tryz.isAgg38 Tryz.sizeOf38 (off := o1) (o := 0) (part := (GScored.enc y1)) rfl rfl (S.tm rfl) (hm1.at S.emb0)) rfl ?_;clear S;intro a S
   refine l_alloc S Tryz.zeroValue38 (cs := [sV k_empty, sV k_empty, sV k_empty, iV 0, bV false]) rfl rfl ?_;clear S;intro a w4 b3 hz2 hk2 S
   refine l_store S (S.tm rfl) (S.tm rfl) (i := 0) (off := 0) rfl Tryz.sizeOf38 (vs := (GScored.enc y1)) rfl rfl rfl rfl ?_;clear S;intro w5 hk3 S
   refine Ld (Tn (Fs (Fs (Fg (lv S (Rm (S.tm rfl)) rfl ?_)))));clear S;intro a S
   refine lv S (rn_fld fa_38_0 (S.tm rfl)) rfl ?_;clear S;intro a S
   refine lv S (rn_load Tryz.isAgg9 (S.tm rfl) (S.cell (i := 0) rfl rfl)) rfl ?_;clear S;intro a S
   refine lv S (rn_fld fa_38_1 (S.tm rfl)) rfl ?_;clear S;intro a S
   refine lv S (rn_load Tryz.isAgg9 (S.tm rfl) (S.cell (i := 0) rfl rfl)) rfl ?_;clear S;intro a S
   refine lv S (rn_bld bt_95 (pv := [(0, sV y1.Race), (1, sV y1.Who)]) ⟨rfl, (S.tm rfl), rfl, (S.tm rfl), trivial⟩ (cs := [sV y1.Race, sV y1.Who]) (by kernel_rfl)) rfl ?_;clear S;intro a S
   refine lv S (rn_lookup (kv := (fun x => Value.agg (Gpoints_entry.enc x).toArray)) (vv := Value.bool) (m := x1) (key := (Gpoints_entry.mk y1.Race y1.Who)) (z := false) (S.map_at (i := 1) rfl) Tryz.underlying93 keyT_95 Tryz.zeroValue4 (S.tm rfl) (S.tm rfl)) rfl ?_;clear S;intro a S
   refine Ld ?_
   replace S := S.nk [.blk b3 (GScored.enc y1) 38, .map b1 (ments (fun x => Value.agg (Gpoints_entry.enc x).toArray) Value.bool x1) x1.length] [(0, V), (3, .map (some b1)), (5, .pointer (some ⟨b3, 0, none⟩)), (17, V), (18, iV (Z.length : Int)), (19, iV (i1 : Int)), (29, bV (mgetD x1 (Gpoints_entry.mk y1.Race y1.Who) false))] [true, true] rfl (subR rfl)
   refine Tn (f_cond (S.tm rfl) (fun hb1 => ?_) (fun hb1 => ?_))
   ·replace h := iteT h hb1
    refine Fs (Fg (lv S (Ra rfl) rfl ?_));clear S;intro a S
    refine Ld (Tn (wp_ret (then_r (blk_r (then_r (then_r ?_))))))
    refine blk_r (then_r (then_r ?_))
    obtain rfl := Option.some.inj h
    exact f_ret S Tryz.results48 rfl rfl
   ·replace h := iteF h hb1
    refine wp_skip (Tn (Fg (lv S (Rm (S.tm rfl)) rfl ?_)));clear S;intro a S
    refine lv S (rn_fld fa_38_0 (S.tm rfl)) rfl ?_;clear S;intro a S
    refine lv S (rn_load Tryz.isAgg9 (S.tm rfl) (S.cell (i := 0) rfl rfl)) rfl ?_;clear S;intro a S
    refine lv S (rn_fld fa_38_1 (S.tm rfl)) rfl ?_;clear S;intro a S
    refine lv S (rn_load Tryz.isAgg9 (S.tm rfl) (S.cell (i := 0) rfl rfl)) rfl ?_;clear S;intro a S
    refine lv S (rn_bld bt_95 (pv := [(0, sV y1.Race), (1, sV y1.Who)]) ⟨rfl, (S.tm rfl), rfl, (S.tm rfl), trivial⟩ (cs := [sV y1.Race, sV y1.Who]) (by kernel_rfl)) rfl ?_;clear S;intro a S
    refine l_mapUpdate (kv := (fun x => Value.agg (Gpoints_entry.enc x).toArray)) (vv := Value.bool) (m := x1) (key := (Gpoints_entry.mk y1.Race y1.Who)) (val := true) S (i := 1) rfl Tryz.underlying93 keyT_95 (S.tm rfl) (S.tm rfl) rfl ?_;clear S;intro w6 hk4 S
    refine Ld (blk_n (Tn (Fg (lv S (rn_add (S.tm rfl) rfl) rfl ?_))));clear S;intro a S
    refine lv S (Rm (S.tm rfl)) rfl ?_;clear S;intro a S
    refine Ld (Tn ?_)
    exact ⟨ys1, ⟨i1 + 1, (mput x1 (Gpoints_entry.mk y1.Race y1.Who) true), ⟨_, (hd1).trans (List.append_cons _ _ _), by simp [hi1]⟩, h, S.nf [false, true] rfl ⟨rfl, rfl, rfl, rfl, (congrArg (fun z => some (Value.int .i64 z)) (rng_next hd1 hi1 (slc_max Af))), trivial⟩⟩, Nat.lt_succ_self _⟩
 clear S h;rintro a w3 ⟨x1, h, S⟩;rw [hj1] at h;clear hj1 j1
 refine Tn (Fs (Fg (lv S (Rm (S.tm rfl)) rfl ?_)));clear S;intro a S
 obtain ⟨r1, hr2, h⟩ := bindE h
 have hz3 := S.keep.size
 refine l_enter S (fun _ => run_call (vs := [V]) ⟨(S.tm rfl), trivial⟩ Tryz.call71) (points_races_ok _ (join (view w []) nov) (join_le (S.le_arg nil_sub) (S.le_new nil_sub)) V Z (Af.mono (le_join_left _ _)) _ hr2) rfl ?_;clear S;intro v1 a w7 hv1 hk5 hn1 S
 obtain ⟨φ1, hl1, hm2, S⟩ := S.see' hn1 hz3
 obtain ⟨rs1, ho2, hr3⟩ := hv1
 have hs1 := ho2.mono (all_step hl1 hm2)
 have hr4 := rels_26 (all_step hl1 hm2) hr3
 refine lv S (Ra (S.tm rfl)) rfl ?_;clear S;intro a S
 refine Ld (Tn (Fs (Fs (Fg (lv S (Rm (S.tm rfl)) rfl ?_)))));clear S;intro a S
 refine lv S (rn_lenT sl_96 (S.tm rfl) (slc_lenD hs1 hr4)) rfl ?_;clear S;intro a S
 refine lv S (Rm rfl) rfl ?_;clear S;intro a S
 refine Ld (Tn ?_)
 replace S := S.nk [] [(6, v1), (39, v1), (40, iV (r1.length : Int)), (41, iV 0)] [false] rfl (subR rfl)
 obtain ⟨j2, hj2, h⟩ := joinE h
 refine f_join (fun a w' => j2 = some r ∧ Sx w [] φ1 [] [(6, v1)] 122 a w') ?_ ?_
 ·refine wp_block (f_loop (fun (ys2 : List (List GScored)) a w' => ∃ i2 : Nat, (∃ dn, r1 = dn ++ ys2 ∧ dn.length = i2) ∧ points_checkAll_l2 j2 ys2 i2 = some r ∧ Sx w [] φ1 [] [(6, v1), (39, v1), (40, iV (r1.length : Int)), (41, iV (i2 : Int))] 122 a w') List.length r1 ⟨0, ⟨[], rfl, rfl⟩, h, S.nf [] rfl (subR rfl)⟩ ?_)
  clear S h;rintro ys2 a w8 ⟨i2, ⟨dn, hd2, hi2⟩, h, S⟩
  cases ys2 with
  | nil =>
   rw [points_checkAll_l2.eq_1] at h
   refine Fs (Fg (lv S (rn_lss (S.tm rfl) (S.tm rfl)) rfl ?_));clear S;intro a S
   refine Ld ?_
   replace S := S.nk [] [(6, v1), (39, v1), (40, iV (r1.length : Int)), (41, iV (i2 : Int)), (42, bV (decide ((i2 : Int) < (r1.length : Int))))] [] rfl (subR rfl)
   refine Tn (Fs (wp_cond_false ((S.tm rfl).trans (congrArg Value.bool (rng_nil hd2 hi2))) (wp_exit (then_x (then_x (x_same ?_))))))
   refine Tn ?_
   exact ⟨h, S.nf [] rfl ⟨rfl, trivial⟩⟩
  | cons y2 ys2 =>
   rw [points_checkAll_l2.eq_2] at h
   refine Fs (Fg (lv S (rn_lss (S.tm rfl) (S.tm rfl)) rfl ?_));clear S;intro a S
   refine Ld ?_
   replace S := S.nk [] [(6, v1), (39, v1), (40, iV (r1.length : Int)), (41, iV (i2 : Int)), (42, bV (decide ((i2 : Int) < (r1.length : Int))))] [] rfl (subR rfl)
   refine Tn (Fs (wp_cond_true ((S.tm rfl).trans (congrArg Value.bool (rng_cons hd2 hi2))) (wp_skip (Tn (Fs (wp_block ?_))))))
   refine Fs (Fg ?_)
   obtain ⟨r2, hg1, hl2⟩ := All2.at hr4 (get_mid hd2 hi2)
   have hs2 := hl2
   obtain ⟨b4, o2, hm3, hr5⟩ := rn_indexT (a := a) (x := .tmp 39) (y := .tmp 41) (ty := 0) sl_96 hs1 hg1 rfl (S.tm rfl) (S.tm rfl)
   refine lv S (hr5 _) rfl ?_;clear S;intro a S
   clear hr5
   refine lv S (rn_ld Tryz.isAgg26 (off := o2) (o := 0) (S.tm rfl) (hm3.at (emb_join S.emb0 S.emb)) rfl) rfl ?_;clear S;intro a S
   refine l_alloc S Tryz.zeroValue26 (cs := [.slice none 0 0]) rfl rfl ?_;clear S;intro a w10 b5 hz4 hk6 S
   refine l_store S (S.tm rfl) (S.tm rfl) (i := 0) (off := 0) rfl Tryz.sizeOf26 (vs := [r2.val]) (SlcLen.cells (slc_len hs2)) rfl rfl (all1 (SlcLen.one (slc_len hs2)) rfl) ?_;clear S;intro w11 hk7 S
   refine Ld (Tn (Fs (Fg (lv S (rn_load Tryz.isAgg26 (S.tm rfl) (S.cell (i := 0) rfl rfl)) rfl ?_))));clear S;intro a S
   refine lv S (rn_makeFunc (us := #[]) (xs := [].toArray) (ys := [.tmp 8].toArray) (by simp) (evA ⟨(S.tm rfl), trivial⟩ (vs := [.pointer (some ⟨b5, 0, none⟩)]))) rfl ?_;clear S;intro a S
   obtain ⟨r3, hr6, h⟩ := bindE h
   refine l_enter S (fun _ => run_call (vs := [r2.val, .func (.func 73) #[] #[.pointer (some ⟨b5, 0, none⟩)]]) ⟨(S.tm rfl), (S.tm rfl), trivial⟩ Tryz.call72) (slices_ContainsFunc_Scored_points_checkAll_c1_ok _ r2.val y2 (hs2.mono (join_le (S.le_arg nil_sub) (S.le_new nil_sub))) b5 r2.val y2 (hs2.mono (join_le (S.le_arg nil_sub) (S.le_new nil_sub))) (S.blk_view (i := 0) rfl ((ne_nil (e' := .blk b5 [r2.val] 26)) _ rfl)) _ hr6) rfl ?_;clear S;intro v2 a w12 hv2 hk8 hn2 S
   subst hv2
   refine Ld (Tn (f_cond (S.tm rfl) (fun hb2 => ?_) (fun hb2 => ?_)))
   ·replace h := iteT h hb2
    refine Fs (Fg (lv S (Ra rfl) rfl ?_));clear S;intro a S
    refine Ld (Tn (wp_ret (blk_r (then_r (then_r (blk_r ?_))))))
    refine then_r (then_r ?_)
    obtain rfl := Option.some.inj h
    exact f_ret S Tryz.results48 rfl rfl
   ·replace h := iteF h hb2
    refine wp_skip (blk_n (Tn (Fg (lv S (rn_add (S.tm rfl) rfl) rfl ?_))));clear S;intro a S
    refine lv S (Rm (S.tm rfl)) rfl ?_;clear S;intro a S
    refine Ld (Tn ?_)
    exact ⟨ys2, ⟨i2 + 1, ⟨_, (hd2).trans (List.append_cons _ _ _), by simp [hi2]⟩, h, S.nf [false] rfl ⟨rfl, rfl, rfl, (congrArg (fun z => some (Value.int .i64 z)) (rng_next hd2 hi2 (slc_maxD hs1 hr4))), trivial⟩⟩, Nat.lt_succ_self _⟩
 clear S h;rintro a w9 ⟨h, S⟩;rw [hj2] at h;clear hj2 j2
 refine Tn (Fs (Fs (Fg (lv S (Rm (S.tm rfl)) rfl ?_))));clear S;intro a S
 refine lv S (rn_lenT sl_96 (S.tm rfl) (slc_lenD hs1 hr4)) rfl ?_;clear S;intro a S
 refine lv S (Rm rfl) rfl ?_;clear S;intro a S
 refine Ld (Tn ?_)
 replace S := S.nk [] [(6, v1), (49, v1), (50, iV (r1.length : Int)), (51, iV 0)] [] rfl (subR rfl)
 obtain ⟨j3, hj3, h⟩ := joinE h
 refine f_join (fun a w' => j3 = some r ∧ Sx w [] φ1 [] [(6, v1)] 122 a w') ?_ ?_
 ·refine wp_block (f_loop (fun (ys3 : List (List GScored)) a w' => ∃ i3 : Nat, (∃ dn, r1 = dn ++ ys3 ∧ dn.length = i3) ∧ points_checkAll_l3 j3 ys3 i3 = some r ∧ Sx w [] φ1 [] [(6, v1), (49, v1), (50, iV (r1.length : Int)), (51, iV (i3 : Int))] 122 a w') List.length r1 ⟨0, ⟨[], rfl, rfl⟩, h, S.nf [] rfl (subR rfl)⟩ ?_)
  clear S h;rintro ys3 a w13 ⟨i3, ⟨dn, hd3, hi3⟩, h, S⟩
  cases ys3 with
  | nil =>
   rw [points_checkAll_l3.eq_1] at h
   refine Fs (Fg (lv S (rn_lss (S.tm rfl) (S.tm rfl)) rfl ?_));clear S;intro a S
   refine Ld ?_
   replace S := S.nk [] [(6, v1), (49, v1), (50, iV (r1.length : Int)), (51, iV (i3 : Int)), (52, bV (decide ((i3 : Int) < (r1.length : Int))))] [] rfl (subR rfl)
   refine Tn (Fs (wp_cond_false ((S.tm rfl).trans (congrArg Value.bool (rng_nil hd3 hi3))) (wp_exit (then_x (then_x (x_same ?_))))))
   refine Tn ?_
   exact ⟨h, S.nf [] rfl ⟨rfl, trivial⟩⟩
  | cons y3 ys3 =>
   rw [points_checkAll_l3.eq_2] at h
   refine Fs (Fg (lv S (rn_lss (S.tm rfl) (S.tm rfl)) rfl ?_));clear S;intro a S
   refine Ld ?_
   replace S := S.nk [] [(6, v1), (49, v1), (50, iV (r1.length : Int)), (51, iV (i3 : Int)), (52, bV (decide ((i3 : Int) < (r1.length : Int))))] [] rfl (subR rfl)
   refine Tn (Fs (wp_cond_true ((S.tm rfl).trans (congrArg Value.bool (rng_cons hd3 hi3))) (wp_skip (Tn (Fs (wp_block ?_))))))
   refine Fs (Fg ?_)
   obtain ⟨r4, hg2, hl3⟩ := All2.at hr4 (get_mid hd3 hi3)
   have hs3 := hl3
   obtain ⟨b6, o3, hm4, hr7⟩ := rn_indexT (a := a) (x := .tmp 49) (y := .tmp 51) (ty := 0) sl_96 hs1 hg2 rfl (S.tm rfl) (S.tm rfl)
   refine lv S (hr7 _) rfl ?_;clear S;intro a S
   clear hr7
   refine lv S (rn_ld Tryz.isAgg26 (off := o3) (o := 0) (S.tm rfl) (hm4.at (emb_join S.emb0 S.emb)) rfl) rfl ?_;clear S;intro a S
   refine lv S (Ra (S.tm rfl)) rfl ?_;clear S;intro a S
   refine Ld (Tn (Fs (Fg (lv S (Rm (S.tm rfl)) rfl ?_))));clear S;intro a S
   refine lv S (rn_lenT sl_26 (S.tm rfl) (slc_len hs3)) rfl ?_;clear S;intro a S
   refine lv S (Rm rfl) rfl ?_;clear S;intro a S
   refine Ld (Tn ?_)
   replace S := S.nk [] [(6, v1), (10, r4.val), (49, v1), (50, iV (r1.length : Int)), (51, iV (i3 : Int)), (55, r4.val), (56, iV (y3.length : Int)), (57, iV 0)] [] rfl (subR rfl)
   obtain ⟨j4, hj4, h⟩ := joinE h
   refine f_join (fun a w' => j4 = some r ∧ Sx w [] φ1 [] [(6, v1), (49, v1), (50, iV (r1.length : Int)), (51, iV (i3 : Int))] 122 a w') ?_ ?_
   ·refine wp_block (f_loop (fun (ys4 : List GScored) a w' => ∃ i4 : Nat, (∃ dn, y3 = dn ++ ys4 ∧ dn.length = i4) ∧ points_checkAll_l4 y3 j4 ys4 i4 = some r ∧ Sx w [] φ1 [] [(6, v1), (10, r4.val), (49, v1), (50, iV (r1.length : Int)), (51, iV (i3 : Int)), (55, r4.val), (56, iV (y3.length : Int)), (57, iV (i4 : Int))] 122 a w') List.length y3 ⟨0, ⟨[], rfl, rfl⟩, h, S.nf [] rfl (subR rfl)⟩ ?_)
    clear S h;rintro ys4 a w15 ⟨i4, ⟨dn, hd4, hi4⟩, h, S⟩
    cases ys4 with
    | nil =>
     rw [points_checkAll_l4.eq_1] at h
     refine Fs (Fg (lv S (rn_lss (S.tm rfl) (S.tm rfl)) rfl ?_));clear S;intro a S
     refine Ld ?_
     replace S := S.nk [] [(6, v1), (10, r4.val), (49, v1), (50, iV (r1.length : Int)), (51, iV (i3 : Int)), (55, r4.val), (56, iV (y3.length : Int)), (57, iV (i4 : Int)), (58, bV (decide ((i4 : Int) < (y3.length : Int))))] [] rfl (subR rfl)
     refine Tn (Fs (wp_cond_false ((S.tm rfl).trans (congrArg Value.bool (rng_nil hd4 hi4))) (wp_exit (then_x (then_x (x_same ?_))))))
     refine Tn ?_
     exact ⟨h, S.nf [] rfl (subR rfl)⟩
    | cons y4 ys4 =>
     rw [points_checkAll_l4.eq_2] at h
     refine Fs (Fg (lv S (rn_lss (S.tm rfl) (S.tm rfl)) rfl ?_));clear S;intro a S
     refine Ld ?_
     replace S := S.nk [] [(6, v1), (10, r4.val), (49, v1), (50, iV (r1.length : Int)), (51, iV (i3 : Int)), (55, r4.val), (56, iV (y3.length : Int)), (57, iV (i4 : Int)), (58, bV (decide ((i4 : Int) < (y3.length : Int))))] [] rfl (subR rfl)
     refine Tn (Fs (wp_cond_true ((S.tm rfl).trans (congrArg Value.bool (rng_cons hd4 hi4))) (wp_skip (Tn (Fs (wp_block ?_))))))
     refine Fs (Fg (lv S (Rm (S.tm rfl)) rfl ?_));clear S;intro a S
     obtain ⟨b7, o4, hm5, hr8⟩ := rn_indexT (a := a) (x := .tmp 55) (y := .tmp 57) (ty := 0) sl_26 hs3 (get_mid hd4 hi4) rfl (S.tm rfl) (S.tm rfl)
     refine lv S (hr8 _) rfl ?_;clear S;intro a S
     clear hr8
     refine lv S (rn_ldA Tryz.isAgg38 Tryz.sizeOf38 (off := o4) (o := 0) (part := (GScored.enc y4)) rfl rfl (S.tm rfl) (hm5.at (emb_join S.emb0 S.emb))) rfl ?_;clear S;intro a S
     refine l_alloc S Tryz.zeroValue38 (cs := [sV k_empty, sV k_empty, sV k_empty, iV 0, bV false]) rfl rfl ?_;clear S;intro a w17 b8 hz5 hk9 S
     refine lv S (Ra (S.tm rfl)) rfl ?_;clear S;intro a S
     refine l_store S (S.tm rfl) (S.tm rfl) (i := 0) (off := 0) rfl Tryz.sizeOf38 (vs := (GScored.enc y4)) rfl rfl rfl rfl ?_;clear S;intro w18 hk10 S
     refine Ld (Tn (Fs (d_region [] ([]) Tryz.mixed S rfl (by kernel_rfl) ?_)));clear S;intro w19 hk11 hsel S
     refine d_rest [0, 1, 2, 3, 4, 5, 6, 7, 8, 9, 10, 11, 12, 13, 14, 15, 16, 17, 18, 19, 20, 21, 22, 23, 24] hsel (by kernel_rfl) rfl ?_
     clear hsel
     refine s_lv S rfl (rn_fld fa_38_3 (S.tm rfl)) rfl ?_;clear S;intro a S
     refine s_lv S rfl (rn_load Tryz.isAgg3 (S.tm rfl) (S.cell (i := 0) rfl rfl)) rfl ?_;clear S;intro a S
     refine s_lv S rfl (rn_gtr (S.tm rfl) rfl) rfl ?_;clear S;intro a S
     refine s_lv S rfl (Rm (S.tm rfl)) rfl ?_;clear S;intro a S
     refine s_cutm 6 (fun a w' => Keep [] w19 w' ∧ Sx w [] φ1 [.blk b8 (GScored.enc y4) 38] [(6, v1), (10, r4.val), (11, iV (i4 : Int)), (12, .pointer (some ⟨b8, 0, none⟩)), (49, v1), (50, iV (r1.length : Int)), (51, iV (i3 : Int)), (55, r4.val), (56, iV (y3.length : Int)), (57, iV (i4 : Int)), (71, bV ((decide (0 < y4.Rank)) && (!decide (y4.Rank = (W ((i4 : Int) + 1))))))] 122 a w') ?_ ?_
     ·rcases Bool.eq_false_or_eq_true (decide (0 < y4.Rank)) with hb3 | hb3
      ·refine s_want S rfl rfl rfl rfl hb3 (s_lv0 S (rn_fld fa_38_3 (S.tm rfl)) rfl ?_);clear S;intro a S
       refine s_want S rfl rfl rfl rfl hb3 (s_lv0 S (rn_load Tryz.isAgg3 (S.tm rfl) (S.cell (i := 0) rfl rfl)) rfl ?_);clear S;intro a S
       refine s_want S rfl rfl rfl rfl hb3 (s_lv0 S (Rm (S.tm rfl)) rfl ?_);clear S;intro a S
       refine s_want S rfl rfl rfl rfl hb3 (s_lv0 S (rn_add (S.tm rfl) rfl) rfl ?_);clear S;intro a S
       refine s_want S rfl rfl rfl rfl hb3 (s_lv0 S (rn_neq (S.tm rfl) (S.tm rfl)) rfl ?_);clear S;intro a S
       refine s_lv S rfl (rn_and_t hb3 (S.tm rfl) (S.tm rfl)) rfl ?_;clear S;intro a S
       refine s_done ?_
       exact ⟨Keep.refl _ _, S.nf [true] rfl (subR rfl)⟩
      ·iterate 5 (refine s_skip S rfl rfl rfl rfl (neq_f hb3) rfl ?_ rfl;clear S;intro a S)
       refine s_lv S rfl (rn_and_f (!decide (y4.Rank = (W ((i4 : Int) + 1)))) hb3 (S.tm rfl) rfl) rfl ?_;clear S;intro a S
       refine s_done ?_
       exact ⟨Keep.refl _ _, S.nf [true] rfl (subR rfl)⟩
     clear S;rintro a w20 ⟨hk12, S⟩
     refine s_lv S rfl (Rm (S.tm rfl)) rfl ?_;clear S;intro a S
     obtain ⟨j5, hj5, h⟩ := joinE h
     refine s_cutm 14 (fun a w' => ∃ c1, j5 c1 = some r ∧ Keep [] w20 w' ∧ Sx w [] φ1 [.blk b8 (GScored.enc y4) 38] [(6, v1), (10, r4.val), (49, v1), (50, iV (r1.length : Int)), (51, iV (i3 : Int)), (55, r4.val), (56, iV (y3.length : Int)), (57, iV (i4 : Int)), (86, bV c1)] 122 a w') ?_ ?_
     ·rcases Bool.eq_false_or_eq_true ((decide (0 < y4.Rank)) && (!decide (y4.Rank = (W ((i4 : Int) + 1))))) with hb4 | hb4
      ·replace h := iteT h hb4
       refine s_want S rfl rfl rfl rfl hb4 (s_lv0 S (Rm (S.tm rfl)) rfl ?_);clear S;intro a S
       refine s_want S rfl rfl rfl rfl hb4 (s_lv0 S (rn_eql (S.tm rfl) rfl) rfl ?_);clear S;intro a S
       refine s_want S rfl rfl rfl rfl hb4 (s_lv0 S (Rm (S.tm rfl)) rfl ?_);clear S;intro a S
       obtain ⟨j6, hj6, h⟩ := joinE h
       refine s_cutm 10 (fun a w' => ∃ c2, j6 c2 = some r ∧ Keep [] w20 w' ∧ Sx w [] φ1 [.blk b8 (GScored.enc y4) 38] [(6, v1), (10, r4.val), (49, v1), (50, iV (r1.length : Int)), (51, iV (i3 : Int)), (55, r4.val), (56, iV (y3.length : Int)), (57, iV (i4 : Int)), (72, bV ((decide (0 < y4.Rank)) && (!decide (y4.Rank = (W ((i4 : Int) + 1)))))), (73, iV (i4 : Int)), (74, bV (decide ((i4 : Int) = 0))), (75, bV (decide ((i4 : Int) = 0))), (85, bV c2)] 122 a w') ?_ ?_
       ·rcases Bool.eq_false_or_eq_true (decide ((i4 : Int) = 0)) with hb5 | hb5
        ·replace h := iteT h hb5
         iterate 9 (refine s_skip S rfl rfl rfl rfl (neq_t hb5) rfl ?_ rfl;clear S;intro a S)
         refine s_want S rfl rfl rfl rfl hb4 (s_lv0 S (rn_or_t true hb5 (S.tm rfl) rfl) rfl ?_);clear S;intro a S
         refine s_done ?_
         exact ⟨_, h, Keep.refl _ _, S.nf [true] rfl (subR rfl)⟩
        ·replace h := iteF h hb5
         refine s_want S rfl rfl rfl rfl hb5 (s_lv0 S (rn_fld fa_38_3 (S.tm rfl)) rfl ?_);clear S;intro a S
         refine s_want S rfl rfl rfl rfl hb5 (s_lv0 S (rn_load Tryz.isAgg3 (S.tm rfl) (S.cell (i := 0) rfl rfl)) rfl ?_);clear S;intro a S
         refine s_want S rfl rfl rfl rfl hb5 (s_lv0 S (Rm (S.tm rfl)) rfl ?_);clear S;intro a S
         refine s_want S rfl rfl rfl rfl hb5 (s_lv0 S (Rm (S.tm rfl)) rfl ?_);clear S;intro a S
         refine s_want S rfl rfl rfl rfl hb5 (s_lv0 S (rn_sub (S.tm rfl) rfl) rfl ?_);clear S;intro a S
         refine s_want S rfl rfl rfl rfl hb5 ?_
         obtain ⟨hc1, h⟩ := chkE h
         obtain ⟨b9, o5, hm6, hr9⟩ := rn_indexT (a := a) (x := .tmp 78) (y := .tmp 80) (ty := 0) sl_26 hs3 (inB_get hc1).1 (inB_get hc1).2 (S.tm rfl) (S.tm rfl)
         refine s_lv0 S (hr9 _) rfl ?_;clear S;intro a S
         clear hr9
         refine s_want S rfl rfl rfl rfl hb5 (s_lv0 S (rn_fld fa_38_3 (S.tm rfl)) rfl ?_);clear S;intro a S
         refine s_want S rfl rfl rfl rfl hb5 (s_lv0 S (rn_ld Tryz.isAgg3 (off := o5) (o := 3) (S.tm rfl) (hm6.at (emb_join S.emb0 S.emb)) rfl) rfl ?_);clear S;intro a S
         refine s_want S rfl rfl rfl rfl hb5 (s_lv0 S (rn_neq (S.tm rfl) (S.tm rfl)) rfl ?_);clear S;intro a S
         refine s_want S rfl rfl rfl rfl hb4 (s_lv0 S (rn_or_f hb5 (S.tm rfl) (S.tm rfl)) rfl ?_);clear S;intro a S
         refine s_done ?_
         exact ⟨_, h, Keep.refl _ _, S.nf [true] rfl (subR rfl)⟩
       clear S h;rintro a w22 ⟨c2, h, hk13, S⟩;rw [hj6] at h;clear hj6 j6
       refine s_lv S rfl (rn_and_t hb4 (S.tm rfl) (S.tm rfl)) rfl ?_;clear S;intro a S
       refine s_done ?_
       exact ⟨_, h, hk13, S.nf [true] rfl (subR rfl)⟩
      ·replace h := iteF h hb4
       iterate 3 (refine s_skip S rfl rfl rfl rfl (neq_f hb4) rfl ?_ rfl;clear S;intro a S)
       iterate 9 (refine s_skipU S rfl rfl rfl rfl rfl ?_;clear S;intro a S)
       refine s_skip S rfl rfl rfl rfl (neq_f hb4) rfl ?_ rfl;clear S;intro a S
       refine s_lv S rfl (rn_and_f true hb4 (S.tm rfl) rfl) rfl ?_;clear S;intro a S
       refine s_done ?_
       exact ⟨_, h, Keep.refl _ _, S.nf [true] rfl (subR rfl)⟩
     clear S h;rintro a w21 ⟨c1, h, hk14, S⟩;rw [hj5] at h;clear hj5 j5
     refine s_done ?_
     replace S := S.nk [] [(6, v1), (10, r4.val), (49, v1), (50, iV (r1.length : Int)), (51, iV (i3 : Int)), (55, r4.val), (56, iV (y3.length : Int)), (57, iV (i4 : Int)), (86, bV c1)] [false] rfl (subR rfl)
     refine Tn (f_cond (S.tm rfl) (fun hb6 => ?_) (fun hb6 => ?_))
     ·replace h := iteT h hb6
      refine Fs (Fg (lv S (Ra rfl) rfl ?_));clear S;intro a S
      refine Ld (Tn (wp_ret (blk_r (then_r (then_r (blk_r ?_))))))
      refine then_r (blk_r (then_r (then_r (blk_r (then_r (then_r ?_))))))
      obtain rfl := Option.some.inj h
      exact f_ret S Tryz.results48 rfl rfl
     ·replace h := iteF h hb6
      refine wp_skip (blk_n (Tn (Fg (lv S (rn_add (S.tm rfl) rfl) rfl ?_))));clear S;intro a S
      refine lv S (Rm (S.tm rfl)) rfl ?_;clear S;intro a S
      refine Ld (Tn ?_)
      exact ⟨ys4, ⟨i4 + 1, ⟨_, (hd4).trans (List.append_cons _ _ _), by simp [hi4]⟩, h, S.nf [] rfl ⟨rfl, rfl, rfl, rfl, rfl, rfl, rfl, (congrArg (fun z => some (Value.int .i64 z)) (rng_next hd4 hi4 (slc_max hs3))), trivial⟩⟩, Nat.lt_succ_self _⟩
   clear S h;rintro a w16 ⟨h, S⟩;rw [hj4] at h;clear hj4 j4
   refine blk_n (Tn (Fg (lv S (rn_add (S.tm rfl) rfl) rfl ?_)));clear S;intro a S
   refine lv S (Rm (S.tm rfl)) rfl ?_;clear S;intro a S
   refine Ld (Tn ?_)
   exact ⟨ys3, ⟨i3 + 1, ⟨_, (hd3).trans (List.append_cons _ _ _), by simp [hi3]⟩, h, S.nf [] rfl ⟨rfl, rfl, rfl, (congrArg (fun z => some (Value.int .i64 z)) (rng_next hd3 hi3 (slc_maxD hs1 hr4))), trivial⟩⟩, Nat.lt_succ_self _⟩
 clear S h;rintro a w14 ⟨h, S⟩;rw [hj3] at h;clear hj3 j3
 refine Tn (Fs (Fs (Fg (lv S (Rm (S.tm rfl)) rfl ?_))));clear S;intro a S
 refine lv S (rn_lenT sl_96 (S.tm rfl) (slc_lenD hs1 hr4)) rfl ?_;clear S;intro a S
 refine lv S (Rm rfl) rfl ?_;clear S;intro a S
 refine Ld (Tn ?_)
 replace S := S.nk [] [(89, v1), (90, iV (r1.length : Int)), (91, iV 0)] [] rfl (subR rfl)
 obtain ⟨j7, hj7, h⟩ := joinE h
 refine f_join (fun a w' => j7 = some r ∧ Sx w [] φ1 [] [] 122 a w') ?_ ?_
 ·refine wp_block (f_loop (fun (ys5 : List (List GScored)) a w' => ∃ i5 : Nat, (∃ dn, r1 = dn ++ ys5 ∧ dn.length = i5) ∧ points_checkAll_l5 j7 ys5 i5 = some r ∧ Sx w [] φ1 [] [(89, v1), (90, iV (r1.length : Int)), (91, iV (i5 : Int))] 122 a w') List.length r1 ⟨0, ⟨[], rfl, rfl⟩, h, S.nf [] rfl (subR rfl)⟩ ?_)
  clear S h;rintro ys5 a w23 ⟨i5, ⟨dn, hd5, hi5⟩, h, S⟩
  cases ys5 with
  | nil =>
   rw [points_checkAll_l5.eq_1] at h
   refine Fs (Fg (lv S (rn_lss (S.tm rfl) (S.tm rfl)) rfl ?_));clear S;intro a S
   refine Ld ?_
   replace S := S.nk [] [(89, v1), (90, iV (r1.length : Int)), (91, iV (i5 : Int)), (92, bV (decide ((i5 : Int) < (r1.length : Int))))] [] rfl (subR rfl)
   refine Tn (Fs (wp_cond_false ((S.tm rfl).trans (congrArg Value.bool (rng_nil hd5 hi5))) (wp_exit (then_x (then_x (x_same ?_))))))
   refine Tn ?_
   exact ⟨h, S.nf [] rfl trivial⟩
  | cons y5 ys5 =>
   rw [points_checkAll_l5.eq_2] at h
   refine Fs (Fg (lv S (rn_lss (S.tm rfl) (S.tm rfl)) rfl ?_));clear S;intro a S
   refine Ld ?_
   replace S := S.nk [] [(89, v1), (90, iV (r1.length : Int)), (91, iV (i5 : Int)), (92, bV (decide ((i5 : Int) < (r1.length : Int))))] [] rfl (subR rfl)
   refine Tn (Fs (wp_cond_true ((S.tm rfl).trans (congrArg Value.bool (rng_cons hd5 hi5))) (wp_skip (Tn (Fs (wp_block ?_))))))
   refine Fs (Fg ?_)
   obtain ⟨r5, hg3, hl4⟩ := All2.at hr4 (get_mid hd5 hi5)
   have hs4 := hl4
   obtain ⟨b10, o6, hm7, hr10⟩ := rn_indexT (a := a) (x := .tmp 89) (y := .tmp 91) (ty := 0) sl_96 hs1 hg3 rfl (S.tm rfl) (S.tm rfl)
   refine lv S (hr10 _) rfl ?_;clear S;intro a S
   clear hr10
   refine lv S (rn_ld Tryz.isAgg26 (off := o6) (o := 0) (S.tm rfl) (hm7.at (emb_join S.emb0 S.emb)) rfl) rfl ?_;clear S;intro a S
   refine lv S (Ra (S.tm rfl)) rfl ?_;clear S;intro a S
   refine Ld (Tn (Fs (Fg (lv S (Ra rfl) rfl ?_))));clear S;intro a S
   refine Ld (Tn ?_)
   replace S := S.nk [] [(14, r5.val), (15, iV 10), (89, v1), (90, iV (r1.length : Int)), (91, iV (i5 : Int))] [] rfl (subR rfl)
   obtain ⟨j8, hj8, h⟩ := joinE h
   refine f_join (fun a w' => j8 = some r ∧ Sx w [] φ1 [] [(89, v1), (90, iV (r1.length : Int)), (91, iV (i5 : Int))] 122 a w') ?_ ?_
   ·refine wp_block (f_loop (fun (m1 : Nat) a w' => ∃ x2 : Int, points_checkAll_l6 y5 j8 m1 x2 = some r ∧ Sx w [] φ1 [] [(14, r5.val), (15, iV x2), (89, v1), (90, iV (r1.length : Int)), (91, iV (i5 : Int))] 122 a w') id (((y5.length : Int) - 10).toNat + 2) ⟨10, h, S.nf [] rfl (subR rfl)⟩ ?_)
    clear S h;rintro m1 a w25 ⟨x2, h, S⟩
    cases m1 with
    | zero => rw [points_checkAll_l6.eq_1] at h;cases h
    | succ m1 =>
     rw [points_checkAll_l6.eq_2] at h
     refine Fs (Fs (Fg (lv S (Rm (S.tm rfl)) rfl ?_)));clear S;intro a S
     refine lv S (Rm (S.tm rfl)) rfl ?_;clear S;intro a S
     refine lv S (rn_lenT sl_26 (S.tm rfl) (slc_len hs4)) rfl ?_;clear S;intro a S
     refine lv S (rn_lss (S.tm rfl) (S.tm rfl)) rfl ?_;clear S;intro a S
     refine Ld (Tn (f_cond (S.tm rfl) (fun hb7 => ?_) (fun hb7 => ?_)))
     ·replace h := iteT h hb7
      refine wp_skip (Tn (Fs (wp_block (Fs (d_region [] ([]) Tryz.mixed S rfl (by kernel_rfl) ?_)))));clear S;intro w27 hk15 hsel S
      refine d_rest [0, 1, 2, 3, 4, 5, 6, 7, 8, 9, 10, 11, 12, 13, 14, 15, 16, 17, 18, 19] hsel (by kernel_rfl) rfl ?_
      clear hsel
      refine s_lv S rfl (Rm (S.tm rfl)) rfl ?_;clear S;intro a S
      refine s_lv S rfl (Rm (S.tm rfl)) rfl ?_;clear S;intro a S
      obtain ⟨hc2, h⟩ := chkE h
      obtain ⟨b11, o7, hm8, hr11⟩ := rn_indexT (a := a) (x := .tmp 101) (y := .tmp 102) (ty := 0) sl_26 hs4 (inB_get hc2).1 (inB_get hc2).2 (S.tm rfl) (S.tm rfl)
      refine s_lv S rfl (hr11 _) rfl ?_;clear S;intro a S
      clear hr11
      refine s_lv S rfl (rn_fld fa_38_3 (S.tm rfl)) rfl ?_;clear S;intro a S
      refine s_lv S rfl (rn_ld Tryz.isAgg3 (off := o7) (o := 3) (S.tm rfl) (hm8.at (emb_join S.emb0 S.emb)) rfl) rfl ?_;clear S;intro a S
      refine s_lv S rfl (rn_gtr (S.tm rfl) rfl) rfl ?_;clear S;intro a S
      refine s_lv S rfl (Rm (S.tm rfl)) rfl ?_;clear S;intro a S
      obtain ⟨j9, hj9, h⟩ := joinE h
      refine s_cutm 13 (fun a w' => ∃ c3, j9 c3 = some r ∧ Keep [] w27 w' ∧ Sx w [] φ1 [] [(14, r5.val), (15, iV x2), (89, v1), (90, iV (r1.length : Int)), (91, iV (i5 : Int)), (120, bV c3)] 122 a w') ?_ ?_
      ·rcases Bool.eq_false_or_eq_true (decide (0 < ((nth y5 x2).Rank))) with hb8 | hb8
       ·replace h := iteT h hb8
        refine s_want S rfl rfl rfl rfl hb8 (s_lv0 S (Rm (S.tm rfl)) rfl ?_);clear S;intro a S
        refine s_want S rfl rfl rfl rfl hb8 (s_lv0 S (Rm (S.tm rfl)) rfl ?_);clear S;intro a S
        refine s_want S rfl rfl rfl rfl hb8 ?_
        obtain ⟨hc3, h⟩ := chkE h
        obtain ⟨b12, o8, hm9, hr12⟩ := rn_indexT (a := a) (x := .tmp 108) (y := .tmp 109) (ty := 0) sl_26 hs4 (inB_get hc3).1 (inB_get hc3).2 (S.tm rfl) (S.tm rfl)
        refine s_lv0 S (hr12 _) rfl ?_;clear S;intro a S
        clear hr12
        refine s_want S rfl rfl rfl rfl hb8 (s_lv0 S (rn_fld fa_38_3 (S.tm rfl)) rfl ?_);clear S;intro a S
        refine s_want S rfl rfl rfl rfl hb8 (s_lv0 S (rn_ld Tryz.isAgg3 (off := o8) (o := 3) (S.tm rfl) (hm9.at (emb_join S.emb0 S.emb)) rfl) rfl ?_);clear S;intro a S
        refine s_want S rfl rfl rfl rfl hb8 (s_lv0 S (Rm (S.tm rfl)) rfl ?_);clear S;intro a S
        refine s_want S rfl rfl rfl rfl hb8 (s_lv0 S (Rm (S.tm rfl)) rfl ?_);clear S;intro a S
        refine s_want S rfl rfl rfl rfl hb8 (s_lv0 S (rn_sub (S.tm rfl) rfl) rfl ?_);clear S;intro a S
        refine s_want S rfl rfl rfl rfl hb8 ?_
        obtain ⟨hc4, h⟩ := chkE h
        obtain ⟨b13, o9, hm10, hr13⟩ := rn_indexT (a := a) (x := .tmp 113) (y := .tmp 115) (ty := 0) sl_26 hs4 (inB_get hc4).1 (inB_get hc4).2 (S.tm rfl) (S.tm rfl)
        refine s_lv0 S (hr13 _) rfl ?_;clear S;intro a S
        clear hr13
        refine s_want S rfl rfl rfl rfl hb8 (s_lv0 S (rn_fld fa_38_3 (S.tm rfl)) rfl ?_);clear S;intro a S
        refine s_want S rfl rfl rfl rfl hb8 (s_lv0 S (rn_ld Tryz.isAgg3 (off := o9) (o := 3) (S.tm rfl) (hm10.at (emb_join S.emb0 S.emb)) rfl) rfl ?_);clear S;intro a S
        refine s_want S rfl rfl rfl rfl hb8 (s_lv0 S (rn_eql (S.tm rfl) (S.tm rfl)) rfl ?_);clear S;intro a S
        refine s_lv S rfl (rn_and_t hb8 (S.tm rfl) (S.tm rfl)) rfl ?_;clear S;intro a S
        refine s_done ?_
        exact ⟨_, h, Keep.refl _ _, S.nf [] rfl (subR rfl)⟩
       ·replace h := iteF h hb8
        iterate 12 (refine s_skip S rfl rfl rfl rfl (neq_f hb8) rfl ?_ rfl;clear S;intro a S)
        refine s_lv S rfl (rn_and_f true hb8 (S.tm rfl) rfl) rfl ?_;clear S;intro a S
        refine s_done ?_
        exact ⟨_, h, Keep.refl _ _, S.nf [] rfl (subR rfl)⟩
      clear S h;rintro a w28 ⟨c3, h, hk16, S⟩;rw [hj9] at h;clear hj9 j9
      refine s_done ?_
      replace S := S.nk [] [(14, r5.val), (15, iV x2), (89, v1), (90, iV (r1.length : Int)), (91, iV (i5 : Int)), (120, bV c3)] [] rfl (subR rfl)
      refine Tn (f_cond (S.tm rfl) (fun hb9 => ?_) (fun hb9 => ?_))
      ·replace h := iteT h hb9
       refine Fs (Fg (lv S (Ra rfl) rfl ?_));clear S;intro a S
       refine Ld (Tn (wp_ret (blk_r (then_r (then_r (blk_r ?_))))))
       refine then_r (blk_r (then_r (then_r (blk_r (then_r (then_r ?_))))))
       obtain rfl := Option.some.inj h
       exact f_ret S Tryz.results48 rfl rfl
      ·replace h := iteF h hb9
       refine wp_skip (blk_n (Tn (Fg (lv S (Rm (S.tm rfl)) rfl ?_))));clear S;intro a S
       refine lv S (rn_add (S.tm rfl) rfl) rfl ?_;clear S;intro a S
       refine lv S (Ra (S.tm rfl)) rfl ?_;clear S;intro a S
       refine Ld (Tn ?_)
       exact ⟨m1, ⟨W (x2 + 1), h, S.nf [] rfl ⟨rfl, rfl, rfl, rfl, rfl, trivial⟩⟩, Nat.lt_succ_self _⟩
     ·replace h := iteF h hb7
      refine wp_exit (then_x (then_x (x_same (Tn ?_))))
      exact ⟨h, S.nf [] rfl (subR rfl)⟩
   clear S h;rintro a w26 ⟨h, S⟩;rw [hj8] at h;clear hj8 j8
   refine blk_n (Tn (Fg (lv S (rn_add (S.tm rfl) rfl) rfl ?_)));clear S;intro a S
   refine lv S (Rm (S.tm rfl)) rfl ?_;clear S;intro a S
   refine Ld (Tn ?_)
   exact ⟨ys5, ⟨i5 + 1, ⟨_, (hd5).trans (List.append_cons _ _ _), by simp [hi5]⟩, h, S.nf [] rfl ⟨rfl, rfl, (congrArg (fun z => some (Value.int .i64 z)) (rng_next hd5 hi5 (slc_maxD hs1 hr4))), trivial⟩⟩, Nat.lt_succ_self _⟩
 clear S h;rintro a w24 ⟨h, S⟩;rw [hj7] at h;clear hj7 j7
 refine Tn (Fs (Fg (lv S (Ra rfl) rfl ?_)));clear S;intro a S
 refine Ld (Tn (wp_ret ?_))
 obtain rfl := Option.some.inj h
 exact f_ret S Tryz.results48 rfl rfl
set_option maxRecDepth 20000 in
theorem points_CheckScored_ok (w : World) (V : Value) (Z : List GScored) (Af : Slc (view w []) 5 V (Z.map GScored.enc)) (r : Int) (h : points_CheckScored Z = some r) :
    Calls Tryz.prog 21 [V].toArray w (Ret w [] fun _ v _ => v = iV r) := by
 refine f_enter [] [] Tryz.func21 rfl Tryz.ntmps21 rfl (by simp) (by simp [fps]) (by simp [fps]) fun a S => ?_
 unfold points_CheckScored at h
 replace S := S.nk [] [(0, V)] [] rfl ⟨rfl, trivial⟩
 refine Fs (Fg (lv S (Ra rfl) rfl ?_));clear S;intro a S
 refine Ld (Tn (Fs (Fs (Fg (lv S (Rm (S.tm rfl)) rfl ?_)))));clear S;intro a S
 refine lv S (rn_lenT sl_26 (S.tm rfl) (slc_len Af)) rfl ?_;clear S;intro a S
 refine lv S (rn_gtr (S.tm rfl) rfl) rfl ?_;clear S;intro a S
 refine Ld (Tn (f_cond (S.tm rfl) (fun hb1 => ?_) (fun hb1 => ?_)))
 ·replace h := iteT h hb1
  refine Fs (Fg (lv S (Ra rfl) rfl ?_));clear S;intro a S
  refine Ld (Tn (wp_ret (then_r ?_)))
  obtain rfl := Option.some.inj h
  exact f_ret S Tryz.results21 rfl rfl
 ·replace h := iteF h hb1
  refine wp_skip (Tn (Fs (Fs (Fg (lv S (Rm (S.tm rfl)) rfl ?_)))));clear S;intro a S
  refine lv S (rn_lenT sl_26 (S.tm rfl) (slc_len Af)) rfl ?_;clear S;intro a S
  refine lv S (Rm rfl) rfl ?_;clear S;intro a S
  refine Ld (Tn ?_)
  replace S := S.nk [] [(0, V), (8, V), (9, iV (Z.length : Int)), (10, iV 0)] [] rfl (subR rfl)
  obtain ⟨j1, hj1, h⟩ := joinE h
  refine f_join (fun a w' => j1 = some r ∧ Sx w [] nov [] [(0, V)] 58 a w') ?_ ?_
  ·refine wp_block (f_loop (fun (ys1 : List GScored) a w' => ∃ i1 : Nat, (∃ dn, Z = dn ++ ys1 ∧ dn.length = i1) ∧ points_CheckScored_l1 Z j1 ys1 i1 = some r ∧ Sx w [] nov [] [(0, V), (8, V), (9, iV (Z.length : Int)), (10, iV (i1 : Int))] 58 a w') List.length Z ⟨0, ⟨[], rfl, rfl⟩, h, S.nf [] rfl (subR rfl)⟩ ?_)
   clear S h;rintro ys1 a w1 ⟨i1, ⟨dn, hd1, hi1⟩, h, S⟩
   cases ys1 with
   | nil =>
    rw [points_CheckScored_l1.eq_1] at h
    refine Fs (Fg (lv S (rn_lss (S.tm rfl) (S.tm rfl)) rfl ?_));clear S;intro a S
    refine Ld ?_
    replace S := S.nk [] [(0, V), (8, V), (9, iV (Z.length : Int)), (10, iV (i1 : Int)), (11, bV (decide ((i1 : Int) < (Z.length : Int))))] [] rfl (subR rfl)
    refine Tn (Fs (wp_cond_false ((S.tm rfl).trans (congrArg Value.bool (rng_nil hd1 hi1))) (wp_exit (then_x (then_x (x_same ?_))))))
    refine Tn ?_
    exact ⟨h, S.nf [] rfl ⟨rfl, trivial⟩⟩
   | cons y1 ys1 =>
    rw [points_CheckScored_l1.eq_2] at h
    refine Fs (Fg (lv S (rn_lss (S.tm rfl) (S.tm rfl)) rfl ?_));clear S;intro a S
    refine Ld ?_
    replace S := S.nk [] [(0, V), (8, V), (9, iV (Z.length : Int)), (10, iV (i1 : Int)), (11, bV (decide ((i1 : Int) < (Z.length : Int))))] [] rfl (subR rfl)
    refine Tn (Fs (wp_cond_true ((S.tm rfl).trans (congrArg Value.bool (rng_cons hd1 hi1))) (wp_skip (Tn (Fs (wp_block ?_))))))
    refine Fs (Fg (lv S (Rm (S.tm rfl)) rfl ?_));clear S;intro a S
    obtain ⟨b1, o1, hm1, hr1⟩ := rn_indexT (a := a) (x := .tmp 8) (y := .tmp 10) (ty := 0) sl_26 Af (get_mid hd1 hi1) rfl (S.tm rfl) (S.tm rfl)
    refine lv S (hr1 _) rfl ?_;clear S;intro a S
    clear hr1
    refine lv S (rn_ldA Tryz.isAgg38 Tryz.sizeOf38 (off := o1) (o := 0) (part := (GScored.enc y1)) rfl rfl (S.tm rfl) (hm1.at S.emb0)) rfl ?_;clear S;intro a S
    refine l_alloc S Tryz.zeroValue38 (cs := [sV k_empty, sV k_empty, sV k_empty, iV 0, bV false]) rfl rfl ?_;clear S;intro a w3 b2 hz1 hk1 S
    refine lv S (Ra (S.tm rfl)) rfl ?_;clear S;intro a S
    refine l_store S (S.tm rfl) (S.tm rfl) (i := 0) (off := 0) rfl Tryz.sizeOf38 (vs := (GScored.enc y1)) rfl rfl rfl rfl ?_;clear S;intro w4 hk2 S
    refine Ld (Tn (wp_block (Fs (Fg (lv S (rn_fld fa_38_0 (S.tm rfl)) rfl ?_)))));clear S;intro a S
    refine lv S (rn_load Tryz.isAgg9 (S.tm rfl) (S.cell (i := 0) rfl rfl)) rfl ?_;clear S;intro a S
    obtain ⟨r1, hr2, h⟩ := bindE h
    refine l_enter S (fun _ => run_call (vs := [sV y1.Race]) ⟨(S.tm rfl), trivial⟩ Tryz.call45) (words_IsKey_ok _ y1.Race _ hr2) rfl ?_;clear S;intro v1 a w5 hv1 hk3 hn1 S
    subst hv1
    refine lv S (rn_not (S.tm rfl)) rfl ?_;clear S;intro a S
    refine lv S (Rm (S.tm rfl)) rfl ?_;clear S;intro a S
    obtain ⟨j2, hj2, h⟩ := joinE h
    refine f_cutm 5 (fun a w' => ∃ c1, j2 c1 = some r ∧ Keep [] w5 w' ∧ Sx w [] nov [.blk b2 (GScored.enc y1) 38] [(0, V), (3, iV (i1 : Int)), (4, .pointer (some ⟨b2, 0, none⟩)), (8, V), (9, iV (Z.length : Int)), (10, iV (i1 : Int)), (25, bV c1)] 58 a w') ?_ ?_
    ·rcases Bool.eq_false_or_eq_true (!r1) with hb2 | hb2
     ·replace h := iteT h hb2
      iterate 4 (refine l_skip S rfl rfl rfl (neq_t hb2) rfl ?_ rfl;clear S;intro a S)
      refine lv S (rn_or_t true hb2 (S.tm rfl) rfl) rfl ?_;clear S;intro a S
      refine Ld (Tn ?_)
      exact ⟨_, h, Keep.refl _ _, S.nf [true] rfl (subR rfl)⟩
     ·replace h := iteF h hb2
      refine l_want S rfl rfl rfl hb2 (lv S (rn_fld fa_38_1 (S.tm rfl)) rfl ?_);clear S;intro a S
      refine l_want S rfl rfl rfl hb2 (lv S (rn_load Tryz.isAgg9 (S.tm rfl) (S.cell (i := 0) rfl rfl)) rfl ?_);clear S;intro a S
      refine l_want S rfl rfl rfl hb2 ?_
      obtain ⟨r2, hr3, h⟩ := bindE h
      refine l_enter S (fun _ => run_call (vs := [sV y1.Who]) ⟨(S.tm rfl), trivial⟩ Tryz.call45) (words_IsKey_ok _ y1.Who _ hr3) rfl ?_;clear S;intro v2 a w7 hv2 hk4 hn2 S
      subst hv2
      refine l_want S rfl rfl rfl hb2 (lv S (rn_not (S.tm rfl)) rfl ?_);clear S;intro a S
      refine lv S (rn_or_f hb2 (S.tm rfl) (S.tm rfl)) rfl ?_;clear S;intro a S
      refine Ld (Tn ?_)
      exact ⟨_, h, hk4, S.nf [true] rfl (subR rfl)⟩
    clear S h;rintro a w6 ⟨c1, h, hk5, S⟩;rw [hj2] at h;clear hj2 j2
    refine lv S (Rm (S.tm rfl)) rfl ?_;clear S;intro a S
    obtain ⟨j3, hj3, h⟩ := joinE h
    refine f_cutm 10 (fun a w' => ∃ c2, j3 c2 = some r ∧ Keep [] w6 w' ∧ Sx w [] nov [.blk b2 (GScored.enc y1) 38] [(0, V), (3, iV (i1 : Int)), (4, .pointer (some ⟨b2, 0, none⟩)), (8, V), (9, iV (Z.length : Int)), (10, iV (i1 : Int)), (36, bV c2)] 58 a w') ?_ ?_
    ·rcases Bool.eq_false_or_eq_true c1 with hb3 | hb3
     ·replace h := iteT h hb3
      iterate 4 (refine l_skip S rfl rfl rfl (neq_t hb3) rfl ?_ rfl;clear S;intro a S)
      iterate 4 (refine l_skipU S rfl rfl rfl rfl ?_;clear S;intro a S)
      refine l_skip S rfl rfl rfl (neq_t hb3) rfl ?_ rfl;clear S;intro a S
      refine lv S (rn_or_t true hb3 (S.tm rfl) rfl) rfl ?_;clear S;intro a S
      refine Ld (Tn ?_)
      exact ⟨_, h, Keep.refl _ _, S.nf [true] rfl (subR rfl)⟩
     ·replace h := iteF h hb3
      refine l_want S rfl rfl rfl hb3 (lv S (rn_fld fa_38_2 (S.tm rfl)) rfl ?_);clear S;intro a S
      refine l_want S rfl rfl rfl hb3 (lv S (rn_load Tryz.isAgg9 (S.tm rfl) (S.cell (i := 0) rfl rfl)) rfl ?_);clear S;intro a S
      refine l_want S rfl rfl rfl hb3 (lv S (rn_sneq (S.tm rfl) rfl) rfl ?_);clear S;intro a S
      refine l_want S rfl rfl rfl hb3 (lv S (Rm (S.tm rfl)) rfl ?_);clear S;intro a S
      obtain ⟨j4, hj4, h⟩ := joinE h
      refine f_cutm 5 (fun a w' => ∃ c3, j4 c3 = some r ∧ Keep [] w6 w' ∧ Sx w [] nov [.blk b2 (GScored.enc y1) 38] [(0, V), (3, iV (i1 : Int)), (4, .pointer (some ⟨b2, 0, none⟩)), (8, V), (9, iV (Z.length : Int)), (10, iV (i1 : Int)), (26, bV c1), (27, .pointer (some ⟨b2, 2, none⟩)), (28, sV y1.Club), (29, bV (!decide (y1.Club = k_empty))), (30, bV (!decide (y1.Club = k_empty))), (35, bV c3)] 58 a w') ?_ ?_
      ·rcases Bool.eq_false_or_eq_true (!decide (y1.Club = k_empty)) with hb4 | hb4
       ·replace h := iteT h hb4
        refine l_want S rfl rfl rfl hb4 (lv S (rn_fld fa_38_2 (S.tm rfl)) rfl ?_);clear S;intro a S
        refine l_want S rfl rfl rfl hb4 (lv S (rn_load Tryz.isAgg9 (S.tm rfl) (S.cell (i := 0) rfl rfl)) rfl ?_);clear S;intro a S
        refine l_want S rfl rfl rfl hb4 ?_
        obtain ⟨r3, hr4, h⟩ := bindE h
        refine l_enter S (fun _ => run_call (vs := [sV y1.Club]) ⟨(S.tm rfl), trivial⟩ Tryz.call45) (words_IsKey_ok _ y1.Club _ hr4) rfl ?_;clear S;intro v3 a w10 hv3 hk6 hn3 S
        subst hv3
        refine l_want S rfl rfl rfl hb4 (lv S (rn_not (S.tm rfl)) rfl ?_);clear S;intro a S
        refine l_want S rfl rfl rfl hb3 (lv S (rn_and_t hb4 (S.tm rfl) (S.tm rfl)) rfl ?_);clear S;intro a S
        refine Ld (Tn ?_)
        exact ⟨_, h, hk6, S.nf [true] rfl (subR rfl)⟩
       ·replace h := iteF h hb4
        iterate 4 (refine l_skip S rfl rfl rfl (neq_f hb4) rfl ?_ rfl;clear S;intro a S)
        refine l_want S rfl rfl rfl hb3 (lv S (rn_and_f true hb4 (S.tm rfl) rfl) rfl ?_);clear S;intro a S
        refine Ld (Tn ?_)
        exact ⟨_, h, Keep.refl _ _, S.nf [true] rfl (subR rfl)⟩
      clear S h;rintro a w9 ⟨c3, h, hk7, S⟩;rw [hj4] at h;clear hj4 j4
      refine lv S (rn_or_f hb3 (S.tm rfl) (S.tm rfl)) rfl ?_;clear S;intro a S
      refine Ld (Tn ?_)
      exact ⟨_, h, hk7, S.nf [true] rfl (subR rfl)⟩
    clear S h;rintro a w8 ⟨c2, h, hk8, S⟩;rw [hj3] at h;clear hj3 j3
    refine lv S (Ra (S.tm rfl)) rfl ?_;clear S;intro a S
    refine Ld (Tn (f_cond (S.tm rfl) (fun hb5 => ?_) (fun hb5 => ?_)))
    ·replace h := iteT h hb5
     refine Fs (Fg (lv S (Ra rfl) rfl ?_));clear S;intro a S
     refine Ld (Tn (wp_ret (blk_r (blk_r (then_r (then_r ?_))))))
     refine blk_r (then_r (then_r ?_))
     obtain rfl := Option.some.inj h
     exact f_ret S Tryz.results21 rfl rfl
    ·replace h := iteF h hb5
     refine Fs (Fg (lv S (rn_fld fa_38_3 (S.tm rfl)) rfl ?_));clear S;intro a S
     refine lv S (rn_load Tryz.isAgg3 (S.tm rfl) (S.cell (i := 0) rfl rfl)) rfl ?_;clear S;intro a S
     refine l_enter S (fun _ => run_call (vs := [iV y1.Rank, iV 0, iV 300]) ⟨(S.tm rfl), rfl, rfl, trivial⟩ Tryz.call46) (words_Within_ok _ y1.Rank 0 300 _ rfl) rfl ?_;clear S;intro v4 a w11 hv4 hk9 hn4 S
     subst hv4
     refine lv S (rn_not (S.tm rfl)) rfl ?_;clear S;intro a S
     refine lv S (Ra (S.tm rfl)) rfl ?_;clear S;intro a S
     refine Ld (Tn (f_cond (S.tm rfl) (fun hb6 => ?_) (fun hb6 => ?_)))
     ·replace h := iteT h hb6
      refine Fs (Fg (lv S (Ra rfl) rfl ?_));clear S;intro a S
      refine Ld (Tn (wp_ret (blk_r (blk_r (then_r (then_r ?_))))))
      refine blk_r (then_r (then_r ?_))
      obtain rfl := Option.some.inj h
      exact f_ret S Tryz.results21 rfl rfl
     ·replace h := iteF h hb6
      refine Fs ?_
      obtain ⟨j5, hj5, h⟩ := joinE h
      refine f_join (fun a w' => ∃ x1 : Bool, j5 x1 = some r ∧ Sx w [] nov [] [(0, V), (8, V), (9, iV (Z.length : Int)), (10, iV (i1 : Int)), (42, bV x1)] 58 a w') ?_ ?_
      ·rcases Bool.eq_false_or_eq_true (decide (0 < (i1 : Int))) with hb7 | hb7
       ·replace h := iteT h hb7
        obtain ⟨hc1, h⟩ := chkE h
        refine d_region [] ([]) Tryz.mixed S rfl (by kernel_rfl) ?_;clear S;intro w14 hk11 hsel S
        refine d_quiet 0 S hsel rfl rfl rfl (by kernel_rfl) (by kernel_rfl) rfl (fun _ hw => (Rm (S.tm rfl))) ?_;clear S;intro a S
        refine d_quiet 1 S hsel rfl rfl rfl (by kernel_rfl) (by kernel_rfl) rfl (fun _ hw => (rn_gtr (S.tm rfl) rfl)) ?_;clear S;intro a S
        refine d_quiet 2 S hsel rfl rfl rfl (by kernel_rfl) (by kernel_rfl) rfl (fun _ hw => (Rm (S.tm rfl))) ?_;clear S;intro a S
        refine d_quiet_g 3 S hsel rfl rfl rfl rfl hb7 rfl rfl (by kernel_rfl) (by kernel_rfl) rfl (fun _ hw => (Rm (S.tm rfl))) ?_;clear S;intro a S
        refine d_quiet_g 4 S hsel rfl rfl rfl rfl hb7 rfl rfl (by kernel_rfl) (by kernel_rfl) rfl (fun _ hw => (Rm (S.tm rfl))) ?_;clear S;intro a S
        refine d_quiet_g 5 S hsel rfl rfl rfl rfl hb7 rfl rfl (by kernel_rfl) (by kernel_rfl) rfl (fun _ hw => (rn_sub (S.tm rfl) rfl)) ?_;clear S;intro a S
        obtain ⟨b4, o3, hm3, hr6⟩ := rn_indexT (a := a) (x := .tmp 46) (y := .tmp 48) (ty := 0) sl_26 (Af.mono (S.le_arg nil_sub)) (inB_get hc1).1 (inB_get hc1).2 (S.tm rfl) (S.tm rfl)
        refine d_quiet_g 6 S hsel rfl rfl rfl rfl hb7 rfl rfl (by kernel_rfl) (by kernel_rfl) rfl (fun _ hw => hr6 _) ?_;clear S;intro a S
        clear hr6
        refine d_quiet_g 7 S hsel rfl rfl rfl rfl hb7 rfl rfl (by kernel_rfl) (by kernel_rfl) rfl (fun _ hw => (rn_ldA Tryz.isAgg38 Tryz.sizeOf38 (off := o3) (o := 0) (part := (GScored.enc (nth Z (W ((i1 : Int) - 1))))) rfl rfl (S.tm rfl) (hm3.kept hw))) ?_;clear S;intro a S
        refine d_quiet_g 8 S hsel rfl rfl rfl rfl hb7 rfl rfl (by kernel_rfl) (by kernel_rfl) rfl (fun _ hw => (rn_ldA Tryz.isAgg38 Tryz.sizeOf38 (off := 0) (o := 0) (part := (GScored.enc y1)) rfl rfl (S.tm rfl) ((S.blk_mem (i := 0) (cells := (GScored.enc y1)) (b := b2) (T := 38) rfl (ne_nil (e' := .blk b2 (GScored.enc y1) 38))).kept hw))) ?_;clear S;intro a S
        refine d_loud1 9 (by kernel_rfl) rfl (l_want S rfl rfl rfl hb7 (l_enter S (fun _ => run_call (vs := [.agg (GScored.enc (nth Z (W ((i1 : Int) - 1)))).toArray, .agg (GScored.enc y1).toArray]) ⟨(S.tm rfl), (S.tm rfl), trivial⟩ Tryz.call47) (points_compare_ok _ (nth Z (W ((i1 : Int) - 1))) y1 _ rfl) rfl ?_));clear S;intro v6 a w15 hv6 hk12 hn6 S
        subst hv6
        refine Ld (d_next hk12 (d_rest [10, 11, 12] hsel (by kernel_rfl) rfl ?_))
        clear hsel
        refine s_want S rfl rfl rfl rfl hb7 (s_lv0 S (rn_geq (S.tm rfl) rfl) rfl ?_);clear S;intro a S
        refine s_lv S rfl (rn_pick_b hb7 (S.tm rfl) (S.tm rfl)) rfl ?_;clear S;intro a S
        refine s_lv S rfl (Ra (S.tm rfl)) rfl ?_;clear S;intro a S
        refine s_done ?_
        replace S := S.nk [] [(0, V), (8, V), (9, iV (Z.length : Int)), (10, iV (i1 : Int)), (42, bV (decide (0 ≤ (points_compare (nth Z (W ((i1 : Int) - 1))) y1)))), (46, V), (47, iV (i1 : Int)), (48, iV (W ((i1 : Int) - 1))), (49, .pointer (some ⟨b4, o3, none⟩)), (50, .agg (GScored.enc (nth Z (W ((i1 : Int) - 1)))).toArray), (51, .agg (GScored.enc y1).toArray), (52, iV (points_compare (nth Z (W ((i1 : Int) - 1))) y1)), (53, bV (decide (0 ≤ (points_compare (nth Z (W ((i1 : Int) - 1))) y1))))] [false] rfl (subR rfl)
        refine Tn ?_
        exact ⟨decide (0 ≤ (points_compare (nth Z (W ((i1 : Int) - 1))) y1)), h, S.nf [] rfl (subR rfl)⟩
       ·replace h := iteF h hb7
        refine d_region [] ([]) Tryz.mixed S rfl (by kernel_rfl) ?_;clear S;intro w16 hk13 hsel S
        refine d_rest [0, 1, 2, 3, 4, 5, 6, 7, 8, 9, 10, 11, 12] hsel (by kernel_rfl) rfl ?_
        clear hsel
        refine s_lv S rfl (Rm (S.tm rfl)) rfl ?_;clear S;intro a S
        refine s_lv S rfl (rn_gtr (S.tm rfl) rfl) rfl ?_;clear S;intro a S
        refine s_lv S rfl (Rm (S.tm rfl)) rfl ?_;clear S;intro a S
        iterate 8 (refine s_skip S rfl rfl rfl rfl (neq_f hb7) rfl ?_ rfl;clear S;intro a S)
        refine s_lv S rfl (rn_pick_c hb7 (S.tm rfl) rfl) rfl ?_;clear S;intro a S
        refine s_lv S rfl (Ra (S.tm rfl)) rfl ?_;clear S;intro a S
        refine s_done ?_
        replace S := S.nk [] [(0, V), (8, V), (9, iV (Z.length : Int)), (10, iV (i1 : Int)), (42, bV false)] [false] rfl (subR rfl)
        refine Tn ?_
        exact ⟨false, h, S.nf [] rfl (subR rfl)⟩
      clear S h;rintro a w12 ⟨x1, h, S⟩;rw [hj5] at h;clear hj5 j5
      refine Tn (f_cond (S.tm rfl) (fun hb8 => ?_) (fun hb8 => ?_))
      ·replace h := iteT h hb8
       refine Fs (Fg (lv S (Ra rfl) rfl ?_));clear S;intro a S
       refine Ld (Tn (wp_ret (blk_r (blk_r (then_r (then_r ?_))))))
       refine blk_r (then_r (then_r ?_))
       obtain rfl := Option.some.inj h
       exact f_ret S Tryz.results21 rfl rfl
      ·replace h := iteF h hb8
       refine wp_skip (blk_n (blk_n (Tn (Fg (lv S (rn_add (S.tm rfl) rfl) rfl ?_)))));clear S;intro a S
       refine lv S (Rm (S.tm rfl)) rfl ?_;clear S;intro a S
       refine Ld (Tn ?_)
       exact ⟨ys1, ⟨i1 + 1, ⟨_, (hd1).trans (List.append_cons _ _ _), by simp [hi1]⟩, h, S.nf [] rfl ⟨rfl, rfl, rfl, (congrArg (fun z => some (Value.int .i64 z)) (rng_next hd1 hi1 (slc_max Af))), trivial⟩⟩, Nat.lt_succ_self _⟩
  clear S h;rintro a w2 ⟨h, S⟩;rw [hj1] at h;clear hj1 j1
  refine Tn (Fs (Fg (lv S (Rm (S.tm rfl)) rfl ?_)));clear S;intro a S
  obtain ⟨r4, hr7, h⟩ := bindE h
  refine l_enter S (fun _ => run_call (vs := [V]) ⟨(S.tm rfl), trivial⟩ Tryz.call48) (points_checkAll_ok _ V Z (Af.mono (S.le_arg nil_sub)) _ hr7) rfl ?_;clear S;intro v7 a w17 hv7 hk14 hn7 S
  subst hv7
  refine lv S (Ra (S.tm rfl)) rfl ?_;clear S;intro a S
  refine Ld (Tn (wp_ret ?_))
  obtain rfl := Option.some.inj h
  exact f_ret S Tryz.results21 rfl rfl
theorem words_Dash_ok (w : World) (Ac : ByteArray) (r : ByteArray) (h : words_Dash Ac = r) :
    Calls Tryz.prog 24 [sV Ac].toArray w (Ret w [] fun _ v _ => v = sV r) := by
 refine f_enter [] [] Tryz.func24 rfl Tryz.ntmps24 rfl (by simp) (by simp [fps]) (by simp [fps]) fun a S => ?_
 unfold words_Dash at h
 replace S := S.nk [] [(0, sV Ac)] [] rfl ⟨rfl, trivial⟩
 refine Fs (Fg (lv S (Ra rfl) rfl ?_));clear S;intro a S
 refine Ld (Tn (Fs (Fs (Fg (lv S (Rm (S.tm rfl)) rfl ?_)))));clear S;intro a S
 refine lv S (rn_seql (S.tm rfl) rfl) rfl ?_;clear S;intro a S
 refine Ld (Tn (f_cond (S.tm rfl) (fun hb1 => ?_) (fun hb1 => ?_)))
 ·replace h := iteT h hb1
  refine Fs (Fg (lv S (Ra rfl) rfl ?_));clear S;intro a S
  refine Ld (Tn (wp_ret (then_r ?_)))
  subst h
  exact f_ret S Tryz.results24 rfl rfl
 ·replace h := iteF h hb1
  refine wp_skip (Tn (Fs (Fg (lv S (Rm (S.tm rfl)) rfl ?_))));clear S;intro a S
  refine lv S (Ra (S.tm rfl)) rfl ?_;clear S;intro a S
  refine Ld (Tn (wp_ret ?_))
  subst h
  exact f_ret S Tryz.results24 rfl rfl
theorem points_Text_ok (w : World) (V : Value) (Z : List GScored) (Af : Slc (view w []) 5 V (Z.map GScored.enc)) (hg_pow10 : Glob (view w []) 3 pow10Cells) (r : ByteArray × Int) (h : points_Text Z = some r) :
    Calls Tryz.prog 6 [V].toArray w (Ret w [] fun _ v _ => v = .tuple #[sV r.1, iV r.2]) := by
 refine f_enter [] [] Tryz.func6 rfl Tryz.ntmps6 rfl (by simp) (by simp [fps]) (by simp [fps]) fun a S => ?_
 unfold points_Text at h
 replace S := S.nk [] [(0, V)] [] rfl ⟨rfl, trivial⟩
 refine Fs (Fg (lv S (Ra rfl) rfl ?_));clear S;intro a S
 refine lv S (Ra rfl) rfl ?_;clear S;intro a S
 refine Ld (Tn (Fs (Fs (Fg (lv S (Rm (S.tm rfl)) rfl ?_)))));clear S;intro a S
 obtain ⟨r1, hr1, h⟩ := bindE h
 refine l_enter S (fun _ => run_call (vs := [V]) ⟨(S.tm rfl), trivial⟩ Tryz.call21) (points_CheckScored_ok _ V Z (Af.mono (S.le_arg nil_sub)) _ hr1) rfl ?_;clear S;intro v1 a w1 hv1 hk1 hn1 S
 subst hv1
 refine lv S (Ra (S.tm rfl)) rfl ?_;clear S;intro a S
 refine Ld (Tn (Fs (Fg (lv S (Rm (S.tm rfl)) rfl ?_))));clear S;intro a S
 refine lv S (rn_neq (S.tm rfl) rfl) rfl ?_;clear S;intro a S
 refine Ld (Tn (f_cond (S.tm rfl) (fun hb1 => ?_) (fun hb1 => ?_)))
 ·replace h := iteT h hb1
  refine Fs (Fg (lv S (Rm (S.tm rfl)) rfl ?_));clear S;intro a S
  refine lv S (Ra rfl) rfl ?_;clear S;intro a S
  refine lv S (Ra (S.tm rfl)) rfl ?_;clear S;intro a S
  refine Ld (Tn (wp_ret (then_r ?_)))
  obtain rfl := Option.some.inj h
  exact f_ret2 S Tryz.results6 rfl rfl rfl
 ·replace h := iteF h hb1
  refine wp_skip (Tn (Fs (Fg (l_alloc S Tryz.zeroValue51 (cs := [.pointer none, .slice none 0 0]) rfl rfl ?_))));clear S;intro a w2 b1 hz1 hk2 S
  replace S := S.newB 5
  refine Ld (Tn (Fs (Fs (Fg (lv S (Rm (S.tm rfl)) rfl ?_)))));clear S;intro a S
  refine lv S (rn_lenT sl_26 (S.tm rfl) (slc_len Af)) rfl ?_;clear S;intro a S
  refine lv S (Rm rfl) rfl ?_;clear S;intro a S
  refine Ld (Tn ?_)
  replace S := S.nk [.ownF (.slice none 0 0) 5 ByteArray.empty.size (Lib.strCells ByteArray.empty), .blk b1 [selfP b1 false, (.slice none 0 0)] 51] [(5, .pointer (some ⟨b1, 0, none⟩)), (14, V), (15, iV (Z.length : Int)), (16, iV 0)] [true, true] rfl (subR rfl)
  obtain ⟨j1, hj1, h⟩ := joinE h
  refine f_join (fun a w' => ∃ x1 : ByteArray, ∃ x2 : Bool, ∃ v2 : Value, j1 x1 x2 = some r ∧ Sx w [] nov [.ownF v2 5 x1.size (Lib.strCells x1), .blk b1 [selfP b1 x2, v2] 51] [(5, .pointer (some ⟨b1, 0, none⟩))] 41 a w') ?_ ?_
  ·refine wp_block (f_loop (fun (ys1 : List GScored) a w' => ∃ i1 : Nat, ∃ x1 : ByteArray, ∃ x2 : Bool, ∃ v2 : Value, (∃ dn, Z = dn ++ ys1 ∧ dn.length = i1) ∧ points_Text_l1 j1 ys1 i1 x1 x2 = some r ∧ Sx w [] nov [.ownF v2 5 x1.size (Lib.strCells x1), .blk b1 [selfP b1 x2, v2] 51] [(5, .pointer (some ⟨b1, 0, none⟩)), (14, V), (15, iV (Z.length : Int)), (16, iV (i1 : Int))] 41 a w') List.length Z ⟨0, ByteArray.empty, false, (.slice none 0 0), ⟨[], rfl, rfl⟩, h, S.nf [true, true] rfl (subR rfl)⟩ ?_)
   clear S h;rintro ys1 a w3 ⟨i1, x1, x2, v2, ⟨dn, hd1, hi1⟩, h, S⟩
   cases ys1 with
   | nil =>
    rw [points_Text_l1.eq_1] at h
    refine Fs (Fg (lv S (rn_lss (S.tm rfl) (S.tm rfl)) rfl ?_));clear S;intro a S
    refine Ld ?_
    replace S := S.nk [.ownF v2 5 x1.size (Lib.strCells x1), .blk b1 [selfP b1 x2, v2] 51] [(5, .pointer (some ⟨b1, 0, none⟩)), (14, V), (15, iV (Z.length : Int)), (16, iV (i1 : Int)), (17, bV (decide ((i1 : Int) < (Z.length : Int))))] [true, true] rfl (subR rfl)
    refine Tn (Fs (wp_cond_false ((S.tm rfl).trans (congrArg Value.bool (rng_nil hd1 hi1))) (wp_exit (then_x (then_x (x_same ?_))))))
    refine Tn ?_
    exact ⟨x1, x2, v2, h, S.nf [true, true] rfl ⟨rfl, trivial⟩⟩
   | cons y1 ys1 =>
    rw [points_Text_l1.eq_2] at h
    refine Fs (Fg (lv S (rn_lss (S.tm rfl) (S.tm rfl)) rfl ?_));clear S;intro a S
    refine Ld ?_
    replace S := S.nk [.ownF v2 5 x1.size (Lib.strCells x1), .blk b1 [selfP b1 x2, v2] 51] [(5, .pointer (some ⟨b1, 0, none⟩)), (14, V), (15, iV (Z.length : Int)), (16, iV (i1 : Int)), (17, bV (decide ((i1 : Int) < (Z.length : Int))))] [true, true] rfl (subR rfl)
    refine Tn (Fs (wp_cond_true ((S.tm rfl).trans (congrArg Value.bool (rng_cons hd1 hi1))) (wp_skip (Tn (Fs (wp_block ?_))))))
    refine Fs (Fg ?_)
    obtain ⟨b2, o1, hm1, hr2⟩ := rn_indexT (a := a) (x := .tmp 14) (y := .tmp 16) (ty := 0) sl_26 Af (get_mid hd1 hi1) rfl (S.tm rfl) (S.tm rfl)
    refine lv S (hr2 _) rfl ?_;clear S;intro a S
    clear hr2
    refine lv S (rn_ldA Tryz.isAgg38 Tryz.sizeOf38 (off := o1) (o := 0) (part := (GScored.enc y1)) rfl rfl (S.tm rfl) (hm1.at S.emb0)) rfl ?_;clear S;intro a S
    refine l_alloc S Tryz.zeroValue38 (cs := [sV k_empty, sV k_empty, sV k_empty, iV 0, bV false]) rfl rfl ?_;clear S;intro a w5 b3 hz2 hk3 S
    refine l_store S (S.tm rfl) (S.tm rfl) (i := 0) (off := 0) rfl Tryz.sizeOf38 (vs := (GScored.enc y1)) rfl rfl rfl rfl ?_;clear S;intro w6 hk4 S
    refine Ld (Tn (Fs (Fg (lv S (Ra rfl) rfl ?_))));clear S;intro a S
    refine Ld (Tn (Fs (Fs (Fg (lv S (rn_fld fa_38_4 (S.tm rfl)) rfl ?_)))));clear S;intro a S
    refine lv S (rn_load Tryz.isAgg4 (S.tm rfl) (S.cell (i := 0) rfl rfl)) rfl ?_;clear S;intro a S
    refine Ld (Tn ?_)
    obtain ⟨j2, hj2, h⟩ := joinE h
    refine f_join (fun a w' => ∃ x3 : ByteArray, j2 x3 = some r ∧ Sx w [] nov [.blk b3 (GScored.enc y1) 38, .ownF v2 5 x1.size (Lib.strCells x1), .blk b1 [selfP b1 x2, v2] 51] [(5, .pointer (some ⟨b1, 0, none⟩)), (7, .pointer (some ⟨b3, 0, none⟩)), (8, sV x3), (14, V), (15, iV (Z.length : Int)), (16, iV (i1 : Int))] 41 a w') ?_ ?_
    ·refine f_cond (S.tm rfl) (fun hb2 => ?_) (fun hb2 => ?_)
     ·replace h := iteT h hb2
      refine Fg (lv S (Ra rfl) rfl ?_);clear S;intro a S
      refine Ld (Tn ?_)
      exact ⟨k_r, h, S.nf [true, true, true] rfl (subR rfl)⟩
     ·replace h := iteF h hb2
      refine wp_skip (Tn ?_)
      exact ⟨k_s, h, S.nf [true, true, true] rfl (subR rfl)⟩
    clear S h;rintro a w7 ⟨x3, h, S⟩;rw [hj2] at h;clear hj2 j2
    refine Tn ?_
    obtain ⟨r2, hr3, h⟩ := bindE h
    obtain ⟨r3, hr4, h⟩ := bindE h
    obtain ⟨hc1, h⟩ := chkE h
    obtain ⟨hc2, h⟩ := chkE h
    refine d_region [14] ([]) Tryz.mixed S rfl (by kernel_rfl) ?_;clear S;intro w13 hk9 hsel S
    refine d_pure 0 S hsel rfl rfl (by kernel_rfl) (by kernel_rfl) rfl (fun _ => (rn_fld fa_38_0 (S.tm rfl))) ?_;clear S;intro a S
    refine d_quietT 1 S hsel rfl (f := 40) (by kernel_rfl) (by kernel_rfl) (by kernel_rfl) (by kernel_rfl) (by kernel_rfl) rfl (fun _ hw => (rn_ld Tryz.isAgg9 (off := 0) (o := 0) (S.tm rfl) ((S.blk_mem (i := 0) (cells := (GScored.enc y1)) (b := b3) (T := 38) rfl (ne_nil (e' := .blk b3 (GScored.enc y1) 38))).kept hw) rfl)) ?_;clear S;intro a S
    refine d_pure 2 S hsel rfl rfl (by kernel_rfl) (by kernel_rfl) rfl (fun _ => (rn_fld fa_38_1 (S.tm rfl))) ?_;clear S;intro a S
    refine d_quietT 3 S hsel rfl (f := 40) (by kernel_rfl) (by kernel_rfl) (by kernel_rfl) (by kernel_rfl) (by kernel_rfl) rfl (fun _ hw => (rn_ld Tryz.isAgg9 (off := 0) (o := 1) (S.tm rfl) ((S.blk_mem (i := 0) (cells := (GScored.enc y1)) (b := b3) (T := 38) rfl (ne_nil (e' := .blk b3 (GScored.enc y1) 38))).kept hw) rfl)) ?_;clear S;intro a S
    refine d_pure 4 S hsel rfl rfl (by kernel_rfl) (by kernel_rfl) rfl (fun _ => (rn_fld fa_38_2 (S.tm rfl))) ?_;clear S;intro a S
    refine d_quietT 5 S hsel rfl (f := 40) (by kernel_rfl) (by kernel_rfl) (by kernel_rfl) (by kernel_rfl) (by kernel_rfl) rfl (fun _ hw => (rn_ld Tryz.isAgg9 (off := 0) (o := 2) (S.tm rfl) ((S.blk_mem (i := 0) (cells := (GScored.enc y1)) (b := b3) (T := 38) rfl (ne_nil (e' := .blk b3 (GScored.enc y1) 38))).kept hw) rfl)) ?_;clear S;intro a S
    refine d_pure 7 S hsel rfl rfl (by kernel_rfl) (by kernel_rfl) rfl (fun _ => (rn_fld fa_38_3 (S.tm rfl))) ?_;clear S;intro a S
    refine d_quietT 8 S hsel rfl (f := 40) (by kernel_rfl) (by kernel_rfl) (by kernel_rfl) (by kernel_rfl) (by kernel_rfl) rfl (fun _ hw => (rn_ld Tryz.isAgg3 (off := 0) (o := 3) (S.tm rfl) ((S.blk_mem (i := 0) (cells := (GScored.enc y1)) (b := b3) (T := 38) rfl (ne_nil (e' := .blk b3 (GScored.enc y1) 38))).kept hw) rfl)) ?_;clear S;intro a S
    refine d_pure 10 S hsel rfl rfl (by kernel_rfl) (by kernel_rfl) rfl (fun _ => (Rm (S.tm rfl))) ?_;clear S;intro a S
    refine d_loud1 6 (by kernel_rfl) rfl (l_enter S (fun _ => run_call (vs := [sV y1.Club]) ⟨(S.tm rfl), trivial⟩ Tryz.call24) (words_Dash_ok _ y1.Club _ rfl) rfl ?_);clear S;intro v7 a w14 hv5 hk10 hn5 S
    subst hv5
    refine Ld (d_next hk10 (d_loud1 9 (by kernel_rfl) rfl (l_enter S (fun _ => run_call (vs := [iV y1.Rank]) ⟨(S.tm rfl), trivial⟩ Tryz.call25) (strconv_Itoa_ok _ y1.Rank (hg_pow10.mono (S.le_arg nil_sub)) _ hr3) rfl ?_)));clear S;intro v8 a w15 hv6 hk11 hn6 S
    subst hv6
    refine Ld (d_next hk11 (d_loud1 11 (by kernel_rfl) rfl (l_buildSlice S Tryz.underlying59 Tryz.sizeOf9 Tryz.zeroValue9 rfl rfl (pv := [(0, sV y1.Race), (1, sV y1.Who), (2, sV (words_Dash y1.Club)), (3, sV r2), (4, sV x3)]) ⟨rfl, (S.tm rfl), rfl, (S.tm rfl), rfl, (S.tm rfl), rfl, (S.tm rfl), rfl, (S.tm rfl), trivial⟩ (cs := [sV y1.Race, sV y1.Who, sV (words_Dash y1.Club), sV r2, sV x3]) (by kernel_rfl) rfl ?_)));clear S;intro a w16 b5 hz4 hk12 S
    refine Ld (d_next hk12 (d_loud1 12 (by kernel_rfl) rfl (l_enter S (fun _ => run_call (vs := [.slice (some ⟨b5, 0, none⟩) 5 5, sV k__20]) ⟨(S.tm rfl), rfl, trivial⟩ Tryz.call23) (strings_Join_ok _ (.slice (some ⟨b5, 0, none⟩) 5 5) [y1.Race, y1.Who, (words_Dash y1.Club), r2, x3] (lit_slcT enc_str S (i := 0) rfl rfl rfl rfl ((ne_nil (e' := .blk b5 [sV y1.Race, sV y1.Who, sV (words_Dash y1.Club), sV r2, sV x3] 9)) _ rfl)) k__20 _ hr4) rfl ?_)));clear S;intro v9 a w17 hv7 hk13 hn7 S
    subst hv7
    refine Ld (d_next hk13 ?_)
    refine d_pure 13 S hsel rfl rfl (by kernel_rfl) (by kernel_rfl) rfl (fun _ => (rn_sadd (m := r3) (n := k__0a) (S.tm rfl) rfl (by have := room_lt hc1;omega))) ?_;clear S;intro a S
    refine d_loudB 14 ([]) rfl (by kernel_rfl) rfl (l_bwrite (b := b1) (dd := x2) (v := v2) (x := x1) (s := r3 ++ k__0a) (Lr := [.blk b5 [sV y1.Race, sV y1.Who, sV (words_Dash y1.Club), sV r2, sV x3] 9, .blk b3 (GScored.enc y1) 38]) Tryz.lays166 Tryz.bx166 [3, 2] [0, 1] S rfl rfl rfl rfl rfl (fun _ => run_call (vs := [.pointer (some ⟨b1, 0, none⟩), sV (r3 ++ k__0a)]) ⟨(S.tm rfl), (S.tm rfl), trivial⟩ Tryz.call22) rfl hc2 ?_);clear S;intro v10 a w18 S
    refine Ld (d_nextB (d_end (by kernel_rfl) ?_))
    clear hsel
    replace S := S.nk [.blk b1 [selfP b1 true, v10] 51, .ownF v10 5 (x1 ++ (r3 ++ k__0a)).size (Lib.strCells (x1 ++ (r3 ++ k__0a)))] [(5, .pointer (some ⟨b1, 0, none⟩)), (14, V), (15, iV (Z.length : Int)), (16, iV (i1 : Int))] [true, true, false, false] rfl (subR rfl)
    refine blk_n (Tn (Fg (lv S (rn_add (S.tm rfl) rfl) rfl ?_)));clear S;intro a S
    refine lv S (Rm (S.tm rfl)) rfl ?_;clear S;intro a S
    refine Ld (Tn ?_)
    exact ⟨ys1, ⟨i1 + 1, (x1 ++ (r3 ++ k__0a)), true, v10, ⟨_, (hd1).trans (List.append_cons _ _ _), by simp [hi1]⟩, h, S.pn [1, 0] [] rfl rfl ⟨rfl, rfl, rfl, (congrArg (fun z => some (Value.int .i64 z)) (rng_next hd1 hi1 (slc_max Af))), trivial⟩⟩, Nat.lt_succ_self _⟩
  clear S h;rintro a w4 ⟨x1, x2, v2, h, S⟩;rw [hj1] at h;clear hj1 j1
  refine Tn (Fs (Fs (Fg (l_blen (b := b1) (dd := x2) (v := v2) (x := x1) (Lr := []) Tryz.lays170 [1, 0] [] S rfl rfl rfl rfl rfl (fun _ => run_call (vs := [.pointer (some ⟨b1, 0, none⟩)]) ⟨(S.tm rfl), trivial⟩ Tryz.call26) rfl ?_))));clear S;intro a S
  refine lv S (rn_gtr (S.tm rfl) rfl) rfl ?_;clear S;intro a S
  refine Ld (Tn (f_cond (S.tm rfl) (fun hb3 => ?_) (fun hb3 => ?_)))
  ·replace h := iteT h hb3
   refine Fs (Fg (lv S (Ra rfl) rfl ?_));clear S;intro a S
   refine lv S (Ra rfl) rfl ?_;clear S;intro a S
   refine Ld (Tn (wp_ret (then_r ?_)))
   obtain rfl := Option.some.inj h
   exact f_ret2 S Tryz.results6 rfl rfl rfl
  ·replace h := iteF h hb3
   refine wp_skip (Tn (Fs (Fg (l_bstr (b := b1) (dd := x2) (v := v2) (x := x1) (Lr := []) Tryz.lays169 Tryz.bx169 [1, 0] [] S rfl rfl rfl rfl (fun _ => run_call (vs := [.pointer (some ⟨b1, 0, none⟩)]) ⟨(S.tm rfl), trivial⟩ Tryz.call27) rfl ?_))));clear S;intro a w19 S
   refine lv S (Ra (S.tm rfl)) rfl ?_;clear S;intro a S
   refine lv S (Ra rfl) rfl ?_;clear S;intro a S
   refine Ld (Tn (wp_ret ?_))
   obtain rfl := Option.some.inj h
   exact f_ret2 S Tryz.results6 rfl rfl rfl
theorem tumbref2_in_ok (w : World) (Ax : Int) (Au : Int) (As : Int) (r : Bool) (h : tumbref2_in Ax Au As = r) :
    Calls Tryz.prog 29 [iV Ax, iV Au, iV As].toArray w (Ret w [] fun _ v _ => v = bV r) := by
 refine f_enter [] [] Tryz.func29 rfl Tryz.ntmps29 rfl (by simp) (by simp [fps]) (by simp [fps]) fun a S => ?_
 unfold tumbref2_in at h
 replace S := S.nk [] [(0, iV Ax), (1, iV Au), (2, iV As)] [] rfl (subR rfl)
 refine Fs (Fg (lv S (Ra rfl) rfl ?_));clear S;intro a S
 refine Ld (Tn (Fs (Fg (lv S (Rm (S.tm rfl)) rfl ?_))));clear S;intro a S
 refine lv S (Rm (S.tm rfl)) rfl ?_;clear S;intro a S
 refine lv S (rn_leq (S.tm rfl) (S.tm rfl)) rfl ?_;clear S;intro a S
 refine lv S (Rm (S.tm rfl)) rfl ?_;clear S;intro a S
 refine f_cutm 4 (fun a w' => Keep [] w w' ∧ Sx w [] nov [] [(14, bV ((decide (Au ≤ Ax)) && (decide (Ax ≤ As))))] 15 a w') ?_ ?_
 ·rcases Bool.eq_false_or_eq_true (decide (Au ≤ Ax)) with hb1 | hb1
  ·refine l_want S rfl rfl rfl hb1 (lv S (Rm (S.tm rfl)) rfl ?_);clear S;intro a S
   refine l_want S rfl rfl rfl hb1 (lv S (Rm (S.tm rfl)) rfl ?_);clear S;intro a S
   refine l_want S rfl rfl rfl hb1 (lv S (rn_leq (S.tm rfl) (S.tm rfl)) rfl ?_);clear S;intro a S
   refine lv S (rn_and_t hb1 (S.tm rfl) (S.tm rfl)) rfl ?_;clear S;intro a S
   refine Ld (Tn ?_)
   exact ⟨Keep.refl _ _, S.nf [] rfl ⟨rfl, trivial⟩⟩
  ·iterate 3 (refine l_skip S rfl rfl rfl (neq_f hb1) rfl ?_ rfl;clear S;intro a S)
   refine lv S (rn_and_f (decide (Ax ≤ As)) hb1 (S.tm rfl) rfl) rfl ?_;clear S;intro a S
   refine Ld (Tn ?_)
   exact ⟨Keep.refl _ _, S.nf [] rfl ⟨rfl, trivial⟩⟩
 clear S;rintro a w1 ⟨hk1, S⟩
 refine lv S (Ra (S.tm rfl)) rfl ?_;clear S;intro a S
 refine Ld (Tn (wp_ret ?_))
 subst h
 exact f_ret S Tryz.results29 rfl rfl
theorem strings_IndexByte_ok (w : World) (s : ByteArray) (c : Int) (r : Int) (h : strings_IndexByte s c = r) : Calls Tryz.prog 77 [.string s, .int .u8 c].toArray w (Ret w [] fun _ v _ => v = .int .i64 r) := by
  subst h
  exact ret_of_same (Any.strings_IndexByte Tryz.lays137 s c w)
theorem tumbref2_only_ok (w : World) (Ac : ByteArray) (Bn : ByteArray) (r : Bool) (h : tumbref2_only Ac Bn = some r) :
    Calls Tryz.prog 52 [sV Ac, sV Bn].toArray w (Ret w [] fun _ v _ => v = bV r) := by
 refine f_enter [] [] Tryz.func52 rfl Tryz.ntmps52 rfl (by simp) (by simp [fps]) (by simp [fps]) fun a S => ?_
 unfold tumbref2_only at h
 replace S := S.nk [] [(0, sV Ac), (1, sV Bn)] [] rfl (subR rfl)
 refine Fs (Fg (lv S (Ra rfl) rfl ?_));clear S;intro a S
 refine Ld (Tn (Fs (Fs (Fg (lv S (Rm (S.tm rfl)) rfl ?_)))));clear S;intro a S
 refine lv S (rn_len_str Tryz.underlying9 (S.tm rfl)) rfl ?_;clear S;intro a S
 refine lv S (Rm rfl) rfl ?_;clear S;intro a S
 refine Ld (Tn ?_)
 replace S := S.nk [] [(0, sV Ac), (1, sV Bn), (7, iV (Ac.size : Int)), (8, iV 0)] [] rfl (subR rfl)
 obtain ⟨j1, hj1, h⟩ := joinE h
 refine f_join (fun a w' => j1 = some r ∧ Sx w [] nov [] [] 18 a w') ?_ ?_
 ·refine wp_block (f_loop (fun (m1 : Nat) a w' => ∃ x1 : Int, tumbref2_only_l1 Ac Bn j1 m1 x1 = some r ∧ Sx w [] nov [] [(0, sV Ac), (1, sV Bn), (7, iV (Ac.size : Int)), (8, iV x1)] 18 a w') id (((Ac.size : Int) - 0).toNat + 2) ⟨0, h, S.nf [] rfl (subR rfl)⟩ ?_)
  clear S h;rintro m1 a w1 ⟨x1, h, S⟩
  cases m1 with
  | zero => rw [tumbref2_only_l1.eq_1] at h;cases h
  | succ m1 =>
   rw [tumbref2_only_l1.eq_2] at h
   refine Fs (Fg (lv S (rn_lss (S.tm rfl) (S.tm rfl)) rfl ?_));clear S;intro a S
   refine Ld (Tn (Fs (f_cond (S.tm rfl) (fun hb1 => ?_) (fun hb1 => ?_))))
   ·replace h := iteT h hb1
    refine wp_skip (Tn (Fs (wp_block (Fs (Fg (lv S (Rm (S.tm rfl)) rfl ?_))))));clear S;intro a S
    refine lv S (Ra (S.tm rfl)) rfl ?_;clear S;intro a S
    refine Ld (Tn (Fs (Fg (lv S (Rm (S.tm rfl)) rfl ?_))));clear S;intro a S
    refine lv S (Rm (S.tm rfl)) rfl ?_;clear S;intro a S
    refine lv S (Rm (S.tm rfl)) rfl ?_;clear S;intro a S
    obtain ⟨hc1, h⟩ := chkE h
    refine lv S (rn_sindexT Tryz.underlying9 (S.tm rfl) (S.tm rfl) hc1) rfl ?_;clear S;intro a S
    refine l_enter S (fun _ => run_call (vs := [sV Bn, .int .u8 (sbyte Ac x1)]) ⟨(S.tm rfl), (S.tm rfl), trivial⟩ Tryz.call77) (strings_IndexByte_ok _ Bn (sbyte Ac x1) _ rfl) rfl ?_;clear S;intro v1 a w3 hv1 hk1 hn1 S
    subst hv1
    refine lv S (rn_lss (S.tm rfl) rfl) rfl ?_;clear S;intro a S
    refine Ld (Tn (f_cond (S.tm rfl) (fun hb2 => ?_) (fun hb2 => ?_)))
    ·replace h := iteT h hb2
     refine Fs (Fg (lv S (Ra rfl) rfl ?_));clear S;intro a S
     refine Ld (Tn (wp_ret (blk_r (then_r (then_r (blk_r ?_))))))
     refine then_r (then_r ?_)
     obtain rfl := Option.some.inj h
     exact f_ret S Tryz.results52 rfl rfl
    ·replace h := iteF h hb2
     refine wp_skip (blk_n (Tn (Fg (lv S (rn_add (S.tm rfl) rfl) rfl ?_))));clear S;intro a S
     refine lv S (Rm (S.tm rfl)) rfl ?_;clear S;intro a S
     refine Ld (Tn ?_)
     exact ⟨m1, ⟨W (x1 + 1), h, S.nf [] rfl ⟨rfl, rfl, rfl, rfl, trivial⟩⟩, Nat.lt_succ_self _⟩
   ·replace h := iteF h hb1
    refine wp_exit (then_x (then_x (x_same (Tn ?_))))
    exact ⟨h, S.nf [] rfl trivial⟩
 clear S h;rintro a w2 ⟨h, S⟩;rw [hj1] at h;clear hj1 j1
 refine Tn (Fs (Fg (lv S (Ra rfl) rfl ?_)));clear S;intro a S
 refine Ld (Tn (wp_ret ?_))
 obtain rfl := Option.some.inj h
 exact f_ret S Tryz.results52 rfl rfl
theorem tumbref2_Key_ok (w : World) (Ac : ByteArray) (r : Bool) (h : tumbref2_Key Ac = some r) :
    Calls Tryz.prog 28 [sV Ac].toArray w (Ret w [] fun _ v _ => v = bV r) := by
 refine f_enter [] [] Tryz.func28 rfl Tryz.ntmps28 rfl (by simp) (by simp [fps]) (by simp [fps]) fun a S => ?_
 unfold tumbref2_Key at h
 replace S := S.nk [] [(0, sV Ac)] [] rfl ⟨rfl, trivial⟩
 refine Fs (Fg (lv S (Ra rfl) rfl ?_));clear S;intro a S
 refine Ld (Tn (Fs (Fg (lv S (Rm (S.tm rfl)) rfl ?_))));clear S;intro a S
 refine lv S (rn_len_str Tryz.underlying9 (S.tm rfl)) rfl ?_;clear S;intro a S
 refine l_enter S (fun _ => run_call (vs := [iV (Ac.size : Int), iV 1, iV 40]) ⟨(S.tm rfl), rfl, rfl, trivial⟩ Tryz.call29) (tumbref2_in_ok _ (Ac.size : Int) 1 40 _ rfl) rfl ?_;clear S;intro v1 a w1 hv1 hk1 hn1 S
 subst hv1
 refine lv S (Rm (S.tm rfl)) rfl ?_;clear S;intro a S
 obtain ⟨j1, hj1, h⟩ := joinE h
 refine f_cutm 4 (fun a w' => ∃ c1, j1 c1 = some r ∧ Keep [] w1 w' ∧ Sx w [] nov [] [(0, sV Ac), (10, bV c1)] 15 a w') ?_ ?_
 ·rcases Bool.eq_false_or_eq_true (tumbref2_in (Ac.size : Int) 1 40) with hb1 | hb1
  ·replace h := iteT h hb1
   refine l_want S rfl rfl rfl hb1 (lv S (Rm (S.tm rfl)) rfl ?_);clear S;intro a S
   refine l_want S rfl rfl rfl hb1 ?_
   obtain ⟨hc1, h⟩ := chkE h
   refine lv S (rn_scutTh Tryz.underlying9 (S.tm rfl) rfl hc1) rfl ?_;clear S;intro a S
   refine l_want S rfl rfl rfl hb1 ?_
   obtain ⟨r1, hr1, h⟩ := bindE h
   refine l_enter S (fun _ => run_call (vs := [sV (scut Ac 0 1), sV k_abcdefghijklmnopqrstuvwxyz]) ⟨(S.tm rfl), rfl, trivial⟩ Tryz.call52) (tumbref2_only_ok _ (scut Ac 0 1) k_abcdefghijklmnopqrstuvwxyz _ hr1) rfl ?_;clear S;intro v2 a w3 hv2 hk2 hn2 S
   subst hv2
   refine lv S (rn_and_t hb1 (S.tm rfl) (S.tm rfl)) rfl ?_;clear S;intro a S
   refine Ld (Tn ?_)
   exact ⟨_, h, hk2, S.nf [] rfl (subR rfl)⟩
  ·replace h := iteF h hb1
   iterate 3 (refine l_skip S rfl rfl rfl (neq_f hb1) rfl ?_ rfl;clear S;intro a S)
   refine lv S (rn_and_f true hb1 (S.tm rfl) rfl) rfl ?_;clear S;intro a S
   refine Ld (Tn ?_)
   exact ⟨_, h, Keep.refl _ _, S.nf [] rfl (subR rfl)⟩
 clear S h;rintro a w2 ⟨c1, h, hk3, S⟩;rw [hj1] at h;clear hj1 j1
 refine lv S (Rm (S.tm rfl)) rfl ?_;clear S;intro a S
 obtain ⟨j2, hj2, h⟩ := joinE h
 refine f_cutm 3 (fun a w' => ∃ c2, j2 c2 = some r ∧ Keep [] w2 w' ∧ Sx w [] nov [] [(14, bV c2)] 15 a w') ?_ ?_
 ·rcases Bool.eq_false_or_eq_true c1 with hb2 | hb2
  ·replace h := iteT h hb2
   refine l_want S rfl rfl rfl hb2 (lv S (Rm (S.tm rfl)) rfl ?_);clear S;intro a S
   refine l_want S rfl rfl rfl hb2 ?_
   obtain ⟨r2, hr2, h⟩ := bindE h
   refine l_enter S (fun _ => run_call (vs := [sV Ac, sV k_abcdefghijkl_h0e2e2c]) ⟨(S.tm rfl), rfl, trivial⟩ Tryz.call52) (tumbref2_only_ok _ Ac k_abcdefghijkl_h0e2e2c _ hr2) rfl ?_;clear S;intro v3 a w5 hv3 hk4 hn3 S
   subst hv3
   refine lv S (rn_and_t hb2 (S.tm rfl) (S.tm rfl)) rfl ?_;clear S;intro a S
   refine Ld (Tn ?_)
   exact ⟨_, h, hk4, S.nf [] rfl ⟨rfl, trivial⟩⟩
  ·replace h := iteF h hb2
   refine l_skip S rfl rfl rfl (neq_f hb2) rfl ?_ rfl;clear S;intro a S
   refine l_skip S rfl rfl rfl (neq_f hb2) rfl ?_ rfl;clear S;intro a S
   refine lv S (rn_and_f true hb2 (S.tm rfl) rfl) rfl ?_;clear S;intro a S
   refine Ld (Tn ?_)
   exact ⟨_, h, Keep.refl _ _, S.nf [] rfl ⟨rfl, trivial⟩⟩
 clear S h;rintro a w4 ⟨c2, h, hk5, S⟩;rw [hj2] at h;clear hj2 j2
 refine lv S (Ra (S.tm rfl)) rfl ?_;clear S;intro a S
 refine Ld (Tn (wp_ret ?_))
 obtain rfl := Option.some.inj h
 exact f_ret S Tryz.results28 rfl rfl
set_option maxHeartbeats 8000000 in
set_option maxRecDepth 20000 in
theorem tumbref2_ScoredFault_ok (w : World) (V : Value) (Z : List GScored) (Af : Slc (view w []) 5 V (Z.map GScored.enc)) (r : Int) (h : tumbref2_ScoredFault Z = some r) :
    Calls Tryz.prog 7 [V].toArray w (Ret w [] fun _ v _ => v = iV r) := by
 refine f_enter [] [] Tryz.func7 rfl Tryz.ntmps7 rfl (by simp) (by simp [fps]) (by simp [fps]) fun a S => ?_
 unfold tumbref2_ScoredFault at h
 replace S := S.nk [] [(0, V)] [] rfl ⟨rfl, trivial⟩
 refine Fs (Fg (lv S (Ra rfl) rfl ?_));clear S;intro a S
 refine Ld (Tn (Fs (Fs (Fg (lv S (Rm (S.tm rfl)) rfl ?_)))));clear S;intro a S
 refine lv S (rn_lenT sl_26 (S.tm rfl) (slc_len Af)) rfl ?_;clear S;intro a S
 refine lv S (rn_gtr (S.tm rfl) rfl) rfl ?_;clear S;intro a S
 refine Ld (Tn (f_cond (S.tm rfl) (fun hb1 => ?_) (fun hb1 => ?_)))
 ·replace h := iteT h hb1
  refine Fs (Fg (lv S (Ra rfl) rfl ?_));clear S;intro a S
  refine Ld (Tn (wp_ret (then_r ?_)))
  obtain rfl := Option.some.inj h
  exact f_ret S Tryz.results7 rfl rfl
 ·replace h := iteF h hb1
  refine wp_skip (Tn (Fs (Fs (Fg (lv S (Rm (S.tm rfl)) rfl ?_)))));clear S;intro a S
  refine lv S (rn_lenT sl_26 (S.tm rfl) (slc_len Af)) rfl ?_;clear S;intro a S
  refine lv S (Rm rfl) rfl ?_;clear S;intro a S
  refine Ld (Tn ?_)
  replace S := S.nk [] [(0, V), (20, V), (21, iV (Z.length : Int)), (22, iV 0)] [] rfl (subR rfl)
  obtain ⟨j1, hj1, h⟩ := joinE h
  refine f_join (fun a w' => j1 = some r ∧ Sx w [] nov [] [(0, V)] 171 a w') ?_ ?_
  ·refine wp_block (f_loop (fun (ys1 : List GScored) a w' => ∃ i1 : Nat, (∃ dn, Z = dn ++ ys1 ∧ dn.length = i1) ∧ tumbref2_ScoredFault_l1 Z j1 ys1 i1 = some r ∧ Sx w [] nov [] [(0, V), (20, V), (21, iV (Z.length : Int)), (22, iV (i1 : Int))] 171 a w') List.length Z ⟨0, ⟨[], rfl, rfl⟩, h, S.nf [] rfl (subR rfl)⟩ ?_)
   clear S h;rintro ys1 a w1 ⟨i1, ⟨dn, hd1, hi1⟩, h, S⟩
   cases ys1 with
   | nil =>
    rw [tumbref2_ScoredFault_l1.eq_1] at h
    refine Fs (Fg (lv S (rn_lss (S.tm rfl) (S.tm rfl)) rfl ?_));clear S;intro a S
    refine Ld ?_
    replace S := S.nk [] [(0, V), (20, V), (21, iV (Z.length : Int)), (22, iV (i1 : Int)), (23, bV (decide ((i1 : Int) < (Z.length : Int))))] [] rfl (subR rfl)
    refine Tn (Fs (wp_cond_false ((S.tm rfl).trans (congrArg Value.bool (rng_nil hd1 hi1))) (wp_exit (then_x (then_x (x_same ?_))))))
    refine Tn ?_
    exact ⟨h, S.nf [] rfl ⟨rfl, trivial⟩⟩
   | cons y1 ys1 =>
    rw [tumbref2_ScoredFault_l1.eq_2] at h
    refine Fs (Fg (lv S (rn_lss (S.tm rfl) (S.tm rfl)) rfl ?_));clear S;intro a S
    refine Ld ?_
    replace S := S.nk [] [(0, V), (20, V), (21, iV (Z.length : Int)), (22, iV (i1 : Int)), (23, bV (decide ((i1 : Int) < (Z.length : Int))))] [] rfl (subR rfl)
    refine Tn (Fs (wp_cond_true ((S.tm rfl).trans (congrArg Value.bool (rng_cons hd1 hi1))) (wp_skip (Tn (Fs (wp_block ?_))))))
    refine Fs (Fg (lv S (Rm (S.tm rfl)) rfl ?_));clear S;intro a S
    obtain ⟨b1, o1, hm1, hr1⟩ := rn_indexT (a := a) (x := .tmp 20) (y := .tmp 22) (ty := 0) sl_26 Af (get_mid hd1 hi1) rfl (S.tm rfl) (S.tm rfl)
    refine lv S (hr1 _) rfl ?_;clear S;intro a S
    clear hr1
    refine lv S (rn_ldA Tryz.isAgg38 Tryz.sizeOf38 (off := o1) (o := 0) (part := (GScored.enc y1)) rfl rfl (S.tm rfl) (hm1.at S.emb0)) rfl ?_;clear S;intro a S
    refine l_alloc S Tryz.zeroValue38 (cs := [sV k_empty, sV k_empty, sV k_empty, iV 0, bV false]) rfl rfl ?_;clear S;intro a w3 b2 hz1 hk1 S
    refine lv S (Ra (S.tm rfl)) rfl ?_;clear S;intro a S
    refine l_store S (S.tm rfl) (S.tm rfl) (i := 0) (off := 0) rfl Tryz.sizeOf38 (vs := (GScored.enc y1)) rfl rfl rfl rfl ?_;clear S;intro w4 hk2 S
    refine Ld (Tn (wp_block (Fs (Fg (lv S (rn_fld fa_38_0 (S.tm rfl)) rfl ?_)))));clear S;intro a S
    refine lv S (rn_load Tryz.isAgg9 (S.tm rfl) (S.cell (i := 0) rfl rfl)) rfl ?_;clear S;intro a S
    obtain ⟨r1, hr2, h⟩ := bindE h
    refine l_enter S (fun _ => run_call (vs := [sV y1.Race]) ⟨(S.tm rfl), trivial⟩ Tryz.call28) (tumbref2_Key_ok _ y1.Race _ hr2) rfl ?_;clear S;intro v1 a w5 hv1 hk3 hn1 S
    subst hv1
    refine lv S (rn_not (S.tm rfl)) rfl ?_;clear S;intro a S
    refine lv S (Rm (S.tm rfl)) rfl ?_;clear S;intro a S
    obtain ⟨j2, hj2, h⟩ := joinE h
    refine f_cutm 5 (fun a w' => ∃ c1, j2 c1 = some r ∧ Keep [] w5 w' ∧ Sx w [] nov [.blk b2 (GScored.enc y1) 38] [(0, V), (3, iV (i1 : Int)), (4, .pointer (some ⟨b2, 0, none⟩)), (20, V), (21, iV (Z.length : Int)), (22, iV (i1 : Int)), (37, bV c1)] 171 a w') ?_ ?_
    ·rcases Bool.eq_false_or_eq_true (!r1) with hb2 | hb2
     ·replace h := iteT h hb2
      iterate 4 (refine l_skip S rfl rfl rfl (neq_t hb2) rfl ?_ rfl;clear S;intro a S)
      refine lv S (rn_or_t true hb2 (S.tm rfl) rfl) rfl ?_;clear S;intro a S
      refine Ld (Tn ?_)
      exact ⟨_, h, Keep.refl _ _, S.nf [true] rfl (subR rfl)⟩
     ·replace h := iteF h hb2
      refine l_want S rfl rfl rfl hb2 (lv S (rn_fld fa_38_1 (S.tm rfl)) rfl ?_);clear S;intro a S
      refine l_want S rfl rfl rfl hb2 (lv S (rn_load Tryz.isAgg9 (S.tm rfl) (S.cell (i := 0) rfl rfl)) rfl ?_);clear S;intro a S
      refine l_want S rfl rfl rfl hb2 ?_
      obtain ⟨r2, hr3, h⟩ := bindE h
      refine l_enter S (fun _ => run_call (vs := [sV y1.Who]) ⟨(S.tm rfl), trivial⟩ Tryz.call28) (tumbref2_Key_ok _ y1.Who _ hr3) rfl ?_;clear S;intro v2 a w7 hv2 hk4 hn2 S
      subst hv2
      refine l_want S rfl rfl rfl hb2 (lv S (rn_not (S.tm rfl)) rfl ?_);clear S;intro a S
      refine lv S (rn_or_f hb2 (S.tm rfl) (S.tm rfl)) rfl ?_;clear S;intro a S
      refine Ld (Tn ?_)
      exact ⟨_, h, hk4, S.nf [true] rfl (subR rfl)⟩
    clear S h;rintro a w6 ⟨c1, h, hk5, S⟩;rw [hj2] at h;clear hj2 j2
    refine lv S (Rm (S.tm rfl)) rfl ?_;clear S;intro a S
    obtain ⟨j3, hj3, h⟩ := joinE h
    refine f_cutm 10 (fun a w' => ∃ c2, j3 c2 = some r ∧ Keep [] w6 w' ∧ Sx w [] nov [.blk b2 (GScored.enc y1) 38] [(0, V), (3, iV (i1 : Int)), (4, .pointer (some ⟨b2, 0, none⟩)), (20, V), (21, iV (Z.length : Int)), (22, iV (i1 : Int)), (48, bV c2)] 171 a w') ?_ ?_
    ·rcases Bool.eq_false_or_eq_true c1 with hb3 | hb3
     ·replace h := iteT h hb3
      iterate 4 (refine l_skip S rfl rfl rfl (neq_t hb3) rfl ?_ rfl;clear S;intro a S)
      iterate 4 (refine l_skipU S rfl rfl rfl rfl ?_;clear S;intro a S)
      refine l_skip S rfl rfl rfl (neq_t hb3) rfl ?_ rfl;clear S;intro a S
      refine lv S (rn_or_t true hb3 (S.tm rfl) rfl) rfl ?_;clear S;intro a S
      refine Ld (Tn ?_)
      exact ⟨_, h, Keep.refl _ _, S.nf [true] rfl (subR rfl)⟩
     ·replace h := iteF h hb3
      refine l_want S rfl rfl rfl hb3 (lv S (rn_fld fa_38_2 (S.tm rfl)) rfl ?_);clear S;intro a S
      refine l_want S rfl rfl rfl hb3 (lv S (rn_load Tryz.isAgg9 (S.tm rfl) (S.cell (i := 0) rfl rfl)) rfl ?_);clear S;intro a S
      refine l_want S rfl rfl rfl hb3 (lv S (rn_sneq (S.tm rfl) rfl) rfl ?_);clear S;intro a S
      refine l_want S rfl rfl rfl hb3 (lv S (Rm (S.tm rfl)) rfl ?_);clear S;intro a S
      obtain ⟨j4, hj4, h⟩ := joinE h
      refine f_cutm 5 (fun a w' => ∃ c3, j4 c3 = some r ∧ Keep [] w6 w' ∧ Sx w [] nov [.blk b2 (GScored.enc y1) 38] [(0, V), (3, iV (i1 : Int)), (4, .pointer (some ⟨b2, 0, none⟩)), (20, V), (21, iV (Z.length : Int)), (22, iV (i1 : Int)), (38, bV c1), (39, .pointer (some ⟨b2, 2, none⟩)), (40, sV y1.Club), (41, bV (!decide (y1.Club = k_empty))), (42, bV (!decide (y1.Club = k_empty))), (47, bV c3)] 171 a w') ?_ ?_
      ·rcases Bool.eq_false_or_eq_true (!decide (y1.Club = k_empty)) with hb4 | hb4
       ·replace h := iteT h hb4
        refine l_want S rfl rfl rfl hb4 (lv S (rn_fld fa_38_2 (S.tm rfl)) rfl ?_);clear S;intro a S
        refine l_want S rfl rfl rfl hb4 (lv S (rn_load Tryz.isAgg9 (S.tm rfl) (S.cell (i := 0) rfl rfl)) rfl ?_);clear S;intro a S
        refine l_want S rfl rfl rfl hb4 ?_
        obtain ⟨r3, hr4, h⟩ := bindE h
        refine l_enter S (fun _ => run_call (vs := [sV y1.Club]) ⟨(S.tm rfl), trivial⟩ Tryz.call28) (tumbref2_Key_ok _ y1.Club _ hr4) rfl ?_;clear S;intro v3 a w10 hv3 hk6 hn3 S
        subst hv3
        refine l_want S rfl rfl rfl hb4 (lv S (rn_not (S.tm rfl)) rfl ?_);clear S;intro a S
        refine l_want S rfl rfl rfl hb3 (lv S (rn_and_t hb4 (S.tm rfl) (S.tm rfl)) rfl ?_);clear S;intro a S
        refine Ld (Tn ?_)
        exact ⟨_, h, hk6, S.nf [true] rfl (subR rfl)⟩
       ·replace h := iteF h hb4
        iterate 4 (refine l_skip S rfl rfl rfl (neq_f hb4) rfl ?_ rfl;clear S;intro a S)
        refine l_want S rfl rfl rfl hb3 (lv S (rn_and_f true hb4 (S.tm rfl) rfl) rfl ?_);clear S;intro a S
        refine Ld (Tn ?_)
        exact ⟨_, h, Keep.refl _ _, S.nf [true] rfl (subR rfl)⟩
      clear S h;rintro a w9 ⟨c3, h, hk7, S⟩;rw [hj4] at h;clear hj4 j4
      refine lv S (rn_or_f hb3 (S.tm rfl) (S.tm rfl)) rfl ?_;clear S;intro a S
      refine Ld (Tn ?_)
      exact ⟨_, h, hk7, S.nf [true] rfl (subR rfl)⟩
    clear S h;rintro a w8 ⟨c2, h, hk8, S⟩;rw [hj3] at h;clear hj3 j3
    refine lv S (Ra (S.tm rfl)) rfl ?_;clear S;intro a S
    refine Ld (Tn (f_cond (S.tm rfl) (fun hb5 => ?_) (fun hb5 => ?_)))
    ·replace h := iteT h hb5
     refine Fs (Fg (lv S (Ra rfl) rfl ?_));clear S;intro a S
     refine Ld (Tn (wp_ret (blk_r (blk_r (then_r (then_r ?_))))))
     refine blk_r (then_r (then_r ?_))
     obtain rfl := Option.some.inj h
     exact f_ret S Tryz.results7 rfl rfl
    ·replace h := iteF h hb5
     refine Fs (Fg (lv S (rn_fld fa_38_3 (S.tm rfl)) rfl ?_));clear S;intro a S
     refine lv S (rn_load Tryz.isAgg3 (S.tm rfl) (S.cell (i := 0) rfl rfl)) rfl ?_;clear S;intro a S
     refine l_enter S (fun _ => run_call (vs := [iV y1.Rank, iV 0, iV 300]) ⟨(S.tm rfl), rfl, rfl, trivial⟩ Tryz.call29) (tumbref2_in_ok _ y1.Rank 0 300 _ rfl) rfl ?_;clear S;intro v4 a w11 hv4 hk9 hn4 S
     subst hv4
     refine lv S (rn_not (S.tm rfl)) rfl ?_;clear S;intro a S
     refine lv S (Ra (S.tm rfl)) rfl ?_;clear S;intro a S
     refine Ld (Tn (f_cond (S.tm rfl) (fun hb6 => ?_) (fun hb6 => ?_)))
     ·replace h := iteT h hb6
      refine Fs (Fg (lv S (Ra rfl) rfl ?_));clear S;intro a S
      refine Ld (Tn (wp_ret (blk_r (blk_r (then_r (then_r ?_))))))
      refine blk_r (then_r (then_r ?_))
      obtain rfl := Option.some.inj h
      exact f_ret S Tryz.results7 rfl rfl
     ·replace h := iteF h hb6
      refine Fs ?_
      obtain ⟨j5, hj5, h⟩ := joinE h
      refine f_join (fun a w' => ∃ x1 : Bool, j5 x1 = some r ∧ Sx w [] nov [] [(0, V), (20, V), (21, iV (Z.length : Int)), (22, iV (i1 : Int)), (54, bV x1)] 171 a w') ?_ ?_
      ·rcases Bool.eq_false_or_eq_true (decide (0 < (i1 : Int))) with hb7 | hb7
       ·replace h := iteT h hb7
        obtain ⟨hc1, h⟩ := chkE h
        refine d_region [] ([]) Tryz.mixed S rfl (by kernel_rfl) ?_;clear S;intro w14 hk11 hsel S
        refine d_quiet 0 S hsel rfl rfl rfl (by kernel_rfl) (by kernel_rfl) rfl (fun _ hw => (Rm (S.tm rfl))) ?_;clear S;intro a S
        refine d_quiet 1 S hsel rfl rfl rfl (by kernel_rfl) (by kernel_rfl) rfl (fun _ hw => (rn_gtr (S.tm rfl) rfl)) ?_;clear S;intro a S
        refine d_quiet 2 S hsel rfl rfl rfl (by kernel_rfl) (by kernel_rfl) rfl (fun _ hw => (Rm (S.tm rfl))) ?_;clear S;intro a S
        refine d_quiet_g 3 S hsel rfl rfl rfl rfl hb7 rfl rfl (by kernel_rfl) (by kernel_rfl) rfl (fun _ hw => (Rm (S.tm rfl))) ?_;clear S;intro a S
        refine d_quiet_g 4 S hsel rfl rfl rfl rfl hb7 rfl rfl (by kernel_rfl) (by kernel_rfl) rfl (fun _ hw => (Rm (S.tm rfl))) ?_;clear S;intro a S
        refine d_quiet_g 5 S hsel rfl rfl rfl rfl hb7 rfl rfl (by kernel_rfl) (by kernel_rfl) rfl (fun _ hw => (rn_sub (S.tm rfl) rfl)) ?_;clear S;intro a S
        obtain ⟨b4, o3, hm3, hr6⟩ := rn_indexT (a := a) (x := .tmp 58) (y := .tmp 60) (ty := 0) sl_26 (Af.mono (S.le_arg nil_sub)) (inB_get hc1).1 (inB_get hc1).2 (S.tm rfl) (S.tm rfl)
        refine d_quiet_g 6 S hsel rfl rfl rfl rfl hb7 rfl rfl (by kernel_rfl) (by kernel_rfl) rfl (fun _ hw => hr6 _) ?_;clear S;intro a S
        clear hr6
        refine d_quiet_g 7 S hsel rfl rfl rfl rfl hb7 rfl rfl (by kernel_rfl) (by kernel_rfl) rfl (fun _ hw => (rn_ldA Tryz.isAgg38 Tryz.sizeOf38 (off := o3) (o := 0) (part := (GScored.enc (nth Z (W ((i1 : Int) - 1))))) rfl rfl (S.tm rfl) (hm3.kept hw))) ?_;clear S;intro a S
        refine d_quiet_g 8 S hsel rfl rfl rfl rfl hb7 rfl rfl (by kernel_rfl) (by kernel_rfl) rfl (fun _ hw => (rn_ldA Tryz.isAgg38 Tryz.sizeOf38 (off := 0) (o := 0) (part := (GScored.enc y1)) rfl rfl (S.tm rfl) ((S.blk_mem (i := 0) (cells := (GScored.enc y1)) (b := b2) (T := 38) rfl (ne_nil (e' := .blk b2 (GScored.enc y1) 38))).kept hw))) ?_;clear S;intro a S
        refine d_loud1 9 (by kernel_rfl) rfl (l_want S rfl rfl rfl hb7 (l_enter S (fun _ => run_call (vs := [.agg (GScored.enc (nth Z (W ((i1 : Int) - 1)))).toArray, .agg (GScored.enc y1).toArray]) ⟨(S.tm rfl), (S.tm rfl), trivial⟩ Tryz.call30) (tumbref2_ScoredOrder_ok _ (nth Z (W ((i1 : Int) - 1))) y1 _ rfl) rfl ?_));clear S;intro v6 a w15 hv6 hk12 hn6 S
        subst hv6
        refine Ld (d_next hk12 (d_rest [10, 11, 12] hsel (by kernel_rfl) rfl ?_))
        clear hsel
        refine s_want S rfl rfl rfl rfl hb7 (s_lv0 S (rn_geq (S.tm rfl) rfl) rfl ?_);clear S;intro a S
        refine s_lv S rfl (rn_pick_b hb7 (S.tm rfl) (S.tm rfl)) rfl ?_;clear S;intro a S
        refine s_lv S rfl (Ra (S.tm rfl)) rfl ?_;clear S;intro a S
        refine s_done ?_
        replace S := S.nk [] [(0, V), (20, V), (21, iV (Z.length : Int)), (22, iV (i1 : Int)), (54, bV (decide (0 ≤ (tumbref2_ScoredOrder (nth Z (W ((i1 : Int) - 1))) y1)))), (58, V), (59, iV (i1 : Int)), (60, iV (W ((i1 : Int) - 1))), (61, .pointer (some ⟨b4, o3, none⟩)), (62, .agg (GScored.enc (nth Z (W ((i1 : Int) - 1)))).toArray), (63, .agg (GScored.enc y1).toArray), (64, iV (tumbref2_ScoredOrder (nth Z (W ((i1 : Int) - 1))) y1)), (65, bV (decide (0 ≤ (tumbref2_ScoredOrder (nth Z (W ((i1 : Int) - 1))) y1))))] [false] rfl (subR rfl)
        refine Tn ?_
        exact ⟨decide (0 ≤ (tumbref2_ScoredOrder (nth Z (W ((i1 : Int) - 1))) y1)), h, S.nf [] rfl (subR rfl)⟩
       ·replace h := iteF h hb7
        refine d_region [] ([]) Tryz.mixed S rfl (by kernel_rfl) ?_;clear S;intro w16 hk13 hsel S
        refine d_rest [0, 1, 2, 3, 4, 5, 6, 7, 8, 9, 10, 11, 12] hsel (by kernel_rfl) rfl ?_
        clear hsel
        refine s_lv S rfl (Rm (S.tm rfl)) rfl ?_;clear S;intro a S
        refine s_lv S rfl (rn_gtr (S.tm rfl) rfl) rfl ?_;clear S;intro a S
        refine s_lv S rfl (Rm (S.tm rfl)) rfl ?_;clear S;intro a S
        iterate 8 (refine s_skip S rfl rfl rfl rfl (neq_f hb7) rfl ?_ rfl;clear S;intro a S)
        refine s_lv S rfl (rn_pick_c hb7 (S.tm rfl) rfl) rfl ?_;clear S;intro a S
        refine s_lv S rfl (Ra (S.tm rfl)) rfl ?_;clear S;intro a S
        refine s_done ?_
        replace S := S.nk [] [(0, V), (20, V), (21, iV (Z.length : Int)), (22, iV (i1 : Int)), (54, bV false)] [false] rfl (subR rfl)
        refine Tn ?_
        exact ⟨false, h, S.nf [] rfl (subR rfl)⟩
      clear S h;rintro a w12 ⟨x1, h, S⟩;rw [hj5] at h;clear hj5 j5
      refine Tn (f_cond (S.tm rfl) (fun hb8 => ?_) (fun hb8 => ?_))
      ·replace h := iteT h hb8
       refine Fs (Fg (lv S (Ra rfl) rfl ?_));clear S;intro a S
       refine Ld (Tn (wp_ret (blk_r (blk_r (then_r (then_r ?_))))))
       refine blk_r (then_r (then_r ?_))
       obtain rfl := Option.some.inj h
       exact f_ret S Tryz.results7 rfl rfl
      ·replace h := iteF h hb8
       refine wp_skip (blk_n (blk_n (Tn (Fg (lv S (rn_add (S.tm rfl) rfl) rfl ?_)))));clear S;intro a S
       refine lv S (Rm (S.tm rfl)) rfl ?_;clear S;intro a S
       refine Ld (Tn ?_)
       exact ⟨ys1, ⟨i1 + 1, ⟨_, (hd1).trans (List.append_cons _ _ _), by simp [hi1]⟩, h, S.nf [] rfl ⟨rfl, rfl, rfl, (congrArg (fun z => some (Value.int .i64 z)) (rng_next hd1 hi1 (slc_max Af))), trivial⟩⟩, Nat.lt_succ_self _⟩
  clear S h;rintro a w2 ⟨h, S⟩;rw [hj1] at h;clear hj1 j1
  refine Tn (Fs (Fg (lv S (Ra rfl) rfl ?_)));clear S;intro a S
  iterate 3 (refine lv S (Ra rfl) rfl ?_;clear S;intro a S)
  refine Ld (Tn (Fs (Fs (Fg (lv S (Rm (S.tm rfl)) rfl ?_)))));clear S;intro a S
  refine lv S (rn_lenT sl_26 (S.tm rfl) (slc_len Af)) rfl ?_;clear S;intro a S
  refine lv S (Rm rfl) rfl ?_;clear S;intro a S
  refine Ld (Tn ?_)
  replace S := S.nk [] [(0, V), (5, bV false), (6, bV false), (7, bV false), (8, bV false), (68, V), (69, iV (Z.length : Int)), (70, iV 0)] [] rfl (subR rfl)
  obtain ⟨j6, hj6, h⟩ := joinE h
  refine f_join (fun a w' => ∃ x2 : Bool, ∃ x3 : Bool, ∃ x4 : Bool, ∃ x5 : Bool, j6 x2 x3 x4 x5 = some r ∧ Sx w [] nov [] [(5, bV x2), (6, bV x3), (7, bV x4), (8, bV x5)] 171 a w') ?_ ?_
  ·refine wp_block (f_loop (fun (ys2 : List GScored) a w' => ∃ i2 : Nat, ∃ x2 : Bool, ∃ x3 : Bool, ∃ x4 : Bool, ∃ x5 : Bool, (∃ dn, Z = dn ++ ys2 ∧ dn.length = i2) ∧ tumbref2_ScoredFault_l2 Z j6 ys2 i2 x2 x3 x4 x5 = some r ∧ Sx w [] nov [] [(0, V), (5, bV x2), (6, bV x3), (7, bV x4), (8, bV x5), (68, V), (69, iV (Z.length : Int)), (70, iV (i2 : Int))] 171 a w') List.length Z ⟨0, false, false, false, false, ⟨[], rfl, rfl⟩, h, S.nf [] rfl (subR rfl)⟩ ?_)
   clear S h;rintro ys2 a w17 ⟨i2, x2, x3, x4, x5, ⟨dn, hd2, hi2⟩, h, S⟩
   cases ys2 with
   | nil =>
    rw [tumbref2_ScoredFault_l2.eq_1] at h
    refine Fs (Fg (lv S (rn_lss (S.tm rfl) (S.tm rfl)) rfl ?_));clear S;intro a S
    refine Ld ?_
    replace S := S.nk [] [(0, V), (5, bV x2), (6, bV x3), (7, bV x4), (8, bV x5), (68, V), (69, iV (Z.length : Int)), (70, iV (i2 : Int)), (71, bV (decide ((i2 : Int) < (Z.length : Int))))] [] rfl (subR rfl)
    refine Tn (Fs (wp_cond_false ((S.tm rfl).trans (congrArg Value.bool (rng_nil hd2 hi2))) (wp_exit (then_x (then_x (x_same ?_))))))
    refine Tn ?_
    exact ⟨x2, x3, x4, x5, h, S.nf [] rfl (subR rfl)⟩
   | cons y2 ys2 =>
    rw [tumbref2_ScoredFault_l2.eq_2] at h
    refine Fs (Fg (lv S (rn_lss (S.tm rfl) (S.tm rfl)) rfl ?_));clear S;intro a S
    refine Ld ?_
    replace S := S.nk [] [(0, V), (5, bV x2), (6, bV x3), (7, bV x4), (8, bV x5), (68, V), (69, iV (Z.length : Int)), (70, iV (i2 : Int)), (71, bV (decide ((i2 : Int) < (Z.length : Int))))] [] rfl (subR rfl)
    refine Tn (Fs (wp_cond_true ((S.tm rfl).trans (congrArg Value.bool (rng_cons hd2 hi2))) (wp_skip (Tn (Fs (wp_block ?_))))))
    refine Fs (Fg (lv S (Rm (S.tm rfl)) rfl ?_));clear S;intro a S
    obtain ⟨b5, o4, hm4, hr7⟩ := rn_indexT (a := a) (x := .tmp 68) (y := .tmp 70) (ty := 0) sl_26 Af (get_mid hd2 hi2) rfl (S.tm rfl) (S.tm rfl)
    refine lv S (hr7 _) rfl ?_;clear S;intro a S
    clear hr7
    refine lv S (rn_ldA Tryz.isAgg38 Tryz.sizeOf38 (off := o4) (o := 0) (part := (GScored.enc y2)) rfl rfl (S.tm rfl) (hm4.at S.emb0)) rfl ?_;clear S;intro a S
    refine l_alloc S Tryz.zeroValue38 (cs := [sV k_empty, sV k_empty, sV k_empty, iV 0, bV false]) rfl rfl ?_;clear S;intro a w19 b6 hz2 hk14 S
    refine lv S (Ra (S.tm rfl)) rfl ?_;clear S;intro a S
    refine l_store S (S.tm rfl) (S.tm rfl) (i := 0) (off := 0) rfl Tryz.sizeOf38 (vs := (GScored.enc y2)) rfl rfl rfl rfl ?_;clear S;intro w20 hk15 S
    refine Ld (Tn (Fs (Fg (lv S (Ra rfl) rfl ?_))));clear S;intro a S
    refine lv S (Ra rfl) rfl ?_;clear S;intro a S
    refine Ld ?_
    replace S := S.nk [.blk b6 (GScored.enc y2) 38] [(0, V), (5, bV x2), (6, bV x3), (7, bV x4), (8, bV x5), (9, iV (i2 : Int)), (10, .pointer (some ⟨b6, 0, none⟩)), (11, iV 0), (12, iV 0), (68, V), (69, iV (Z.length : Int)), (70, iV (i2 : Int))] [true] rfl (subR rfl)
    refine Tn (Fs (Fs (Fg (lv S (Rm (S.tm rfl)) rfl ?_))));clear S;intro a S
    refine lv S (rn_lenT sl_26 (S.tm rfl) (slc_len Af)) rfl ?_;clear S;intro a S
    refine lv S (Rm rfl) rfl ?_;clear S;intro a S
    refine Ld ?_
    replace S := S.nk [.blk b6 (GScored.enc y2) 38] [(0, V), (5, bV x2), (6, bV x3), (7, bV x4), (8, bV x5), (9, iV (i2 : Int)), (10, .pointer (some ⟨b6, 0, none⟩)), (11, iV 0), (12, iV 0), (68, V), (69, iV (Z.length : Int)), (70, iV (i2 : Int)), (75, V), (76, iV (Z.length : Int)), (77, iV 0)] [true] rfl (subR rfl)
    refine Tn ?_
    obtain ⟨j7, hj7, h⟩ := joinE h
    refine f_join (fun a w' => ∃ x6 : Bool, ∃ x7 : Bool, ∃ x8 : Int, ∃ x9 : Int, j7 x6 x7 x8 x9 = some r ∧ Sx w [] nov [.blk b6 (GScored.enc y2) 38] [(0, V), (5, bV x6), (6, bV x7), (7, bV x4), (8, bV x5), (10, .pointer (some ⟨b6, 0, none⟩)), (11, iV x8), (12, iV x9), (68, V), (69, iV (Z.length : Int)), (70, iV (i2 : Int))] 171 a w') ?_ ?_
    ·refine wp_block (f_loop (fun (ys3 : List GScored) a w' => ∃ i3 : Nat, ∃ x6 : Bool, ∃ x7 : Bool, ∃ x8 : Int, ∃ x9 : Int, (∃ dn, Z = dn ++ ys3 ∧ dn.length = i3) ∧ tumbref2_ScoredFault_l3 y2 i2 j7 ys3 i3 x6 x7 x8 x9 = some r ∧ Sx w [] nov [.blk b6 (GScored.enc y2) 38] [(0, V), (5, bV x6), (6, bV x7), (7, bV x4), (8, bV x5), (9, iV (i2 : Int)), (10, .pointer (some ⟨b6, 0, none⟩)), (11, iV x8), (12, iV x9), (68, V), (69, iV (Z.length : Int)), (70, iV (i2 : Int)), (75, V), (76, iV (Z.length : Int)), (77, iV (i3 : Int))] 171 a w') List.length Z ⟨0, x2, x3, 0, 0, ⟨[], rfl, rfl⟩, h, S.nf [true] rfl (subR rfl)⟩ ?_)
     clear S h;rintro ys3 a w21 ⟨i3, x6, x7, x8, x9, ⟨dn, hd3, hi3⟩, h, S⟩
     cases ys3 with
     | nil =>
      rw [tumbref2_ScoredFault_l3.eq_1] at h
      refine Fs (Fg (lv S (rn_lss (S.tm rfl) (S.tm rfl)) rfl ?_));clear S;intro a S
      refine Ld ?_
      replace S := S.nk [.blk b6 (GScored.enc y2) 38] [(0, V), (5, bV x6), (6, bV x7), (7, bV x4), (8, bV x5), (9, iV (i2 : Int)), (10, .pointer (some ⟨b6, 0, none⟩)), (11, iV x8), (12, iV x9), (68, V), (69, iV (Z.length : Int)), (70, iV (i2 : Int)), (75, V), (76, iV (Z.length : Int)), (77, iV (i3 : Int)), (78, bV (decide ((i3 : Int) < (Z.length : Int))))] [true] rfl (subR rfl)
      refine Tn (Fs (wp_cond_false ((S.tm rfl).trans (congrArg Value.bool (rng_nil hd3 hi3))) (wp_exit (then_x (then_x (x_same ?_))))))
      refine Tn ?_
      exact ⟨x6, x7, x8, x9, h, S.nf [true] rfl (subR rfl)⟩
     | cons y3 ys3 =>
      rw [tumbref2_ScoredFault_l3.eq_2] at h
      refine Fs (Fg (lv S (rn_lss (S.tm rfl) (S.tm rfl)) rfl ?_));clear S;intro a S
      refine Ld ?_
      replace S := S.nk [.blk b6 (GScored.enc y2) 38] [(0, V), (5, bV x6), (6, bV x7), (7, bV x4), (8, bV x5), (9, iV (i2 : Int)), (10, .pointer (some ⟨b6, 0, none⟩)), (11, iV x8), (12, iV x9), (68, V), (69, iV (Z.length : Int)), (70, iV (i2 : Int)), (75, V), (76, iV (Z.length : Int)), (77, iV (i3 : Int)), (78, bV (decide ((i3 : Int) < (Z.length : Int))))] [true] rfl (subR rfl)
      refine Tn (Fs (wp_cond_true ((S.tm rfl).trans (congrArg Value.bool (rng_cons hd3 hi3))) (wp_skip (Tn (Fs ?_)))))
      obtain ⟨j8, hj8, h⟩ := joinE h
      refine f_join (fun a w' => ∃ x10 : Bool, ∃ x11 : Bool, ∃ x12 : Int, ∃ x13 : Int, j8 x10 x11 x12 x13 = some r ∧ Sx w [] nov [.blk b6 (GScored.enc y2) 38] [(0, V), (5, bV x10), (6, bV x11), (7, bV x4), (8, bV x5), (9, iV (i2 : Int)), (10, .pointer (some ⟨b6, 0, none⟩)), (11, iV x12), (12, iV x13), (68, V), (69, iV (Z.length : Int)), (70, iV (i2 : Int)), (75, V), (76, iV (Z.length : Int)), (77, iV (i3 : Int))] 171 a w') ?_ ?_
      ·refine wp_block (Fs (Fg (lv S (Rm (S.tm rfl)) rfl ?_)));clear S;intro a S
       obtain ⟨b7, o5, hm5, hr8⟩ := rn_indexT (a := a) (x := .tmp 75) (y := .tmp 77) (ty := 0) sl_26 Af (get_mid hd3 hi3) rfl (S.tm rfl) (S.tm rfl)
       refine lv S (hr8 _) rfl ?_;clear S;intro a S
       clear hr8
       refine lv S (rn_ldA Tryz.isAgg38 Tryz.sizeOf38 (off := o5) (o := 0) (part := (GScored.enc y3)) rfl rfl (S.tm rfl) (hm5.at S.emb0)) rfl ?_;clear S;intro a S
       refine l_alloc S Tryz.zeroValue38 (cs := [sV k_empty, sV k_empty, sV k_empty, iV 0, bV false]) rfl rfl ?_;clear S;intro a w24 b8 hz3 hk16 S
       refine lv S (Ra (S.tm rfl)) rfl ?_;clear S;intro a S
       refine l_store S (S.tm rfl) (S.tm rfl) (i := 0) (off := 0) rfl Tryz.sizeOf38 (vs := (GScored.enc y3)) rfl rfl rfl rfl ?_;clear S;intro w25 hk17 S
       refine Ld ?_
       replace S := S.nk [.blk b8 (GScored.enc y3) 38, .blk b6 (GScored.enc y2) 38] [(0, V), (5, bV x6), (6, bV x7), (7, bV x4), (8, bV x5), (9, iV (i2 : Int)), (10, .pointer (some ⟨b6, 0, none⟩)), (11, iV x8), (12, iV x9), (13, iV (i3 : Int)), (14, .pointer (some ⟨b8, 0, none⟩)), (68, V), (69, iV (Z.length : Int)), (70, iV (i2 : Int)), (75, V), (76, iV (Z.length : Int)), (77, iV (i3 : Int))] [true, true] rfl (subR rfl)
       refine Tn (Fs (Fs (Fg (lv S (rn_fld fa_38_0 (S.tm rfl)) rfl ?_))));clear S;intro a S
       refine lv S (rn_load Tryz.isAgg9 (S.tm rfl) (S.cell (i := 0) rfl rfl)) rfl ?_;clear S;intro a S
       refine lv S (rn_fld fa_38_0 (S.tm rfl)) rfl ?_;clear S;intro a S
       refine lv S (rn_load Tryz.isAgg9 (S.tm rfl) (S.cell (i := 1) rfl rfl)) rfl ?_;clear S;intro a S
       refine lv S (rn_sneq (S.tm rfl) (S.tm rfl)) rfl ?_;clear S;intro a S
       refine Ld ?_
       replace S := S.nk [.blk b8 (GScored.enc y3) 38, .blk b6 (GScored.enc y2) 38] [(0, V), (5, bV x6), (6, bV x7), (7, bV x4), (8, bV x5), (9, iV (i2 : Int)), (10, .pointer (some ⟨b6, 0, none⟩)), (11, iV x8), (12, iV x9), (13, iV (i3 : Int)), (14, .pointer (some ⟨b8, 0, none⟩)), (68, V), (69, iV (Z.length : Int)), (70, iV (i2 : Int)), (75, V), (76, iV (Z.length : Int)), (77, iV (i3 : Int)), (86, bV (!decide (y3.Race = y2.Race)))] [true, true] rfl (subR rfl)
       refine Tn (f_cond (S.tm rfl) (fun hb9 => ?_) (fun hb9 => ?_))
       ·replace h := iteT h hb9
        refine wp_exit (then_x (x_same (Tn ?_)))
        exact ⟨x6, x7, x8, x9, h, S.nf [false, true] rfl (subR rfl)⟩
       ·replace h := iteF h hb9
        refine wp_skip (Tn (Fs (Fg (lv S (Rm (S.tm rfl)) rfl ?_))));clear S;intro a S
        refine lv S (Rm (S.tm rfl)) rfl ?_;clear S;intro a S
        refine f_cutm 11 (fun a w' => Keep [] w25 w' ∧ Sx w [] nov [.blk b8 (GScored.enc y3) 38, .blk b6 (GScored.enc y2) 38] [(0, V), (6, bV x7), (7, bV x4), (8, bV x5), (9, iV (i2 : Int)), (10, .pointer (some ⟨b6, 0, none⟩)), (11, iV x8), (12, iV x9), (14, .pointer (some ⟨b8, 0, none⟩)), (68, V), (69, iV (Z.length : Int)), (70, iV (i2 : Int)), (75, V), (76, iV (Z.length : Int)), (77, iV (i3 : Int)), (99, bV (x6 || ((!decide ((i3 : Int) = (i2 : Int))) && (decide (y3.Who = y2.Who)))))] 171 a w') ?_ ?_
        ·rcases Bool.eq_false_or_eq_true x6 with hb10 | hb10
         ·iterate 4 (refine l_skip S rfl rfl rfl (neq_t hb10) rfl ?_ rfl;clear S;intro a S)
          iterate 5 (refine l_skipU S rfl rfl rfl rfl ?_;clear S;intro a S)
          refine l_skip S rfl rfl rfl (neq_t hb10) rfl ?_ rfl;clear S;intro a S
          refine lv S (rn_or_t ((!decide ((i3 : Int) = (i2 : Int))) && (decide (y3.Who = y2.Who))) hb10 (S.tm rfl) rfl) rfl ?_;clear S;intro a S
          refine Ld (Tn ?_)
          exact ⟨Keep.refl _ _, S.nf [true, true] rfl (subR rfl)⟩
         ·refine l_want S rfl rfl rfl hb10 (lv S (Rm (S.tm rfl)) rfl ?_);clear S;intro a S
          refine l_want S rfl rfl rfl hb10 (lv S (Rm (S.tm rfl)) rfl ?_);clear S;intro a S
          refine l_want S rfl rfl rfl hb10 (lv S (rn_neq (S.tm rfl) (S.tm rfl)) rfl ?_);clear S;intro a S
          refine l_want S rfl rfl rfl hb10 (lv S (Rm (S.tm rfl)) rfl ?_);clear S;intro a S
          refine f_cutm 6 (fun a w' => Keep [] w25 w' ∧ Sx w [] nov [.blk b8 (GScored.enc y3) 38, .blk b6 (GScored.enc y2) 38] [(0, V), (6, bV x7), (7, bV x4), (8, bV x5), (9, iV (i2 : Int)), (10, .pointer (some ⟨b6, 0, none⟩)), (11, iV x8), (12, iV x9), (14, .pointer (some ⟨b8, 0, none⟩)), (68, V), (69, iV (Z.length : Int)), (70, iV (i2 : Int)), (75, V), (76, iV (Z.length : Int)), (77, iV (i3 : Int)), (88, bV x6), (89, iV (i3 : Int)), (90, iV (i2 : Int)), (91, bV (!decide ((i3 : Int) = (i2 : Int)))), (92, bV (!decide ((i3 : Int) = (i2 : Int)))), (98, bV ((!decide ((i3 : Int) = (i2 : Int))) && (decide (y3.Who = y2.Who))))] 171 a w') ?_ ?_
          ·rcases Bool.eq_false_or_eq_true (!decide ((i3 : Int) = (i2 : Int))) with hb11 | hb11
           ·refine l_want S rfl rfl rfl hb11 (lv S (rn_fld fa_38_1 (S.tm rfl)) rfl ?_);clear S;intro a S
            refine l_want S rfl rfl rfl hb11 (lv S (rn_load Tryz.isAgg9 (S.tm rfl) (S.cell (i := 0) rfl rfl)) rfl ?_);clear S;intro a S
            refine l_want S rfl rfl rfl hb11 (lv S (rn_fld fa_38_1 (S.tm rfl)) rfl ?_);clear S;intro a S
            refine l_want S rfl rfl rfl hb11 (lv S (rn_load Tryz.isAgg9 (S.tm rfl) (S.cell (i := 1) rfl rfl)) rfl ?_);clear S;intro a S
            refine l_want S rfl rfl rfl hb11 (lv S (rn_seql (S.tm rfl) (S.tm rfl)) rfl ?_);clear S;intro a S
            refine l_want S rfl rfl rfl hb10 (lv S (rn_and_t hb11 (S.tm rfl) (S.tm rfl)) rfl ?_);clear S;intro a S
            refine Ld (Tn ?_)
            exact ⟨Keep.refl _ _, S.nf [true, true] rfl (subR rfl)⟩
           ·iterate 5 (refine l_skip S rfl rfl rfl (neq_f hb11) rfl ?_ rfl;clear S;intro a S)
            refine l_want S rfl rfl rfl hb10 (lv S (rn_and_f (decide (y3.Who = y2.Who)) hb11 (S.tm rfl) rfl) rfl ?_);clear S;intro a S
            refine Ld (Tn ?_)
            exact ⟨Keep.refl _ _, S.nf [true, true] rfl (subR rfl)⟩
          clear S;rintro a w27 ⟨hk18, S⟩
          refine lv S (rn_or_f hb10 (S.tm rfl) (S.tm rfl)) rfl ?_;clear S;intro a S
          refine Ld (Tn ?_)
          exact ⟨hk18, S.nf [true, true] rfl (subR rfl)⟩
        clear S;rintro a w26 ⟨hk19, S⟩
        refine lv S (Ra (S.tm rfl)) rfl ?_;clear S;intro a S
        refine Ld ?_
        replace S := S.nk [.blk b8 (GScored.enc y3) 38, .blk b6 (GScored.enc y2) 38] [(0, V), (5, bV (x6 || ((!decide ((i3 : Int) = (i2 : Int))) && (decide (y3.Who = y2.Who))))), (6, bV x7), (7, bV x4), (8, bV x5), (9, iV (i2 : Int)), (10, .pointer (some ⟨b6, 0, none⟩)), (11, iV x8), (12, iV x9), (14, .pointer (some ⟨b8, 0, none⟩)), (68, V), (69, iV (Z.length : Int)), (70, iV (i2 : Int)), (75, V), (76, iV (Z.length : Int)), (77, iV (i3 : Int))] [true, true] rfl (subR rfl)
        refine Tn (Fs (Fg (lv S (Rm (S.tm rfl)) rfl ?_)));clear S;intro a S
        refine lv S (Rm (S.tm rfl)) rfl ?_;clear S;intro a S
        refine f_cutm 6 (fun a w' => Keep [] w26 w' ∧ Sx w [] nov [.blk b8 (GScored.enc y3) 38, .blk b6 (GScored.enc y2) 38] [(0, V), (5, bV (x6 || ((!decide ((i3 : Int) = (i2 : Int))) && (decide (y3.Who = y2.Who))))), (7, bV x4), (8, bV x5), (9, iV (i2 : Int)), (10, .pointer (some ⟨b6, 0, none⟩)), (11, iV x8), (12, iV x9), (14, .pointer (some ⟨b8, 0, none⟩)), (68, V), (69, iV (Z.length : Int)), (70, iV (i2 : Int)), (75, V), (76, iV (Z.length : Int)), (77, iV (i3 : Int)), (107, bV (x7 || (!decide (y3.Relay = y2.Relay))))] 171 a w') ?_ ?_
        ·rcases Bool.eq_false_or_eq_true x7 with hb12 | hb12
         ·iterate 5 (refine l_skip S rfl rfl rfl (neq_t hb12) rfl ?_ rfl;clear S;intro a S)
          refine lv S (rn_or_t (!decide (y3.Relay = y2.Relay)) hb12 (S.tm rfl) rfl) rfl ?_;clear S;intro a S
          refine Ld (Tn ?_)
          exact ⟨Keep.refl _ _, S.nf [true, true] rfl (subR rfl)⟩
         ·refine l_want S rfl rfl rfl hb12 (lv S (rn_fld fa_38_4 (S.tm rfl)) rfl ?_);clear S;intro a S
          refine l_want S rfl rfl rfl hb12 (lv S (rn_load Tryz.isAgg4 (S.tm rfl) (S.cell (i := 0) rfl rfl)) rfl ?_);clear S;intro a S
          refine l_want S rfl rfl rfl hb12 (lv S (rn_fld fa_38_4 (S.tm rfl)) rfl ?_);clear S;intro a S
          refine l_want S rfl rfl rfl hb12 (lv S (rn_load Tryz.isAgg4 (S.tm rfl) (S.cell (i := 1) rfl rfl)) rfl ?_);clear S;intro a S
          refine l_want S rfl rfl rfl hb12 (lv S (rn_bneq Tryz.underlying4 (S.tm rfl) (S.tm rfl)) rfl ?_);clear S;intro a S
          refine lv S (rn_or_f hb12 (S.tm rfl) (S.tm rfl)) rfl ?_;clear S;intro a S
          refine Ld (Tn ?_)
          exact ⟨Keep.refl _ _, S.nf [true, true] rfl (subR rfl)⟩
        clear S;rintro a w28 ⟨hk20, S⟩
        refine lv S (Ra (S.tm rfl)) rfl ?_;clear S;intro a S
        refine Ld ?_
        replace S := S.nk [.blk b8 (GScored.enc y3) 38, .blk b6 (GScored.enc y2) 38] [(0, V), (5, bV (x6 || ((!decide ((i3 : Int) = (i2 : Int))) && (decide (y3.Who = y2.Who))))), (6, bV (x7 || (!decide (y3.Relay = y2.Relay)))), (7, bV x4), (8, bV x5), (9, iV (i2 : Int)), (10, .pointer (some ⟨b6, 0, none⟩)), (11, iV x8), (12, iV x9), (14, .pointer (some ⟨b8, 0, none⟩)), (68, V), (69, iV (Z.length : Int)), (70, iV (i2 : Int)), (75, V), (76, iV (Z.length : Int)), (77, iV (i3 : Int))] [true, true] rfl (subR rfl)
        refine Tn (Fs (Fs (Fg (lv S (rn_fld fa_38_3 (S.tm rfl)) rfl ?_))));clear S;intro a S
        refine lv S (rn_load Tryz.isAgg3 (S.tm rfl) (S.cell (i := 0) rfl rfl)) rfl ?_;clear S;intro a S
        refine lv S (rn_gtr (S.tm rfl) rfl) rfl ?_;clear S;intro a S
        refine lv S (Rm (S.tm rfl)) rfl ?_;clear S;intro a S
        refine f_cutm 6 (fun a w' => Keep [] w28 w' ∧ Sx w [] nov [.blk b8 (GScored.enc y3) 38, .blk b6 (GScored.enc y2) 38] [(0, V), (5, bV (x6 || ((!decide ((i3 : Int) = (i2 : Int))) && (decide (y3.Who = y2.Who))))), (6, bV (x7 || (!decide (y3.Relay = y2.Relay)))), (7, bV x4), (8, bV x5), (9, iV (i2 : Int)), (10, .pointer (some ⟨b6, 0, none⟩)), (11, iV x8), (12, iV x9), (14, .pointer (some ⟨b8, 0, none⟩)), (68, V), (69, iV (Z.length : Int)), (70, iV (i2 : Int)), (75, V), (76, iV (Z.length : Int)), (77, iV (i3 : Int)), (117, bV ((decide (0 < y3.Rank)) && (decide (y3.Rank < y2.Rank))))] 171 a w') ?_ ?_
        ·rcases Bool.eq_false_or_eq_true (decide (0 < y3.Rank)) with hb13 | hb13
         ·refine l_want S rfl rfl rfl hb13 (lv S (rn_fld fa_38_3 (S.tm rfl)) rfl ?_);clear S;intro a S
          refine l_want S rfl rfl rfl hb13 (lv S (rn_load Tryz.isAgg3 (S.tm rfl) (S.cell (i := 0) rfl rfl)) rfl ?_);clear S;intro a S
          refine l_want S rfl rfl rfl hb13 (lv S (rn_fld fa_38_3 (S.tm rfl)) rfl ?_);clear S;intro a S
          refine l_want S rfl rfl rfl hb13 (lv S (rn_load Tryz.isAgg3 (S.tm rfl) (S.cell (i := 1) rfl rfl)) rfl ?_);clear S;intro a S
          refine l_want S rfl rfl rfl hb13 (lv S (rn_lss (S.tm rfl) (S.tm rfl)) rfl ?_);clear S;intro a S
          refine lv S (rn_and_t hb13 (S.tm rfl) (S.tm rfl)) rfl ?_;clear S;intro a S
          refine Ld (Tn ?_)
          exact ⟨Keep.refl _ _, S.nf [true, true] rfl (subR rfl)⟩
         ·iterate 5 (refine l_skip S rfl rfl rfl (neq_f hb13) rfl ?_ rfl;clear S;intro a S)
          refine lv S (rn_and_f (decide (y3.Rank < y2.Rank)) hb13 (S.tm rfl) rfl) rfl ?_;clear S;intro a S
          refine Ld (Tn ?_)
          exact ⟨Keep.refl _ _, S.nf [true, true] rfl (subR rfl)⟩
        clear S;rintro a w29 ⟨hk21, S⟩
        refine Ld ?_
        replace S := S.nk [.blk b8 (GScored.enc y3) 38, .blk b6 (GScored.enc y2) 38] [(0, V), (5, bV (x6 || ((!decide ((i3 : Int) = (i2 : Int))) && (decide (y3.Who = y2.Who))))), (6, bV (x7 || (!decide (y3.Relay = y2.Relay)))), (7, bV x4), (8, bV x5), (9, iV (i2 : Int)), (10, .pointer (some ⟨b6, 0, none⟩)), (11, iV x8), (12, iV x9), (14, .pointer (some ⟨b8, 0, none⟩)), (68, V), (69, iV (Z.length : Int)), (70, iV (i2 : Int)), (75, V), (76, iV (Z.length : Int)), (77, iV (i3 : Int)), (117, bV ((decide (0 < y3.Rank)) && (decide (y3.Rank < y2.Rank))))] [true, true] rfl (subR rfl)
        refine Tn ?_
        obtain ⟨j9, hj9, h⟩ := joinE h
        refine f_join (fun a w' => ∃ x14 : Int, j9 x14 = some r ∧ Sx w [] nov [.blk b8 (GScored.enc y3) 38, .blk b6 (GScored.enc y2) 38] [(0, V), (5, bV (x6 || ((!decide ((i3 : Int) = (i2 : Int))) && (decide (y3.Who = y2.Who))))), (6, bV (x7 || (!decide (y3.Relay = y2.Relay)))), (7, bV x4), (8, bV x5), (9, iV (i2 : Int)), (10, .pointer (some ⟨b6, 0, none⟩)), (11, iV x14), (12, iV x9), (14, .pointer (some ⟨b8, 0, none⟩)), (68, V), (69, iV (Z.length : Int)), (70, iV (i2 : Int)), (75, V), (76, iV (Z.length : Int)), (77, iV (i3 : Int))] 171 a w') ?_ ?_
        ·refine f_cond (S.tm rfl) (fun hb14 => ?_) (fun hb14 => ?_)
         ·replace h := iteT h hb14
          refine Fg (lv S (Rm (S.tm rfl)) rfl ?_);clear S;intro a S
          refine lv S (rn_add (S.tm rfl) rfl) rfl ?_;clear S;intro a S
          refine lv S (Ra (S.tm rfl)) rfl ?_;clear S;intro a S
          refine Ld ?_
          replace S := S.nk [.blk b8 (GScored.enc y3) 38, .blk b6 (GScored.enc y2) 38] [(0, V), (5, bV (x6 || ((!decide ((i3 : Int) = (i2 : Int))) && (decide (y3.Who = y2.Who))))), (6, bV (x7 || (!decide (y3.Relay = y2.Relay)))), (7, bV x4), (8, bV x5), (9, iV (i2 : Int)), (10, .pointer (some ⟨b6, 0, none⟩)), (11, iV (W (x8 + 1))), (12, iV x9), (14, .pointer (some ⟨b8, 0, none⟩)), (68, V), (69, iV (Z.length : Int)), (70, iV (i2 : Int)), (75, V), (76, iV (Z.length : Int)), (77, iV (i3 : Int))] [true, true] rfl (subR rfl)
          refine Tn ?_
          exact ⟨W (x8 + 1), h, S.nf [true, true] rfl (subR rfl)⟩
         ·replace h := iteF h hb14
          refine wp_skip (Tn ?_)
          exact ⟨x8, h, S.nf [true, true] rfl (subR rfl)⟩
        clear S h;rintro a w30 ⟨x14, h, S⟩;rw [hj9] at h;clear hj9 j9
        refine Tn (Fs (Fg (lv S (rn_fld fa_38_3 (S.tm rfl)) rfl ?_)));clear S;intro a S
        refine lv S (rn_load Tryz.isAgg3 (S.tm rfl) (S.cell (i := 0) rfl rfl)) rfl ?_;clear S;intro a S
        refine lv S (rn_fld fa_38_3 (S.tm rfl)) rfl ?_;clear S;intro a S
        refine lv S (rn_load Tryz.isAgg3 (S.tm rfl) (S.cell (i := 1) rfl rfl)) rfl ?_;clear S;intro a S
        refine lv S (rn_eql (S.tm rfl) (S.tm rfl)) rfl ?_;clear S;intro a S
        refine Ld ?_
        replace S := S.nk [.blk b6 (GScored.enc y2) 38] [(0, V), (5, bV (x6 || ((!decide ((i3 : Int) = (i2 : Int))) && (decide (y3.Who = y2.Who))))), (6, bV (x7 || (!decide (y3.Relay = y2.Relay)))), (7, bV x4), (8, bV x5), (9, iV (i2 : Int)), (10, .pointer (some ⟨b6, 0, none⟩)), (11, iV x14), (12, iV x9), (68, V), (69, iV (Z.length : Int)), (70, iV (i2 : Int)), (75, V), (76, iV (Z.length : Int)), (77, iV (i3 : Int)), (124, bV (decide (y3.Rank = y2.Rank)))] [false, true] rfl (subR rfl)
        refine Tn ?_
        obtain ⟨j10, hj10, h⟩ := joinE h
        refine f_join (fun a w' => ∃ x15 : Int, j10 x15 = some r ∧ Sx w [] nov [.blk b6 (GScored.enc y2) 38] [(0, V), (5, bV (x6 || ((!decide ((i3 : Int) = (i2 : Int))) && (decide (y3.Who = y2.Who))))), (6, bV (x7 || (!decide (y3.Relay = y2.Relay)))), (7, bV x4), (8, bV x5), (9, iV (i2 : Int)), (10, .pointer (some ⟨b6, 0, none⟩)), (11, iV x14), (12, iV x15), (68, V), (69, iV (Z.length : Int)), (70, iV (i2 : Int)), (75, V), (76, iV (Z.length : Int)), (77, iV (i3 : Int))] 171 a w') ?_ ?_
        ·refine f_cond (S.tm rfl) (fun hb15 => ?_) (fun hb15 => ?_)
         ·replace h := iteT h hb15
          refine Fg (lv S (Rm (S.tm rfl)) rfl ?_);clear S;intro a S
          refine lv S (rn_add (S.tm rfl) rfl) rfl ?_;clear S;intro a S
          refine lv S (Ra (S.tm rfl)) rfl ?_;clear S;intro a S
          refine Ld ?_
          replace S := S.nk [.blk b6 (GScored.enc y2) 38] [(0, V), (5, bV (x6 || ((!decide ((i3 : Int) = (i2 : Int))) && (decide (y3.Who = y2.Who))))), (6, bV (x7 || (!decide (y3.Relay = y2.Relay)))), (7, bV x4), (8, bV x5), (9, iV (i2 : Int)), (10, .pointer (some ⟨b6, 0, none⟩)), (11, iV x14), (12, iV (W (x9 + 1))), (68, V), (69, iV (Z.length : Int)), (70, iV (i2 : Int)), (75, V), (76, iV (Z.length : Int)), (77, iV (i3 : Int))] [true] rfl (subR rfl)
          refine Tn ?_
          exact ⟨W (x9 + 1), h, S.nf [true] rfl (subR rfl)⟩
         ·replace h := iteF h hb15
          refine wp_skip (Tn ?_)
          exact ⟨x9, h, S.nf [true] rfl (subR rfl)⟩
        clear S h;rintro a w31 ⟨x15, h, S⟩;rw [hj10] at h;clear hj10 j10
        refine blk_n (Tn ?_)
        exact ⟨(x6 || ((!decide ((i3 : Int) = (i2 : Int))) && (decide (y3.Who = y2.Who)))), (x7 || (!decide (y3.Relay = y2.Relay))), x14, x15, h, S.nf [true] rfl (subR rfl)⟩
      clear S h;rintro a w23 ⟨x10, x11, x12, x13, h, S⟩;rw [hj8] at h;clear hj8 j8
      refine Tn (Fg (lv S (rn_add (S.tm rfl) rfl) rfl ?_));clear S;intro a S
      refine lv S (Rm (S.tm rfl)) rfl ?_;clear S;intro a S
      refine Ld ?_
      replace S := S.nk [.blk b6 (GScored.enc y2) 38] [(0, V), (5, bV x10), (6, bV x11), (7, bV x4), (8, bV x5), (9, iV (i2 : Int)), (10, .pointer (some ⟨b6, 0, none⟩)), (11, iV x12), (12, iV x13), (68, V), (69, iV (Z.length : Int)), (70, iV (i2 : Int)), (75, V), (76, iV (Z.length : Int)), (77, iV (W ((i3 : Int) + 1)))] [true] rfl (subR rfl)
      refine Tn ?_
      exact ⟨ys3, ⟨i3 + 1, x10, x11, x12, x13, ⟨_, (hd3).trans (List.append_cons _ _ _), by simp [hi3]⟩, h, S.nf [true] rfl ⟨rfl, rfl, rfl, rfl, rfl, rfl, rfl, rfl, rfl, rfl, rfl, rfl, rfl, rfl, (congrArg (fun z => some (Value.int .i64 z)) (rng_next hd3 hi3 (slc_max Af))), trivial⟩⟩, Nat.lt_succ_self _⟩
    clear S h;rintro a w22 ⟨x6, x7, x8, x9, h, S⟩;rw [hj7] at h;clear hj7 j7
    refine Tn (Fs (Fg (lv S (Rm (S.tm rfl)) rfl ?_)));clear S;intro a S
    refine lv S (Rm (S.tm rfl)) rfl ?_;clear S;intro a S
    refine f_cutm 11 (fun a w' => Keep [] w22 w' ∧ Sx w [] nov [.blk b6 (GScored.enc y2) 38] [(0, V), (5, bV x6), (6, bV x7), (8, bV x5), (10, .pointer (some ⟨b6, 0, none⟩)), (12, iV x9), (68, V), (69, iV (Z.length : Int)), (70, iV (i2 : Int)), (140, bV (x4 || ((decide (0 < y2.Rank)) && (!decide (y2.Rank = (W (x8 + 1)))))))] 171 a w') ?_ ?_
    ·rcases Bool.eq_false_or_eq_true x4 with hb16 | hb16
     ·iterate 4 (refine l_skip S rfl rfl rfl (neq_t hb16) rfl ?_ rfl;clear S;intro a S)
      iterate 5 (refine l_skipU S rfl rfl rfl rfl ?_;clear S;intro a S)
      refine l_skip S rfl rfl rfl (neq_t hb16) rfl ?_ rfl;clear S;intro a S
      refine lv S (rn_or_t ((decide (0 < y2.Rank)) && (!decide (y2.Rank = (W (x8 + 1))))) hb16 (S.tm rfl) rfl) rfl ?_;clear S;intro a S
      refine Ld (Tn ?_)
      exact ⟨Keep.refl _ _, S.nf [true] rfl (subR rfl)⟩
     ·refine l_want S rfl rfl rfl hb16 (lv S (rn_fld fa_38_3 (S.tm rfl)) rfl ?_);clear S;intro a S
      refine l_want S rfl rfl rfl hb16 (lv S (rn_load Tryz.isAgg3 (S.tm rfl) (S.cell (i := 0) rfl rfl)) rfl ?_);clear S;intro a S
      refine l_want S rfl rfl rfl hb16 (lv S (rn_gtr (S.tm rfl) rfl) rfl ?_);clear S;intro a S
      refine l_want S rfl rfl rfl hb16 (lv S (Rm (S.tm rfl)) rfl ?_);clear S;intro a S
      refine f_cutm 6 (fun a w' => Keep [] w22 w' ∧ Sx w [] nov [.blk b6 (GScored.enc y2) 38] [(0, V), (5, bV x6), (6, bV x7), (8, bV x5), (10, .pointer (some ⟨b6, 0, none⟩)), (12, iV x9), (68, V), (69, iV (Z.length : Int)), (70, iV (i2 : Int)), (129, bV x4), (130, .pointer (some ⟨b6, 3, none⟩)), (131, iV y2.Rank), (132, bV (decide (0 < y2.Rank))), (133, bV (decide (0 < y2.Rank))), (139, bV ((decide (0 < y2.Rank)) && (!decide (y2.Rank = (W (x8 + 1))))))] 171 a w') ?_ ?_
      ·rcases Bool.eq_false_or_eq_true (decide (0 < y2.Rank)) with hb17 | hb17
       ·refine l_want S rfl rfl rfl hb17 (lv S (rn_fld fa_38_3 (S.tm rfl)) rfl ?_);clear S;intro a S
        refine l_want S rfl rfl rfl hb17 (lv S (rn_load Tryz.isAgg3 (S.tm rfl) (S.cell (i := 0) rfl rfl)) rfl ?_);clear S;intro a S
        refine l_want S rfl rfl rfl hb17 (lv S (Rm (S.tm rfl)) rfl ?_);clear S;intro a S
        refine l_want S rfl rfl rfl hb17 (lv S (rn_add (S.tm rfl) rfl) rfl ?_);clear S;intro a S
        refine l_want S rfl rfl rfl hb17 (lv S (rn_neq (S.tm rfl) (S.tm rfl)) rfl ?_);clear S;intro a S
        refine l_want S rfl rfl rfl hb16 (lv S (rn_and_t hb17 (S.tm rfl) (S.tm rfl)) rfl ?_);clear S;intro a S
        refine Ld (Tn ?_)
        exact ⟨Keep.refl _ _, S.nf [true] rfl (subR rfl)⟩
       ·iterate 5 (refine l_skip S rfl rfl rfl (neq_f hb17) rfl ?_ rfl;clear S;intro a S)
        refine l_want S rfl rfl rfl hb16 (lv S (rn_and_f (!decide (y2.Rank = (W (x8 + 1)))) hb17 (S.tm rfl) rfl) rfl ?_);clear S;intro a S
        refine Ld (Tn ?_)
        exact ⟨Keep.refl _ _, S.nf [true] rfl (subR rfl)⟩
      clear S;rintro a w33 ⟨hk22, S⟩
      refine lv S (rn_or_f hb16 (S.tm rfl) (S.tm rfl)) rfl ?_;clear S;intro a S
      refine Ld (Tn ?_)
      exact ⟨hk22, S.nf [true] rfl (subR rfl)⟩
    clear S;rintro a w32 ⟨hk23, S⟩
    refine lv S (Ra (S.tm rfl)) rfl ?_;clear S;intro a S
    refine Ld (Tn (Fg (lv S (Rm (S.tm rfl)) rfl ?_)));clear S;intro a S
    refine lv S (Rm (S.tm rfl)) rfl ?_;clear S;intro a S
    refine f_cutm 8 (fun a w' => Keep [] w32 w' ∧ Sx w [] nov [.blk b6 (GScored.enc y2) 38] [(0, V), (5, bV x6), (6, bV x7), (7, bV (x4 || ((decide (0 < y2.Rank)) && (!decide (y2.Rank = (W (x8 + 1))))))), (68, V), (69, iV (Z.length : Int)), (70, iV (i2 : Int)), (150, bV (x5 || ((decide (0 < y2.Rank)) && (decide (10 < x9)))))] 171 a w') ?_ ?_
    ·rcases Bool.eq_false_or_eq_true x5 with hb18 | hb18
     ·iterate 4 (refine l_skip S rfl rfl rfl (neq_t hb18) rfl ?_ rfl;clear S;intro a S)
      refine l_skipU S rfl rfl rfl rfl ?_;clear S;intro a S
      refine l_skipU S rfl rfl rfl rfl ?_;clear S;intro a S
      refine l_skip S rfl rfl rfl (neq_t hb18) rfl ?_ rfl;clear S;intro a S
      refine lv S (rn_or_t ((decide (0 < y2.Rank)) && (decide (10 < x9))) hb18 (S.tm rfl) rfl) rfl ?_;clear S;intro a S
      refine Ld (Tn ?_)
      exact ⟨Keep.refl _ _, S.nf [true] rfl (subR rfl)⟩
     ·refine l_want S rfl rfl rfl hb18 (lv S (rn_fld fa_38_3 (S.tm rfl)) rfl ?_);clear S;intro a S
      refine l_want S rfl rfl rfl hb18 (lv S (rn_load Tryz.isAgg3 (S.tm rfl) (S.cell (i := 0) rfl rfl)) rfl ?_);clear S;intro a S
      refine l_want S rfl rfl rfl hb18 (lv S (rn_gtr (S.tm rfl) rfl) rfl ?_);clear S;intro a S
      refine l_want S rfl rfl rfl hb18 (lv S (Rm (S.tm rfl)) rfl ?_);clear S;intro a S
      refine f_cutm 3 (fun a w' => Keep [] w32 w' ∧ Sx w [] nov [.blk b6 (GScored.enc y2) 38] [(0, V), (5, bV x6), (6, bV x7), (7, bV (x4 || ((decide (0 < y2.Rank)) && (!decide (y2.Rank = (W (x8 + 1))))))), (68, V), (69, iV (Z.length : Int)), (70, iV (i2 : Int)), (142, bV x5), (143, .pointer (some ⟨b6, 3, none⟩)), (144, iV y2.Rank), (145, bV (decide (0 < y2.Rank))), (146, bV (decide (0 < y2.Rank))), (149, bV ((decide (0 < y2.Rank)) && (decide (10 < x9))))] 171 a w') ?_ ?_
      ·rcases Bool.eq_false_or_eq_true (decide (0 < y2.Rank)) with hb19 | hb19
       ·refine l_want S rfl rfl rfl hb19 (lv S (Rm (S.tm rfl)) rfl ?_);clear S;intro a S
        refine l_want S rfl rfl rfl hb19 (lv S (rn_gtr (S.tm rfl) rfl) rfl ?_);clear S;intro a S
        refine l_want S rfl rfl rfl hb18 (lv S (rn_and_t hb19 (S.tm rfl) (S.tm rfl)) rfl ?_);clear S;intro a S
        refine Ld (Tn ?_)
        exact ⟨Keep.refl _ _, S.nf [true] rfl (subR rfl)⟩
       ·refine l_skip S rfl rfl rfl (neq_f hb19) rfl ?_ rfl;clear S;intro a S
        refine l_skip S rfl rfl rfl (neq_f hb19) rfl ?_ rfl;clear S;intro a S
        refine l_want S rfl rfl rfl hb18 (lv S (rn_and_f (decide (10 < x9)) hb19 (S.tm rfl) rfl) rfl ?_);clear S;intro a S
        refine Ld (Tn ?_)
        exact ⟨Keep.refl _ _, S.nf [true] rfl (subR rfl)⟩
      clear S;rintro a w35 ⟨hk24, S⟩
      refine lv S (rn_or_f hb18 (S.tm rfl) (S.tm rfl)) rfl ?_;clear S;intro a S
      refine Ld (Tn ?_)
      exact ⟨hk24, S.nf [true] rfl (subR rfl)⟩
    clear S;rintro a w34 ⟨hk25, S⟩
    refine lv S (Ra (S.tm rfl)) rfl ?_;clear S;intro a S
    refine Ld (blk_n (Tn (Fg (lv S (rn_add (S.tm rfl) rfl) rfl ?_))));clear S;intro a S
    refine lv S (Rm (S.tm rfl)) rfl ?_;clear S;intro a S
    refine Ld (Tn ?_)
    exact ⟨ys2, ⟨i2 + 1, x6, x7, (x4 || ((decide (0 < y2.Rank)) && (!decide (y2.Rank = (W (x8 + 1)))))), (x5 || ((decide (0 < y2.Rank)) && (decide (10 < x9)))), ⟨_, (hd2).trans (List.append_cons _ _ _), by simp [hi2]⟩, h, S.nf [false] rfl ⟨rfl, rfl, rfl, rfl, rfl, rfl, rfl, (congrArg (fun z => some (Value.int .i64 z)) (rng_next hd2 hi2 (slc_max Af))), trivial⟩⟩, Nat.lt_succ_self _⟩
  clear S h;rintro a w18 ⟨x2, x3, x4, x5, h, S⟩;rw [hj6] at h;clear hj6 j6
  refine Tn (Fs (Fs (Fg (lv S (Rm (S.tm rfl)) rfl ?_))));clear S;intro a S
  refine lv S (rn_bld bt_64 (pv := [(0, bV x2), (1, iV 6)]) ⟨rfl, (S.tm rfl), rfl, rfl, trivial⟩ (cs := [bV x2, iV 6]) (by kernel_rfl)) rfl ?_;clear S;intro a S
  refine lv S (Rm (S.tm rfl)) rfl ?_;clear S;intro a S
  refine lv S (rn_bld bt_64 (pv := [(0, bV x3), (1, iV 3)]) ⟨rfl, (S.tm rfl), rfl, rfl, trivial⟩ (cs := [bV x3, iV 3]) (by kernel_rfl)) rfl ?_;clear S;intro a S
  refine lv S (Rm (S.tm rfl)) rfl ?_;clear S;intro a S
  refine lv S (rn_bld bt_64 (pv := [(0, bV x4), (1, iV 16)]) ⟨rfl, (S.tm rfl), rfl, rfl, trivial⟩ (cs := [bV x4, iV 16]) (by kernel_rfl)) rfl ?_;clear S;intro a S
  refine lv S (Rm (S.tm rfl)) rfl ?_;clear S;intro a S
  refine lv S (rn_bld bt_64 (pv := [(0, bV x5), (1, iV 12)]) ⟨rfl, (S.tm rfl), rfl, rfl, trivial⟩ (cs := [bV x5, iV 12]) (by kernel_rfl)) rfl ?_;clear S;intro a S
  refine l_buildSlice S Tryz.underlying65 Tryz.sizeOf64 Tryz.zeroValue64 rfl rfl (pv := [(0, .agg #[bV x2, iV 6]), (1, .agg #[bV x3, iV 3]), (2, .agg #[bV x4, iV 16]), (3, .agg #[bV x5, iV 12])]) ⟨rfl, (S.tm rfl), rfl, (S.tm rfl), rfl, (S.tm rfl), rfl, (S.tm rfl), trivial⟩ (cs := [bV x2, iV 6, bV x3, iV 3, bV x4, iV 16, bV x5, iV 12]) (by kernel_rfl) rfl ?_;clear S;intro a w36 b9 hz4 hk26 S
  refine lv S (rn_lenT sl_65 (S.tm rfl) ⟨_, _, rfl⟩) rfl ?_;clear S;intro a S
  refine lv S (Rm rfl) rfl ?_;clear S;intro a S
  refine Ld ?_
  replace S := S.nk [.blk b9 [bV x2, iV 6, bV x3, iV 3, bV x4, iV 16, bV x5, iV 12] 64] [(160, .slice (some ⟨b9, 0, none⟩) 4 4), (161, iV (([(Gno_is_e.mk x2 6), (Gno_is_e.mk x3 3), (Gno_is_e.mk x4 16), (Gno_is_e.mk x5 12)] : List Gno_is_e).length : Int)), (162, iV 0)] [true] rfl (subR rfl)
  refine Tn ?_
  replace S := S.litOwn (i := 0) (xs := [(Gno_is_e.mk x2 6), (Gno_is_e.mk x3 3), (Gno_is_e.mk x4 16), (Gno_is_e.mk x5 12)]) rfl Gno_is_e.enc_ok rfl rfl rfl
  replace S := S.nk [.own (.slice (some ⟨b9, 0, none⟩) 4 4) 64 2 ([(Gno_is_e.mk x2 6), (Gno_is_e.mk x3 3), (Gno_is_e.mk x4 16), (Gno_is_e.mk x5 12)] : List Gno_is_e).length (([(Gno_is_e.mk x2 6), (Gno_is_e.mk x3 3), (Gno_is_e.mk x4 16), (Gno_is_e.mk x5 12)] : List Gno_is_e).flatMap Gno_is_e.enc)] [(160, (.slice (some ⟨b9, 0, none⟩) 4 4)), (161, iV (([(Gno_is_e.mk x2 6), (Gno_is_e.mk x3 3), (Gno_is_e.mk x4 16), (Gno_is_e.mk x5 12)] : List Gno_is_e).length : Int)), (162, iV 0)] [] rfl (subR rfl)
  obtain ⟨φ1, hl1, hs1, S⟩ := S.freezeT (xs := ([(Gno_is_e.mk x2 6), (Gno_is_e.mk x3 3), (Gno_is_e.mk x4 16), (Gno_is_e.mk x5 12)] : List Gno_is_e)) (enc := Gno_is_e.enc) (i := 0) rfl (fun _ h => by cases h)
  replace S := S.nk [] [(160, (.slice (some ⟨b9, 0, none⟩) 4 4)), (161, iV (([(Gno_is_e.mk x2 6), (Gno_is_e.mk x3 3), (Gno_is_e.mk x4 16), (Gno_is_e.mk x5 12)] : List Gno_is_e).length : Int)), (162, iV 0)] [] rfl (subR rfl)
  obtain ⟨j11, hj11, h⟩ := joinE h
  refine f_join (fun a w' => j11 = some r ∧ Sx w [] φ1 [] [] 171 a w') ?_ ?_
  ·refine wp_block (f_loop (fun (ys4 : List Gno_is_e) a w' => ∃ i4 : Nat, (∃ dn, ([(Gno_is_e.mk x2 6), (Gno_is_e.mk x3 3), (Gno_is_e.mk x4 16), (Gno_is_e.mk x5 12)] : List Gno_is_e) = dn ++ ys4 ∧ dn.length = i4) ∧ tumbref2_ScoredFault_l4 j11 ys4 i4 = some r ∧ Sx w [] φ1 [] [(160, (.slice (some ⟨b9, 0, none⟩) 4 4)), (161, iV (([(Gno_is_e.mk x2 6), (Gno_is_e.mk x3 3), (Gno_is_e.mk x4 16), (Gno_is_e.mk x5 12)] : List Gno_is_e).length : Int)), (162, iV (i4 : Int))] 171 a w') List.length ([(Gno_is_e.mk x2 6), (Gno_is_e.mk x3 3), (Gno_is_e.mk x4 16), (Gno_is_e.mk x5 12)] : List Gno_is_e) ⟨0, ⟨[], rfl, rfl⟩, h, S.nf [] rfl (subR rfl)⟩ ?_)
   clear S h;rintro ys4 a w37 ⟨i4, ⟨dn, hd4, hi4⟩, h, S⟩
   cases ys4 with
   | nil =>
    rw [tumbref2_ScoredFault_l4.eq_1] at h
    refine Fs (Fg (lv S (rn_lss (S.tm rfl) (S.tm rfl)) rfl ?_));clear S;intro a S
    refine Ld ?_
    replace S := S.nk [] [(160, (.slice (some ⟨b9, 0, none⟩) 4 4)), (161, iV (([(Gno_is_e.mk x2 6), (Gno_is_e.mk x3 3), (Gno_is_e.mk x4 16), (Gno_is_e.mk x5 12)] : List Gno_is_e).length : Int)), (162, iV (i4 : Int)), (163, bV (decide ((i4 : Int) < (([(Gno_is_e.mk x2 6), (Gno_is_e.mk x3 3), (Gno_is_e.mk x4 16), (Gno_is_e.mk x5 12)] : List Gno_is_e).length : Int))))] [] rfl (subR rfl)
    refine Tn (Fs (wp_cond_false ((S.tm rfl).trans (congrArg Value.bool (rng_nil hd4 hi4))) (wp_exit (then_x (then_x (x_same ?_))))))
    refine Tn ?_
    exact ⟨h, S.nf [] rfl trivial⟩
   | cons y4 ys4 =>
    rw [tumbref2_ScoredFault_l4.eq_2] at h
    refine Fs (Fg (lv S (rn_lss (S.tm rfl) (S.tm rfl)) rfl ?_));clear S;intro a S
    refine Ld ?_
    replace S := S.nk [] [(160, (.slice (some ⟨b9, 0, none⟩) 4 4)), (161, iV (([(Gno_is_e.mk x2 6), (Gno_is_e.mk x3 3), (Gno_is_e.mk x4 16), (Gno_is_e.mk x5 12)] : List Gno_is_e).length : Int)), (162, iV (i4 : Int)), (163, bV (decide ((i4 : Int) < (([(Gno_is_e.mk x2 6), (Gno_is_e.mk x3 3), (Gno_is_e.mk x4 16), (Gno_is_e.mk x5 12)] : List Gno_is_e).length : Int))))] [] rfl (subR rfl)
    refine Tn (Fs (wp_cond_true ((S.tm rfl).trans (congrArg Value.bool (rng_cons hd4 hi4))) (wp_skip (Tn (Fs (wp_block ?_))))))
    refine Fs (Fg ?_)
    obtain ⟨b10, o6, hm6, hr9⟩ := rn_indexT (a := a) (x := .tmp 160) (y := .tmp 162) (ty := 0) sl_65 (ownV_slcT Gno_is_e.enc_ok hs1) (get_mid hd4 hi4) rfl (S.tm rfl) (S.tm rfl)
    refine lv S (hr9 _) rfl ?_;clear S;intro a S
    clear hr9
    refine lv S (rn_ldA Tryz.isAgg64 Tryz.sizeOf64 (off := o6) (o := 0) (part := (Gno_is_e.enc y4)) rfl rfl (S.tm rfl) (hm6.at S.emb)) rfl ?_;clear S;intro a S
    refine l_alloc S Tryz.zeroValue64 (cs := [bV false, iV 0]) rfl rfl ?_;clear S;intro a w39 b11 hz5 hk27 S
    refine l_store S (S.tm rfl) (S.tm rfl) (i := 0) (off := 0) rfl Tryz.sizeOf64 (vs := (Gno_is_e.enc y4)) rfl rfl rfl rfl ?_;clear S;intro w40 hk28 S
    refine Ld (Tn (Fs (Fg (lv S (rn_fld fa_64_0 (S.tm rfl)) rfl ?_))));clear S;intro a S
    refine lv S (rn_load Tryz.isAgg4 (S.tm rfl) (S.cell (i := 0) rfl rfl)) rfl ?_;clear S;intro a S
    refine Ld (Tn (f_cond (S.tm rfl) (fun hb20 => ?_) (fun hb20 => ?_)))
    ·replace h := iteT h hb20
     refine Fs (Fg (lv S (rn_fld fa_64_1 (S.tm rfl)) rfl ?_));clear S;intro a S
     refine lv S (rn_load Tryz.isAgg29 (S.tm rfl) (S.cell (i := 0) rfl rfl)) rfl ?_;clear S;intro a S
     refine lv S (Ra (S.tm rfl)) rfl ?_;clear S;intro a S
     refine Ld (Tn (wp_ret (blk_r (then_r (then_r (blk_r ?_))))))
     refine then_r (then_r ?_)
     obtain rfl := Option.some.inj h
     exact f_ret S Tryz.results7 rfl rfl
    ·replace h := iteF h hb20
     refine wp_skip (blk_n (Tn (Fg (lv S (rn_add (S.tm rfl) rfl) rfl ?_))));clear S;intro a S
     refine lv S (Rm (S.tm rfl)) rfl ?_;clear S;intro a S
     refine Ld (Tn ?_)
     exact ⟨ys4, ⟨i4 + 1, ⟨_, (hd4).trans (List.append_cons _ _ _), by simp [hi4]⟩, h, S.nf [false] rfl ⟨rfl, rfl, (congrArg (fun z => some (Value.int .i64 z)) (rng_next hd4 hi4 (slc_max (ownV_slcT Gno_is_e.enc_ok hs1)))), trivial⟩⟩, Nat.lt_succ_self _⟩
  clear S h;rintro a w38 ⟨h, S⟩;rw [hj11] at h;clear hj11 j11
  refine Tn (Fs (Fg (lv S (Ra rfl) rfl ?_)));clear S;intro a S
  refine Ld (Tn (wp_ret ?_))
  obtain rfl := Option.some.inj h
  exact f_ret S Tryz.results7 rfl rfl
theorem strings_Cut_ok (w : World) (s : ByteArray) (sep : ByteArray) (hg_maxlen : GlobI (view w []) 0) (r : ByteArray × ByteArray × Bool) (h : strings_Cut s sep = some r) : Calls Tryz.prog 56 [sV s, sV sep].toArray w (Ret w [] fun _ v _ => v = .tuple #[.string r.1, .string r.2.1, .bool r.2.2]) := by
  unfold strings_Cut at h
  obtain ⟨hc, h⟩ := chkE h
  simp only [Bool.and_eq_true, decide_eq_true_eq] at hc
  obtain rfl := Option.some.inj h
  exact cut_ret { Tryz.lays145 with } s sep w hg_maxlen hc
theorem strings_Split_ok (w : World) (s : ByteArray) (sep : ByteArray) (hg_maxlen : GlobI (view w []) 0) (r : (List ByteArray)) (h : strings_Split s sep = some r) : Calls Tryz.prog 57 [sV s, sV sep].toArray w (Ret w [] fun τ v _ => OwnV τ 9 1 v r.length (r.flatMap eStr)) := by
  unfold strings_Split at h
  obtain ⟨hc, h⟩ := chkE h
  simp only [Bool.and_eq_true, decide_eq_true_eq] at hc
  obtain rfl := Option.some.inj h
  exact split_ret { Tryz.lays146 with } (by kernel_rfl) s sep w hg_maxlen hc.1 hc.2
theorem words_Split_ok (w : World) (Ay : ByteArray) (hg_maxlen : GlobI (view w []) 0) (r : (List ByteArray) × Bool) (h : words_Split Ay = some r) :
    Calls Tryz.prog 34 [sV Ay].toArray w (Ret w [] fun τ v _ => ∃ u1 : Value, v = .tuple #[u1, bV r.2] ∧ OwnV τ 9 1 u1 r.1.length (r.1.flatMap eStr)) := by
 refine f_enter [] [] Tryz.func34 rfl Tryz.ntmps34 rfl (by simp) (by simp [fps]) (by simp [fps]) fun a S => ?_
 unfold words_Split at h
 replace S := S.nk [] [(0, sV Ay)] [] rfl ⟨rfl, trivial⟩
 refine Fs (Fg (lv S (Ra rfl) rfl ?_));clear S;intro a S
 refine lv S (Ra rfl) rfl ?_;clear S;intro a S
 refine Ld (Tn (Fs (Fg (lv S (Rm (S.tm rfl)) rfl ?_))));clear S;intro a S
 obtain ⟨r1, hr1, h⟩ := bindE h
 have hz1 := S.keep.size
 refine l_enter S (fun _ => run_call (vs := [sV Ay, sV k__20]) ⟨(S.tm rfl), rfl, trivial⟩ Tryz.call57) (strings_Split_ok _ Ay k__20 (hg_maxlen.mono (S.le_arg nil_sub)) _ hr1) rfl ?_;clear S;intro v1 a w1 hv1 hk1 hn1 S
 obtain ⟨φ1, hl1, hm1, S⟩ := S.see' hn1 hz1
 have hs1 := hv1.mono hm1
 refine lv S (Ra (S.tm rfl)) rfl ?_;clear S;intro a S
 refine Ld (Tn (Fs (Fs (Fg (lv S (Rm (S.tm rfl)) rfl ?_)))));clear S;intro a S
 refine lv S (rn_lenT sl_59 (S.tm rfl) (slc_len (ownV_slcT enc_str hs1))) rfl ?_;clear S;intro a S
 refine lv S (Rm rfl) rfl ?_;clear S;intro a S
 refine Ld (Tn ?_)
 replace S := S.nk [] [(4, v1), (9, v1), (10, iV (r1.length : Int)), (11, iV 0)] [] rfl (subR rfl)
 obtain ⟨j1, hj1, h⟩ := joinE h
 refine f_join (fun a w' => j1 = some r ∧ Sx w [] φ1 [] [(4, v1)] 19 a w') ?_ ?_
 ·refine wp_block (f_loop (fun (ys1 : List ByteArray) a w' => ∃ i1 : Nat, (∃ dn, r1 = dn ++ ys1 ∧ dn.length = i1) ∧ words_Split_l1 j1 ys1 i1 = some r ∧ Sx w [] φ1 [] [(4, v1), (9, v1), (10, iV (r1.length : Int)), (11, iV (i1 : Int))] 19 a w') List.length r1 ⟨0, ⟨[], rfl, rfl⟩, h, S.nf [] rfl (subR rfl)⟩ ?_)
  clear S h;rintro ys1 a w2 ⟨i1, ⟨dn, hd1, hi1⟩, h, S⟩
  cases ys1 with
  | nil =>
   rw [words_Split_l1.eq_1] at h
   refine Fs (Fg (lv S (rn_lss (S.tm rfl) (S.tm rfl)) rfl ?_));clear S;intro a S
   refine Ld ?_
   replace S := S.nk [] [(4, v1), (9, v1), (10, iV (r1.length : Int)), (11, iV (i1 : Int)), (12, bV (decide ((i1 : Int) < (r1.length : Int))))] [] rfl (subR rfl)
   refine Tn (Fs (wp_cond_false ((S.tm rfl).trans (congrArg Value.bool (rng_nil hd1 hi1))) (wp_exit (then_x (then_x (x_same ?_))))))
   refine Tn ?_
   exact ⟨h, S.nf [] rfl ⟨rfl, trivial⟩⟩
  | cons y1 ys1 =>
   rw [words_Split_l1.eq_2] at h
   refine Fs (Fg (lv S (rn_lss (S.tm rfl) (S.tm rfl)) rfl ?_));clear S;intro a S
   refine Ld ?_
   replace S := S.nk [] [(4, v1), (9, v1), (10, iV (r1.length : Int)), (11, iV (i1 : Int)), (12, bV (decide ((i1 : Int) < (r1.length : Int))))] [] rfl (subR rfl)
   refine Tn (Fs (wp_cond_true ((S.tm rfl).trans (congrArg Value.bool (rng_cons hd1 hi1))) (wp_skip (Tn (Fs (wp_block ?_))))))
   refine Fs (Fg ?_)
   obtain ⟨b1, o1, hm2, hr2⟩ := rn_indexT (a := a) (x := .tmp 9) (y := .tmp 11) (ty := 0) sl_59 (ownV_slcT enc_str hs1) (get_mid hd1 hi1) rfl (S.tm rfl) (S.tm rfl)
   refine lv S (hr2 _) rfl ?_;clear S;intro a S
   clear hr2
   refine lv S (rn_ld Tryz.isAgg9 (off := o1) (o := 0) (S.tm rfl) (hm2.at S.emb) rfl) rfl ?_;clear S;intro a S
   refine lv S (Ra (S.tm rfl)) rfl ?_;clear S;intro a S
   refine Ld (Tn (Fs (Fg (lv S (Rm (S.tm rfl)) rfl ?_))));clear S;intro a S
   refine lv S (rn_seql (S.tm rfl) rfl) rfl ?_;clear S;intro a S
   refine Ld (Tn (f_cond (S.tm rfl) (fun hb1 => ?_) (fun hb1 => ?_)))
   ·replace h := iteT h hb1
    refine Fs (Fg (lv S (Ra rfl) rfl ?_));clear S;intro a S
    refine lv S (Ra rfl) rfl ?_;clear S;intro a S
    refine Ld (Tn (wp_ret (blk_r (then_r (then_r (blk_r ?_))))))
    refine then_r (then_r ?_)
    obtain rfl := Option.some.inj h
    exact f_ret2 S Tryz.results34 rfl rfl ⟨_, rfl, (ownV_nil _ _ _)⟩
   ·replace h := iteF h hb1
    refine wp_skip (blk_n (Tn (Fg (lv S (rn_add (S.tm rfl) rfl) rfl ?_))));clear S;intro a S
    refine lv S (Rm (S.tm rfl)) rfl ?_;clear S;intro a S
    refine Ld (Tn ?_)
    exact ⟨ys1, ⟨i1 + 1, ⟨_, (hd1).trans (List.append_cons _ _ _), by simp [hi1]⟩, h, S.nf [] rfl ⟨rfl, rfl, rfl, (congrArg (fun z => some (Value.int .i64 z)) (rng_next hd1 hi1 (slc_max (ownV_slcT enc_str hs1)))), trivial⟩⟩, Nat.lt_succ_self _⟩
 clear S h;rintro a w3 ⟨h, S⟩;rw [hj1] at h;clear hj1 j1
 refine Tn (Fs (Fg (lv S (Rm (S.tm rfl)) rfl ?_)));clear S;intro a S
 refine lv S (Ra (S.tm rfl)) rfl ?_;clear S;intro a S
 refine lv S (Ra rfl) rfl ?_;clear S;intro a S
 refine Ld (Tn (wp_ret ?_))
 obtain rfl := Option.some.inj h
 exact f_ret2 S Tryz.results34 rfl rfl ⟨_, rfl, ((hs1).mono S.le_newer)⟩
theorem strings_CutPrefix_ok (w : World) (s : ByteArray) (p : ByteArray) (r : ByteArray × Bool) (h : strings_CutPrefix s p = r) : Calls Tryz.prog 58 [sV s, sV p].toArray w (Ret w [] fun _ v _ => v = .tuple #[.string r.1, .bool r.2]) := by
  subst h
  exact ret_of_same (Any.strings_CutPrefix Tryz.lays103 s p w)
theorem strconv_Atoi_ok (w : World) (s : ByteArray) (r : Int) (h : strconv_Atoi s = some r) : Calls Tryz.prog 60 [sV s].toArray w (Ret w [] fun _ v _ => v = .tuple #[.int .i64 r, .nilIface]) := by
  unfold strconv_Atoi at h
  obtain ⟨hc, h⟩ := chkE h
  simp only [Bool.and_eq_true, decide_eq_true_eq] at hc
  exact ret_of_bytes (Any.strconv_Atoi Tryz.lays172 s r hc h w)
set_option maxRecDepth 20000 in
theorem words_Number_ok (w : World) (Ac : ByteArray) (Bh : Int) (r : Int × Bool) (h : words_Number Ac Bh = some r) :
    Calls Tryz.prog 35 [sV Ac, iV Bh].toArray w (Ret w [] fun _ v _ => v = .tuple #[iV r.1, bV r.2]) := by
 refine f_enter [] [] Tryz.func35 rfl Tryz.ntmps35 rfl (by simp) (by simp [fps]) (by simp [fps]) fun a S => ?_
 unfold words_Number at h
 replace S := S.nk [] [(0, sV Ac), (1, iV Bh)] [] rfl (subR rfl)
 refine Fs (Fg (lv S (Ra rfl) rfl ?_));clear S;intro a S
 refine lv S (Ra rfl) rfl ?_;clear S;intro a S
 refine Ld (Tn (Fs (Fg (lv S (Rm (S.tm rfl)) rfl ?_))));clear S;intro a S
 refine l_enter S (fun _ => run_call (vs := [sV Ac, sV k__2d]) ⟨(S.tm rfl), rfl, trivial⟩ Tryz.call58) (strings_CutPrefix_ok _ Ac k__2d _ rfl) rfl ?_;clear S;intro v1 a w1 hv1 hk1 hn1 S
 subst hv1
 refine lv S (Rm (S.tm rfl)) rfl ?_;clear S;intro a S
 refine lv S (rn_extract (S.tm rfl) rfl) rfl ?_;clear S;intro a S
 refine lv S (rn_extract (S.tm rfl) rfl) rfl ?_;clear S;intro a S
 refine lv S (Ra (S.tm rfl)) rfl ?_;clear S;intro a S
 refine lv S (Ra (S.tm rfl)) rfl ?_;clear S;intro a S
 refine Ld (Tn (Fs (Fs (Fg (lv S (Rm (S.tm rfl)) rfl ?_)))));clear S;intro a S
 refine lv S (rn_seql (S.tm rfl) rfl) rfl ?_;clear S;intro a S
 refine lv S (Rm (S.tm rfl)) rfl ?_;clear S;intro a S
 refine f_cutm 5 (fun a w' => Keep [] w1 w' ∧ Sx w [] nov [] [(0, sV Ac), (6, sV ((strings_CutPrefix Ac k__2d).1)), (7, bV ((strings_CutPrefix Ac k__2d).2)), (22, bV ((decide (((strings_CutPrefix Ac k__2d).1) = k_empty)) || (decide (Bh < (((strings_CutPrefix Ac k__2d).1).size : Int)))))] 48 a w') ?_ ?_
 ·rcases Bool.eq_false_or_eq_true (decide (((strings_CutPrefix Ac k__2d).1) = k_empty)) with hb1 | hb1
  ·iterate 4 (refine l_skip S rfl rfl rfl (neq_t hb1) rfl ?_ rfl;clear S;intro a S)
   refine lv S (rn_or_t (decide (Bh < (((strings_CutPrefix Ac k__2d).1).size : Int))) hb1 (S.tm rfl) rfl) rfl ?_;clear S;intro a S
   refine Ld (Tn ?_)
   exact ⟨Keep.refl _ _, S.nf [] rfl (subR rfl)⟩
  ·refine l_want S rfl rfl rfl hb1 (lv S (Rm (S.tm rfl)) rfl ?_);clear S;intro a S
   refine l_want S rfl rfl rfl hb1 (lv S (rn_len_str Tryz.underlying9 (S.tm rfl)) rfl ?_);clear S;intro a S
   refine l_want S rfl rfl rfl hb1 (lv S (Rm (S.tm rfl)) rfl ?_);clear S;intro a S
   refine l_want S rfl rfl rfl hb1 (lv S (rn_gtr (S.tm rfl) (S.tm rfl)) rfl ?_);clear S;intro a S
   refine lv S (rn_or_f hb1 (S.tm rfl) (S.tm rfl)) rfl ?_;clear S;intro a S
   refine Ld (Tn ?_)
   exact ⟨Keep.refl _ _, S.nf [] rfl (subR rfl)⟩
 clear S;rintro a w2 ⟨hk2, S⟩
 refine lv S (Rm (S.tm rfl)) rfl ?_;clear S;intro a S
 obtain ⟨j1, hj1, h⟩ := joinE h
 refine f_cutm 4 (fun a w' => ∃ c1, j1 c1 = some r ∧ Keep [] w2 w' ∧ Sx w [] nov [] [(0, sV Ac), (6, sV ((strings_CutPrefix Ac k__2d).1)), (7, bV ((strings_CutPrefix Ac k__2d).2)), (27, bV c1)] 48 a w') ?_ ?_
 ·rcases Bool.eq_false_or_eq_true ((decide (((strings_CutPrefix Ac k__2d).1) = k_empty)) || (decide (Bh < (((strings_CutPrefix Ac k__2d).1).size : Int)))) with hb2 | hb2
  ·replace h := iteT h hb2
   iterate 3 (refine l_skip S rfl rfl rfl (neq_t hb2) rfl ?_ rfl;clear S;intro a S)
   refine lv S (rn_or_t true hb2 (S.tm rfl) rfl) rfl ?_;clear S;intro a S
   refine Ld (Tn ?_)
   exact ⟨_, h, Keep.refl _ _, S.nf [] rfl (subR rfl)⟩
  ·replace h := iteF h hb2
   refine l_want S rfl rfl rfl hb2 (lv S (Rm (S.tm rfl)) rfl ?_);clear S;intro a S
   refine l_want S rfl rfl rfl hb2 ?_
   obtain ⟨r1, hr1, h⟩ := bindE h
   refine l_enter S (fun _ => run_call (vs := [sV ((strings_CutPrefix Ac k__2d).1), sV k_0123456789]) ⟨(S.tm rfl), rfl, trivial⟩ Tryz.call59) (strings_Trim_ok _ ((strings_CutPrefix Ac k__2d).1) k_0123456789 _ hr1) rfl ?_;clear S;intro v2 a w4 hv2 hk3 hn2 S
   subst hv2
   refine l_want S rfl rfl rfl hb2 (lv S (rn_sneq (S.tm rfl) rfl) rfl ?_);clear S;intro a S
   refine lv S (rn_or_f hb2 (S.tm rfl) (S.tm rfl)) rfl ?_;clear S;intro a S
   refine Ld (Tn ?_)
   exact ⟨_, h, hk3, S.nf [] rfl (subR rfl)⟩
 clear S h;rintro a w3 ⟨c1, h, hk4, S⟩;rw [hj1] at h;clear hj1 j1
 refine lv S (Rm (S.tm rfl)) rfl ?_;clear S;intro a S
 obtain ⟨j2, hj2, h⟩ := joinE h
 refine f_cutm 11 (fun a w' => ∃ c2, j2 c2 = some r ∧ Keep [] w3 w' ∧ Sx w [] nov [] [(0, sV Ac), (39, bV c2)] 48 a w') ?_ ?_
 ·rcases Bool.eq_false_or_eq_true c1 with hb3 | hb3
  ·replace h := iteT h hb3
   iterate 4 (refine l_skip S rfl rfl rfl (neq_t hb3) rfl ?_ rfl;clear S;intro a S)
   iterate 5 (refine l_skipU S rfl rfl rfl rfl ?_;clear S;intro a S)
   refine l_skip S rfl rfl rfl (neq_t hb3) rfl ?_ rfl;clear S;intro a S
   refine lv S (rn_or_t true hb3 (S.tm rfl) rfl) rfl ?_;clear S;intro a S
   refine Ld (Tn ?_)
   exact ⟨_, h, Keep.refl _ _, S.nf [] rfl (subR rfl)⟩
  ·replace h := iteF h hb3
   refine l_want S rfl rfl rfl hb3 (lv S (Rm (S.tm rfl)) rfl ?_);clear S;intro a S
   refine l_want S rfl rfl rfl hb3 ?_
   obtain ⟨hc1, h⟩ := chkE h
   refine lv S (rn_sindexT Tryz.underlying9 (S.tm rfl) rfl hc1) rfl ?_;clear S;intro a S
   refine l_want S rfl rfl rfl hb3 (lv S (rn_eql (S.tm rfl) rfl) rfl ?_);clear S;intro a S
   refine l_want S rfl rfl rfl hb3 (lv S (Rm (S.tm rfl)) rfl ?_);clear S;intro a S
   refine f_cutm 6 (fun a w' => Keep [] w3 w' ∧ Sx w [] nov [] [(0, sV Ac), (28, bV c1), (38, bV ((decide ((sbyte ((strings_CutPrefix Ac k__2d).1) 0) = 48)) && ((!decide (((strings_CutPrefix Ac k__2d).1) = k_0)) || ((strings_CutPrefix Ac k__2d).2))))] 48 a w') ?_ ?_
   ·rcases Bool.eq_false_or_eq_true (decide ((sbyte ((strings_CutPrefix Ac k__2d).1) 0) = 48)) with hb4 | hb4
    ·refine l_want S rfl rfl rfl hb4 (lv S (Rm (S.tm rfl)) rfl ?_);clear S;intro a S
     refine l_want S rfl rfl rfl hb4 (lv S (rn_sneq (S.tm rfl) rfl) rfl ?_);clear S;intro a S
     refine l_want S rfl rfl rfl hb4 (lv S (Rm (S.tm rfl)) rfl ?_);clear S;intro a S
     refine f_cutm 2 (fun a w' => Keep [] w3 w' ∧ Sx w [] nov [] [(0, sV Ac), (28, bV c1), (32, bV (decide ((sbyte ((strings_CutPrefix Ac k__2d).1) 0) = 48))), (37, bV ((!decide (((strings_CutPrefix Ac k__2d).1) = k_0)) || ((strings_CutPrefix Ac k__2d).2)))] 48 a w') ?_ ?_
     ·rcases Bool.eq_false_or_eq_true (!decide (((strings_CutPrefix Ac k__2d).1) = k_0)) with hb5 | hb5
      ·refine l_skip S rfl rfl rfl (neq_t hb5) rfl ?_ rfl;clear S;intro a S
       refine l_want S rfl rfl rfl hb4 (lv S (rn_or_t ((strings_CutPrefix Ac k__2d).2) hb5 (S.tm rfl) rfl) rfl ?_);clear S;intro a S
       refine Ld (Tn ?_)
       exact ⟨Keep.refl _ _, S.nf [] rfl (subR rfl)⟩
      ·refine l_want S rfl rfl rfl hb5 (lv S (Rm (S.tm rfl)) rfl ?_);clear S;intro a S
       refine l_want S rfl rfl rfl hb4 (lv S (rn_or_f hb5 (S.tm rfl) (S.tm rfl)) rfl ?_);clear S;intro a S
       refine Ld (Tn ?_)
       exact ⟨Keep.refl _ _, S.nf [] rfl (subR rfl)⟩
     clear S;rintro a w7 ⟨hk5, S⟩
     refine l_want S rfl rfl rfl hb3 (lv S (rn_and_t hb4 (S.tm rfl) (S.tm rfl)) rfl ?_);clear S;intro a S
     refine Ld (Tn ?_)
     exact ⟨hk5, S.nf [] rfl (subR rfl)⟩
    ·iterate 3 (refine l_skip S rfl rfl rfl (neq_f hb4) rfl ?_ rfl;clear S;intro a S)
     refine l_skipU S rfl rfl rfl rfl ?_;clear S;intro a S
     refine l_skip S rfl rfl rfl (neq_f hb4) rfl ?_ rfl;clear S;intro a S
     refine l_want S rfl rfl rfl hb3 (lv S (rn_and_f ((!decide (((strings_CutPrefix Ac k__2d).1) = k_0)) || ((strings_CutPrefix Ac k__2d).2)) hb4 (S.tm rfl) rfl) rfl ?_);clear S;intro a S
     refine Ld (Tn ?_)
     exact ⟨Keep.refl _ _, S.nf [] rfl (subR rfl)⟩
   clear S;rintro a w6 ⟨hk6, S⟩
   refine lv S (rn_or_f hb3 (S.tm rfl) (S.tm rfl)) rfl ?_;clear S;intro a S
   refine Ld (Tn ?_)
   exact ⟨_, h, hk6, S.nf [] rfl (subR rfl)⟩
 clear S h;rintro a w5 ⟨c2, h, hk7, S⟩;rw [hj2] at h;clear hj2 j2
 refine Ld (Tn (f_cond (S.tm rfl) (fun hb6 => ?_) (fun hb6 => ?_)))
 ·replace h := iteT h hb6
  refine Fs (Fg (lv S (Ra rfl) rfl ?_));clear S;intro a S
  refine lv S (Ra rfl) rfl ?_;clear S;intro a S
  refine Ld (Tn (wp_ret (then_r ?_)))
  obtain rfl := Option.some.inj h
  exact f_ret2 S Tryz.results35 rfl rfl rfl
 ·replace h := iteF h hb6
  refine wp_skip (Tn (Fs (Fg (lv S (Rm (S.tm rfl)) rfl ?_))));clear S;intro a S
  obtain ⟨r2, hr2, h⟩ := bindE h
  refine l_enter S (fun _ => run_call (vs := [sV Ac]) ⟨(S.tm rfl), trivial⟩ Tryz.call60) (strconv_Atoi_ok _ Ac _ hr2) rfl ?_;clear S;intro v3 a w8 hv3 hk8 hn3 S
  subst hv3
  refine lv S (Rm (S.tm rfl)) rfl ?_;clear S;intro a S
  refine lv S (rn_extract (S.tm rfl) rfl) rfl ?_;clear S;intro a S
  refine lv S (rn_extract (S.tm rfl) rfl) rfl ?_;clear S;intro a S
  refine lv S (Ra (S.tm rfl)) rfl ?_;clear S;intro a S
  refine lv S (Ra (S.tm rfl)) rfl ?_;clear S;intro a S
  refine Ld (Tn (Fs (d_region [] ([]) Tryz.mixed S rfl (by kernel_rfl) ?_)));clear S;intro w9 hk9 hsel S
  refine d_rest [0, 1, 2, 3, 4] hsel (by kernel_rfl) rfl ?_
  clear hsel
  refine s_lv S rfl (Rm (S.tm rfl)) rfl ?_;clear S;intro a S
  refine s_lv S rfl (Rm (S.tm rfl)) rfl ?_;clear S;intro a S
  refine s_lv S rfl (rn_ifnileql Tryz.underlying53 (S.tm rfl)) rfl ?_;clear S;intro a S
  refine s_lv S rfl (Ra (S.tm rfl)) rfl ?_;clear S;intro a S
  refine s_lv S rfl (Ra (S.tm rfl)) rfl ?_;clear S;intro a S
  refine s_done ?_
  replace S := S.nk [] [(4, iV r2), (5, bV true)] [] rfl (subR rfl)
  refine Tn (wp_ret ?_)
  obtain rfl := Option.some.inj h
  exact f_ret2 S Tryz.results35 rfl rfl rfl
theorem words_Undash_ok (w : World) (Ac : ByteArray) (r : ByteArray) (h : words_Undash Ac = r) :
    Calls Tryz.prog 36 [sV Ac].toArray w (Ret w [] fun _ v _ => v = sV r) := by
 refine f_enter [] [] Tryz.func36 rfl Tryz.ntmps36 rfl (by simp) (by simp [fps]) (by simp [fps]) fun a S => ?_
 unfold words_Undash at h
 replace S := S.nk [] [(0, sV Ac)] [] rfl ⟨rfl, trivial⟩
 refine Fs (Fg (lv S (Ra rfl) rfl ?_));clear S;intro a S
 refine Ld (Tn (Fs (Fs (Fg (lv S (Rm (S.tm rfl)) rfl ?_)))));clear S;intro a S
 refine lv S (rn_seql (S.tm rfl) rfl) rfl ?_;clear S;intro a S
 refine Ld (Tn (f_cond (S.tm rfl) (fun hb1 => ?_) (fun hb1 => ?_)))
 ·replace h := iteT h hb1
  refine Fs (Fg (lv S (Ra rfl) rfl ?_));clear S;intro a S
  refine Ld (Tn (wp_ret (then_r ?_)))
  subst h
  exact f_ret S Tryz.results36 rfl rfl
 ·replace h := iteF h hb1
  refine wp_skip (Tn (Fs (Fg (lv S (Rm (S.tm rfl)) rfl ?_))));clear S;intro a S
  refine lv S (Ra (S.tm rfl)) rfl ?_;clear S;intro a S
  refine Ld (Tn (wp_ret ?_))
  subst h
  exact f_ret S Tryz.results36 rfl rfl
theorem points_Read_c1_ok (w : World) (X : List Nat) (Ay : ByteArray) (Am : Nat) (Ai : Value) (Ao : List GScored) (Ce : (LEnt.own Ai 38 5 Ao.length (Ao.flatMap GScored.enc)).holds w) (Bx : (LEnt.blk Am [Ai] 26).holds w) (hg_maxlen : GlobI (view w X) 0) (hXn : X.Nodup) (hXe : X = fps [.blk Am [Ai] 26, .own Ai 38 5 Ao.length (Ao.flatMap GScored.enc)]) (r : Bool × (List GScored)) (h : points_Read_c1 Ay Ao = some r) :
    Calls Tryz.prog 33 [sV Ay, .pointer (some ⟨Am, 0, none⟩)].toArray w (Ret w X fun _ v w' => ∃ y1 : Value, Grp w w' X [.blk Am [y1] 26, .own y1 38 5 r.2.length (r.2.flatMap GScored.enc)] ∧ v = bV r.1) := by
 refine f_enter X [.blk Am [Ai] 26, .own Ai 38 5 Ao.length (Ao.flatMap GScored.enc)] Tryz.func33 rfl Tryz.ntmps33 rfl (fun e he => by simp only [List.mem_cons, List.not_mem_nil, or_false] at he;rcases he with rfl | rfl <;> assumption) (by rw [← hXe];exact hXn) (fun b hb => by rw [hXe];exact hb) fun a S => ?_
 unfold points_Read_c1 at h
 replace S := S.nk [.blk Am [Ai] 26, .own Ai 38 5 Ao.length (Ao.flatMap GScored.enc)] [(0, sV Ay), (1, .pointer (some ⟨Am, 0, none⟩))] [true, true] rfl (subR rfl)
 refine Fs (Fg (lv S (Ra rfl) rfl ?_));clear S;intro a S
 refine Ld (Tn (Fs (Fg (lv S (Rm (S.tm rfl)) rfl ?_))));clear S;intro a S
 obtain ⟨r1, hr1, h⟩ := bindE h
 have hz1 := S.keep.size
 refine l_enter S (fun _ => run_call (vs := [sV Ay]) ⟨(S.tm rfl), trivial⟩ Tryz.call34) (words_Split_ok _ Ay (hg_maxlen.mono (S.le_arg nil_sub)) _ hr1) rfl ?_;clear S;intro v1 a w1 hv1 hk1 hn1 S
 obtain ⟨u1, rfl, ho1⟩ := hv1
 obtain ⟨φ1, hl1, hm1, S⟩ := S.see' hn1 hz1
 have hs1 := ho1.mono hm1
 refine lv S (Rm (S.tm rfl)) rfl ?_;clear S;intro a S
 refine lv S (rn_extract (S.tm rfl) rfl) rfl ?_;clear S;intro a S
 refine lv S (rn_extract (S.tm rfl) rfl) rfl ?_;clear S;intro a S
 refine lv S (Ra (S.tm rfl)) rfl ?_;clear S;intro a S
 refine lv S (Ra (S.tm rfl)) rfl ?_;clear S;intro a S
 refine Ld (Tn (Fs (Fs (Fg (lv S (Rm (S.tm rfl)) rfl ?_)))));clear S;intro a S
 refine lv S (rn_not (S.tm rfl)) rfl ?_;clear S;intro a S
 refine lv S (Rm (S.tm rfl)) rfl ?_;clear S;intro a S
 refine f_cutm 4 (fun a w' => Keep [] w1 w' ∧ Sx w X φ1 [.blk Am [Ai] 26, .own Ai 38 5 Ao.length (Ao.flatMap GScored.enc)] [(1, .pointer (some ⟨Am, 0, none⟩)), (4, u1), (19, bV ((!r1.2) || (!decide ((r1.1.length : Int) = 5))))] 59 a w') ?_ ?_
 ·rcases Bool.eq_false_or_eq_true (!r1.2) with hb1 | hb1
  ·iterate 3 (refine l_skip S rfl rfl rfl (neq_t hb1) rfl ?_ rfl;clear S;intro a S)
   refine lv S (rn_or_t (!decide ((r1.1.length : Int) = 5)) hb1 (S.tm rfl) rfl) rfl ?_;clear S;intro a S
   refine Ld (Tn ?_)
   exact ⟨Keep.refl _ _, S.nf [true, true] rfl (subR rfl)⟩
  ·refine l_want S rfl rfl rfl hb1 (lv S (Rm (S.tm rfl)) rfl ?_);clear S;intro a S
   refine l_want S rfl rfl rfl hb1 (lv S (rn_lenT sl_59 (S.tm rfl) (slc_len (ownV_slcT enc_str hs1))) rfl ?_);clear S;intro a S
   refine l_want S rfl rfl rfl hb1 (lv S (rn_neq (S.tm rfl) rfl) rfl ?_);clear S;intro a S
   refine lv S (rn_or_f hb1 (S.tm rfl) (S.tm rfl)) rfl ?_;clear S;intro a S
   refine Ld (Tn ?_)
   exact ⟨Keep.refl _ _, S.nf [true, true] rfl (subR rfl)⟩
 clear S;rintro a w2 ⟨hk2, S⟩
 refine lv S (Rm (S.tm rfl)) rfl ?_;clear S;intro a S
 obtain ⟨j1, hj1, h⟩ := joinE h
 refine f_cutm 11 (fun a w' => ∃ c1, j1 c1 = some r ∧ Keep [] w2 w' ∧ Sx w X φ1 [.blk Am [Ai] 26, .own Ai 38 5 Ao.length (Ao.flatMap GScored.enc)] [(1, .pointer (some ⟨Am, 0, none⟩)), (4, u1), (31, bV c1)] 59 a w') ?_ ?_
 ·rcases Bool.eq_false_or_eq_true ((!r1.2) || (!decide ((r1.1.length : Int) = 5))) with hb2 | hb2
  ·replace h := iteT h hb2
   iterate 5 (refine l_skip S rfl rfl rfl (neq_t hb2) rfl ?_ rfl;clear S;intro a S)
   iterate 4 (refine l_skipU S rfl rfl rfl rfl ?_;clear S;intro a S)
   refine l_skip S rfl rfl rfl (neq_t hb2) rfl ?_ rfl;clear S;intro a S
   refine lv S (rn_or_t true hb2 (S.tm rfl) rfl) rfl ?_;clear S;intro a S
   refine Ld (Tn ?_)
   exact ⟨_, h, Keep.refl _ _, S.nf [true, true] rfl (subR rfl)⟩
  ·replace h := iteF h hb2
   refine l_want S rfl rfl rfl hb2 (lv S (Rm (S.tm rfl)) rfl ?_);clear S;intro a S
   refine l_want S rfl rfl rfl hb2 ?_
   obtain ⟨hc1, h⟩ := chkE h
   obtain ⟨b1, o1, hm2, hr2⟩ := rn_indexT (a := a) (x := .tmp 21) (y := .const (iV 4)) (ty := 0) sl_59 (ownV_slcT enc_str hs1) (inB_get hc1).1 (inB_get hc1).2 (S.tm rfl) rfl
   refine lv S (hr2 _) rfl ?_;clear S;intro a S
   clear hr2
   refine l_want S rfl rfl rfl hb2 (lv S (rn_ld Tryz.isAgg9 (off := o1) (o := 0) (S.tm rfl) (hm2.at S.emb) rfl) rfl ?_);clear S;intro a S
   refine l_want S rfl rfl rfl hb2 (lv S (rn_sneq (S.tm rfl) rfl) rfl ?_);clear S;intro a S
   refine l_want S rfl rfl rfl hb2 (lv S (Rm (S.tm rfl)) rfl ?_);clear S;intro a S
   obtain ⟨j2, hj2, h⟩ := joinE h
   refine f_cutm 5 (fun a w' => ∃ c2, j2 c2 = some r ∧ Keep [] w2 w' ∧ Sx w X φ1 [.blk Am [Ai] 26, .own Ai 38 5 Ao.length (Ao.flatMap GScored.enc)] [(1, .pointer (some ⟨Am, 0, none⟩)), (4, u1), (20, bV ((!r1.2) || (!decide ((r1.1.length : Int) = 5)))), (30, bV c2)] 59 a w') ?_ ?_
   ·rcases Bool.eq_false_or_eq_true (!decide ((nth r1.1 4) = k_r)) with hb3 | hb3
    ·replace h := iteT h hb3
     refine l_want S rfl rfl rfl hb3 (lv S (Rm (S.tm rfl)) rfl ?_);clear S;intro a S
     refine l_want S rfl rfl rfl hb3 ?_
     obtain ⟨hc2, h⟩ := chkE h
     obtain ⟨b2, o2, hm3, hr3⟩ := rn_indexT (a := a) (x := .tmp 26) (y := .const (iV 4)) (ty := 0) sl_59 (ownV_slcT enc_str hs1) (inB_get hc2).1 (inB_get hc2).2 (S.tm rfl) rfl
     refine lv S (hr3 _) rfl ?_;clear S;intro a S
     clear hr3
     refine l_want S rfl rfl rfl hb3 (lv S (rn_ld Tryz.isAgg9 (off := o2) (o := 0) (S.tm rfl) (hm3.at S.emb) rfl) rfl ?_);clear S;intro a S
     refine l_want S rfl rfl rfl hb3 (lv S (rn_sneq (S.tm rfl) rfl) rfl ?_);clear S;intro a S
     refine l_want S rfl rfl rfl hb2 (lv S (rn_and_t hb3 (S.tm rfl) (S.tm rfl)) rfl ?_);clear S;intro a S
     refine Ld (Tn ?_)
     exact ⟨_, h, Keep.refl _ _, S.nf [true, true] rfl (subR rfl)⟩
    ·replace h := iteF h hb3
     iterate 4 (refine l_skip S rfl rfl rfl (neq_f hb3) rfl ?_ rfl;clear S;intro a S)
     refine l_want S rfl rfl rfl hb2 (lv S (rn_and_f true hb3 (S.tm rfl) rfl) rfl ?_);clear S;intro a S
     refine Ld (Tn ?_)
     exact ⟨_, h, Keep.refl _ _, S.nf [true, true] rfl (subR rfl)⟩
   clear S h;rintro a w4 ⟨c2, h, hk3, S⟩;rw [hj2] at h;clear hj2 j2
   refine lv S (rn_or_f hb2 (S.tm rfl) (S.tm rfl)) rfl ?_;clear S;intro a S
   refine Ld (Tn ?_)
   exact ⟨_, h, hk3, S.nf [true, true] rfl (subR rfl)⟩
 clear S h;rintro a w3 ⟨c1, h, hk4, S⟩;rw [hj1] at h;clear hj1 j1
 refine Ld (Tn (f_cond (S.tm rfl) (fun hb4 => ?_) (fun hb4 => ?_)))
 ·replace h := iteT h hb4
  refine Fs (Fg (lv S (Ra rfl) rfl ?_));clear S;intro a S
  refine Ld (Tn (wp_ret (then_r ?_)))
  obtain rfl := Option.some.inj h
  exact f_ret S Tryz.results33 rfl ⟨Ai, S.grp [0, 1] [] rfl rfl rfl, rfl⟩
 ·replace h := iteF h hb4
  refine wp_skip (Tn (Fs (Fg (lv S (Rm (S.tm rfl)) rfl ?_))));clear S;intro a S
  obtain ⟨hc3, h⟩ := chkE h
  obtain ⟨b3, o3, hm4, hr4⟩ := rn_indexT (a := a) (x := .tmp 33) (y := .const (iV 3)) (ty := 0) sl_59 (ownV_slcT enc_str hs1) (inB_get hc3).1 (inB_get hc3).2 (S.tm rfl) rfl
  refine lv S (hr4 _) rfl ?_;clear S;intro a S
  clear hr4
  refine lv S (rn_ld Tryz.isAgg9 (off := o3) (o := 0) (S.tm rfl) (hm4.at S.emb) rfl) rfl ?_;clear S;intro a S
  obtain ⟨r2, hr5, h⟩ := bindE h
  refine l_enter S (fun _ => run_call (vs := [sV (nth r1.1 3), iV 15]) ⟨(S.tm rfl), rfl, trivial⟩ Tryz.call35) (words_Number_ok _ (nth r1.1 3) 15 _ hr5) rfl ?_;clear S;intro v2 a w5 hv2 hk5 hn2 S
  subst hv2
  refine lv S (Rm (S.tm rfl)) rfl ?_;clear S;intro a S
  refine lv S (rn_extract (S.tm rfl) rfl) rfl ?_;clear S;intro a S
  refine lv S (rn_extract (S.tm rfl) rfl) rfl ?_;clear S;intro a S
  refine lv S (Ra (S.tm rfl)) rfl ?_;clear S;intro a S
  refine lv S (Ra (S.tm rfl)) rfl ?_;clear S;intro a S
  refine Ld (Tn (Fs ?_))
  obtain ⟨hc4, h⟩ := chkE h
  obtain ⟨hc5, h⟩ := chkE h
  obtain ⟨hc6, h⟩ := chkE h
  obtain ⟨hc7, h⟩ := chkE h
  obtain ⟨hc8, h⟩ := chkE h
  refine d_region [19] (Ai.ownBlock.toList) Tryz.mixed S rfl (by kernel_rfl) ?_;clear S;intro w10 hk10 hsel S
  refine d_quiet 0 S hsel rfl (by kernel_rfl) (by kernel_rfl) (by kernel_rfl) (by kernel_rfl) rfl (fun _ hw => (rn_ld Tryz.isAgg26 (off := 0) (o := 0) (S.tm rfl) ((S.blk_mem (i := 0) (cells := [Ai]) (b := Am) (T := 26) rfl (ne_fp (i := 1) (j := 0) (e := .own Ai 38 5 Ao.length (Ao.flatMap GScored.enc)) (e' := .blk Am [Ai] 26) S rfl rfl rfl)).kept hw) rfl)) ?_;clear S;intro a S
  refine d_pure 1 S hsel rfl rfl (by kernel_rfl) (by kernel_rfl) rfl (fun _ => (Rm (S.tm rfl))) ?_;clear S;intro a S
  obtain ⟨b9, o8, hm9, hr10⟩ := rn_indexT (a := a) (x := .tmp 40) (y := .const (iV 0)) (ty := 0) sl_59 ((ownV_slcT enc_str hs1).mono (S.le_new (fp_sub (i := 1) (e := .own Ai 38 5 Ao.length (Ao.flatMap GScored.enc)) rfl))) (inB_get hc4).1 (inB_get hc4).2 (S.tm rfl) rfl
  refine d_pure 2 S hsel rfl rfl (by kernel_rfl) (by kernel_rfl) rfl (fun _ => hr10 _) ?_;clear S;intro a S
  clear hr10
  refine d_quiet 3 S hsel rfl (by kernel_rfl) (by kernel_rfl) (by kernel_rfl) (by kernel_rfl) rfl (fun _ hw => (rn_ld Tryz.isAgg9 (off := o8) (o := 0) (S.tm rfl) (hm9.kept hw) rfl)) ?_;clear S;intro a S
  refine d_pure 4 S hsel rfl rfl (by kernel_rfl) (by kernel_rfl) rfl (fun _ => (Rm (S.tm rfl))) ?_;clear S;intro a S
  obtain ⟨b10, o9, hm10, hr11⟩ := rn_indexT (a := a) (x := .tmp 43) (y := .const (iV 1)) (ty := 0) sl_59 ((ownV_slcT enc_str hs1).mono (S.le_new (fp_sub (i := 1) (e := .own Ai 38 5 Ao.length (Ao.flatMap GScored.enc)) rfl))) (inB_get hc5).1 (inB_get hc5).2 (S.tm rfl) rfl
  refine d_pure 5 S hsel rfl rfl (by kernel_rfl) (by kernel_rfl) rfl (fun _ => hr11 _) ?_;clear S;intro a S
  clear hr11
  refine d_quiet 6 S hsel rfl (by kernel_rfl) (by kernel_rfl) (by kernel_rfl) (by kernel_rfl) rfl (fun _ hw => (rn_ld Tryz.isAgg9 (off := o9) (o := 0) (S.tm rfl) (hm10.kept hw) rfl)) ?_;clear S;intro a S
  refine d_pure 7 S hsel rfl rfl (by kernel_rfl) (by kernel_rfl) rfl (fun _ => (Rm (S.tm rfl))) ?_;clear S;intro a S
  obtain ⟨b11, o10, hm11, hr12⟩ := rn_indexT (a := a) (x := .tmp 46) (y := .const (iV 2)) (ty := 0) sl_59 ((ownV_slcT enc_str hs1).mono (S.le_new (fp_sub (i := 1) (e := .own Ai 38 5 Ao.length (Ao.flatMap GScored.enc)) rfl))) (inB_get hc6).1 (inB_get hc6).2 (S.tm rfl) rfl
  refine d_pure 8 S hsel rfl rfl (by kernel_rfl) (by kernel_rfl) rfl (fun _ => hr12 _) ?_;clear S;intro a S
  clear hr12
  refine d_quiet 9 S hsel rfl (by kernel_rfl) (by kernel_rfl) (by kernel_rfl) (by kernel_rfl) rfl (fun _ hw => (rn_ld Tryz.isAgg9 (off := o10) (o := 0) (S.tm rfl) (hm11.kept hw) rfl)) ?_;clear S;intro a S
  refine d_pure 11 S hsel rfl rfl (by kernel_rfl) (by kernel_rfl) rfl (fun _ => (Rm (S.tm rfl))) ?_;clear S;intro a S
  refine d_pure 12 S hsel rfl rfl (by kernel_rfl) (by kernel_rfl) rfl (fun _ => (Rm (S.tm rfl))) ?_;clear S;intro a S
  obtain ⟨b12, o11, hm12, hr13⟩ := rn_indexT (a := a) (x := .tmp 51) (y := .const (iV 4)) (ty := 0) sl_59 ((ownV_slcT enc_str hs1).mono (S.le_new (fp_sub (i := 1) (e := .own Ai 38 5 Ao.length (Ao.flatMap GScored.enc)) rfl))) (inB_get hc7).1 (inB_get hc7).2 (S.tm rfl) rfl
  refine d_pure 13 S hsel rfl rfl (by kernel_rfl) (by kernel_rfl) rfl (fun _ => hr13 _) ?_;clear S;intro a S
  clear hr13
  refine d_quiet 14 S hsel rfl (by kernel_rfl) (by kernel_rfl) (by kernel_rfl) (by kernel_rfl) rfl (fun _ hw => (rn_ld Tryz.isAgg9 (off := o11) (o := 0) (S.tm rfl) (hm12.kept hw) rfl)) ?_;clear S;intro a S
  refine d_pure 15 S hsel rfl rfl (by kernel_rfl) (by kernel_rfl) rfl (fun _ => (rn_seql (S.tm rfl) rfl)) ?_;clear S;intro a S
  refine d_loud1 10 (by kernel_rfl) rfl (l_enter S (fun _ => run_call (vs := [sV (nth r1.1 2)]) ⟨(S.tm rfl), trivial⟩ Tryz.call36) (words_Undash_ok _ (nth r1.1 2) _ rfl) rfl ?_);clear S;intro v5 a w11 hv4 hk11 hn4 S
  subst hv4
  refine Ld (d_next (Keep.none hk11) (d_pure 16 S hsel rfl rfl (by kernel_rfl) (by kernel_rfl) rfl (fun _ => (rn_bld bt_38 (pv := [(0, sV (nth r1.1 0)), (1, sV (nth r1.1 1)), (2, sV (words_Undash (nth r1.1 2))), (3, iV r2.1), (4, bV (decide ((nth r1.1 4) = k_r)))]) ⟨rfl, (S.tm rfl), rfl, (S.tm rfl), rfl, (S.tm rfl), rfl, (S.tm rfl), rfl, (S.tm rfl), trivial⟩ (cs := [sV (nth r1.1 0), sV (nth r1.1 1), sV (words_Undash (nth r1.1 2)), iV r2.1, bV (decide ((nth r1.1 4) = k_r))]) (by kernel_rfl))) ?_));clear S;intro a S
  refine d_loud1 17 (by kernel_rfl) rfl (l_buildSlice S Tryz.underlying26 Tryz.sizeOf38 Tryz.zeroValue38 rfl rfl (pv := [(0, .agg #[sV (nth r1.1 0), sV (nth r1.1 1), sV (words_Undash (nth r1.1 2)), iV r2.1, bV (decide ((nth r1.1 4) = k_r))])]) ⟨rfl, (S.tm rfl), trivial⟩ (cs := [sV (nth r1.1 0), sV (nth r1.1 1), sV (words_Undash (nth r1.1 2)), iV r2.1, bV (decide ((nth r1.1 4) = k_r))]) (by kernel_rfl) rfl ?_);clear S;intro a w12 b13 hz3 hk12 S
  refine Ld (d_next (Keep.none hk12) (d_loud1 18 (by kernel_rfl) rfl ?_))
  refine l_appendT sl_26 GScored.enc_ok S (S.tm rfl) (i := 2) rfl (S.tm rfl) (j := 0) rfl (ys := [(GScored.mk (nth r1.1 0) (nth r1.1 1) (words_Undash (nth r1.1 2)) r2.1 (decide ((nth r1.1 4) = k_r)))]) rfl rfl rfl rfl (by have := room_lt hc8;omega) rfl ?_;clear S;intro v6 a w13 hk13 S
  refine Ld (d_next hk13 (d_loudB 19 (v6.ownBlock.toList ++ [Am]) rfl (by kernel_rfl) rfl (l_store S (S.tm rfl) (S.tm rfl) (i := 1) (off := 0) rfl Tryz.sizeOf26 (vs := [v6]) (SlcLen.cells (own_len (S.own_at (i := 2) rfl))) rfl rfl (all1 (SlcLen.one (own_len (S.own_at (i := 2) rfl))) rfl) ?_)));clear S;intro w14 hk14 S
  refine Ld (d_nextB (d_end (by kernel_rfl) ?_))
  clear hsel
  replace S := S.nk [.blk Am [v6] 26, .own v6 38 5 (Ao ++ [(GScored.mk (nth r1.1 0) (nth r1.1 1) (words_Undash (nth r1.1 2)) r2.1 (decide ((nth r1.1 4) = k_r)))]).length ((Ao ++ [(GScored.mk (nth r1.1 0) (nth r1.1 1) (words_Undash (nth r1.1 2)) r2.1 (decide ((nth r1.1 4) = k_r)))]).flatMap GScored.enc)] [(7, bV r2.2)] [false, true, true] rfl ⟨rfl, trivial⟩
  refine Tn (Fs (Fg (lv S (Rm (S.tm rfl)) rfl ?_)));clear S;intro a S
  refine lv S (Ra (S.tm rfl)) rfl ?_;clear S;intro a S
  refine Ld (Tn (wp_ret ?_))
  obtain rfl := Option.some.inj h
  exact f_ret S Tryz.results33 rfl ⟨v6, S.grp [0, 1] [] rfl rfl rfl, rfl⟩
theorem words_Lines_points_Read_c1_ok (w : World) (X : List Nat) (Az : ByteArray) (Ad : Nat) (Ap : Value) (Ar : List GScored) (Cb : (LEnt.own Ap 38 5 Ar.length (Ar.flatMap GScored.enc)).holds w) (Cc : (LEnt.blk Ad [Ap] 26).holds w) (hg_maxlen : GlobI (view w X) 0) (hXn : X.Nodup) (hXe : X = fps [.blk Ad [Ap] 26, .own Ap 38 5 Ar.length (Ar.flatMap GScored.enc)]) (r : Int × Bool × (List GScored)) (h : words_Lines_points_Read_c1 Az Ar = some r) :
    Calls Tryz.prog 32 [sV Az, .func (.func 33) #[] #[.pointer (some ⟨Ad, 0, none⟩)]].toArray w (Ret w X fun _ v w' => ∃ y1 : Value, Grp w w' X [.blk Ad [y1] 26, .own y1 38 5 r.2.2.length (r.2.2.flatMap GScored.enc)] ∧ v = .tuple #[iV r.1, bV r.2.1]) := by
 refine f_enter X [.blk Ad [Ap] 26, .own Ap 38 5 Ar.length (Ar.flatMap GScored.enc)] Tryz.func32 rfl Tryz.ntmps32 rfl (fun e he => by simp only [List.mem_cons, List.not_mem_nil, or_false] at he;rcases he with rfl | rfl <;> assumption) (by rw [← hXe];exact hXn) (fun b hb => by rw [hXe];exact hb) fun a S => ?_
 unfold words_Lines_points_Read_c1 at h
 replace S := S.nk [.blk Ad [Ap] 26, .own Ap 38 5 Ar.length (Ar.flatMap GScored.enc)] [(0, sV Az), (1, .func (.func 33) #[] #[.pointer (some ⟨Ad, 0, none⟩)])] [true, true] rfl (subR rfl)
 refine Fs (Fg (lv S (Ra rfl) rfl ?_));clear S;intro a S
 refine lv S (Ra rfl) rfl ?_;clear S;intro a S
 refine Ld (Tn (Fs (Fs (Fg (lv S (Ra rfl) rfl ?_)))));clear S;intro a S
 refine Ld (Tn ?_)
 replace S := S.nk [.blk Ad [Ap] 26, .own Ap 38 5 Ar.length (Ar.flatMap GScored.enc)] [(0, sV Az), (1, .func (.func 33) #[] #[.pointer (some ⟨Ad, 0, none⟩)]), (6, iV 0)] [true, true] rfl (subR rfl)
 obtain ⟨j1, hj1, h⟩ := joinE h
 refine f_join (fun a w' => ∃ x1 : List GScored, ∃ v1 : Value, j1 x1 = some r ∧ Sx w X nov [.blk Ad [v1] 26, .own v1 38 5 x1.length (x1.flatMap GScored.enc)] [] 30 a w') ?_ ?_
 ·refine wp_block (f_loop (fun (m1 : Nat) a w' => ∃ x1 : List GScored, ∃ x2 : ByteArray, ∃ x3 : Int, ∃ v1 : Value, words_Lines_points_Read_c1_l1 j1 m1 x1 x2 x3 = some r ∧ Sx w X nov [.blk Ad [v1] 26, .own v1 38 5 x1.length (x1.flatMap GScored.enc)] [(0, sV x2), (1, .func (.func 33) #[] #[.pointer (some ⟨Ad, 0, none⟩)]), (6, iV x3)] 30 a w') id 4611686018427387904 ⟨Ar, Az, 0, Ap, h, S.nf [true, true] rfl (subR rfl)⟩ ?_)
  clear S h;rintro m1 a w1 ⟨x1, x2, x3, v1, h, S⟩
  cases m1 with
  | zero => rw [words_Lines_points_Read_c1_l1.eq_1] at h;cases h
  | succ m1 =>
   rw [words_Lines_points_Read_c1_l1.eq_2] at h
   refine Fs (Fs (Fg (lv S (Rm (S.tm rfl)) rfl ?_)));clear S;intro a S
   refine lv S (rn_sneq (S.tm rfl) rfl) rfl ?_;clear S;intro a S
   refine Ld (Tn (f_cond (S.tm rfl) (fun hb1 => ?_) (fun hb1 => ?_)))
   ·replace h := iteT h hb1
    refine wp_skip (Tn (Fs (wp_block (Fs (Fg (lv S (Rm (S.tm rfl)) rfl ?_))))));clear S;intro a S
    obtain ⟨r1, hr1, h⟩ := bindE h
    refine l_enter S (fun _ => run_call (vs := [sV x2, sV k__0a]) ⟨(S.tm rfl), rfl, trivial⟩ Tryz.call56) (strings_Cut_ok _ x2 k__0a (hg_maxlen.mono (S.le_arg nil_sub)) _ hr1) rfl ?_;clear S;intro v2 a w3 hv1 hk1 hn1 S
    subst hv1
    refine lv S (Rm (S.tm rfl)) rfl ?_;clear S;intro a S
    iterate 3 (refine lv S (rn_extract (S.tm rfl) rfl) rfl ?_;clear S;intro a S)
    iterate 3 (refine lv S (Ra (S.tm rfl)) rfl ?_;clear S;intro a S)
    refine Ld (Tn (Fs (Fs (Fg (lv S (Rm (S.tm rfl)) rfl ?_)))));clear S;intro a S
    refine lv S (rn_not (S.tm rfl)) rfl ?_;clear S;intro a S
    refine lv S (Rm (S.tm rfl)) rfl ?_;clear S;intro a S
    obtain ⟨j2, hj2, h⟩ := joinE h
    refine f_cutm 5 (fun a w' => ∃ x4 : List GScored, ∃ x5 : Bool, ∃ v3 : Value, j2 x4 x5 = some r ∧ Sx w X nov [.blk Ad [v3] 26, .own v3 38 5 x4.length (x4.flatMap GScored.enc)] [(1, .func (.func 33) #[] #[.pointer (some ⟨Ad, 0, none⟩)]), (6, iV x3), (8, sV r1.2.1), (27, bV x5)] 30 a w') ?_ ?_
    ·rcases Bool.eq_false_or_eq_true (!r1.2.2) with hb2 | hb2
     ·replace h := iteT h hb2
      iterate 4 (refine l_skip S rfl rfl rfl (neq_t hb2) rfl ?_ rfl;clear S;intro a S)
      refine lv S (rn_pick_b hb2 (S.tm rfl) rfl) rfl ?_;clear S;intro a S
      refine Ld (Tn ?_)
      exact ⟨x1, true, v1, h, S.nf [true, true] rfl (subR rfl)⟩
     ·replace h := iteF h hb2
      refine l_want S rfl rfl rfl hb2 (lv S (Rm (S.tm rfl)) rfl ?_);clear S;intro a S
      refine l_want S rfl rfl rfl hb2 (lv S (Rm (S.tm rfl)) rfl ?_);clear S;intro a S
      refine l_want S rfl rfl rfl hb2 ?_
      obtain ⟨r2, hr2, h⟩ := bindE h
      refine l_enterG [0, 1] [] (Ls := [.blk Ad [v1] 26, .own v1 38 5 x1.length (x1.flatMap GScored.enc)]) (Lr := []) (Y := [Ad] ++ v1.ownBlock.toList) S rfl rfl rfl (by simp [fps_cons, fps_nil, LEnt.fp]) (fun _ => run_callV (cap := [.pointer (some ⟨Ad, 0, none⟩)]) (S.tm rfl) (vs := [sV r1.1]) ⟨(S.tm rfl), trivial⟩ Tryz.call33) (points_Read_c1_ok _ ([Ad] ++ v1.ownBlock.toList) r1.1 Ad v1 x1 (S.holds _ (List.mem_of_getElem? (i := 1) rfl)) (S.holds _ (List.mem_of_getElem? (i := 0) rfl)) (hg_maxlen.mono (S.le_arg (app_sub (fp_sub (i := 0) (e := .blk Ad [v1] 26) rfl) (fp_sub (i := 1) (e := .own v1 38 5 x1.length (x1.flatMap GScored.enc)) rfl)))) (S.ndg [0, 1] [] rfl rfl rfl (by simp [fps_cons, fps_nil, LEnt.fp])) (by simp [fps_cons, fps_nil, LEnt.fp]) _ hr2) rfl ?_;clear S;intro v4 a w5 hv2 hk2 hn2 S
      obtain ⟨v5, hg1, hv2⟩ := hv2;replace S := S _ hg1;clear hg1
      subst hv2
      refine l_want S rfl rfl rfl hb2 (lv S (rn_not (S.tm rfl)) rfl ?_);clear S;intro a S
      refine lv S (rn_pick_c hb2 (S.tm rfl) (S.tm rfl)) rfl ?_;clear S;intro a S
      refine Ld (Tn ?_)
      exact ⟨r2.2, !r2.1, v5, h, S.nf [true, true] rfl (subR rfl)⟩
    clear S h;rintro a w4 ⟨x4, x5, v3, h, S⟩;rw [hj2] at h;clear hj2 j2
    refine Ld (Tn (f_cond (S.tm rfl) (fun hb3 => ?_) (fun hb3 => ?_)))
    ·replace h := iteT h hb3
     refine Fs (Fg (lv S (Rm (S.tm rfl)) rfl ?_));clear S;intro a S
     refine lv S (Ra (S.tm rfl)) rfl ?_;clear S;intro a S
     refine lv S (Ra rfl) rfl ?_;clear S;intro a S
     refine Ld (Tn (wp_ret (then_r (blk_r (then_r (then_r ?_))))))
     refine blk_r (then_r (then_r ?_))
     obtain rfl := Option.some.inj h
     exact f_ret2 S Tryz.results32 rfl rfl ⟨v3, S.grp [0, 1] [] rfl rfl rfl, rfl⟩
    ·replace h := iteF h hb3
     refine wp_skip (Tn (Fg (lv S (Rm (S.tm rfl)) rfl ?_)));clear S;intro a S
     refine lv S (Ra (S.tm rfl)) rfl ?_;clear S;intro a S
     refine Ld (blk_n (Tn (Fg (lv S (Rm (S.tm rfl)) rfl ?_))));clear S;intro a S
     refine lv S (rn_add (S.tm rfl) rfl) rfl ?_;clear S;intro a S
     refine lv S (Ra (S.tm rfl)) rfl ?_;clear S;intro a S
     refine Ld (Tn ?_)
     exact ⟨m1, ⟨x4, r1.2.1, W (x3 + 1), v3, h, S.nf [true, true] rfl ⟨rfl, rfl, rfl, trivial⟩⟩, Nat.lt_succ_self _⟩
   ·replace h := iteF h hb1
    refine wp_exit (then_x (then_x (x_same (Tn ?_))))
    exact ⟨x1, v1, h, S.nf [true, true] rfl trivial⟩
 clear S h;rintro a w2 ⟨x1, v1, h, S⟩;rw [hj1] at h;clear hj1 j1
 refine Tn (Fs (Fg (lv S (Ra rfl) rfl ?_)));clear S;intro a S
 refine lv S (Ra rfl) rfl ?_;clear S;intro a S
 refine Ld (Tn (wp_ret ?_))
 obtain rfl := Option.some.inj h
 exact f_ret2 S Tryz.results32 rfl rfl ⟨v1, S.grp [0, 1] [] rfl rfl rfl, rfl⟩
theorem points_Read_ok (w : World) (Az : ByteArray) (hg_maxlen : GlobI (view w []) 0) (r : (List GScored) × Int × Int) (h : points_Read Az = some r) :
    Calls Tryz.prog 9 [sV Az].toArray w (Ret w [] fun τ v _ => ∃ u1 : Value, v = .tuple #[u1, iV r.2.1, iV r.2.2] ∧ OwnV τ 38 5 u1 r.1.length (r.1.flatMap GScored.enc)) := by
 refine f_enter [] [] Tryz.func9 rfl Tryz.ntmps9 rfl (by simp) (by simp [fps]) (by simp [fps]) fun a S => ?_
 unfold points_Read at h
 replace S := S.nk [] [(0, sV Az)] [] rfl ⟨rfl, trivial⟩
 refine Fs (Fg (lv S (Ra rfl) rfl ?_));clear S;intro a S
 refine lv S (Ra rfl) rfl ?_;clear S;intro a S
 refine lv S (Ra rfl) rfl ?_;clear S;intro a S
 refine Ld (Tn (Fs (Fs (Fg (lv S (Rm (S.tm rfl)) rfl ?_)))));clear S;intro a S
 refine lv S (rn_len_str Tryz.underlying9 (S.tm rfl)) rfl ?_;clear S;intro a S
 refine lv S (rn_gtr (S.tm rfl) rfl) rfl ?_;clear S;intro a S
 refine Ld (Tn (f_cond (S.tm rfl) (fun hb1 => ?_) (fun hb1 => ?_)))
 ·replace h := iteT h hb1
  refine Fs (Fg (lv S (Ra rfl) rfl ?_));clear S;intro a S
  refine lv S (Ra rfl) rfl ?_;clear S;intro a S
  refine lv S (Ra rfl) rfl ?_;clear S;intro a S
  refine Ld (Tn (wp_ret (then_r ?_)))
  obtain rfl := Option.some.inj h
  exact f_ret3 S Tryz.results9 rfl rfl rfl ⟨_, rfl, (ownV_nil _ _ _)⟩
 ·replace h := iteF h hb1
  refine wp_skip (Tn (Fs (Fg (l_alloc S Tryz.zeroValue26 (cs := [.slice none 0 0]) rfl rfl ?_))));clear S;intro a w1 b1 hz1 hk1 S
  refine Ld (Tn (Fs (Fs (Fg (lv S (Rm (S.tm rfl)) rfl ?_)))));clear S;intro a S
  refine lv S (rn_makeFunc (us := #[]) (xs := [].toArray) (ys := [.tmp 5].toArray) (by simp) (evA ⟨(S.tm rfl), trivial⟩ (vs := [.pointer (some ⟨b1, 0, none⟩)]))) rfl ?_;clear S;intro a S
  replace S := S.nil 38 5
  obtain ⟨r1, hr1, h⟩ := bindE h
  refine l_enterG [1, 0] [] (Ls := [.blk b1 [(.slice none 0 0)] 26, .own (.slice none 0 0) 38 5 ([] : List GScored).length (([] : List GScored).flatMap GScored.enc)]) (Lr := []) (Y := [b1] ++ (Value.ownBlock (.slice none 0 0)).toList) S rfl rfl rfl (by simp [fps_cons, fps_nil, LEnt.fp]) (fun _ => run_call (vs := [sV Az, .func (.func 33) #[] #[.pointer (some ⟨b1, 0, none⟩)]]) ⟨(S.tm rfl), (S.tm rfl), trivial⟩ Tryz.call32) (words_Lines_points_Read_c1_ok _ ([b1] ++ (Value.ownBlock (.slice none 0 0)).toList) Az b1 (.slice none 0 0) ([] : List GScored) (S.holds _ (List.mem_of_getElem? (i := 0) rfl)) (S.holds _ (List.mem_of_getElem? (i := 1) rfl)) (hg_maxlen.mono (S.le_arg (app_sub (fp_sub (i := 1) (e := .blk b1 [(.slice none 0 0)] 26) rfl) (fp_sub (i := 0) (e := .own (.slice none 0 0) 38 5 ([] : List GScored).length (([] : List GScored).flatMap GScored.enc)) rfl)))) (S.ndg [1, 0] [] rfl rfl rfl (by simp [fps_cons, fps_nil, LEnt.fp])) (by simp [fps_cons, fps_nil, LEnt.fp]) _ hr1) rfl ?_;clear S;intro v1 a w2 hv1 hk2 hn1 S
  obtain ⟨v2, hg1, hv1⟩ := hv1;replace S := S _ hg1;clear hg1
  subst hv1
  refine lv S (Rm (S.tm rfl)) rfl ?_;clear S;intro a S
  refine lv S (rn_extract (S.tm rfl) rfl) rfl ?_;clear S;intro a S
  refine lv S (rn_extract (S.tm rfl) rfl) rfl ?_;clear S;intro a S
  refine lv S (Ra (S.tm rfl)) rfl ?_;clear S;intro a S
  refine lv S (Ra (S.tm rfl)) rfl ?_;clear S;intro a S
  refine Ld ?_
  replace S := S.nk [.blk b1 [v2] 26, .own v2 38 5 r1.2.2.length (r1.2.2.flatMap GScored.enc)] [(5, .pointer (some ⟨b1, 0, none⟩)), (6, iV r1.1), (7, bV r1.2.1)] [true, true] rfl (subR rfl)
  refine Tn (Fs (Fg (lv S (Rm (S.tm rfl)) rfl ?_)));clear S;intro a S
  refine lv S (rn_not (S.tm rfl)) rfl ?_;clear S;intro a S
  refine Ld (Tn (f_cond (S.tm rfl) (fun hb2 => ?_) (fun hb2 => ?_)))
  ·replace h := iteT h hb2
   refine Fs (Fg (lv S (Rm (S.tm rfl)) rfl ?_));clear S;intro a S
   refine lv S (Ra rfl) rfl ?_;clear S;intro a S
   refine lv S (Ra (S.tm rfl)) rfl ?_;clear S;intro a S
   refine lv S (Ra rfl) rfl ?_;clear S;intro a S
   refine Ld (Tn (wp_ret (then_r ?_)))
   obtain rfl := Option.some.inj h
   exact f_ret3 S Tryz.results9 rfl rfl rfl ⟨_, rfl, (ownV_nil _ _ _)⟩
  ·replace h := iteF h hb2
   refine wp_skip (Tn (Fs (Fs (Fg (lv S (rn_load Tryz.isAgg26 (S.tm rfl) (S.cell (i := 0) rfl rfl)) rfl ?_)))));clear S;intro a S
   obtain ⟨r2, hr2, h⟩ := bindE h
   refine l_enter S (fun _ => run_call (vs := [v2]) ⟨(S.tm rfl), trivial⟩ Tryz.call21) (points_CheckScored_ok _ v2 r1.2.2 (own_slcT GScored.enc_ok S (i := 1) rfl (ne_nil (e' := .own v2 38 5 r1.2.2.length (r1.2.2.flatMap GScored.enc)))) _ hr2) rfl ?_;clear S;intro v3 a w3 hv2 hk3 hn2 S
   subst hv2
   refine lv S (Ra (S.tm rfl)) rfl ?_;clear S;intro a S
   refine Ld (Tn (Fs (Fg (lv S (Rm (S.tm rfl)) rfl ?_))));clear S;intro a S
   refine lv S (rn_neq (S.tm rfl) rfl) rfl ?_;clear S;intro a S
   refine Ld (Tn (f_cond (S.tm rfl) (fun hb3 => ?_) (fun hb3 => ?_)))
   ·replace h := iteT h hb3
    refine Fs (Fg (lv S (Rm (S.tm rfl)) rfl ?_));clear S;intro a S
    refine lv S (Ra rfl) rfl ?_;clear S;intro a S
    refine lv S (Ra rfl) rfl ?_;clear S;intro a S
    refine lv S (Ra (S.tm rfl)) rfl ?_;clear S;intro a S
    refine Ld (Tn (wp_ret (then_r ?_)))
    obtain rfl := Option.some.inj h
    exact f_ret3 S Tryz.results9 rfl rfl rfl ⟨_, rfl, (ownV_nil _ _ _)⟩
   ·replace h := iteF h hb3
    refine wp_skip (Tn (Fs (Fg (lv S (rn_load Tryz.isAgg26 (S.tm rfl) (S.cell (i := 0) rfl rfl)) rfl ?_))));clear S;intro a S
    refine lv S (Ra (S.tm rfl)) rfl ?_;clear S;intro a S
    refine lv S (Ra rfl) rfl ?_;clear S;intro a S
    refine lv S (Ra rfl) rfl ?_;clear S;intro a S
    refine Ld (Tn (wp_ret ?_))
    obtain rfl := Option.some.inj h
    exact f_ret3 S Tryz.results9 rfl rfl rfl ⟨_, rfl, (own_retT S (i := 1) rfl rfl)⟩
theorem slices_Index_string_ok (w : World) (Ba : Value) (Ac : List ByteArray) (Bi : Slc (view w []) 1 Ba (Ac.map eStr)) (Bs : ByteArray) (r : Int) (h : slices_Index_string Ac Bs = r) :
    Calls Tryz.prog 91 [Ba, sV Bs].toArray w (Ret w [] fun _ v _ => v = iV r) := by
 refine f_enter [] [] Tryz.func91 rfl Tryz.ntmps91 rfl (by simp) (by simp [fps]) (by simp [fps]) fun a S => ?_
 unfold slices_Index_string at h
 replace S := S.nk [] [(0, Ba), (1, sV Bs)] [] rfl (subR rfl)
 refine Fs (Fg (lv S (Ra rfl) rfl ?_));clear S;intro a S
 refine Ld (Tn (Fs (Fs (Fg (lv S (Rm (S.tm rfl)) rfl ?_)))));clear S;intro a S
 refine lv S (rn_lenT sl_59 (S.tm rfl) (slc_len Bi)) rfl ?_;clear S;intro a S
 refine lv S (Rm rfl) rfl ?_;clear S;intro a S
 refine Ld (Tn ?_)
 replace S := S.nk [] [(0, Ba), (1, sV Bs), (7, iV (Ac.length : Int)), (8, iV 0)] [] rfl (subR rfl)
 obtain ⟨j1, hj1, h⟩ := joinE h
 refine f_join (fun a w' => j1 = r ∧ Sx w [] nov [] [] 19 a w') ?_ ?_
 ·refine wp_block (f_loop (fun (ys1 : List ByteArray) a w' => ∃ i1 : Nat, (∃ dn, Ac = dn ++ ys1 ∧ dn.length = i1) ∧ slices_Index_string_l1 Bs j1 ys1 i1 = r ∧ Sx w [] nov [] [(0, Ba), (1, sV Bs), (7, iV (Ac.length : Int)), (8, iV (i1 : Int))] 19 a w') List.length Ac ⟨0, ⟨[], rfl, rfl⟩, h, S.nf [] rfl (subR rfl)⟩ ?_)
  clear S h;rintro ys1 a w1 ⟨i1, ⟨dn, hd1, hi1⟩, h, S⟩
  cases ys1 with
  | nil =>
   rw [slices_Index_string_l1.eq_1] at h
   refine Fs (Fg (lv S (rn_lss (S.tm rfl) (S.tm rfl)) rfl ?_));clear S;intro a S
   refine Ld ?_
   replace S := S.nk [] [(0, Ba), (1, sV Bs), (7, iV (Ac.length : Int)), (8, iV (i1 : Int)), (9, bV (decide ((i1 : Int) < (Ac.length : Int))))] [] rfl (subR rfl)
   refine Tn (Fs (wp_cond_false ((S.tm rfl).trans (congrArg Value.bool (rng_nil hd1 hi1))) (wp_exit (then_x (then_x (x_same ?_))))))
   refine Tn ?_
   exact ⟨h, S.nf [] rfl trivial⟩
  | cons y1 ys1 =>
   rw [slices_Index_string_l1.eq_2] at h
   refine Fs (Fg (lv S (rn_lss (S.tm rfl) (S.tm rfl)) rfl ?_));clear S;intro a S
   refine Ld ?_
   replace S := S.nk [] [(0, Ba), (1, sV Bs), (7, iV (Ac.length : Int)), (8, iV (i1 : Int)), (9, bV (decide ((i1 : Int) < (Ac.length : Int))))] [] rfl (subR rfl)
   refine Tn (Fs (wp_cond_true ((S.tm rfl).trans (congrArg Value.bool (rng_cons hd1 hi1))) (wp_skip (Tn (Fs (wp_block ?_))))))
   refine Fs (Fg (lv S (Rm (S.tm rfl)) rfl ?_));clear S;intro a S
   refine lv S (Ra (S.tm rfl)) rfl ?_;clear S;intro a S
   refine Ld (Tn (Fs (Fg (lv S (Rm (S.tm rfl)) rfl ?_))));clear S;intro a S
   refine lv S (Rm (S.tm rfl)) rfl ?_;clear S;intro a S
   refine lv S (Rm (S.tm rfl)) rfl ?_;clear S;intro a S
   obtain ⟨b1, o1, hm1, hr1⟩ := rn_indexT (a := a) (x := .tmp 12) (y := .tmp 13) (ty := 0) sl_59 Bi (get_mid hd1 hi1) rfl (S.tm rfl) (S.tm rfl)
   refine lv S (hr1 _) rfl ?_;clear S;intro a S
   clear hr1
   refine lv S (rn_ld Tryz.isAgg9 (off := o1) (o := 0) (S.tm rfl) (hm1.at S.emb0) rfl) rfl ?_;clear S;intro a S
   refine lv S (rn_seql (S.tm rfl) (S.tm rfl)) rfl ?_;clear S;intro a S
   refine Ld (Tn (f_cond (S.tm rfl) (fun hb1 => ?_) (fun hb1 => ?_)))
   ·replace h := iteT h hb1
    refine Fs (Fg (lv S (Rm (S.tm rfl)) rfl ?_));clear S;intro a S
    refine lv S (Ra (S.tm rfl)) rfl ?_;clear S;intro a S
    refine Ld ?_
    replace S := S.nk [] [(4, iV (i1 : Int))] [] rfl ⟨rfl, trivial⟩
    refine Tn (wp_ret (blk_r (then_r (then_r (blk_r (then_r ?_))))))
    refine then_r ?_
    subst h
    exact f_ret S Tryz.results91 rfl rfl
   ·replace h := iteF h hb1
    refine wp_skip (blk_n (Tn (Fg (lv S (rn_add (S.tm rfl) rfl) rfl ?_))));clear S;intro a S
    refine lv S (Rm (S.tm rfl)) rfl ?_;clear S;intro a S
    refine Ld (Tn ?_)
    exact ⟨ys1, ⟨i1 + 1, ⟨_, (hd1).trans (List.append_cons _ _ _), by simp [hi1]⟩, h, S.nf [] rfl ⟨rfl, rfl, rfl, (congrArg (fun z => some (Value.int .i64 z)) (rng_next hd1 hi1 (slc_max Bi))), trivial⟩⟩, Nat.lt_succ_self _⟩
 clear S h;rintro a w2 ⟨h, S⟩;rw [hj1] at h;clear hj1 j1
 refine Tn (Fs (Fg (lv S (Ra rfl) rfl ?_)));clear S;intro a S
 refine Ld (Tn (wp_ret ?_))
 subst h
 exact f_ret S Tryz.results91 rfl rfl
theorem slices_Contains_string_ok (w : World) (Ba : Value) (Ac : List ByteArray) (Bi : Slc (view w []) 1 Ba (Ac.map eStr)) (Bs : ByteArray) (r : Bool) (h : slices_Contains_string Ac Bs = r) :
    Calls Tryz.prog 61 [Ba, sV Bs].toArray w (Ret w [] fun _ v _ => v = bV r) := by
 refine f_enter [] [] Tryz.func61 rfl Tryz.ntmps61 rfl (by simp) (by simp [fps]) (by simp [fps]) fun a S => ?_
 unfold slices_Contains_string at h
 replace S := S.nk [] [(0, Ba), (1, sV Bs)] [] rfl (subR rfl)
 refine Fs (Fg (lv S (Ra rfl) rfl ?_));clear S;intro a S
 refine Ld (Tn (Fs (Fg (lv S (Rm (S.tm rfl)) rfl ?_))));clear S;intro a S
 refine lv S (Rm (S.tm rfl)) rfl ?_;clear S;intro a S
 refine l_enter S (fun _ => run_call (vs := [Ba, sV Bs]) ⟨(S.tm rfl), (S.tm rfl), trivial⟩ Tryz.call91) (slices_Index_string_ok _ Ba Ac (Bi.mono (S.le_arg nil_sub)) Bs _ rfl) rfl ?_;clear S;intro v1 a w1 hv1 hk1 hn1 S
 subst hv1
 refine lv S (rn_geq (S.tm rfl) rfl) rfl ?_;clear S;intro a S
 refine lv S (Ra (S.tm rfl)) rfl ?_;clear S;intro a S
 refine Ld (Tn (wp_ret ?_))
 subst h
 exact f_ret S Tryz.results61 rfl rfl
theorem tumbref2_Words_ok (w : World) (Ay : ByteArray) (hg_maxlen : GlobI (view w []) 0) (r : (List ByteArray) × Bool) (h : tumbref2_Words Ay = some r) :
    Calls Tryz.prog 39 [sV Ay].toArray w (Ret w [] fun τ v _ => ∃ u1 : Value, v = .tuple #[u1, bV r.2] ∧ OwnV τ 9 1 u1 r.1.length (r.1.flatMap eStr)) := by
 refine f_enter [] [] Tryz.func39 rfl Tryz.ntmps39 rfl (by simp) (by simp [fps]) (by simp [fps]) fun a S => ?_
 unfold tumbref2_Words at h
 replace S := S.nk [] [(0, sV Ay)] [] rfl ⟨rfl, trivial⟩
 refine Fs (Fg (lv S (Ra rfl) rfl ?_));clear S;intro a S
 refine lv S (Ra rfl) rfl ?_;clear S;intro a S
 refine Ld (Tn (Fs (Fg (lv S (Rm (S.tm rfl)) rfl ?_))));clear S;intro a S
 obtain ⟨r1, hr1, h⟩ := bindE h
 have hz1 := S.keep.size
 refine l_enter S (fun _ => run_call (vs := [sV Ay, sV k__20]) ⟨(S.tm rfl), rfl, trivial⟩ Tryz.call57) (strings_Split_ok _ Ay k__20 (hg_maxlen.mono (S.le_arg nil_sub)) _ hr1) rfl ?_;clear S;intro v1 a w1 hv1 hk1 hn1 S
 obtain ⟨φ1, hl1, hm1, S⟩ := S.see' hn1 hz1
 have hs1 := hv1.mono hm1
 refine lv S (Ra (S.tm rfl)) rfl ?_;clear S;intro a S
 refine Ld (Tn (Fs (Fg (lv S (Rm (S.tm rfl)) rfl ?_))));clear S;intro a S
 refine lv S (Rm (S.tm rfl)) rfl ?_;clear S;intro a S
 refine l_enter S (fun _ => run_call (vs := [v1, sV k_empty]) ⟨(S.tm rfl), rfl, trivial⟩ Tryz.call61) (slices_Contains_string_ok _ v1 r1 ((ownV_slcT enc_str hs1).mono (S.le_new nil_sub)) k_empty _ rfl) rfl ?_;clear S;intro v2 a w2 hv2 hk2 hn2 S
 subst hv2
 refine lv S (rn_not (S.tm rfl)) rfl ?_;clear S;intro a S
 refine lv S (Ra (S.tm rfl)) rfl ?_;clear S;intro a S
 refine lv S (Ra (S.tm rfl)) rfl ?_;clear S;intro a S
 refine Ld (Tn (wp_ret ?_))
 obtain rfl := Option.some.inj h
 exact f_ret2 S Tryz.results39 rfl rfl ⟨_, rfl, ((hs1).mono S.le_newer)⟩
theorem strings_TrimPrefix_ok (w : World) (s : ByteArray) (p : ByteArray) (r : ByteArray) (h : strings_TrimPrefix s p = r) : Calls Tryz.prog 62 [sV s, sV p].toArray w (Ret w [] fun _ v _ => v = .string r) := by
  subst h
  exact ret_of_same (Any.strings_TrimPrefix Tryz.lays101 s p w)
theorem tumbref2_Number_ok (w : World) (Ac : ByteArray) (Bh : Int) (hg_pow10 : Glob (view w []) 3 pow10Cells) (r : Int × Bool) (h : tumbref2_Number Ac Bh = some r) :
    Calls Tryz.prog 40 [sV Ac, iV Bh].toArray w (Ret w [] fun _ v _ => v = .tuple #[iV r.1, bV r.2]) := by
 refine f_enter [] [] Tryz.func40 rfl Tryz.ntmps40 rfl (by simp) (by simp [fps]) (by simp [fps]) fun a S => ?_
 unfold tumbref2_Number at h
 replace S := S.nk [] [(0, sV Ac), (1, iV Bh)] [] rfl (subR rfl)
 refine Fs (Fg (lv S (Ra rfl) rfl ?_));clear S;intro a S
 refine lv S (Ra rfl) rfl ?_;clear S;intro a S
 refine Ld (Tn (Fs (Fg (lv S (Rm (S.tm rfl)) rfl ?_))));clear S;intro a S
 refine l_enter S (fun _ => run_call (vs := [sV Ac, sV k__2d]) ⟨(S.tm rfl), rfl, trivial⟩ Tryz.call62) (strings_TrimPrefix_ok _ Ac k__2d _ rfl) rfl ?_;clear S;intro v1 a w1 hv1 hk1 hn1 S
 subst hv1
 refine lv S (Ra (S.tm rfl)) rfl ?_;clear S;intro a S
 refine Ld (Tn (Fs (Fs (Fg (lv S (Rm (S.tm rfl)) rfl ?_)))));clear S;intro a S
 refine lv S (rn_seql (S.tm rfl) rfl) rfl ?_;clear S;intro a S
 refine lv S (Rm (S.tm rfl)) rfl ?_;clear S;intro a S
 refine f_cutm 5 (fun a w' => Keep [] w1 w' ∧ Sx w [] nov [] [(0, sV Ac), (6, sV (strings_TrimPrefix Ac k__2d)), (18, bV ((decide ((strings_TrimPrefix Ac k__2d) = k_empty)) || (decide (Bh < ((strings_TrimPrefix Ac k__2d).size : Int)))))] 38 a w') ?_ ?_
 ·rcases Bool.eq_false_or_eq_true (decide ((strings_TrimPrefix Ac k__2d) = k_empty)) with hb1 | hb1
  ·iterate 4 (refine l_skip S rfl rfl rfl (neq_t hb1) rfl ?_ rfl;clear S;intro a S)
   refine lv S (rn_or_t (decide (Bh < ((strings_TrimPrefix Ac k__2d).size : Int))) hb1 (S.tm rfl) rfl) rfl ?_;clear S;intro a S
   refine Ld (Tn ?_)
   exact ⟨Keep.refl _ _, S.nf [] rfl (subR rfl)⟩
  ·refine l_want S rfl rfl rfl hb1 (lv S (Rm (S.tm rfl)) rfl ?_);clear S;intro a S
   refine l_want S rfl rfl rfl hb1 (lv S (rn_len_str Tryz.underlying9 (S.tm rfl)) rfl ?_);clear S;intro a S
   refine l_want S rfl rfl rfl hb1 (lv S (Rm (S.tm rfl)) rfl ?_);clear S;intro a S
   refine l_want S rfl rfl rfl hb1 (lv S (rn_gtr (S.tm rfl) (S.tm rfl)) rfl ?_);clear S;intro a S
   refine lv S (rn_or_f hb1 (S.tm rfl) (S.tm rfl)) rfl ?_;clear S;intro a S
   refine Ld (Tn ?_)
   exact ⟨Keep.refl _ _, S.nf [] rfl (subR rfl)⟩
 clear S;rintro a w2 ⟨hk2, S⟩
 refine lv S (Rm (S.tm rfl)) rfl ?_;clear S;intro a S
 obtain ⟨j1, hj1, h⟩ := joinE h
 refine f_cutm 4 (fun a w' => ∃ c1, j1 c1 = some r ∧ Keep [] w2 w' ∧ Sx w [] nov [] [(0, sV Ac), (23, bV c1)] 38 a w') ?_ ?_
 ·rcases Bool.eq_false_or_eq_true ((decide ((strings_TrimPrefix Ac k__2d) = k_empty)) || (decide (Bh < ((strings_TrimPrefix Ac k__2d).size : Int)))) with hb2 | hb2
  ·replace h := iteT h hb2
   iterate 3 (refine l_skip S rfl rfl rfl (neq_t hb2) rfl ?_ rfl;clear S;intro a S)
   refine lv S (rn_or_t true hb2 (S.tm rfl) rfl) rfl ?_;clear S;intro a S
   refine Ld (Tn ?_)
   exact ⟨_, h, Keep.refl _ _, S.nf [] rfl (subR rfl)⟩
  ·replace h := iteF h hb2
   refine l_want S rfl rfl rfl hb2 (lv S (Rm (S.tm rfl)) rfl ?_);clear S;intro a S
   refine l_want S rfl rfl rfl hb2 ?_
   obtain ⟨r1, hr1, h⟩ := bindE h
   refine l_enter S (fun _ => run_call (vs := [sV (strings_TrimPrefix Ac k__2d), sV k_0123456789]) ⟨(S.tm rfl), rfl, trivial⟩ Tryz.call52) (tumbref2_only_ok _ (strings_TrimPrefix Ac k__2d) k_0123456789 _ hr1) rfl ?_;clear S;intro v2 a w4 hv2 hk3 hn2 S
   subst hv2
   refine l_want S rfl rfl rfl hb2 (lv S (rn_not (S.tm rfl)) rfl ?_);clear S;intro a S
   refine lv S (rn_or_f hb2 (S.tm rfl) (S.tm rfl)) rfl ?_;clear S;intro a S
   refine Ld (Tn ?_)
   exact ⟨_, h, hk3, S.nf [] rfl (subR rfl)⟩
 clear S h;rintro a w3 ⟨c1, h, hk4, S⟩;rw [hj1] at h;clear hj1 j1
 refine Ld (Tn (f_cond (S.tm rfl) (fun hb3 => ?_) (fun hb3 => ?_)))
 ·replace h := iteT h hb3
  refine Fs (Fg (lv S (Ra rfl) rfl ?_));clear S;intro a S
  refine lv S (Ra rfl) rfl ?_;clear S;intro a S
  refine Ld (Tn (wp_ret (then_r ?_)))
  obtain rfl := Option.some.inj h
  exact f_ret2 S Tryz.results40 rfl rfl rfl
 ·replace h := iteF h hb3
  refine wp_skip (Tn (Fs (Fg (lv S (Rm (S.tm rfl)) rfl ?_))));clear S;intro a S
  obtain ⟨r2, hr2, h⟩ := bindE h
  refine l_enter S (fun _ => run_call (vs := [sV Ac]) ⟨(S.tm rfl), trivial⟩ Tryz.call60) (strconv_Atoi_ok _ Ac _ hr2) rfl ?_;clear S;intro v3 a w5 hv3 hk5 hn3 S
  subst hv3
  refine lv S (Rm (S.tm rfl)) rfl ?_;clear S;intro a S
  refine lv S (rn_extract (S.tm rfl) rfl) rfl ?_;clear S;intro a S
  refine lv S (rn_extract (S.tm rfl) rfl) rfl ?_;clear S;intro a S
  refine lv S (Ra (S.tm rfl)) rfl ?_;clear S;intro a S
  refine lv S (Ra (S.tm rfl)) rfl ?_;clear S;intro a S
  refine Ld (Tn (Fs (Fg (lv S (Rm (S.tm rfl)) rfl ?_))));clear S;intro a S
  refine lv S (Rm (S.tm rfl)) rfl ?_;clear S;intro a S
  refine lv S (rn_ifnileql Tryz.underlying53 (S.tm rfl)) rfl ?_;clear S;intro a S
  refine lv S (Rm (S.tm rfl)) rfl ?_;clear S;intro a S
  obtain ⟨j2, hj2, h⟩ := joinE h
  refine f_cutm 5 (fun a w' => ∃ c2, j2 c2 = some r ∧ Keep [] w5 w' ∧ Sx w [] nov [] [(29, iV r2), (37, bV c2)] 38 a w') ?_ ?_
  ·rcases Bool.eq_false_or_eq_true true with hb4 | hb4
   ·replace h := iteT h hb4
    refine l_want S rfl rfl rfl hb4 (lv S (Rm (S.tm rfl)) rfl ?_);clear S;intro a S
    refine l_want S rfl rfl rfl hb4 ?_
    obtain ⟨r3, hr3, h⟩ := bindE h
    refine l_enter S (fun _ => run_call (vs := [iV r2]) ⟨(S.tm rfl), trivial⟩ Tryz.call25) (strconv_Itoa_ok _ r2 (hg_pow10.mono (S.le_arg nil_sub)) _ hr3) rfl ?_;clear S;intro v4 a w7 hv4 hk6 hn4 S
    subst hv4
    refine l_want S rfl rfl rfl hb4 (lv S (Rm (S.tm rfl)) rfl ?_);clear S;intro a S
    refine l_want S rfl rfl rfl hb4 (lv S (rn_seql (S.tm rfl) (S.tm rfl)) rfl ?_);clear S;intro a S
    refine lv S (rn_and_t hb4 (S.tm rfl) (S.tm rfl)) rfl ?_;clear S;intro a S
    refine Ld (Tn ?_)
    exact ⟨_, h, hk6, S.nf [] rfl (subR rfl)⟩
   ·replace h := iteF h hb4
    iterate 4 (refine l_skip S rfl rfl rfl (neq_f hb4) rfl ?_ rfl;clear S;intro a S)
    refine lv S (rn_and_f true hb4 (S.tm rfl) rfl) rfl ?_;clear S;intro a S
    refine Ld (Tn ?_)
    exact ⟨_, h, Keep.refl _ _, S.nf [] rfl (subR rfl)⟩
  clear S h;rintro a w6 ⟨c2, h, hk7, S⟩;rw [hj2] at h;clear hj2 j2
  refine lv S (Ra (S.tm rfl)) rfl ?_;clear S;intro a S
  refine lv S (Ra (S.tm rfl)) rfl ?_;clear S;intro a S
  refine Ld (Tn (wp_ret ?_))
  obtain rfl := Option.some.inj h
  exact f_ret2 S Tryz.results40 rfl rfl rfl
theorem tumbref2_undash_ok (w : World) (Ac : ByteArray) (r : ByteArray) (h : tumbref2_undash Ac = r) :
    Calls Tryz.prog 41 [sV Ac].toArray w (Ret w [] fun _ v _ => v = sV r) := by
 refine f_enter [] [] Tryz.func41 rfl Tryz.ntmps41 rfl (by simp) (by simp [fps]) (by simp [fps]) fun a S => ?_
 unfold tumbref2_undash at h
 replace S := S.nk [] [(0, sV Ac)] [] rfl ⟨rfl, trivial⟩
 refine Fs (Fg (lv S (Ra rfl) rfl ?_));clear S;intro a S
 refine Ld (Tn (Fs (Fs (Fg (lv S (Rm (S.tm rfl)) rfl ?_)))));clear S;intro a S
 refine lv S (rn_seql (S.tm rfl) rfl) rfl ?_;clear S;intro a S
 refine Ld (Tn (f_cond (S.tm rfl) (fun hb1 => ?_) (fun hb1 => ?_)))
 ·replace h := iteT h hb1
  refine Fs (Fg (lv S (Ra rfl) rfl ?_));clear S;intro a S
  refine Ld (Tn (wp_ret (then_r ?_)))
  subst h
  exact f_ret S Tryz.results41 rfl rfl
 ·replace h := iteF h hb1
  refine wp_skip (Tn (Fs (Fg (lv S (Rm (S.tm rfl)) rfl ?_))));clear S;intro a S
  refine lv S (Ra (S.tm rfl)) rfl ?_;clear S;intro a S
  refine Ld (Tn (wp_ret ?_))
  subst h
  exact f_ret S Tryz.results41 rfl rfl
theorem tumbref2_ScoredRead_c1_ok (w : World) (X : List Nat) (Ay : ByteArray) (Am : Nat) (Ai : Value) (Ao : List GScored) (Ce : (LEnt.own Ai 38 5 Ao.length (Ao.flatMap GScored.enc)).holds w) (Bx : (LEnt.blk Am [Ai] 26).holds w) (hg_maxlen : GlobI (view w X) 0) (hg_pow10 : Glob (view w X) 3 pow10Cells) (hXn : X.Nodup) (hXe : X = fps [.blk Am [Ai] 26, .own Ai 38 5 Ao.length (Ao.flatMap GScored.enc)]) (r : Bool × (List GScored)) (h : tumbref2_ScoredRead_c1 Ay Ao = some r) :
    Calls Tryz.prog 38 [sV Ay, .pointer (some ⟨Am, 0, none⟩)].toArray w (Ret w X fun _ v w' => ∃ y1 : Value, Grp w w' X [.blk Am [y1] 26, .own y1 38 5 r.2.length (r.2.flatMap GScored.enc)] ∧ v = bV r.1) := by
 refine f_enter X [.blk Am [Ai] 26, .own Ai 38 5 Ao.length (Ao.flatMap GScored.enc)] Tryz.func38 rfl Tryz.ntmps38 rfl (fun e he => by simp only [List.mem_cons, List.not_mem_nil, or_false] at he;rcases he with rfl | rfl <;> assumption) (by rw [← hXe];exact hXn) (fun b hb => by rw [hXe];exact hb) fun a S => ?_
 unfold tumbref2_ScoredRead_c1 at h
 replace S := S.nk [.blk Am [Ai] 26, .own Ai 38 5 Ao.length (Ao.flatMap GScored.enc)] [(0, sV Ay), (1, .pointer (some ⟨Am, 0, none⟩))] [true, true] rfl (subR rfl)
 refine Fs (Fg (lv S (Ra rfl) rfl ?_));clear S;intro a S
 refine Ld (Tn (Fs (Fg (lv S (Rm (S.tm rfl)) rfl ?_))));clear S;intro a S
 obtain ⟨r1, hr1, h⟩ := bindE h
 have hz1 := S.keep.size
 refine l_enter S (fun _ => run_call (vs := [sV Ay]) ⟨(S.tm rfl), trivial⟩ Tryz.call39) (tumbref2_Words_ok _ Ay (hg_maxlen.mono (S.le_arg nil_sub)) _ hr1) rfl ?_;clear S;intro v1 a w1 hv1 hk1 hn1 S
 obtain ⟨u1, rfl, ho1⟩ := hv1
 obtain ⟨φ1, hl1, hm1, S⟩ := S.see' hn1 hz1
 have hs1 := ho1.mono hm1
 refine lv S (Rm (S.tm rfl)) rfl ?_;clear S;intro a S
 refine lv S (rn_extract (S.tm rfl) rfl) rfl ?_;clear S;intro a S
 refine lv S (rn_extract (S.tm rfl) rfl) rfl ?_;clear S;intro a S
 refine lv S (Ra (S.tm rfl)) rfl ?_;clear S;intro a S
 refine lv S (Ra (S.tm rfl)) rfl ?_;clear S;intro a S
 refine Ld (Tn (Fs (Fs (Fg (lv S (Rm (S.tm rfl)) rfl ?_)))));clear S;intro a S
 refine lv S (rn_not (S.tm rfl)) rfl ?_;clear S;intro a S
 refine lv S (Rm (S.tm rfl)) rfl ?_;clear S;intro a S
 refine f_cutm 4 (fun a w' => Keep [] w1 w' ∧ Sx w X φ1 [.blk Am [Ai] 26, .own Ai 38 5 Ao.length (Ao.flatMap GScored.enc)] [(1, .pointer (some ⟨Am, 0, none⟩)), (4, u1), (19, bV ((!r1.2) || (!decide ((r1.1.length : Int) = 5))))] 59 a w') ?_ ?_
 ·rcases Bool.eq_false_or_eq_true (!r1.2) with hb1 | hb1
  ·iterate 3 (refine l_skip S rfl rfl rfl (neq_t hb1) rfl ?_ rfl;clear S;intro a S)
   refine lv S (rn_or_t (!decide ((r1.1.length : Int) = 5)) hb1 (S.tm rfl) rfl) rfl ?_;clear S;intro a S
   refine Ld (Tn ?_)
   exact ⟨Keep.refl _ _, S.nf [true, true] rfl (subR rfl)⟩
  ·refine l_want S rfl rfl rfl hb1 (lv S (Rm (S.tm rfl)) rfl ?_);clear S;intro a S
   refine l_want S rfl rfl rfl hb1 (lv S (rn_lenT sl_59 (S.tm rfl) (slc_len (ownV_slcT enc_str hs1))) rfl ?_);clear S;intro a S
   refine l_want S rfl rfl rfl hb1 (lv S (rn_neq (S.tm rfl) rfl) rfl ?_);clear S;intro a S
   refine lv S (rn_or_f hb1 (S.tm rfl) (S.tm rfl)) rfl ?_;clear S;intro a S
   refine Ld (Tn ?_)
   exact ⟨Keep.refl _ _, S.nf [true, true] rfl (subR rfl)⟩
 clear S;rintro a w2 ⟨hk2, S⟩
 refine lv S (Rm (S.tm rfl)) rfl ?_;clear S;intro a S
 obtain ⟨j1, hj1, h⟩ := joinE h
 refine f_cutm 11 (fun a w' => ∃ c1, j1 c1 = some r ∧ Keep [] w2 w' ∧ Sx w X φ1 [.blk Am [Ai] 26, .own Ai 38 5 Ao.length (Ao.flatMap GScored.enc)] [(1, .pointer (some ⟨Am, 0, none⟩)), (4, u1), (31, bV c1)] 59 a w') ?_ ?_
 ·rcases Bool.eq_false_or_eq_true ((!r1.2) || (!decide ((r1.1.length : Int) = 5))) with hb2 | hb2
  ·replace h := iteT h hb2
   iterate 5 (refine l_skip S rfl rfl rfl (neq_t hb2) rfl ?_ rfl;clear S;intro a S)
   iterate 4 (refine l_skipU S rfl rfl rfl rfl ?_;clear S;intro a S)
   refine l_skip S rfl rfl rfl (neq_t hb2) rfl ?_ rfl;clear S;intro a S
   refine lv S (rn_or_t true hb2 (S.tm rfl) rfl) rfl ?_;clear S;intro a S
   refine Ld (Tn ?_)
   exact ⟨_, h, Keep.refl _ _, S.nf [true, true] rfl (subR rfl)⟩
  ·replace h := iteF h hb2
   refine l_want S rfl rfl rfl hb2 (lv S (Rm (S.tm rfl)) rfl ?_);clear S;intro a S
   refine l_want S rfl rfl rfl hb2 ?_
   obtain ⟨hc1, h⟩ := chkE h
   obtain ⟨b1, o1, hm2, hr2⟩ := rn_indexT (a := a) (x := .tmp 21) (y := .const (iV 4)) (ty := 0) sl_59 (ownV_slcT enc_str hs1) (inB_get hc1).1 (inB_get hc1).2 (S.tm rfl) rfl
   refine lv S (hr2 _) rfl ?_;clear S;intro a S
   clear hr2
   refine l_want S rfl rfl rfl hb2 (lv S (rn_ld Tryz.isAgg9 (off := o1) (o := 0) (S.tm rfl) (hm2.at S.emb) rfl) rfl ?_);clear S;intro a S
   refine l_want S rfl rfl rfl hb2 (lv S (rn_sneq (S.tm rfl) rfl) rfl ?_);clear S;intro a S
   refine l_want S rfl rfl rfl hb2 (lv S (Rm (S.tm rfl)) rfl ?_);clear S;intro a S
   obtain ⟨j2, hj2, h⟩ := joinE h
   refine f_cutm 5 (fun a w' => ∃ c2, j2 c2 = some r ∧ Keep [] w2 w' ∧ Sx w X φ1 [.blk Am [Ai] 26, .own Ai 38 5 Ao.length (Ao.flatMap GScored.enc)] [(1, .pointer (some ⟨Am, 0, none⟩)), (4, u1), (20, bV ((!r1.2) || (!decide ((r1.1.length : Int) = 5)))), (30, bV c2)] 59 a w') ?_ ?_
   ·rcases Bool.eq_false_or_eq_true (!decide ((nth r1.1 4) = k_r)) with hb3 | hb3
    ·replace h := iteT h hb3
     refine l_want S rfl rfl rfl hb3 (lv S (Rm (S.tm rfl)) rfl ?_);clear S;intro a S
     refine l_want S rfl rfl rfl hb3 ?_
     obtain ⟨hc2, h⟩ := chkE h
     obtain ⟨b2, o2, hm3, hr3⟩ := rn_indexT (a := a) (x := .tmp 26) (y := .const (iV 4)) (ty := 0) sl_59 (ownV_slcT enc_str hs1) (inB_get hc2).1 (inB_get hc2).2 (S.tm rfl) rfl
     refine lv S (hr3 _) rfl ?_;clear S;intro a S
     clear hr3
     refine l_want S rfl rfl rfl hb3 (lv S (rn_ld Tryz.isAgg9 (off := o2) (o := 0) (S.tm rfl) (hm3.at S.emb) rfl) rfl ?_);clear S;intro a S
     refine l_want S rfl rfl rfl hb3 (lv S (rn_sneq (S.tm rfl) rfl) rfl ?_);clear S;intro a S
     refine l_want S rfl rfl rfl hb2 (lv S (rn_and_t hb3 (S.tm rfl) (S.tm rfl)) rfl ?_);clear S;intro a S
     refine Ld (Tn ?_)
     exact ⟨_, h, Keep.refl _ _, S.nf [true, true] rfl (subR rfl)⟩
    ·replace h := iteF h hb3
     iterate 4 (refine l_skip S rfl rfl rfl (neq_f hb3) rfl ?_ rfl;clear S;intro a S)
     refine l_want S rfl rfl rfl hb2 (lv S (rn_and_f true hb3 (S.tm rfl) rfl) rfl ?_);clear S;intro a S
     refine Ld (Tn ?_)
     exact ⟨_, h, Keep.refl _ _, S.nf [true, true] rfl (subR rfl)⟩
   clear S h;rintro a w4 ⟨c2, h, hk3, S⟩;rw [hj2] at h;clear hj2 j2
   refine lv S (rn_or_f hb2 (S.tm rfl) (S.tm rfl)) rfl ?_;clear S;intro a S
   refine Ld (Tn ?_)
   exact ⟨_, h, hk3, S.nf [true, true] rfl (subR rfl)⟩
 clear S h;rintro a w3 ⟨c1, h, hk4, S⟩;rw [hj1] at h;clear hj1 j1
 refine Ld (Tn (f_cond (S.tm rfl) (fun hb4 => ?_) (fun hb4 => ?_)))
 ·replace h := iteT h hb4
  refine Fs (Fg (lv S (Ra rfl) rfl ?_));clear S;intro a S
  refine Ld (Tn (wp_ret (then_r ?_)))
  obtain rfl := Option.some.inj h
  exact f_ret S Tryz.results38 rfl ⟨Ai, S.grp [0, 1] [] rfl rfl rfl, rfl⟩
 ·replace h := iteF h hb4
  refine wp_skip (Tn (Fs (Fg (lv S (Rm (S.tm rfl)) rfl ?_))));clear S;intro a S
  obtain ⟨hc3, h⟩ := chkE h
  obtain ⟨b3, o3, hm4, hr4⟩ := rn_indexT (a := a) (x := .tmp 33) (y := .const (iV 3)) (ty := 0) sl_59 (ownV_slcT enc_str hs1) (inB_get hc3).1 (inB_get hc3).2 (S.tm rfl) rfl
  refine lv S (hr4 _) rfl ?_;clear S;intro a S
  clear hr4
  refine lv S (rn_ld Tryz.isAgg9 (off := o3) (o := 0) (S.tm rfl) (hm4.at S.emb) rfl) rfl ?_;clear S;intro a S
  obtain ⟨r2, hr5, h⟩ := bindE h
  refine l_enter S (fun _ => run_call (vs := [sV (nth r1.1 3), iV 15]) ⟨(S.tm rfl), rfl, trivial⟩ Tryz.call40) (tumbref2_Number_ok _ (nth r1.1 3) 15 (hg_pow10.mono (S.le_arg nil_sub)) _ hr5) rfl ?_;clear S;intro v2 a w5 hv2 hk5 hn2 S
  subst hv2
  refine lv S (Rm (S.tm rfl)) rfl ?_;clear S;intro a S
  refine lv S (rn_extract (S.tm rfl) rfl) rfl ?_;clear S;intro a S
  refine lv S (rn_extract (S.tm rfl) rfl) rfl ?_;clear S;intro a S
  refine lv S (Ra (S.tm rfl)) rfl ?_;clear S;intro a S
  refine lv S (Ra (S.tm rfl)) rfl ?_;clear S;intro a S
  refine Ld (Tn (Fs ?_))
  obtain ⟨hc4, h⟩ := chkE h
  obtain ⟨hc5, h⟩ := chkE h
  obtain ⟨hc6, h⟩ := chkE h
  obtain ⟨hc7, h⟩ := chkE h
  obtain ⟨hc8, h⟩ := chkE h
  refine d_region [19] (Ai.ownBlock.toList) Tryz.mixed S rfl (by kernel_rfl) ?_;clear S;intro w10 hk10 hsel S
  refine d_quiet 0 S hsel rfl (by kernel_rfl) (by kernel_rfl) (by kernel_rfl) (by kernel_rfl) rfl (fun _ hw => (rn_ld Tryz.isAgg26 (off := 0) (o := 0) (S.tm rfl) ((S.blk_mem (i := 0) (cells := [Ai]) (b := Am) (T := 26) rfl (ne_fp (i := 1) (j := 0) (e := .own Ai 38 5 Ao.length (Ao.flatMap GScored.enc)) (e' := .blk Am [Ai] 26) S rfl rfl rfl)).kept hw) rfl)) ?_;clear S;intro a S
  refine d_pure 1 S hsel rfl rfl (by kernel_rfl) (by kernel_rfl) rfl (fun _ => (Rm (S.tm rfl))) ?_;clear S;intro a S
  obtain ⟨b9, o8, hm9, hr10⟩ := rn_indexT (a := a) (x := .tmp 40) (y := .const (iV 0)) (ty := 0) sl_59 ((ownV_slcT enc_str hs1).mono (S.le_new (fp_sub (i := 1) (e := .own Ai 38 5 Ao.length (Ao.flatMap GScored.enc)) rfl))) (inB_get hc4).1 (inB_get hc4).2 (S.tm rfl) rfl
  refine d_pure 2 S hsel rfl rfl (by kernel_rfl) (by kernel_rfl) rfl (fun _ => hr10 _) ?_;clear S;intro a S
  clear hr10
  refine d_quiet 3 S hsel rfl (by kernel_rfl) (by kernel_rfl) (by kernel_rfl) (by kernel_rfl) rfl (fun _ hw => (rn_ld Tryz.isAgg9 (off := o8) (o := 0) (S.tm rfl) (hm9.kept hw) rfl)) ?_;clear S;intro a S
  refine d_pure 4 S hsel rfl rfl (by kernel_rfl) (by kernel_rfl) rfl (fun _ => (Rm (S.tm rfl))) ?_;clear S;intro a S
  obtain ⟨b10, o9, hm10, hr11⟩ := rn_indexT (a := a) (x := .tmp 43) (y := .const (iV 1)) (ty := 0) sl_59 ((ownV_slcT enc_str hs1).mono (S.le_new (fp_sub (i := 1) (e := .own Ai 38 5 Ao.length (Ao.flatMap GScored.enc)) rfl))) (inB_get hc5).1 (inB_get hc5).2 (S.tm rfl) rfl
  refine d_pure 5 S hsel rfl rfl (by kernel_rfl) (by kernel_rfl) rfl (fun _ => hr11 _) ?_;clear S;intro a S
  clear hr11
  refine d_quiet 6 S hsel rfl (by kernel_rfl) (by kernel_rfl) (by kernel_rfl) (by kernel_rfl) rfl (fun _ hw => (rn_ld Tryz.isAgg9 (off := o9) (o := 0) (S.tm rfl) (hm10.kept hw) rfl)) ?_;clear S;intro a S
  refine d_pure 7 S hsel rfl rfl (by kernel_rfl) (by kernel_rfl) rfl (fun _ => (Rm (S.tm rfl))) ?_;clear S;intro a S
  obtain ⟨b11, o10, hm11, hr12⟩ := rn_indexT (a := a) (x := .tmp 46) (y := .const (iV 2)) (ty := 0) sl_59 ((ownV_slcT enc_str hs1).mono (S.le_new (fp_sub (i := 1) (e := .own Ai 38 5 Ao.length (Ao.flatMap GScored.enc)) rfl))) (inB_get hc6).1 (inB_get hc6).2 (S.tm rfl) rfl
  refine d_pure 8 S hsel rfl rfl (by kernel_rfl) (by kernel_rfl) rfl (fun _ => hr12 _) ?_;clear S;intro a S
  clear hr12
  refine d_quiet 9 S hsel rfl (by kernel_rfl) (by kernel_rfl) (by kernel_rfl) (by kernel_rfl) rfl (fun _ hw => (rn_ld Tryz.isAgg9 (off := o10) (o := 0) (S.tm rfl) (hm11.kept hw) rfl)) ?_;clear S;intro a S
  refine d_pure 11 S hsel rfl rfl (by kernel_rfl) (by kernel_rfl) rfl (fun _ => (Rm (S.tm rfl))) ?_;clear S;intro a S
  refine d_pure 12 S hsel rfl rfl (by kernel_rfl) (by kernel_rfl) rfl (fun _ => (Rm (S.tm rfl))) ?_;clear S;intro a S
  obtain ⟨b12, o11, hm12, hr13⟩ := rn_indexT (a := a) (x := .tmp 51) (y := .const (iV 4)) (ty := 0) sl_59 ((ownV_slcT enc_str hs1).mono (S.le_new (fp_sub (i := 1) (e := .own Ai 38 5 Ao.length (Ao.flatMap GScored.enc)) rfl))) (inB_get hc7).1 (inB_get hc7).2 (S.tm rfl) rfl
  refine d_pure 13 S hsel rfl rfl (by kernel_rfl) (by kernel_rfl) rfl (fun _ => hr13 _) ?_;clear S;intro a S
  clear hr13
  refine d_quiet 14 S hsel rfl (by kernel_rfl) (by kernel_rfl) (by kernel_rfl) (by kernel_rfl) rfl (fun _ hw => (rn_ld Tryz.isAgg9 (off := o11) (o := 0) (S.tm rfl) (hm12.kept hw) rfl)) ?_;clear S;intro a S
  refine d_pure 15 S hsel rfl rfl (by kernel_rfl) (by kernel_rfl) rfl (fun _ => (rn_seql (S.tm rfl) rfl)) ?_;clear S;intro a S
  refine d_loud1 10 (by kernel_rfl) rfl (l_enter S (fun _ => run_call (vs := [sV (nth r1.1 2)]) ⟨(S.tm rfl), trivial⟩ Tryz.call41) (tumbref2_undash_ok _ (nth r1.1 2) _ rfl) rfl ?_);clear S;intro v5 a w11 hv4 hk11 hn4 S
  subst hv4
  refine Ld (d_next (Keep.none hk11) (d_pure 16 S hsel rfl rfl (by kernel_rfl) (by kernel_rfl) rfl (fun _ => (rn_bld bt_38 (pv := [(0, sV (nth r1.1 0)), (1, sV (nth r1.1 1)), (2, sV (tumbref2_undash (nth r1.1 2))), (3, iV r2.1), (4, bV (decide ((nth r1.1 4) = k_r)))]) ⟨rfl, (S.tm rfl), rfl, (S.tm rfl), rfl, (S.tm rfl), rfl, (S.tm rfl), rfl, (S.tm rfl), trivial⟩ (cs := [sV (nth r1.1 0), sV (nth r1.1 1), sV (tumbref2_undash (nth r1.1 2)), iV r2.1, bV (decide ((nth r1.1 4) = k_r))]) (by kernel_rfl))) ?_));clear S;intro a S
  refine d_loud1 17 (by kernel_rfl) rfl (l_buildSlice S Tryz.underlying26 Tryz.sizeOf38 Tryz.zeroValue38 rfl rfl (pv := [(0, .agg #[sV (nth r1.1 0), sV (nth r1.1 1), sV (tumbref2_undash (nth r1.1 2)), iV r2.1, bV (decide ((nth r1.1 4) = k_r))])]) ⟨rfl, (S.tm rfl), trivial⟩ (cs := [sV (nth r1.1 0), sV (nth r1.1 1), sV (tumbref2_undash (nth r1.1 2)), iV r2.1, bV (decide ((nth r1.1 4) = k_r))]) (by kernel_rfl) rfl ?_);clear S;intro a w12 b13 hz3 hk12 S
  refine Ld (d_next (Keep.none hk12) (d_loud1 18 (by kernel_rfl) rfl ?_))
  refine l_appendT sl_26 GScored.enc_ok S (S.tm rfl) (i := 2) rfl (S.tm rfl) (j := 0) rfl (ys := [(GScored.mk (nth r1.1 0) (nth r1.1 1) (tumbref2_undash (nth r1.1 2)) r2.1 (decide ((nth r1.1 4) = k_r)))]) rfl rfl rfl rfl (by have := room_lt hc8;omega) rfl ?_;clear S;intro v6 a w13 hk13 S
  refine Ld (d_next hk13 (d_loudB 19 (v6.ownBlock.toList ++ [Am]) rfl (by kernel_rfl) rfl (l_store S (S.tm rfl) (S.tm rfl) (i := 1) (off := 0) rfl Tryz.sizeOf26 (vs := [v6]) (SlcLen.cells (own_len (S.own_at (i := 2) rfl))) rfl rfl (all1 (SlcLen.one (own_len (S.own_at (i := 2) rfl))) rfl) ?_)));clear S;intro w14 hk14 S
  refine Ld (d_nextB (d_end (by kernel_rfl) ?_))
  clear hsel
  replace S := S.nk [.blk Am [v6] 26, .own v6 38 5 (Ao ++ [(GScored.mk (nth r1.1 0) (nth r1.1 1) (tumbref2_undash (nth r1.1 2)) r2.1 (decide ((nth r1.1 4) = k_r)))]).length ((Ao ++ [(GScored.mk (nth r1.1 0) (nth r1.1 1) (tumbref2_undash (nth r1.1 2)) r2.1 (decide ((nth r1.1 4) = k_r)))]).flatMap GScored.enc)] [(7, bV r2.2)] [false, true, true] rfl ⟨rfl, trivial⟩
  refine Tn (Fs (Fg (lv S (Rm (S.tm rfl)) rfl ?_)));clear S;intro a S
  refine lv S (Ra (S.tm rfl)) rfl ?_;clear S;intro a S
  refine Ld (Tn (wp_ret ?_))
  obtain rfl := Option.some.inj h
  exact f_ret S Tryz.results38 rfl ⟨v6, S.grp [0, 1] [] rfl rfl rfl, rfl⟩
theorem tumbref2_Lines_tumbref2_ScoredRead_c1_ok (w : World) (X : List Nat) (Az : ByteArray) (Ad : Nat) (Ap : Value) (Ar : List GScored) (Cb : (LEnt.own Ap 38 5 Ar.length (Ar.flatMap GScored.enc)).holds w) (Cc : (LEnt.blk Ad [Ap] 26).holds w) (hg_maxlen : GlobI (view w X) 0) (hg_pow10 : Glob (view w X) 3 pow10Cells) (hXn : X.Nodup) (hXe : X = fps [.blk Ad [Ap] 26, .own Ap 38 5 Ar.length (Ar.flatMap GScored.enc)]) (r : Int × Bool × (List GScored)) (h : tumbref2_Lines_tumbref2_ScoredRead_c1 Az Ar = some r) :
    Calls Tryz.prog 37 [sV Az, .func (.func 38) #[] #[.pointer (some ⟨Ad, 0, none⟩)]].toArray w (Ret w X fun _ v w' => ∃ y1 : Value, Grp w w' X [.blk Ad [y1] 26, .own y1 38 5 r.2.2.length (r.2.2.flatMap GScored.enc)] ∧ v = .tuple #[iV r.1, bV r.2.1]) := by
 refine f_enter X [.blk Ad [Ap] 26, .own Ap 38 5 Ar.length (Ar.flatMap GScored.enc)] Tryz.func37 rfl Tryz.ntmps37 rfl (fun e he => by simp only [List.mem_cons, List.not_mem_nil, or_false] at he;rcases he with rfl | rfl <;> assumption) (by rw [← hXe];exact hXn) (fun b hb => by rw [hXe];exact hb) fun a S => ?_
 unfold tumbref2_Lines_tumbref2_ScoredRead_c1 at h
 replace S := S.nk [.blk Ad [Ap] 26, .own Ap 38 5 Ar.length (Ar.flatMap GScored.enc)] [(0, sV Az), (1, .func (.func 38) #[] #[.pointer (some ⟨Ad, 0, none⟩)])] [true, true] rfl (subR rfl)
 refine Fs (Fg (lv S (Ra rfl) rfl ?_));clear S;intro a S
 refine lv S (Ra rfl) rfl ?_;clear S;intro a S
 refine Ld (Tn (Fs (Fs (Fg (lv S (Ra rfl) rfl ?_)))));clear S;intro a S
 refine Ld (Tn ?_)
 replace S := S.nk [.blk Ad [Ap] 26, .own Ap 38 5 Ar.length (Ar.flatMap GScored.enc)] [(0, sV Az), (1, .func (.func 38) #[] #[.pointer (some ⟨Ad, 0, none⟩)]), (6, iV 0)] [true, true] rfl (subR rfl)
 obtain ⟨j1, hj1, h⟩ := joinE h
 refine f_join (fun a w' => ∃ x1 : List GScored, ∃ v1 : Value, j1 x1 = some r ∧ Sx w X nov [.blk Ad [v1] 26, .own v1 38 5 x1.length (x1.flatMap GScored.enc)] [] 30 a w') ?_ ?_
 ·refine wp_block (f_loop (fun (m1 : Nat) a w' => ∃ x1 : List GScored, ∃ x2 : ByteArray, ∃ x3 : Int, ∃ v1 : Value, tumbref2_Lines_tumbref2_ScoredRead_c1_l1 j1 m1 x1 x2 x3 = some r ∧ Sx w X nov [.blk Ad [v1] 26, .own v1 38 5 x1.length (x1.flatMap GScored.enc)] [(0, sV x2), (1, .func (.func 38) #[] #[.pointer (some ⟨Ad, 0, none⟩)]), (6, iV x3)] 30 a w') id 4611686018427387904 ⟨Ar, Az, 0, Ap, h, S.nf [true, true] rfl (subR rfl)⟩ ?_)
  clear S h;rintro m1 a w1 ⟨x1, x2, x3, v1, h, S⟩
  cases m1 with
  | zero => rw [tumbref2_Lines_tumbref2_ScoredRead_c1_l1.eq_1] at h;cases h
  | succ m1 =>
   rw [tumbref2_Lines_tumbref2_ScoredRead_c1_l1.eq_2] at h
   refine Fs (Fs (Fg (lv S (Rm (S.tm rfl)) rfl ?_)));clear S;intro a S
   refine lv S (rn_sneq (S.tm rfl) rfl) rfl ?_;clear S;intro a S
   refine Ld (Tn (f_cond (S.tm rfl) (fun hb1 => ?_) (fun hb1 => ?_)))
   ·replace h := iteT h hb1
    refine wp_skip (Tn (Fs (wp_block (Fs (Fg (lv S (Rm (S.tm rfl)) rfl ?_))))));clear S;intro a S
    obtain ⟨r1, hr1, h⟩ := bindE h
    refine l_enter S (fun _ => run_call (vs := [sV x2, sV k__0a]) ⟨(S.tm rfl), rfl, trivial⟩ Tryz.call56) (strings_Cut_ok _ x2 k__0a (hg_maxlen.mono (S.le_arg nil_sub)) _ hr1) rfl ?_;clear S;intro v2 a w3 hv1 hk1 hn1 S
    subst hv1
    refine lv S (Rm (S.tm rfl)) rfl ?_;clear S;intro a S
    iterate 3 (refine lv S (rn_extract (S.tm rfl) rfl) rfl ?_;clear S;intro a S)
    iterate 3 (refine lv S (Ra (S.tm rfl)) rfl ?_;clear S;intro a S)
    refine Ld (Tn (Fs (Fs (Fg (lv S (Rm (S.tm rfl)) rfl ?_)))));clear S;intro a S
    refine lv S (rn_not (S.tm rfl)) rfl ?_;clear S;intro a S
    refine lv S (Rm (S.tm rfl)) rfl ?_;clear S;intro a S
    obtain ⟨j2, hj2, h⟩ := joinE h
    refine f_cutm 5 (fun a w' => ∃ x4 : List GScored, ∃ x5 : Bool, ∃ v3 : Value, j2 x4 x5 = some r ∧ Sx w X nov [.blk Ad [v3] 26, .own v3 38 5 x4.length (x4.flatMap GScored.enc)] [(1, .func (.func 38) #[] #[.pointer (some ⟨Ad, 0, none⟩)]), (6, iV x3), (8, sV r1.2.1), (27, bV x5)] 30 a w') ?_ ?_
    ·rcases Bool.eq_false_or_eq_true (!r1.2.2) with hb2 | hb2
     ·replace h := iteT h hb2
      iterate 4 (refine l_skip S rfl rfl rfl (neq_t hb2) rfl ?_ rfl;clear S;intro a S)
      refine lv S (rn_pick_b hb2 (S.tm rfl) rfl) rfl ?_;clear S;intro a S
      refine Ld (Tn ?_)
      exact ⟨x1, true, v1, h, S.nf [true, true] rfl (subR rfl)⟩
     ·replace h := iteF h hb2
      refine l_want S rfl rfl rfl hb2 (lv S (Rm (S.tm rfl)) rfl ?_);clear S;intro a S
      refine l_want S rfl rfl rfl hb2 (lv S (Rm (S.tm rfl)) rfl ?_);clear S;intro a S
      refine l_want S rfl rfl rfl hb2 ?_
      obtain ⟨r2, hr2, h⟩ := bindE h
      refine l_enterG [0, 1] [] (Ls := [.blk Ad [v1] 26, .own v1 38 5 x1.length (x1.flatMap GScored.enc)]) (Lr := []) (Y := [Ad] ++ v1.ownBlock.toList) S rfl rfl rfl (by simp [fps_cons, fps_nil, LEnt.fp]) (fun _ => run_callV (cap := [.pointer (some ⟨Ad, 0, none⟩)]) (S.tm rfl) (vs := [sV r1.1]) ⟨(S.tm rfl), trivial⟩ Tryz.call38) (tumbref2_ScoredRead_c1_ok _ ([Ad] ++ v1.ownBlock.toList) r1.1 Ad v1 x1 (S.holds _ (List.mem_of_getElem? (i := 1) rfl)) (S.holds _ (List.mem_of_getElem? (i := 0) rfl)) (hg_maxlen.mono (S.le_arg (app_sub (fp_sub (i := 0) (e := .blk Ad [v1] 26) rfl) (fp_sub (i := 1) (e := .own v1 38 5 x1.length (x1.flatMap GScored.enc)) rfl)))) (hg_pow10.mono (S.le_arg (app_sub (fp_sub (i := 0) (e := .blk Ad [v1] 26) rfl) (fp_sub (i := 1) (e := .own v1 38 5 x1.length (x1.flatMap GScored.enc)) rfl)))) (S.ndg [0, 1] [] rfl rfl rfl (by simp [fps_cons, fps_nil, LEnt.fp])) (by simp [fps_cons, fps_nil, LEnt.fp]) _ hr2) rfl ?_;clear S;intro v4 a w5 hv2 hk2 hn2 S
      obtain ⟨v5, hg1, hv2⟩ := hv2;replace S := S _ hg1;clear hg1
      subst hv2
      refine l_want S rfl rfl rfl hb2 (lv S (rn_not (S.tm rfl)) rfl ?_);clear S;intro a S
      refine lv S (rn_pick_c hb2 (S.tm rfl) (S.tm rfl)) rfl ?_;clear S;intro a S
      refine Ld (Tn ?_)
      exact ⟨r2.2, !r2.1, v5, h, S.nf [true, true] rfl (subR rfl)⟩
    clear S h;rintro a w4 ⟨x4, x5, v3, h, S⟩;rw [hj2] at h;clear hj2 j2
    refine Ld (Tn (f_cond (S.tm rfl) (fun hb3 => ?_) (fun hb3 => ?_)))
    ·replace h := iteT h hb3
     refine Fs (Fg (lv S (Rm (S.tm rfl)) rfl ?_));clear S;intro a S
     refine lv S (Ra (S.tm rfl)) rfl ?_;clear S;intro a S
     refine lv S (Ra rfl) rfl ?_;clear S;intro a S
     refine Ld (Tn (wp_ret (then_r (blk_r (then_r (then_r ?_))))))
     refine blk_r (then_r (then_r ?_))
     obtain rfl := Option.some.inj h
     exact f_ret2 S Tryz.results37 rfl rfl ⟨v3, S.grp [0, 1] [] rfl rfl rfl, rfl⟩
    ·replace h := iteF h hb3
     refine wp_skip (Tn (Fg (lv S (Rm (S.tm rfl)) rfl ?_)));clear S;intro a S
     refine lv S (Ra (S.tm rfl)) rfl ?_;clear S;intro a S
     refine Ld (blk_n (Tn (Fg (lv S (Rm (S.tm rfl)) rfl ?_))));clear S;intro a S
     refine lv S (rn_add (S.tm rfl) rfl) rfl ?_;clear S;intro a S
     refine lv S (Ra (S.tm rfl)) rfl ?_;clear S;intro a S
     refine Ld (Tn ?_)
     exact ⟨m1, ⟨x4, r1.2.1, W (x3 + 1), v3, h, S.nf [true, true] rfl ⟨rfl, rfl, rfl, trivial⟩⟩, Nat.lt_succ_self _⟩
   ·replace h := iteF h hb1
    refine wp_exit (then_x (then_x (x_same (Tn ?_))))
    exact ⟨x1, v1, h, S.nf [true, true] rfl trivial⟩
 clear S h;rintro a w2 ⟨x1, v1, h, S⟩;rw [hj1] at h;clear hj1 j1
 refine Tn (Fs (Fg (lv S (Ra rfl) rfl ?_)));clear S;intro a S
 refine lv S (Ra rfl) rfl ?_;clear S;intro a S
 refine Ld (Tn (wp_ret ?_))
 obtain rfl := Option.some.inj h
 exact f_ret2 S Tryz.results37 rfl rfl ⟨v1, S.grp [0, 1] [] rfl rfl rfl, rfl⟩
theorem tumbref2_ScoredRead_ok (w : World) (Az : ByteArray) (hg_maxlen : GlobI (view w []) 0) (hg_pow10 : Glob (view w []) 3 pow10Cells) (r : (List GScored) × Int × Int) (h : tumbref2_ScoredRead Az = some r) :
    Calls Tryz.prog 10 [sV Az].toArray w (Ret w [] fun τ v _ => ∃ u1 : Value, v = .tuple #[u1, iV r.2.1, iV r.2.2] ∧ OwnV τ 38 5 u1 r.1.length (r.1.flatMap GScored.enc)) := by
 refine f_enter [] [] Tryz.func10 rfl Tryz.ntmps10 rfl (by simp) (by simp [fps]) (by simp [fps]) fun a S => ?_
 unfold tumbref2_ScoredRead at h
 replace S := S.nk [] [(0, sV Az)] [] rfl ⟨rfl, trivial⟩
 refine Fs (Fg (lv S (Ra rfl) rfl ?_));clear S;intro a S
 refine lv S (Ra rfl) rfl ?_;clear S;intro a S
 refine lv S (Ra rfl) rfl ?_;clear S;intro a S
 refine Ld (Tn (Fs (Fs (Fg (lv S (Rm (S.tm rfl)) rfl ?_)))));clear S;intro a S
 refine lv S (rn_len_str Tryz.underlying9 (S.tm rfl)) rfl ?_;clear S;intro a S
 refine lv S (rn_gtr (S.tm rfl) rfl) rfl ?_;clear S;intro a S
 refine Ld (Tn (f_cond (S.tm rfl) (fun hb1 => ?_) (fun hb1 => ?_)))
 ·replace h := iteT h hb1
  refine Fs (Fg (lv S (Ra rfl) rfl ?_));clear S;intro a S
  refine lv S (Ra rfl) rfl ?_;clear S;intro a S
  refine lv S (Ra rfl) rfl ?_;clear S;intro a S
  refine Ld (Tn (wp_ret (then_r ?_)))
  obtain rfl := Option.some.inj h
  exact f_ret3 S Tryz.results10 rfl rfl rfl ⟨_, rfl, (ownV_nil _ _ _)⟩
 ·replace h := iteF h hb1
  refine wp_skip (Tn (Fs (Fg (l_alloc S Tryz.zeroValue26 (cs := [.slice none 0 0]) rfl rfl ?_))));clear S;intro a w1 b1 hz1 hk1 S
  refine Ld (Tn (Fs (Fg (lv S (Rm (S.tm rfl)) rfl ?_))));clear S;intro a S
  refine lv S (rn_makeFunc (us := #[]) (xs := [].toArray) (ys := [.tmp 5].toArray) (by simp) (evA ⟨(S.tm rfl), trivial⟩ (vs := [.pointer (some ⟨b1, 0, none⟩)]))) rfl ?_;clear S;intro a S
  replace S := S.nil 38 5
  obtain ⟨r1, hr1, h⟩ := bindE h
  refine l_enterG [1, 0] [] (Ls := [.blk b1 [(.slice none 0 0)] 26, .own (.slice none 0 0) 38 5 ([] : List GScored).length (([] : List GScored).flatMap GScored.enc)]) (Lr := []) (Y := [b1] ++ (Value.ownBlock (.slice none 0 0)).toList) S rfl rfl rfl (by simp [fps_cons, fps_nil, LEnt.fp]) (fun _ => run_call (vs := [sV Az, .func (.func 38) #[] #[.pointer (some ⟨b1, 0, none⟩)]]) ⟨(S.tm rfl), (S.tm rfl), trivial⟩ Tryz.call37) (tumbref2_Lines_tumbref2_ScoredRead_c1_ok _ ([b1] ++ (Value.ownBlock (.slice none 0 0)).toList) Az b1 (.slice none 0 0) ([] : List GScored) (S.holds _ (List.mem_of_getElem? (i := 0) rfl)) (S.holds _ (List.mem_of_getElem? (i := 1) rfl)) (hg_maxlen.mono (S.le_arg (app_sub (fp_sub (i := 1) (e := .blk b1 [(.slice none 0 0)] 26) rfl) (fp_sub (i := 0) (e := .own (.slice none 0 0) 38 5 ([] : List GScored).length (([] : List GScored).flatMap GScored.enc)) rfl)))) (hg_pow10.mono (S.le_arg (app_sub (fp_sub (i := 1) (e := .blk b1 [(.slice none 0 0)] 26) rfl) (fp_sub (i := 0) (e := .own (.slice none 0 0) 38 5 ([] : List GScored).length (([] : List GScored).flatMap GScored.enc)) rfl)))) (S.ndg [1, 0] [] rfl rfl rfl (by simp [fps_cons, fps_nil, LEnt.fp])) (by simp [fps_cons, fps_nil, LEnt.fp]) _ hr1) rfl ?_;clear S;intro v1 a w2 hv1 hk2 hn1 S
  obtain ⟨v2, hg1, hv1⟩ := hv1;replace S := S _ hg1;clear hg1
  subst hv1
  refine lv S (Rm (S.tm rfl)) rfl ?_;clear S;intro a S
  refine lv S (rn_extract (S.tm rfl) rfl) rfl ?_;clear S;intro a S
  refine lv S (rn_extract (S.tm rfl) rfl) rfl ?_;clear S;intro a S
  refine lv S (Ra (S.tm rfl)) rfl ?_;clear S;intro a S
  refine lv S (Ra (S.tm rfl)) rfl ?_;clear S;intro a S
  refine Ld ?_
  replace S := S.nk [.blk b1 [v2] 26, .own v2 38 5 r1.2.2.length (r1.2.2.flatMap GScored.enc)] [(5, .pointer (some ⟨b1, 0, none⟩)), (6, iV r1.1), (7, bV r1.2.1)] [true, true] rfl (subR rfl)
  refine Tn (Fs (Fs (Fg (lv S (Rm (S.tm rfl)) rfl ?_))));clear S;intro a S
  refine lv S (rn_not (S.tm rfl)) rfl ?_;clear S;intro a S
  refine Ld (Tn (f_cond (S.tm rfl) (fun hb2 => ?_) (fun hb2 => ?_)))
  ·replace h := iteT h hb2
   refine Fs (Fg (lv S (Rm (S.tm rfl)) rfl ?_));clear S;intro a S
   refine lv S (Ra rfl) rfl ?_;clear S;intro a S
   refine lv S (Ra (S.tm rfl)) rfl ?_;clear S;intro a S
   refine lv S (Ra rfl) rfl ?_;clear S;intro a S
   refine Ld (Tn (wp_ret (then_r ?_)))
   obtain rfl := Option.some.inj h
   exact f_ret3 S Tryz.results10 rfl rfl rfl ⟨_, rfl, (ownV_nil _ _ _)⟩
  ·replace h := iteF h hb2
   refine wp_skip (Tn (Fs (Fs (Fg (lv S (rn_load Tryz.isAgg26 (S.tm rfl) (S.cell (i := 0) rfl rfl)) rfl ?_)))));clear S;intro a S
   obtain ⟨r2, hr2, h⟩ := bindE h
   refine l_enter S (fun _ => run_call (vs := [v2]) ⟨(S.tm rfl), trivial⟩ Tryz.call7) (tumbref2_ScoredFault_ok _ v2 r1.2.2 (own_slcT GScored.enc_ok S (i := 1) rfl (ne_nil (e' := .own v2 38 5 r1.2.2.length (r1.2.2.flatMap GScored.enc)))) _ hr2) rfl ?_;clear S;intro v3 a w3 hv2 hk3 hn2 S
   subst hv2
   refine lv S (Ra (S.tm rfl)) rfl ?_;clear S;intro a S
   refine Ld (Tn (Fs (Fg (lv S (Rm (S.tm rfl)) rfl ?_))));clear S;intro a S
   refine lv S (rn_neq (S.tm rfl) rfl) rfl ?_;clear S;intro a S
   refine Ld (Tn (f_cond (S.tm rfl) (fun hb3 => ?_) (fun hb3 => ?_)))
   ·replace h := iteT h hb3
    refine Fs (Fg (lv S (Rm (S.tm rfl)) rfl ?_));clear S;intro a S
    refine lv S (Ra rfl) rfl ?_;clear S;intro a S
    refine lv S (Ra rfl) rfl ?_;clear S;intro a S
    refine lv S (Ra (S.tm rfl)) rfl ?_;clear S;intro a S
    refine Ld (Tn (wp_ret (then_r ?_)))
    obtain rfl := Option.some.inj h
    exact f_ret3 S Tryz.results10 rfl rfl rfl ⟨_, rfl, (ownV_nil _ _ _)⟩
   ·replace h := iteF h hb3
    refine wp_skip (Tn (Fs (Fg (lv S (rn_load Tryz.isAgg26 (S.tm rfl) (S.cell (i := 0) rfl rfl)) rfl ?_))));clear S;intro a S
    refine lv S (Ra (S.tm rfl)) rfl ?_;clear S;intro a S
    refine lv S (Ra rfl) rfl ?_;clear S;intro a S
    refine lv S (Ra rfl) rfl ?_;clear S;intro a S
    refine Ld (Tn (wp_ret ?_))
    obtain rfl := Option.some.inj h
    exact f_ret3 S Tryz.results10 rfl rfl rfl ⟨_, rfl, (own_retT S (i := 1) rfl rfl)⟩
set_option maxRecDepth 20000 in
theorem slices_Equal_Scored_ok (w : World) (Bo : Value) (Bq : List GScored) (By : Slc (view w []) 5 Bo (Bq.map GScored.enc)) (Bp : Value) (Ca : List GScored) (Cd : Slc (view w []) 5 Bp (Ca.map GScored.enc)) (r : Bool) (h : slices_Equal_Scored Bq Ca = some r) :
    Calls Tryz.prog 11 [Bo, Bp].toArray w (Ret w [] fun _ v _ => v = bV r) := by
 refine f_enter [] [] Tryz.func11 rfl Tryz.ntmps11 rfl (by simp) (by simp [fps]) (by simp [fps]) fun a S => ?_
 unfold slices_Equal_Scored at h
 replace S := S.nk [] [(0, Bo), (1, Bp)] [] rfl (subR rfl)
 refine Fs (Fg (lv S (Ra rfl) rfl ?_));clear S;intro a S
 refine Ld (Tn (Fs (Fs (Fg (lv S (Rm (S.tm rfl)) rfl ?_)))));clear S;intro a S
 refine lv S (rn_lenT sl_26 (S.tm rfl) (slc_len By)) rfl ?_;clear S;intro a S
 refine lv S (Rm (S.tm rfl)) rfl ?_;clear S;intro a S
 refine lv S (rn_lenT sl_26 (S.tm rfl) (slc_len Cd)) rfl ?_;clear S;intro a S
 refine lv S (rn_neq (S.tm rfl) (S.tm rfl)) rfl ?_;clear S;intro a S
 refine Ld (Tn (f_cond (S.tm rfl) (fun hb1 => ?_) (fun hb1 => ?_)))
 ·replace h := iteT h hb1
  refine Fs (Fg (lv S (Ra rfl) rfl ?_));clear S;intro a S
  refine Ld (Tn (wp_ret (then_r ?_)))
  obtain rfl := Option.some.inj h
  exact f_ret S Tryz.results11 rfl rfl
 ·replace h := iteF h hb1
  refine wp_skip (Tn (Fs (Fs (Fg (lv S (Rm (S.tm rfl)) rfl ?_)))));clear S;intro a S
  refine lv S (rn_lenT sl_26 (S.tm rfl) (slc_len By)) rfl ?_;clear S;intro a S
  refine lv S (Rm rfl) rfl ?_;clear S;intro a S
  refine Ld (Tn ?_)
  replace S := S.nk [] [(0, Bo), (1, Bp), (12, iV (Bq.length : Int)), (13, iV 0)] [] rfl (subR rfl)
  obtain ⟨j1, hj1, h⟩ := joinE h
  refine f_join (fun a w' => j1 = some r ∧ Sx w [] nov [] [] 26 a w') ?_ ?_
  ·refine wp_block (f_loop (fun (ys1 : List GScored) a w' => ∃ i1 : Nat, (∃ dn, Bq = dn ++ ys1 ∧ dn.length = i1) ∧ slices_Equal_Scored_l1 Ca j1 ys1 i1 = some r ∧ Sx w [] nov [] [(0, Bo), (1, Bp), (12, iV (Bq.length : Int)), (13, iV (i1 : Int))] 26 a w') List.length Bq ⟨0, ⟨[], rfl, rfl⟩, h, S.nf [] rfl (subR rfl)⟩ ?_)
   clear S h;rintro ys1 a w1 ⟨i1, ⟨dn, hd1, hi1⟩, h, S⟩
   cases ys1 with
   | nil =>
    rw [slices_Equal_Scored_l1.eq_1] at h
    refine Fs (Fg (lv S (rn_lss (S.tm rfl) (S.tm rfl)) rfl ?_));clear S;intro a S
    refine Ld ?_
    replace S := S.nk [] [(0, Bo), (1, Bp), (12, iV (Bq.length : Int)), (13, iV (i1 : Int)), (14, bV (decide ((i1 : Int) < (Bq.length : Int))))] [] rfl (subR rfl)
    refine Tn (Fs (wp_cond_false ((S.tm rfl).trans (congrArg Value.bool (rng_nil hd1 hi1))) (wp_exit (then_x (then_x (x_same ?_))))))
    refine Tn ?_
    exact ⟨h, S.nf [] rfl trivial⟩
   | cons y1 ys1 =>
    rw [slices_Equal_Scored_l1.eq_2] at h
    refine Fs (Fg (lv S (rn_lss (S.tm rfl) (S.tm rfl)) rfl ?_));clear S;intro a S
    refine Ld ?_
    replace S := S.nk [] [(0, Bo), (1, Bp), (12, iV (Bq.length : Int)), (13, iV (i1 : Int)), (14, bV (decide ((i1 : Int) < (Bq.length : Int))))] [] rfl (subR rfl)
    refine Tn (Fs (wp_cond_true ((S.tm rfl).trans (congrArg Value.bool (rng_cons hd1 hi1))) (wp_skip (Tn (Fs (wp_block ?_))))))
    refine Fs (Fg (lv S (Rm (S.tm rfl)) rfl ?_));clear S;intro a S
    refine lv S (Ra (S.tm rfl)) rfl ?_;clear S;intro a S
    refine Ld (Tn (Fs (d_region [] ([]) Tryz.mixed S rfl (by kernel_rfl) ?_)));clear S;intro w3 hk1 hsel S
    refine d_rest [0, 1, 2, 3, 4, 5, 6, 7, 8] hsel (by kernel_rfl) rfl ?_
    clear hsel
    refine s_lv S rfl (Rm (S.tm rfl)) rfl ?_;clear S;intro a S
    refine s_lv S rfl (Rm (S.tm rfl)) rfl ?_;clear S;intro a S
    obtain ⟨b1, o1, hm1, hr1⟩ := rn_indexT (a := a) (x := .tmp 16) (y := .tmp 17) (ty := 0) sl_26 By (get_mid hd1 hi1) rfl (S.tm rfl) (S.tm rfl)
    refine s_lv S rfl (hr1 _) rfl ?_;clear S;intro a S
    clear hr1
    refine s_lv S rfl (rn_ldA Tryz.isAgg38 Tryz.sizeOf38 (off := o1) (o := 0) (part := (GScored.enc y1)) rfl rfl (S.tm rfl) (hm1.at S.emb0)) rfl ?_;clear S;intro a S
    refine s_lv S rfl (Rm (S.tm rfl)) rfl ?_;clear S;intro a S
    refine s_lv S rfl (Rm (S.tm rfl)) rfl ?_;clear S;intro a S
    obtain ⟨hc1, h⟩ := chkE h
    obtain ⟨b2, o2, hm2, hr2⟩ := rn_indexT (a := a) (x := .tmp 20) (y := .tmp 21) (ty := 0) sl_26 Cd (inB_get hc1).1 (inB_get hc1).2 (S.tm rfl) (S.tm rfl)
    refine s_lv S rfl (hr2 _) rfl ?_;clear S;intro a S
    clear hr2
    refine s_lv S rfl (rn_ldA Tryz.isAgg38 Tryz.sizeOf38 (off := o2) (o := 0) (part := (GScored.enc (nth Ca (i1 : Int)))) rfl rfl (S.tm rfl) (hm2.at S.emb0)) rfl ?_;clear S;intro a S
    refine s_lv S rfl (rn_neq_38 (m := y1) (n := (nth Ca (i1 : Int))) (S.tm rfl) (S.tm rfl)) rfl ?_;clear S;intro a S
    refine s_done ?_
    replace S := S.nk [] [(0, Bo), (1, Bp), (12, iV (Bq.length : Int)), (13, iV (i1 : Int)), (24, bV (!decide (y1 = (nth Ca (i1 : Int)))))] [] rfl (subR rfl)
    refine Tn (f_cond (S.tm rfl) (fun hb2 => ?_) (fun hb2 => ?_))
    ·replace h := iteT h hb2
     refine Fs (Fg (lv S (Ra rfl) rfl ?_));clear S;intro a S
     refine Ld (Tn (wp_ret (blk_r (then_r (then_r (blk_r ?_))))))
     refine then_r (then_r ?_)
     obtain rfl := Option.some.inj h
     exact f_ret S Tryz.results11 rfl rfl
    ·replace h := iteF h hb2
     refine wp_skip (blk_n (Tn (Fg (lv S (rn_add (S.tm rfl) rfl) rfl ?_))));clear S;intro a S
     refine lv S (Rm (S.tm rfl)) rfl ?_;clear S;intro a S
     refine Ld (Tn ?_)
     exact ⟨ys1, ⟨i1 + 1, ⟨_, (hd1).trans (List.append_cons _ _ _), by simp [hi1]⟩, h, S.nf [] rfl ⟨rfl, rfl, rfl, (congrArg (fun z => some (Value.int .i64 z)) (rng_next hd1 hi1 (slc_max By))), trivial⟩⟩, Nat.lt_succ_self _⟩
  clear S h;rintro a w2 ⟨h, S⟩;rw [hj1] at h;clear hj1 j1
  refine Tn (Fs (Fg (lv S (Ra rfl) rfl ?_)));clear S;intro a S
  refine Ld (Tn (wp_ret ?_))
  obtain rfl := Option.some.inj h
  exact f_ret S Tryz.results11 rfl rfl
theorem timing_IsTime_ok (w : World) (Ax : Int) (r : Bool) (h : timing_IsTime Ax = r) :
    Calls Tryz.prog 65 [iV Ax].toArray w (Ret w [] fun _ v _ => v = bV r) := by
 refine f_enter [] [] Tryz.func65 rfl Tryz.ntmps65 rfl (by simp) (by simp [fps]) (by simp [fps]) fun a S => ?_
 unfold timing_IsTime at h
 replace S := S.nk [] [(0, iV Ax)] [] rfl ⟨rfl, trivial⟩
 refine Fs (Fg (lv S (Ra rfl) rfl ?_));clear S;intro a S
 refine Ld (Tn (Fs (Fg (lv S (Rm (S.tm rfl)) rfl ?_))));clear S;intro a S
 refine l_enter S (fun _ => run_call (vs := [iV Ax, iV 1, iV 360000]) ⟨(S.tm rfl), rfl, rfl, trivial⟩ Tryz.call46) (words_Within_ok _ Ax 1 360000 _ rfl) rfl ?_;clear S;intro v1 a w1 hv1 hk1 hn1 S
 subst hv1
 refine lv S (Ra (S.tm rfl)) rfl ?_;clear S;intro a S
 refine Ld (Tn (wp_ret ?_))
 subst h
 exact f_ret S Tryz.results65 rfl rfl
set_option maxRecDepth 20000 in
theorem points_CheckBase_ok (w : World) (V : Value) (Z : List GBase) (Af : Slc (view w []) 2 V (Z.map GBase.enc)) (r : Int) (h : points_CheckBase Z = some r) :
    Calls Tryz.prog 63 [V].toArray w (Ret w [] fun _ v _ => v = iV r) := by
 refine f_enter [] [] Tryz.func63 rfl Tryz.ntmps63 rfl (by simp) (by simp [fps]) (by simp [fps]) fun a S => ?_
 unfold points_CheckBase at h
 replace S := S.nk [] [(0, V)] [] rfl ⟨rfl, trivial⟩
 refine Fs (Fg (lv S (Ra rfl) rfl ?_));clear S;intro a S
 refine Ld (Tn (Fs (Fs (Fg (lv S (Rm (S.tm rfl)) rfl ?_)))));clear S;intro a S
 refine lv S (rn_lenT sl_75 (S.tm rfl) (slc_len Af)) rfl ?_;clear S;intro a S
 refine lv S (rn_gtr (S.tm rfl) rfl) rfl ?_;clear S;intro a S
 refine Ld (Tn (f_cond (S.tm rfl) (fun hb1 => ?_) (fun hb1 => ?_)))
 ·replace h := iteT h hb1
  refine Fs (Fg (lv S (Ra rfl) rfl ?_));clear S;intro a S
  refine Ld (Tn (wp_ret (then_r ?_)))
  obtain rfl := Option.some.inj h
  exact f_ret S Tryz.results63 rfl rfl
 ·replace h := iteF h hb1
  refine wp_skip (Tn (Fs (Fs (Fg (lv S (Rm (S.tm rfl)) rfl ?_)))));clear S;intro a S
  refine lv S (rn_lenT sl_75 (S.tm rfl) (slc_len Af)) rfl ?_;clear S;intro a S
  refine lv S (Rm rfl) rfl ?_;clear S;intro a S
  refine Ld (Tn ?_)
  replace S := S.nk [] [(0, V), (8, V), (9, iV (Z.length : Int)), (10, iV 0)] [] rfl (subR rfl)
  obtain ⟨j1, hj1, h⟩ := joinE h
  refine f_join (fun a w' => j1 = some r ∧ Sx w [] nov [] [] 40 a w') ?_ ?_
  ·refine wp_block (f_loop (fun (ys1 : List GBase) a w' => ∃ i1 : Nat, (∃ dn, Z = dn ++ ys1 ∧ dn.length = i1) ∧ points_CheckBase_l1 Z j1 ys1 i1 = some r ∧ Sx w [] nov [] [(0, V), (8, V), (9, iV (Z.length : Int)), (10, iV (i1 : Int))] 40 a w') List.length Z ⟨0, ⟨[], rfl, rfl⟩, h, S.nf [] rfl (subR rfl)⟩ ?_)
   clear S h;rintro ys1 a w1 ⟨i1, ⟨dn, hd1, hi1⟩, h, S⟩
   cases ys1 with
   | nil =>
    rw [points_CheckBase_l1.eq_1] at h
    refine Fs (Fg (lv S (rn_lss (S.tm rfl) (S.tm rfl)) rfl ?_));clear S;intro a S
    refine Ld ?_
    replace S := S.nk [] [(0, V), (8, V), (9, iV (Z.length : Int)), (10, iV (i1 : Int)), (11, bV (decide ((i1 : Int) < (Z.length : Int))))] [] rfl (subR rfl)
    refine Tn (Fs (wp_cond_false ((S.tm rfl).trans (congrArg Value.bool (rng_nil hd1 hi1))) (wp_exit (then_x (then_x (x_same ?_))))))
    refine Tn ?_
    exact ⟨h, S.nf [] rfl trivial⟩
   | cons y1 ys1 =>
    rw [points_CheckBase_l1.eq_2] at h
    refine Fs (Fg (lv S (rn_lss (S.tm rfl) (S.tm rfl)) rfl ?_));clear S;intro a S
    refine Ld ?_
    replace S := S.nk [] [(0, V), (8, V), (9, iV (Z.length : Int)), (10, iV (i1 : Int)), (11, bV (decide ((i1 : Int) < (Z.length : Int))))] [] rfl (subR rfl)
    refine Tn (Fs (wp_cond_true ((S.tm rfl).trans (congrArg Value.bool (rng_cons hd1 hi1))) (wp_skip (Tn (Fs (wp_block ?_))))))
    refine Fs (Fg (lv S (Rm (S.tm rfl)) rfl ?_));clear S;intro a S
    obtain ⟨b1, o1, hm1, hr1⟩ := rn_indexT (a := a) (x := .tmp 8) (y := .tmp 10) (ty := 0) sl_75 Af (get_mid hd1 hi1) rfl (S.tm rfl) (S.tm rfl)
    refine lv S (hr1 _) rfl ?_;clear S;intro a S
    clear hr1
    refine lv S (rn_ldA Tryz.isAgg74 Tryz.sizeOf74 (off := o1) (o := 0) (part := (GBase.enc y1)) rfl rfl (S.tm rfl) (hm1.at S.emb0)) rfl ?_;clear S;intro a S
    refine l_alloc S Tryz.zeroValue74 (cs := [sV k_empty, iV 0]) rfl rfl ?_;clear S;intro a w3 b2 hz1 hk1 S
    refine lv S (Ra (S.tm rfl)) rfl ?_;clear S;intro a S
    refine l_store S (S.tm rfl) (S.tm rfl) (i := 0) (off := 0) rfl Tryz.sizeOf74 (vs := (GBase.enc y1)) rfl rfl rfl rfl ?_;clear S;intro w4 hk2 S
    refine Ld (Tn (wp_block (Fs (Fg (lv S (rn_fld fa_74_0 (S.tm rfl)) rfl ?_)))));clear S;intro a S
    refine lv S (rn_load Tryz.isAgg9 (S.tm rfl) (S.cell (i := 0) rfl rfl)) rfl ?_;clear S;intro a S
    obtain ⟨r1, hr2, h⟩ := bindE h
    refine l_enter S (fun _ => run_call (vs := [sV y1.Race]) ⟨(S.tm rfl), trivial⟩ Tryz.call45) (words_IsKey_ok _ y1.Race _ hr2) rfl ?_;clear S;intro v1 a w5 hv1 hk3 hn1 S
    subst hv1
    refine lv S (rn_not (S.tm rfl)) rfl ?_;clear S;intro a S
    refine lv S (Ra (S.tm rfl)) rfl ?_;clear S;intro a S
    refine Ld ?_
    replace S := S.nk [.blk b2 (GBase.enc y1) 74] [(0, V), (3, iV (i1 : Int)), (4, .pointer (some ⟨b2, 0, none⟩)), (8, V), (9, iV (Z.length : Int)), (10, iV (i1 : Int)), (15, bV (!r1))] [true] rfl (subR rfl)
    refine Tn (f_cond (S.tm rfl) (fun hb2 => ?_) (fun hb2 => ?_))
    ·replace h := iteT h hb2
     refine Fs (Fg (lv S (Ra rfl) rfl ?_));clear S;intro a S
     refine Ld (Tn (wp_ret (blk_r (blk_r (then_r (then_r ?_))))))
     refine blk_r (then_r (then_r ?_))
     obtain rfl := Option.some.inj h
     exact f_ret S Tryz.results63 rfl rfl
    ·replace h := iteF h hb2
     refine Fs (d_region [] ([]) Tryz.mixed S rfl (by kernel_rfl) ?_);clear S;intro w6 hk4 hsel S
     refine d_rest [0, 1, 2, 3, 4, 5, 6, 7, 8, 9, 10, 11, 12, 13] hsel (by kernel_rfl) rfl ?_
     clear hsel
     refine s_lv S rfl (Rm (S.tm rfl)) rfl ?_;clear S;intro a S
     refine s_lv S rfl (rn_gtr (S.tm rfl) rfl) rfl ?_;clear S;intro a S
     refine s_lv S rfl (Rm (S.tm rfl)) rfl ?_;clear S;intro a S
     obtain ⟨j2, hj2, h⟩ := joinE h
     refine s_cutm 10 (fun a w' => ∃ c1, j2 c1 = some r ∧ Keep [] w6 w' ∧ Sx w [] nov [.blk b2 (GBase.enc y1) 74] [(0, V), (4, .pointer (some ⟨b2, 0, none⟩)), (8, V), (9, iV (Z.length : Int)), (10, iV (i1 : Int)), (33, bV c1)] 40 a w') ?_ ?_
     ·rcases Bool.eq_false_or_eq_true (decide (0 < (i1 : Int))) with hb3 | hb3
      ·replace h := iteT h hb3
       refine s_want S rfl rfl rfl rfl hb3 (s_lv0 S (rn_fld fa_74_0 (S.tm rfl)) rfl ?_);clear S;intro a S
       refine s_want S rfl rfl rfl rfl hb3 (s_lv0 S (rn_load Tryz.isAgg9 (S.tm rfl) (S.cell (i := 0) rfl rfl)) rfl ?_);clear S;intro a S
       refine s_want S rfl rfl rfl rfl hb3 (s_lv0 S (Rm (S.tm rfl)) rfl ?_);clear S;intro a S
       refine s_want S rfl rfl rfl rfl hb3 (s_lv0 S (Rm (S.tm rfl)) rfl ?_);clear S;intro a S
       refine s_want S rfl rfl rfl rfl hb3 (s_lv0 S (rn_sub (S.tm rfl) rfl) rfl ?_);clear S;intro a S
       refine s_want S rfl rfl rfl rfl hb3 ?_
       obtain ⟨hc1, h⟩ := chkE h
       obtain ⟨b3, o2, hm2, hr3⟩ := rn_indexT (a := a) (x := .tmp 26) (y := .tmp 28) (ty := 0) sl_75 Af (inB_get hc1).1 (inB_get hc1).2 (S.tm rfl) (S.tm rfl)
       refine s_lv0 S (hr3 _) rfl ?_;clear S;intro a S
       clear hr3
       refine s_want S rfl rfl rfl rfl hb3 (s_lv0 S (rn_fld fa_74_0 (S.tm rfl)) rfl ?_);clear S;intro a S
       refine s_want S rfl rfl rfl rfl hb3 (s_lv0 S (rn_ld Tryz.isAgg9 (off := o2) (o := 0) (S.tm rfl) (hm2.at S.emb0) rfl) rfl ?_);clear S;intro a S
       refine s_want S rfl rfl rfl rfl hb3 (s_lv0 S (rn_sleq (S.tm rfl) (S.tm rfl)) rfl ?_);clear S;intro a S
       refine s_lv S rfl (rn_and_t hb3 (S.tm rfl) (S.tm rfl)) rfl ?_;clear S;intro a S
       refine s_done ?_
       exact ⟨_, h, Keep.refl _ _, S.nf [true] rfl (subR rfl)⟩
      ·replace h := iteF h hb3
       iterate 9 (refine s_skip S rfl rfl rfl rfl (neq_f hb3) rfl ?_ rfl;clear S;intro a S)
       refine s_lv S rfl (rn_and_f true hb3 (S.tm rfl) rfl) rfl ?_;clear S;intro a S
       refine s_done ?_
       exact ⟨_, h, Keep.refl _ _, S.nf [true] rfl (subR rfl)⟩
     clear S h;rintro a w7 ⟨c1, h, hk5, S⟩;rw [hj2] at h;clear hj2 j2
     refine s_lv S rfl (Ra (S.tm rfl)) rfl ?_;clear S;intro a S
     refine s_done ?_
     replace S := S.nk [.blk b2 (GBase.enc y1) 74] [(0, V), (4, .pointer (some ⟨b2, 0, none⟩)), (8, V), (9, iV (Z.length : Int)), (10, iV (i1 : Int)), (20, bV c1)] [true] rfl (subR rfl)
     refine Tn (f_cond (S.tm rfl) (fun hb4 => ?_) (fun hb4 => ?_))
     ·replace h := iteT h hb4
      refine Fs (Fg (lv S (Ra rfl) rfl ?_));clear S;intro a S
      refine Ld (Tn (wp_ret (blk_r (blk_r (then_r (then_r ?_))))))
      refine blk_r (then_r (then_r ?_))
      obtain rfl := Option.some.inj h
      exact f_ret S Tryz.results63 rfl rfl
     ·replace h := iteF h hb4
      refine Fs (Fg (lv S (rn_fld fa_74_1 (S.tm rfl)) rfl ?_));clear S;intro a S
      refine lv S (rn_load Tryz.isAgg3 (S.tm rfl) (S.cell (i := 0) rfl rfl)) rfl ?_;clear S;intro a S
      refine l_enter S (fun _ => run_call (vs := [iV y1.Time]) ⟨(S.tm rfl), trivial⟩ Tryz.call65) (timing_IsTime_ok _ y1.Time _ rfl) rfl ?_;clear S;intro v2 a w8 hv2 hk6 hn2 S
      subst hv2
      refine lv S (rn_not (S.tm rfl)) rfl ?_;clear S;intro a S
      refine lv S (Ra (S.tm rfl)) rfl ?_;clear S;intro a S
      refine Ld (Tn (f_cond (S.tm rfl) (fun hb5 => ?_) (fun hb5 => ?_)))
      ·replace h := iteT h hb5
       refine Fs (Fg (lv S (Ra rfl) rfl ?_));clear S;intro a S
       refine Ld (Tn (wp_ret (blk_r (blk_r (then_r (then_r ?_))))))
       refine blk_r (then_r (then_r ?_))
       obtain rfl := Option.some.inj h
       exact f_ret S Tryz.results63 rfl rfl
      ·replace h := iteF h hb5
       refine wp_skip (blk_n (blk_n (Tn (Fg (lv S (rn_add (S.tm rfl) rfl) rfl ?_)))));clear S;intro a S
       refine lv S (Rm (S.tm rfl)) rfl ?_;clear S;intro a S
       refine Ld (Tn ?_)
       exact ⟨ys1, ⟨i1 + 1, ⟨_, (hd1).trans (List.append_cons _ _ _), by simp [hi1]⟩, h, S.nf [false] rfl ⟨rfl, rfl, rfl, (congrArg (fun z => some (Value.int .i64 z)) (rng_next hd1 hi1 (slc_max Af))), trivial⟩⟩, Nat.lt_succ_self _⟩
  clear S h;rintro a w2 ⟨h, S⟩;rw [hj1] at h;clear hj1 j1
  refine Tn (Fs (Fg (lv S (Ra rfl) rfl ?_)));clear S;intro a S
  refine Ld (Tn (wp_ret ?_))
  obtain rfl := Option.some.inj h
  exact f_ret S Tryz.results63 rfl rfl
theorem points_baseOf_ok (w : World) (V : Value) (Z : List GBase) (Af : Slc (view w []) 2 V (Z.map GBase.enc)) (Bd : ByteArray) (r : Int) (h : points_baseOf Z Bd = r) :
    Calls Tryz.prog 64 [V, sV Bd].toArray w (Ret w [] fun _ v _ => v = iV r) := by
 refine f_enter [] [] Tryz.func64 rfl Tryz.ntmps64 rfl (by simp) (by simp [fps]) (by simp [fps]) fun a S => ?_
 unfold points_baseOf at h
 replace S := S.nk [] [(0, V), (1, sV Bd)] [] rfl (subR rfl)
 refine Fs (Fg (lv S (Ra rfl) rfl ?_));clear S;intro a S
 refine Ld (Tn (Fs (Fs (Fg (lv S (Rm (S.tm rfl)) rfl ?_)))));clear S;intro a S
 refine lv S (rn_lenT sl_75 (S.tm rfl) (slc_len Af)) rfl ?_;clear S;intro a S
 refine lv S (Rm rfl) rfl ?_;clear S;intro a S
 refine Ld (Tn ?_)
 replace S := S.nk [] [(1, sV Bd), (7, V), (8, iV (Z.length : Int)), (9, iV 0)] [] rfl (subR rfl)
 obtain ⟨j1, hj1, h⟩ := joinE h
 refine f_join (fun a w' => j1 = r ∧ Sx w [] nov [] [] 20 a w') ?_ ?_
 ·refine wp_block (f_loop (fun (ys1 : List GBase) a w' => ∃ i1 : Nat, (∃ dn, Z = dn ++ ys1 ∧ dn.length = i1) ∧ points_baseOf_l1 Bd j1 ys1 i1 = r ∧ Sx w [] nov [] [(1, sV Bd), (7, V), (8, iV (Z.length : Int)), (9, iV (i1 : Int))] 20 a w') List.length Z ⟨0, ⟨[], rfl, rfl⟩, h, S.nf [] rfl (subR rfl)⟩ ?_)
  clear S h;rintro ys1 a w1 ⟨i1, ⟨dn, hd1, hi1⟩, h, S⟩
  cases ys1 with
  | nil =>
   rw [points_baseOf_l1.eq_1] at h
   refine Fs (Fg (lv S (rn_lss (S.tm rfl) (S.tm rfl)) rfl ?_));clear S;intro a S
   refine Ld ?_
   replace S := S.nk [] [(1, sV Bd), (7, V), (8, iV (Z.length : Int)), (9, iV (i1 : Int)), (10, bV (decide ((i1 : Int) < (Z.length : Int))))] [] rfl (subR rfl)
   refine Tn (Fs (wp_cond_false ((S.tm rfl).trans (congrArg Value.bool (rng_nil hd1 hi1))) (wp_exit (then_x (then_x (x_same ?_))))))
   refine Tn ?_
   exact ⟨h, S.nf [] rfl trivial⟩
  | cons y1 ys1 =>
   rw [points_baseOf_l1.eq_2] at h
   refine Fs (Fg (lv S (rn_lss (S.tm rfl) (S.tm rfl)) rfl ?_));clear S;intro a S
   refine Ld ?_
   replace S := S.nk [] [(1, sV Bd), (7, V), (8, iV (Z.length : Int)), (9, iV (i1 : Int)), (10, bV (decide ((i1 : Int) < (Z.length : Int))))] [] rfl (subR rfl)
   refine Tn (Fs (wp_cond_true ((S.tm rfl).trans (congrArg Value.bool (rng_cons hd1 hi1))) (wp_skip (Tn (Fs (wp_block ?_))))))
   refine Fs (Fg ?_)
   obtain ⟨b1, o1, hm1, hr1⟩ := rn_indexT (a := a) (x := .tmp 7) (y := .tmp 9) (ty := 0) sl_75 Af (get_mid hd1 hi1) rfl (S.tm rfl) (S.tm rfl)
   refine lv S (hr1 _) rfl ?_;clear S;intro a S
   clear hr1
   refine lv S (rn_ldA Tryz.isAgg74 Tryz.sizeOf74 (off := o1) (o := 0) (part := (GBase.enc y1)) rfl rfl (S.tm rfl) (hm1.at S.emb0)) rfl ?_;clear S;intro a S
   refine l_alloc S Tryz.zeroValue74 (cs := [sV k_empty, iV 0]) rfl rfl ?_;clear S;intro a w3 b2 hz1 hk1 S
   refine l_store S (S.tm rfl) (S.tm rfl) (i := 0) (off := 0) rfl Tryz.sizeOf74 (vs := (GBase.enc y1)) rfl rfl rfl rfl ?_;clear S;intro w4 hk2 S
   refine Ld (Tn (Fs (Fg (lv S (rn_fld fa_74_0 (S.tm rfl)) rfl ?_))));clear S;intro a S
   refine lv S (rn_load Tryz.isAgg9 (S.tm rfl) (S.cell (i := 0) rfl rfl)) rfl ?_;clear S;intro a S
   refine lv S (Rm (S.tm rfl)) rfl ?_;clear S;intro a S
   refine lv S (rn_seql (S.tm rfl) (S.tm rfl)) rfl ?_;clear S;intro a S
   refine Ld (Tn (f_cond (S.tm rfl) (fun hb1 => ?_) (fun hb1 => ?_)))
   ·replace h := iteT h hb1
    refine Fs (Fg (lv S (rn_fld fa_74_1 (S.tm rfl)) rfl ?_));clear S;intro a S
    refine lv S (rn_load Tryz.isAgg3 (S.tm rfl) (S.cell (i := 0) rfl rfl)) rfl ?_;clear S;intro a S
    refine lv S (Ra (S.tm rfl)) rfl ?_;clear S;intro a S
    refine Ld ?_
    replace S := S.nk [] [(4, iV y1.Time)] [false] rfl ⟨rfl, trivial⟩
    refine Tn (wp_ret (blk_r (then_r (then_r (blk_r (then_r ?_))))))
    refine then_r ?_
    subst h
    exact f_ret S Tryz.results64 rfl rfl
   ·replace h := iteF h hb1
    refine wp_skip (blk_n (Tn (Fg (lv S (rn_add (S.tm rfl) rfl) rfl ?_))));clear S;intro a S
    refine lv S (Rm (S.tm rfl)) rfl ?_;clear S;intro a S
    refine Ld (Tn ?_)
    exact ⟨ys1, ⟨i1 + 1, ⟨_, (hd1).trans (List.append_cons _ _ _), by simp [hi1]⟩, h, S.nf [false] rfl ⟨rfl, rfl, rfl, (congrArg (fun z => some (Value.int .i64 z)) (rng_next hd1 hi1 (slc_max Af))), trivial⟩⟩, Nat.lt_succ_self _⟩
 clear S h;rintro a w2 ⟨h, S⟩;rw [hj1] at h;clear hj1 j1
 refine Tn (Fs (Fg (lv S (Ra rfl) rfl ?_)));clear S;intro a S
 refine Ld (Tn (wp_ret ?_))
 subst h
 exact f_ret S Tryz.results64 rfl rfl
theorem bits_Mul64_ok (w : World) (Aq : Int) (Ah : Int) (r : Int × Int) (h : bits_Mul64 Aq Ah = r) :
    Calls Tryz.prog 93 [.int .u64 Aq, .int .u64 Ah].toArray w (Ret w [] fun _ v _ => v = .tuple #[.int .u64 r.1, .int .u64 r.2]) := by
 refine f_enter [] [] Tryz.func93 rfl Tryz.ntmps93 rfl (by simp) (by simp [fps]) (by simp [fps]) fun a S => ?_
 unfold bits_Mul64 at h
 replace S := S.nk [] [(0, .int .u64 Aq), (1, .int .u64 Ah)] [] rfl (subR rfl)
 refine Fs (Fg (lv S (Ra rfl) rfl ?_));clear S;intro a S
 refine lv S (Ra rfl) rfl ?_;clear S;intro a S
 refine Ld (Tn (Fs (Fg (lv S (Rm (S.tm rfl)) rfl ?_))));clear S;intro a S
 refine lv S (rn_and_ (S.tm rfl) rfl) rfl ?_;clear S;intro a S
 refine lv S (Ra (S.tm rfl)) rfl ?_;clear S;intro a S
 refine Ld (Tn (Fs (Fg (lv S (Rm (S.tm rfl)) rfl ?_))));clear S;intro a S
 refine lv S (rn_shr (S.tm rfl) rfl (by decide)) rfl ?_;clear S;intro a S
 refine lv S (Ra (S.tm rfl)) rfl ?_;clear S;intro a S
 refine Ld (Tn (Fs (Fg (lv S (Rm (S.tm rfl)) rfl ?_))));clear S;intro a S
 refine lv S (rn_and_ (S.tm rfl) rfl) rfl ?_;clear S;intro a S
 refine lv S (Ra (S.tm rfl)) rfl ?_;clear S;intro a S
 refine Ld (Tn (Fs (Fg (lv S (Rm (S.tm rfl)) rfl ?_))));clear S;intro a S
 refine lv S (rn_shr (S.tm rfl) rfl (by decide)) rfl ?_;clear S;intro a S
 refine lv S (Ra (S.tm rfl)) rfl ?_;clear S;intro a S
 refine Ld ?_
 replace S := S.nk [] [(0, .int .u64 Aq), (1, .int .u64 Ah), (6, .int .u64 (bitAnd .u64 Aq 4294967295)), (7, .int .u64 (bitShr .u64 Aq 32)), (8, .int .u64 (bitAnd .u64 Ah 4294967295)), (9, .int .u64 (bitShr .u64 Ah 32))] [] rfl (subR rfl)
 refine Tn (Fs (Fg (lv S (Rm (S.tm rfl)) rfl ?_)));clear S;intro a S
 refine lv S (Rm (S.tm rfl)) rfl ?_;clear S;intro a S
 refine lv S (rn_mulk (S.tm rfl) (S.tm rfl)) rfl ?_;clear S;intro a S
 refine lv S (Ra (S.tm rfl)) rfl ?_;clear S;intro a S
 refine Ld (Tn (Fs (Fg (lv S (Rm (S.tm rfl)) rfl ?_))));clear S;intro a S
 refine lv S (Rm (S.tm rfl)) rfl ?_;clear S;intro a S
 refine lv S (rn_mulk (S.tm rfl) (S.tm rfl)) rfl ?_;clear S;intro a S
 refine lv S (Rm (S.tm rfl)) rfl ?_;clear S;intro a S
 refine lv S (rn_shr (S.tm rfl) rfl (by decide)) rfl ?_;clear S;intro a S
 refine lv S (rn_addk (S.tm rfl) (S.tm rfl)) rfl ?_;clear S;intro a S
 refine lv S (Ra (S.tm rfl)) rfl ?_;clear S;intro a S
 refine Ld ?_
 replace S := S.nk [] [(0, .int .u64 Aq), (1, .int .u64 Ah), (6, .int .u64 (bitAnd .u64 Aq 4294967295)), (7, .int .u64 (bitShr .u64 Aq 32)), (9, .int .u64 (bitShr .u64 Ah 32)), (11, .int .u64 (IntKind.wrap .u64 ((IntKind.wrap .u64 ((bitShr .u64 Aq 32) * (bitAnd .u64 Ah 4294967295))) + (bitShr .u64 (IntKind.wrap .u64 ((bitAnd .u64 Aq 4294967295) * (bitAnd .u64 Ah 4294967295))) 32))))] [] rfl (subR rfl)
 refine Tn (Fs (Fg (lv S (Rm (S.tm rfl)) rfl ?_)));clear S;intro a S
 refine lv S (rn_and_ (S.tm rfl) rfl) rfl ?_;clear S;intro a S
 refine lv S (Ra (S.tm rfl)) rfl ?_;clear S;intro a S
 refine Ld (Tn (Fs (Fg (lv S (Rm (S.tm rfl)) rfl ?_))));clear S;intro a S
 refine lv S (rn_shr (S.tm rfl) rfl (by decide)) rfl ?_;clear S;intro a S
 refine lv S (Ra (S.tm rfl)) rfl ?_;clear S;intro a S
 refine Ld (Tn (Fs (Fg (lv S (Rm (S.tm rfl)) rfl ?_))));clear S;intro a S
 refine lv S (Rm (S.tm rfl)) rfl ?_;clear S;intro a S
 refine lv S (Rm (S.tm rfl)) rfl ?_;clear S;intro a S
 refine lv S (rn_mulk (S.tm rfl) (S.tm rfl)) rfl ?_;clear S;intro a S
 refine lv S (rn_addk (S.tm rfl) (S.tm rfl)) rfl ?_;clear S;intro a S
 refine lv S (Ra (S.tm rfl)) rfl ?_;clear S;intro a S
 refine Ld ?_
 replace S := S.nk [] [(0, .int .u64 Aq), (1, .int .u64 Ah), (7, .int .u64 (bitShr .u64 Aq 32)), (9, .int .u64 (bitShr .u64 Ah 32)), (12, .int .u64 (IntKind.wrap .u64 ((bitAnd .u64 (IntKind.wrap .u64 ((IntKind.wrap .u64 ((bitShr .u64 Aq 32) * (bitAnd .u64 Ah 4294967295))) + (bitShr .u64 (IntKind.wrap .u64 ((bitAnd .u64 Aq 4294967295) * (bitAnd .u64 Ah 4294967295))) 32))) 4294967295) + (IntKind.wrap .u64 ((bitAnd .u64 Aq 4294967295) * (bitShr .u64 Ah 32)))))), (13, .int .u64 (bitShr .u64 (IntKind.wrap .u64 ((IntKind.wrap .u64 ((bitShr .u64 Aq 32) * (bitAnd .u64 Ah 4294967295))) + (bitShr .u64 (IntKind.wrap .u64 ((bitAnd .u64 Aq 4294967295) * (bitAnd .u64 Ah 4294967295))) 32))) 32))] [] rfl (subR rfl)
 refine Tn (Fs (Fg (lv S (Rm (S.tm rfl)) rfl ?_)));clear S;intro a S
 refine lv S (Rm (S.tm rfl)) rfl ?_;clear S;intro a S
 refine lv S (rn_mulk (S.tm rfl) (S.tm rfl)) rfl ?_;clear S;intro a S
 refine lv S (Rm (S.tm rfl)) rfl ?_;clear S;intro a S
 refine lv S (rn_addk (S.tm rfl) (S.tm rfl)) rfl ?_;clear S;intro a S
 refine lv S (Rm (S.tm rfl)) rfl ?_;clear S;intro a S
 refine lv S (rn_shr (S.tm rfl) rfl (by decide)) rfl ?_;clear S;intro a S
 refine lv S (rn_addk (S.tm rfl) (S.tm rfl)) rfl ?_;clear S;intro a S
 refine lv S (Ra (S.tm rfl)) rfl ?_;clear S;intro a S
 refine Ld ?_
 replace S := S.nk [] [(0, .int .u64 Aq), (1, .int .u64 Ah), (4, .int .u64 (IntKind.wrap .u64 ((IntKind.wrap .u64 ((IntKind.wrap .u64 ((bitShr .u64 Aq 32) * (bitShr .u64 Ah 32))) + (bitShr .u64 (IntKind.wrap .u64 ((IntKind.wrap .u64 ((bitShr .u64 Aq 32) * (bitAnd .u64 Ah 4294967295))) + (bitShr .u64 (IntKind.wrap .u64 ((bitAnd .u64 Aq 4294967295) * (bitAnd .u64 Ah 4294967295))) 32))) 32))) + (bitShr .u64 (IntKind.wrap .u64 ((bitAnd .u64 (IntKind.wrap .u64 ((IntKind.wrap .u64 ((bitShr .u64 Aq 32) * (bitAnd .u64 Ah 4294967295))) + (bitShr .u64 (IntKind.wrap .u64 ((bitAnd .u64 Aq 4294967295) * (bitAnd .u64 Ah 4294967295))) 32))) 4294967295) + (IntKind.wrap .u64 ((bitAnd .u64 Aq 4294967295) * (bitShr .u64 Ah 32))))) 32))))] [] rfl (subR rfl)
 refine Tn (Fs (Fg (lv S (Rm (S.tm rfl)) rfl ?_)));clear S;intro a S
 refine lv S (Rm (S.tm rfl)) rfl ?_;clear S;intro a S
 refine lv S (rn_mulk (S.tm rfl) (S.tm rfl)) rfl ?_;clear S;intro a S
 refine lv S (Ra (S.tm rfl)) rfl ?_;clear S;intro a S
 refine Ld (Tn (wp_ret ?_))
 subst h
 exact f_ret2 S Tryz.results93 rfl rfl rfl
theorem bits_LeadingZeros64_ok (w : World) (Aq : Int) (r : Int) (h : bits_LeadingZeros64 Aq = some r) :
    Calls Tryz.prog 127 [.int .u64 Aq].toArray w (Ret w [] fun _ v _ => v = iV r) := by
 refine f_enter [] [] Tryz.func127 rfl Tryz.ntmps127 rfl (by simp) (by simp [fps]) (by simp [fps]) fun a S => ?_
 unfold bits_LeadingZeros64 at h
 replace S := S.nk [] [(0, .int .u64 Aq)] [] rfl ⟨rfl, trivial⟩
 refine Fs (Fg (lv S (Ra rfl) rfl ?_));clear S;intro a S
 refine Ld (Tn (Fs (Fg (lv S (Rm (S.tm rfl)) rfl ?_))));clear S;intro a S
 obtain ⟨r1, hr1, h⟩ := bindE h
 refine l_enter S (fun _ => run_call (vs := [.int .u64 Aq]) ⟨(S.tm rfl), trivial⟩ Tryz.call104) (bits_Len64_ok _ Aq _ hr1) rfl ?_;clear S;intro v1 a w1 hv1 hk1 hn1 S
 subst hv1
 refine lv S (rn_sub rfl (S.tm rfl)) rfl ?_;clear S;intro a S
 refine lv S (Ra (S.tm rfl)) rfl ?_;clear S;intro a S
 refine Ld (Tn (wp_ret ?_))
 obtain rfl := Option.some.inj h
 exact f_ret S Tryz.results127 rfl rfl
end Go.Proofs.YtcnneeipmadakaaGreatDoor
