/- Each Go function computes its plain twin, by program. -/
import Derived.Test.YtdfmfioglndohaaGreatDoorWk2
namespace Go.Proofs.YtdfmfioglndohaaGreatDoor
open Go
theorem points_byTime_ok (w : World) (p_base : Int) (p_time : Int) (r : Int) (h : points_byTime p_base p_time = some r) :
    Calls Tryz.prog 50 [iV p_base, iV p_time].toArray w (Ret w [] fun _ v _ => v = iV r) := by
 refine f_enter [] [] Tryz.func50 rfl Tryz.ntmps50 rfl (by simp) (by simp [fps]) (by simp [fps]) fun a S => ?_
 unfold points_byTime at h
 replace S := S.nk [] [(0, iV p_base), (1, iV p_time)] [] rfl (subR rfl)
 refine f_seq (f_region (lv S (rn_assign rfl) rfl ?_)); clear S; intro a S
 refine l_done (then_n (f_seq (f_region (lv S (rn_move (S.tm rfl)) rfl ?_)))); clear S; intro a S
 refine lv S (rn_conv Tryz.underlying3 Tryz.underlying117 (S.tm rfl)) rfl ?_; clear S; intro a S
 refine lv S (rn_move (S.tm rfl)) rfl ?_; clear S; intro a S
 refine lv S (rn_conv Tryz.underlying3 Tryz.underlying117 (S.tm rfl)) rfl ?_; clear S; intro a S
 refine lv S (rn_assign (S.tm rfl)) rfl ?_; clear S; intro a S
 refine lv S (rn_assign (S.tm rfl)) rfl ?_; clear S; intro a S
 refine l_done (then_n (f_seq (f_region (lv S (rn_move (S.tm rfl)) rfl ?_)))); clear S; intro a S
 refine lv S (rn_move (S.tm rfl)) rfl ?_; clear S; intro a S
 refine lv S (rn_mulk (S.tm rfl) (S.tm rfl)) rfl ?_; clear S; intro a S
 refine lv S (rn_move (S.tm rfl)) rfl ?_; clear S; intro a S
 refine lv S (rn_mulk (S.tm rfl) (S.tm rfl)) rfl ?_; clear S; intro a S
 refine l_enter S (fun _ => run_call (vs := [.int .u64 (IntKind.wrap .u64 ((IntKind.wrap .u64 ((IntKind.wrap .u64 p_base) * (IntKind.wrap .u64 p_base))) * (IntKind.wrap .u64 p_base))), .int .u64 1000]) ⟨(S.tm rfl), rfl, trivial⟩ Tryz.call73) (bits_Mul64_ok _ (IntKind.wrap .u64 ((IntKind.wrap .u64 ((IntKind.wrap .u64 p_base) * (IntKind.wrap .u64 p_base))) * (IntKind.wrap .u64 p_base))) 1000 _ rfl) rfl ?_; clear S; intro v1 a w1 hv1 hk1 hn1 S
 subst hv1
 refine lv S (rn_move (S.tm rfl)) rfl ?_; clear S; intro a S
 refine lv S (rn_extract (S.tm rfl) rfl) rfl ?_; clear S; intro a S
 refine lv S (rn_extract (S.tm rfl) rfl) rfl ?_; clear S; intro a S
 refine lv S (rn_assign (S.tm rfl)) rfl ?_; clear S; intro a S
 refine lv S (rn_assign (S.tm rfl)) rfl ?_; clear S; intro a S
 refine l_done ?_
 replace S := S.nk [] [(6, .int .u64 (IntKind.wrap .u64 p_time)), (7, .int .u64 ((bits_Mul64 (IntKind.wrap .u64 ((IntKind.wrap .u64 ((IntKind.wrap .u64 p_base) * (IntKind.wrap .u64 p_base))) * (IntKind.wrap .u64 p_base))) 1000).1)), (8, .int .u64 ((bits_Mul64 (IntKind.wrap .u64 ((IntKind.wrap .u64 ((IntKind.wrap .u64 p_base) * (IntKind.wrap .u64 p_base))) * (IntKind.wrap .u64 p_base))) 1000).2))] [] rfl (subR rfl)
 refine then_n (f_seq (f_region (lv S (rn_move (S.tm rfl)) rfl ?_))); clear S; intro a S
 refine lv S (rn_move (S.tm rfl)) rfl ?_; clear S; intro a S
 refine lv S (rn_mulk (S.tm rfl) (S.tm rfl)) rfl ?_; clear S; intro a S
 refine lv S (rn_move (S.tm rfl)) rfl ?_; clear S; intro a S
 refine lv S (rn_mulk (S.tm rfl) (S.tm rfl)) rfl ?_; clear S; intro a S
 refine lv S (rn_assign (S.tm rfl)) rfl ?_; clear S; intro a S
 refine l_done (then_n (f_seq (f_seq (f_region (lv S (rn_move (S.tm rfl)) rfl ?_))))); clear S; intro a S
 refine lv S (rn_move (S.tm rfl)) rfl ?_; clear S; intro a S
 refine lv S (rn_geq (S.tm rfl) (S.tm rfl)) rfl ?_; clear S; intro a S
 refine l_done (then_n (f_cond (S.tm rfl) (fun hb1 => ?_) (fun hb1 => ?_)))
 ·replace h := iteT h hb1
  refine f_seq (f_region (lv S (rn_assign rfl) rfl ?_)); clear S; intro a S
  refine l_done (then_n (wp_ret (then_r ?_)))
  obtain rfl := Option.some.inj h
  exact f_ret S Tryz.results50 rfl rfl
 ·replace h := iteF h hb1
  refine wp_skip (then_n (f_seq (f_region (lv S (rn_move (S.tm rfl)) rfl ?_)))); clear S; intro a S
  refine lv S (rn_move (S.tm rfl)) rfl ?_; clear S; intro a S
  refine lv S (rn_move (S.tm rfl)) rfl ?_; clear S; intro a S
  obtain ⟨r1, hr1, h⟩ := bindE h
  refine l_enter S (fun _ => run_call (vs := [.int .u64 ((bits_Mul64 (IntKind.wrap .u64 ((IntKind.wrap .u64 ((IntKind.wrap .u64 p_base) * (IntKind.wrap .u64 p_base))) * (IntKind.wrap .u64 p_base))) 1000).1), .int .u64 ((bits_Mul64 (IntKind.wrap .u64 ((IntKind.wrap .u64 ((IntKind.wrap .u64 p_base) * (IntKind.wrap .u64 p_base))) * (IntKind.wrap .u64 p_base))) 1000).2), .int .u64 (IntKind.wrap .u64 ((IntKind.wrap .u64 ((IntKind.wrap .u64 p_time) * (IntKind.wrap .u64 p_time))) * (IntKind.wrap .u64 p_time)))]) ⟨(S.tm rfl), (S.tm rfl), (S.tm rfl), trivial⟩ Tryz.call74) (bits_Div64_ok _ ((bits_Mul64 (IntKind.wrap .u64 ((IntKind.wrap .u64 ((IntKind.wrap .u64 p_base) * (IntKind.wrap .u64 p_base))) * (IntKind.wrap .u64 p_base))) 1000).1) ((bits_Mul64 (IntKind.wrap .u64 ((IntKind.wrap .u64 ((IntKind.wrap .u64 p_base) * (IntKind.wrap .u64 p_base))) * (IntKind.wrap .u64 p_base))) 1000).2) (IntKind.wrap .u64 ((IntKind.wrap .u64 ((IntKind.wrap .u64 p_time) * (IntKind.wrap .u64 p_time))) * (IntKind.wrap .u64 p_time))) _ hr1) rfl ?_; clear S; intro v2 a w2 hv2 hk2 hn2 S
  subst hv2
  refine lv S (rn_move (S.tm rfl)) rfl ?_; clear S; intro a S
  refine lv S (rn_extract (S.tm rfl) rfl) rfl ?_; clear S; intro a S
  refine lv S (rn_extract (S.tm rfl) rfl) rfl ?_; clear S; intro a S
  refine lv S (rn_assign (S.tm rfl)) rfl ?_; clear S; intro a S
  refine lv S (rn_assign (S.tm rfl)) rfl ?_; clear S; intro a S
  refine l_done ?_
  replace S := S.nk [] [(9, .int .u64 r1.1)] [] rfl ⟨rfl, trivial⟩
  refine then_n (f_seq (f_region (lv S (rn_move (S.tm rfl)) rfl ?_))); clear S; intro a S
  refine lv S (rn_min2 (S.tm rfl) rfl) rfl ?_; clear S; intro a S
  refine lv S (rn_conv Tryz.underlying117 Tryz.underlying3 (S.tm rfl)) rfl ?_; clear S; intro a S
  refine lv S (rn_assign (S.tm rfl)) rfl ?_; clear S; intro a S
  refine l_done (then_n (wp_ret ?_))
  obtain rfl := Option.some.inj h
  exact f_ret S Tryz.results50 rfl rfl
theorem points_ByTime_ok (w : World) (v_p_l : Value) (p_l : List GBase) (hs_p_l : Slc (view w []) 2 v_p_l (p_l.map GBase.enc)) (p_race : ByteArray) (p_time : Int) (r : Int × Int) (h : points_ByTime p_l p_race p_time = some r) :
    Calls Tryz.prog 26 [v_p_l, sV p_race, iV p_time].toArray w (Ret w [] fun _ v _ => v = .tuple #[iV r.1, iV r.2]) := by
 refine f_enter [] [] Tryz.func26 rfl Tryz.ntmps26 rfl (by simp) (by simp [fps]) (by simp [fps]) fun a S => ?_
 unfold points_ByTime at h
 replace S := S.nk [] [(0, v_p_l), (1, sV p_race), (2, iV p_time)] [] rfl (subR rfl)
 refine f_seq (f_region (lv S (rn_assign rfl) rfl ?_)); clear S; intro a S
 refine lv S (rn_assign rfl) rfl ?_; clear S; intro a S
 refine l_done (then_n (f_seq (f_seq (f_region (lv S (rn_move (S.tm rfl)) rfl ?_))))); clear S; intro a S
 obtain ⟨r1, hr1, h⟩ := bindE h
 refine l_enter S (fun _ => run_call (vs := [v_p_l]) ⟨(S.tm rfl), trivial⟩ Tryz.call47) (points_CheckBase_ok _ v_p_l p_l (hs_p_l.mono (S.le_arg nil_sub)) _ hr1) rfl ?_; clear S; intro v1 a w1 hv1 hk1 hn1 S
 subst hv1
 refine lv S (rn_assign (S.tm rfl)) rfl ?_; clear S; intro a S
 refine l_done (then_n (f_seq (f_region (lv S (rn_move (S.tm rfl)) rfl ?_)))); clear S; intro a S
 refine lv S (rn_neq (S.tm rfl) rfl) rfl ?_; clear S; intro a S
 refine l_done (then_n (f_cond (S.tm rfl) (fun hb1 => ?_) (fun hb1 => ?_)))
 ·replace h := iteT h hb1
  refine f_seq (f_region (lv S (rn_move (S.tm rfl)) rfl ?_)); clear S; intro a S
  refine lv S (rn_assign rfl) rfl ?_; clear S; intro a S
  refine lv S (rn_assign (S.tm rfl)) rfl ?_; clear S; intro a S
  refine l_done (then_n (wp_ret (then_r ?_)))
  obtain rfl := Option.some.inj h
  exact f_ret2 S Tryz.results26 rfl rfl rfl
 ·replace h := iteF h hb1
  refine wp_skip (then_n (f_seq (f_region (lv S (rn_move (S.tm rfl)) rfl ?_)))); clear S; intro a S
  refine lv S (rn_move (S.tm rfl)) rfl ?_; clear S; intro a S
  refine l_enter S (fun _ => run_call (vs := [v_p_l, sV p_race]) ⟨(S.tm rfl), (S.tm rfl), trivial⟩ Tryz.call48) (points_baseOf_ok _ v_p_l p_l (hs_p_l.mono (S.le_arg nil_sub)) p_race _ rfl) rfl ?_; clear S; intro v2 a w2 hv2 hk2 hn2 S
  subst hv2
  refine lv S (rn_assign (S.tm rfl)) rfl ?_; clear S; intro a S
  refine l_done (then_n (f_seq (f_seq (f_region (lv S (rn_move (S.tm rfl)) rfl ?_))))); clear S; intro a S
  refine lv S (rn_eql (S.tm rfl) rfl) rfl ?_; clear S; intro a S
  refine l_done ?_
  replace S := S.nk [] [(2, iV p_time), (9, iV (points_baseOf p_l p_race)), (19, bV (decide ((points_baseOf p_l p_race) = 0)))] [] rfl (subR rfl)
  refine then_n (f_cond (S.tm rfl) (fun hb2 => ?_) (fun hb2 => ?_))
  ·replace h := iteT h hb2
   refine f_seq (f_region (lv S (rn_assign rfl) rfl ?_)); clear S; intro a S
   refine lv S (rn_assign rfl) rfl ?_; clear S; intro a S
   refine l_done (then_n (wp_ret (then_r ?_)))
   obtain rfl := Option.some.inj h
   exact f_ret2 S Tryz.results26 rfl rfl rfl
  ·replace h := iteF h hb2
   refine wp_skip (then_n (f_seq (f_seq (f_region (lv S (rn_move (S.tm rfl)) rfl ?_))))); clear S; intro a S
   refine l_enter S (fun _ => run_call (vs := [iV p_time]) ⟨(S.tm rfl), trivial⟩ Tryz.call49) (timing_IsTime_ok _ p_time _ rfl) rfl ?_; clear S; intro v3 a w3 hv3 hk3 hn3 S
   subst hv3
   refine lv S (rn_not (S.tm rfl)) rfl ?_; clear S; intro a S
   refine l_done (then_n (f_cond (S.tm rfl) (fun hb3 => ?_) (fun hb3 => ?_)))
   ·replace h := iteT h hb3
    refine f_seq (f_region (lv S (rn_assign rfl) rfl ?_)); clear S; intro a S
    refine lv S (rn_assign rfl) rfl ?_; clear S; intro a S
    refine l_done (then_n (wp_ret (then_r ?_)))
    obtain rfl := Option.some.inj h
    exact f_ret2 S Tryz.results26 rfl rfl rfl
   ·replace h := iteF h hb3
    refine wp_skip (then_n (f_seq (f_region (lv S (rn_move (S.tm rfl)) rfl ?_)))); clear S; intro a S
    refine lv S (rn_move (S.tm rfl)) rfl ?_; clear S; intro a S
    obtain ⟨r2, hr2, h⟩ := bindE h
    refine l_enter S (fun _ => run_call (vs := [iV (points_baseOf p_l p_race), iV p_time]) ⟨(S.tm rfl), (S.tm rfl), trivial⟩ Tryz.call50) (points_byTime_ok _ (points_baseOf p_l p_race) p_time _ hr2) rfl ?_; clear S; intro v4 a w4 hv4 hk4 hn4 S
    subst hv4
    refine lv S (rn_assign (S.tm rfl)) rfl ?_; clear S; intro a S
    refine lv S (rn_assign rfl) rfl ?_; clear S; intro a S
    refine l_done (then_n (wp_ret ?_))
    obtain rfl := Option.some.inj h
    exact f_ret2 S Tryz.results26 rfl rfl rfl
set_option maxRecDepth 20000 in
theorem record_CheckKinds_ok (w : World) (v_p_l : Value) (p_l : List GKind) (rs_p_l : List R80) (hs_p_l : Slc (view w []) 5 v_p_l (rs_p_l.map R80.enc)) (hr_p_l : All2 (rel_80 (view w [])) p_l rs_p_l) (r : Int) (h : record_CheckKinds p_l = some r) :
    Calls Tryz.prog 51 [v_p_l].toArray w (Ret w [] fun _ v _ => v = iV r) := by
 refine f_enter [] [] Tryz.func51 rfl Tryz.ntmps51 rfl (by simp) (by simp [fps]) (by simp [fps]) fun a S => ?_
 unfold record_CheckKinds at h
 replace S := S.nk [] [(0, v_p_l)] [] rfl ⟨rfl, trivial⟩
 refine f_seq (f_region (lv S (rn_assign rfl) rfl ?_)); clear S; intro a S
 refine l_done (then_n (f_seq (f_seq (f_region (lv S (rn_move (S.tm rfl)) rfl ?_))))); clear S; intro a S
 refine lv S (rn_lenT sl_81 (S.tm rfl) (slc_lenD hs_p_l hr_p_l)) rfl ?_; clear S; intro a S
 refine lv S (rn_gtr (S.tm rfl) rfl) rfl ?_; clear S; intro a S
 refine l_done (then_n (f_cond (S.tm rfl) (fun hb1 => ?_) (fun hb1 => ?_)))
 ·replace h := iteT h hb1
  refine f_seq (f_region (lv S (rn_assign rfl) rfl ?_)); clear S; intro a S
  refine l_done (then_n (wp_ret (then_r ?_)))
  obtain rfl := Option.some.inj h
  exact f_ret S Tryz.results51 rfl rfl
 ·replace h := iteF h hb1
  refine wp_skip (then_n (f_seq (f_seq (f_region (lv S (rn_move (S.tm rfl)) rfl ?_))))); clear S; intro a S
  refine lv S (rn_lenT sl_81 (S.tm rfl) (slc_lenD hs_p_l hr_p_l)) rfl ?_; clear S; intro a S
  refine lv S (rn_move rfl) rfl ?_; clear S; intro a S
  refine l_done (then_n ?_)
  replace S := S.nk [] [(0, v_p_l), (10, v_p_l), (11, iV (p_l.length : Int)), (12, iV 0)] [] rfl (subR rfl)
  obtain ⟨j1, hj1, h⟩ := joinE h
  refine f_join (fun a w' => j1 = some r ∧ Sx w [] nov [] [] 87 a w') ?_ ?_
  ·refine wp_block (f_loop (fun (ys1 : List GKind) a w' => ∃ i1 : Nat, (∃ dn, p_l = dn ++ ys1 ∧ dn.length = i1) ∧ record_CheckKinds_l1 p_l j1 ys1 i1 = some r ∧ Sx w [] nov [] [(0, v_p_l), (10, v_p_l), (11, iV (p_l.length : Int)), (12, iV (i1 : Int))] 87 a w') List.length p_l ⟨0, ⟨[], rfl, rfl⟩, h, S.nf [] rfl (subR rfl)⟩ ?_)
   clear S h; rintro ys1 a w1 ⟨i1, ⟨dn, hd1, hi1⟩, h, S⟩
   cases ys1 with
   | nil =>
    rw [record_CheckKinds_l1.eq_1] at h
    refine f_seq (f_region (lv S (rn_lss (S.tm rfl) (S.tm rfl)) rfl ?_)); clear S; intro a S
    refine l_done ?_
    replace S := S.nk [] [(0, v_p_l), (10, v_p_l), (11, iV (p_l.length : Int)), (12, iV (i1 : Int)), (13, bV (decide ((i1 : Int) < (p_l.length : Int))))] [] rfl (subR rfl)
    refine then_n (f_seq (wp_cond_false ((S.tm rfl).trans (congrArg Value.bool (rng_nil hd1 hi1))) (wp_exit (then_x (then_x (x_same ?_))))))
    refine then_n ?_
    exact ⟨h, S.nf [] rfl trivial⟩
   | cons y1 ys1 =>
    rw [record_CheckKinds_l1.eq_2] at h
    refine f_seq (f_region (lv S (rn_lss (S.tm rfl) (S.tm rfl)) rfl ?_)); clear S; intro a S
    refine l_done ?_
    replace S := S.nk [] [(0, v_p_l), (10, v_p_l), (11, iV (p_l.length : Int)), (12, iV (i1 : Int)), (13, bV (decide ((i1 : Int) < (p_l.length : Int))))] [] rfl (subR rfl)
    refine then_n (f_seq (wp_cond_true ((S.tm rfl).trans (congrArg Value.bool (rng_cons hd1 hi1))) (wp_skip (then_n (f_seq (wp_block ?_))))))
    refine f_seq (f_region (lv S (rn_move (S.tm rfl)) rfl ?_)); clear S; intro a S
    obtain ⟨r1, hg1, hl1⟩ := All2.at hr_p_l (get_mid hd1 hi1)
    obtain ⟨u1, rfl, hs1⟩ := hl1
    obtain ⟨b1, o1, hm1, hr1⟩ := rn_indexT (a := a) (x := .tmp 10) (y := .tmp 12) (ty := 0) sl_81 hs_p_l hg1 rfl (S.tm rfl) (S.tm rfl)
    refine lv S (hr1 _) rfl ?_; clear S; intro a S
    clear hr1
    refine lv S (rn_ldA Tryz.isAgg80 Tryz.sizeOf80 (off := o1) (o := 0) (part := [sV y1.Key, sV y1.Race, u1.val, iV y1.Young, iV y1.Old]) rfl rfl (S.tm rfl) (hm1.at S.emb0)) rfl ?_; clear S; intro a S
    refine l_alloc S Tryz.zeroValue80 (cs := [sV k_empty, sV k_empty, .slice none 0 0, iV 0, iV 0]) rfl rfl ?_; clear S; intro a w3 b2 hz1 hk1 S
    refine lv S (rn_assign (S.tm rfl)) rfl ?_; clear S; intro a S
    refine l_store S (S.tm rfl) (S.tm rfl) (i := 0) (off := 0) rfl Tryz.sizeOf80 (vs := [sV y1.Key, sV y1.Race, u1.val, iV y1.Young, iV y1.Old]) rfl rfl rfl (all1 rfl (all1 rfl (all1 (SlcLen.one (slc_len hs1)) (all1 rfl (all1 rfl rfl))))) ?_; clear S; intro w4 hk2 S
    refine l_done (then_n (f_seq (wp_block (f_seq (f_region (lv S (rn_fld fa_80_0 (S.tm rfl)) rfl ?_)))))); clear S; intro a S
    refine lv S (rn_load Tryz.isAgg9 (S.tm rfl) (S.cell (i := 0) rfl rfl)) rfl ?_; clear S; intro a S
    obtain ⟨r2, hr2, h⟩ := bindE h
    refine l_enter S (fun _ => run_call (vs := [sV y1.Key]) ⟨(S.tm rfl), trivial⟩ Tryz.call66) (words_IsKey_ok _ y1.Key _ hr2) rfl ?_; clear S; intro v1 a w5 hv1 hk3 hn1 S
    subst hv1
    refine lv S (rn_not (S.tm rfl)) rfl ?_; clear S; intro a S
    refine lv S (rn_move (S.tm rfl)) rfl ?_; clear S; intro a S
    obtain ⟨j2, hj2, h⟩ := joinE h
    refine f_cutm 5 (fun a w' => ∃ c1, j2 c1 = some r ∧ Keep [] w5 w' ∧ Sx w [] nov [.blk b2 [sV y1.Key, sV y1.Race, u1.val, iV y1.Young, iV y1.Old] 80] [(0, v_p_l), (3, iV (i1 : Int)), (4, .pointer (some ⟨b2, 0, none⟩)), (10, v_p_l), (11, iV (p_l.length : Int)), (12, iV (i1 : Int)), (27, bV c1)] 87 a w') ?_ ?_
    ·rcases Bool.eq_false_or_eq_true (!r2) with hb2 | hb2
     ·replace h := iteT h hb2
      iterate 4 (refine l_skip S rfl rfl rfl (neq_t hb2) rfl ?_ rfl; clear S; intro a S)
      refine lv S (rn_or_t true hb2 (S.tm rfl) rfl) rfl ?_; clear S; intro a S
      refine l_done (then_n ?_)
      exact ⟨_, h, Keep.refl _ _, S.nf [true] rfl (subR rfl)⟩
     ·replace h := iteF h hb2
      refine l_want S rfl rfl rfl hb2 (lv S (rn_fld fa_80_1 (S.tm rfl)) rfl ?_); clear S; intro a S
      refine l_want S rfl rfl rfl hb2 (lv S (rn_load Tryz.isAgg9 (S.tm rfl) (S.cell (i := 0) rfl rfl)) rfl ?_); clear S; intro a S
      refine l_want S rfl rfl rfl hb2 ?_
      obtain ⟨r3, hr3, h⟩ := bindE h
      refine l_enter S (fun _ => run_call (vs := [sV y1.Race]) ⟨(S.tm rfl), trivial⟩ Tryz.call66) (words_IsKey_ok _ y1.Race _ hr3) rfl ?_; clear S; intro v2 a w7 hv2 hk4 hn2 S
      subst hv2
      refine l_want S rfl rfl rfl hb2 (lv S (rn_not (S.tm rfl)) rfl ?_); clear S; intro a S
      refine lv S (rn_or_f hb2 (S.tm rfl) (S.tm rfl)) rfl ?_; clear S; intro a S
      refine l_done (then_n ?_)
      exact ⟨_, h, hk4, S.nf [true] rfl (subR rfl)⟩
    clear S h; rintro a w6 ⟨c1, h, hk5, S⟩; rw [hj2] at h; clear hj2 j2
    refine lv S (rn_assign (S.tm rfl)) rfl ?_; clear S; intro a S
    refine l_done (then_n (f_cond (S.tm rfl) (fun hb3 => ?_) (fun hb3 => ?_)))
    ·replace h := iteT h hb3
     refine f_seq (f_region (lv S (rn_assign rfl) rfl ?_)); clear S; intro a S
     refine l_done (then_n (wp_ret (blk_r (then_r (blk_r (then_r ?_))))))
     refine then_r (blk_r (then_r (then_r ?_)))
     obtain rfl := Option.some.inj h
     exact f_ret S Tryz.results51 rfl rfl
    ·replace h := iteF h hb3
     refine f_seq (d_region [] ([]) Tryz.mixed S rfl (by kernel_rfl) ?_); clear S; intro w8 hk6 hsel S
     refine d_rest [0, 1, 2, 3, 4, 5, 6, 7, 8, 9, 10, 11, 12, 13] hsel (by kernel_rfl) rfl ?_
     clear hsel
     refine s_lv S rfl (rn_move (S.tm rfl)) rfl ?_; clear S; intro a S
     refine s_lv S rfl (rn_gtr (S.tm rfl) rfl) rfl ?_; clear S; intro a S
     refine s_lv S rfl (rn_move (S.tm rfl)) rfl ?_; clear S; intro a S
     obtain ⟨j3, hj3, h⟩ := joinE h
     refine s_cutm 10 (fun a w' => ∃ c2, j3 c2 = some r ∧ Keep [] w8 w' ∧ Sx w [] nov [.blk b2 [sV y1.Key, sV y1.Race, u1.val, iV y1.Young, iV y1.Old] 80] [(0, v_p_l), (4, .pointer (some ⟨b2, 0, none⟩)), (10, v_p_l), (11, iV (p_l.length : Int)), (12, iV (i1 : Int)), (41, bV c2)] 87 a w') ?_ ?_
     ·rcases Bool.eq_false_or_eq_true (decide (0 < (i1 : Int))) with hb4 | hb4
      ·replace h := iteT h hb4
       refine s_want S rfl rfl rfl rfl hb4 (s_lv0 S (rn_fld fa_80_0 (S.tm rfl)) rfl ?_); clear S; intro a S
       refine s_want S rfl rfl rfl rfl hb4 (s_lv0 S (rn_load Tryz.isAgg9 (S.tm rfl) (S.cell (i := 0) rfl rfl)) rfl ?_); clear S; intro a S
       refine s_want S rfl rfl rfl rfl hb4 (s_lv0 S (rn_move (S.tm rfl)) rfl ?_); clear S; intro a S
       refine s_want S rfl rfl rfl rfl hb4 (s_lv0 S (rn_move (S.tm rfl)) rfl ?_); clear S; intro a S
       refine s_want S rfl rfl rfl rfl hb4 (s_lv0 S (rn_sub (S.tm rfl) rfl) rfl ?_); clear S; intro a S
       refine s_want S rfl rfl rfl rfl hb4 ?_
       obtain ⟨hc1, h⟩ := chkE h
       obtain ⟨r4, hg2, hl2⟩ := all2_get hr_p_l hc1
       obtain ⟨u2, rfl, hs2⟩ := hl2
       obtain ⟨b3, o2, hm2, hr4⟩ := rn_indexT (a := a) (x := .tmp 34) (y := .tmp 36) (ty := 0) sl_81 hs_p_l hg2 (inB_get hc1).2 (S.tm rfl) (S.tm rfl)
       refine s_lv0 S (hr4 _) rfl ?_; clear S; intro a S
       clear hr4
       refine s_want S rfl rfl rfl rfl hb4 (s_lv0 S (rn_fld fa_80_0 (S.tm rfl)) rfl ?_); clear S; intro a S
       refine s_want S rfl rfl rfl rfl hb4 (s_lv0 S (rn_ld Tryz.isAgg9 (off := o2) (o := 0) (S.tm rfl) (hm2.at S.emb0) rfl) rfl ?_); clear S; intro a S
       refine s_want S rfl rfl rfl rfl hb4 (s_lv0 S (rn_sleq (S.tm rfl) (S.tm rfl)) rfl ?_); clear S; intro a S
       refine s_lv S rfl (rn_and_t hb4 (S.tm rfl) (S.tm rfl)) rfl ?_; clear S; intro a S
       refine s_done ?_
       exact ⟨_, h, Keep.refl _ _, S.nf [true] rfl (subR rfl)⟩
      ·replace h := iteF h hb4
       iterate 9 (refine s_skip S rfl rfl rfl rfl (neq_f hb4) rfl ?_ rfl; clear S; intro a S)
       refine s_lv S rfl (rn_and_f true hb4 (S.tm rfl) rfl) rfl ?_; clear S; intro a S
       refine s_done ?_
       exact ⟨_, h, Keep.refl _ _, S.nf [true] rfl (subR rfl)⟩
     clear S h; rintro a w9 ⟨c2, h, hk7, S⟩; rw [hj3] at h; clear hj3 j3
     refine s_lv S rfl (rn_assign (S.tm rfl)) rfl ?_; clear S; intro a S
     refine s_done ?_
     replace S := S.nk [.blk b2 [sV y1.Key, sV y1.Race, u1.val, iV y1.Young, iV y1.Old] 80] [(0, v_p_l), (4, .pointer (some ⟨b2, 0, none⟩)), (10, v_p_l), (11, iV (p_l.length : Int)), (12, iV (i1 : Int)), (28, bV c2)] [true] rfl (subR rfl)
     refine then_n (f_cond (S.tm rfl) (fun hb5 => ?_) (fun hb5 => ?_))
     ·replace h := iteT h hb5
      refine f_seq (f_region (lv S (rn_assign rfl) rfl ?_)); clear S; intro a S
      refine l_done (then_n (wp_ret (blk_r (then_r (blk_r (then_r ?_))))))
      refine then_r (blk_r (then_r (then_r ?_)))
      obtain rfl := Option.some.inj h
      exact f_ret S Tryz.results51 rfl rfl
     ·replace h := iteF h hb5
      refine f_seq (f_region (lv S (rn_fld fa_80_2 (S.tm rfl)) rfl ?_)); clear S; intro a S
      refine lv S (rn_load Tryz.isAgg47 (S.tm rfl) (S.cell (i := 0) rfl rfl)) rfl ?_; clear S; intro a S
      refine lv S (rn_lenT sl_47 (S.tm rfl) (slc_len hs1)) rfl ?_; clear S; intro a S
      refine lv S (rn_gtr (S.tm rfl) rfl) rfl ?_; clear S; intro a S
      refine lv S (rn_assign (S.tm rfl)) rfl ?_; clear S; intro a S
      refine l_done (then_n (f_cond (S.tm rfl) (fun hb6 => ?_) (fun hb6 => ?_)))
      ·replace h := iteT h hb6
       refine f_seq (f_region (lv S (rn_assign rfl) rfl ?_)); clear S; intro a S
       refine l_done (then_n (wp_ret (blk_r (then_r (blk_r (then_r ?_))))))
       refine then_r (blk_r (then_r (then_r ?_)))
       obtain rfl := Option.some.inj h
       exact f_ret S Tryz.results51 rfl rfl
      ·replace h := iteF h hb6
       refine wp_skip (blk_n (then_n (f_seq (f_seq (f_region (lv S (rn_fld fa_80_2 (S.tm rfl)) rfl ?_)))))); clear S; intro a S
       refine lv S (rn_load Tryz.isAgg47 (S.tm rfl) (S.cell (i := 0) rfl rfl)) rfl ?_; clear S; intro a S
       refine lv S (rn_lenT sl_47 (S.tm rfl) (slc_len hs1)) rfl ?_; clear S; intro a S
       refine lv S (rn_move rfl) rfl ?_; clear S; intro a S
       refine l_done ?_
       replace S := S.nk [.blk b2 [sV y1.Key, sV y1.Race, u1.val, iV y1.Young, iV y1.Old] 80] [(0, v_p_l), (4, .pointer (some ⟨b2, 0, none⟩)), (10, v_p_l), (11, iV (p_l.length : Int)), (12, iV (i1 : Int)), (48, u1.val), (49, iV (y1.Clubs.length : Int)), (50, iV 0)] [true] rfl (subR rfl)
       refine then_n ?_
       obtain ⟨j4, hj4, h⟩ := joinE h
       refine f_join (fun a w' => j4 = some r ∧ Sx w [] nov [.blk b2 [sV y1.Key, sV y1.Race, u1.val, iV y1.Young, iV y1.Old] 80] [(0, v_p_l), (4, .pointer (some ⟨b2, 0, none⟩)), (10, v_p_l), (11, iV (p_l.length : Int)), (12, iV (i1 : Int))] 87 a w') ?_ ?_
       ·refine wp_block (f_loop (fun (ys2 : List ByteArray) a w' => ∃ i2 : Nat, (∃ dn, y1.Clubs = dn ++ ys2 ∧ dn.length = i2) ∧ record_CheckKinds_l2 y1 j4 ys2 i2 = some r ∧ Sx w [] nov [.blk b2 [sV y1.Key, sV y1.Race, u1.val, iV y1.Young, iV y1.Old] 80] [(0, v_p_l), (4, .pointer (some ⟨b2, 0, none⟩)), (10, v_p_l), (11, iV (p_l.length : Int)), (12, iV (i1 : Int)), (48, u1.val), (49, iV (y1.Clubs.length : Int)), (50, iV (i2 : Int))] 87 a w') List.length y1.Clubs ⟨0, ⟨[], rfl, rfl⟩, h, S.nf [true] rfl (subR rfl)⟩ ?_)
        clear S h; rintro ys2 a w10 ⟨i2, ⟨dn, hd2, hi2⟩, h, S⟩
        cases ys2 with
        | nil =>
         rw [record_CheckKinds_l2.eq_1] at h
         refine f_seq (f_region (lv S (rn_lss (S.tm rfl) (S.tm rfl)) rfl ?_)); clear S; intro a S
         refine l_done ?_
         replace S := S.nk [.blk b2 [sV y1.Key, sV y1.Race, u1.val, iV y1.Young, iV y1.Old] 80] [(0, v_p_l), (4, .pointer (some ⟨b2, 0, none⟩)), (10, v_p_l), (11, iV (p_l.length : Int)), (12, iV (i1 : Int)), (48, u1.val), (49, iV (y1.Clubs.length : Int)), (50, iV (i2 : Int)), (51, bV (decide ((i2 : Int) < (y1.Clubs.length : Int))))] [true] rfl (subR rfl)
         refine then_n (f_seq (wp_cond_false ((S.tm rfl).trans (congrArg Value.bool (rng_nil hd2 hi2))) (wp_exit (then_x (then_x (x_same ?_))))))
         refine then_n ?_
         exact ⟨h, S.nf [true] rfl (subR rfl)⟩
        | cons y2 ys2 =>
         rw [record_CheckKinds_l2.eq_2] at h
         refine f_seq (f_region (lv S (rn_lss (S.tm rfl) (S.tm rfl)) rfl ?_)); clear S; intro a S
         refine l_done ?_
         replace S := S.nk [.blk b2 [sV y1.Key, sV y1.Race, u1.val, iV y1.Young, iV y1.Old] 80] [(0, v_p_l), (4, .pointer (some ⟨b2, 0, none⟩)), (10, v_p_l), (11, iV (p_l.length : Int)), (12, iV (i1 : Int)), (48, u1.val), (49, iV (y1.Clubs.length : Int)), (50, iV (i2 : Int)), (51, bV (decide ((i2 : Int) < (y1.Clubs.length : Int))))] [true] rfl (subR rfl)
         refine then_n (f_seq (wp_cond_true ((S.tm rfl).trans (congrArg Value.bool (rng_cons hd2 hi2))) (wp_skip (then_n (f_seq (wp_block ?_))))))
         refine f_seq (f_region (lv S (rn_move (S.tm rfl)) rfl ?_)); clear S; intro a S
         obtain ⟨b4, o3, hm3, hr5⟩ := rn_indexT (a := a) (x := .tmp 48) (y := .tmp 50) (ty := 0) sl_47 hs1 (get_mid hd2 hi2) rfl (S.tm rfl) (S.tm rfl)
         refine lv S (hr5 _) rfl ?_; clear S; intro a S
         clear hr5
         refine lv S (rn_ld Tryz.isAgg9 (off := o3) (o := 0) (S.tm rfl) (hm3.at S.emb0) rfl) rfl ?_; clear S; intro a S
         refine lv S (rn_assign (S.tm rfl)) rfl ?_; clear S; intro a S
         refine lv S (rn_assign (S.tm rfl)) rfl ?_; clear S; intro a S
         refine l_done (then_n (f_seq (f_seq (f_region (lv S (rn_move (S.tm rfl)) rfl ?_))))); clear S; intro a S
         obtain ⟨r5, hr6, h⟩ := bindE h
         refine l_enter S (fun _ => run_call (vs := [sV y2]) ⟨(S.tm rfl), trivial⟩ Tryz.call66) (words_IsKey_ok _ y2 _ hr6) rfl ?_; clear S; intro v3 a w12 hv3 hk8 hn3 S
         subst hv3
         refine lv S (rn_not (S.tm rfl)) rfl ?_; clear S; intro a S
         refine l_done ?_
         replace S := S.nk [.blk b2 [sV y1.Key, sV y1.Race, u1.val, iV y1.Young, iV y1.Old] 80] [(0, v_p_l), (4, .pointer (some ⟨b2, 0, none⟩)), (5, iV (i2 : Int)), (6, sV y2), (10, v_p_l), (11, iV (p_l.length : Int)), (12, iV (i1 : Int)), (48, u1.val), (49, iV (y1.Clubs.length : Int)), (50, iV (i2 : Int)), (57, bV (!r5))] [true] rfl (subR rfl)
         refine then_n (f_cond (S.tm rfl) (fun hb7 => ?_) (fun hb7 => ?_))
         ·replace h := iteT h hb7
          refine f_seq (f_region (lv S (rn_assign rfl) rfl ?_)); clear S; intro a S
          refine l_done (then_n (wp_ret (then_r (blk_r (then_r (then_r ?_))))))
          refine blk_r (then_r (then_r (blk_r (then_r (then_r (blk_r ?_))))))
          refine then_r (then_r ?_)
          obtain rfl := Option.some.inj h
          exact f_ret S Tryz.results51 rfl rfl
         ·replace h := iteF h hb7
          refine wp_skip (then_n (f_seq (f_region (lv S (rn_move (S.tm rfl)) rfl ?_)))); clear S; intro a S
          refine lv S (rn_gtr (S.tm rfl) rfl) rfl ?_; clear S; intro a S
          refine lv S (rn_move (S.tm rfl)) rfl ?_; clear S; intro a S
          obtain ⟨j5, hj5, h⟩ := joinE h
          refine f_cutm 9 (fun a w' => ∃ c3, j5 c3 = some r ∧ Keep [] w12 w' ∧ Sx w [] nov [.blk b2 [sV y1.Key, sV y1.Race, u1.val, iV y1.Young, iV y1.Old] 80] [(0, v_p_l), (4, .pointer (some ⟨b2, 0, none⟩)), (10, v_p_l), (11, iV (p_l.length : Int)), (12, iV (i1 : Int)), (48, u1.val), (49, iV (y1.Clubs.length : Int)), (50, iV (i2 : Int)), (69, bV c3)] 87 a w') ?_ ?_
          ·rcases Bool.eq_false_or_eq_true (decide (0 < (i2 : Int))) with hb8 | hb8
           ·replace h := iteT h hb8
            refine l_want S rfl rfl rfl hb8 (lv S (rn_move (S.tm rfl)) rfl ?_); clear S; intro a S
            refine l_want S rfl rfl rfl hb8 (lv S (rn_fld fa_80_2 (S.tm rfl)) rfl ?_); clear S; intro a S
            refine l_want S rfl rfl rfl hb8 (lv S (rn_load Tryz.isAgg47 (S.tm rfl) (S.cell (i := 0) rfl rfl)) rfl ?_); clear S; intro a S
            refine l_want S rfl rfl rfl hb8 (lv S (rn_move (S.tm rfl)) rfl ?_); clear S; intro a S
            refine l_want S rfl rfl rfl hb8 (lv S (rn_sub (S.tm rfl) rfl) rfl ?_); clear S; intro a S
            refine l_want S rfl rfl rfl hb8 ?_
            obtain ⟨hc2, h⟩ := chkE h
            obtain ⟨b5, o4, hm4, hr7⟩ := rn_indexT (a := a) (x := .tmp 63) (y := .tmp 65) (ty := 0) sl_47 hs1 (inB_get hc2).1 (inB_get hc2).2 (S.tm rfl) (S.tm rfl)
            refine lv S (hr7 _) rfl ?_; clear S; intro a S
            clear hr7
            refine l_want S rfl rfl rfl hb8 (lv S (rn_ld Tryz.isAgg9 (off := o4) (o := 0) (S.tm rfl) (hm4.at S.emb0) rfl) rfl ?_); clear S; intro a S
            refine l_want S rfl rfl rfl hb8 (lv S (rn_sleq (S.tm rfl) (S.tm rfl)) rfl ?_); clear S; intro a S
            refine lv S (rn_and_t hb8 (S.tm rfl) (S.tm rfl)) rfl ?_; clear S; intro a S
            refine l_done (then_n ?_)
            exact ⟨_, h, Keep.refl _ _, S.nf [true] rfl (subR rfl)⟩
           ·replace h := iteF h hb8
            iterate 8 (refine l_skip S rfl rfl rfl (neq_f hb8) rfl ?_ rfl; clear S; intro a S)
            refine lv S (rn_and_f true hb8 (S.tm rfl) rfl) rfl ?_; clear S; intro a S
            refine l_done (then_n ?_)
            exact ⟨_, h, Keep.refl _ _, S.nf [true] rfl (subR rfl)⟩
          clear S h; rintro a w13 ⟨c3, h, hk9, S⟩; rw [hj5] at h; clear hj5 j5
          refine l_done (then_n (f_cond (S.tm rfl) (fun hb9 => ?_) (fun hb9 => ?_)))
          ·replace h := iteT h hb9
           refine f_seq (f_region (lv S (rn_assign rfl) rfl ?_)); clear S; intro a S
           refine l_done (then_n (wp_ret (blk_r (then_r (then_r (blk_r ?_))))))
           refine then_r (then_r (blk_r (then_r (then_r (blk_r (then_r ?_))))))
           refine then_r ?_
           obtain rfl := Option.some.inj h
           exact f_ret S Tryz.results51 rfl rfl
          ·replace h := iteF h hb9
           refine wp_skip (blk_n (then_n (f_region (lv S (rn_add (S.tm rfl) rfl) rfl ?_)))); clear S; intro a S
           refine lv S (rn_move (S.tm rfl)) rfl ?_; clear S; intro a S
           refine l_done (then_n ?_)
           exact ⟨ys2, ⟨i2 + 1, ⟨_, (hd2).trans (List.append_cons _ _ _), by simp [hi2]⟩, h, S.nf [true] rfl ⟨rfl, rfl, rfl, rfl, rfl, rfl, rfl, (congrArg (fun z => some (Value.int .i64 z)) (rng_next hd2 hi2 (slc_max hs1))), trivial⟩⟩, Nat.lt_succ_self _⟩
       clear S h; rintro a w11 ⟨h, S⟩; rw [hj4] at h; clear hj4 j4
       refine then_n (f_seq (f_region (lv S (rn_fld fa_80_3 (S.tm rfl)) rfl ?_))); clear S; intro a S
       refine lv S (rn_load Tryz.isAgg3 (S.tm rfl) (S.cell (i := 0) rfl rfl)) rfl ?_; clear S; intro a S
       refine lv S (rn_lss (S.tm rfl) rfl) rfl ?_; clear S; intro a S
       refine lv S (rn_move (S.tm rfl)) rfl ?_; clear S; intro a S
       refine f_cutm 6 (fun a w' => Keep [] w11 w' ∧ Sx w [] nov [.blk b2 [sV y1.Key, sV y1.Race, u1.val, iV y1.Young, iV y1.Old] 80] [(0, v_p_l), (4, .pointer (some ⟨b2, 0, none⟩)), (10, v_p_l), (11, iV (p_l.length : Int)), (12, iV (i1 : Int)), (80, bV ((decide (y1.Young < 0)) || (decide (y1.Old < y1.Young))))] 87 a w') ?_ ?_
       ·rcases Bool.eq_false_or_eq_true (decide (y1.Young < 0)) with hb10 | hb10
        ·iterate 5 (refine l_skip S rfl rfl rfl (neq_t hb10) rfl ?_ rfl; clear S; intro a S)
         refine lv S (rn_or_t (decide (y1.Old < y1.Young)) hb10 (S.tm rfl) rfl) rfl ?_; clear S; intro a S
         refine l_done (then_n ?_)
         exact ⟨Keep.refl _ _, S.nf [true] rfl (subR rfl)⟩
        ·refine l_want S rfl rfl rfl hb10 (lv S (rn_fld fa_80_3 (S.tm rfl)) rfl ?_); clear S; intro a S
         refine l_want S rfl rfl rfl hb10 (lv S (rn_load Tryz.isAgg3 (S.tm rfl) (S.cell (i := 0) rfl rfl)) rfl ?_); clear S; intro a S
         refine l_want S rfl rfl rfl hb10 (lv S (rn_fld fa_80_4 (S.tm rfl)) rfl ?_); clear S; intro a S
         refine l_want S rfl rfl rfl hb10 (lv S (rn_load Tryz.isAgg3 (S.tm rfl) (S.cell (i := 0) rfl rfl)) rfl ?_); clear S; intro a S
         refine l_want S rfl rfl rfl hb10 (lv S (rn_gtr (S.tm rfl) (S.tm rfl)) rfl ?_); clear S; intro a S
         refine lv S (rn_or_f hb10 (S.tm rfl) (S.tm rfl)) rfl ?_; clear S; intro a S
         refine l_done (then_n ?_)
         exact ⟨Keep.refl _ _, S.nf [true] rfl (subR rfl)⟩
       clear S; rintro a w14 ⟨hk10, S⟩
       refine lv S (rn_move (S.tm rfl)) rfl ?_; clear S; intro a S
       refine f_cutm 4 (fun a w' => Keep [] w14 w' ∧ Sx w [] nov [.blk b2 [sV y1.Key, sV y1.Race, u1.val, iV y1.Young, iV y1.Old] 80] [(0, v_p_l), (10, v_p_l), (11, iV (p_l.length : Int)), (12, iV (i1 : Int)), (85, bV (((decide (y1.Young < 0)) || (decide (y1.Old < y1.Young))) || (decide (150 < y1.Old))))] 87 a w') ?_ ?_
       ·rcases Bool.eq_false_or_eq_true ((decide (y1.Young < 0)) || (decide (y1.Old < y1.Young))) with hb11 | hb11
        ·iterate 3 (refine l_skip S rfl rfl rfl (neq_t hb11) rfl ?_ rfl; clear S; intro a S)
         refine lv S (rn_or_t (decide (150 < y1.Old)) hb11 (S.tm rfl) rfl) rfl ?_; clear S; intro a S
         refine l_done (then_n ?_)
         exact ⟨Keep.refl _ _, S.nf [true] rfl (subR rfl)⟩
        ·refine l_want S rfl rfl rfl hb11 (lv S (rn_fld fa_80_4 (S.tm rfl)) rfl ?_); clear S; intro a S
         refine l_want S rfl rfl rfl hb11 (lv S (rn_load Tryz.isAgg3 (S.tm rfl) (S.cell (i := 0) rfl rfl)) rfl ?_); clear S; intro a S
         refine l_want S rfl rfl rfl hb11 (lv S (rn_gtr (S.tm rfl) rfl) rfl ?_); clear S; intro a S
         refine lv S (rn_or_f hb11 (S.tm rfl) (S.tm rfl)) rfl ?_; clear S; intro a S
         refine l_done (then_n ?_)
         exact ⟨Keep.refl _ _, S.nf [true] rfl (subR rfl)⟩
       clear S; rintro a w15 ⟨hk11, S⟩
       refine l_done (then_n (f_cond (S.tm rfl) (fun hb12 => ?_) (fun hb12 => ?_)))
       ·replace h := iteT h hb12
        refine f_seq (f_region (lv S (rn_assign rfl) rfl ?_)); clear S; intro a S
        refine l_done (then_n (wp_ret (blk_r (then_r (then_r (blk_r ?_))))))
        refine then_r (then_r ?_)
        obtain rfl := Option.some.inj h
        exact f_ret S Tryz.results51 rfl rfl
       ·replace h := iteF h hb12
        refine wp_skip (blk_n (then_n (f_region (lv S (rn_add (S.tm rfl) rfl) rfl ?_)))); clear S; intro a S
        refine lv S (rn_move (S.tm rfl)) rfl ?_; clear S; intro a S
        refine l_done (then_n ?_)
        exact ⟨ys1, ⟨i1 + 1, ⟨_, (hd1).trans (List.append_cons _ _ _), by simp [hi1]⟩, h, S.nf [false] rfl ⟨rfl, rfl, rfl, (congrArg (fun z => some (Value.int .i64 z)) (rng_next hd1 hi1 (slc_maxD hs_p_l hr_p_l))), trivial⟩⟩, Nat.lt_succ_self _⟩
  clear S h; rintro a w2 ⟨h, S⟩; rw [hj1] at h; clear hj1 j1
  refine then_n (f_seq (f_region (lv S (rn_assign rfl) rfl ?_))); clear S; intro a S
  refine l_done (then_n (wp_ret ?_))
  obtain rfl := Option.some.inj h
  exact f_ret S Tryz.results51 rfl rfl
theorem record_checkStep_ok (w : World) (p_x : GStep) (r : Int) (h : record_checkStep p_x = some r) :
    Calls Tryz.prog 75 [.agg (GStep.enc p_x).toArray].toArray w (Ret w [] fun _ v _ => v = iV r) := by
 refine f_enter [] [] Tryz.func75 rfl Tryz.ntmps75 rfl (by simp) (by simp [fps]) (by simp [fps]) fun a S => ?_
 unfold record_checkStep at h
 replace S := S.nk [] [(0, .agg (GStep.enc p_x).toArray)] [] rfl ⟨rfl, trivial⟩
 refine f_seq (f_region (l_box S (S.tm rfl) (cs := (GStep.enc p_x)) rfl rfl ?_)); clear S; intro a w1 b1 hz1 hk1 S
 refine lv S (rn_assign rfl) rfl ?_; clear S; intro a S
 refine l_done (then_n (f_seq ?_))
 obtain ⟨j1, hj1, h⟩ := joinE h
 refine f_join (fun a w' => j1 = some r ∧ Sx w [] nov [] [] 64 a w') ?_ ?_
 ·refine wp_block (f_seq (f_region (lv S (rn_fld fa_83_0 (S.tm rfl)) rfl ?_))); clear S; intro a S
  refine lv S (rn_load Tryz.isAgg3 (S.tm rfl) (S.cell (i := 0) rfl rfl)) rfl ?_; clear S; intro a S
  refine l_enter S (fun _ => run_call (vs := [iV p_x.At]) ⟨(S.tm rfl), trivial⟩ Tryz.call96) (words_IsMoment_ok _ p_x.At _ rfl) rfl ?_; clear S; intro v1 a w3 hv1 hk2 hn1 S
  subst hv1
  refine lv S (rn_not (S.tm rfl)) rfl ?_; clear S; intro a S
  refine lv S (rn_assign (S.tm rfl)) rfl ?_; clear S; intro a S
  refine l_done (then_n (f_cond (S.tm rfl) (fun hb1 => ?_) (fun hb1 => ?_)))
  ·replace h := iteT h hb1
   refine f_seq (f_region (lv S (rn_assign rfl) rfl ?_)); clear S; intro a S
   refine l_done (then_n (wp_ret (blk_r (then_r (then_r ?_)))))
   obtain rfl := Option.some.inj h
   exact f_ret S Tryz.results75 rfl rfl
  ·replace h := iteF h hb1
   refine f_seq (f_region (lv S (rn_fld fa_83_1 (S.tm rfl)) rfl ?_)); clear S; intro a S
   refine lv S (rn_load Tryz.isAgg3 (S.tm rfl) (S.cell (i := 0) rfl rfl)) rfl ?_; clear S; intro a S
   refine l_enter S (fun _ => run_call (vs := [iV p_x.Kind, iV 1, iV 3]) ⟨(S.tm rfl), rfl, rfl, trivial⟩ Tryz.call41) (words_Within_ok _ p_x.Kind 1 3 _ rfl) rfl ?_; clear S; intro v2 a w4 hv2 hk3 hn2 S
   subst hv2
   refine lv S (rn_not (S.tm rfl)) rfl ?_; clear S; intro a S
   refine lv S (rn_assign (S.tm rfl)) rfl ?_; clear S; intro a S
   refine l_done (then_n (f_cond (S.tm rfl) (fun hb2 => ?_) (fun hb2 => ?_)))
   ·replace h := iteT h hb2
    refine f_seq (f_region (lv S (rn_assign rfl) rfl ?_)); clear S; intro a S
    refine l_done (then_n (wp_ret (blk_r (then_r (then_r ?_)))))
    obtain rfl := Option.some.inj h
    exact f_ret S Tryz.results75 rfl rfl
   ·replace h := iteF h hb2
    refine f_seq (f_region (lv S (rn_fld fa_83_2 (S.tm rfl)) rfl ?_)); clear S; intro a S
    refine lv S (rn_load Tryz.isAgg9 (S.tm rfl) (S.cell (i := 0) rfl rfl)) rfl ?_; clear S; intro a S
    obtain ⟨r1, hr1, h⟩ := bindE h
    refine l_enter S (fun _ => run_call (vs := [sV p_x.Id]) ⟨(S.tm rfl), trivial⟩ Tryz.call66) (words_IsKey_ok _ p_x.Id _ hr1) rfl ?_; clear S; intro v3 a w5 hv3 hk4 hn3 S
    subst hv3
    refine lv S (rn_not (S.tm rfl)) rfl ?_; clear S; intro a S
    refine lv S (rn_assign (S.tm rfl)) rfl ?_; clear S; intro a S
    refine l_done ?_
    replace S := S.nk [.blk b1 (GStep.enc p_x) 83] [(1, .pointer (some ⟨b1, 0, none⟩)), (13, bV (!r1))] [true] rfl (subR rfl)
    refine then_n (f_cond (S.tm rfl) (fun hb3 => ?_) (fun hb3 => ?_))
    ·replace h := iteT h hb3
     refine f_seq (f_region (lv S (rn_assign rfl) rfl ?_)); clear S; intro a S
     refine l_done (then_n (wp_ret (blk_r (then_r (then_r ?_)))))
     obtain rfl := Option.some.inj h
     exact f_ret S Tryz.results75 rfl rfl
    ·replace h := iteF h hb3
     refine f_seq (f_region (lv S (rn_fld fa_83_1 (S.tm rfl)) rfl ?_)); clear S; intro a S
     refine lv S (rn_load Tryz.isAgg3 (S.tm rfl) (S.cell (i := 0) rfl rfl)) rfl ?_; clear S; intro a S
     refine lv S (rn_neq (S.tm rfl) rfl) rfl ?_; clear S; intro a S
     refine lv S (rn_assign (S.tm rfl)) rfl ?_; clear S; intro a S
     refine l_done (then_n ?_)
     obtain ⟨j2, hj2, h⟩ := joinE h
     refine f_join (fun a w' => j2 = some r ∧ Sx w [] nov [] [] 64 a w') ?_ ?_
     ·refine f_cond (S.tm rfl) (fun hb4 => ?_) (fun hb4 => ?_)
      ·replace h := iteT h hb4
       refine f_seq (f_region (lv S (rn_ldA Tryz.isAgg83 Tryz.sizeOf83 (off := 0) (o := 0) (part := (GStep.enc p_x)) rfl rfl (S.tm rfl) (S.cellsAt (i := 0) rfl)) rfl ?_)); clear S; intro a S
       refine lv S (rn_fld fa_83_0 (S.tm rfl)) rfl ?_; clear S; intro a S
       refine lv S (rn_load Tryz.isAgg3 (S.tm rfl) (S.cell (i := 0) rfl rfl)) rfl ?_; clear S; intro a S
       refine lv S (rn_fld fa_83_1 (S.tm rfl)) rfl ?_; clear S; intro a S
       refine lv S (rn_load Tryz.isAgg3 (S.tm rfl) (S.cell (i := 0) rfl rfl)) rfl ?_; clear S; intro a S
       refine lv S (rn_fld fa_83_2 (S.tm rfl)) rfl ?_; clear S; intro a S
       refine lv S (rn_load Tryz.isAgg9 (S.tm rfl) (S.cell (i := 0) rfl rfl)) rfl ?_; clear S; intro a S
       refine lv S (rn_bld bt_83 (pv := [(0, iV p_x.At), (1, iV p_x.Kind), (2, sV p_x.Id)]) ⟨rfl, (S.tm rfl), rfl, (S.tm rfl), rfl, (S.tm rfl), trivial⟩ (cs := [iV p_x.At, iV p_x.Kind, sV p_x.Id, sV k_empty, sV k_empty, sV k_empty, iV 0, iV 0]) (by kernel_rfl)) rfl ?_; clear S; intro a S
       refine lv S (rn_neq_83 (m := p_x) (n := (GStep.mk p_x.At p_x.Kind p_x.Id k_empty k_empty k_empty 0 0)) (S.tm rfl) (S.tm rfl)) rfl ?_; clear S; intro a S
       refine l_done ?_
       replace S := S.nk [] [(30, bV (!decide (p_x = (GStep.mk p_x.At p_x.Kind p_x.Id k_empty k_empty k_empty 0 0))))] [false] rfl ⟨rfl, trivial⟩
       refine then_n (f_cond (S.tm rfl) (fun hb5 => ?_) (fun hb5 => ?_))
       ·replace h := iteT h hb5
        refine f_seq (f_region (lv S (rn_assign rfl) rfl ?_)); clear S; intro a S
        refine l_done (then_n (wp_ret (then_r (blk_r (then_r (then_r ?_))))))
        obtain rfl := Option.some.inj h
        exact f_ret S Tryz.results75 rfl rfl
       ·replace h := iteF h hb5
        refine wp_skip (then_n ?_)
        exact ⟨h, S.nf [] rfl trivial⟩
      ·replace h := iteF h hb4
       refine f_seq (f_region (lv S (rn_fld fa_83_3 (S.tm rfl)) rfl ?_)); clear S; intro a S
       refine lv S (rn_load Tryz.isAgg9 (S.tm rfl) (S.cell (i := 0) rfl rfl)) rfl ?_; clear S; intro a S
       obtain ⟨r2, hr2, h⟩ := bindE h
       refine l_enter S (fun _ => run_call (vs := [sV p_x.Who]) ⟨(S.tm rfl), trivial⟩ Tryz.call66) (words_IsKey_ok _ p_x.Who _ hr2) rfl ?_; clear S; intro v4 a w7 hv4 hk5 hn4 S
       subst hv4
       refine lv S (rn_not (S.tm rfl)) rfl ?_; clear S; intro a S
       refine lv S (rn_move (S.tm rfl)) rfl ?_; clear S; intro a S
       obtain ⟨j3, hj3, h⟩ := joinE h
       refine f_cutm 5 (fun a w' => ∃ c1, j3 c1 = some r ∧ Keep [] w7 w' ∧ Sx w [] nov [.blk b1 (GStep.enc p_x) 83] [(1, .pointer (some ⟨b1, 0, none⟩)), (41, bV c1)] 64 a w') ?_ ?_
       ·rcases Bool.eq_false_or_eq_true (!r2) with hb6 | hb6
        ·replace h := iteT h hb6
         iterate 4 (refine l_skip S rfl rfl rfl (neq_t hb6) rfl ?_ rfl; clear S; intro a S)
         refine lv S (rn_or_t true hb6 (S.tm rfl) rfl) rfl ?_; clear S; intro a S
         refine l_done (then_n ?_)
         exact ⟨_, h, Keep.refl _ _, S.nf [true] rfl (subR rfl)⟩
        ·replace h := iteF h hb6
         refine l_want S rfl rfl rfl hb6 (lv S (rn_fld fa_83_5 (S.tm rfl)) rfl ?_); clear S; intro a S
         refine l_want S rfl rfl rfl hb6 (lv S (rn_load Tryz.isAgg9 (S.tm rfl) (S.cell (i := 0) rfl rfl)) rfl ?_); clear S; intro a S
         refine l_want S rfl rfl rfl hb6 ?_
         obtain ⟨r3, hr3, h⟩ := bindE h
         refine l_enter S (fun _ => run_call (vs := [sV p_x.Race]) ⟨(S.tm rfl), trivial⟩ Tryz.call66) (words_IsKey_ok _ p_x.Race _ hr3) rfl ?_; clear S; intro v5 a w9 hv5 hk6 hn5 S
         subst hv5
         refine l_want S rfl rfl rfl hb6 (lv S (rn_not (S.tm rfl)) rfl ?_); clear S; intro a S
         refine lv S (rn_or_f hb6 (S.tm rfl) (S.tm rfl)) rfl ?_; clear S; intro a S
         refine l_done (then_n ?_)
         exact ⟨_, h, hk6, S.nf [true] rfl (subR rfl)⟩
       clear S h; rintro a w8 ⟨c1, h, hk7, S⟩; rw [hj3] at h; clear hj3 j3
       refine lv S (rn_move (S.tm rfl)) rfl ?_; clear S; intro a S
       obtain ⟨j4, hj4, h⟩ := joinE h
       refine f_cutm 10 (fun a w' => ∃ c2, j4 c2 = some r ∧ Keep [] w8 w' ∧ Sx w [] nov [.blk b1 (GStep.enc p_x) 83] [(1, .pointer (some ⟨b1, 0, none⟩)), (52, bV c2)] 64 a w') ?_ ?_
       ·rcases Bool.eq_false_or_eq_true c1 with hb7 | hb7
        ·replace h := iteT h hb7
         iterate 4 (refine l_skip S rfl rfl rfl (neq_t hb7) rfl ?_ rfl; clear S; intro a S)
         iterate 4 (refine l_skipU S rfl rfl rfl rfl ?_; clear S; intro a S)
         refine l_skip S rfl rfl rfl (neq_t hb7) rfl ?_ rfl; clear S; intro a S
         refine lv S (rn_or_t true hb7 (S.tm rfl) rfl) rfl ?_; clear S; intro a S
         refine l_done (then_n ?_)
         exact ⟨_, h, Keep.refl _ _, S.nf [true] rfl (subR rfl)⟩
        ·replace h := iteF h hb7
         refine l_want S rfl rfl rfl hb7 (lv S (rn_fld fa_83_4 (S.tm rfl)) rfl ?_); clear S; intro a S
         refine l_want S rfl rfl rfl hb7 (lv S (rn_load Tryz.isAgg9 (S.tm rfl) (S.cell (i := 0) rfl rfl)) rfl ?_); clear S; intro a S
         refine l_want S rfl rfl rfl hb7 (lv S (rn_sneq (S.tm rfl) rfl) rfl ?_); clear S; intro a S
         refine l_want S rfl rfl rfl hb7 (lv S (rn_move (S.tm rfl)) rfl ?_); clear S; intro a S
         obtain ⟨j5, hj5, h⟩ := joinE h
         refine f_cutm 5 (fun a w' => ∃ c3, j5 c3 = some r ∧ Keep [] w8 w' ∧ Sx w [] nov [.blk b1 (GStep.enc p_x) 83] [(1, .pointer (some ⟨b1, 0, none⟩)), (42, bV c1), (51, bV c3)] 64 a w') ?_ ?_
         ·rcases Bool.eq_false_or_eq_true (!decide (p_x.Club = k_empty)) with hb8 | hb8
          ·replace h := iteT h hb8
           refine l_want S rfl rfl rfl hb8 (lv S (rn_fld fa_83_4 (S.tm rfl)) rfl ?_); clear S; intro a S
           refine l_want S rfl rfl rfl hb8 (lv S (rn_load Tryz.isAgg9 (S.tm rfl) (S.cell (i := 0) rfl rfl)) rfl ?_); clear S; intro a S
           refine l_want S rfl rfl rfl hb8 ?_
           obtain ⟨r4, hr4, h⟩ := bindE h
           refine l_enter S (fun _ => run_call (vs := [sV p_x.Club]) ⟨(S.tm rfl), trivial⟩ Tryz.call66) (words_IsKey_ok _ p_x.Club _ hr4) rfl ?_; clear S; intro v6 a w12 hv6 hk8 hn6 S
           subst hv6
           refine l_want S rfl rfl rfl hb8 (lv S (rn_not (S.tm rfl)) rfl ?_); clear S; intro a S
           refine l_want S rfl rfl rfl hb7 (lv S (rn_and_t hb8 (S.tm rfl) (S.tm rfl)) rfl ?_); clear S; intro a S
           refine l_done (then_n ?_)
           exact ⟨_, h, hk8, S.nf [true] rfl (subR rfl)⟩
          ·replace h := iteF h hb8
           iterate 4 (refine l_skip S rfl rfl rfl (neq_f hb8) rfl ?_ rfl; clear S; intro a S)
           refine l_want S rfl rfl rfl hb7 (lv S (rn_and_f true hb8 (S.tm rfl) rfl) rfl ?_); clear S; intro a S
           refine l_done (then_n ?_)
           exact ⟨_, h, Keep.refl _ _, S.nf [true] rfl (subR rfl)⟩
         clear S h; rintro a w11 ⟨c3, h, hk9, S⟩; rw [hj5] at h; clear hj5 j5
         refine lv S (rn_or_f hb7 (S.tm rfl) (S.tm rfl)) rfl ?_; clear S; intro a S
         refine l_done (then_n ?_)
         exact ⟨_, h, hk9, S.nf [true] rfl (subR rfl)⟩
       clear S h; rintro a w10 ⟨c2, h, hk10, S⟩; rw [hj4] at h; clear hj4 j4
       refine lv S (rn_assign (S.tm rfl)) rfl ?_; clear S; intro a S
       refine l_done (then_n (f_cond (S.tm rfl) (fun hb9 => ?_) (fun hb9 => ?_)))
       ·replace h := iteT h hb9
        refine f_seq (f_region (lv S (rn_assign rfl) rfl ?_)); clear S; intro a S
        refine l_done (then_n (wp_ret (then_r (blk_r (then_r (then_r ?_))))))
        obtain rfl := Option.some.inj h
        exact f_ret S Tryz.results75 rfl rfl
       ·replace h := iteF h hb9
        refine f_seq (f_region (lv S (rn_fld fa_83_6 (S.tm rfl)) rfl ?_)); clear S; intro a S
        refine lv S (rn_load Tryz.isAgg3 (S.tm rfl) (S.cell (i := 0) rfl rfl)) rfl ?_; clear S; intro a S
        refine l_enter S (fun _ => run_call (vs := [iV p_x.Age, iV 0, iV 150]) ⟨(S.tm rfl), rfl, rfl, trivial⟩ Tryz.call41) (words_Within_ok _ p_x.Age 0 150 _ rfl) rfl ?_; clear S; intro v7 a w13 hv7 hk11 hn7 S
        subst hv7
        refine lv S (rn_not (S.tm rfl)) rfl ?_; clear S; intro a S
        refine lv S (rn_move (S.tm rfl)) rfl ?_; clear S; intro a S
        refine f_cutm 5 (fun a w' => Keep [] w13 w' ∧ Sx w [] nov [.blk b1 (GStep.enc p_x) 83] [(63, bV ((!(words_Within p_x.Age 0 150)) || (!(timing_IsTime p_x.Time))))] 64 a w') ?_ ?_
        ·rcases Bool.eq_false_or_eq_true (!(words_Within p_x.Age 0 150)) with hb10 | hb10
         ·iterate 4 (refine l_skip S rfl rfl rfl (neq_t hb10) rfl ?_ rfl; clear S; intro a S)
          refine lv S (rn_or_t (!(timing_IsTime p_x.Time)) hb10 (S.tm rfl) rfl) rfl ?_; clear S; intro a S
          refine l_done (then_n ?_)
          exact ⟨Keep.refl _ _, S.nf [true] rfl ⟨rfl, trivial⟩⟩
         ·refine l_want S rfl rfl rfl hb10 (lv S (rn_fld fa_83_7 (S.tm rfl)) rfl ?_); clear S; intro a S
          refine l_want S rfl rfl rfl hb10 (lv S (rn_load Tryz.isAgg3 (S.tm rfl) (S.cell (i := 0) rfl rfl)) rfl ?_); clear S; intro a S
          refine l_want S rfl rfl rfl hb10 (l_enter S (fun _ => run_call (vs := [iV p_x.Time]) ⟨(S.tm rfl), trivial⟩ Tryz.call49) (timing_IsTime_ok _ p_x.Time _ rfl) rfl ?_); clear S; intro v8 a w15 hv8 hk12 hn8 S
          subst hv8
          refine l_want S rfl rfl rfl hb10 (lv S (rn_not (S.tm rfl)) rfl ?_); clear S; intro a S
          refine lv S (rn_or_f hb10 (S.tm rfl) (S.tm rfl)) rfl ?_; clear S; intro a S
          refine l_done (then_n ?_)
          exact ⟨hk12, S.nf [true] rfl ⟨rfl, trivial⟩⟩
        clear S; rintro a w14 ⟨hk13, S⟩
        refine lv S (rn_assign (S.tm rfl)) rfl ?_; clear S; intro a S
        refine l_done (then_n (f_cond (S.tm rfl) (fun hb11 => ?_) (fun hb11 => ?_)))
        ·replace h := iteT h hb11
         refine f_seq (f_region (lv S (rn_assign rfl) rfl ?_)); clear S; intro a S
         refine l_done (then_n (wp_ret (then_r (blk_r (then_r (then_r ?_))))))
         obtain rfl := Option.some.inj h
         exact f_ret S Tryz.results75 rfl rfl
        ·replace h := iteF h hb11
         refine wp_skip (then_n ?_)
         exact ⟨h, S.nf [false] rfl trivial⟩
     clear S h; rintro a w6 ⟨h, S⟩; rw [hj2] at h; clear hj2 j2
     refine blk_n (then_n ?_)
     exact ⟨h, S.nf [] rfl trivial⟩
 clear S h; rintro a w2 ⟨h, S⟩; rw [hj1] at h; clear hj1 j1
 refine then_n (f_seq (f_region (lv S (rn_assign rfl) rfl ?_))); clear S; intro a S
 refine l_done (then_n (wp_ret ?_))
 obtain rfl := Option.some.inj h
 exact f_ret S Tryz.results75 rfl rfl
theorem record_checkSwum_ok (w : World) (p_s : GStep) (r : Int) (h : record_checkSwum p_s = some r) :
    Calls Tryz.prog 52 [.agg (GStep.enc p_s).toArray].toArray w (Ret w [] fun _ v _ => v = iV r) := by
 refine f_enter [] [] Tryz.func52 rfl Tryz.ntmps52 rfl (by simp) (by simp [fps]) (by simp [fps]) fun a S => ?_
 unfold record_checkSwum at h
 replace S := S.nk [] [(0, .agg (GStep.enc p_s).toArray)] [] rfl ⟨rfl, trivial⟩
 refine f_seq (f_region (l_box S (S.tm rfl) (cs := (GStep.enc p_s)) rfl rfl ?_)); clear S; intro a w1 b1 hz1 hk1 S
 refine lv S (rn_assign rfl) rfl ?_; clear S; intro a S
 refine l_done (then_n (f_seq (f_seq (f_region (lv S (rn_ldA Tryz.isAgg83 Tryz.sizeOf83 (off := 0) (o := 0) (part := (GStep.enc p_s)) rfl rfl (S.tm rfl) (S.cellsAt (i := 0) rfl)) rfl ?_))))); clear S; intro a S
 obtain ⟨r1, hr1, h⟩ := bindE h
 refine l_enter S (fun _ => run_call (vs := [.agg (GStep.enc p_s).toArray]) ⟨(S.tm rfl), trivial⟩ Tryz.call75) (record_checkStep_ok _ p_s _ hr1) rfl ?_; clear S; intro v1 a w2 hv1 hk2 hn1 S
 subst hv1
 refine lv S (rn_assign (S.tm rfl)) rfl ?_; clear S; intro a S
 refine l_done (then_n (f_seq (f_region (lv S (rn_move (S.tm rfl)) rfl ?_)))); clear S; intro a S
 refine lv S (rn_neq (S.tm rfl) rfl) rfl ?_; clear S; intro a S
 refine l_done (then_n (f_cond (S.tm rfl) (fun hb1 => ?_) (fun hb1 => ?_)))
 ·replace h := iteT h hb1
  refine f_seq (f_region (lv S (rn_move (S.tm rfl)) rfl ?_)); clear S; intro a S
  refine lv S (rn_assign (S.tm rfl)) rfl ?_; clear S; intro a S
  refine l_done (then_n (wp_ret (then_r ?_)))
  obtain rfl := Option.some.inj h
  exact f_ret S Tryz.results52 rfl rfl
 ·replace h := iteF h hb1
  refine wp_skip (then_n (f_seq (f_seq (f_region (lv S (rn_fld fa_83_1 (S.tm rfl)) rfl ?_))))); clear S; intro a S
  refine lv S (rn_load Tryz.isAgg3 (S.tm rfl) (S.cell (i := 0) rfl rfl)) rfl ?_; clear S; intro a S
  refine lv S (rn_neq (S.tm rfl) rfl) rfl ?_; clear S; intro a S
  refine l_done (then_n (f_cond (S.tm rfl) (fun hb2 => ?_) (fun hb2 => ?_)))
  ·replace h := iteT h hb2
   refine f_seq (f_region (lv S (rn_assign rfl) rfl ?_)); clear S; intro a S
   refine l_done (then_n (wp_ret (then_r ?_)))
   obtain rfl := Option.some.inj h
   exact f_ret S Tryz.results52 rfl rfl
  ·replace h := iteF h hb2
   refine wp_skip (then_n (f_seq (f_region (lv S (rn_assign rfl) rfl ?_)))); clear S; intro a S
   refine l_done (then_n (wp_ret ?_))
   obtain rfl := Option.some.inj h
   exact f_ret S Tryz.results52 rfl rfl
theorem slices_Index_string_ok (w : World) (v_p_s : Value) (p_s : List ByteArray) (hs_p_s : Slc (view w []) 1 v_p_s (p_s.map eStr)) (p_v : ByteArray) (r : Int) (h : slices_Index_string p_s p_v = r) :
    Calls Tryz.prog 99 [v_p_s, sV p_v].toArray w (Ret w [] fun _ v _ => v = iV r) := by
 refine f_enter [] [] Tryz.func99 rfl Tryz.ntmps99 rfl (by simp) (by simp [fps]) (by simp [fps]) fun a S => ?_
 unfold slices_Index_string at h
 replace S := S.nk [] [(0, v_p_s), (1, sV p_v)] [] rfl (subR rfl)
 refine f_seq (f_region (lv S (rn_assign rfl) rfl ?_)); clear S; intro a S
 refine l_done (then_n (f_seq (f_seq (f_region (lv S (rn_move (S.tm rfl)) rfl ?_))))); clear S; intro a S
 refine lv S (rn_lenT sl_47 (S.tm rfl) (slc_len hs_p_s)) rfl ?_; clear S; intro a S
 refine lv S (rn_move rfl) rfl ?_; clear S; intro a S
 refine l_done (then_n ?_)
 replace S := S.nk [] [(0, v_p_s), (1, sV p_v), (7, iV (p_s.length : Int)), (8, iV 0)] [] rfl (subR rfl)
 obtain ⟨j1, hj1, h⟩ := joinE h
 refine f_join (fun a w' => j1 = r ∧ Sx w [] nov [] [] 19 a w') ?_ ?_
 ·refine wp_block (f_loop (fun (ys1 : List ByteArray) a w' => ∃ i1 : Nat, (∃ dn, p_s = dn ++ ys1 ∧ dn.length = i1) ∧ slices_Index_string_l1 p_v j1 ys1 i1 = r ∧ Sx w [] nov [] [(0, v_p_s), (1, sV p_v), (7, iV (p_s.length : Int)), (8, iV (i1 : Int))] 19 a w') List.length p_s ⟨0, ⟨[], rfl, rfl⟩, h, S.nf [] rfl (subR rfl)⟩ ?_)
  clear S h; rintro ys1 a w1 ⟨i1, ⟨dn, hd1, hi1⟩, h, S⟩
  cases ys1 with
  | nil =>
   rw [slices_Index_string_l1.eq_1] at h
   refine f_seq (f_region (lv S (rn_lss (S.tm rfl) (S.tm rfl)) rfl ?_)); clear S; intro a S
   refine l_done ?_
   replace S := S.nk [] [(0, v_p_s), (1, sV p_v), (7, iV (p_s.length : Int)), (8, iV (i1 : Int)), (9, bV (decide ((i1 : Int) < (p_s.length : Int))))] [] rfl (subR rfl)
   refine then_n (f_seq (wp_cond_false ((S.tm rfl).trans (congrArg Value.bool (rng_nil hd1 hi1))) (wp_exit (then_x (then_x (x_same ?_))))))
   refine then_n ?_
   exact ⟨h, S.nf [] rfl trivial⟩
  | cons y1 ys1 =>
   rw [slices_Index_string_l1.eq_2] at h
   refine f_seq (f_region (lv S (rn_lss (S.tm rfl) (S.tm rfl)) rfl ?_)); clear S; intro a S
   refine l_done ?_
   replace S := S.nk [] [(0, v_p_s), (1, sV p_v), (7, iV (p_s.length : Int)), (8, iV (i1 : Int)), (9, bV (decide ((i1 : Int) < (p_s.length : Int))))] [] rfl (subR rfl)
   refine then_n (f_seq (wp_cond_true ((S.tm rfl).trans (congrArg Value.bool (rng_cons hd1 hi1))) (wp_skip (then_n (f_seq (wp_block ?_))))))
   refine f_seq (f_region (lv S (rn_move (S.tm rfl)) rfl ?_)); clear S; intro a S
   refine lv S (rn_assign (S.tm rfl)) rfl ?_; clear S; intro a S
   refine l_done (then_n (f_seq (f_region (lv S (rn_move (S.tm rfl)) rfl ?_)))); clear S; intro a S
   refine lv S (rn_move (S.tm rfl)) rfl ?_; clear S; intro a S
   refine lv S (rn_move (S.tm rfl)) rfl ?_; clear S; intro a S
   obtain ⟨b1, o1, hm1, hr1⟩ := rn_indexT (a := a) (x := .tmp 12) (y := .tmp 13) (ty := 0) sl_47 hs_p_s (get_mid hd1 hi1) rfl (S.tm rfl) (S.tm rfl)
   refine lv S (hr1 _) rfl ?_; clear S; intro a S
   clear hr1
   refine lv S (rn_ld Tryz.isAgg9 (off := o1) (o := 0) (S.tm rfl) (hm1.at S.emb0) rfl) rfl ?_; clear S; intro a S
   refine lv S (rn_seql (S.tm rfl) (S.tm rfl)) rfl ?_; clear S; intro a S
   refine l_done (then_n (f_cond (S.tm rfl) (fun hb1 => ?_) (fun hb1 => ?_)))
   ·replace h := iteT h hb1
    refine f_seq (f_region (lv S (rn_move (S.tm rfl)) rfl ?_)); clear S; intro a S
    refine lv S (rn_assign (S.tm rfl)) rfl ?_; clear S; intro a S
    refine l_done ?_
    replace S := S.nk [] [(4, iV (i1 : Int))] [] rfl ⟨rfl, trivial⟩
    refine then_n (wp_ret (blk_r (then_r (then_r (blk_r (then_r ?_))))))
    refine then_r ?_
    subst h
    exact f_ret S Tryz.results99 rfl rfl
   ·replace h := iteF h hb1
    refine wp_skip (blk_n (then_n (f_region (lv S (rn_add (S.tm rfl) rfl) rfl ?_)))); clear S; intro a S
    refine lv S (rn_move (S.tm rfl)) rfl ?_; clear S; intro a S
    refine l_done (then_n ?_)
    exact ⟨ys1, ⟨i1 + 1, ⟨_, (hd1).trans (List.append_cons _ _ _), by simp [hi1]⟩, h, S.nf [] rfl ⟨rfl, rfl, rfl, (congrArg (fun z => some (Value.int .i64 z)) (rng_next hd1 hi1 (slc_max hs_p_s))), trivial⟩⟩, Nat.lt_succ_self _⟩
 clear S h; rintro a w2 ⟨h, S⟩; rw [hj1] at h; clear hj1 j1
 refine then_n (f_seq (f_region (lv S (rn_assign rfl) rfl ?_))); clear S; intro a S
 refine l_done (then_n (wp_ret ?_))
 subst h
 exact f_ret S Tryz.results99 rfl rfl
theorem slices_Contains_string_ok (w : World) (v_p_s : Value) (p_s : List ByteArray) (hs_p_s : Slc (view w []) 1 v_p_s (p_s.map eStr)) (p_v : ByteArray) (r : Bool) (h : slices_Contains_string p_s p_v = r) :
    Calls Tryz.prog 76 [v_p_s, sV p_v].toArray w (Ret w [] fun _ v _ => v = bV r) := by
 refine f_enter [] [] Tryz.func76 rfl Tryz.ntmps76 rfl (by simp) (by simp [fps]) (by simp [fps]) fun a S => ?_
 unfold slices_Contains_string at h
 replace S := S.nk [] [(0, v_p_s), (1, sV p_v)] [] rfl (subR rfl)
 refine f_seq (f_region (lv S (rn_assign rfl) rfl ?_)); clear S; intro a S
 refine l_done (then_n (f_seq (f_region (lv S (rn_move (S.tm rfl)) rfl ?_)))); clear S; intro a S
 refine lv S (rn_move (S.tm rfl)) rfl ?_; clear S; intro a S
 refine l_enter S (fun _ => run_call (vs := [v_p_s, sV p_v]) ⟨(S.tm rfl), (S.tm rfl), trivial⟩ Tryz.call99) (slices_Index_string_ok _ v_p_s p_s (hs_p_s.mono (S.le_arg nil_sub)) p_v _ rfl) rfl ?_; clear S; intro v1 a w1 hv1 hk1 hn1 S
 subst hv1
 refine lv S (rn_geq (S.tm rfl) rfl) rfl ?_; clear S; intro a S
 refine lv S (rn_assign (S.tm rfl)) rfl ?_; clear S; intro a S
 refine l_done (then_n (wp_ret ?_))
 subst h
 exact f_ret S Tryz.results76 rfl rfl
theorem record_isFor_ok (w : World) (p_k : GKind) (q_p_k : R80) (hq_p_k : rel_80 (view w []) p_k q_p_k) (p_s : GStep) (r : Bool) (h : record_isFor p_k p_s = r) :
    Calls Tryz.prog 53 [.agg (R80.enc q_p_k).toArray, .agg (GStep.enc p_s).toArray].toArray w (Ret w [] fun _ v _ => v = bV r) := by
 obtain ⟨u1, rfl, hs1⟩ := hq_p_k
 refine f_enter [] [] Tryz.func53 rfl Tryz.ntmps53 rfl (by simp) (by simp [fps]) (by simp [fps]) fun a S => ?_
 unfold record_isFor at h
 replace S := S.nk [] [(0, .agg #[sV p_k.Key, sV p_k.Race, u1.val, iV p_k.Young, iV p_k.Old]), (1, .agg (GStep.enc p_s).toArray)] [] rfl (subR rfl)
 refine f_seq (f_region (l_box S (S.tm rfl) (cs := [sV p_k.Key, sV p_k.Race, u1.val, iV p_k.Young, iV p_k.Old]) rfl rfl ?_)); clear S; intro a w1 b1 hz1 hk1 S
 refine l_box S (S.tm rfl) (cs := (GStep.enc p_s)) rfl rfl ?_; clear S; intro a w2 b2 hz2 hk2 S
 refine lv S (rn_assign rfl) rfl ?_; clear S; intro a S
 refine l_done (then_n (f_seq (f_region (lv S (rn_fld fa_83_5 (S.tm rfl)) rfl ?_)))); clear S; intro a S
 refine lv S (rn_load Tryz.isAgg9 (S.tm rfl) (S.cell (i := 0) rfl rfl)) rfl ?_; clear S; intro a S
 refine lv S (rn_fld fa_80_1 (S.tm rfl)) rfl ?_; clear S; intro a S
 refine lv S (rn_load Tryz.isAgg9 (S.tm rfl) (S.cell (i := 1) rfl rfl)) rfl ?_; clear S; intro a S
 refine lv S (rn_seql (S.tm rfl) (S.tm rfl)) rfl ?_; clear S; intro a S
 refine lv S (rn_move (S.tm rfl)) rfl ?_; clear S; intro a S
 refine f_cutm 12 (fun a w' => Keep [] w2 w' ∧ Sx w [] nov [.blk b2 (GStep.enc p_s) 83, .blk b1 [sV p_k.Key, sV p_k.Race, u1.val, iV p_k.Young, iV p_k.Old] 80] [(2, .pointer (some ⟨b1, 0, none⟩)), (3, .pointer (some ⟨b2, 0, none⟩)), (22, bV ((decide (p_s.Race = p_k.Race)) && ((decide ((p_k.Clubs.length : Int) = 0)) || (slices_Contains_string p_k.Clubs p_s.Club))))] 32 a w') ?_ ?_
 ·rcases Bool.eq_false_or_eq_true (decide (p_s.Race = p_k.Race)) with hb1 | hb1
  ·refine l_want S rfl rfl rfl hb1 (lv S (rn_fld fa_80_2 (S.tm rfl)) rfl ?_); clear S; intro a S
   refine l_want S rfl rfl rfl hb1 (lv S (rn_load Tryz.isAgg47 (S.tm rfl) (S.cell (i := 1) rfl rfl)) rfl ?_); clear S; intro a S
   refine l_want S rfl rfl rfl hb1 (lv S (rn_lenT sl_47 (S.tm rfl) (slc_len hs1)) rfl ?_); clear S; intro a S
   refine l_want S rfl rfl rfl hb1 (lv S (rn_eql (S.tm rfl) rfl) rfl ?_); clear S; intro a S
   refine l_want S rfl rfl rfl hb1 (lv S (rn_move (S.tm rfl)) rfl ?_); clear S; intro a S
   refine f_cutm 6 (fun a w' => Keep [] w2 w' ∧ Sx w [] nov [.blk b2 (GStep.enc p_s) 83, .blk b1 [sV p_k.Key, sV p_k.Race, u1.val, iV p_k.Young, iV p_k.Old] 80] [(2, .pointer (some ⟨b1, 0, none⟩)), (3, .pointer (some ⟨b2, 0, none⟩)), (10, bV (decide (p_s.Race = p_k.Race))), (21, bV ((decide ((p_k.Clubs.length : Int) = 0)) || (slices_Contains_string p_k.Clubs p_s.Club)))] 32 a w') ?_ ?_
   ·rcases Bool.eq_false_or_eq_true (decide ((p_k.Clubs.length : Int) = 0)) with hb2 | hb2
    ·iterate 5 (refine l_skip S rfl rfl rfl (neq_t hb2) rfl ?_ rfl; clear S; intro a S)
     refine l_want S rfl rfl rfl hb1 (lv S (rn_or_t (slices_Contains_string p_k.Clubs p_s.Club) hb2 (S.tm rfl) rfl) rfl ?_); clear S; intro a S
     refine l_done (then_n ?_)
     exact ⟨Keep.refl _ _, S.nf [true, true] rfl (subR rfl)⟩
    ·refine l_want S rfl rfl rfl hb2 (lv S (rn_fld fa_80_2 (S.tm rfl)) rfl ?_); clear S; intro a S
     refine l_want S rfl rfl rfl hb2 (lv S (rn_load Tryz.isAgg47 (S.tm rfl) (S.cell (i := 1) rfl rfl)) rfl ?_); clear S; intro a S
     refine l_want S rfl rfl rfl hb2 (lv S (rn_fld fa_83_4 (S.tm rfl)) rfl ?_); clear S; intro a S
     refine l_want S rfl rfl rfl hb2 (lv S (rn_load Tryz.isAgg9 (S.tm rfl) (S.cell (i := 0) rfl rfl)) rfl ?_); clear S; intro a S
     refine l_want S rfl rfl rfl hb2 (l_enter S (fun _ => run_call (vs := [u1.val, sV p_s.Club]) ⟨(S.tm rfl), (S.tm rfl), trivial⟩ Tryz.call76) (slices_Contains_string_ok _ u1.val p_k.Clubs (hs1.mono (S.le_arg nil_sub)) p_s.Club _ rfl) rfl ?_); clear S; intro v1 a w5 hv1 hk3 hn1 S
     subst hv1
     refine l_want S rfl rfl rfl hb1 (lv S (rn_or_f hb2 (S.tm rfl) (S.tm rfl)) rfl ?_); clear S; intro a S
     refine l_done (then_n ?_)
     exact ⟨hk3, S.nf [true, true] rfl (subR rfl)⟩
   clear S; rintro a w4 ⟨hk4, S⟩
   refine lv S (rn_and_t hb1 (S.tm rfl) (S.tm rfl)) rfl ?_; clear S; intro a S
   refine l_done (then_n ?_)
   exact ⟨hk4, S.nf [true, true] rfl (subR rfl)⟩
  ·iterate 5 (refine l_skip S rfl rfl rfl (neq_f hb1) rfl ?_ rfl; clear S; intro a S)
   iterate 5 (refine l_skipU S rfl rfl rfl rfl ?_; clear S; intro a S)
   refine l_skip S rfl rfl rfl (neq_f hb1) rfl ?_ rfl; clear S; intro a S
   refine lv S (rn_and_f ((decide ((p_k.Clubs.length : Int) = 0)) || (slices_Contains_string p_k.Clubs p_s.Club)) hb1 (S.tm rfl) rfl) rfl ?_; clear S; intro a S
   refine l_done (then_n ?_)
   exact ⟨Keep.refl _ _, S.nf [true, true] rfl (subR rfl)⟩
 clear S; rintro a w3 ⟨hk5, S⟩
 refine lv S (rn_move (S.tm rfl)) rfl ?_; clear S; intro a S
 refine f_cutm 8 (fun a w' => Keep [] w3 w' ∧ Sx w [] nov [.blk b2 (GStep.enc p_s) 83, .blk b1 [sV p_k.Key, sV p_k.Race, u1.val, iV p_k.Young, iV p_k.Old] 80] [(31, bV (((decide (p_s.Race = p_k.Race)) && ((decide ((p_k.Clubs.length : Int) = 0)) || (slices_Contains_string p_k.Clubs p_s.Club))) && (words_Within p_s.Age p_k.Young p_k.Old)))] 32 a w') ?_ ?_
 ·rcases Bool.eq_false_or_eq_true ((decide (p_s.Race = p_k.Race)) && ((decide ((p_k.Clubs.length : Int) = 0)) || (slices_Contains_string p_k.Clubs p_s.Club))) with hb3 | hb3
  ·refine l_want S rfl rfl rfl hb3 (lv S (rn_fld fa_83_6 (S.tm rfl)) rfl ?_); clear S; intro a S
   refine l_want S rfl rfl rfl hb3 (lv S (rn_load Tryz.isAgg3 (S.tm rfl) (S.cell (i := 0) rfl rfl)) rfl ?_); clear S; intro a S
   refine l_want S rfl rfl rfl hb3 (lv S (rn_fld fa_80_3 (S.tm rfl)) rfl ?_); clear S; intro a S
   refine l_want S rfl rfl rfl hb3 (lv S (rn_load Tryz.isAgg3 (S.tm rfl) (S.cell (i := 1) rfl rfl)) rfl ?_); clear S; intro a S
   refine l_want S rfl rfl rfl hb3 (lv S (rn_fld fa_80_4 (S.tm rfl)) rfl ?_); clear S; intro a S
   refine l_want S rfl rfl rfl hb3 (lv S (rn_load Tryz.isAgg3 (S.tm rfl) (S.cell (i := 1) rfl rfl)) rfl ?_); clear S; intro a S
   refine l_want S rfl rfl rfl hb3 (l_enter S (fun _ => run_call (vs := [iV p_s.Age, iV p_k.Young, iV p_k.Old]) ⟨(S.tm rfl), (S.tm rfl), (S.tm rfl), trivial⟩ Tryz.call41) (words_Within_ok _ p_s.Age p_k.Young p_k.Old _ rfl) rfl ?_); clear S; intro v2 a w7 hv2 hk6 hn2 S
   subst hv2
   refine lv S (rn_and_t hb3 (S.tm rfl) (S.tm rfl)) rfl ?_; clear S; intro a S
   refine l_done (then_n ?_)
   exact ⟨hk6, S.nf [true, true] rfl ⟨rfl, trivial⟩⟩
  ·iterate 7 (refine l_skip S rfl rfl rfl (neq_f hb3) rfl ?_ rfl; clear S; intro a S)
   refine lv S (rn_and_f (words_Within p_s.Age p_k.Young p_k.Old) hb3 (S.tm rfl) rfl) rfl ?_; clear S; intro a S
   refine l_done (then_n ?_)
   exact ⟨Keep.refl _ _, S.nf [true, true] rfl ⟨rfl, trivial⟩⟩
 clear S; rintro a w6 ⟨hk7, S⟩
 refine lv S (rn_assign (S.tm rfl)) rfl ?_; clear S; intro a S
 refine l_done (then_n (wp_ret ?_))
 subst h
 exact f_ret S Tryz.results53 rfl rfl
theorem record_For_ok (w : World) (v_p_l : Value) (p_l : List GKind) (rs_p_l : List R80) (hs_p_l : Slc (view w []) 5 v_p_l (rs_p_l.map R80.enc)) (hr_p_l : All2 (rel_80 (view w [])) p_l rs_p_l) (p_s : GStep) (r : (List ByteArray) × Int) (h : record_For p_l p_s = some r) :
    Calls Tryz.prog 27 [v_p_l, .agg (GStep.enc p_s).toArray].toArray w (Ret w [] fun τ v _ => ∃ u1 : Value, v = .tuple #[u1, iV r.2] ∧ OwnV τ 9 1 u1 r.1.length (r.1.flatMap eStr)) := by
 refine f_enter [] [] Tryz.func27 rfl Tryz.ntmps27 rfl (by simp) (by simp [fps]) (by simp [fps]) fun a S => ?_
 unfold record_For at h
 replace S := S.nk [] [(0, v_p_l), (1, .agg (GStep.enc p_s).toArray)] [] rfl (subR rfl)
 refine f_seq (f_region (l_box S (S.tm rfl) (cs := (GStep.enc p_s)) rfl rfl ?_)); clear S; intro a w1 b1 hz1 hk1 S
 refine lv S (rn_assign rfl) rfl ?_; clear S; intro a S
 refine lv S (rn_assign rfl) rfl ?_; clear S; intro a S
 refine l_done (then_n (f_seq (f_seq (f_region (lv S (rn_move (S.tm rfl)) rfl ?_))))); clear S; intro a S
 obtain ⟨r1, hr1, h⟩ := bindE h
 refine l_enter S (fun _ => run_call (vs := [v_p_l]) ⟨(S.tm rfl), trivial⟩ Tryz.call51) (record_CheckKinds_ok _ v_p_l p_l rs_p_l (hs_p_l.mono (S.le_arg nil_sub)) (rels_80 (S.le_arg nil_sub) hr_p_l) _ hr1) rfl ?_; clear S; intro v1 a w2 hv1 hk2 hn1 S
 subst hv1
 refine lv S (rn_assign (S.tm rfl)) rfl ?_; clear S; intro a S
 refine l_done (then_n (f_seq (f_region (lv S (rn_move (S.tm rfl)) rfl ?_)))); clear S; intro a S
 refine lv S (rn_neq (S.tm rfl) rfl) rfl ?_; clear S; intro a S
 refine l_done (then_n (f_cond (S.tm rfl) (fun hb1 => ?_) (fun hb1 => ?_)))
 ·replace h := iteT h hb1
  refine f_seq (f_region (lv S (rn_move (S.tm rfl)) rfl ?_)); clear S; intro a S
  refine lv S (rn_assign rfl) rfl ?_; clear S; intro a S
  refine lv S (rn_assign (S.tm rfl)) rfl ?_; clear S; intro a S
  refine l_done (then_n (wp_ret (then_r ?_)))
  obtain rfl := Option.some.inj h
  exact f_ret2 S Tryz.results27 rfl rfl ⟨_, rfl, (ownV_nil _ _ _)⟩
 ·replace h := iteF h hb1
  refine wp_skip (then_n (f_seq (f_seq (f_region (lv S (rn_ldA Tryz.isAgg83 Tryz.sizeOf83 (off := 0) (o := 0) (part := (GStep.enc p_s)) rfl rfl (S.tm rfl) (S.cellsAt (i := 0) rfl)) rfl ?_))))); clear S; intro a S
  obtain ⟨r2, hr2, h⟩ := bindE h
  refine l_enter S (fun _ => run_call (vs := [.agg (GStep.enc p_s).toArray]) ⟨(S.tm rfl), trivial⟩ Tryz.call52) (record_checkSwum_ok _ p_s _ hr2) rfl ?_; clear S; intro v2 a w3 hv2 hk3 hn2 S
  subst hv2
  refine lv S (rn_assign (S.tm rfl)) rfl ?_; clear S; intro a S
  refine l_done (then_n (f_seq (f_region (lv S (rn_move (S.tm rfl)) rfl ?_)))); clear S; intro a S
  refine lv S (rn_neq (S.tm rfl) rfl) rfl ?_; clear S; intro a S
  refine l_done ?_
  replace S := S.nk [.blk b1 (GStep.enc p_s) 83] [(0, v_p_l), (3, .pointer (some ⟨b1, 0, none⟩)), (7, iV r2), (19, bV (!decide (r2 = 0)))] [true] rfl (subR rfl)
  refine then_n (f_cond (S.tm rfl) (fun hb2 => ?_) (fun hb2 => ?_))
  ·replace h := iteT h hb2
   refine f_seq (f_region (lv S (rn_move (S.tm rfl)) rfl ?_)); clear S; intro a S
   refine lv S (rn_assign rfl) rfl ?_; clear S; intro a S
   refine lv S (rn_assign (S.tm rfl)) rfl ?_; clear S; intro a S
   refine l_done (then_n (wp_ret (then_r ?_)))
   obtain rfl := Option.some.inj h
   exact f_ret2 S Tryz.results27 rfl rfl ⟨_, rfl, (ownV_nil _ _ _)⟩
  ·replace h := iteF h hb2
   refine wp_skip (then_n (f_seq (f_region (lv S (rn_assign rfl) rfl ?_)))); clear S; intro a S
   replace S := S.nil 9 1
   refine l_done (then_n (f_seq (f_seq (f_region (lv S (rn_move (S.tm rfl)) rfl ?_))))); clear S; intro a S
   refine lv S (rn_lenT sl_81 (S.tm rfl) (slc_lenD hs_p_l hr_p_l)) rfl ?_; clear S; intro a S
   refine lv S (rn_move rfl) rfl ?_; clear S; intro a S
   refine l_done (then_n ?_)
   replace S := S.nk [.own (.slice none 0 0) 9 1 ([] : List ByteArray).length (([] : List ByteArray).flatMap eStr), .blk b1 (GStep.enc p_s) 83] [(3, .pointer (some ⟨b1, 0, none⟩)), (8, (.slice none 0 0)), (21, v_p_l), (22, iV (p_l.length : Int)), (23, iV 0)] [true, true] rfl (subR rfl)
   obtain ⟨j1, hj1, h⟩ := joinE h
   refine f_join (fun a w' => ∃ x1 : List ByteArray, ∃ v3 : Value, j1 x1 = some r ∧ Sx w [] nov [.own v3 9 1 x1.length (x1.flatMap eStr), .blk b1 (GStep.enc p_s) 83] [(8, v3)] 37 a w') ?_ ?_
   ·refine wp_block (f_loop (fun (ys1 : List GKind) a w' => ∃ i1 : Nat, ∃ x1 : List ByteArray, ∃ v3 : Value, (∃ dn, p_l = dn ++ ys1 ∧ dn.length = i1) ∧ record_For_l1 p_s j1 ys1 i1 x1 = some r ∧ Sx w [] nov [.own v3 9 1 x1.length (x1.flatMap eStr), .blk b1 (GStep.enc p_s) 83] [(3, .pointer (some ⟨b1, 0, none⟩)), (8, v3), (21, v_p_l), (22, iV (p_l.length : Int)), (23, iV (i1 : Int))] 37 a w') List.length p_l ⟨0, ([] : List ByteArray), (.slice none 0 0), ⟨[], rfl, rfl⟩, h, S.nf [true, true] rfl (subR rfl)⟩ ?_)
    clear S h; rintro ys1 a w4 ⟨i1, x1, v3, ⟨dn, hd1, hi1⟩, h, S⟩
    cases ys1 with
    | nil =>
     rw [record_For_l1.eq_1] at h
     refine f_seq (f_region (lv S (rn_lss (S.tm rfl) (S.tm rfl)) rfl ?_)); clear S; intro a S
     refine l_done ?_
     replace S := S.nk [.own v3 9 1 x1.length (x1.flatMap eStr), .blk b1 (GStep.enc p_s) 83] [(3, .pointer (some ⟨b1, 0, none⟩)), (8, v3), (21, v_p_l), (22, iV (p_l.length : Int)), (23, iV (i1 : Int)), (24, bV (decide ((i1 : Int) < (p_l.length : Int))))] [true, true] rfl (subR rfl)
     refine then_n (f_seq (wp_cond_false ((S.tm rfl).trans (congrArg Value.bool (rng_nil hd1 hi1))) (wp_exit (then_x (then_x (x_same ?_))))))
     refine then_n ?_
     exact ⟨x1, v3, h, S.nf [true, true] rfl ⟨rfl, trivial⟩⟩
    | cons y1 ys1 =>
     rw [record_For_l1.eq_2] at h
     refine f_seq (f_region (lv S (rn_lss (S.tm rfl) (S.tm rfl)) rfl ?_)); clear S; intro a S
     refine l_done ?_
     replace S := S.nk [.own v3 9 1 x1.length (x1.flatMap eStr), .blk b1 (GStep.enc p_s) 83] [(3, .pointer (some ⟨b1, 0, none⟩)), (8, v3), (21, v_p_l), (22, iV (p_l.length : Int)), (23, iV (i1 : Int)), (24, bV (decide ((i1 : Int) < (p_l.length : Int))))] [true, true] rfl (subR rfl)
     refine then_n (f_seq (wp_cond_true ((S.tm rfl).trans (congrArg Value.bool (rng_cons hd1 hi1))) (wp_skip (then_n (f_seq ?_)))))
     obtain ⟨j2, hj2, h⟩ := joinE h
     refine f_join (fun a w' => ∃ x2 : List ByteArray, ∃ v4 : Value, j2 x2 = some r ∧ Sx w [] nov [.own v4 9 1 x2.length (x2.flatMap eStr), .blk b1 (GStep.enc p_s) 83] [(3, .pointer (some ⟨b1, 0, none⟩)), (8, v4), (21, v_p_l), (22, iV (p_l.length : Int)), (23, iV (i1 : Int))] 37 a w') ?_ ?_
     ·refine wp_block (f_seq (f_region ?_))
      obtain ⟨r3, hg1, hl1⟩ := All2.at hr_p_l (get_mid hd1 hi1)
      obtain ⟨u1, rfl, hs1⟩ := hl1
      obtain ⟨b2, o1, hm1, hr3⟩ := rn_indexT (a := a) (x := .tmp 21) (y := .tmp 23) (ty := 0) sl_81 hs_p_l hg1 rfl (S.tm rfl) (S.tm rfl)
      refine lv S (hr3 _) rfl ?_; clear S; intro a S
      clear hr3
      refine lv S (rn_ldA Tryz.isAgg80 Tryz.sizeOf80 (off := o1) (o := 0) (part := [sV y1.Key, sV y1.Race, u1.val, iV y1.Young, iV y1.Old]) rfl rfl (S.tm rfl) (hm1.at S.emb0)) rfl ?_; clear S; intro a S
      refine l_alloc S Tryz.zeroValue80 (cs := [sV k_empty, sV k_empty, .slice none 0 0, iV 0, iV 0]) rfl rfl ?_; clear S; intro a w7 b3 hz2 hk4 S
      refine l_store S (S.tm rfl) (S.tm rfl) (i := 0) (off := 0) rfl Tryz.sizeOf80 (vs := [sV y1.Key, sV y1.Race, u1.val, iV y1.Young, iV y1.Old]) rfl rfl rfl (all1 rfl (all1 rfl (all1 (SlcLen.one (slc_len hs1)) (all1 rfl (all1 rfl rfl))))) ?_; clear S; intro w8 hk5 S
      refine l_done (then_n (f_seq (f_region (lv S (rn_ldA Tryz.isAgg80 Tryz.sizeOf80 (off := 0) (o := 0) (part := [sV y1.Key, sV y1.Race, u1.val, iV y1.Young, iV y1.Old]) rfl rfl (S.tm rfl) (S.cellsAt (i := 0) rfl)) rfl ?_)))); clear S; intro a S
      refine lv S (rn_ldA Tryz.isAgg83 Tryz.sizeOf83 (off := 0) (o := 0) (part := (GStep.enc p_s)) rfl rfl (S.tm rfl) (S.cellsAt (i := 2) rfl)) rfl ?_; clear S; intro a S
      refine l_enter S (fun _ => run_call (vs := [.agg (R80.enc (R80.mk y1.Key y1.Race u1 y1.Young y1.Old)).toArray, .agg (GStep.enc p_s).toArray]) ⟨(S.tm rfl), (S.tm rfl), trivial⟩ Tryz.call53) (record_isFor_ok _ y1 (R80.mk y1.Key y1.Race u1 y1.Young y1.Old) ⟨u1, rfl, (hs1.mono (S.le_arg nil_sub))⟩ p_s _ rfl) rfl ?_; clear S; intro v5 a w9 hv3 hk6 hn3 S
      subst hv3
      refine l_done (then_n ?_)
      obtain ⟨j3, hj3, h⟩ := joinE h
      refine f_join (fun a w' => ∃ x3 : List ByteArray, ∃ v6 : Value, j3 x3 = some r ∧ Sx w [] nov [.own v6 9 1 x3.length (x3.flatMap eStr), .blk b1 (GStep.enc p_s) 83] [(3, .pointer (some ⟨b1, 0, none⟩)), (8, v6), (21, v_p_l), (22, iV (p_l.length : Int)), (23, iV (i1 : Int))] 37 a w') ?_ ?_
      ·refine f_cond (S.tm rfl) (fun hb3 => ?_) (fun hb3 => ?_)
       ·replace h := iteT h hb3
        refine f_region (lv S (rn_move (S.tm rfl)) rfl ?_); clear S; intro a S
        refine lv S (rn_fld fa_80_0 (S.tm rfl)) rfl ?_; clear S; intro a S
        refine lv S (rn_load Tryz.isAgg9 (S.tm rfl) (S.cell (i := 0) rfl rfl)) rfl ?_; clear S; intro a S
        refine l_buildSlice S Tryz.underlying47 Tryz.sizeOf9 Tryz.zeroValue9 rfl rfl (pv := [(0, sV y1.Key)]) ⟨rfl, (S.tm rfl), trivial⟩ (cs := [sV y1.Key]) (by kernel_rfl) rfl ?_; clear S; intro a w11 b4 hz3 hk7 S
        obtain ⟨hc1, h⟩ := chkE h
        refine l_appendT sl_47 enc_str S (S.tm rfl) (i := 2) rfl (S.tm rfl) (j := 0) rfl (ys := [y1.Key]) rfl rfl rfl rfl (by have := room_lt hc1; omega) rfl ?_; clear S; intro v7 a w12 hk8 S
        refine lv S (rn_assign (S.tm rfl)) rfl ?_; clear S; intro a S
        refine l_done ?_
        replace S := S.nk [.own v7 9 1 (x1 ++ [y1.Key]).length ((x1 ++ [y1.Key]).flatMap eStr), .blk b1 (GStep.enc p_s) 83] [(3, .pointer (some ⟨b1, 0, none⟩)), (8, v7), (21, v_p_l), (22, iV (p_l.length : Int)), (23, iV (i1 : Int))] [false, false, true, true] rfl (subR rfl)
        refine then_n ?_
        exact ⟨(x1 ++ [y1.Key]), v7, h, S.nf [true, true] rfl (subR rfl)⟩
       ·replace h := iteF h hb3
        refine wp_skip (then_n ?_)
        exact ⟨x1, v3, h, S.nf [false, true, true] rfl (subR rfl)⟩
      clear S h; rintro a w10 ⟨x3, v6, h, S⟩; rw [hj3] at h; clear hj3 j3
      refine blk_n (then_n ?_)
      exact ⟨x3, v6, h, S.nf [true, true] rfl (subR rfl)⟩
     clear S h; rintro a w6 ⟨x2, v4, h, S⟩; rw [hj2] at h; clear hj2 j2
     refine then_n (f_region (lv S (rn_add (S.tm rfl) rfl) rfl ?_)); clear S; intro a S
     refine lv S (rn_move (S.tm rfl)) rfl ?_; clear S; intro a S
     refine l_done (then_n ?_)
     exact ⟨ys1, ⟨i1 + 1, x2, v4, ⟨_, (hd1).trans (List.append_cons _ _ _), by simp [hi1]⟩, h, S.nf [true, true] rfl ⟨rfl, rfl, rfl, rfl, (congrArg (fun z => some (Value.int .i64 z)) (rng_next hd1 hi1 (slc_maxD hs_p_l hr_p_l))), trivial⟩⟩, Nat.lt_succ_self _⟩
   clear S h; rintro a w5 ⟨x1, v3, h, S⟩; rw [hj1] at h; clear hj1 j1
   refine then_n (f_seq (f_region (lv S (rn_move (S.tm rfl)) rfl ?_))); clear S; intro a S
   refine lv S (rn_assign (S.tm rfl)) rfl ?_; clear S; intro a S
   refine lv S (rn_assign rfl) rfl ?_; clear S; intro a S
   refine l_done (then_n (wp_ret ?_))
   obtain rfl := Option.some.inj h
   exact f_ret2 S Tryz.results27 rfl rfl ⟨_, rfl, (own_retT S (i := 0) rfl rfl)⟩
theorem tumbkeep2_ready_ok (w : World) (r : Bool) (h : tumbkeep2_ready = some r) :
    Calls Tryz.prog 11 [].toArray w (Ret w [] fun _ v _ => v = bV r) := by
 refine f_enter [] [] Tryz.func11 rfl Tryz.ntmps11 rfl (by simp) (by simp [fps]) (by simp [fps]) fun a S => ?_
 unfold tumbkeep2_ready at h
 replace S := S.nk [] [] [] rfl trivial
 refine f_seq (f_region (lv S (rn_assign rfl) rfl ?_)); clear S; intro a S
 refine l_done (then_n (f_seq (f_region (lv S (rn_bld bt_68 (pv := [(0, iV 2024), (1, iV 3), (2, iV 1)]) ⟨rfl, rfl, rfl, rfl, rfl, rfl, trivial⟩ (cs := [iV 2024, iV 3, iV 1]) (by kernel_rfl)) rfl ?_)))); clear S; intro a S
 obtain ⟨r1, hr1, h⟩ := bindE h
 refine l_enter S (fun _ => run_call (vs := [.agg (GDate.enc (GDate.mk 2024 3 1)).toArray]) ⟨(S.tm rfl), trivial⟩ Tryz.call24) (swimmer_DayOf_ok _ (GDate.mk 2024 3 1) _ hr1) rfl ?_; clear S; intro v1 a w1 hv1 hk1 hn1 S
 subst hv1
 refine lv S (rn_move (S.tm rfl)) rfl ?_; clear S; intro a S
 refine lv S (rn_extract (S.tm rfl) rfl) rfl ?_; clear S; intro a S
 refine lv S (rn_extract (S.tm rfl) rfl) rfl ?_; clear S; intro a S
 refine lv S (rn_assign (S.tm rfl)) rfl ?_; clear S; intro a S
 refine lv S (rn_assign (S.tm rfl)) rfl ?_; clear S; intro a S
 refine l_done (then_n (f_seq (f_region (lv S (rn_bld bt_71 (pv := [(0, sV k_a), (1, iV 2), (2, iV 10), (3, iV 5)]) ⟨rfl, rfl, rfl, rfl, rfl, rfl, rfl, rfl, trivial⟩ (cs := [sV k_a, iV 2, iV 10, iV 5, iV 0]) (by kernel_rfl)) rfl ?_)))); clear S; intro a S
 refine l_buildSlice S Tryz.underlying72 Tryz.sizeOf71 Tryz.zeroValue71 rfl rfl (pv := [(0, .agg #[sV k_a, iV 2, iV 10, iV 5, iV 0])]) ⟨rfl, (S.tm rfl), trivial⟩ (cs := [sV k_a, iV 2, iV 10, iV 5, iV 0]) (by kernel_rfl) rfl ?_; clear S; intro a w2 b1 hz1 hk2 S
 obtain ⟨r2, hr2, h⟩ := bindE h
 refine l_enter S (fun _ => run_call (vs := [.slice (some ⟨b1, 0, none⟩) 1 1, iV 0]) ⟨(S.tm rfl), rfl, trivial⟩ Tryz.call25) (session_Ends_ok _ (.slice (some ⟨b1, 0, none⟩) 1 1) [(GItem.mk k_a 2 10 5 0)] (lit_slcT GItem.enc_ok S (i := 0) rfl rfl rfl rfl ((ne_nil (e' := .blk b1 [sV k_a, iV 2, iV 10, iV 5, iV 0] 71)) _ rfl)) 0 _ hr2) rfl ?_; clear S; intro v2 a w3 hv2 hk3 hn2 S
 subst hv2
 refine lv S (rn_move (S.tm rfl)) rfl ?_; clear S; intro a S
 refine lv S (rn_extract (S.tm rfl) rfl) rfl ?_; clear S; intro a S
 refine lv S (rn_extract (S.tm rfl) rfl) rfl ?_; clear S; intro a S
 refine lv S (rn_assign (S.tm rfl)) rfl ?_; clear S; intro a S
 refine lv S (rn_assign (S.tm rfl)) rfl ?_; clear S; intro a S
 refine l_done ?_
 replace S := S.nk [] [(1, iV r1.1), (2, iV r1.2), (3, iV r2.1), (4, iV r2.2)] [false] rfl (subR rfl)
 refine then_n (f_seq (f_region (lv S (rn_bld bt_75 (pv := [(0, sV k_r), (1, iV 3000)]) ⟨rfl, rfl, rfl, rfl, trivial⟩ (cs := [sV k_r, iV 3000]) (by kernel_rfl)) rfl ?_))); clear S; intro a S
 refine l_buildSlice S Tryz.underlying76 Tryz.sizeOf75 Tryz.zeroValue75 rfl rfl (pv := [(0, .agg #[sV k_r, iV 3000])]) ⟨rfl, (S.tm rfl), trivial⟩ (cs := [sV k_r, iV 3000]) (by kernel_rfl) rfl ?_; clear S; intro a w4 b2 hz2 hk4 S
 obtain ⟨r3, hr3, h⟩ := bindE h
 refine l_enter S (fun _ => run_call (vs := [.slice (some ⟨b2, 0, none⟩) 1 1, sV k_r, iV 6000]) ⟨(S.tm rfl), rfl, rfl, trivial⟩ Tryz.call26) (points_ByTime_ok _ (.slice (some ⟨b2, 0, none⟩) 1 1) [(GBase.mk k_r 3000)] (lit_slcT GBase.enc_ok S (i := 0) rfl rfl rfl rfl ((ne_nil (e' := .blk b2 [sV k_r, iV 3000] 75)) _ rfl)) k_r 6000 _ hr3) rfl ?_; clear S; intro v3 a w5 hv3 hk5 hn3 S
 subst hv3
 refine lv S (rn_move (S.tm rfl)) rfl ?_; clear S; intro a S
 refine lv S (rn_extract (S.tm rfl) rfl) rfl ?_; clear S; intro a S
 refine lv S (rn_extract (S.tm rfl) rfl) rfl ?_; clear S; intro a S
 refine lv S (rn_assign (S.tm rfl)) rfl ?_; clear S; intro a S
 refine lv S (rn_assign (S.tm rfl)) rfl ?_; clear S; intro a S
 refine l_done (then_n (f_seq (f_region (lv S (rn_bld bt_80 (pv := [(0, sV k_k), (1, sV k_r), (4, iV 9)]) ⟨rfl, rfl, rfl, rfl, rfl, rfl, trivial⟩ (cs := [sV k_k, sV k_r, .slice none 0 0, iV 0, iV 9]) (by kernel_rfl)) rfl ?_)))); clear S; intro a S
 refine l_buildSlice S Tryz.underlying81 Tryz.sizeOf80 Tryz.zeroValue80 rfl rfl (pv := [(0, .agg #[sV k_k, sV k_r, .slice none 0 0, iV 0, iV 9])]) ⟨rfl, (S.tm rfl), trivial⟩ (cs := [sV k_k, sV k_r, .slice none 0 0, iV 0, iV 9]) (by kernel_rfl) rfl ?_; clear S; intro a w6 b3 hz3 hk6 S
 refine lv S (rn_bld bt_83 (pv := [(1, iV 1), (2, sV k_i), (3, sV k_a), (5, sV k_r), (7, iV 5)]) ⟨rfl, rfl, rfl, rfl, rfl, rfl, rfl, rfl, rfl, rfl, trivial⟩ (cs := [iV 0, iV 1, sV k_i, sV k_a, sV k_empty, sV k_r, iV 0, iV 5]) (by kernel_rfl)) rfl ?_; clear S; intro a S
 have hr4 : All2 (rel_80 nov) ([(GKind.mk k_k k_r ([] : List ByteArray) 0 9)] : List GKind) ([(R80.mk k_k k_r ⟨.slice none 0 0, rfl⟩ 0 9)] : List R80) := (All2.cons ⟨⟨.slice none 0 0, rfl⟩, rfl, (slc_nil _ _)⟩ All2.nil)
 replace S := S.litOwn (i := 0) (xs := ([(R80.mk k_k k_r ⟨.slice none 0 0, rfl⟩ 0 9)] : List R80)) rfl R80.enc_ok rfl rfl rfl
 replace S := S.nk [.own (.slice (some ⟨b3, 0, none⟩) 1 1) 80 5 ([(R80.mk k_k k_r ⟨.slice none 0 0, rfl⟩ 0 9)] : List R80).length (([(R80.mk k_k k_r ⟨.slice none 0 0, rfl⟩ 0 9)] : List R80).flatMap R80.enc), .blk b2 [sV k_r, iV 3000] 75] [(1, iV r1.1), (2, iV r1.2), (3, iV r2.1), (4, iV r2.2), (5, iV r3.1), (6, iV r3.2), (20, .tuple #[iV r3.1, iV r3.2]), (21, .agg #[sV k_r, iV 3000]), (22, .slice (some ⟨b2, 0, none⟩) 1 1), (23, .tuple #[iV r3.1, iV r3.2]), (24, iV r3.1), (25, iV r3.2), (27, .agg #[sV k_k, sV k_r, .slice none 0 0, iV 0, iV 9]), (28, (.slice (some ⟨b3, 0, none⟩) 1 1)), (29, .agg (GStep.enc (GStep.mk 0 1 k_i k_a k_empty k_r 0 5)).toArray)] [] rfl (subR rfl)
 obtain ⟨r4, hr5, h⟩ := bindE h
 have hz4 := S.keep.size
 refine l_enter S (fun _ => run_call (vs := [(.slice (some ⟨b3, 0, none⟩) 1 1), .agg (GStep.enc (GStep.mk 0 1 k_i k_a k_empty k_r 0 5)).toArray]) ⟨(S.tm rfl), (S.tm rfl), trivial⟩ Tryz.call27) (record_For_ok _ (.slice (some ⟨b3, 0, none⟩) 1 1) ([(GKind.mk k_k k_r ([] : List ByteArray) 0 9)] : List GKind) ([(R80.mk k_k k_r ⟨.slice none 0 0, rfl⟩ 0 9)] : List R80) (own_slcT R80.enc_ok S (i := 0) rfl (ne_nil (e' := .own (.slice (some ⟨b3, 0, none⟩) 1 1) 80 5 ([(R80.mk k_k k_r ⟨.slice none 0 0, rfl⟩ 0 9)] : List R80).length (([(R80.mk k_k k_r ⟨.slice none 0 0, rfl⟩ 0 9)] : List R80).flatMap R80.enc)))) (rels_80 (S.le_new nil_sub) hr4) (GStep.mk 0 1 k_i k_a k_empty k_r 0 5) _ hr5) rfl ?_; clear S; intro v4 a w7 hv4 hk7 hn4 S
 obtain ⟨u1, rfl, ho1⟩ := hv4
 obtain ⟨φ1, hl1, hm1, S⟩ := S.see' hn4 hz4
 have hs1 := ho1.mono hm1
 refine lv S (rn_move (S.tm rfl)) rfl ?_; clear S; intro a S
 refine lv S (rn_extract (S.tm rfl) rfl) rfl ?_; clear S; intro a S
 refine lv S (rn_extract (S.tm rfl) rfl) rfl ?_; clear S; intro a S
 refine lv S (rn_assign (S.tm rfl)) rfl ?_; clear S; intro a S
 refine lv S (rn_assign (S.tm rfl)) rfl ?_; clear S; intro a S
 refine l_done ?_
 replace S := S.nk [] [(1, iV r1.1), (2, iV r1.2), (3, iV r2.1), (4, iV r2.2), (5, iV r3.1), (6, iV r3.2), (7, u1), (8, iV r4.2)] [false, false] rfl (subR rfl)
 refine then_n (f_seq (f_region (lv S (rn_move (S.tm rfl)) rfl ?_))); clear S; intro a S
 iterate 3 (refine lv S (rn_move (S.tm rfl)) rfl ?_; clear S; intro a S)
 refine l_buildSlice S Tryz.underlying64 Tryz.sizeOf32 Tryz.zeroValue32 rfl rfl (pv := [(0, iV r1.2), (1, iV r2.2), (2, iV r3.2), (3, iV r4.2)]) ⟨rfl, (S.tm rfl), rfl, (S.tm rfl), rfl, (S.tm rfl), rfl, (S.tm rfl), trivial⟩ (cs := [iV r1.2, iV r2.2, iV r3.2, iV r4.2]) (by kernel_rfl) rfl ?_; clear S; intro a w8 b4 hz5 hk8 S
 refine l_enter S (fun _ => run_call (vs := [.slice (some ⟨b4, 0, none⟩) 4 4]) ⟨(S.tm rfl), trivial⟩ Tryz.call9) (tumbkeep2_errs_ok _ (.slice (some ⟨b4, 0, none⟩) 4 4) [r1.2, r2.2, r3.2, r4.2] (lit_slcT enc_int S (i := 0) rfl rfl rfl rfl ((ne_nil (e' := .blk b4 [iV r1.2, iV r2.2, iV r3.2, iV r4.2] 32)) _ rfl)) _ rfl) rfl ?_; clear S; intro v5 a w9 hv5 hk9 hn5 S
 subst hv5
 refine lv S (rn_eql (S.tm rfl) rfl) rfl ?_; clear S; intro a S
 refine lv S (rn_move (S.tm rfl)) rfl ?_; clear S; intro a S
 refine f_cutm 3 (fun a w' => Keep [] w9 w' ∧ Sx w [] φ1 [.blk b4 [iV r1.2, iV r2.2, iV r3.2, iV r4.2] 32] [(3, iV r2.1), (5, iV r3.1), (7, u1), (43, bV ((decide ((tumbkeep2_errs [r1.2, r2.2, r3.2, r4.2]) = 0)) && (decide (r1.1 = 60))))] 57 a w') ?_ ?_
 ·rcases Bool.eq_false_or_eq_true (decide ((tumbkeep2_errs [r1.2, r2.2, r3.2, r4.2]) = 0)) with hb1 | hb1
  ·refine l_want S rfl rfl rfl hb1 (lv S (rn_move (S.tm rfl)) rfl ?_); clear S; intro a S
   refine l_want S rfl rfl rfl hb1 (lv S (rn_eql (S.tm rfl) rfl) rfl ?_); clear S; intro a S
   refine lv S (rn_and_t hb1 (S.tm rfl) (S.tm rfl)) rfl ?_; clear S; intro a S
   refine l_done (then_n ?_)
   exact ⟨Keep.refl _ _, S.nf [true] rfl (subR rfl)⟩
  ·refine l_skip S rfl rfl rfl (neq_f hb1) rfl ?_ rfl; clear S; intro a S
   refine l_skip S rfl rfl rfl (neq_f hb1) rfl ?_ rfl; clear S; intro a S
   refine lv S (rn_and_f (decide (r1.1 = 60)) hb1 (S.tm rfl) rfl) rfl ?_; clear S; intro a S
   refine l_done (then_n ?_)
   exact ⟨Keep.refl _ _, S.nf [true] rfl (subR rfl)⟩
 clear S; rintro a w10 ⟨hk10, S⟩
 refine lv S (rn_move (S.tm rfl)) rfl ?_; clear S; intro a S
 refine f_cutm 3 (fun a w' => Keep [] w10 w' ∧ Sx w [] φ1 [.blk b4 [iV r1.2, iV r2.2, iV r3.2, iV r4.2] 32] [(5, iV r3.1), (7, u1), (47, bV (((decide ((tumbkeep2_errs [r1.2, r2.2, r3.2, r4.2]) = 0)) && (decide (r1.1 = 60))) && (decide (r2.1 = 25))))] 57 a w') ?_ ?_
 ·rcases Bool.eq_false_or_eq_true ((decide ((tumbkeep2_errs [r1.2, r2.2, r3.2, r4.2]) = 0)) && (decide (r1.1 = 60))) with hb2 | hb2
  ·refine l_want S rfl rfl rfl hb2 (lv S (rn_move (S.tm rfl)) rfl ?_); clear S; intro a S
   refine l_want S rfl rfl rfl hb2 (lv S (rn_eql (S.tm rfl) rfl) rfl ?_); clear S; intro a S
   refine lv S (rn_and_t hb2 (S.tm rfl) (S.tm rfl)) rfl ?_; clear S; intro a S
   refine l_done (then_n ?_)
   exact ⟨Keep.refl _ _, S.nf [true] rfl (subR rfl)⟩
  ·refine l_skip S rfl rfl rfl (neq_f hb2) rfl ?_ rfl; clear S; intro a S
   refine l_skip S rfl rfl rfl (neq_f hb2) rfl ?_ rfl; clear S; intro a S
   refine lv S (rn_and_f (decide (r2.1 = 25)) hb2 (S.tm rfl) rfl) rfl ?_; clear S; intro a S
   refine l_done (then_n ?_)
   exact ⟨Keep.refl _ _, S.nf [true] rfl (subR rfl)⟩
 clear S; rintro a w11 ⟨hk11, S⟩
 refine lv S (rn_move (S.tm rfl)) rfl ?_; clear S; intro a S
 refine f_cutm 3 (fun a w' => Keep [] w11 w' ∧ Sx w [] φ1 [.blk b4 [iV r1.2, iV r2.2, iV r3.2, iV r4.2] 32] [(7, u1), (51, bV ((((decide ((tumbkeep2_errs [r1.2, r2.2, r3.2, r4.2]) = 0)) && (decide (r1.1 = 60))) && (decide (r2.1 = 25))) && (decide (r3.1 = 125))))] 57 a w') ?_ ?_
 ·rcases Bool.eq_false_or_eq_true (((decide ((tumbkeep2_errs [r1.2, r2.2, r3.2, r4.2]) = 0)) && (decide (r1.1 = 60))) && (decide (r2.1 = 25))) with hb3 | hb3
  ·refine l_want S rfl rfl rfl hb3 (lv S (rn_move (S.tm rfl)) rfl ?_); clear S; intro a S
   refine l_want S rfl rfl rfl hb3 (lv S (rn_eql (S.tm rfl) rfl) rfl ?_); clear S; intro a S
   refine lv S (rn_and_t hb3 (S.tm rfl) (S.tm rfl)) rfl ?_; clear S; intro a S
   refine l_done (then_n ?_)
   exact ⟨Keep.refl _ _, S.nf [true] rfl (subR rfl)⟩
  ·refine l_skip S rfl rfl rfl (neq_f hb3) rfl ?_ rfl; clear S; intro a S
   refine l_skip S rfl rfl rfl (neq_f hb3) rfl ?_ rfl; clear S; intro a S
   refine lv S (rn_and_f (decide (r3.1 = 125)) hb3 (S.tm rfl) rfl) rfl ?_; clear S; intro a S
   refine l_done (then_n ?_)
   exact ⟨Keep.refl _ _, S.nf [true] rfl (subR rfl)⟩
 clear S; rintro a w12 ⟨hk12, S⟩
 refine lv S (rn_move (S.tm rfl)) rfl ?_; clear S; intro a S
 refine f_cutm 4 (fun a w' => Keep [] w12 w' ∧ Sx w [] φ1 [.blk b4 [iV r1.2, iV r2.2, iV r3.2, iV r4.2] 32] [(56, bV (((((decide ((tumbkeep2_errs [r1.2, r2.2, r3.2, r4.2]) = 0)) && (decide (r1.1 = 60))) && (decide (r2.1 = 25))) && (decide (r3.1 = 125))) && (decide ((r4.1.length : Int) = 1))))] 57 a w') ?_ ?_
 ·rcases Bool.eq_false_or_eq_true ((((decide ((tumbkeep2_errs [r1.2, r2.2, r3.2, r4.2]) = 0)) && (decide (r1.1 = 60))) && (decide (r2.1 = 25))) && (decide (r3.1 = 125))) with hb4 | hb4
  ·refine l_want S rfl rfl rfl hb4 (lv S (rn_move (S.tm rfl)) rfl ?_); clear S; intro a S
   refine l_want S rfl rfl rfl hb4 (lv S (rn_lenT sl_47 (S.tm rfl) (slc_len (ownV_slcT enc_str hs1))) rfl ?_); clear S; intro a S
   refine l_want S rfl rfl rfl hb4 (lv S (rn_eql (S.tm rfl) rfl) rfl ?_); clear S; intro a S
   refine lv S (rn_and_t hb4 (S.tm rfl) (S.tm rfl)) rfl ?_; clear S; intro a S
   refine l_done (then_n ?_)
   exact ⟨Keep.refl _ _, S.nf [true] rfl ⟨rfl, trivial⟩⟩
  ·iterate 3 (refine l_skip S rfl rfl rfl (neq_f hb4) rfl ?_ rfl; clear S; intro a S)
   refine lv S (rn_and_f (decide ((r4.1.length : Int) = 1)) hb4 (S.tm rfl) rfl) rfl ?_; clear S; intro a S
   refine l_done (then_n ?_)
   exact ⟨Keep.refl _ _, S.nf [true] rfl ⟨rfl, trivial⟩⟩
 clear S; rintro a w13 ⟨hk13, S⟩
 refine lv S (rn_assign (S.tm rfl)) rfl ?_; clear S; intro a S
 refine l_done (then_n (wp_ret ?_))
 obtain rfl := Option.some.inj h
 exact f_ret S Tryz.results11 rfl rfl
theorem tumbkeep2_AllPointsAreGiven_ok (w : World) (v_p_l : Value) (p_l : List Int) (hs_p_l : Slc (view w []) 1 v_p_l (p_l.map eInt)) (r : Bool) (h : tumbkeep2_AllPointsAreGiven p_l = some r) :
    Calls Tryz.prog 3 [v_p_l].toArray w (Ret w [] fun _ v _ => v = bV r) := by
 refine f_enter [] [] Tryz.func3 rfl Tryz.ntmps3 rfl (by simp) (by simp [fps]) (by simp [fps]) fun a S => ?_
 unfold tumbkeep2_AllPointsAreGiven at h
 replace S := S.nk [] [(0, v_p_l)] [] rfl ⟨rfl, trivial⟩
 refine f_seq (f_region (lv S (rn_assign rfl) rfl ?_)); clear S; intro a S
 refine l_done (then_n (f_seq (f_region (lv S (rn_move (S.tm rfl)) rfl ?_)))); clear S; intro a S
 refine lv S (rn_bld bt_25 (pv := [(0, v_p_l)]) ⟨rfl, (S.tm rfl), trivial⟩ (cs := [v_p_l, iV 0]) (by obtain ⟨_, _, hv⟩ := (slc_len hs_p_l); rw [hv]; clear hv; kernel_rfl)) rfl ?_; clear S; intro a S
 refine l_box S (S.tm rfl) (cs := [v_p_l, iV 0]) rfl rfl ?_; clear S; intro a w1 b1 hz1 hk1 S
 refine lv S (rn_assign (S.tm rfl)) rfl ?_; clear S; intro a S
 refine l_done (then_n (f_seq (f_region (lv S (rn_move (S.tm rfl)) rfl ?_)))); clear S; intro a S
 obtain ⟨r1, hr1, h⟩ := bindE h
 have hz2 := S.keep.size
 refine l_enter1 0 S (b := b1) rfl rfl (fun _ => .blk b1 [v_p_l, iV r1.2] 25) (fun _ => run_call (vs := [.pointer (some ⟨b1, 0, none⟩)]) ⟨(S.tm rfl), trivial⟩ Tryz.call4) (Stream_RightTable_ok _ b1 v_p_l p_l (hs_p_l.mono (S.le_arg (fp_sub (i := 0) (e := .blk b1 [v_p_l, iV 0] 25) rfl))) 0 (S.holds _ (List.mem_of_getElem? (i := 0) rfl)) _ hr1) rfl (fun _ _ _ h => ⟨h.1, fun _ hc => by cases hc; rfl⟩) ?_; clear S; intro v1 a w2 hv1 hk2 hn1 S
 replace hv1 := hv1.2
 obtain ⟨q1, rfl, hq1⟩ := hv1
 obtain ⟨φ1, hl1, hm1, S⟩ := S.see' hn1 hz2
 obtain ⟨u2, rfl, hs1⟩ := rel_27_mono hm1 _ _ hq1
 refine lv S (rn_move (S.tm rfl)) rfl ?_; clear S; intro a S
 obtain ⟨r2, hr2, h⟩ := bindE h
 have hz3 := S.keep.size
 refine l_enter1 0 S (b := b1) rfl rfl (fun _ => .blk b1 [v_p_l, iV r2.2] 25) (fun _ => run_call (vs := [.pointer (some ⟨b1, 0, none⟩)]) ⟨(S.tm rfl), trivial⟩ Tryz.call5) (Stream_RightScored_ok _ b1 v_p_l p_l (hs_p_l.mono (S.le_arg (fp_sub (i := 0) (e := .blk b1 [v_p_l, iV r1.2] 25) rfl))) r1.2 (S.holds _ (List.mem_of_getElem? (i := 0) rfl)) _ hr2) rfl (fun _ _ _ h => ⟨h.1, fun _ hc => by cases hc; rfl⟩) ?_; clear S; intro v2 a w3 hv2 hk3 hn2 S
 replace hv2 := hv2.2
 obtain ⟨φ2, hl2, hm2, S⟩ := S.see' hn2 hz3
 have hs2 := hv2.mono hm2
 refine l_alloc S Tryz.zeroValue27 (cs := [.slice none 0 0, iV 0, iV 0]) rfl rfl ?_; clear S; intro a w4 b2 hz4 hk4 S
 refine l_store S (S.tm rfl) (S.tm rfl) (i := 0) (off := 0) rfl Tryz.sizeOf27 (vs := [u2.val, iV r1.1.Relay, iV r1.1.Most]) rfl rfl rfl (all1 (SlcLen.one (slc_len hs1)) (all1 rfl (all1 rfl rfl))) ?_; clear S; intro w5 hk5 S
 refine lv S (rn_assign (S.tm rfl)) rfl ?_; clear S; intro a S
 refine l_done (then_n (f_seq (f_region (lv S (rn_ldA Tryz.isAgg27 Tryz.sizeOf27 (off := 0) (o := 0) (part := [u2.val, iV r1.1.Relay, iV r1.1.Most]) rfl rfl (S.tm rfl) (S.cellsAt (i := 0) rfl)) rfl ?_)))); clear S; intro a S
 refine lv S (rn_move (S.tm rfl)) rfl ?_; clear S; intro a S
 obtain ⟨r3, hr3, h⟩ := bindE h
 have hz5 := S.keep.size
 refine l_enter S (fun _ => run_call (vs := [.agg (R27.enc (R27.mk u2 r1.1.Relay r1.1.Most)).toArray, v2]) ⟨(S.tm rfl), (S.tm rfl), trivial⟩ Tryz.call6) (points_Clubs_ok _ r1.1 (R27.mk u2 r1.1.Relay r1.1.Most) ⟨u2, rfl, (hs1.mono (View.le_trans hl2 (S.le_new nil_sub)))⟩ v2 r2.1 ((ownV_slcT GScored.enc_ok hs2).mono (S.le_new nil_sub)) _ hr3) rfl ?_; clear S; intro v3 a w6 hv3 hk6 hn3 S
 obtain ⟨u4, rfl, ho3⟩ := hv3
 obtain ⟨φ3, hl3, hm3, S⟩ := S.see' hn3 hz5
 have hs3 := ho3.mono hm3
 refine lv S (rn_move (S.tm rfl)) rfl ?_; clear S; intro a S
 refine lv S (rn_extract (S.tm rfl) rfl) rfl ?_; clear S; intro a S
 refine lv S (rn_extract (S.tm rfl) rfl) rfl ?_; clear S; intro a S
 refine lv S (rn_assign (S.tm rfl)) rfl ?_; clear S; intro a S
 refine lv S (rn_assign (S.tm rfl)) rfl ?_; clear S; intro a S
 refine l_done ?_
 replace S := S.nk [.blk b2 [u2.val, iV r1.1.Relay, iV r1.1.Most] 27] [(4, .pointer (some ⟨b2, 0, none⟩)), (5, v2), (6, u4), (7, iV r3.2)] [true, false] rfl (subR rfl)
 refine then_n (f_seq (f_region (lv S (rn_ldA Tryz.isAgg27 Tryz.sizeOf27 (off := 0) (o := 0) (part := [u2.val, iV r1.1.Relay, iV r1.1.Most]) rfl rfl (S.tm rfl) (S.cellsAt (i := 0) rfl)) rfl ?_))); clear S; intro a S
 refine lv S (rn_move (S.tm rfl)) rfl ?_; clear S; intro a S
 obtain ⟨r4, hr4, h⟩ := bindE h
 have hz6 := S.keep.size
 refine l_enter S (fun _ => run_call (vs := [.agg (R27.enc (R27.mk u2 r1.1.Relay r1.1.Most)).toArray, v2]) ⟨(S.tm rfl), (S.tm rfl), trivial⟩ Tryz.call7) (points_Given_ok _ r1.1 (R27.mk u2 r1.1.Relay r1.1.Most) ⟨u2, rfl, (hs1.mono (View.le_trans (View.le_trans hl2 hl3) (S.le_new nil_sub)))⟩ v2 r2.1 ((ownV_slcT GScored.enc_ok hs2).mono (View.le_trans hl3 (S.le_new nil_sub))) _ hr4) rfl ?_; clear S; intro v4 a w7 hv4 hk7 hn4 S
 obtain ⟨u5, rfl, ho4⟩ := hv4
 obtain ⟨φ4, hl4, hm4, S⟩ := S.see' hn4 hz6
 have hs4 := ho4.mono hm4
 refine lv S (rn_move (S.tm rfl)) rfl ?_; clear S; intro a S
 refine lv S (rn_extract (S.tm rfl) rfl) rfl ?_; clear S; intro a S
 refine lv S (rn_extract (S.tm rfl) rfl) rfl ?_; clear S; intro a S
 refine lv S (rn_assign (S.tm rfl)) rfl ?_; clear S; intro a S
 refine lv S (rn_assign (S.tm rfl)) rfl ?_; clear S; intro a S
 refine l_done (then_n (f_seq (f_region (lv S (rn_ldA Tryz.isAgg27 Tryz.sizeOf27 (off := 0) (o := 0) (part := [u2.val, iV r1.1.Relay, iV r1.1.Most]) rfl rfl (S.tm rfl) (S.cellsAt (i := 0) rfl)) rfl ?_)))); clear S; intro a S
 refine lv S (rn_move (S.tm rfl)) rfl ?_; clear S; intro a S
 obtain ⟨r5, hr5, h⟩ := bindE h
 refine l_enter S (fun _ => run_call (vs := [.agg (R27.enc (R27.mk u2 r1.1.Relay r1.1.Most)).toArray, v2]) ⟨(S.tm rfl), (S.tm rfl), trivial⟩ Tryz.call8) (points_All_ok _ r1.1 (R27.mk u2 r1.1.Relay r1.1.Most) ⟨u2, rfl, (hs1.mono (View.le_trans (View.le_trans (View.le_trans hl2 hl3) hl4) (S.le_new nil_sub)))⟩ v2 r2.1 ((ownV_slcT GScored.enc_ok hs2).mono (View.le_trans (View.le_trans hl3 hl4) (S.le_new nil_sub))) _ hr5) rfl ?_; clear S; intro v5 a w8 hv5 hk8 hn5 S
 subst hv5
 refine lv S (rn_move (S.tm rfl)) rfl ?_; clear S; intro a S
 refine lv S (rn_extract (S.tm rfl) rfl) rfl ?_; clear S; intro a S
 refine lv S (rn_extract (S.tm rfl) rfl) rfl ?_; clear S; intro a S
 refine l_alloc S Tryz.zeroValue36 (cs := [iV 0, iV 0]) rfl rfl ?_; clear S; intro a w9 b3 hz7 hk9 S
 refine l_store S (S.tm rfl) (S.tm rfl) (i := 0) (off := 0) rfl Tryz.sizeOf36 (vs := (GFraction.enc r5.1)) rfl rfl rfl rfl ?_; clear S; intro w10 hk10 S
 refine lv S (rn_assign (S.tm rfl)) rfl ?_; clear S; intro a S
 refine l_done ?_
 replace S := S.nk [.blk b3 (GFraction.enc r5.1) 36] [(6, u4), (7, iV r3.2), (8, u5), (9, iV r4.2), (10, .pointer (some ⟨b3, 0, none⟩)), (11, iV r5.2)] [true, false] rfl (subR rfl)
 refine then_n (f_seq (f_seq (f_region (lv S (rn_move (S.tm rfl)) rfl ?_)))); clear S; intro a S
 refine lv S (rn_move (S.tm rfl)) rfl ?_; clear S; intro a S
 refine lv S (rn_move (S.tm rfl)) rfl ?_; clear S; intro a S
 refine l_buildSlice S Tryz.underlying64 Tryz.sizeOf32 Tryz.zeroValue32 rfl rfl (pv := [(0, iV r3.2), (1, iV r4.2), (2, iV r5.2)]) ⟨rfl, (S.tm rfl), rfl, (S.tm rfl), rfl, (S.tm rfl), trivial⟩ (cs := [iV r3.2, iV r4.2, iV r5.2]) (by kernel_rfl) rfl ?_; clear S; intro a w11 b4 hz8 hk11 S
 refine l_enter S (fun _ => run_call (vs := [.slice (some ⟨b4, 0, none⟩) 3 3]) ⟨(S.tm rfl), trivial⟩ Tryz.call9) (tumbkeep2_errs_ok _ (.slice (some ⟨b4, 0, none⟩) 3 3) [r3.2, r4.2, r5.2] (lit_slcT enc_int S (i := 0) rfl rfl rfl rfl ((ne_nil (e' := .blk b4 [iV r3.2, iV r4.2, iV r5.2] 32)) _ rfl)) _ rfl) rfl ?_; clear S; intro v6 a w12 hv6 hk12 hn6 S
 subst hv6
 refine lv S (rn_neq (S.tm rfl) rfl) rfl ?_; clear S; intro a S
 refine l_done (then_n (f_cond (S.tm rfl) (fun hb1 => ?_) (fun hb1 => ?_)))
 ·replace h := iteT h hb1
  refine f_seq (f_region (lv S (rn_assign rfl) rfl ?_)); clear S; intro a S
  refine l_done (then_n (wp_ret (then_r ?_)))
  obtain rfl := Option.some.inj h
  exact f_ret S Tryz.results3 rfl rfl
 ·replace h := iteF h hb1
  refine wp_skip (then_n (f_seq (f_region (lv S (rn_bld bt_36 (pv := [(1, iV 1)]) ⟨rfl, rfl, trivial⟩ (cs := [iV 0, iV 1]) (by kernel_rfl)) rfl ?_)))); clear S; intro a S
  refine lv S (rn_bld bt_36 (pv := [(1, iV 1)]) ⟨rfl, rfl, trivial⟩ (cs := [iV 0, iV 1]) (by kernel_rfl)) rfl ?_; clear S; intro a S
  refine l_alloc S Tryz.zeroValue36 (cs := [iV 0, iV 0]) rfl rfl ?_; clear S; intro a w13 b5 hz9 hk13 S
  refine l_alloc S Tryz.zeroValue36 (cs := [iV 0, iV 0]) rfl rfl ?_; clear S; intro a w14 b6 hz10 hk14 S
  refine l_store S (S.tm rfl) (S.tm rfl) (i := 1) (off := 0) rfl Tryz.sizeOf36 (vs := [iV 0, iV 1]) rfl rfl rfl rfl ?_; clear S; intro w15 hk15 S
  refine l_store S (S.tm rfl) (S.tm rfl) (i := 0) (off := 0) rfl Tryz.sizeOf36 (vs := [iV 0, iV 1]) rfl rfl rfl rfl ?_; clear S; intro w16 hk16 S
  refine l_done ?_
  replace S := S.nk [.blk b6 [iV 0, iV 1] 36, .blk b5 [iV 0, iV 1] 36, .blk b3 (GFraction.enc r5.1) 36] [(6, u4), (8, u5), (10, .pointer (some ⟨b3, 0, none⟩)), (12, .pointer (some ⟨b5, 0, none⟩)), (13, .pointer (some ⟨b6, 0, none⟩))] [true, true, false, true] rfl (subR rfl)
  refine then_n (f_seq (f_seq (f_region (lv S (rn_move (S.tm rfl)) rfl ?_)))); clear S; intro a S
  refine lv S (rn_lenT sl_31 (S.tm rfl) (slc_len (ownV_slcT GGiven.enc_ok hs3))) rfl ?_; clear S; intro a S
  refine lv S (rn_move rfl) rfl ?_; clear S; intro a S
  refine l_done (then_n ?_)
  replace S := S.nk [.blk b6 [iV 0, iV 1] 36, .blk b5 [iV 0, iV 1] 36, .blk b3 (GFraction.enc r5.1) 36] [(8, u5), (10, .pointer (some ⟨b3, 0, none⟩)), (12, .pointer (some ⟨b5, 0, none⟩)), (13, .pointer (some ⟨b6, 0, none⟩)), (51, u4), (52, iV (r3.1.length : Int)), (53, iV 0)] [true, true, true] rfl (subR rfl)
  obtain ⟨j1, hj1, h⟩ := joinE h
  refine f_join (fun a w' => ∃ x1 : Int, ∃ x2 : Int, j1 x1 x2 = some r ∧ Sx w [] φ4 [.blk b6 [iV 0, iV 1] 36, .blk b5 [iV x1, iV x2] 36, .blk b3 (GFraction.enc r5.1) 36] [(8, u5), (10, .pointer (some ⟨b3, 0, none⟩)), (12, .pointer (some ⟨b5, 0, none⟩)), (13, .pointer (some ⟨b6, 0, none⟩))] 118 a w') ?_ ?_
  ·refine wp_block (f_loop (fun (ys1 : List GGiven) a w' => ∃ i1 : Nat, ∃ x1 : Int, ∃ x2 : Int, (∃ dn, r3.1 = dn ++ ys1 ∧ dn.length = i1) ∧ tumbkeep2_AllPointsAreGiven_l1 j1 ys1 i1 x1 x2 = some r ∧ Sx w [] φ4 [.blk b6 [iV 0, iV 1] 36, .blk b5 [iV x1, iV x2] 36, .blk b3 (GFraction.enc r5.1) 36] [(8, u5), (10, .pointer (some ⟨b3, 0, none⟩)), (12, .pointer (some ⟨b5, 0, none⟩)), (13, .pointer (some ⟨b6, 0, none⟩)), (51, u4), (52, iV (r3.1.length : Int)), (53, iV (i1 : Int))] 118 a w') List.length r3.1 ⟨0, 0, 1, ⟨[], rfl, rfl⟩, h, S.nf [true, true, true] rfl (subR rfl)⟩ ?_)
   clear S h; rintro ys1 a w17 ⟨i1, x1, x2, ⟨dn, hd1, hi1⟩, h, S⟩
   cases ys1 with
   | nil =>
    rw [tumbkeep2_AllPointsAreGiven_l1.eq_1] at h
    refine f_seq (f_region (lv S (rn_lss (S.tm rfl) (S.tm rfl)) rfl ?_)); clear S; intro a S
    refine l_done ?_
    replace S := S.nk [.blk b6 [iV 0, iV 1] 36, .blk b5 [iV x1, iV x2] 36, .blk b3 (GFraction.enc r5.1) 36] [(8, u5), (10, .pointer (some ⟨b3, 0, none⟩)), (12, .pointer (some ⟨b5, 0, none⟩)), (13, .pointer (some ⟨b6, 0, none⟩)), (51, u4), (52, iV (r3.1.length : Int)), (53, iV (i1 : Int)), (54, bV (decide ((i1 : Int) < (r3.1.length : Int))))] [true, true, true] rfl (subR rfl)
    refine then_n (f_seq (wp_cond_false ((S.tm rfl).trans (congrArg Value.bool (rng_nil hd1 hi1))) (wp_exit (then_x (then_x (x_same ?_))))))
    refine then_n ?_
    exact ⟨x1, x2, h, S.nf [true, true, true] rfl (subR rfl)⟩
   | cons y1 ys1 =>
    rw [tumbkeep2_AllPointsAreGiven_l1.eq_2] at h
    refine f_seq (f_region (lv S (rn_lss (S.tm rfl) (S.tm rfl)) rfl ?_)); clear S; intro a S
    refine l_done ?_
    replace S := S.nk [.blk b6 [iV 0, iV 1] 36, .blk b5 [iV x1, iV x2] 36, .blk b3 (GFraction.enc r5.1) 36] [(8, u5), (10, .pointer (some ⟨b3, 0, none⟩)), (12, .pointer (some ⟨b5, 0, none⟩)), (13, .pointer (some ⟨b6, 0, none⟩)), (51, u4), (52, iV (r3.1.length : Int)), (53, iV (i1 : Int)), (54, bV (decide ((i1 : Int) < (r3.1.length : Int))))] [true, true, true] rfl (subR rfl)
    refine then_n (f_seq (wp_cond_true ((S.tm rfl).trans (congrArg Value.bool (rng_cons hd1 hi1))) (wp_skip (then_n (f_seq (wp_block ?_))))))
    refine f_seq (f_region ?_)
    obtain ⟨b7, o1, hm5, hr6⟩ := rn_indexT (a := a) (x := .tmp 51) (y := .tmp 53) (ty := 0) sl_31 (ownV_slcT GGiven.enc_ok hs3) (get_mid hd1 hi1) rfl (S.tm rfl) (S.tm rfl)
    refine lv S (hr6 _) rfl ?_; clear S; intro a S
    clear hr6
    refine lv S (rn_ldA Tryz.isAgg41 Tryz.sizeOf41 (off := o1) (o := 0) (part := (GGiven.enc y1)) rfl rfl (S.tm rfl) ((hm5.mono hl4).at S.emb)) rfl ?_; clear S; intro a S
    refine l_alloc S Tryz.zeroValue41 (cs := [sV k_empty, iV 0, iV 0]) rfl rfl ?_; clear S; intro a w19 b8 hz11 hk17 S
    refine l_store S (S.tm rfl) (S.tm rfl) (i := 0) (off := 0) rfl Tryz.sizeOf41 (vs := (GGiven.enc y1)) rfl rfl rfl rfl ?_; clear S; intro w20 hk18 S
    refine l_done (then_n (f_region (lv S (rn_fld fa_36_0 (S.tm rfl)) rfl ?_))); clear S; intro a S
    refine lv S (rn_load Tryz.isAgg3 (S.tm rfl) (S.cell (i := 2) rfl rfl)) rfl ?_; clear S; intro a S
    refine lv S (rn_fld fa_41_1 (S.tm rfl)) rfl ?_; clear S; intro a S
    refine lv S (rn_fld fa_36_1 (S.tm rfl)) rfl ?_; clear S; intro a S
    refine lv S (rn_load Tryz.isAgg3 (S.tm rfl) (S.cell (i := 0) rfl rfl)) rfl ?_; clear S; intro a S
    refine lv S (rn_mul (S.tm rfl) (S.tm rfl)) rfl ?_; clear S; intro a S
    refine lv S (rn_fld fa_41_1 (S.tm rfl)) rfl ?_; clear S; intro a S
    refine lv S (rn_fld fa_36_0 (S.tm rfl)) rfl ?_; clear S; intro a S
    refine lv S (rn_load Tryz.isAgg3 (S.tm rfl) (S.cell (i := 0) rfl rfl)) rfl ?_; clear S; intro a S
    refine lv S (rn_fld fa_36_1 (S.tm rfl)) rfl ?_; clear S; intro a S
    refine lv S (rn_load Tryz.isAgg3 (S.tm rfl) (S.cell (i := 2) rfl rfl)) rfl ?_; clear S; intro a S
    refine lv S (rn_mul (S.tm rfl) (S.tm rfl)) rfl ?_; clear S; intro a S
    refine lv S (rn_add (S.tm rfl) (S.tm rfl)) rfl ?_; clear S; intro a S
    refine lv S (rn_fld fa_36_1 (S.tm rfl)) rfl ?_; clear S; intro a S
    refine lv S (rn_load Tryz.isAgg3 (S.tm rfl) (S.cell (i := 2) rfl rfl)) rfl ?_; clear S; intro a S
    refine lv S (rn_fld fa_41_1 (S.tm rfl)) rfl ?_; clear S; intro a S
    refine lv S (rn_fld fa_36_1 (S.tm rfl)) rfl ?_; clear S; intro a S
    refine lv S (rn_load Tryz.isAgg3 (S.tm rfl) (S.cell (i := 0) rfl rfl)) rfl ?_; clear S; intro a S
    refine lv S (rn_max2 rfl (S.tm rfl)) rfl ?_; clear S; intro a S
    refine lv S (rn_mul (S.tm rfl) (S.tm rfl)) rfl ?_; clear S; intro a S
    obtain ⟨r6, hr7, h⟩ := bindE h
    refine l_enter S (fun _ => run_call (vs := [iV (W ((W (x1 * y1.Points.Den)) + (W (y1.Points.Num * x2)))), iV (W (x2 * (imax 1 y1.Points.Den)))]) ⟨(S.tm rfl), (S.tm rfl), trivial⟩ Tryz.call10) (tumbref2_Lowest_ok _ (W ((W (x1 * y1.Points.Den)) + (W (y1.Points.Num * x2)))) (W (x2 * (imax 1 y1.Points.Den))) _ hr7) rfl ?_; clear S; intro v7 a w21 hv7 hk19 hn7 S
    subst hv7
    refine l_store S (S.tm rfl) (S.tm rfl) (i := 2) (off := 0) rfl Tryz.sizeOf36 (vs := (GFraction.enc r6)) rfl rfl rfl rfl ?_; clear S; intro w22 hk20 S
    refine l_done ?_
    replace S := S.nk [.blk b6 [iV 0, iV 1] 36, .blk b5 (GFraction.enc r6) 36, .blk b3 (GFraction.enc r5.1) 36] [(8, u5), (10, .pointer (some ⟨b3, 0, none⟩)), (12, .pointer (some ⟨b5, 0, none⟩)), (13, .pointer (some ⟨b6, 0, none⟩)), (51, u4), (52, iV (r3.1.length : Int)), (53, iV (i1 : Int))] [false, true, true, true] rfl (subR rfl)
    refine blk_n (then_n (f_region (lv S (rn_add (S.tm rfl) rfl) rfl ?_))); clear S; intro a S
    refine lv S (rn_move (S.tm rfl)) rfl ?_; clear S; intro a S
    refine l_done (then_n ?_)
    exact ⟨ys1, ⟨i1 + 1, r6.Num, r6.Den, ⟨_, (hd1).trans (List.append_cons _ _ _), by simp [hi1]⟩, h, S.nf [true, true, true] rfl ⟨rfl, rfl, rfl, rfl, rfl, rfl, (congrArg (fun z => some (Value.int .i64 z)) (rng_next hd1 hi1 (slc_max (ownV_slcT GGiven.enc_ok hs3)))), trivial⟩⟩, Nat.lt_succ_self _⟩
  clear S h; rintro a w18 ⟨x1, x2, h, S⟩; rw [hj1] at h; clear hj1 j1
  refine then_n (f_seq (f_seq (f_region (lv S (rn_move (S.tm rfl)) rfl ?_)))); clear S; intro a S
  refine lv S (rn_lenT sl_31 (S.tm rfl) (slc_len (ownV_slcT GGiven.enc_ok hs4))) rfl ?_; clear S; intro a S
  refine lv S (rn_move rfl) rfl ?_; clear S; intro a S
  refine l_done (then_n ?_)
  replace S := S.nk [.blk b6 [iV 0, iV 1] 36, .blk b5 [iV x1, iV x2] 36, .blk b3 (GFraction.enc r5.1) 36] [(10, .pointer (some ⟨b3, 0, none⟩)), (12, .pointer (some ⟨b5, 0, none⟩)), (13, .pointer (some ⟨b6, 0, none⟩)), (79, u5), (80, iV (r4.1.length : Int)), (81, iV 0)] [true, true, true] rfl (subR rfl)
  obtain ⟨j2, hj2, h⟩ := joinE h
  refine f_join (fun a w' => ∃ x3 : Int, ∃ x4 : Int, j2 x3 x4 = some r ∧ Sx w [] φ4 [.blk b6 [iV x3, iV x4] 36, .blk b5 [iV x1, iV x2] 36, .blk b3 (GFraction.enc r5.1) 36] [(10, .pointer (some ⟨b3, 0, none⟩)), (12, .pointer (some ⟨b5, 0, none⟩)), (13, .pointer (some ⟨b6, 0, none⟩))] 118 a w') ?_ ?_
  ·refine wp_block (f_loop (fun (ys2 : List GGiven) a w' => ∃ i2 : Nat, ∃ x3 : Int, ∃ x4 : Int, (∃ dn, r4.1 = dn ++ ys2 ∧ dn.length = i2) ∧ tumbkeep2_AllPointsAreGiven_l2 j2 ys2 i2 x3 x4 = some r ∧ Sx w [] φ4 [.blk b6 [iV x3, iV x4] 36, .blk b5 [iV x1, iV x2] 36, .blk b3 (GFraction.enc r5.1) 36] [(10, .pointer (some ⟨b3, 0, none⟩)), (12, .pointer (some ⟨b5, 0, none⟩)), (13, .pointer (some ⟨b6, 0, none⟩)), (79, u5), (80, iV (r4.1.length : Int)), (81, iV (i2 : Int))] 118 a w') List.length r4.1 ⟨0, 0, 1, ⟨[], rfl, rfl⟩, h, S.nf [true, true, true] rfl (subR rfl)⟩ ?_)
   clear S h; rintro ys2 a w23 ⟨i2, x3, x4, ⟨dn, hd2, hi2⟩, h, S⟩
   cases ys2 with
   | nil =>
    rw [tumbkeep2_AllPointsAreGiven_l2.eq_1] at h
    refine f_seq (f_region (lv S (rn_lss (S.tm rfl) (S.tm rfl)) rfl ?_)); clear S; intro a S
    refine l_done ?_
    replace S := S.nk [.blk b6 [iV x3, iV x4] 36, .blk b5 [iV x1, iV x2] 36, .blk b3 (GFraction.enc r5.1) 36] [(10, .pointer (some ⟨b3, 0, none⟩)), (12, .pointer (some ⟨b5, 0, none⟩)), (13, .pointer (some ⟨b6, 0, none⟩)), (79, u5), (80, iV (r4.1.length : Int)), (81, iV (i2 : Int)), (82, bV (decide ((i2 : Int) < (r4.1.length : Int))))] [true, true, true] rfl (subR rfl)
    refine then_n (f_seq (wp_cond_false ((S.tm rfl).trans (congrArg Value.bool (rng_nil hd2 hi2))) (wp_exit (then_x (then_x (x_same ?_))))))
    refine then_n ?_
    exact ⟨x3, x4, h, S.nf [true, true, true] rfl (subR rfl)⟩
   | cons y2 ys2 =>
    rw [tumbkeep2_AllPointsAreGiven_l2.eq_2] at h
    refine f_seq (f_region (lv S (rn_lss (S.tm rfl) (S.tm rfl)) rfl ?_)); clear S; intro a S
    refine l_done ?_
    replace S := S.nk [.blk b6 [iV x3, iV x4] 36, .blk b5 [iV x1, iV x2] 36, .blk b3 (GFraction.enc r5.1) 36] [(10, .pointer (some ⟨b3, 0, none⟩)), (12, .pointer (some ⟨b5, 0, none⟩)), (13, .pointer (some ⟨b6, 0, none⟩)), (79, u5), (80, iV (r4.1.length : Int)), (81, iV (i2 : Int)), (82, bV (decide ((i2 : Int) < (r4.1.length : Int))))] [true, true, true] rfl (subR rfl)
    refine then_n (f_seq (wp_cond_true ((S.tm rfl).trans (congrArg Value.bool (rng_cons hd2 hi2))) (wp_skip (then_n (f_seq (wp_block ?_))))))
    refine f_seq (f_region ?_)
    obtain ⟨b9, o2, hm6, hr8⟩ := rn_indexT (a := a) (x := .tmp 79) (y := .tmp 81) (ty := 0) sl_31 (ownV_slcT GGiven.enc_ok hs4) (get_mid hd2 hi2) rfl (S.tm rfl) (S.tm rfl)
    refine lv S (hr8 _) rfl ?_; clear S; intro a S
    clear hr8
    refine lv S (rn_ldA Tryz.isAgg41 Tryz.sizeOf41 (off := o2) (o := 0) (part := (GGiven.enc y2)) rfl rfl (S.tm rfl) (hm6.at S.emb)) rfl ?_; clear S; intro a S
    refine l_alloc S Tryz.zeroValue41 (cs := [sV k_empty, iV 0, iV 0]) rfl rfl ?_; clear S; intro a w25 b10 hz12 hk21 S
    refine l_store S (S.tm rfl) (S.tm rfl) (i := 0) (off := 0) rfl Tryz.sizeOf41 (vs := (GGiven.enc y2)) rfl rfl rfl rfl ?_; clear S; intro w26 hk22 S
    refine l_done (then_n (f_region (lv S (rn_fld fa_36_0 (S.tm rfl)) rfl ?_))); clear S; intro a S
    refine lv S (rn_load Tryz.isAgg3 (S.tm rfl) (S.cell (i := 1) rfl rfl)) rfl ?_; clear S; intro a S
    refine lv S (rn_fld fa_41_1 (S.tm rfl)) rfl ?_; clear S; intro a S
    refine lv S (rn_fld fa_36_1 (S.tm rfl)) rfl ?_; clear S; intro a S
    refine lv S (rn_load Tryz.isAgg3 (S.tm rfl) (S.cell (i := 0) rfl rfl)) rfl ?_; clear S; intro a S
    refine lv S (rn_mul (S.tm rfl) (S.tm rfl)) rfl ?_; clear S; intro a S
    refine lv S (rn_fld fa_41_1 (S.tm rfl)) rfl ?_; clear S; intro a S
    refine lv S (rn_fld fa_36_0 (S.tm rfl)) rfl ?_; clear S; intro a S
    refine lv S (rn_load Tryz.isAgg3 (S.tm rfl) (S.cell (i := 0) rfl rfl)) rfl ?_; clear S; intro a S
    refine lv S (rn_fld fa_36_1 (S.tm rfl)) rfl ?_; clear S; intro a S
    refine lv S (rn_load Tryz.isAgg3 (S.tm rfl) (S.cell (i := 1) rfl rfl)) rfl ?_; clear S; intro a S
    refine lv S (rn_mul (S.tm rfl) (S.tm rfl)) rfl ?_; clear S; intro a S
    refine lv S (rn_add (S.tm rfl) (S.tm rfl)) rfl ?_; clear S; intro a S
    refine lv S (rn_fld fa_36_1 (S.tm rfl)) rfl ?_; clear S; intro a S
    refine lv S (rn_load Tryz.isAgg3 (S.tm rfl) (S.cell (i := 1) rfl rfl)) rfl ?_; clear S; intro a S
    refine lv S (rn_fld fa_41_1 (S.tm rfl)) rfl ?_; clear S; intro a S
    refine lv S (rn_fld fa_36_1 (S.tm rfl)) rfl ?_; clear S; intro a S
    refine lv S (rn_load Tryz.isAgg3 (S.tm rfl) (S.cell (i := 0) rfl rfl)) rfl ?_; clear S; intro a S
    refine lv S (rn_max2 rfl (S.tm rfl)) rfl ?_; clear S; intro a S
    refine lv S (rn_mul (S.tm rfl) (S.tm rfl)) rfl ?_; clear S; intro a S
    obtain ⟨r7, hr9, h⟩ := bindE h
    refine l_enter S (fun _ => run_call (vs := [iV (W ((W (x3 * y2.Points.Den)) + (W (y2.Points.Num * x4)))), iV (W (x4 * (imax 1 y2.Points.Den)))]) ⟨(S.tm rfl), (S.tm rfl), trivial⟩ Tryz.call10) (tumbref2_Lowest_ok _ (W ((W (x3 * y2.Points.Den)) + (W (y2.Points.Num * x4)))) (W (x4 * (imax 1 y2.Points.Den))) _ hr9) rfl ?_; clear S; intro v8 a w27 hv8 hk23 hn8 S
    subst hv8
    refine l_store S (S.tm rfl) (S.tm rfl) (i := 1) (off := 0) rfl Tryz.sizeOf36 (vs := (GFraction.enc r7)) rfl rfl rfl rfl ?_; clear S; intro w28 hk24 S
    refine l_done ?_
    replace S := S.nk [.blk b6 (GFraction.enc r7) 36, .blk b5 [iV x1, iV x2] 36, .blk b3 (GFraction.enc r5.1) 36] [(10, .pointer (some ⟨b3, 0, none⟩)), (12, .pointer (some ⟨b5, 0, none⟩)), (13, .pointer (some ⟨b6, 0, none⟩)), (79, u5), (80, iV (r4.1.length : Int)), (81, iV (i2 : Int))] [false, true, true, true] rfl (subR rfl)
    refine blk_n (then_n (f_region (lv S (rn_add (S.tm rfl) rfl) rfl ?_))); clear S; intro a S
    refine lv S (rn_move (S.tm rfl)) rfl ?_; clear S; intro a S
    refine l_done (then_n ?_)
    exact ⟨ys2, ⟨i2 + 1, r7.Num, r7.Den, ⟨_, (hd2).trans (List.append_cons _ _ _), by simp [hi2]⟩, h, S.nf [true, true, true] rfl ⟨rfl, rfl, rfl, rfl, rfl, (congrArg (fun z => some (Value.int .i64 z)) (rng_next hd2 hi2 (slc_max (ownV_slcT GGiven.enc_ok hs4)))), trivial⟩⟩, Nat.lt_succ_self _⟩
  clear S h; rintro a w24 ⟨x3, x4, h, S⟩; rw [hj2] at h; clear hj2 j2
  refine then_n (f_seq (f_region (lv S (rn_ldA Tryz.isAgg36 Tryz.sizeOf36 (off := 0) (o := 0) (part := [iV x1, iV x2]) rfl rfl (S.tm rfl) (S.cellsAt (i := 1) rfl)) rfl ?_))); clear S; intro a S
  refine lv S (rn_ldA Tryz.isAgg36 Tryz.sizeOf36 (off := 0) (o := 0) (part := (GFraction.enc r5.1)) rfl rfl (S.tm rfl) (S.cellsAt (i := 2) rfl)) rfl ?_; clear S; intro a S
  refine lv S (rn_eql_36 (m := (GFraction.mk x1 x2)) (n := r5.1) (S.tm rfl) (S.tm rfl)) rfl ?_; clear S; intro a S
  refine lv S (rn_move (S.tm rfl)) rfl ?_; clear S; intro a S
  refine f_cutm 4 (fun a w' => Keep [] w24 w' ∧ Sx w [] φ4 [.blk b6 [iV x3, iV x4] 36, .blk b5 [iV x1, iV x2] 36, .blk b3 (GFraction.enc r5.1) 36] [(114, bV ((decide ((GFraction.mk x1 x2) = r5.1)) && (decide ((GFraction.mk x3 x4) = r5.1))))] 118 a w') ?_ ?_
  ·rcases Bool.eq_false_or_eq_true (decide ((GFraction.mk x1 x2) = r5.1)) with hb2 | hb2
   ·refine l_want S rfl rfl rfl hb2 (lv S (rn_ldA Tryz.isAgg36 Tryz.sizeOf36 (off := 0) (o := 0) (part := [iV x3, iV x4]) rfl rfl (S.tm rfl) (S.cellsAt (i := 0) rfl)) rfl ?_); clear S; intro a S
    refine l_want S rfl rfl rfl hb2 (lv S (rn_ldA Tryz.isAgg36 Tryz.sizeOf36 (off := 0) (o := 0) (part := (GFraction.enc r5.1)) rfl rfl (S.tm rfl) (S.cellsAt (i := 2) rfl)) rfl ?_); clear S; intro a S
    refine l_want S rfl rfl rfl hb2 (lv S (rn_eql_36 (m := (GFraction.mk x3 x4)) (n := r5.1) (S.tm rfl) (S.tm rfl)) rfl ?_); clear S; intro a S
    refine lv S (rn_and_t hb2 (S.tm rfl) (S.tm rfl)) rfl ?_; clear S; intro a S
    refine l_done (then_n ?_)
    exact ⟨Keep.refl _ _, S.nf [true, true, true] rfl ⟨rfl, trivial⟩⟩
   ·iterate 3 (refine l_skip S rfl rfl rfl (neq_f hb2) rfl ?_ rfl; clear S; intro a S)
    refine lv S (rn_and_f (decide ((GFraction.mk x3 x4) = r5.1)) hb2 (S.tm rfl) rfl) rfl ?_; clear S; intro a S
    refine l_done (then_n ?_)
    exact ⟨Keep.refl _ _, S.nf [true, true, true] rfl ⟨rfl, trivial⟩⟩
  clear S; rintro a w29 ⟨hk25, S⟩
  refine lv S (rn_move (S.tm rfl)) rfl ?_; clear S; intro a S
  obtain ⟨j3, hj3, h⟩ := joinE h
  refine f_cutm 2 (fun a w' => ∃ c1, j3 c1 = some r ∧ Keep [] w29 w' ∧ Sx w [] φ4 [.blk b6 [iV x3, iV x4] 36, .blk b5 [iV x1, iV x2] 36, .blk b3 (GFraction.enc r5.1) 36] [(117, bV c1)] 118 a w') ?_ ?_
  ·rcases Bool.eq_false_or_eq_true ((decide ((GFraction.mk x1 x2) = r5.1)) && (decide ((GFraction.mk x3 x4) = r5.1))) with hb3 | hb3
   ·replace h := iteT h hb3
    refine l_want S rfl rfl rfl hb3 ?_
    obtain ⟨r8, hr10, h⟩ := bindE h
    refine l_enter S (fun _ => run_call (vs := []) trivial Tryz.call11) (tumbkeep2_ready_ok _ _ hr10) rfl ?_; clear S; intro v9 a w31 hv9 hk26 hn9 S
    subst hv9
    refine lv S (rn_and_t hb3 (S.tm rfl) (S.tm rfl)) rfl ?_; clear S; intro a S
    refine l_done (then_n ?_)
    exact ⟨_, h, hk26, S.nf [true, true, true] rfl ⟨rfl, trivial⟩⟩
   ·replace h := iteF h hb3
    refine l_skip S rfl rfl rfl (neq_f hb3) rfl ?_ rfl; clear S; intro a S
    refine lv S (rn_and_f true hb3 (S.tm rfl) rfl) rfl ?_; clear S; intro a S
    refine l_done (then_n ?_)
    exact ⟨_, h, Keep.refl _ _, S.nf [true, true, true] rfl ⟨rfl, trivial⟩⟩
  clear S h; rintro a w30 ⟨c1, h, hk27, S⟩; rw [hj3] at h; clear hj3 j3
  refine lv S (rn_assign (S.tm rfl)) rfl ?_; clear S; intro a S
  refine l_done (then_n (wp_ret ?_))
  obtain rfl := Option.some.inj h
  exact f_ret S Tryz.results3 rfl rfl
end Go.Proofs.YtdfmfioglndohaaGreatDoor
