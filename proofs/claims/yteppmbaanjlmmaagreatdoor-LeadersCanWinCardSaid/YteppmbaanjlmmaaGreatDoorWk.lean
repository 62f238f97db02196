/- Each Go function computes its plain twin, by program. -/
import Derived.Test.YteppmbaanjlmmaaGreatDoorWk2
namespace Go.Proofs.YteppmbaanjlmmaaGreatDoor
open Go
theorem points_baseOf_ok (w : World) (v_p_l : Value) (p_l : List GBase) (hs_p_l : Slc (view w []) 2 v_p_l (p_l.map GBase.enc)) (p_race : ByteArray) (r : Int) (h : points_baseOf p_l p_race = r) :
    Calls Tryz.prog 54 [v_p_l, sV p_race].toArray w (Ret w [] fun _ v _ => v = iV r) := by
 refine f_enter [] [] Tryz.func54 rfl Tryz.ntmps54 rfl (by simp) (by simp [fps]) (by simp [fps]) fun a S => ?_
 unfold points_baseOf at h
 replace S := S.nk [] [(0, v_p_l), (1, sV p_race)] [] rfl (subR rfl)
 refine f_seq (f_region (lv S (rn_assign rfl) rfl ?_)); clear S; intro a S
 refine l_done (then_n (f_seq (f_seq (f_region (lv S (rn_move (S.tm rfl)) rfl ?_))))); clear S; intro a S
 refine lv S (rn_lenT sl_81 (S.tm rfl) (slc_len hs_p_l)) rfl ?_; clear S; intro a S
 refine lv S (rn_move rfl) rfl ?_; clear S; intro a S
 refine l_done (then_n ?_)
 replace S := S.nk [] [(1, sV p_race), (7, v_p_l), (8, iV (p_l.length : Int)), (9, iV 0)] [] rfl (subR rfl)
 obtain ⟨j1, hj1, h⟩ := joinE h
 refine f_join (fun a w' => j1 = r ∧ Sx w [] nov [] [] 20 a w') ?_ ?_
 ·refine wp_block (f_loop (fun (ys1 : List GBase) a w' => ∃ i1 : Nat, (∃ dn, p_l = dn ++ ys1 ∧ dn.length = i1) ∧ points_baseOf_l1 p_race j1 ys1 i1 = r ∧ Sx w [] nov [] [(1, sV p_race), (7, v_p_l), (8, iV (p_l.length : Int)), (9, iV (i1 : Int))] 20 a w') List.length p_l ⟨0, ⟨[], rfl, rfl⟩, h, S.nf [] rfl (subR rfl)⟩ ?_)
  clear S h; rintro ys1 a w1 ⟨i1, ⟨dn, hd1, hi1⟩, h, S⟩
  cases ys1 with
  | nil =>
   rw [points_baseOf_l1.eq_1] at h
   refine f_seq (f_region (lv S (rn_lss (S.tm rfl) (S.tm rfl)) rfl ?_)); clear S; intro a S
   refine l_done ?_
   replace S := S.nk [] [(1, sV p_race), (7, v_p_l), (8, iV (p_l.length : Int)), (9, iV (i1 : Int)), (10, bV (decide ((i1 : Int) < (p_l.length : Int))))] [] rfl (subR rfl)
   refine then_n (f_seq (wp_cond_false ((S.tm rfl).trans (congrArg Value.bool (rng_nil hd1 hi1))) (wp_exit (then_x (then_x (x_same ?_))))))
   refine then_n ?_
   exact ⟨h, S.nf [] rfl trivial⟩
  | cons y1 ys1 =>
   rw [points_baseOf_l1.eq_2] at h
   refine f_seq (f_region (lv S (rn_lss (S.tm rfl) (S.tm rfl)) rfl ?_)); clear S; intro a S
   refine l_done ?_
   replace S := S.nk [] [(1, sV p_race), (7, v_p_l), (8, iV (p_l.length : Int)), (9, iV (i1 : Int)), (10, bV (decide ((i1 : Int) < (p_l.length : Int))))] [] rfl (subR rfl)
   refine then_n (f_seq (wp_cond_true ((S.tm rfl).trans (congrArg Value.bool (rng_cons hd1 hi1))) (wp_skip (then_n (f_seq (wp_block ?_))))))
   refine f_seq (f_region ?_)
   obtain ⟨b1, o1, hm1, hr1⟩ := rn_indexT (a := a) (x := .tmp 7) (y := .tmp 9) (ty := 0) sl_81 hs_p_l (get_mid hd1 hi1) rfl (S.tm rfl) (S.tm rfl)
   refine lv S (hr1 _) rfl ?_; clear S; intro a S
   clear hr1
   refine lv S (rn_ldA Tryz.isAgg80 Tryz.sizeOf80 (off := o1) (o := 0) (part := (GBase.enc y1)) rfl rfl (S.tm rfl) (hm1.at S.emb0)) rfl ?_; clear S; intro a S
   refine l_alloc S Tryz.zeroValue80 (cs := [sV k_empty, iV 0]) rfl rfl ?_; clear S; intro a w3 b2 hz1 hk1 S
   refine l_store S (S.tm rfl) (S.tm rfl) (i := 0) (off := 0) rfl Tryz.sizeOf80 (vs := (GBase.enc y1)) rfl rfl rfl rfl ?_; clear S; intro w4 hk2 S
   refine l_done (then_n (f_seq (f_region (lv S (rn_fld fa_80_0 (S.tm rfl)) rfl ?_)))); clear S; intro a S
   refine lv S (rn_load Tryz.isAgg9 (S.tm rfl) (S.cell (i := 0) rfl rfl)) rfl ?_; clear S; intro a S
   refine lv S (rn_move (S.tm rfl)) rfl ?_; clear S; intro a S
   refine lv S (rn_seql (S.tm rfl) (S.tm rfl)) rfl ?_; clear S; intro a S
   refine l_done (then_n (f_cond (S.tm rfl) (fun hb1 => ?_) (fun hb1 => ?_)))
   ·replace h := iteT h hb1
    refine f_seq (f_region (lv S (rn_fld fa_80_1 (S.tm rfl)) rfl ?_)); clear S; intro a S
    refine lv S (rn_load Tryz.isAgg3 (S.tm rfl) (S.cell (i := 0) rfl rfl)) rfl ?_; clear S; intro a S
    refine lv S (rn_assign (S.tm rfl)) rfl ?_; clear S; intro a S
    refine l_done ?_
    replace S := S.nk [] [(4, iV y1.Time)] [false] rfl ⟨rfl, trivial⟩
    refine then_n (wp_ret (blk_r (then_r (then_r (blk_r (then_r ?_))))))
    refine then_r ?_
    subst h
    exact f_ret S Tryz.results54 rfl rfl
   ·replace h := iteF h hb1
    refine wp_skip (blk_n (then_n (f_region (lv S (rn_add (S.tm rfl) rfl) rfl ?_)))); clear S; intro a S
    refine lv S (rn_move (S.tm rfl)) rfl ?_; clear S; intro a S
    refine l_done (then_n ?_)
    exact ⟨ys1, ⟨i1 + 1, ⟨_, (hd1).trans (List.append_cons _ _ _), by simp [hi1]⟩, h, S.nf [false] rfl ⟨rfl, rfl, rfl, (congrArg (fun z => some (Value.int .i64 z)) (rng_next hd1 hi1 (slc_max hs_p_l))), trivial⟩⟩, Nat.lt_succ_self _⟩
 clear S h; rintro a w2 ⟨h, S⟩; rw [hj1] at h; clear hj1 j1
 refine then_n (f_seq (f_region (lv S (rn_assign rfl) rfl ?_))); clear S; intro a S
 refine l_done (then_n (wp_ret ?_))
 subst h
 exact f_ret S Tryz.results54 rfl rfl
theorem bits_Mul64_ok (w : World) (p_x : Int) (p_y : Int) (r : Int × Int) (h : bits_Mul64 p_x p_y = r) :
    Calls Tryz.prog 80 [.int .u64 p_x, .int .u64 p_y].toArray w (Ret w [] fun _ v _ => v = .tuple #[.int .u64 r.1, .int .u64 r.2]) := by
 refine f_enter [] [] Tryz.func80 rfl Tryz.ntmps80 rfl (by simp) (by simp [fps]) (by simp [fps]) fun a S => ?_
 unfold bits_Mul64 at h
 replace S := S.nk [] [(0, .int .u64 p_x), (1, .int .u64 p_y)] [] rfl (subR rfl)
 refine f_seq (f_region (lv S (rn_assign rfl) rfl ?_)); clear S; intro a S
 refine lv S (rn_assign rfl) rfl ?_; clear S; intro a S
 refine l_done (then_n (f_seq (f_region (lv S (rn_move (S.tm rfl)) rfl ?_)))); clear S; intro a S
 refine lv S (rn_and_ (S.tm rfl) rfl) rfl ?_; clear S; intro a S
 refine lv S (rn_assign (S.tm rfl)) rfl ?_; clear S; intro a S
 refine l_done (then_n (f_seq (f_region (lv S (rn_move (S.tm rfl)) rfl ?_)))); clear S; intro a S
 refine lv S (rn_shr (S.tm rfl) rfl (by decide)) rfl ?_; clear S; intro a S
 refine lv S (rn_assign (S.tm rfl)) rfl ?_; clear S; intro a S
 refine l_done (then_n (f_seq (f_region (lv S (rn_move (S.tm rfl)) rfl ?_)))); clear S; intro a S
 refine lv S (rn_and_ (S.tm rfl) rfl) rfl ?_; clear S; intro a S
 refine lv S (rn_assign (S.tm rfl)) rfl ?_; clear S; intro a S
 refine l_done (then_n (f_seq (f_region (lv S (rn_move (S.tm rfl)) rfl ?_)))); clear S; intro a S
 refine lv S (rn_shr (S.tm rfl) rfl (by decide)) rfl ?_; clear S; intro a S
 refine lv S (rn_assign (S.tm rfl)) rfl ?_; clear S; intro a S
 refine l_done ?_
 replace S := S.nk [] [(0, .int .u64 p_x), (1, .int .u64 p_y), (6, .int .u64 (bitAnd .u64 p_x 4294967295)), (7, .int .u64 (bitShr .u64 p_x 32)), (8, .int .u64 (bitAnd .u64 p_y 4294967295)), (9, .int .u64 (bitShr .u64 p_y 32))] [] rfl (subR rfl)
 refine then_n (f_seq (f_region (lv S (rn_move (S.tm rfl)) rfl ?_))); clear S; intro a S
 refine lv S (rn_move (S.tm rfl)) rfl ?_; clear S; intro a S
 refine lv S (rn_mulk (S.tm rfl) (S.tm rfl)) rfl ?_; clear S; intro a S
 refine lv S (rn_assign (S.tm rfl)) rfl ?_; clear S; intro a S
 refine l_done (then_n (f_seq (f_region (lv S (rn_move (S.tm rfl)) rfl ?_)))); clear S; intro a S
 refine lv S (rn_move (S.tm rfl)) rfl ?_; clear S; intro a S
 refine lv S (rn_mulk (S.tm rfl) (S.tm rfl)) rfl ?_; clear S; intro a S
 refine lv S (rn_move (S.tm rfl)) rfl ?_; clear S; intro a S
 refine lv S (rn_shr (S.tm rfl) rfl (by decide)) rfl ?_; clear S; intro a S
 refine lv S (rn_addk (S.tm rfl) (S.tm rfl)) rfl ?_; clear S; intro a S
 refine lv S (rn_assign (S.tm rfl)) rfl ?_; clear S; intro a S
 refine l_done ?_
 replace S := S.nk [] [(0, .int .u64 p_x), (1, .int .u64 p_y), (6, .int .u64 (bitAnd .u64 p_x 4294967295)), (7, .int .u64 (bitShr .u64 p_x 32)), (9, .int .u64 (bitShr .u64 p_y 32)), (11, .int .u64 (IntKind.wrap .u64 ((IntKind.wrap .u64 ((bitShr .u64 p_x 32) * (bitAnd .u64 p_y 4294967295))) + (bitShr .u64 (IntKind.wrap .u64 ((bitAnd .u64 p_x 4294967295) * (bitAnd .u64 p_y 4294967295))) 32))))] [] rfl (subR rfl)
 refine then_n (f_seq (f_region (lv S (rn_move (S.tm rfl)) rfl ?_))); clear S; intro a S
 refine lv S (rn_and_ (S.tm rfl) rfl) rfl ?_; clear S; intro a S
 refine lv S (rn_assign (S.tm rfl)) rfl ?_; clear S; intro a S
 refine l_done (then_n (f_seq (f_region (lv S (rn_move (S.tm rfl)) rfl ?_)))); clear S; intro a S
 refine lv S (rn_shr (S.tm rfl) rfl (by decide)) rfl ?_; clear S; intro a S
 refine lv S (rn_assign (S.tm rfl)) rfl ?_; clear S; intro a S
 refine l_done (then_n (f_seq (f_region (lv S (rn_move (S.tm rfl)) rfl ?_)))); clear S; intro a S
 refine lv S (rn_move (S.tm rfl)) rfl ?_; clear S; intro a S
 refine lv S (rn_move (S.tm rfl)) rfl ?_; clear S; intro a S
 refine lv S (rn_mulk (S.tm rfl) (S.tm rfl)) rfl ?_; clear S; intro a S
 refine lv S (rn_addk (S.tm rfl) (S.tm rfl)) rfl ?_; clear S; intro a S
 refine lv S (rn_assign (S.tm rfl)) rfl ?_; clear S; intro a S
 refine l_done ?_
 replace S := S.nk [] [(0, .int .u64 p_x), (1, .int .u64 p_y), (7, .int .u64 (bitShr .u64 p_x 32)), (9, .int .u64 (bitShr .u64 p_y 32)), (12, .int .u64 (IntKind.wrap .u64 ((bitAnd .u64 (IntKind.wrap .u64 ((IntKind.wrap .u64 ((bitShr .u64 p_x 32) * (bitAnd .u64 p_y 4294967295))) + (bitShr .u64 (IntKind.wrap .u64 ((bitAnd .u64 p_x 4294967295) * (bitAnd .u64 p_y 4294967295))) 32))) 4294967295) + (IntKind.wrap .u64 ((bitAnd .u64 p_x 4294967295) * (bitShr .u64 p_y 32)))))), (13, .int .u64 (bitShr .u64 (IntKind.wrap .u64 ((IntKind.wrap .u64 ((bitShr .u64 p_x 32) * (bitAnd .u64 p_y 4294967295))) + (bitShr .u64 (IntKind.wrap .u64 ((bitAnd .u64 p_x 4294967295) * (bitAnd .u64 p_y 4294967295))) 32))) 32))] [] rfl (subR rfl)
 refine then_n (f_seq (f_region (lv S (rn_move (S.tm rfl)) rfl ?_))); clear S; intro a S
 refine lv S (rn_move (S.tm rfl)) rfl ?_; clear S; intro a S
 refine lv S (rn_mulk (S.tm rfl) (S.tm rfl)) rfl ?_; clear S; intro a S
 refine lv S (rn_move (S.tm rfl)) rfl ?_; clear S; intro a S
 refine lv S (rn_addk (S.tm rfl) (S.tm rfl)) rfl ?_; clear S; intro a S
 refine lv S (rn_move (S.tm rfl)) rfl ?_; clear S; intro a S
 refine lv S (rn_shr (S.tm rfl) rfl (by decide)) rfl ?_; clear S; intro a S
 refine lv S (rn_addk (S.tm rfl) (S.tm rfl)) rfl ?_; clear S; intro a S
 refine lv S (rn_assign (S.tm rfl)) rfl ?_; clear S; intro a S
 refine l_done ?_
 replace S := S.nk [] [(0, .int .u64 p_x), (1, .int .u64 p_y), (4, .int .u64 (IntKind.wrap .u64 ((IntKind.wrap .u64 ((IntKind.wrap .u64 ((bitShr .u64 p_x 32) * (bitShr .u64 p_y 32))) + (bitShr .u64 (IntKind.wrap .u64 ((IntKind.wrap .u64 ((bitShr .u64 p_x 32) * (bitAnd .u64 p_y 4294967295))) + (bitShr .u64 (IntKind.wrap .u64 ((bitAnd .u64 p_x 4294967295) * (bitAnd .u64 p_y 4294967295))) 32))) 32))) + (bitShr .u64 (IntKind.wrap .u64 ((bitAnd .u64 (IntKind.wrap .u64 ((IntKind.wrap .u64 ((bitShr .u64 p_x 32) * (bitAnd .u64 p_y 4294967295))) + (bitShr .u64 (IntKind.wrap .u64 ((bitAnd .u64 p_x 4294967295) * (bitAnd .u64 p_y 4294967295))) 32))) 4294967295) + (IntKind.wrap .u64 ((bitAnd .u64 p_x 4294967295) * (bitShr .u64 p_y 32))))) 32))))] [] rfl (subR rfl)
 refine then_n (f_seq (f_region (lv S (rn_move (S.tm rfl)) rfl ?_))); clear S; intro a S
 refine lv S (rn_move (S.tm rfl)) rfl ?_; clear S; intro a S
 refine lv S (rn_mulk (S.tm rfl) (S.tm rfl)) rfl ?_; clear S; intro a S
 refine lv S (rn_assign (S.tm rfl)) rfl ?_; clear S; intro a S
 refine l_done (then_n (wp_ret ?_))
 subst h
 exact f_ret2 S Tryz.results80 rfl rfl rfl
theorem bits_LeadingZeros64_ok (w : World) (p_x : Int) (r : Int) (h : bits_LeadingZeros64 p_x = some r) :
    Calls Tryz.prog 104 [.int .u64 p_x].toArray w (Ret w [] fun _ v _ => v = iV r) := by
 refine f_enter [] [] Tryz.func104 rfl Tryz.ntmps104 rfl (by simp) (by simp [fps]) (by simp [fps]) fun a S => ?_
 unfold bits_LeadingZeros64 at h
 replace S := S.nk [] [(0, .int .u64 p_x)] [] rfl ⟨rfl, trivial⟩
 refine f_seq (f_region (lv S (rn_assign rfl) rfl ?_)); clear S; intro a S
 refine l_done (then_n (f_seq (f_region (lv S (rn_move (S.tm rfl)) rfl ?_)))); clear S; intro a S
 obtain ⟨r1, hr1, h⟩ := bindE h
 refine l_enter S (fun _ => run_call (vs := [.int .u64 p_x]) ⟨(S.tm rfl), trivial⟩ Tryz.call69) (bits_Len64_ok _ p_x _ hr1) rfl ?_; clear S; intro v1 a w1 hv1 hk1 hn1 S
 subst hv1
 refine lv S (rn_sub rfl (S.tm rfl)) rfl ?_; clear S; intro a S
 refine lv S (rn_assign (S.tm rfl)) rfl ?_; clear S; intro a S
 refine l_done (then_n (wp_ret ?_))
 obtain rfl := Option.some.inj h
 exact f_ret S Tryz.results104 rfl rfl
set_option maxRecDepth 20000 in
theorem bits_Div64_ok (w : World) (p_hi : Int) (p_lo : Int) (p_y : Int) (r : Int × Int) (h : bits_Div64 p_hi p_lo p_y = some r) :
    Calls Tryz.prog 81 [.int .u64 p_hi, .int .u64 p_lo, .int .u64 p_y].toArray w (Ret w [] fun _ v _ => v = .tuple #[.int .u64 r.1, .int .u64 r.2]) := by
 refine f_enter [] [] Tryz.func81 rfl Tryz.ntmps81 rfl (by simp) (by simp [fps]) (by simp [fps]) fun a S => ?_
 unfold bits_Div64 at h
 replace S := S.nk [] [(0, .int .u64 p_hi), (1, .int .u64 p_lo), (2, .int .u64 p_y)] [] rfl (subR rfl)
 refine f_seq (f_region (lv S (rn_assign rfl) rfl ?_)); clear S; intro a S
 refine lv S (rn_assign rfl) rfl ?_; clear S; intro a S
 refine l_done (then_n (f_seq (f_seq (f_region (lv S (rn_move (S.tm rfl)) rfl ?_))))); clear S; intro a S
 refine lv S (rn_eql (S.tm rfl) rfl) rfl ?_; clear S; intro a S
 refine l_done (then_n (f_cond (S.tm rfl) (fun hb1 => ?_) (fun hb1 => ?_)))
 ·replace h := iteT h hb1
  cases h
 ·replace h := iteF h hb1
  refine wp_skip (then_n (f_seq (f_seq (f_region (lv S (rn_move (S.tm rfl)) rfl ?_))))); clear S; intro a S
  refine lv S (rn_move (S.tm rfl)) rfl ?_; clear S; intro a S
  refine lv S (rn_leq (S.tm rfl) (S.tm rfl)) rfl ?_; clear S; intro a S
  refine l_done (then_n (f_cond (S.tm rfl) (fun hb2 => ?_) (fun hb2 => ?_)))
  ·replace h := iteT h hb2
   cases h
  ·replace h := iteF h hb2
   refine wp_skip (then_n (f_seq (f_seq (f_region (lv S (rn_move (S.tm rfl)) rfl ?_))))); clear S; intro a S
   refine lv S (rn_eql (S.tm rfl) rfl) rfl ?_; clear S; intro a S
   refine l_done (then_n (f_cond (S.tm rfl) (fun hb3 => ?_) (fun hb3 => ?_)))
   ·replace h := iteT h hb3
    refine f_seq (d_region [] ([]) Tryz.mixed S rfl (by kernel_rfl) ?_); clear S; intro w1 hk1 hsel S
    refine d_rest [0, 1, 2, 3, 4, 5, 6, 7] hsel (by kernel_rfl) rfl ?_
    clear hsel
    refine s_lv S rfl (rn_move (S.tm rfl)) rfl ?_; clear S; intro a S
    refine s_lv S rfl (rn_move (S.tm rfl)) rfl ?_; clear S; intro a S
    obtain ⟨hc1, h⟩ := chkE h
    refine s_lv S rfl (rn_quok (S.tm rfl) (S.tm rfl) (ne0_of hc1)) rfl ?_; clear S; intro a S
    refine s_lv S rfl (rn_move (S.tm rfl)) rfl ?_; clear S; intro a S
    refine s_lv S rfl (rn_move (S.tm rfl)) rfl ?_; clear S; intro a S
    obtain ⟨hc2, h⟩ := chkE h
    refine s_lv S rfl (rn_remk (S.tm rfl) (S.tm rfl) (ne0_of hc2)) rfl ?_; clear S; intro a S
    refine s_lv S rfl (rn_assign (S.tm rfl)) rfl ?_; clear S; intro a S
    refine s_lv S rfl (rn_assign (S.tm rfl)) rfl ?_; clear S; intro a S
    refine s_done ?_
    replace S := S.nk [] [(6, .int .u64 (IntKind.wrap .u64 (Int.tdiv p_lo p_y))), (7, .int .u64 (Int.tmod p_lo p_y))] [] rfl (subR rfl)
    refine then_n (wp_ret (then_r ?_))
    obtain rfl := Option.some.inj h
    exact f_ret2 S Tryz.results81 rfl rfl rfl
   ·replace h := iteF h hb3
    refine wp_skip (then_n (f_seq (f_region (lv S (rn_move (S.tm rfl)) rfl ?_)))); clear S; intro a S
    obtain ⟨r1, hr1, h⟩ := bindE h
    refine l_enter S (fun _ => run_call (vs := [.int .u64 p_y]) ⟨(S.tm rfl), trivial⟩ Tryz.call104) (bits_LeadingZeros64_ok _ p_y _ hr1) rfl ?_; clear S; intro v1 a w2 hv1 hk2 hn1 S
    subst hv1
    refine lv S (rn_conv Tryz.underlying3 Tryz.underlying90 (S.tm rfl)) rfl ?_; clear S; intro a S
    refine lv S (rn_assign (S.tm rfl)) rfl ?_; clear S; intro a S
    refine l_done ?_
    replace S := S.nk [] [(0, .int .u64 p_hi), (1, .int .u64 p_lo), (2, .int .u64 p_y), (8, .int .u64 (IntKind.wrap .u64 r1))] [] rfl (subR rfl)
    refine then_n (f_seq (f_region (lv S (rn_move (S.tm rfl)) rfl ?_))); clear S; intro a S
    refine lv S (rn_move (S.tm rfl)) rfl ?_; clear S; intro a S
    obtain ⟨hc3, h⟩ := chkE h
    refine lv S (rn_shl (S.tm rfl) (S.tm rfl) (of_decide_eq_true hc3)) rfl ?_; clear S; intro a S
    refine lv S (rn_assign (S.tm rfl)) rfl ?_; clear S; intro a S
    refine l_done (then_n (f_seq (f_region (lv S (rn_move (S.tm rfl)) rfl ?_)))); clear S; intro a S
    refine lv S (rn_shr (S.tm rfl) rfl (by decide)) rfl ?_; clear S; intro a S
    refine lv S (rn_assign (S.tm rfl)) rfl ?_; clear S; intro a S
    refine l_done (then_n (f_seq (f_region (lv S (rn_move (S.tm rfl)) rfl ?_)))); clear S; intro a S
    refine lv S (rn_and_ (S.tm rfl) rfl) rfl ?_; clear S; intro a S
    refine lv S (rn_assign (S.tm rfl)) rfl ?_; clear S; intro a S
    refine l_done (then_n (f_seq (f_region (lv S (rn_move (S.tm rfl)) rfl ?_)))); clear S; intro a S
    refine lv S (rn_move (S.tm rfl)) rfl ?_; clear S; intro a S
    obtain ⟨hc4, h⟩ := chkE h
    refine lv S (rn_shl (S.tm rfl) (S.tm rfl) (of_decide_eq_true hc4)) rfl ?_; clear S; intro a S
    refine lv S (rn_move (S.tm rfl)) rfl ?_; clear S; intro a S
    refine lv S (rn_move (S.tm rfl)) rfl ?_; clear S; intro a S
    refine lv S (rn_subk rfl (S.tm rfl)) rfl ?_; clear S; intro a S
    obtain ⟨hc5, h⟩ := chkE h
    refine lv S (rn_shr (S.tm rfl) (S.tm rfl) (of_decide_eq_true hc5)) rfl ?_; clear S; intro a S
    refine lv S (rn_or_ (S.tm rfl) (S.tm rfl)) rfl ?_; clear S; intro a S
    refine lv S (rn_assign (S.tm rfl)) rfl ?_; clear S; intro a S
    refine l_done ?_
    replace S := S.nk [] [(1, .int .u64 p_lo), (2, .int .u64 (bitShl .u64 p_y (IntKind.wrap .u64 r1))), (8, .int .u64 (IntKind.wrap .u64 r1)), (9, .int .u64 (bitShr .u64 (bitShl .u64 p_y (IntKind.wrap .u64 r1)) 32)), (10, .int .u64 (bitAnd .u64 (bitShl .u64 p_y (IntKind.wrap .u64 r1)) 4294967295)), (11, .int .u64 (bitOr .u64 (bitShl .u64 p_hi (IntKind.wrap .u64 r1)) (bitShr .u64 p_lo (IntKind.wrap .u64 (64 - (IntKind.wrap .u64 r1))))))] [] rfl (subR rfl)
    refine then_n (f_seq (f_region (lv S (rn_move (S.tm rfl)) rfl ?_))); clear S; intro a S
    refine lv S (rn_move (S.tm rfl)) rfl ?_; clear S; intro a S
    obtain ⟨hc6, h⟩ := chkE h
    refine lv S (rn_shl (S.tm rfl) (S.tm rfl) (of_decide_eq_true hc6)) rfl ?_; clear S; intro a S
    refine lv S (rn_assign (S.tm rfl)) rfl ?_; clear S; intro a S
    refine l_done (then_n (f_seq (f_region (lv S (rn_move (S.tm rfl)) rfl ?_)))); clear S; intro a S
    refine lv S (rn_shr (S.tm rfl) rfl (by decide)) rfl ?_; clear S; intro a S
    refine lv S (rn_assign (S.tm rfl)) rfl ?_; clear S; intro a S
    refine l_done (then_n (f_seq (f_region (lv S (rn_move (S.tm rfl)) rfl ?_)))); clear S; intro a S
    refine lv S (rn_and_ (S.tm rfl) rfl) rfl ?_; clear S; intro a S
    refine lv S (rn_assign (S.tm rfl)) rfl ?_; clear S; intro a S
    refine l_done ?_
    replace S := S.nk [] [(2, .int .u64 (bitShl .u64 p_y (IntKind.wrap .u64 r1))), (8, .int .u64 (IntKind.wrap .u64 r1)), (9, .int .u64 (bitShr .u64 (bitShl .u64 p_y (IntKind.wrap .u64 r1)) 32)), (10, .int .u64 (bitAnd .u64 (bitShl .u64 p_y (IntKind.wrap .u64 r1)) 4294967295)), (11, .int .u64 (bitOr .u64 (bitShl .u64 p_hi (IntKind.wrap .u64 r1)) (bitShr .u64 p_lo (IntKind.wrap .u64 (64 - (IntKind.wrap .u64 r1)))))), (13, .int .u64 (bitShr .u64 (bitShl .u64 p_lo (IntKind.wrap .u64 r1)) 32)), (14, .int .u64 (bitAnd .u64 (bitShl .u64 p_lo (IntKind.wrap .u64 r1)) 4294967295))] [] rfl (subR rfl)
    refine then_n (f_seq (f_region (lv S (rn_move (S.tm rfl)) rfl ?_))); clear S; intro a S
    refine lv S (rn_move (S.tm rfl)) rfl ?_; clear S; intro a S
    obtain ⟨hc7, h⟩ := chkE h
    refine lv S (rn_quok (S.tm rfl) (S.tm rfl) (ne0_of hc7)) rfl ?_; clear S; intro a S
    refine lv S (rn_assign (S.tm rfl)) rfl ?_; clear S; intro a S
    refine l_done (then_n (f_seq (f_region (lv S (rn_move (S.tm rfl)) rfl ?_)))); clear S; intro a S
    refine lv S (rn_move (S.tm rfl)) rfl ?_; clear S; intro a S
    refine lv S (rn_move (S.tm rfl)) rfl ?_; clear S; intro a S
    refine lv S (rn_mulk (S.tm rfl) (S.tm rfl)) rfl ?_; clear S; intro a S
    refine lv S (rn_subk (S.tm rfl) (S.tm rfl)) rfl ?_; clear S; intro a S
    refine lv S (rn_assign (S.tm rfl)) rfl ?_; clear S; intro a S
    refine l_done ?_
    replace S := S.nk [] [(2, .int .u64 (bitShl .u64 p_y (IntKind.wrap .u64 r1))), (8, .int .u64 (IntKind.wrap .u64 r1)), (9, .int .u64 (bitShr .u64 (bitShl .u64 p_y (IntKind.wrap .u64 r1)) 32)), (10, .int .u64 (bitAnd .u64 (bitShl .u64 p_y (IntKind.wrap .u64 r1)) 4294967295)), (11, .int .u64 (bitOr .u64 (bitShl .u64 p_hi (IntKind.wrap .u64 r1)) (bitShr .u64 p_lo (IntKind.wrap .u64 (64 - (IntKind.wrap .u64 r1)))))), (13, .int .u64 (bitShr .u64 (bitShl .u64 p_lo (IntKind.wrap .u64 r1)) 32)), (14, .int .u64 (bitAnd .u64 (bitShl .u64 p_lo (IntKind.wrap .u64 r1)) 4294967295)), (15, .int .u64 (IntKind.wrap .u64 (Int.tdiv (bitOr .u64 (bitShl .u64 p_hi (IntKind.wrap .u64 r1)) (bitShr .u64 p_lo (IntKind.wrap .u64 (64 - (IntKind.wrap .u64 r1))))) (bitShr .u64 (bitShl .u64 p_y (IntKind.wrap .u64 r1)) 32)))), (16, .int .u64 (IntKind.wrap .u64 ((bitOr .u64 (bitShl .u64 p_hi (IntKind.wrap .u64 r1)) (bitShr .u64 p_lo (IntKind.wrap .u64 (64 - (IntKind.wrap .u64 r1))))) - (IntKind.wrap .u64 ((IntKind.wrap .u64 (Int.tdiv (bitOr .u64 (bitShl .u64 p_hi (IntKind.wrap .u64 r1)) (bitShr .u64 p_lo (IntKind.wrap .u64 (64 - (IntKind.wrap .u64 r1))))) (bitShr .u64 (bitShl .u64 p_y (IntKind.wrap .u64 r1)) 32))) * (bitShr .u64 (bitShl .u64 p_y (IntKind.wrap .u64 r1)) 32))))))] [] rfl (subR rfl)
    refine then_n (f_seq ?_)
    obtain ⟨j1, hj1, h⟩ := joinE h
    refine f_join (fun a w' => ∃ x1 : Int, j1 x1 = some r ∧ Sx w [] nov [] [(2, .int .u64 (bitShl .u64 p_y (IntKind.wrap .u64 r1))), (8, .int .u64 (IntKind.wrap .u64 r1)), (9, .int .u64 (bitShr .u64 (bitShl .u64 p_y (IntKind.wrap .u64 r1)) 32)), (10, .int .u64 (bitAnd .u64 (bitShl .u64 p_y (IntKind.wrap .u64 r1)) 4294967295)), (11, .int .u64 (bitOr .u64 (bitShl .u64 p_hi (IntKind.wrap .u64 r1)) (bitShr .u64 p_lo (IntKind.wrap .u64 (64 - (IntKind.wrap .u64 r1)))))), (13, .int .u64 (bitShr .u64 (bitShl .u64 p_lo (IntKind.wrap .u64 r1)) 32)), (14, .int .u64 (bitAnd .u64 (bitShl .u64 p_lo (IntKind.wrap .u64 r1)) 4294967295)), (15, .int .u64 x1)] 135 a w') ?_ ?_
    ·refine wp_block (f_loop (fun (m1 : Nat) a w' => ∃ x1 : Int, ∃ x2 : Int, bits_Div64_l1 p_lo r1 p_y j1 m1 x1 x2 = some r ∧ Sx w [] nov [] [(2, .int .u64 (bitShl .u64 p_y (IntKind.wrap .u64 r1))), (8, .int .u64 (IntKind.wrap .u64 r1)), (9, .int .u64 (bitShr .u64 (bitShl .u64 p_y (IntKind.wrap .u64 r1)) 32)), (10, .int .u64 (bitAnd .u64 (bitShl .u64 p_y (IntKind.wrap .u64 r1)) 4294967295)), (11, .int .u64 (bitOr .u64 (bitShl .u64 p_hi (IntKind.wrap .u64 r1)) (bitShr .u64 p_lo (IntKind.wrap .u64 (64 - (IntKind.wrap .u64 r1)))))), (13, .int .u64 (bitShr .u64 (bitShl .u64 p_lo (IntKind.wrap .u64 r1)) 32)), (14, .int .u64 (bitAnd .u64 (bitShl .u64 p_lo (IntKind.wrap .u64 r1)) 4294967295)), (15, .int .u64 x1), (16, .int .u64 x2)] 135 a w') id (((IntKind.wrap .u64 (Int.tdiv (bitOr .u64 (bitShl .u64 p_hi (IntKind.wrap .u64 r1)) (bitShr .u64 p_lo (IntKind.wrap .u64 (64 - (IntKind.wrap .u64 r1))))) (bitShr .u64 (bitShl .u64 p_y (IntKind.wrap .u64 r1)) 32))) - 4294967296).toNat + 2) ⟨IntKind.wrap .u64 (Int.tdiv (bitOr .u64 (bitShl .u64 p_hi (IntKind.wrap .u64 r1)) (bitShr .u64 p_lo (IntKind.wrap .u64 (64 - (IntKind.wrap .u64 r1))))) (bitShr .u64 (bitShl .u64 p_y (IntKind.wrap .u64 r1)) 32)), IntKind.wrap .u64 ((bitOr .u64 (bitShl .u64 p_hi (IntKind.wrap .u64 r1)) (bitShr .u64 p_lo (IntKind.wrap .u64 (64 - (IntKind.wrap .u64 r1))))) - (IntKind.wrap .u64 ((IntKind.wrap .u64 (Int.tdiv (bitOr .u64 (bitShl .u64 p_hi (IntKind.wrap .u64 r1)) (bitShr .u64 p_lo (IntKind.wrap .u64 (64 - (IntKind.wrap .u64 r1))))) (bitShr .u64 (bitShl .u64 p_y (IntKind.wrap .u64 r1)) 32))) * (bitShr .u64 (bitShl .u64 p_y (IntKind.wrap .u64 r1)) 32)))), h, S.nf [] rfl (subR rfl)⟩ ?_)
     clear S h; rintro m1 a w3 ⟨x1, x2, h, S⟩
     cases m1 with
     | zero => rw [bits_Div64_l1.eq_1] at h; cases h
     | succ m1 =>
      rw [bits_Div64_l1.eq_2] at h
      refine f_seq (f_seq (f_region (lv S (rn_move (S.tm rfl)) rfl ?_))); clear S; intro a S
      refine lv S (rn_geq (S.tm rfl) rfl) rfl ?_; clear S; intro a S
      refine lv S (rn_move (S.tm rfl)) rfl ?_; clear S; intro a S
      refine f_cutm 9 (fun a w' => Keep [] w3 w' ∧ Sx w [] nov [] [(2, .int .u64 (bitShl .u64 p_y (IntKind.wrap .u64 r1))), (8, .int .u64 (IntKind.wrap .u64 r1)), (9, .int .u64 (bitShr .u64 (bitShl .u64 p_y (IntKind.wrap .u64 r1)) 32)), (10, .int .u64 (bitAnd .u64 (bitShl .u64 p_y (IntKind.wrap .u64 r1)) 4294967295)), (11, .int .u64 (bitOr .u64 (bitShl .u64 p_hi (IntKind.wrap .u64 r1)) (bitShr .u64 p_lo (IntKind.wrap .u64 (64 - (IntKind.wrap .u64 r1)))))), (13, .int .u64 (bitShr .u64 (bitShl .u64 p_lo (IntKind.wrap .u64 r1)) 32)), (14, .int .u64 (bitAnd .u64 (bitShl .u64 p_lo (IntKind.wrap .u64 r1)) 4294967295)), (15, .int .u64 x1), (16, .int .u64 x2), (78, bV ((decide (4294967296 ≤ x1)) || (decide ((IntKind.wrap .u64 ((IntKind.wrap .u64 (4294967296 * x2)) + (bitShr .u64 (bitShl .u64 p_lo (IntKind.wrap .u64 r1)) 32))) < (IntKind.wrap .u64 (x1 * (bitAnd .u64 (bitShl .u64 p_y (IntKind.wrap .u64 r1)) 4294967295)))))))] 135 a w') ?_ ?_
      ·rcases Bool.eq_false_or_eq_true (decide (4294967296 ≤ x1)) with hb4 | hb4
       ·iterate 8 (refine l_skip S rfl rfl rfl (neq_t hb4) rfl ?_ rfl; clear S; intro a S)
        refine lv S (rn_or_t (decide ((IntKind.wrap .u64 ((IntKind.wrap .u64 (4294967296 * x2)) + (bitShr .u64 (bitShl .u64 p_lo (IntKind.wrap .u64 r1)) 32))) < (IntKind.wrap .u64 (x1 * (bitAnd .u64 (bitShl .u64 p_y (IntKind.wrap .u64 r1)) 4294967295))))) hb4 (S.tm rfl) rfl) rfl ?_; clear S; intro a S
        refine l_done (then_n ?_)
        exact ⟨Keep.refl _ _, S.nf [] rfl (subR rfl)⟩
       ·refine l_want S rfl rfl rfl hb4 (lv S (rn_move (S.tm rfl)) rfl ?_); clear S; intro a S
        refine l_want S rfl rfl rfl hb4 (lv S (rn_move (S.tm rfl)) rfl ?_); clear S; intro a S
        refine l_want S rfl rfl rfl hb4 (lv S (rn_mulk (S.tm rfl) (S.tm rfl)) rfl ?_); clear S; intro a S
        refine l_want S rfl rfl rfl hb4 (lv S (rn_move (S.tm rfl)) rfl ?_); clear S; intro a S
        refine l_want S rfl rfl rfl hb4 (lv S (rn_mulk rfl (S.tm rfl)) rfl ?_); clear S; intro a S
        refine l_want S rfl rfl rfl hb4 (lv S (rn_move (S.tm rfl)) rfl ?_); clear S; intro a S
        refine l_want S rfl rfl rfl hb4 (lv S (rn_addk (S.tm rfl) (S.tm rfl)) rfl ?_); clear S; intro a S
        refine l_want S rfl rfl rfl hb4 (lv S (rn_gtr (S.tm rfl) (S.tm rfl)) rfl ?_); clear S; intro a S
        refine lv S (rn_or_f hb4 (S.tm rfl) (S.tm rfl)) rfl ?_; clear S; intro a S
        refine l_done (then_n ?_)
        exact ⟨Keep.refl _ _, S.nf [] rfl (subR rfl)⟩
      clear S; rintro a w5 ⟨hk3, S⟩
      refine l_done (then_n (f_cond (S.tm rfl) (fun hb5 => ?_) (fun hb5 => ?_)))
      ·replace h := iteT h hb5
       refine wp_skip (then_n (wp_block (f_seq (f_region (lv S (rn_move (S.tm rfl)) rfl ?_))))); clear S; intro a S
       refine lv S (rn_subk (S.tm rfl) rfl) rfl ?_; clear S; intro a S
       refine lv S (rn_assign (S.tm rfl)) rfl ?_; clear S; intro a S
       refine l_done (then_n (f_seq (f_region (lv S (rn_move (S.tm rfl)) rfl ?_)))); clear S; intro a S
       refine lv S (rn_move (S.tm rfl)) rfl ?_; clear S; intro a S
       refine lv S (rn_addk (S.tm rfl) (S.tm rfl)) rfl ?_; clear S; intro a S
       refine lv S (rn_assign (S.tm rfl)) rfl ?_; clear S; intro a S
       refine l_done ?_
       replace S := S.nk [] [(2, .int .u64 (bitShl .u64 p_y (IntKind.wrap .u64 r1))), (8, .int .u64 (IntKind.wrap .u64 r1)), (9, .int .u64 (bitShr .u64 (bitShl .u64 p_y (IntKind.wrap .u64 r1)) 32)), (10, .int .u64 (bitAnd .u64 (bitShl .u64 p_y (IntKind.wrap .u64 r1)) 4294967295)), (11, .int .u64 (bitOr .u64 (bitShl .u64 p_hi (IntKind.wrap .u64 r1)) (bitShr .u64 p_lo (IntKind.wrap .u64 (64 - (IntKind.wrap .u64 r1)))))), (13, .int .u64 (bitShr .u64 (bitShl .u64 p_lo (IntKind.wrap .u64 r1)) 32)), (14, .int .u64 (bitAnd .u64 (bitShl .u64 p_lo (IntKind.wrap .u64 r1)) 4294967295)), (15, .int .u64 (IntKind.wrap .u64 (x1 - 1))), (16, .int .u64 (IntKind.wrap .u64 (x2 + (bitShr .u64 (bitShl .u64 p_y (IntKind.wrap .u64 r1)) 32))))] [] rfl (subR rfl)
       refine then_n (f_seq (f_region (lv S (rn_move (S.tm rfl)) rfl ?_))); clear S; intro a S
       refine lv S (rn_geq (S.tm rfl) rfl) rfl ?_; clear S; intro a S
       refine l_done (then_n (f_cond (S.tm rfl) (fun hb6 => ?_) (fun hb6 => ?_)))
       ·replace h := iteT h hb6
        refine wp_exit (x_other rfl (then_x (x_same (then_n ?_))))
        exact ⟨IntKind.wrap .u64 (x1 - 1), h, S.nf [] rfl (subR rfl)⟩
       ·replace h := iteF h hb6
        refine wp_skip (blk_n (then_n ?_))
        exact ⟨m1, ⟨IntKind.wrap .u64 (x1 - 1), IntKind.wrap .u64 (x2 + (bitShr .u64 (bitShl .u64 p_y (IntKind.wrap .u64 r1)) 32)), h, S.nf [] rfl ⟨rfl, rfl, rfl, rfl, rfl, rfl, rfl, rfl, rfl, trivial⟩⟩, Nat.lt_succ_self _⟩
      ·replace h := iteF h hb5
       refine wp_exit (then_x (then_x (x_same (then_n ?_))))
       exact ⟨x1, h, S.nf [] rfl (subR rfl)⟩
    clear S h; rintro a w4 ⟨x1, h, S⟩; rw [hj1] at h; clear hj1 j1
    refine then_n (f_seq (f_region (lv S (rn_move (S.tm rfl)) rfl ?_))); clear S; intro a S
    refine lv S (rn_mulk (S.tm rfl) rfl) rfl ?_; clear S; intro a S
    refine lv S (rn_move (S.tm rfl)) rfl ?_; clear S; intro a S
    refine lv S (rn_addk (S.tm rfl) (S.tm rfl)) rfl ?_; clear S; intro a S
    refine lv S (rn_move (S.tm rfl)) rfl ?_; clear S; intro a S
    refine lv S (rn_move (S.tm rfl)) rfl ?_; clear S; intro a S
    refine lv S (rn_mulk (S.tm rfl) (S.tm rfl)) rfl ?_; clear S; intro a S
    refine lv S (rn_subk (S.tm rfl) (S.tm rfl)) rfl ?_; clear S; intro a S
    refine lv S (rn_assign (S.tm rfl)) rfl ?_; clear S; intro a S
    refine l_done ?_
    replace S := S.nk [] [(2, .int .u64 (bitShl .u64 p_y (IntKind.wrap .u64 r1))), (8, .int .u64 (IntKind.wrap .u64 r1)), (9, .int .u64 (bitShr .u64 (bitShl .u64 p_y (IntKind.wrap .u64 r1)) 32)), (10, .int .u64 (bitAnd .u64 (bitShl .u64 p_y (IntKind.wrap .u64 r1)) 4294967295)), (14, .int .u64 (bitAnd .u64 (bitShl .u64 p_lo (IntKind.wrap .u64 r1)) 4294967295)), (15, .int .u64 x1), (17, .int .u64 (IntKind.wrap .u64 ((IntKind.wrap .u64 ((IntKind.wrap .u64 ((bitOr .u64 (bitShl .u64 p_hi (IntKind.wrap .u64 r1)) (bitShr .u64 p_lo (IntKind.wrap .u64 (64 - (IntKind.wrap .u64 r1))))) * 4294967296)) + (bitShr .u64 (bitShl .u64 p_lo (IntKind.wrap .u64 r1)) 32))) - (IntKind.wrap .u64 (x1 * (bitShl .u64 p_y (IntKind.wrap .u64 r1)))))))] [] rfl (subR rfl)
    refine then_n (f_seq (f_region (lv S (rn_move (S.tm rfl)) rfl ?_))); clear S; intro a S
    refine lv S (rn_move (S.tm rfl)) rfl ?_; clear S; intro a S
    obtain ⟨hc8, h⟩ := chkE h
    refine lv S (rn_quok (S.tm rfl) (S.tm rfl) (ne0_of hc8)) rfl ?_; clear S; intro a S
    refine lv S (rn_assign (S.tm rfl)) rfl ?_; clear S; intro a S
    refine l_done (then_n (f_seq (f_region (lv S (rn_move (S.tm rfl)) rfl ?_)))); clear S; intro a S
    refine lv S (rn_move (S.tm rfl)) rfl ?_; clear S; intro a S
    refine lv S (rn_move (S.tm rfl)) rfl ?_; clear S; intro a S
    refine lv S (rn_mulk (S.tm rfl) (S.tm rfl)) rfl ?_; clear S; intro a S
    refine lv S (rn_subk (S.tm rfl) (S.tm rfl)) rfl ?_; clear S; intro a S
    refine lv S (rn_assign (S.tm rfl)) rfl ?_; clear S; intro a S
    refine l_done ?_
    replace S := S.nk [] [(2, .int .u64 (bitShl .u64 p_y (IntKind.wrap .u64 r1))), (8, .int .u64 (IntKind.wrap .u64 r1)), (9, .int .u64 (bitShr .u64 (bitShl .u64 p_y (IntKind.wrap .u64 r1)) 32)), (10, .int .u64 (bitAnd .u64 (bitShl .u64 p_y (IntKind.wrap .u64 r1)) 4294967295)), (14, .int .u64 (bitAnd .u64 (bitShl .u64 p_lo (IntKind.wrap .u64 r1)) 4294967295)), (15, .int .u64 x1), (16, .int .u64 (IntKind.wrap .u64 ((IntKind.wrap .u64 ((IntKind.wrap .u64 ((IntKind.wrap .u64 ((bitOr .u64 (bitShl .u64 p_hi (IntKind.wrap .u64 r1)) (bitShr .u64 p_lo (IntKind.wrap .u64 (64 - (IntKind.wrap .u64 r1))))) * 4294967296)) + (bitShr .u64 (bitShl .u64 p_lo (IntKind.wrap .u64 r1)) 32))) - (IntKind.wrap .u64 (x1 * (bitShl .u64 p_y (IntKind.wrap .u64 r1)))))) - (IntKind.wrap .u64 ((IntKind.wrap .u64 (Int.tdiv (IntKind.wrap .u64 ((IntKind.wrap .u64 ((IntKind.wrap .u64 ((bitOr .u64 (bitShl .u64 p_hi (IntKind.wrap .u64 r1)) (bitShr .u64 p_lo (IntKind.wrap .u64 (64 - (IntKind.wrap .u64 r1))))) * 4294967296)) + (bitShr .u64 (bitShl .u64 p_lo (IntKind.wrap .u64 r1)) 32))) - (IntKind.wrap .u64 (x1 * (bitShl .u64 p_y (IntKind.wrap .u64 r1)))))) (bitShr .u64 (bitShl .u64 p_y (IntKind.wrap .u64 r1)) 32))) * (bitShr .u64 (bitShl .u64 p_y (IntKind.wrap .u64 r1)) 32)))))), (17, .int .u64 (IntKind.wrap .u64 ((IntKind.wrap .u64 ((IntKind.wrap .u64 ((bitOr .u64 (bitShl .u64 p_hi (IntKind.wrap .u64 r1)) (bitShr .u64 p_lo (IntKind.wrap .u64 (64 - (IntKind.wrap .u64 r1))))) * 4294967296)) + (bitShr .u64 (bitShl .u64 p_lo (IntKind.wrap .u64 r1)) 32))) - (IntKind.wrap .u64 (x1 * (bitShl .u64 p_y (IntKind.wrap .u64 r1))))))), (18, .int .u64 (IntKind.wrap .u64 (Int.tdiv (IntKind.wrap .u64 ((IntKind.wrap .u64 ((IntKind.wrap .u64 ((bitOr .u64 (bitShl .u64 p_hi (IntKind.wrap .u64 r1)) (bitShr .u64 p_lo (IntKind.wrap .u64 (64 - (IntKind.wrap .u64 r1))))) * 4294967296)) + (bitShr .u64 (bitShl .u64 p_lo (IntKind.wrap .u64 r1)) 32))) - (IntKind.wrap .u64 (x1 * (bitShl .u64 p_y (IntKind.wrap .u64 r1)))))) (bitShr .u64 (bitShl .u64 p_y (IntKind.wrap .u64 r1)) 32))))] [] rfl (subR rfl)
    refine then_n (f_seq ?_)
    obtain ⟨j2, hj2, h⟩ := joinE h
    refine f_join (fun a w' => ∃ x4 : Int, j2 x4 = some r ∧ Sx w [] nov [] [(2, .int .u64 (bitShl .u64 p_y (IntKind.wrap .u64 r1))), (8, .int .u64 (IntKind.wrap .u64 r1)), (14, .int .u64 (bitAnd .u64 (bitShl .u64 p_lo (IntKind.wrap .u64 r1)) 4294967295)), (15, .int .u64 x1), (17, .int .u64 (IntKind.wrap .u64 ((IntKind.wrap .u64 ((IntKind.wrap .u64 ((bitOr .u64 (bitShl .u64 p_hi (IntKind.wrap .u64 r1)) (bitShr .u64 p_lo (IntKind.wrap .u64 (64 - (IntKind.wrap .u64 r1))))) * 4294967296)) + (bitShr .u64 (bitShl .u64 p_lo (IntKind.wrap .u64 r1)) 32))) - (IntKind.wrap .u64 (x1 * (bitShl .u64 p_y (IntKind.wrap .u64 r1))))))), (18, .int .u64 x4)] 135 a w') ?_ ?_
    ·refine wp_block (f_loop (fun (m2 : Nat) a w' => ∃ x3 : Int, ∃ x4 : Int, bits_Div64_l2 p_lo r1 p_y j2 m2 x3 x4 = some r ∧ Sx w [] nov [] [(2, .int .u64 (bitShl .u64 p_y (IntKind.wrap .u64 r1))), (8, .int .u64 (IntKind.wrap .u64 r1)), (9, .int .u64 (bitShr .u64 (bitShl .u64 p_y (IntKind.wrap .u64 r1)) 32)), (10, .int .u64 (bitAnd .u64 (bitShl .u64 p_y (IntKind.wrap .u64 r1)) 4294967295)), (14, .int .u64 (bitAnd .u64 (bitShl .u64 p_lo (IntKind.wrap .u64 r1)) 4294967295)), (15, .int .u64 x1), (16, .int .u64 x3), (17, .int .u64 (IntKind.wrap .u64 ((IntKind.wrap .u64 ((IntKind.wrap .u64 ((bitOr .u64 (bitShl .u64 p_hi (IntKind.wrap .u64 r1)) (bitShr .u64 p_lo (IntKind.wrap .u64 (64 - (IntKind.wrap .u64 r1))))) * 4294967296)) + (bitShr .u64 (bitShl .u64 p_lo (IntKind.wrap .u64 r1)) 32))) - (IntKind.wrap .u64 (x1 * (bitShl .u64 p_y (IntKind.wrap .u64 r1))))))), (18, .int .u64 x4)] 135 a w') id (((IntKind.wrap .u64 (Int.tdiv (IntKind.wrap .u64 ((IntKind.wrap .u64 ((IntKind.wrap .u64 ((bitOr .u64 (bitShl .u64 p_hi (IntKind.wrap .u64 r1)) (bitShr .u64 p_lo (IntKind.wrap .u64 (64 - (IntKind.wrap .u64 r1))))) * 4294967296)) + (bitShr .u64 (bitShl .u64 p_lo (IntKind.wrap .u64 r1)) 32))) - (IntKind.wrap .u64 (x1 * (bitShl .u64 p_y (IntKind.wrap .u64 r1)))))) (bitShr .u64 (bitShl .u64 p_y (IntKind.wrap .u64 r1)) 32))) - 4294967296).toNat + 2) ⟨IntKind.wrap .u64 ((IntKind.wrap .u64 ((IntKind.wrap .u64 ((IntKind.wrap .u64 ((bitOr .u64 (bitShl .u64 p_hi (IntKind.wrap .u64 r1)) (bitShr .u64 p_lo (IntKind.wrap .u64 (64 - (IntKind.wrap .u64 r1))))) * 4294967296)) + (bitShr .u64 (bitShl .u64 p_lo (IntKind.wrap .u64 r1)) 32))) - (IntKind.wrap .u64 (x1 * (bitShl .u64 p_y (IntKind.wrap .u64 r1)))))) - (IntKind.wrap .u64 ((IntKind.wrap .u64 (Int.tdiv (IntKind.wrap .u64 ((IntKind.wrap .u64 ((IntKind.wrap .u64 ((bitOr .u64 (bitShl .u64 p_hi (IntKind.wrap .u64 r1)) (bitShr .u64 p_lo (IntKind.wrap .u64 (64 - (IntKind.wrap .u64 r1))))) * 4294967296)) + (bitShr .u64 (bitShl .u64 p_lo (IntKind.wrap .u64 r1)) 32))) - (IntKind.wrap .u64 (x1 * (bitShl .u64 p_y (IntKind.wrap .u64 r1)))))) (bitShr .u64 (bitShl .u64 p_y (IntKind.wrap .u64 r1)) 32))) * (bitShr .u64 (bitShl .u64 p_y (IntKind.wrap .u64 r1)) 32)))), IntKind.wrap .u64 (Int.tdiv (IntKind.wrap .u64 ((IntKind.wrap .u64 ((IntKind.wrap .u64 ((bitOr .u64 (bitShl .u64 p_hi (IntKind.wrap .u64 r1)) (bitShr .u64 p_lo (IntKind.wrap .u64 (64 - (IntKind.wrap .u64 r1))))) * 4294967296)) + (bitShr .u64 (bitShl .u64 p_lo (IntKind.wrap .u64 r1)) 32))) - (IntKind.wrap .u64 (x1 * (bitShl .u64 p_y (IntKind.wrap .u64 r1)))))) (bitShr .u64 (bitShl .u64 p_y (IntKind.wrap .u64 r1)) 32)), h, S.nf [] rfl (subR rfl)⟩ ?_)
     clear S h; rintro m2 a w6 ⟨x3, x4, h, S⟩
     cases m2 with
     | zero => rw [bits_Div64_l2.eq_1] at h; cases h
     | succ m2 =>
      rw [bits_Div64_l2.eq_2] at h
      refine f_seq (f_seq (f_region (lv S (rn_move (S.tm rfl)) rfl ?_))); clear S; intro a S
      refine lv S (rn_geq (S.tm rfl) rfl) rfl ?_; clear S; intro a S
      refine lv S (rn_move (S.tm rfl)) rfl ?_; clear S; intro a S
      refine f_cutm 9 (fun a w' => Keep [] w6 w' ∧ Sx w [] nov [] [(2, .int .u64 (bitShl .u64 p_y (IntKind.wrap .u64 r1))), (8, .int .u64 (IntKind.wrap .u64 r1)), (9, .int .u64 (bitShr .u64 (bitShl .u64 p_y (IntKind.wrap .u64 r1)) 32)), (10, .int .u64 (bitAnd .u64 (bitShl .u64 p_y (IntKind.wrap .u64 r1)) 4294967295)), (14, .int .u64 (bitAnd .u64 (bitShl .u64 p_lo (IntKind.wrap .u64 r1)) 4294967295)), (15, .int .u64 x1), (16, .int .u64 x3), (17, .int .u64 (IntKind.wrap .u64 ((IntKind.wrap .u64 ((IntKind.wrap .u64 ((bitOr .u64 (bitShl .u64 p_hi (IntKind.wrap .u64 r1)) (bitShr .u64 p_lo (IntKind.wrap .u64 (64 - (IntKind.wrap .u64 r1))))) * 4294967296)) + (bitShr .u64 (bitShl .u64 p_lo (IntKind.wrap .u64 r1)) 32))) - (IntKind.wrap .u64 (x1 * (bitShl .u64 p_y (IntKind.wrap .u64 r1))))))), (18, .int .u64 x4), (113, bV ((decide (4294967296 ≤ x4)) || (decide ((IntKind.wrap .u64 ((IntKind.wrap .u64 (4294967296 * x3)) + (bitAnd .u64 (bitShl .u64 p_lo (IntKind.wrap .u64 r1)) 4294967295))) < (IntKind.wrap .u64 (x4 * (bitAnd .u64 (bitShl .u64 p_y (IntKind.wrap .u64 r1)) 4294967295)))))))] 135 a w') ?_ ?_
      ·rcases Bool.eq_false_or_eq_true (decide (4294967296 ≤ x4)) with hb7 | hb7
       ·iterate 8 (refine l_skip S rfl rfl rfl (neq_t hb7) rfl ?_ rfl; clear S; intro a S)
        refine lv S (rn_or_t (decide ((IntKind.wrap .u64 ((IntKind.wrap .u64 (4294967296 * x3)) + (bitAnd .u64 (bitShl .u64 p_lo (IntKind.wrap .u64 r1)) 4294967295))) < (IntKind.wrap .u64 (x4 * (bitAnd .u64 (bitShl .u64 p_y (IntKind.wrap .u64 r1)) 4294967295))))) hb7 (S.tm rfl) rfl) rfl ?_; clear S; intro a S
        refine l_done (then_n ?_)
        exact ⟨Keep.refl _ _, S.nf [] rfl (subR rfl)⟩
       ·refine l_want S rfl rfl rfl hb7 (lv S (rn_move (S.tm rfl)) rfl ?_); clear S; intro a S
        refine l_want S rfl rfl rfl hb7 (lv S (rn_move (S.tm rfl)) rfl ?_); clear S; intro a S
        refine l_want S rfl rfl rfl hb7 (lv S (rn_mulk (S.tm rfl) (S.tm rfl)) rfl ?_); clear S; intro a S
        refine l_want S rfl rfl rfl hb7 (lv S (rn_move (S.tm rfl)) rfl ?_); clear S; intro a S
        refine l_want S rfl rfl rfl hb7 (lv S (rn_mulk rfl (S.tm rfl)) rfl ?_); clear S; intro a S
        refine l_want S rfl rfl rfl hb7 (lv S (rn_move (S.tm rfl)) rfl ?_); clear S; intro a S
        refine l_want S rfl rfl rfl hb7 (lv S (rn_addk (S.tm rfl) (S.tm rfl)) rfl ?_); clear S; intro a S
        refine l_want S rfl rfl rfl hb7 (lv S (rn_gtr (S.tm rfl) (S.tm rfl)) rfl ?_); clear S; intro a S
        refine lv S (rn_or_f hb7 (S.tm rfl) (S.tm rfl)) rfl ?_; clear S; intro a S
        refine l_done (then_n ?_)
        exact ⟨Keep.refl _ _, S.nf [] rfl (subR rfl)⟩
      clear S; rintro a w8 ⟨hk4, S⟩
      refine l_done (then_n (f_cond (S.tm rfl) (fun hb8 => ?_) (fun hb8 => ?_)))
      ·replace h := iteT h hb8
       refine wp_skip (then_n (wp_block (f_seq (f_region (lv S (rn_move (S.tm rfl)) rfl ?_))))); clear S; intro a S
       refine lv S (rn_subk (S.tm rfl) rfl) rfl ?_; clear S; intro a S
       refine lv S (rn_assign (S.tm rfl)) rfl ?_; clear S; intro a S
       refine l_done (then_n (f_seq (f_region (lv S (rn_move (S.tm rfl)) rfl ?_)))); clear S; intro a S
       refine lv S (rn_move (S.tm rfl)) rfl ?_; clear S; intro a S
       refine lv S (rn_addk (S.tm rfl) (S.tm rfl)) rfl ?_; clear S; intro a S
       refine lv S (rn_assign (S.tm rfl)) rfl ?_; clear S; intro a S
       refine l_done ?_
       replace S := S.nk [] [(2, .int .u64 (bitShl .u64 p_y (IntKind.wrap .u64 r1))), (8, .int .u64 (IntKind.wrap .u64 r1)), (9, .int .u64 (bitShr .u64 (bitShl .u64 p_y (IntKind.wrap .u64 r1)) 32)), (10, .int .u64 (bitAnd .u64 (bitShl .u64 p_y (IntKind.wrap .u64 r1)) 4294967295)), (14, .int .u64 (bitAnd .u64 (bitShl .u64 p_lo (IntKind.wrap .u64 r1)) 4294967295)), (15, .int .u64 x1), (16, .int .u64 (IntKind.wrap .u64 (x3 + (bitShr .u64 (bitShl .u64 p_y (IntKind.wrap .u64 r1)) 32)))), (17, .int .u64 (IntKind.wrap .u64 ((IntKind.wrap .u64 ((IntKind.wrap .u64 ((bitOr .u64 (bitShl .u64 p_hi (IntKind.wrap .u64 r1)) (bitShr .u64 p_lo (IntKind.wrap .u64 (64 - (IntKind.wrap .u64 r1))))) * 4294967296)) + (bitShr .u64 (bitShl .u64 p_lo (IntKind.wrap .u64 r1)) 32))) - (IntKind.wrap .u64 (x1 * (bitShl .u64 p_y (IntKind.wrap .u64 r1))))))), (18, .int .u64 (IntKind.wrap .u64 (x4 - 1)))] [] rfl (subR rfl)
       refine then_n (f_seq (f_region (lv S (rn_move (S.tm rfl)) rfl ?_))); clear S; intro a S
       refine lv S (rn_geq (S.tm rfl) rfl) rfl ?_; clear S; intro a S
       refine l_done (then_n (f_cond (S.tm rfl) (fun hb9 => ?_) (fun hb9 => ?_)))
       ·replace h := iteT h hb9
        refine wp_exit (x_other rfl (then_x (x_same (then_n ?_))))
        exact ⟨IntKind.wrap .u64 (x4 - 1), h, S.nf [] rfl (subR rfl)⟩
       ·replace h := iteF h hb9
        refine wp_skip (blk_n (then_n ?_))
        exact ⟨m2, ⟨IntKind.wrap .u64 (x3 + (bitShr .u64 (bitShl .u64 p_y (IntKind.wrap .u64 r1)) 32)), IntKind.wrap .u64 (x4 - 1), h, S.nf [] rfl ⟨rfl, rfl, rfl, rfl, rfl, rfl, rfl, rfl, rfl, trivial⟩⟩, Nat.lt_succ_self _⟩
      ·replace h := iteF h hb8
       refine wp_exit (then_x (then_x (x_same (then_n ?_))))
       exact ⟨x4, h, S.nf [] rfl (subR rfl)⟩
    clear S h; rintro a w7 ⟨x4, h, S⟩; rw [hj2] at h; clear hj2 j2
    refine then_n (f_seq (f_region (lv S (rn_move (S.tm rfl)) rfl ?_))); clear S; intro a S
    refine lv S (rn_mulk (S.tm rfl) rfl) rfl ?_; clear S; intro a S
    refine lv S (rn_move (S.tm rfl)) rfl ?_; clear S; intro a S
    refine lv S (rn_addk (S.tm rfl) (S.tm rfl)) rfl ?_; clear S; intro a S
    refine lv S (rn_move (S.tm rfl)) rfl ?_; clear S; intro a S
    refine lv S (rn_mulk (S.tm rfl) rfl) rfl ?_; clear S; intro a S
    refine lv S (rn_move (S.tm rfl)) rfl ?_; clear S; intro a S
    refine lv S (rn_addk (S.tm rfl) (S.tm rfl)) rfl ?_; clear S; intro a S
    refine lv S (rn_move (S.tm rfl)) rfl ?_; clear S; intro a S
    refine lv S (rn_move (S.tm rfl)) rfl ?_; clear S; intro a S
    refine lv S (rn_mulk (S.tm rfl) (S.tm rfl)) rfl ?_; clear S; intro a S
    refine lv S (rn_subk (S.tm rfl) (S.tm rfl)) rfl ?_; clear S; intro a S
    refine lv S (rn_move (S.tm rfl)) rfl ?_; clear S; intro a S
    obtain ⟨hc9, h⟩ := chkE h
    refine lv S (rn_shr (S.tm rfl) (S.tm rfl) (of_decide_eq_true hc9)) rfl ?_; clear S; intro a S
    refine lv S (rn_assign (S.tm rfl)) rfl ?_; clear S; intro a S
    refine lv S (rn_assign (S.tm rfl)) rfl ?_; clear S; intro a S
    refine l_done ?_
    replace S := S.nk [] [(6, .int .u64 (IntKind.wrap .u64 ((IntKind.wrap .u64 (x1 * 4294967296)) + x4))), (7, .int .u64 (bitShr .u64 (IntKind.wrap .u64 ((IntKind.wrap .u64 ((IntKind.wrap .u64 ((IntKind.wrap .u64 ((IntKind.wrap .u64 ((IntKind.wrap .u64 ((bitOr .u64 (bitShl .u64 p_hi (IntKind.wrap .u64 r1)) (bitShr .u64 p_lo (IntKind.wrap .u64 (64 - (IntKind.wrap .u64 r1))))) * 4294967296)) + (bitShr .u64 (bitShl .u64 p_lo (IntKind.wrap .u64 r1)) 32))) - (IntKind.wrap .u64 (x1 * (bitShl .u64 p_y (IntKind.wrap .u64 r1)))))) * 4294967296)) + (bitAnd .u64 (bitShl .u64 p_lo (IntKind.wrap .u64 r1)) 4294967295))) - (IntKind.wrap .u64 (x4 * (bitShl .u64 p_y (IntKind.wrap .u64 r1)))))) (IntKind.wrap .u64 r1)))] [] rfl (subR rfl)
    refine then_n (wp_ret ?_)
    obtain rfl := Option.some.inj h
    exact f_ret2 S Tryz.results81 rfl rfl rfl
theorem points_byTime_ok (w : World) (p_base : Int) (p_time : Int) (r : Int) (h : points_byTime p_base p_time = some r) :
    Calls Tryz.prog 56 [iV p_base, iV p_time].toArray w (Ret w [] fun _ v _ => v = iV r) := by
 refine f_enter [] [] Tryz.func56 rfl Tryz.ntmps56 rfl (by simp) (by simp [fps]) (by simp [fps]) fun a S => ?_
 unfold points_byTime at h
 replace S := S.nk [] [(0, iV p_base), (1, iV p_time)] [] rfl (subR rfl)
 refine f_seq (f_region (lv S (rn_assign rfl) rfl ?_)); clear S; intro a S
 refine l_done (then_n (f_seq (f_region (lv S (rn_move (S.tm rfl)) rfl ?_)))); clear S; intro a S
 refine lv S (rn_conv Tryz.underlying3 Tryz.underlying124 (S.tm rfl)) rfl ?_; clear S; intro a S
 refine lv S (rn_move (S.tm rfl)) rfl ?_; clear S; intro a S
 refine lv S (rn_conv Tryz.underlying3 Tryz.underlying124 (S.tm rfl)) rfl ?_; clear S; intro a S
 refine lv S (rn_assign (S.tm rfl)) rfl ?_; clear S; intro a S
 refine lv S (rn_assign (S.tm rfl)) rfl ?_; clear S; intro a S
 refine l_done (then_n (f_seq (f_region (lv S (rn_move (S.tm rfl)) rfl ?_)))); clear S; intro a S
 refine lv S (rn_move (S.tm rfl)) rfl ?_; clear S; intro a S
 refine lv S (rn_mulk (S.tm rfl) (S.tm rfl)) rfl ?_; clear S; intro a S
 refine lv S (rn_move (S.tm rfl)) rfl ?_; clear S; intro a S
 refine lv S (rn_mulk (S.tm rfl) (S.tm rfl)) rfl ?_; clear S; intro a S
 refine l_enter S (fun _ => run_call (vs := [.int .u64 (IntKind.wrap .u64 ((IntKind.wrap .u64 ((IntKind.wrap .u64 p_base) * (IntKind.wrap .u64 p_base))) * (IntKind.wrap .u64 p_base))), .int .u64 1000]) ⟨(S.tm rfl), rfl, trivial⟩ Tryz.call80) (bits_Mul64_ok _ (IntKind.wrap .u64 ((IntKind.wrap .u64 ((IntKind.wrap .u64 p_base) * (IntKind.wrap .u64 p_base))) * (IntKind.wrap .u64 p_base))) 1000 _ rfl) rfl ?_; clear S; intro v1 a w1 hv1 hk1 hn1 S
 subst hv1
 refine lv S (rn_move (S.tm rfl)) rfl ?_; clear S; intro a S
 refine lv S (rn_extract (S.tm rfl) rfl) rfl ?_; clear S; intro a S
 refine lv S (rn_extract (S.tm rfl) rfl) rfl ?_; clear S; intro a S
 refine lv S (rn_assign (S.tm rfl)) rfl ?_; clear S; intro a S
 refine lv S (rn_assign (S.tm rfl)) rfl ?_; clear S; intro a S
 refine l_done ?_
 replace S := S.nk [] [(6, .int .u64 (IntKind.wrap .u64 p_time)), (7, .int .u64 ((bits_Mul64 (IntKind.wrap .u64 ((IntKind.wrap .u64 ((IntKind.wrap .u64 p_base) * (IntKind.wrap .u64 p_base))) * (IntKind.wrap .u64 p_base))) 1000).1)), (8, .int .u64 ((bits_Mul64 (IntKind.wrap .u64 ((IntKind.wrap .u64 ((IntKind.wrap .u64 p_base) * (IntKind.wrap .u64 p_base))) * (IntKind.wrap .u64 p_base))) 1000).2))] [] rfl (subR rfl)
 refine then_n (f_seq (f_region (lv S (rn_move (S.tm rfl)) rfl ?_))); clear S; intro a S
 refine lv S (rn_move (S.tm rfl)) rfl ?_; clear S; intro a S
 refine lv S (rn_mulk (S.tm rfl) (S.tm rfl)) rfl ?_; clear S; intro a S
 refine lv S (rn_move (S.tm rfl)) rfl ?_; clear S; intro a S
 refine lv S (rn_mulk (S.tm rfl) (S.tm rfl)) rfl ?_; clear S; intro a S
 refine lv S (rn_assign (S.tm rfl)) rfl ?_; clear S; intro a S
 refine l_done (then_n (f_seq (f_seq (f_region (lv S (rn_move (S.tm rfl)) rfl ?_))))); clear S; intro a S
 refine lv S (rn_move (S.tm rfl)) rfl ?_; clear S; intro a S
 refine lv S (rn_geq (S.tm rfl) (S.tm rfl)) rfl ?_; clear S; intro a S
 refine l_done (then_n (f_cond (S.tm rfl) (fun hb1 => ?_) (fun hb1 => ?_)))
 ·replace h := iteT h hb1
  refine f_seq (f_region (lv S (rn_assign rfl) rfl ?_)); clear S; intro a S
  refine l_done (then_n (wp_ret (then_r ?_)))
  obtain rfl := Option.some.inj h
  exact f_ret S Tryz.results56 rfl rfl
 ·replace h := iteF h hb1
  refine wp_skip (then_n (f_seq (f_region (lv S (rn_move (S.tm rfl)) rfl ?_)))); clear S; intro a S
  refine lv S (rn_move (S.tm rfl)) rfl ?_; clear S; intro a S
  refine lv S (rn_move (S.tm rfl)) rfl ?_; clear S; intro a S
  obtain ⟨r1, hr1, h⟩ := bindE h
  refine l_enter S (fun _ => run_call (vs := [.int .u64 ((bits_Mul64 (IntKind.wrap .u64 ((IntKind.wrap .u64 ((IntKind.wrap .u64 p_base) * (IntKind.wrap .u64 p_base))) * (IntKind.wrap .u64 p_base))) 1000).1), .int .u64 ((bits_Mul64 (IntKind.wrap .u64 ((IntKind.wrap .u64 ((IntKind.wrap .u64 p_base) * (IntKind.wrap .u64 p_base))) * (IntKind.wrap .u64 p_base))) 1000).2), .int .u64 (IntKind.wrap .u64 ((IntKind.wrap .u64 ((IntKind.wrap .u64 p_time) * (IntKind.wrap .u64 p_time))) * (IntKind.wrap .u64 p_time)))]) ⟨(S.tm rfl), (S.tm rfl), (S.tm rfl), trivial⟩ Tryz.call81) (bits_Div64_ok _ ((bits_Mul64 (IntKind.wrap .u64 ((IntKind.wrap .u64 ((IntKind.wrap .u64 p_base) * (IntKind.wrap .u64 p_base))) * (IntKind.wrap .u64 p_base))) 1000).1) ((bits_Mul64 (IntKind.wrap .u64 ((IntKind.wrap .u64 ((IntKind.wrap .u64 p_base) * (IntKind.wrap .u64 p_base))) * (IntKind.wrap .u64 p_base))) 1000).2) (IntKind.wrap .u64 ((IntKind.wrap .u64 ((IntKind.wrap .u64 p_time) * (IntKind.wrap .u64 p_time))) * (IntKind.wrap .u64 p_time))) _ hr1) rfl ?_; clear S; intro v2 a w2 hv2 hk2 hn2 S
  subst hv2
  refine lv S (rn_move (S.tm rfl)) rfl ?_; clear S; intro a S
  refine lv S (rn_extract (S.tm rfl) rfl) rfl ?_; clear S; intro a S
  refine lv S (rn_extract (S.tm rfl) rfl) rfl ?_; clear S; intro a S
  refine lv S (rn_assign (S.tm rfl)) rfl ?_; clear S; intro a S
  refine lv S (rn_assign (S.tm rfl)) rfl ?_; clear S; intro a S
  refine l_done ?_
  replace S := S.nk [] [(9, .int .u64 r1.1)] [] rfl ⟨rfl, trivial⟩
  refine then_n (f_seq (f_region (lv S (rn_move (S.tm rfl)) rfl ?_))); clear S; intro a S
  refine lv S (rn_min2 (S.tm rfl) rfl) rfl ?_; clear S; intro a S
  refine lv S (rn_conv Tryz.underlying124 Tryz.underlying3 (S.tm rfl)) rfl ?_; clear S; intro a S
  refine lv S (rn_assign (S.tm rfl)) rfl ?_; clear S; intro a S
  refine l_done (then_n (wp_ret ?_))
  obtain rfl := Option.some.inj h
  exact f_ret S Tryz.results56 rfl rfl
theorem points_ByTime_ok (w : World) (v_p_l : Value) (p_l : List GBase) (hs_p_l : Slc (view w []) 2 v_p_l (p_l.map GBase.enc)) (p_race : ByteArray) (p_time : Int) (r : Int × Int) (h : points_ByTime p_l p_race p_time = some r) :
    Calls Tryz.prog 32 [v_p_l, sV p_race, iV p_time].toArray w (Ret w [] fun _ v _ => v = .tuple #[iV r.1, iV r.2]) := by
 refine f_enter [] [] Tryz.func32 rfl Tryz.ntmps32 rfl (by simp) (by simp [fps]) (by simp [fps]) fun a S => ?_
 unfold points_ByTime at h
 replace S := S.nk [] [(0, v_p_l), (1, sV p_race), (2, iV p_time)] [] rfl (subR rfl)
 refine f_seq (f_region (lv S (rn_assign rfl) rfl ?_)); clear S; intro a S
 refine lv S (rn_assign rfl) rfl ?_; clear S; intro a S
 refine l_done (then_n (f_seq (f_seq (f_region (lv S (rn_move (S.tm rfl)) rfl ?_))))); clear S; intro a S
 obtain ⟨r1, hr1, h⟩ := bindE h
 refine l_enter S (fun _ => run_call (vs := [v_p_l]) ⟨(S.tm rfl), trivial⟩ Tryz.call53) (points_CheckBase_ok _ v_p_l p_l (hs_p_l.mono (S.le_arg nil_sub)) _ hr1) rfl ?_; clear S; intro v1 a w1 hv1 hk1 hn1 S
 subst hv1
 refine lv S (rn_assign (S.tm rfl)) rfl ?_; clear S; intro a S
 refine l_done (then_n (f_seq (f_region (lv S (rn_move (S.tm rfl)) rfl ?_)))); clear S; intro a S
 refine lv S (rn_neq (S.tm rfl) rfl) rfl ?_; clear S; intro a S
 refine l_done (then_n (f_cond (S.tm rfl) (fun hb1 => ?_) (fun hb1 => ?_)))
 ·replace h := iteT h hb1
  refine f_seq (f_region (lv S (rn_move (S.tm rfl)) rfl ?_)); clear S; intro a S
  refine lv S (rn_assign rfl) rfl ?_; clear S; intro a S
  refine lv S (rn_assign (S.tm rfl)) rfl ?_; clear S; intro a S
  refine l_done (then_n (wp_ret (then_r ?_)))
  obtain rfl := Option.some.inj h
  exact f_ret2 S Tryz.results32 rfl rfl rfl
 ·replace h := iteF h hb1
  refine wp_skip (then_n (f_seq (f_region (lv S (rn_move (S.tm rfl)) rfl ?_)))); clear S; intro a S
  refine lv S (rn_move (S.tm rfl)) rfl ?_; clear S; intro a S
  refine l_enter S (fun _ => run_call (vs := [v_p_l, sV p_race]) ⟨(S.tm rfl), (S.tm rfl), trivial⟩ Tryz.call54) (points_baseOf_ok _ v_p_l p_l (hs_p_l.mono (S.le_arg nil_sub)) p_race _ rfl) rfl ?_; clear S; intro v2 a w2 hv2 hk2 hn2 S
  subst hv2
  refine lv S (rn_assign (S.tm rfl)) rfl ?_; clear S; intro a S
  refine l_done (then_n (f_seq (f_seq (f_region (lv S (rn_move (S.tm rfl)) rfl ?_))))); clear S; intro a S
  refine lv S (rn_eql (S.tm rfl) rfl) rfl ?_; clear S; intro a S
  refine l_done ?_
  replace S := S.nk [] [(2, iV p_time), (9, iV (points_baseOf p_l p_race)), (19, bV (decide ((points_baseOf p_l p_race) = 0)))] [] rfl (subR rfl)
  refine then_n (f_cond (S.tm rfl) (fun hb2 => ?_) (fun hb2 => ?_))
  ·replace h := iteT h hb2
   refine f_seq (f_region (lv S (rn_assign rfl) rfl ?_)); clear S; intro a S
   refine lv S (rn_assign rfl) rfl ?_; clear S; intro a S
   refine l_done (then_n (wp_ret (then_r ?_)))
   obtain rfl := Option.some.inj h
   exact f_ret2 S Tryz.results32 rfl rfl rfl
  ·replace h := iteF h hb2
   refine wp_skip (then_n (f_seq (f_seq (f_region (lv S (rn_move (S.tm rfl)) rfl ?_))))); clear S; intro a S
   refine l_enter S (fun _ => run_call (vs := [iV p_time]) ⟨(S.tm rfl), trivial⟩ Tryz.call55) (timing_IsTime_ok _ p_time _ rfl) rfl ?_; clear S; intro v3 a w3 hv3 hk3 hn3 S
   subst hv3
   refine lv S (rn_not (S.tm rfl)) rfl ?_; clear S; intro a S
   refine l_done (then_n (f_cond (S.tm rfl) (fun hb3 => ?_) (fun hb3 => ?_)))
   ·replace h := iteT h hb3
    refine f_seq (f_region (lv S (rn_assign rfl) rfl ?_)); clear S; intro a S
    refine lv S (rn_assign rfl) rfl ?_; clear S; intro a S
    refine l_done (then_n (wp_ret (then_r ?_)))
    obtain rfl := Option.some.inj h
    exact f_ret2 S Tryz.results32 rfl rfl rfl
   ·replace h := iteF h hb3
    refine wp_skip (then_n (f_seq (f_region (lv S (rn_move (S.tm rfl)) rfl ?_)))); clear S; intro a S
    refine lv S (rn_move (S.tm rfl)) rfl ?_; clear S; intro a S
    obtain ⟨r2, hr2, h⟩ := bindE h
    refine l_enter S (fun _ => run_call (vs := [iV (points_baseOf p_l p_race), iV p_time]) ⟨(S.tm rfl), (S.tm rfl), trivial⟩ Tryz.call56) (points_byTime_ok _ (points_baseOf p_l p_race) p_time _ hr2) rfl ?_; clear S; intro v4 a w4 hv4 hk4 hn4 S
    subst hv4
    refine lv S (rn_assign (S.tm rfl)) rfl ?_; clear S; intro a S
    refine lv S (rn_assign rfl) rfl ?_; clear S; intro a S
    refine l_done (then_n (wp_ret ?_))
    obtain rfl := Option.some.inj h
    exact f_ret2 S Tryz.results32 rfl rfl rfl
set_option maxRecDepth 20000 in
theorem record_CheckKinds_ok (w : World) (v_p_l : Value) (p_l : List GKind) (rs_p_l : List R84) (hs_p_l : Slc (view w []) 5 v_p_l (rs_p_l.map R84.enc)) (hr_p_l : All2 (rel_84 (view w [])) p_l rs_p_l) (r : Int) (h : record_CheckKinds p_l = some r) :
    Calls Tryz.prog 57 [v_p_l].toArray w (Ret w [] fun _ v _ => v = iV r) := by
 refine f_enter [] [] Tryz.func57 rfl Tryz.ntmps57 rfl (by simp) (by simp [fps]) (by simp [fps]) fun a S => ?_
 unfold record_CheckKinds at h
 replace S := S.nk [] [(0, v_p_l)] [] rfl ⟨rfl, trivial⟩
 refine f_seq (f_region (lv S (rn_assign rfl) rfl ?_)); clear S; intro a S
 refine l_done (then_n (f_seq (f_seq (f_region (lv S (rn_move (S.tm rfl)) rfl ?_))))); clear S; intro a S
 refine lv S (rn_lenT sl_85 (S.tm rfl) (slc_lenD hs_p_l hr_p_l)) rfl ?_; clear S; intro a S
 refine lv S (rn_gtr (S.tm rfl) rfl) rfl ?_; clear S; intro a S
 refine l_done (then_n (f_cond (S.tm rfl) (fun hb1 => ?_) (fun hb1 => ?_)))
 ·replace h := iteT h hb1
  refine f_seq (f_region (lv S (rn_assign rfl) rfl ?_)); clear S; intro a S
  refine l_done (then_n (wp_ret (then_r ?_)))
  obtain rfl := Option.some.inj h
  exact f_ret S Tryz.results57 rfl rfl
 ·replace h := iteF h hb1
  refine wp_skip (then_n (f_seq (f_seq (f_region (lv S (rn_move (S.tm rfl)) rfl ?_))))); clear S; intro a S
  refine lv S (rn_lenT sl_85 (S.tm rfl) (slc_lenD hs_p_l hr_p_l)) rfl ?_; clear S; intro a S
  refine lv S (rn_move rfl) rfl ?_; clear S; intro a S
  refine l_done (then_n ?_)
  replace S := S.nk [] [(0, v_p_l), (10, v_p_l), (11, iV (p_l.length : Int)), (12, iV 0)] [] rfl (subR rfl)
  obtain ⟨j1, hj1, h⟩ := joinE h
  refine f_join (fun a w' => j1 = some r ∧ Sx w [] nov [] [] 87 a w') ?_ ?_
  ·refine wp_block (f_loop (fun (ys1 : List GKind) a w' => ∃ i1 : Nat, (∃ dn, p_l = dn ++ ys1 ∧ dn.length = i1) ∧ record_CheckKinds_l1 p_l j1 ys1 i1 = some r ∧ Sx w [] nov [] [(0, v_p_l), (10, v_p_l), (11, iV (p_l.length : Int)), (12, iV (i1 : Int))] 87 a w') List.length p_l ⟨0, ⟨[], rfl, rfl⟩, h, S.nf [] rfl (subR rfl)⟩ ?_)
   clear S h; rintro ys1 a w1 ⟨i1, ⟨dn, hd1, hi1⟩, h, S⟩
   cases ys1 with
   | nil =>
    rw [record_CheckKinds_l1.eq_1] at h
    refine f_seq (f_region (lv S (rn_lss (S.tm rfl) (S.tm rfl)) rfl ?_)); clear S; intro a S
    refine l_done ?_
    replace S := S.nk [] [(0, v_p_l), (10, v_p_l), (11, iV (p_l.length : Int)), (12, iV (i1 : Int)), (13, bV (decide ((i1 : Int) < (p_l.length : Int))))] [] rfl (subR rfl)
    refine then_n (f_seq (wp_cond_false ((S.tm rfl).trans (congrArg Value.bool (rng_nil hd1 hi1))) (wp_exit (then_x (then_x (x_same ?_))))))
    refine then_n ?_
    exact ⟨h, S.nf [] rfl trivial⟩
   | cons y1 ys1 =>
    rw [record_CheckKinds_l1.eq_2] at h
    refine f_seq (f_region (lv S (rn_lss (S.tm rfl) (S.tm rfl)) rfl ?_)); clear S; intro a S
    refine l_done ?_
    replace S := S.nk [] [(0, v_p_l), (10, v_p_l), (11, iV (p_l.length : Int)), (12, iV (i1 : Int)), (13, bV (decide ((i1 : Int) < (p_l.length : Int))))] [] rfl (subR rfl)
    refine then_n (f_seq (wp_cond_true ((S.tm rfl).trans (congrArg Value.bool (rng_cons hd1 hi1))) (wp_skip (then_n (f_seq (wp_block ?_))))))
    refine f_seq (f_region (lv S (rn_move (S.tm rfl)) rfl ?_)); clear S; intro a S
    obtain ⟨r1, hg1, hl1⟩ := All2.at hr_p_l (get_mid hd1 hi1)
    obtain ⟨u1, rfl, hs1⟩ := hl1
    obtain ⟨b1, o1, hm1, hr1⟩ := rn_indexT (a := a) (x := .tmp 10) (y := .tmp 12) (ty := 0) sl_85 hs_p_l hg1 rfl (S.tm rfl) (S.tm rfl)
    refine lv S (hr1 _) rfl ?_; clear S; intro a S
    clear hr1
    refine lv S (rn_ldA Tryz.isAgg84 Tryz.sizeOf84 (off := o1) (o := 0) (part := [sV y1.Key, sV y1.Race, u1.val, iV y1.Young, iV y1.Old]) rfl rfl (S.tm rfl) (hm1.at S.emb0)) rfl ?_; clear S; intro a S
    refine l_alloc S Tryz.zeroValue84 (cs := [sV k_empty, sV k_empty, .slice none 0 0, iV 0, iV 0]) rfl rfl ?_; clear S; intro a w3 b2 hz1 hk1 S
    refine lv S (rn_assign (S.tm rfl)) rfl ?_; clear S; intro a S
    refine l_store S (S.tm rfl) (S.tm rfl) (i := 0) (off := 0) rfl Tryz.sizeOf84 (vs := [sV y1.Key, sV y1.Race, u1.val, iV y1.Young, iV y1.Old]) rfl rfl rfl (all1 rfl (all1 rfl (all1 (SlcLen.one (slc_len hs1)) (all1 rfl (all1 rfl rfl))))) ?_; clear S; intro w4 hk2 S
    refine l_done (then_n (f_seq (wp_block (f_seq (f_region (lv S (rn_fld fa_84_0 (S.tm rfl)) rfl ?_)))))); clear S; intro a S
    refine lv S (rn_load Tryz.isAgg9 (S.tm rfl) (S.cell (i := 0) rfl rfl)) rfl ?_; clear S; intro a S
    obtain ⟨r2, hr2, h⟩ := bindE h
    refine l_enter S (fun _ => run_call (vs := [sV y1.Key]) ⟨(S.tm rfl), trivial⟩ Tryz.call71) (words_IsKey_ok _ y1.Key _ hr2) rfl ?_; clear S; intro v1 a w5 hv1 hk3 hn1 S
    subst hv1
    refine lv S (rn_not (S.tm rfl)) rfl ?_; clear S; intro a S
    refine lv S (rn_move (S.tm rfl)) rfl ?_; clear S; intro a S
    obtain ⟨j2, hj2, h⟩ := joinE h
    refine f_cutm 5 (fun a w' => ∃ c1, j2 c1 = some r ∧ Keep [] w5 w' ∧ Sx w [] nov [.blk b2 [sV y1.Key, sV y1.Race, u1.val, iV y1.Young, iV y1.Old] 84] [(0, v_p_l), (3, iV (i1 : Int)), (4, .pointer (some ⟨b2, 0, none⟩)), (10, v_p_l), (11, iV (p_l.length : Int)), (12, iV (i1 : Int)), (27, bV c1)] 87 a w') ?_ ?_
    ·rcases Bool.eq_false_or_eq_true (!r2) with hb2 | hb2
     ·replace h := iteT h hb2
      iterate 4 (refine l_skip S rfl rfl rfl (neq_t hb2) rfl ?_ rfl; clear S; intro a S)
      refine lv S (rn_or_t true hb2 (S.tm rfl) rfl) rfl ?_; clear S; intro a S
      refine l_done (then_n ?_)
      exact ⟨_, h, Keep.refl _ _, S.nf [true] rfl (subR rfl)⟩
     ·replace h := iteF h hb2
      refine l_want S rfl rfl rfl hb2 (lv S (rn_fld fa_84_1 (S.tm rfl)) rfl ?_); clear S; intro a S
      refine l_want S rfl rfl rfl hb2 (lv S (rn_load Tryz.isAgg9 (S.tm rfl) (S.cell (i := 0) rfl rfl)) rfl ?_); clear S; intro a S
      refine l_want S rfl rfl rfl hb2 ?_
      obtain ⟨r3, hr3, h⟩ := bindE h
      refine l_enter S (fun _ => run_call (vs := [sV y1.Race]) ⟨(S.tm rfl), trivial⟩ Tryz.call71) (words_IsKey_ok _ y1.Race _ hr3) rfl ?_; clear S; intro v2 a w7 hv2 hk4 hn2 S
      subst hv2
      refine l_want S rfl rfl rfl hb2 (lv S (rn_not (S.tm rfl)) rfl ?_); clear S; intro a S
      refine lv S (rn_or_f hb2 (S.tm rfl) (S.tm rfl)) rfl ?_; clear S; intro a S
      refine l_done (then_n ?_)
      exact ⟨_, h, hk4, S.nf [true] rfl (subR rfl)⟩
    clear S h; rintro a w6 ⟨c1, h, hk5, S⟩; rw [hj2] at h; clear hj2 j2
    refine lv S (rn_assign (S.tm rfl)) rfl ?_; clear S; intro a S
    refine l_done (then_n (f_cond (S.tm rfl) (fun hb3 => ?_) (fun hb3 => ?_)))
    ·replace h := iteT h hb3
     refine f_seq (f_region (lv S (rn_assign rfl) rfl ?_)); clear S; intro a S
     refine l_done (then_n (wp_ret (blk_r (then_r (blk_r (then_r ?_))))))
     refine then_r (blk_r (then_r (then_r ?_)))
     obtain rfl := Option.some.inj h
     exact f_ret S Tryz.results57 rfl rfl
    ·replace h := iteF h hb3
     refine f_seq (d_region [] ([]) Tryz.mixed S rfl (by kernel_rfl) ?_); clear S; intro w8 hk6 hsel S
     refine d_rest [0, 1, 2, 3, 4, 5, 6, 7, 8, 9, 10, 11, 12, 13] hsel (by kernel_rfl) rfl ?_
     clear hsel
     refine s_lv S rfl (rn_move (S.tm rfl)) rfl ?_; clear S; intro a S
     refine s_lv S rfl (rn_gtr (S.tm rfl) rfl) rfl ?_; clear S; intro a S
     refine s_lv S rfl (rn_move (S.tm rfl)) rfl ?_; clear S; intro a S
     obtain ⟨j3, hj3, h⟩ := joinE h
     refine s_cutm 10 (fun a w' => ∃ c2, j3 c2 = some r ∧ Keep [] w8 w' ∧ Sx w [] nov [.blk b2 [sV y1.Key, sV y1.Race, u1.val, iV y1.Young, iV y1.Old] 84] [(0, v_p_l), (4, .pointer (some ⟨b2, 0, none⟩)), (10, v_p_l), (11, iV (p_l.length : Int)), (12, iV (i1 : Int)), (41, bV c2)] 87 a w') ?_ ?_
     ·rcases Bool.eq_false_or_eq_true (decide (0 < (i1 : Int))) with hb4 | hb4
      ·replace h := iteT h hb4
       refine s_want S rfl rfl rfl rfl hb4 (s_lv0 S (rn_fld fa_84_0 (S.tm rfl)) rfl ?_); clear S; intro a S
       refine s_want S rfl rfl rfl rfl hb4 (s_lv0 S (rn_load Tryz.isAgg9 (S.tm rfl) (S.cell (i := 0) rfl rfl)) rfl ?_); clear S; intro a S
       refine s_want S rfl rfl rfl rfl hb4 (s_lv0 S (rn_move (S.tm rfl)) rfl ?_); clear S; intro a S
       refine s_want S rfl rfl rfl rfl hb4 (s_lv0 S (rn_move (S.tm rfl)) rfl ?_); clear S; intro a S
       refine s_want S rfl rfl rfl rfl hb4 (s_lv0 S (rn_sub (S.tm rfl) rfl) rfl ?_); clear S; intro a S
       refine s_want S rfl rfl rfl rfl hb4 ?_
       obtain ⟨hc1, h⟩ := chkE h
       obtain ⟨r4, hg2, hl2⟩ := all2_get hr_p_l hc1
       obtain ⟨u2, rfl, hs2⟩ := hl2
       obtain ⟨b3, o2, hm2, hr4⟩ := rn_indexT (a := a) (x := .tmp 34) (y := .tmp 36) (ty := 0) sl_85 hs_p_l hg2 (inB_get hc1).2 (S.tm rfl) (S.tm rfl)
       refine s_lv0 S (hr4 _) rfl ?_; clear S; intro a S
       clear hr4
       refine s_want S rfl rfl rfl rfl hb4 (s_lv0 S (rn_fld fa_84_0 (S.tm rfl)) rfl ?_); clear S; intro a S
       refine s_want S rfl rfl rfl rfl hb4 (s_lv0 S (rn_ld Tryz.isAgg9 (off := o2) (o := 0) (S.tm rfl) (hm2.at S.emb0) rfl) rfl ?_); clear S; intro a S
       refine s_want S rfl rfl rfl rfl hb4 (s_lv0 S (rn_sleq (S.tm rfl) (S.tm rfl)) rfl ?_); clear S; intro a S
       refine s_lv S rfl (rn_and_t hb4 (S.tm rfl) (S.tm rfl)) rfl ?_; clear S; intro a S
       refine s_done ?_
       exact ⟨_, h, Keep.refl _ _, S.nf [true] rfl (subR rfl)⟩
      ·replace h := iteF h hb4
       iterate 9 (refine s_skip S rfl rfl rfl rfl (neq_f hb4) rfl ?_ rfl; clear S; intro a S)
       refine s_lv S rfl (rn_and_f true hb4 (S.tm rfl) rfl) rfl ?_; clear S; intro a S
       refine s_done ?_
       exact ⟨_, h, Keep.refl _ _, S.nf [true] rfl (subR rfl)⟩
     clear S h; rintro a w9 ⟨c2, h, hk7, S⟩; rw [hj3] at h; clear hj3 j3
     refine s_lv S rfl (rn_assign (S.tm rfl)) rfl ?_; clear S; intro a S
     refine s_done ?_
     replace S := S.nk [.blk b2 [sV y1.Key, sV y1.Race, u1.val, iV y1.Young, iV y1.Old] 84] [(0, v_p_l), (4, .pointer (some ⟨b2, 0, none⟩)), (10, v_p_l), (11, iV (p_l.length : Int)), (12, iV (i1 : Int)), (28, bV c2)] [true] rfl (subR rfl)
     refine then_n (f_cond (S.tm rfl) (fun hb5 => ?_) (fun hb5 => ?_))
     ·replace h := iteT h hb5
      refine f_seq (f_region (lv S (rn_assign rfl) rfl ?_)); clear S; intro a S
      refine l_done (then_n (wp_ret (blk_r (then_r (blk_r (then_r ?_))))))
      refine then_r (blk_r (then_r (then_r ?_)))
      obtain rfl := Option.some.inj h
      exact f_ret S Tryz.results57 rfl rfl
     ·replace h := iteF h hb5
      refine f_seq (f_region (lv S (rn_fld fa_84_2 (S.tm rfl)) rfl ?_)); clear S; intro a S
      refine lv S (rn_load Tryz.isAgg37 (S.tm rfl) (S.cell (i := 0) rfl rfl)) rfl ?_; clear S; intro a S
      refine lv S (rn_lenT sl_37 (S.tm rfl) (slc_len hs1)) rfl ?_; clear S; intro a S
      refine lv S (rn_gtr (S.tm rfl) rfl) rfl ?_; clear S; intro a S
      refine lv S (rn_assign (S.tm rfl)) rfl ?_; clear S; intro a S
      refine l_done (then_n (f_cond (S.tm rfl) (fun hb6 => ?_) (fun hb6 => ?_)))
      ·replace h := iteT h hb6
       refine f_seq (f_region (lv S (rn_assign rfl) rfl ?_)); clear S; intro a S
       refine l_done (then_n (wp_ret (blk_r (then_r (blk_r (then_r ?_))))))
       refine then_r (blk_r (then_r (then_r ?_)))
       obtain rfl := Option.some.inj h
       exact f_ret S Tryz.results57 rfl rfl
      ·replace h := iteF h hb6
       refine wp_skip (blk_n (then_n (f_seq (f_seq (f_region (lv S (rn_fld fa_84_2 (S.tm rfl)) rfl ?_)))))); clear S; intro a S
       refine lv S (rn_load Tryz.isAgg37 (S.tm rfl) (S.cell (i := 0) rfl rfl)) rfl ?_; clear S; intro a S
       refine lv S (rn_lenT sl_37 (S.tm rfl) (slc_len hs1)) rfl ?_; clear S; intro a S
       refine lv S (rn_move rfl) rfl ?_; clear S; intro a S
       refine l_done ?_
       replace S := S.nk [.blk b2 [sV y1.Key, sV y1.Race, u1.val, iV y1.Young, iV y1.Old] 84] [(0, v_p_l), (4, .pointer (some ⟨b2, 0, none⟩)), (10, v_p_l), (11, iV (p_l.length : Int)), (12, iV (i1 : Int)), (48, u1.val), (49, iV (y1.Clubs.length : Int)), (50, iV 0)] [true] rfl (subR rfl)
       refine then_n ?_
       obtain ⟨j4, hj4, h⟩ := joinE h
       refine f_join (fun a w' => j4 = some r ∧ Sx w [] nov [.blk b2 [sV y1.Key, sV y1.Race, u1.val, iV y1.Young, iV y1.Old] 84] [(0, v_p_l), (4, .pointer (some ⟨b2, 0, none⟩)), (10, v_p_l), (11, iV (p_l.length : Int)), (12, iV (i1 : Int))] 87 a w') ?_ ?_
       ·refine wp_block (f_loop (fun (ys2 : List ByteArray) a w' => ∃ i2 : Nat, (∃ dn, y1.Clubs = dn ++ ys2 ∧ dn.length = i2) ∧ record_CheckKinds_l2 y1 j4 ys2 i2 = some r ∧ Sx w [] nov [.blk b2 [sV y1.Key, sV y1.Race, u1.val, iV y1.Young, iV y1.Old] 84] [(0, v_p_l), (4, .pointer (some ⟨b2, 0, none⟩)), (10, v_p_l), (11, iV (p_l.length : Int)), (12, iV (i1 : Int)), (48, u1.val), (49, iV (y1.Clubs.length : Int)), (50, iV (i2 : Int))] 87 a w') List.length y1.Clubs ⟨0, ⟨[], rfl, rfl⟩, h, S.nf [true] rfl (subR rfl)⟩ ?_)
        clear S h; rintro ys2 a w10 ⟨i2, ⟨dn, hd2, hi2⟩, h, S⟩
        cases ys2 with
        | nil =>
         rw [record_CheckKinds_l2.eq_1] at h
         refine f_seq (f_region (lv S (rn_lss (S.tm rfl) (S.tm rfl)) rfl ?_)); clear S; intro a S
         refine l_done ?_
         replace S := S.nk [.blk b2 [sV y1.Key, sV y1.Race, u1.val, iV y1.Young, iV y1.Old] 84] [(0, v_p_l), (4, .pointer (some ⟨b2, 0, none⟩)), (10, v_p_l), (11, iV (p_l.length : Int)), (12, iV (i1 : Int)), (48, u1.val), (49, iV (y1.Clubs.length : Int)), (50, iV (i2 : Int)), (51, bV (decide ((i2 : Int) < (y1.Clubs.length : Int))))] [true] rfl (subR rfl)
         refine then_n (f_seq (wp_cond_false ((S.tm rfl).trans (congrArg Value.bool (rng_nil hd2 hi2))) (wp_exit (then_x (then_x (x_same ?_))))))
         refine then_n ?_
         exact ⟨h, S.nf [true] rfl (subR rfl)⟩
        | cons y2 ys2 =>
         rw [record_CheckKinds_l2.eq_2] at h
         refine f_seq (f_region (lv S (rn_lss (S.tm rfl) (S.tm rfl)) rfl ?_)); clear S; intro a S
         refine l_done ?_
         replace S := S.nk [.blk b2 [sV y1.Key, sV y1.Race, u1.val, iV y1.Young, iV y1.Old] 84] [(0, v_p_l), (4, .pointer (some ⟨b2, 0, none⟩)), (10, v_p_l), (11, iV (p_l.length : Int)), (12, iV (i1 : Int)), (48, u1.val), (49, iV (y1.Clubs.length : Int)), (50, iV (i2 : Int)), (51, bV (decide ((i2 : Int) < (y1.Clubs.length : Int))))] [true] rfl (subR rfl)
         refine then_n (f_seq (wp_cond_true ((S.tm rfl).trans (congrArg Value.bool (rng_cons hd2 hi2))) (wp_skip (then_n (f_seq (wp_block ?_))))))
         refine f_seq (f_region (lv S (rn_move (S.tm rfl)) rfl ?_)); clear S; intro a S
         obtain ⟨b4, o3, hm3, hr5⟩ := rn_indexT (a := a) (x := .tmp 48) (y := .tmp 50) (ty := 0) sl_37 hs1 (get_mid hd2 hi2) rfl (S.tm rfl) (S.tm rfl)
         refine lv S (hr5 _) rfl ?_; clear S; intro a S
         clear hr5
         refine lv S (rn_ld Tryz.isAgg9 (off := o3) (o := 0) (S.tm rfl) (hm3.at S.emb0) rfl) rfl ?_; clear S; intro a S
         refine lv S (rn_assign (S.tm rfl)) rfl ?_; clear S; intro a S
         refine lv S (rn_assign (S.tm rfl)) rfl ?_; clear S; intro a S
         refine l_done (then_n (f_seq (f_seq (f_region (lv S (rn_move (S.tm rfl)) rfl ?_))))); clear S; intro a S
         obtain ⟨r5, hr6, h⟩ := bindE h
         refine l_enter S (fun _ => run_call (vs := [sV y2]) ⟨(S.tm rfl), trivial⟩ Tryz.call71) (words_IsKey_ok _ y2 _ hr6) rfl ?_; clear S; intro v3 a w12 hv3 hk8 hn3 S
         subst hv3
         refine lv S (rn_not (S.tm rfl)) rfl ?_; clear S; intro a S
         refine l_done ?_
         replace S := S.nk [.blk b2 [sV y1.Key, sV y1.Race, u1.val, iV y1.Young, iV y1.Old] 84] [(0, v_p_l), (4, .pointer (some ⟨b2, 0, none⟩)), (5, iV (i2 : Int)), (6, sV y2), (10, v_p_l), (11, iV (p_l.length : Int)), (12, iV (i1 : Int)), (48, u1.val), (49, iV (y1.Clubs.length : Int)), (50, iV (i2 : Int)), (57, bV (!r5))] [true] rfl (subR rfl)
         refine then_n (f_cond (S.tm rfl) (fun hb7 => ?_) (fun hb7 => ?_))
         ·replace h := iteT h hb7
          refine f_seq (f_region (lv S (rn_assign rfl) rfl ?_)); clear S; intro a S
          refine l_done (then_n (wp_ret (then_r (blk_r (then_r (then_r ?_))))))
          refine blk_r (then_r (then_r (blk_r (then_r (then_r (blk_r ?_))))))
          refine then_r (then_r ?_)
          obtain rfl := Option.some.inj h
          exact f_ret S Tryz.results57 rfl rfl
         ·replace h := iteF h hb7
          refine wp_skip (then_n (f_seq (f_region (lv S (rn_move (S.tm rfl)) rfl ?_)))); clear S; intro a S
          refine lv S (rn_gtr (S.tm rfl) rfl) rfl ?_; clear S; intro a S
          refine lv S (rn_move (S.tm rfl)) rfl ?_; clear S; intro a S
          obtain ⟨j5, hj5, h⟩ := joinE h
          refine f_cutm 9 (fun a w' => ∃ c3, j5 c3 = some r ∧ Keep [] w12 w' ∧ Sx w [] nov [.blk b2 [sV y1.Key, sV y1.Race, u1.val, iV y1.Young, iV y1.Old] 84] [(0, v_p_l), (4, .pointer (some ⟨b2, 0, none⟩)), (10, v_p_l), (11, iV (p_l.length : Int)), (12, iV (i1 : Int)), (48, u1.val), (49, iV (y1.Clubs.length : Int)), (50, iV (i2 : Int)), (69, bV c3)] 87 a w') ?_ ?_
          ·rcases Bool.eq_false_or_eq_true (decide (0 < (i2 : Int))) with hb8 | hb8
           ·replace h := iteT h hb8
            refine l_want S rfl rfl rfl hb8 (lv S (rn_move (S.tm rfl)) rfl ?_); clear S; intro a S
            refine l_want S rfl rfl rfl hb8 (lv S (rn_fld fa_84_2 (S.tm rfl)) rfl ?_); clear S; intro a S
            refine l_want S rfl rfl rfl hb8 (lv S (rn_load Tryz.isAgg37 (S.tm rfl) (S.cell (i := 0) rfl rfl)) rfl ?_); clear S; intro a S
            refine l_want S rfl rfl rfl hb8 (lv S (rn_move (S.tm rfl)) rfl ?_); clear S; intro a S
            refine l_want S rfl rfl rfl hb8 (lv S (rn_sub (S.tm rfl) rfl) rfl ?_); clear S; intro a S
            refine l_want S rfl rfl rfl hb8 ?_
            obtain ⟨hc2, h⟩ := chkE h
            obtain ⟨b5, o4, hm4, hr7⟩ := rn_indexT (a := a) (x := .tmp 63) (y := .tmp 65) (ty := 0) sl_37 hs1 (inB_get hc2).1 (inB_get hc2).2 (S.tm rfl) (S.tm rfl)
            refine lv S (hr7 _) rfl ?_; clear S; intro a S
            clear hr7
            refine l_want S rfl rfl rfl hb8 (lv S (rn_ld Tryz.isAgg9 (off := o4) (o := 0) (S.tm rfl) (hm4.at S.emb0) rfl) rfl ?_); clear S; intro a S
            refine l_want S rfl rfl rfl hb8 (lv S (rn_sleq (S.tm rfl) (S.tm rfl)) rfl ?_); clear S; intro a S
            refine lv S (rn_and_t hb8 (S.tm rfl) (S.tm rfl)) rfl ?_; clear S; intro a S
            refine l_done (then_n ?_)
            exact ⟨_, h, Keep.refl _ _, S.nf [true] rfl (subR rfl)⟩
           ·replace h := iteF h hb8
            iterate 8 (refine l_skip S rfl rfl rfl (neq_f hb8) rfl ?_ rfl; clear S; intro a S)
            refine lv S (rn_and_f true hb8 (S.tm rfl) rfl) rfl ?_; clear S; intro a S
            refine l_done (then_n ?_)
            exact ⟨_, h, Keep.refl _ _, S.nf [true] rfl (subR rfl)⟩
          clear S h; rintro a w13 ⟨c3, h, hk9, S⟩; rw [hj5] at h; clear hj5 j5
          refine l_done (then_n (f_cond (S.tm rfl) (fun hb9 => ?_) (fun hb9 => ?_)))
          ·replace h := iteT h hb9
           refine f_seq (f_region (lv S (rn_assign rfl) rfl ?_)); clear S; intro a S
           refine l_done (then_n (wp_ret (blk_r (then_r (then_r (blk_r ?_))))))
           refine then_r (then_r (blk_r (then_r (then_r (blk_r (then_r ?_))))))
           refine then_r ?_
           obtain rfl := Option.some.inj h
           exact f_ret S Tryz.results57 rfl rfl
          ·replace h := iteF h hb9
           refine wp_skip (blk_n (then_n (f_region (lv S (rn_add (S.tm rfl) rfl) rfl ?_)))); clear S; intro a S
           refine lv S (rn_move (S.tm rfl)) rfl ?_; clear S; intro a S
           refine l_done (then_n ?_)
           exact ⟨ys2, ⟨i2 + 1, ⟨_, (hd2).trans (List.append_cons _ _ _), by simp [hi2]⟩, h, S.nf [true] rfl ⟨rfl, rfl, rfl, rfl, rfl, rfl, rfl, (congrArg (fun z => some (Value.int .i64 z)) (rng_next hd2 hi2 (slc_max hs1))), trivial⟩⟩, Nat.lt_succ_self _⟩
       clear S h; rintro a w11 ⟨h, S⟩; rw [hj4] at h; clear hj4 j4
       refine then_n (f_seq (f_region (lv S (rn_fld fa_84_3 (S.tm rfl)) rfl ?_))); clear S; intro a S
       refine lv S (rn_load Tryz.isAgg3 (S.tm rfl) (S.cell (i := 0) rfl rfl)) rfl ?_; clear S; intro a S
       refine lv S (rn_lss (S.tm rfl) rfl) rfl ?_; clear S; intro a S
       refine lv S (rn_move (S.tm rfl)) rfl ?_; clear S; intro a S
       refine f_cutm 6 (fun a w' => Keep [] w11 w' ∧ Sx w [] nov [.blk b2 [sV y1.Key, sV y1.Race, u1.val, iV y1.Young, iV y1.Old] 84] [(0, v_p_l), (4, .pointer (some ⟨b2, 0, none⟩)), (10, v_p_l), (11, iV (p_l.length : Int)), (12, iV (i1 : Int)), (80, bV ((decide (y1.Young < 0)) || (decide (y1.Old < y1.Young))))] 87 a w') ?_ ?_
       ·rcases Bool.eq_false_or_eq_true (decide (y1.Young < 0)) with hb10 | hb10
        ·iterate 5 (refine l_skip S rfl rfl rfl (neq_t hb10) rfl ?_ rfl; clear S; intro a S)
         refine lv S (rn_or_t (decide (y1.Old < y1.Young)) hb10 (S.tm rfl) rfl) rfl ?_; clear S; intro a S
         refine l_done (then_n ?_)
         exact ⟨Keep.refl _ _, S.nf [true] rfl (subR rfl)⟩
        ·refine l_want S rfl rfl rfl hb10 (lv S (rn_fld fa_84_3 (S.tm rfl)) rfl ?_); clear S; intro a S
         refine l_want S rfl rfl rfl hb10 (lv S (rn_load Tryz.isAgg3 (S.tm rfl) (S.cell (i := 0) rfl rfl)) rfl ?_); clear S; intro a S
         refine l_want S rfl rfl rfl hb10 (lv S (rn_fld fa_84_4 (S.tm rfl)) rfl ?_); clear S; intro a S
         refine l_want S rfl rfl rfl hb10 (lv S (rn_load Tryz.isAgg3 (S.tm rfl) (S.cell (i := 0) rfl rfl)) rfl ?_); clear S; intro a S
         refine l_want S rfl rfl rfl hb10 (lv S (rn_gtr (S.tm rfl) (S.tm rfl)) rfl ?_); clear S; intro a S
         refine lv S (rn_or_f hb10 (S.tm rfl) (S.tm rfl)) rfl ?_; clear S; intro a S
         refine l_done (then_n ?_)
         exact ⟨Keep.refl _ _, S.nf [true] rfl (subR rfl)⟩
       clear S; rintro a w14 ⟨hk10, S⟩
       refine lv S (rn_move (S.tm rfl)) rfl ?_; clear S; intro a S
       refine f_cutm 4 (fun a w' => Keep [] w14 w' ∧ Sx w [] nov [.blk b2 [sV y1.Key, sV y1.Race, u1.val, iV y1.Young, iV y1.Old] 84] [(0, v_p_l), (10, v_p_l), (11, iV (p_l.length : Int)), (12, iV (i1 : Int)), (85, bV (((decide (y1.Young < 0)) || (decide (y1.Old < y1.Young))) || (decide (150 < y1.Old))))] 87 a w') ?_ ?_
       ·rcases Bool.eq_false_or_eq_true ((decide (y1.Young < 0)) || (decide (y1.Old < y1.Young))) with hb11 | hb11
        ·iterate 3 (refine l_skip S rfl rfl rfl (neq_t hb11) rfl ?_ rfl; clear S; intro a S)
         refine lv S (rn_or_t (decide (150 < y1.Old)) hb11 (S.tm rfl) rfl) rfl ?_; clear S; intro a S
         refine l_done (then_n ?_)
         exact ⟨Keep.refl _ _, S.nf [true] rfl (subR rfl)⟩
        ·refine l_want S rfl rfl rfl hb11 (lv S (rn_fld fa_84_4 (S.tm rfl)) rfl ?_); clear S; intro a S
         refine l_want S rfl rfl rfl hb11 (lv S (rn_load Tryz.isAgg3 (S.tm rfl) (S.cell (i := 0) rfl rfl)) rfl ?_); clear S; intro a S
         refine l_want S rfl rfl rfl hb11 (lv S (rn_gtr (S.tm rfl) rfl) rfl ?_); clear S; intro a S
         refine lv S (rn_or_f hb11 (S.tm rfl) (S.tm rfl)) rfl ?_; clear S; intro a S
         refine l_done (then_n ?_)
         exact ⟨Keep.refl _ _, S.nf [true] rfl (subR rfl)⟩
       clear S; rintro a w15 ⟨hk11, S⟩
       refine l_done (then_n (f_cond (S.tm rfl) (fun hb12 => ?_) (fun hb12 => ?_)))
       ·replace h := iteT h hb12
        refine f_seq (f_region (lv S (rn_assign rfl) rfl ?_)); clear S; intro a S
        refine l_done (then_n (wp_ret (blk_r (then_r (then_r (blk_r ?_))))))
        refine then_r (then_r ?_)
        obtain rfl := Option.some.inj h
        exact f_ret S Tryz.results57 rfl rfl
       ·replace h := iteF h hb12
        refine wp_skip (blk_n (then_n (f_region (lv S (rn_add (S.tm rfl) rfl) rfl ?_)))); clear S; intro a S
        refine lv S (rn_move (S.tm rfl)) rfl ?_; clear S; intro a S
        refine l_done (then_n ?_)
        exact ⟨ys1, ⟨i1 + 1, ⟨_, (hd1).trans (List.append_cons _ _ _), by simp [hi1]⟩, h, S.nf [false] rfl ⟨rfl, rfl, rfl, (congrArg (fun z => some (Value.int .i64 z)) (rng_next hd1 hi1 (slc_maxD hs_p_l hr_p_l))), trivial⟩⟩, Nat.lt_succ_self _⟩
  clear S h; rintro a w2 ⟨h, S⟩; rw [hj1] at h; clear hj1 j1
  refine then_n (f_seq (f_region (lv S (rn_assign rfl) rfl ?_))); clear S; intro a S
  refine l_done (then_n (wp_ret ?_))
  obtain rfl := Option.some.inj h
  exact f_ret S Tryz.results57 rfl rfl
theorem record_checkStep_ok (w : World) (p_x : GStep) (r : Int) (h : record_checkStep p_x = some r) :
    Calls Tryz.prog 82 [.agg (GStep.enc p_x).toArray].toArray w (Ret w [] fun _ v _ => v = iV r) := by
 refine f_enter [] [] Tryz.func82 rfl Tryz.ntmps82 rfl (by simp) (by simp [fps]) (by simp [fps]) fun a S => ?_
 unfold record_checkStep at h
 replace S := S.nk [] [(0, .agg (GStep.enc p_x).toArray)] [] rfl ⟨rfl, trivial⟩
 refine f_seq (f_region (l_box S (S.tm rfl) (cs := (GStep.enc p_x)) rfl rfl ?_)); clear S; intro a w1 b1 hz1 hk1 S
 refine lv S (rn_assign rfl) rfl ?_; clear S; intro a S
 refine l_done (then_n (f_seq ?_))
 obtain ⟨j1, hj1, h⟩ := joinE h
 refine f_join (fun a w' => j1 = some r ∧ Sx w [] nov [] [] 64 a w') ?_ ?_
 ·refine wp_block (f_seq (f_region (lv S (rn_fld fa_87_0 (S.tm rfl)) rfl ?_))); clear S; intro a S
  refine lv S (rn_load Tryz.isAgg3 (S.tm rfl) (S.cell (i := 0) rfl rfl)) rfl ?_; clear S; intro a S
  refine l_enter S (fun _ => run_call (vs := [iV p_x.At]) ⟨(S.tm rfl), trivial⟩ Tryz.call102) (words_IsMoment_ok _ p_x.At _ rfl) rfl ?_; clear S; intro v1 a w3 hv1 hk2 hn1 S
  subst hv1
  refine lv S (rn_not (S.tm rfl)) rfl ?_; clear S; intro a S
  refine lv S (rn_assign (S.tm rfl)) rfl ?_; clear S; intro a S
  refine l_done (then_n (f_cond (S.tm rfl) (fun hb1 => ?_) (fun hb1 => ?_)))
  ·replace h := iteT h hb1
   refine f_seq (f_region (lv S (rn_assign rfl) rfl ?_)); clear S; intro a S
   refine l_done (then_n (wp_ret (blk_r (then_r (then_r ?_)))))
   obtain rfl := Option.some.inj h
   exact f_ret S Tryz.results82 rfl rfl
  ·replace h := iteF h hb1
   refine f_seq (f_region (lv S (rn_fld fa_87_1 (S.tm rfl)) rfl ?_)); clear S; intro a S
   refine lv S (rn_load Tryz.isAgg3 (S.tm rfl) (S.cell (i := 0) rfl rfl)) rfl ?_; clear S; intro a S
   refine l_enter S (fun _ => run_call (vs := [iV p_x.Kind, iV 1, iV 3]) ⟨(S.tm rfl), rfl, rfl, trivial⟩ Tryz.call21) (words_Within_ok _ p_x.Kind 1 3 _ rfl) rfl ?_; clear S; intro v2 a w4 hv2 hk3 hn2 S
   subst hv2
   refine lv S (rn_not (S.tm rfl)) rfl ?_; clear S; intro a S
   refine lv S (rn_assign (S.tm rfl)) rfl ?_; clear S; intro a S
   refine l_done (then_n (f_cond (S.tm rfl) (fun hb2 => ?_) (fun hb2 => ?_)))
   ·replace h := iteT h hb2
    refine f_seq (f_region (lv S (rn_assign rfl) rfl ?_)); clear S; intro a S
    refine l_done (then_n (wp_ret (blk_r (then_r (then_r ?_)))))
    obtain rfl := Option.some.inj h
    exact f_ret S Tryz.results82 rfl rfl
   ·replace h := iteF h hb2
    refine f_seq (f_region (lv S (rn_fld fa_87_2 (S.tm rfl)) rfl ?_)); clear S; intro a S
    refine lv S (rn_load Tryz.isAgg9 (S.tm rfl) (S.cell (i := 0) rfl rfl)) rfl ?_; clear S; intro a S
    obtain ⟨r1, hr1, h⟩ := bindE h
    refine l_enter S (fun _ => run_call (vs := [sV p_x.Id]) ⟨(S.tm rfl), trivial⟩ Tryz.call71) (words_IsKey_ok _ p_x.Id _ hr1) rfl ?_; clear S; intro v3 a w5 hv3 hk4 hn3 S
    subst hv3
    refine lv S (rn_not (S.tm rfl)) rfl ?_; clear S; intro a S
    refine lv S (rn_assign (S.tm rfl)) rfl ?_; clear S; intro a S
    refine l_done ?_
    replace S := S.nk [.blk b1 (GStep.enc p_x) 87] [(1, .pointer (some ⟨b1, 0, none⟩)), (13, bV (!r1))] [true] rfl (subR rfl)
    refine then_n (f_cond (S.tm rfl) (fun hb3 => ?_) (fun hb3 => ?_))
    ·replace h := iteT h hb3
     refine f_seq (f_region (lv S (rn_assign rfl) rfl ?_)); clear S; intro a S
     refine l_done (then_n (wp_ret (blk_r (then_r (then_r ?_)))))
     obtain rfl := Option.some.inj h
     exact f_ret S Tryz.results82 rfl rfl
    ·replace h := iteF h hb3
     refine f_seq (f_region (lv S (rn_fld fa_87_1 (S.tm rfl)) rfl ?_)); clear S; intro a S
     refine lv S (rn_load Tryz.isAgg3 (S.tm rfl) (S.cell (i := 0) rfl rfl)) rfl ?_; clear S; intro a S
     refine lv S (rn_neq (S.tm rfl) rfl) rfl ?_; clear S; intro a S
     refine lv S (rn_assign (S.tm rfl)) rfl ?_; clear S; intro a S
     refine l_done (then_n ?_)
     obtain ⟨j2, hj2, h⟩ := joinE h
     refine f_join (fun a w' => j2 = some r ∧ Sx w [] nov [] [] 64 a w') ?_ ?_
     ·refine f_cond (S.tm rfl) (fun hb4 => ?_) (fun hb4 => ?_)
      ·replace h := iteT h hb4
       refine f_seq (f_region (lv S (rn_ldA Tryz.isAgg87 Tryz.sizeOf87 (off := 0) (o := 0) (part := (GStep.enc p_x)) rfl rfl (S.tm rfl) (S.cellsAt (i := 0) rfl)) rfl ?_)); clear S; intro a S
       refine lv S (rn_fld fa_87_0 (S.tm rfl)) rfl ?_; clear S; intro a S
       refine lv S (rn_load Tryz.isAgg3 (S.tm rfl) (S.cell (i := 0) rfl rfl)) rfl ?_; clear S; intro a S
       refine lv S (rn_fld fa_87_1 (S.tm rfl)) rfl ?_; clear S; intro a S
       refine lv S (rn_load Tryz.isAgg3 (S.tm rfl) (S.cell (i := 0) rfl rfl)) rfl ?_; clear S; intro a S
       refine lv S (rn_fld fa_87_2 (S.tm rfl)) rfl ?_; clear S; intro a S
       refine lv S (rn_load Tryz.isAgg9 (S.tm rfl) (S.cell (i := 0) rfl rfl)) rfl ?_; clear S; intro a S
       refine lv S (rn_bld bt_87 (pv := [(0, iV p_x.At), (1, iV p_x.Kind), (2, sV p_x.Id)]) ⟨rfl, (S.tm rfl), rfl, (S.tm rfl), rfl, (S.tm rfl), trivial⟩ (cs := [iV p_x.At, iV p_x.Kind, sV p_x.Id, sV k_empty, sV k_empty, sV k_empty, iV 0, iV 0]) (by kernel_rfl)) rfl ?_; clear S; intro a S
       refine lv S (rn_neq_87 (m := p_x) (n := (GStep.mk p_x.At p_x.Kind p_x.Id k_empty k_empty k_empty 0 0)) (S.tm rfl) (S.tm rfl)) rfl ?_; clear S; intro a S
       refine l_done ?_
       replace S := S.nk [] [(30, bV (!decide (p_x = (GStep.mk p_x.At p_x.Kind p_x.Id k_empty k_empty k_empty 0 0))))] [false] rfl ⟨rfl, trivial⟩
       refine then_n (f_cond (S.tm rfl) (fun hb5 => ?_) (fun hb5 => ?_))
       ·replace h := iteT h hb5
        refine f_seq (f_region (lv S (rn_assign rfl) rfl ?_)); clear S; intro a S
        refine l_done (then_n (wp_ret (then_r (blk_r (then_r (then_r ?_))))))
        obtain rfl := Option.some.inj h
        exact f_ret S Tryz.results82 rfl rfl
       ·replace h := iteF h hb5
        refine wp_skip (then_n ?_)
        exact ⟨h, S.nf [] rfl trivial⟩
      ·replace h := iteF h hb4
       refine f_seq (f_region (lv S (rn_fld fa_87_3 (S.tm rfl)) rfl ?_)); clear S; intro a S
       refine lv S (rn_load Tryz.isAgg9 (S.tm rfl) (S.cell (i := 0) rfl rfl)) rfl ?_; clear S; intro a S
       obtain ⟨r2, hr2, h⟩ := bindE h
       refine l_enter S (fun _ => run_call (vs := [sV p_x.Who]) ⟨(S.tm rfl), trivial⟩ Tryz.call71) (words_IsKey_ok _ p_x.Who _ hr2) rfl ?_; clear S; intro v4 a w7 hv4 hk5 hn4 S
       subst hv4
       refine lv S (rn_not (S.tm rfl)) rfl ?_; clear S; intro a S
       refine lv S (rn_move (S.tm rfl)) rfl ?_; clear S; intro a S
       obtain ⟨j3, hj3, h⟩ := joinE h
       refine f_cutm 5 (fun a w' => ∃ c1, j3 c1 = some r ∧ Keep [] w7 w' ∧ Sx w [] nov [.blk b1 (GStep.enc p_x) 87] [(1, .pointer (some ⟨b1, 0, none⟩)), (41, bV c1)] 64 a w') ?_ ?_
       ·rcases Bool.eq_false_or_eq_true (!r2) with hb6 | hb6
        ·replace h := iteT h hb6
         iterate 4 (refine l_skip S rfl rfl rfl (neq_t hb6) rfl ?_ rfl; clear S; intro a S)
         refine lv S (rn_or_t true hb6 (S.tm rfl) rfl) rfl ?_; clear S; intro a S
         refine l_done (then_n ?_)
         exact ⟨_, h, Keep.refl _ _, S.nf [true] rfl (subR rfl)⟩
        ·replace h := iteF h hb6
         refine l_want S rfl rfl rfl hb6 (lv S (rn_fld fa_87_5 (S.tm rfl)) rfl ?_); clear S; intro a S
         refine l_want S rfl rfl rfl hb6 (lv S (rn_load Tryz.isAgg9 (S.tm rfl) (S.cell (i := 0) rfl rfl)) rfl ?_); clear S; intro a S
         refine l_want S rfl rfl rfl hb6 ?_
         obtain ⟨r3, hr3, h⟩ := bindE h
         refine l_enter S (fun _ => run_call (vs := [sV p_x.Race]) ⟨(S.tm rfl), trivial⟩ Tryz.call71) (words_IsKey_ok _ p_x.Race _ hr3) rfl ?_; clear S; intro v5 a w9 hv5 hk6 hn5 S
         subst hv5
         refine l_want S rfl rfl rfl hb6 (lv S (rn_not (S.tm rfl)) rfl ?_); clear S; intro a S
         refine lv S (rn_or_f hb6 (S.tm rfl) (S.tm rfl)) rfl ?_; clear S; intro a S
         refine l_done (then_n ?_)
         exact ⟨_, h, hk6, S.nf [true] rfl (subR rfl)⟩
       clear S h; rintro a w8 ⟨c1, h, hk7, S⟩; rw [hj3] at h; clear hj3 j3
       refine lv S (rn_move (S.tm rfl)) rfl ?_; clear S; intro a S
       obtain ⟨j4, hj4, h⟩ := joinE h
       refine f_cutm 10 (fun a w' => ∃ c2, j4 c2 = some r ∧ Keep [] w8 w' ∧ Sx w [] nov [.blk b1 (GStep.enc p_x) 87] [(1, .pointer (some ⟨b1, 0, none⟩)), (52, bV c2)] 64 a w') ?_ ?_
       ·rcases Bool.eq_false_or_eq_true c1 with hb7 | hb7
        ·replace h := iteT h hb7
         iterate 4 (refine l_skip S rfl rfl rfl (neq_t hb7) rfl ?_ rfl; clear S; intro a S)
         iterate 4 (refine l_skipU S rfl rfl rfl rfl ?_; clear S; intro a S)
         refine l_skip S rfl rfl rfl (neq_t hb7) rfl ?_ rfl; clear S; intro a S
         refine lv S (rn_or_t true hb7 (S.tm rfl) rfl) rfl ?_; clear S; intro a S
         refine l_done (then_n ?_)
         exact ⟨_, h, Keep.refl _ _, S.nf [true] rfl (subR rfl)⟩
        ·replace h := iteF h hb7
         refine l_want S rfl rfl rfl hb7 (lv S (rn_fld fa_87_4 (S.tm rfl)) rfl ?_); clear S; intro a S
         refine l_want S rfl rfl rfl hb7 (lv S (rn_load Tryz.isAgg9 (S.tm rfl) (S.cell (i := 0) rfl rfl)) rfl ?_); clear S; intro a S
         refine l_want S rfl rfl rfl hb7 (lv S (rn_sneq (S.tm rfl) rfl) rfl ?_); clear S; intro a S
         refine l_want S rfl rfl rfl hb7 (lv S (rn_move (S.tm rfl)) rfl ?_); clear S; intro a S
         obtain ⟨j5, hj5, h⟩ := joinE h
         refine f_cutm 5 (fun a w' => ∃ c3, j5 c3 = some r ∧ Keep [] w8 w' ∧ Sx w [] nov [.blk b1 (GStep.enc p_x) 87] [(1, .pointer (some ⟨b1, 0, none⟩)), (42, bV c1), (51, bV c3)] 64 a w') ?_ ?_
         ·rcases Bool.eq_false_or_eq_true (!decide (p_x.Club = k_empty)) with hb8 | hb8
          ·replace h := iteT h hb8
           refine l_want S rfl rfl rfl hb8 (lv S (rn_fld fa_87_4 (S.tm rfl)) rfl ?_); clear S; intro a S
           refine l_want S rfl rfl rfl hb8 (lv S (rn_load Tryz.isAgg9 (S.tm rfl) (S.cell (i := 0) rfl rfl)) rfl ?_); clear S; intro a S
           refine l_want S rfl rfl rfl hb8 ?_
           obtain ⟨r4, hr4, h⟩ := bindE h
           refine l_enter S (fun _ => run_call (vs := [sV p_x.Club]) ⟨(S.tm rfl), trivial⟩ Tryz.call71) (words_IsKey_ok _ p_x.Club _ hr4) rfl ?_; clear S; intro v6 a w12 hv6 hk8 hn6 S
           subst hv6
           refine l_want S rfl rfl rfl hb8 (lv S (rn_not (S.tm rfl)) rfl ?_); clear S; intro a S
           refine l_want S rfl rfl rfl hb7 (lv S (rn_and_t hb8 (S.tm rfl) (S.tm rfl)) rfl ?_); clear S; intro a S
           refine l_done (then_n ?_)
           exact ⟨_, h, hk8, S.nf [true] rfl (subR rfl)⟩
          ·replace h := iteF h hb8
           iterate 4 (refine l_skip S rfl rfl rfl (neq_f hb8) rfl ?_ rfl; clear S; intro a S)
           refine l_want S rfl rfl rfl hb7 (lv S (rn_and_f true hb8 (S.tm rfl) rfl) rfl ?_); clear S; intro a S
           refine l_done (then_n ?_)
           exact ⟨_, h, Keep.refl _ _, S.nf [true] rfl (subR rfl)⟩
         clear S h; rintro a w11 ⟨c3, h, hk9, S⟩; rw [hj5] at h; clear hj5 j5
         refine lv S (rn_or_f hb7 (S.tm rfl) (S.tm rfl)) rfl ?_; clear S; intro a S
         refine l_done (then_n ?_)
         exact ⟨_, h, hk9, S.nf [true] rfl (subR rfl)⟩
       clear S h; rintro a w10 ⟨c2, h, hk10, S⟩; rw [hj4] at h; clear hj4 j4
       refine lv S (rn_assign (S.tm rfl)) rfl ?_; clear S; intro a S
       refine l_done (then_n (f_cond (S.tm rfl) (fun hb9 => ?_) (fun hb9 => ?_)))
       ·replace h := iteT h hb9
        refine f_seq (f_region (lv S (rn_assign rfl) rfl ?_)); clear S; intro a S
        refine l_done (then_n (wp_ret (then_r (blk_r (then_r (then_r ?_))))))
        obtain rfl := Option.some.inj h
        exact f_ret S Tryz.results82 rfl rfl
       ·replace h := iteF h hb9
        refine f_seq (f_region (lv S (rn_fld fa_87_6 (S.tm rfl)) rfl ?_)); clear S; intro a S
        refine lv S (rn_load Tryz.isAgg3 (S.tm rfl) (S.cell (i := 0) rfl rfl)) rfl ?_; clear S; intro a S
        refine l_enter S (fun _ => run_call (vs := [iV p_x.Age, iV 0, iV 150]) ⟨(S.tm rfl), rfl, rfl, trivial⟩ Tryz.call21) (words_Within_ok _ p_x.Age 0 150 _ rfl) rfl ?_; clear S; intro v7 a w13 hv7 hk11 hn7 S
        subst hv7
        refine lv S (rn_not (S.tm rfl)) rfl ?_; clear S; intro a S
        refine lv S (rn_move (S.tm rfl)) rfl ?_; clear S; intro a S
        refine f_cutm 5 (fun a w' => Keep [] w13 w' ∧ Sx w [] nov [.blk b1 (GStep.enc p_x) 87] [(63, bV ((!(words_Within p_x.Age 0 150)) || (!(timing_IsTime p_x.Time))))] 64 a w') ?_ ?_
        ·rcases Bool.eq_false_or_eq_true (!(words_Within p_x.Age 0 150)) with hb10 | hb10
         ·iterate 4 (refine l_skip S rfl rfl rfl (neq_t hb10) rfl ?_ rfl; clear S; intro a S)
          refine lv S (rn_or_t (!(timing_IsTime p_x.Time)) hb10 (S.tm rfl) rfl) rfl ?_; clear S; intro a S
          refine l_done (then_n ?_)
          exact ⟨Keep.refl _ _, S.nf [true] rfl ⟨rfl, trivial⟩⟩
         ·refine l_want S rfl rfl rfl hb10 (lv S (rn_fld fa_87_7 (S.tm rfl)) rfl ?_); clear S; intro a S
          refine l_want S rfl rfl rfl hb10 (lv S (rn_load Tryz.isAgg3 (S.tm rfl) (S.cell (i := 0) rfl rfl)) rfl ?_); clear S; intro a S
          refine l_want S rfl rfl rfl hb10 (l_enter S (fun _ => run_call (vs := [iV p_x.Time]) ⟨(S.tm rfl), trivial⟩ Tryz.call55) (timing_IsTime_ok _ p_x.Time _ rfl) rfl ?_); clear S; intro v8 a w15 hv8 hk12 hn8 S
          subst hv8
          refine l_want S rfl rfl rfl hb10 (lv S (rn_not (S.tm rfl)) rfl ?_); clear S; intro a S
          refine lv S (rn_or_f hb10 (S.tm rfl) (S.tm rfl)) rfl ?_; clear S; intro a S
          refine l_done (then_n ?_)
          exact ⟨hk12, S.nf [true] rfl ⟨rfl, trivial⟩⟩
        clear S; rintro a w14 ⟨hk13, S⟩
        refine lv S (rn_assign (S.tm rfl)) rfl ?_; clear S; intro a S
        refine l_done (then_n (f_cond (S.tm rfl) (fun hb11 => ?_) (fun hb11 => ?_)))
        ·replace h := iteT h hb11
         refine f_seq (f_region (lv S (rn_assign rfl) rfl ?_)); clear S; intro a S
         refine l_done (then_n (wp_ret (then_r (blk_r (then_r (then_r ?_))))))
         obtain rfl := Option.some.inj h
         exact f_ret S Tryz.results82 rfl rfl
        ·replace h := iteF h hb11
         refine wp_skip (then_n ?_)
         exact ⟨h, S.nf [false] rfl trivial⟩
     clear S h; rintro a w6 ⟨h, S⟩; rw [hj2] at h; clear hj2 j2
     refine blk_n (then_n ?_)
     exact ⟨h, S.nf [] rfl trivial⟩
 clear S h; rintro a w2 ⟨h, S⟩; rw [hj1] at h; clear hj1 j1
 refine then_n (f_seq (f_region (lv S (rn_assign rfl) rfl ?_))); clear S; intro a S
 refine l_done (then_n (wp_ret ?_))
 obtain rfl := Option.some.inj h
 exact f_ret S Tryz.results82 rfl rfl
theorem record_checkSwum_ok (w : World) (p_s : GStep) (r : Int) (h : record_checkSwum p_s = some r) :
    Calls Tryz.prog 58 [.agg (GStep.enc p_s).toArray].toArray w (Ret w [] fun _ v _ => v = iV r) := by
 refine f_enter [] [] Tryz.func58 rfl Tryz.ntmps58 rfl (by simp) (by simp [fps]) (by simp [fps]) fun a S => ?_
 unfold record_checkSwum at h
 replace S := S.nk [] [(0, .agg (GStep.enc p_s).toArray)] [] rfl ⟨rfl, trivial⟩
 refine f_seq (f_region (l_box S (S.tm rfl) (cs := (GStep.enc p_s)) rfl rfl ?_)); clear S; intro a w1 b1 hz1 hk1 S
 refine lv S (rn_assign rfl) rfl ?_; clear S; intro a S
 refine l_done (then_n (f_seq (f_seq (f_region (lv S (rn_ldA Tryz.isAgg87 Tryz.sizeOf87 (off := 0) (o := 0) (part := (GStep.enc p_s)) rfl rfl (S.tm rfl) (S.cellsAt (i := 0) rfl)) rfl ?_))))); clear S; intro a S
 obtain ⟨r1, hr1, h⟩ := bindE h
 refine l_enter S (fun _ => run_call (vs := [.agg (GStep.enc p_s).toArray]) ⟨(S.tm rfl), trivial⟩ Tryz.call82) (record_checkStep_ok _ p_s _ hr1) rfl ?_; clear S; intro v1 a w2 hv1 hk2 hn1 S
 subst hv1
 refine lv S (rn_assign (S.tm rfl)) rfl ?_; clear S; intro a S
 refine l_done (then_n (f_seq (f_region (lv S (rn_move (S.tm rfl)) rfl ?_)))); clear S; intro a S
 refine lv S (rn_neq (S.tm rfl) rfl) rfl ?_; clear S; intro a S
 refine l_done (then_n (f_cond (S.tm rfl) (fun hb1 => ?_) (fun hb1 => ?_)))
 ·replace h := iteT h hb1
  refine f_seq (f_region (lv S (rn_move (S.tm rfl)) rfl ?_)); clear S; intro a S
  refine lv S (rn_assign (S.tm rfl)) rfl ?_; clear S; intro a S
  refine l_done (then_n (wp_ret (then_r ?_)))
  obtain rfl := Option.some.inj h
  exact f_ret S Tryz.results58 rfl rfl
 ·replace h := iteF h hb1
  refine wp_skip (then_n (f_seq (f_seq (f_region (lv S (rn_fld fa_87_1 (S.tm rfl)) rfl ?_))))); clear S; intro a S
  refine lv S (rn_load Tryz.isAgg3 (S.tm rfl) (S.cell (i := 0) rfl rfl)) rfl ?_; clear S; intro a S
  refine lv S (rn_neq (S.tm rfl) rfl) rfl ?_; clear S; intro a S
  refine l_done (then_n (f_cond (S.tm rfl) (fun hb2 => ?_) (fun hb2 => ?_)))
  ·replace h := iteT h hb2
   refine f_seq (f_region (lv S (rn_assign rfl) rfl ?_)); clear S; intro a S
   refine l_done (then_n (wp_ret (then_r ?_)))
   obtain rfl := Option.some.inj h
   exact f_ret S Tryz.results58 rfl rfl
  ·replace h := iteF h hb2
   refine wp_skip (then_n (f_seq (f_region (lv S (rn_assign rfl) rfl ?_)))); clear S; intro a S
   refine l_done (then_n (wp_ret ?_))
   obtain rfl := Option.some.inj h
   exact f_ret S Tryz.results58 rfl rfl
theorem record_isFor_ok (w : World) (p_k : GKind) (q_p_k : R84) (hq_p_k : rel_84 (view w []) p_k q_p_k) (p_s : GStep) (r : Bool) (h : record_isFor p_k p_s = r) :
    Calls Tryz.prog 59 [.agg (R84.enc q_p_k).toArray, .agg (GStep.enc p_s).toArray].toArray w (Ret w [] fun _ v _ => v = bV r) := by
 obtain ⟨u1, rfl, hs1⟩ := hq_p_k
 refine f_enter [] [] Tryz.func59 rfl Tryz.ntmps59 rfl (by simp) (by simp [fps]) (by simp [fps]) fun a S => ?_
 unfold record_isFor at h
 replace S := S.nk [] [(0, .agg #[sV p_k.Key, sV p_k.Race, u1.val, iV p_k.Young, iV p_k.Old]), (1, .agg (GStep.enc p_s).toArray)] [] rfl (subR rfl)
 refine f_seq (f_region (l_box S (S.tm rfl) (cs := [sV p_k.Key, sV p_k.Race, u1.val, iV p_k.Young, iV p_k.Old]) rfl rfl ?_)); clear S; intro a w1 b1 hz1 hk1 S
 refine l_box S (S.tm rfl) (cs := (GStep.enc p_s)) rfl rfl ?_; clear S; intro a w2 b2 hz2 hk2 S
 refine lv S (rn_assign rfl) rfl ?_; clear S; intro a S
 refine l_done (then_n (f_seq (f_region (lv S (rn_fld fa_87_5 (S.tm rfl)) rfl ?_)))); clear S; intro a S
 refine lv S (rn_load Tryz.isAgg9 (S.tm rfl) (S.cell (i := 0) rfl rfl)) rfl ?_; clear S; intro a S
 refine lv S (rn_fld fa_84_1 (S.tm rfl)) rfl ?_; clear S; intro a S
 refine lv S (rn_load Tryz.isAgg9 (S.tm rfl) (S.cell (i := 1) rfl rfl)) rfl ?_; clear S; intro a S
 refine lv S (rn_seql (S.tm rfl) (S.tm rfl)) rfl ?_; clear S; intro a S
 refine lv S (rn_move (S.tm rfl)) rfl ?_; clear S; intro a S
 refine f_cutm 12 (fun a w' => Keep [] w2 w' ∧ Sx w [] nov [.blk b2 (GStep.enc p_s) 87, .blk b1 [sV p_k.Key, sV p_k.Race, u1.val, iV p_k.Young, iV p_k.Old] 84] [(2, .pointer (some ⟨b1, 0, none⟩)), (3, .pointer (some ⟨b2, 0, none⟩)), (22, bV ((decide (p_s.Race = p_k.Race)) && ((decide ((p_k.Clubs.length : Int) = 0)) || (slices_Contains_string p_k.Clubs p_s.Club))))] 32 a w') ?_ ?_
 ·rcases Bool.eq_false_or_eq_true (decide (p_s.Race = p_k.Race)) with hb1 | hb1
  ·refine l_want S rfl rfl rfl hb1 (lv S (rn_fld fa_84_2 (S.tm rfl)) rfl ?_); clear S; intro a S
   refine l_want S rfl rfl rfl hb1 (lv S (rn_load Tryz.isAgg37 (S.tm rfl) (S.cell (i := 1) rfl rfl)) rfl ?_); clear S; intro a S
   refine l_want S rfl rfl rfl hb1 (lv S (rn_lenT sl_37 (S.tm rfl) (slc_len hs1)) rfl ?_); clear S; intro a S
   refine l_want S rfl rfl rfl hb1 (lv S (rn_eql (S.tm rfl) rfl) rfl ?_); clear S; intro a S
   refine l_want S rfl rfl rfl hb1 (lv S (rn_move (S.tm rfl)) rfl ?_); clear S; intro a S
   refine f_cutm 6 (fun a w' => Keep [] w2 w' ∧ Sx w [] nov [.blk b2 (GStep.enc p_s) 87, .blk b1 [sV p_k.Key, sV p_k.Race, u1.val, iV p_k.Young, iV p_k.Old] 84] [(2, .pointer (some ⟨b1, 0, none⟩)), (3, .pointer (some ⟨b2, 0, none⟩)), (10, bV (decide (p_s.Race = p_k.Race))), (21, bV ((decide ((p_k.Clubs.length : Int) = 0)) || (slices_Contains_string p_k.Clubs p_s.Club)))] 32 a w') ?_ ?_
   ·rcases Bool.eq_false_or_eq_true (decide ((p_k.Clubs.length : Int) = 0)) with hb2 | hb2
    ·iterate 5 (refine l_skip S rfl rfl rfl (neq_t hb2) rfl ?_ rfl; clear S; intro a S)
     refine l_want S rfl rfl rfl hb1 (lv S (rn_or_t (slices_Contains_string p_k.Clubs p_s.Club) hb2 (S.tm rfl) rfl) rfl ?_); clear S; intro a S
     refine l_done (then_n ?_)
     exact ⟨Keep.refl _ _, S.nf [true, true] rfl (subR rfl)⟩
    ·refine l_want S rfl rfl rfl hb2 (lv S (rn_fld fa_84_2 (S.tm rfl)) rfl ?_); clear S; intro a S
     refine l_want S rfl rfl rfl hb2 (lv S (rn_load Tryz.isAgg37 (S.tm rfl) (S.cell (i := 1) rfl rfl)) rfl ?_); clear S; intro a S
     refine l_want S rfl rfl rfl hb2 (lv S (rn_fld fa_87_4 (S.tm rfl)) rfl ?_); clear S; intro a S
     refine l_want S rfl rfl rfl hb2 (lv S (rn_load Tryz.isAgg9 (S.tm rfl) (S.cell (i := 0) rfl rfl)) rfl ?_); clear S; intro a S
     refine l_want S rfl rfl rfl hb2 (l_enter S (fun _ => run_call (vs := [u1.val, sV p_s.Club]) ⟨(S.tm rfl), (S.tm rfl), trivial⟩ Tryz.call11) (slices_Contains_string_ok _ u1.val p_k.Clubs (hs1.mono (S.le_arg nil_sub)) p_s.Club _ rfl) rfl ?_); clear S; intro v1 a w5 hv1 hk3 hn1 S
     subst hv1
     refine l_want S rfl rfl rfl hb1 (lv S (rn_or_f hb2 (S.tm rfl) (S.tm rfl)) rfl ?_); clear S; intro a S
     refine l_done (then_n ?_)
     exact ⟨hk3, S.nf [true, true] rfl (subR rfl)⟩
   clear S; rintro a w4 ⟨hk4, S⟩
   refine lv S (rn_and_t hb1 (S.tm rfl) (S.tm rfl)) rfl ?_; clear S; intro a S
   refine l_done (then_n ?_)
   exact ⟨hk4, S.nf [true, true] rfl (subR rfl)⟩
  ·iterate 5 (refine l_skip S rfl rfl rfl (neq_f hb1) rfl ?_ rfl; clear S; intro a S)
   iterate 5 (refine l_skipU S rfl rfl rfl rfl ?_; clear S; intro a S)
   refine l_skip S rfl rfl rfl (neq_f hb1) rfl ?_ rfl; clear S; intro a S
   refine lv S (rn_and_f ((decide ((p_k.Clubs.length : Int) = 0)) || (slices_Contains_string p_k.Clubs p_s.Club)) hb1 (S.tm rfl) rfl) rfl ?_; clear S; intro a S
   refine l_done (then_n ?_)
   exact ⟨Keep.refl _ _, S.nf [true, true] rfl (subR rfl)⟩
 clear S; rintro a w3 ⟨hk5, S⟩
 refine lv S (rn_move (S.tm rfl)) rfl ?_; clear S; intro a S
 refine f_cutm 8 (fun a w' => Keep [] w3 w' ∧ Sx w [] nov [.blk b2 (GStep.enc p_s) 87, .blk b1 [sV p_k.Key, sV p_k.Race, u1.val, iV p_k.Young, iV p_k.Old] 84] [(31, bV (((decide (p_s.Race = p_k.Race)) && ((decide ((p_k.Clubs.length : Int) = 0)) || (slices_Contains_string p_k.Clubs p_s.Club))) && (words_Within p_s.Age p_k.Young p_k.Old)))] 32 a w') ?_ ?_
 ·rcases Bool.eq_false_or_eq_true ((decide (p_s.Race = p_k.Race)) && ((decide ((p_k.Clubs.length : Int) = 0)) || (slices_Contains_string p_k.Clubs p_s.Club))) with hb3 | hb3
  ·refine l_want S rfl rfl rfl hb3 (lv S (rn_fld fa_87_6 (S.tm rfl)) rfl ?_); clear S; intro a S
   refine l_want S rfl rfl rfl hb3 (lv S (rn_load Tryz.isAgg3 (S.tm rfl) (S.cell (i := 0) rfl rfl)) rfl ?_); clear S; intro a S
   refine l_want S rfl rfl rfl hb3 (lv S (rn_fld fa_84_3 (S.tm rfl)) rfl ?_); clear S; intro a S
   refine l_want S rfl rfl rfl hb3 (lv S (rn_load Tryz.isAgg3 (S.tm rfl) (S.cell (i := 1) rfl rfl)) rfl ?_); clear S; intro a S
   refine l_want S rfl rfl rfl hb3 (lv S (rn_fld fa_84_4 (S.tm rfl)) rfl ?_); clear S; intro a S
   refine l_want S rfl rfl rfl hb3 (lv S (rn_load Tryz.isAgg3 (S.tm rfl) (S.cell (i := 1) rfl rfl)) rfl ?_); clear S; intro a S
   refine l_want S rfl rfl rfl hb3 (l_enter S (fun _ => run_call (vs := [iV p_s.Age, iV p_k.Young, iV p_k.Old]) ⟨(S.tm rfl), (S.tm rfl), (S.tm rfl), trivial⟩ Tryz.call21) (words_Within_ok _ p_s.Age p_k.Young p_k.Old _ rfl) rfl ?_); clear S; intro v2 a w7 hv2 hk6 hn2 S
   subst hv2
   refine lv S (rn_and_t hb3 (S.tm rfl) (S.tm rfl)) rfl ?_; clear S; intro a S
   refine l_done (then_n ?_)
   exact ⟨hk6, S.nf [true, true] rfl ⟨rfl, trivial⟩⟩
  ·iterate 7 (refine l_skip S rfl rfl rfl (neq_f hb3) rfl ?_ rfl; clear S; intro a S)
   refine lv S (rn_and_f (words_Within p_s.Age p_k.Young p_k.Old) hb3 (S.tm rfl) rfl) rfl ?_; clear S; intro a S
   refine l_done (then_n ?_)
   exact ⟨Keep.refl _ _, S.nf [true, true] rfl ⟨rfl, trivial⟩⟩
 clear S; rintro a w6 ⟨hk7, S⟩
 refine lv S (rn_assign (S.tm rfl)) rfl ?_; clear S; intro a S
 refine l_done (then_n (wp_ret ?_))
 subst h
 exact f_ret S Tryz.results59 rfl rfl
theorem record_For_ok (w : World) (v_p_l : Value) (p_l : List GKind) (rs_p_l : List R84) (hs_p_l : Slc (view w []) 5 v_p_l (rs_p_l.map R84.enc)) (hr_p_l : All2 (rel_84 (view w [])) p_l rs_p_l) (p_s : GStep) (r : (List ByteArray) × Int) (h : record_For p_l p_s = some r) :
    Calls Tryz.prog 33 [v_p_l, .agg (GStep.enc p_s).toArray].toArray w (Ret w [] fun τ v _ => ∃ u1 : Value, v = .tuple #[u1, iV r.2] ∧ OwnV τ 9 1 u1 r.1.length (r.1.flatMap eStr)) := by
 refine f_enter [] [] Tryz.func33 rfl Tryz.ntmps33 rfl (by simp) (by simp [fps]) (by simp [fps]) fun a S => ?_
 unfold record_For at h
 replace S := S.nk [] [(0, v_p_l), (1, .agg (GStep.enc p_s).toArray)] [] rfl (subR rfl)
 refine f_seq (f_region (l_box S (S.tm rfl) (cs := (GStep.enc p_s)) rfl rfl ?_)); clear S; intro a w1 b1 hz1 hk1 S
 refine lv S (rn_assign rfl) rfl ?_; clear S; intro a S
 refine lv S (rn_assign rfl) rfl ?_; clear S; intro a S
 refine l_done (then_n (f_seq (f_seq (f_region (lv S (rn_move (S.tm rfl)) rfl ?_))))); clear S; intro a S
 obtain ⟨r1, hr1, h⟩ := bindE h
 refine l_enter S (fun _ => run_call (vs := [v_p_l]) ⟨(S.tm rfl), trivial⟩ Tryz.call57) (record_CheckKinds_ok _ v_p_l p_l rs_p_l (hs_p_l.mono (S.le_arg nil_sub)) (rels_84 (S.le_arg nil_sub) hr_p_l) _ hr1) rfl ?_; clear S; intro v1 a w2 hv1 hk2 hn1 S
 subst hv1
 refine lv S (rn_assign (S.tm rfl)) rfl ?_; clear S; intro a S
 refine l_done (then_n (f_seq (f_region (lv S (rn_move (S.tm rfl)) rfl ?_)))); clear S; intro a S
 refine lv S (rn_neq (S.tm rfl) rfl) rfl ?_; clear S; intro a S
 refine l_done (then_n (f_cond (S.tm rfl) (fun hb1 => ?_) (fun hb1 => ?_)))
 ·replace h := iteT h hb1
  refine f_seq (f_region (lv S (rn_move (S.tm rfl)) rfl ?_)); clear S; intro a S
  refine lv S (rn_assign rfl) rfl ?_; clear S; intro a S
  refine lv S (rn_assign (S.tm rfl)) rfl ?_; clear S; intro a S
  refine l_done (then_n (wp_ret (then_r ?_)))
  obtain rfl := Option.some.inj h
  exact f_ret2 S Tryz.results33 rfl rfl ⟨_, rfl, (ownV_nil _ _ _)⟩
 ·replace h := iteF h hb1
  refine wp_skip (then_n (f_seq (f_seq (f_region (lv S (rn_ldA Tryz.isAgg87 Tryz.sizeOf87 (off := 0) (o := 0) (part := (GStep.enc p_s)) rfl rfl (S.tm rfl) (S.cellsAt (i := 0) rfl)) rfl ?_))))); clear S; intro a S
  obtain ⟨r2, hr2, h⟩ := bindE h
  refine l_enter S (fun _ => run_call (vs := [.agg (GStep.enc p_s).toArray]) ⟨(S.tm rfl), trivial⟩ Tryz.call58) (record_checkSwum_ok _ p_s _ hr2) rfl ?_; clear S; intro v2 a w3 hv2 hk3 hn2 S
  subst hv2
  refine lv S (rn_assign (S.tm rfl)) rfl ?_; clear S; intro a S
  refine l_done (then_n (f_seq (f_region (lv S (rn_move (S.tm rfl)) rfl ?_)))); clear S; intro a S
  refine lv S (rn_neq (S.tm rfl) rfl) rfl ?_; clear S; intro a S
  refine l_done ?_
  replace S := S.nk [.blk b1 (GStep.enc p_s) 87] [(0, v_p_l), (3, .pointer (some ⟨b1, 0, none⟩)), (7, iV r2), (19, bV (!decide (r2 = 0)))] [true] rfl (subR rfl)
  refine then_n (f_cond (S.tm rfl) (fun hb2 => ?_) (fun hb2 => ?_))
  ·replace h := iteT h hb2
   refine f_seq (f_region (lv S (rn_move (S.tm rfl)) rfl ?_)); clear S; intro a S
   refine lv S (rn_assign rfl) rfl ?_; clear S; intro a S
   refine lv S (rn_assign (S.tm rfl)) rfl ?_; clear S; intro a S
   refine l_done (then_n (wp_ret (then_r ?_)))
   obtain rfl := Option.some.inj h
   exact f_ret2 S Tryz.results33 rfl rfl ⟨_, rfl, (ownV_nil _ _ _)⟩
  ·replace h := iteF h hb2
   refine wp_skip (then_n (f_seq (f_region (lv S (rn_assign rfl) rfl ?_)))); clear S; intro a S
   replace S := S.nil 9 1
   refine l_done (then_n (f_seq (f_seq (f_region (lv S (rn_move (S.tm rfl)) rfl ?_))))); clear S; intro a S
   refine lv S (rn_lenT sl_85 (S.tm rfl) (slc_lenD hs_p_l hr_p_l)) rfl ?_; clear S; intro a S
   refine lv S (rn_move rfl) rfl ?_; clear S; intro a S
   refine l_done (then_n ?_)
   replace S := S.nk [.own (.slice none 0 0) 9 1 ([] : List ByteArray).length (([] : List ByteArray).flatMap eStr), .blk b1 (GStep.enc p_s) 87] [(3, .pointer (some ⟨b1, 0, none⟩)), (8, (.slice none 0 0)), (21, v_p_l), (22, iV (p_l.length : Int)), (23, iV 0)] [true, true] rfl (subR rfl)
   obtain ⟨j1, hj1, h⟩ := joinE h
   refine f_join (fun a w' => ∃ x1 : List ByteArray, ∃ v3 : Value, j1 x1 = some r ∧ Sx w [] nov [.own v3 9 1 x1.length (x1.flatMap eStr), .blk b1 (GStep.enc p_s) 87] [(8, v3)] 37 a w') ?_ ?_
   ·refine wp_block (f_loop (fun (ys1 : List GKind) a w' => ∃ i1 : Nat, ∃ x1 : List ByteArray, ∃ v3 : Value, (∃ dn, p_l = dn ++ ys1 ∧ dn.length = i1) ∧ record_For_l1 p_s j1 ys1 i1 x1 = some r ∧ Sx w [] nov [.own v3 9 1 x1.length (x1.flatMap eStr), .blk b1 (GStep.enc p_s) 87] [(3, .pointer (some ⟨b1, 0, none⟩)), (8, v3), (21, v_p_l), (22, iV (p_l.length : Int)), (23, iV (i1 : Int))] 37 a w') List.length p_l ⟨0, ([] : List ByteArray), (.slice none 0 0), ⟨[], rfl, rfl⟩, h, S.nf [true, true] rfl (subR rfl)⟩ ?_)
    clear S h; rintro ys1 a w4 ⟨i1, x1, v3, ⟨dn, hd1, hi1⟩, h, S⟩
    cases ys1 with
    | nil =>
     rw [record_For_l1.eq_1] at h
     refine f_seq (f_region (lv S (rn_lss (S.tm rfl) (S.tm rfl)) rfl ?_)); clear S; intro a S
     refine l_done ?_
     replace S := S.nk [.own v3 9 1 x1.length (x1.flatMap eStr), .blk b1 (GStep.enc p_s) 87] [(3, .pointer (some ⟨b1, 0, none⟩)), (8, v3), (21, v_p_l), (22, iV (p_l.length : Int)), (23, iV (i1 : Int)), (24, bV (decide ((i1 : Int) < (p_l.length : Int))))] [true, true] rfl (subR rfl)
     refine then_n (f_seq (wp_cond_false ((S.tm rfl).trans (congrArg Value.bool (rng_nil hd1 hi1))) (wp_exit (then_x (then_x (x_same ?_))))))
     refine then_n ?_
     exact ⟨x1, v3, h, S.nf [true, true] rfl ⟨rfl, trivial⟩⟩
    | cons y1 ys1 =>
     rw [record_For_l1.eq_2] at h
     refine f_seq (f_region (lv S (rn_lss (S.tm rfl) (S.tm rfl)) rfl ?_)); clear S; intro a S
     refine l_done ?_
     replace S := S.nk [.own v3 9 1 x1.length (x1.flatMap eStr), .blk b1 (GStep.enc p_s) 87] [(3, .pointer (some ⟨b1, 0, none⟩)), (8, v3), (21, v_p_l), (22, iV (p_l.length : Int)), (23, iV (i1 : Int)), (24, bV (decide ((i1 : Int) < (p_l.length : Int))))] [true, true] rfl (subR rfl)
     refine then_n (f_seq (wp_cond_true ((S.tm rfl).trans (congrArg Value.bool (rng_cons hd1 hi1))) (wp_skip (then_n (f_seq ?_)))))
     obtain ⟨j2, hj2, h⟩ := joinE h
     refine f_join (fun a w' => ∃ x2 : List ByteArray, ∃ v4 : Value, j2 x2 = some r ∧ Sx w [] nov [.own v4 9 1 x2.length (x2.flatMap eStr), .blk b1 (GStep.enc p_s) 87] [(3, .pointer (some ⟨b1, 0, none⟩)), (8, v4), (21, v_p_l), (22, iV (p_l.length : Int)), (23, iV (i1 : Int))] 37 a w') ?_ ?_
     ·refine wp_block (f_seq (f_region ?_))
      obtain ⟨r3, hg1, hl1⟩ := All2.at hr_p_l (get_mid hd1 hi1)
      obtain ⟨u1, rfl, hs1⟩ := hl1
      obtain ⟨b2, o1, hm1, hr3⟩ := rn_indexT (a := a) (x := .tmp 21) (y := .tmp 23) (ty := 0) sl_85 hs_p_l hg1 rfl (S.tm rfl) (S.tm rfl)
      refine lv S (hr3 _) rfl ?_; clear S; intro a S
      clear hr3
      refine lv S (rn_ldA Tryz.isAgg84 Tryz.sizeOf84 (off := o1) (o := 0) (part := [sV y1.Key, sV y1.Race, u1.val, iV y1.Young, iV y1.Old]) rfl rfl (S.tm rfl) (hm1.at S.emb0)) rfl ?_; clear S; intro a S
      refine l_alloc S Tryz.zeroValue84 (cs := [sV k_empty, sV k_empty, .slice none 0 0, iV 0, iV 0]) rfl rfl ?_; clear S; intro a w7 b3 hz2 hk4 S
      refine l_store S (S.tm rfl) (S.tm rfl) (i := 0) (off := 0) rfl Tryz.sizeOf84 (vs := [sV y1.Key, sV y1.Race, u1.val, iV y1.Young, iV y1.Old]) rfl rfl rfl (all1 rfl (all1 rfl (all1 (SlcLen.one (slc_len hs1)) (all1 rfl (all1 rfl rfl))))) ?_; clear S; intro w8 hk5 S
      refine l_done (then_n (f_seq (f_region (lv S (rn_ldA Tryz.isAgg84 Tryz.sizeOf84 (off := 0) (o := 0) (part := [sV y1.Key, sV y1.Race, u1.val, iV y1.Young, iV y1.Old]) rfl rfl (S.tm rfl) (S.cellsAt (i := 0) rfl)) rfl ?_)))); clear S; intro a S
      refine lv S (rn_ldA Tryz.isAgg87 Tryz.sizeOf87 (off := 0) (o := 0) (part := (GStep.enc p_s)) rfl rfl (S.tm rfl) (S.cellsAt (i := 2) rfl)) rfl ?_; clear S; intro a S
      refine l_enter S (fun _ => run_call (vs := [.agg (R84.enc (R84.mk y1.Key y1.Race u1 y1.Young y1.Old)).toArray, .agg (GStep.enc p_s).toArray]) ⟨(S.tm rfl), (S.tm rfl), trivial⟩ Tryz.call59) (record_isFor_ok _ y1 (R84.mk y1.Key y1.Race u1 y1.Young y1.Old) ⟨u1, rfl, (hs1.mono (S.le_arg nil_sub))⟩ p_s _ rfl) rfl ?_; clear S; intro v5 a w9 hv3 hk6 hn3 S
      subst hv3
      refine l_done (then_n ?_)
      obtain ⟨j3, hj3, h⟩ := joinE h
      refine f_join (fun a w' => ∃ x3 : List ByteArray, ∃ v6 : Value, j3 x3 = some r ∧ Sx w [] nov [.own v6 9 1 x3.length (x3.flatMap eStr), .blk b1 (GStep.enc p_s) 87] [(3, .pointer (some ⟨b1, 0, none⟩)), (8, v6), (21, v_p_l), (22, iV (p_l.length : Int)), (23, iV (i1 : Int))] 37 a w') ?_ ?_
      ·refine f_cond (S.tm rfl) (fun hb3 => ?_) (fun hb3 => ?_)
       ·replace h := iteT h hb3
        refine f_region (lv S (rn_move (S.tm rfl)) rfl ?_); clear S; intro a S
        refine lv S (rn_fld fa_84_0 (S.tm rfl)) rfl ?_; clear S; intro a S
        refine lv S (rn_load Tryz.isAgg9 (S.tm rfl) (S.cell (i := 0) rfl rfl)) rfl ?_; clear S; intro a S
        refine l_buildSlice S Tryz.underlying37 Tryz.sizeOf9 Tryz.zeroValue9 rfl rfl (pv := [(0, sV y1.Key)]) ⟨rfl, (S.tm rfl), trivial⟩ (cs := [sV y1.Key]) (by kernel_rfl) rfl ?_; clear S; intro a w11 b4 hz3 hk7 S
        obtain ⟨hc1, h⟩ := chkE h
        refine l_appendT sl_37 enc_str S (S.tm rfl) (i := 2) rfl (S.tm rfl) (j := 0) rfl (ys := [y1.Key]) rfl rfl rfl rfl (by have := room_lt hc1; omega) rfl ?_; clear S; intro v7 a w12 hk8 S
        refine lv S (rn_assign (S.tm rfl)) rfl ?_; clear S; intro a S
        refine l_done ?_
        replace S := S.nk [.own v7 9 1 (x1 ++ [y1.Key]).length ((x1 ++ [y1.Key]).flatMap eStr), .blk b1 (GStep.enc p_s) 87] [(3, .pointer (some ⟨b1, 0, none⟩)), (8, v7), (21, v_p_l), (22, iV (p_l.length : Int)), (23, iV (i1 : Int))] [false, false, true, true] rfl (subR rfl)
        refine then_n ?_
        exact ⟨(x1 ++ [y1.Key]), v7, h, S.nf [true, true] rfl (subR rfl)⟩
       ·replace h := iteF h hb3
        refine wp_skip (then_n ?_)
        exact ⟨x1, v3, h, S.nf [false, true, true] rfl (subR rfl)⟩
      clear S h; rintro a w10 ⟨x3, v6, h, S⟩; rw [hj3] at h; clear hj3 j3
      refine blk_n (then_n ?_)
      exact ⟨x3, v6, h, S.nf [true, true] rfl (subR rfl)⟩
     clear S h; rintro a w6 ⟨x2, v4, h, S⟩; rw [hj2] at h; clear hj2 j2
     refine then_n (f_region (lv S (rn_add (S.tm rfl) rfl) rfl ?_)); clear S; intro a S
     refine lv S (rn_move (S.tm rfl)) rfl ?_; clear S; intro a S
     refine l_done (then_n ?_)
     exact ⟨ys1, ⟨i1 + 1, x2, v4, ⟨_, (hd1).trans (List.append_cons _ _ _), by simp [hi1]⟩, h, S.nf [true, true] rfl ⟨rfl, rfl, rfl, rfl, (congrArg (fun z => some (Value.int .i64 z)) (rng_next hd1 hi1 (slc_maxD hs_p_l hr_p_l))), trivial⟩⟩, Nat.lt_succ_self _⟩
   clear S h; rintro a w5 ⟨x1, v3, h, S⟩; rw [hj1] at h; clear hj1 j1
   refine then_n (f_seq (f_region (lv S (rn_move (S.tm rfl)) rfl ?_))); clear S; intro a S
   refine lv S (rn_assign (S.tm rfl)) rfl ?_; clear S; intro a S
   refine lv S (rn_assign rfl) rfl ?_; clear S; intro a S
   refine l_done (then_n (wp_ret ?_))
   obtain rfl := Option.some.inj h
   exact f_ret2 S Tryz.results33 rfl rfl ⟨_, rfl, (own_retT S (i := 0) rfl rfl)⟩
theorem tumbkeep2_ready_ok (w : World) (r : Bool) (h : tumbkeep2_ready = some r) :
    Calls Tryz.prog 12 [].toArray w (Ret w [] fun _ v _ => v = bV r) := by
 refine f_enter [] [] Tryz.func12 rfl Tryz.ntmps12 rfl (by simp) (by simp [fps]) (by simp [fps]) fun a S => ?_
 unfold tumbkeep2_ready at h
 replace S := S.nk [] [] [] rfl trivial
 refine f_seq (f_region (lv S (rn_assign rfl) rfl ?_)); clear S; intro a S
 refine l_done (then_n (f_seq (f_region (lv S (rn_bld bt_73 (pv := [(0, iV 2024), (1, iV 3), (2, iV 1)]) ⟨rfl, rfl, rfl, rfl, rfl, rfl, trivial⟩ (cs := [iV 2024, iV 3, iV 1]) (by kernel_rfl)) rfl ?_)))); clear S; intro a S
 obtain ⟨r1, hr1, h⟩ := bindE h
 refine l_enter S (fun _ => run_call (vs := [.agg (GDate.enc (GDate.mk 2024 3 1)).toArray]) ⟨(S.tm rfl), trivial⟩ Tryz.call30) (swimmer_DayOf_ok _ (GDate.mk 2024 3 1) _ hr1) rfl ?_; clear S; intro v1 a w1 hv1 hk1 hn1 S
 subst hv1
 refine lv S (rn_move (S.tm rfl)) rfl ?_; clear S; intro a S
 refine lv S (rn_extract (S.tm rfl) rfl) rfl ?_; clear S; intro a S
 refine lv S (rn_extract (S.tm rfl) rfl) rfl ?_; clear S; intro a S
 refine lv S (rn_assign (S.tm rfl)) rfl ?_; clear S; intro a S
 refine lv S (rn_assign (S.tm rfl)) rfl ?_; clear S; intro a S
 refine l_done (then_n (f_seq (f_region (lv S (rn_bld bt_76 (pv := [(0, sV k_a), (1, iV 2), (2, iV 10), (3, iV 5)]) ⟨rfl, rfl, rfl, rfl, rfl, rfl, rfl, rfl, trivial⟩ (cs := [sV k_a, iV 2, iV 10, iV 5, iV 0]) (by kernel_rfl)) rfl ?_)))); clear S; intro a S
 refine l_buildSlice S Tryz.underlying77 Tryz.sizeOf76 Tryz.zeroValue76 rfl rfl (pv := [(0, .agg #[sV k_a, iV 2, iV 10, iV 5, iV 0])]) ⟨rfl, (S.tm rfl), trivial⟩ (cs := [sV k_a, iV 2, iV 10, iV 5, iV 0]) (by kernel_rfl) rfl ?_; clear S; intro a w2 b1 hz1 hk2 S
 obtain ⟨r2, hr2, h⟩ := bindE h
 refine l_enter S (fun _ => run_call (vs := [.slice (some ⟨b1, 0, none⟩) 1 1, iV 0]) ⟨(S.tm rfl), rfl, trivial⟩ Tryz.call31) (session_Ends_ok _ (.slice (some ⟨b1, 0, none⟩) 1 1) [(GItem.mk k_a 2 10 5 0)] (lit_slcT GItem.enc_ok S (i := 0) rfl rfl rfl rfl ((ne_nil (e' := .blk b1 [sV k_a, iV 2, iV 10, iV 5, iV 0] 76)) _ rfl)) 0 _ hr2) rfl ?_; clear S; intro v2 a w3 hv2 hk3 hn2 S
 subst hv2
 refine lv S (rn_move (S.tm rfl)) rfl ?_; clear S; intro a S
 refine lv S (rn_extract (S.tm rfl) rfl) rfl ?_; clear S; intro a S
 refine lv S (rn_extract (S.tm rfl) rfl) rfl ?_; clear S; intro a S
 refine lv S (rn_assign (S.tm rfl)) rfl ?_; clear S; intro a S
 refine lv S (rn_assign (S.tm rfl)) rfl ?_; clear S; intro a S
 refine l_done ?_
 replace S := S.nk [] [(1, iV r1.1), (2, iV r1.2), (3, iV r2.1), (4, iV r2.2)] [false] rfl (subR rfl)
 refine then_n (f_seq (f_region (lv S (rn_bld bt_80 (pv := [(0, sV k_r), (1, iV 3000)]) ⟨rfl, rfl, rfl, rfl, trivial⟩ (cs := [sV k_r, iV 3000]) (by kernel_rfl)) rfl ?_))); clear S; intro a S
 refine l_buildSlice S Tryz.underlying81 Tryz.sizeOf80 Tryz.zeroValue80 rfl rfl (pv := [(0, .agg #[sV k_r, iV 3000])]) ⟨rfl, (S.tm rfl), trivial⟩ (cs := [sV k_r, iV 3000]) (by kernel_rfl) rfl ?_; clear S; intro a w4 b2 hz2 hk4 S
 obtain ⟨r3, hr3, h⟩ := bindE h
 refine l_enter S (fun _ => run_call (vs := [.slice (some ⟨b2, 0, none⟩) 1 1, sV k_r, iV 6000]) ⟨(S.tm rfl), rfl, rfl, trivial⟩ Tryz.call32) (points_ByTime_ok _ (.slice (some ⟨b2, 0, none⟩) 1 1) [(GBase.mk k_r 3000)] (lit_slcT GBase.enc_ok S (i := 0) rfl rfl rfl rfl ((ne_nil (e' := .blk b2 [sV k_r, iV 3000] 80)) _ rfl)) k_r 6000 _ hr3) rfl ?_; clear S; intro v3 a w5 hv3 hk5 hn3 S
 subst hv3
 refine lv S (rn_move (S.tm rfl)) rfl ?_; clear S; intro a S
 refine lv S (rn_extract (S.tm rfl) rfl) rfl ?_; clear S; intro a S
 refine lv S (rn_extract (S.tm rfl) rfl) rfl ?_; clear S; intro a S
 refine lv S (rn_assign (S.tm rfl)) rfl ?_; clear S; intro a S
 refine lv S (rn_assign (S.tm rfl)) rfl ?_; clear S; intro a S
 refine l_done (then_n (f_seq (f_region (lv S (rn_bld bt_84 (pv := [(0, sV k_k), (1, sV k_r), (4, iV 9)]) ⟨rfl, rfl, rfl, rfl, rfl, rfl, trivial⟩ (cs := [sV k_k, sV k_r, .slice none 0 0, iV 0, iV 9]) (by kernel_rfl)) rfl ?_)))); clear S; intro a S
 refine l_buildSlice S Tryz.underlying85 Tryz.sizeOf84 Tryz.zeroValue84 rfl rfl (pv := [(0, .agg #[sV k_k, sV k_r, .slice none 0 0, iV 0, iV 9])]) ⟨rfl, (S.tm rfl), trivial⟩ (cs := [sV k_k, sV k_r, .slice none 0 0, iV 0, iV 9]) (by kernel_rfl) rfl ?_; clear S; intro a w6 b3 hz3 hk6 S
 refine lv S (rn_bld bt_87 (pv := [(1, iV 1), (2, sV k_i), (3, sV k_a), (5, sV k_r), (7, iV 5)]) ⟨rfl, rfl, rfl, rfl, rfl, rfl, rfl, rfl, rfl, rfl, trivial⟩ (cs := [iV 0, iV 1, sV k_i, sV k_a, sV k_empty, sV k_r, iV 0, iV 5]) (by kernel_rfl)) rfl ?_; clear S; intro a S
 have hr4 : All2 (rel_84 nov) ([(GKind.mk k_k k_r ([] : List ByteArray) 0 9)] : List GKind) ([(R84.mk k_k k_r ⟨.slice none 0 0, rfl⟩ 0 9)] : List R84) := (All2.cons ⟨⟨.slice none 0 0, rfl⟩, rfl, (slc_nil _ _)⟩ All2.nil)
 replace S := S.litOwn (i := 0) (xs := ([(R84.mk k_k k_r ⟨.slice none 0 0, rfl⟩ 0 9)] : List R84)) rfl R84.enc_ok rfl rfl rfl
 replace S := S.nk [.own (.slice (some ⟨b3, 0, none⟩) 1 1) 84 5 ([(R84.mk k_k k_r ⟨.slice none 0 0, rfl⟩ 0 9)] : List R84).length (([(R84.mk k_k k_r ⟨.slice none 0 0, rfl⟩ 0 9)] : List R84).flatMap R84.enc), .blk b2 [sV k_r, iV 3000] 80] [(1, iV r1.1), (2, iV r1.2), (3, iV r2.1), (4, iV r2.2), (5, iV r3.1), (6, iV r3.2), (20, .tuple #[iV r3.1, iV r3.2]), (21, .agg #[sV k_r, iV 3000]), (22, .slice (some ⟨b2, 0, none⟩) 1 1), (23, .tuple #[iV r3.1, iV r3.2]), (24, iV r3.1), (25, iV r3.2), (27, .agg #[sV k_k, sV k_r, .slice none 0 0, iV 0, iV 9]), (28, (.slice (some ⟨b3, 0, none⟩) 1 1)), (29, .agg (GStep.enc (GStep.mk 0 1 k_i k_a k_empty k_r 0 5)).toArray)] [] rfl (subR rfl)
 obtain ⟨r4, hr5, h⟩ := bindE h
 have hz4 := S.keep.size
 refine l_enter S (fun _ => run_call (vs := [(.slice (some ⟨b3, 0, none⟩) 1 1), .agg (GStep.enc (GStep.mk 0 1 k_i k_a k_empty k_r 0 5)).toArray]) ⟨(S.tm rfl), (S.tm rfl), trivial⟩ Tryz.call33) (record_For_ok _ (.slice (some ⟨b3, 0, none⟩) 1 1) ([(GKind.mk k_k k_r ([] : List ByteArray) 0 9)] : List GKind) ([(R84.mk k_k k_r ⟨.slice none 0 0, rfl⟩ 0 9)] : List R84) (own_slcT R84.enc_ok S (i := 0) rfl (ne_nil (e' := .own (.slice (some ⟨b3, 0, none⟩) 1 1) 84 5 ([(R84.mk k_k k_r ⟨.slice none 0 0, rfl⟩ 0 9)] : List R84).length (([(R84.mk k_k k_r ⟨.slice none 0 0, rfl⟩ 0 9)] : List R84).flatMap R84.enc)))) (rels_84 (S.le_new nil_sub) hr4) (GStep.mk 0 1 k_i k_a k_empty k_r 0 5) _ hr5) rfl ?_; clear S; intro v4 a w7 hv4 hk7 hn4 S
 obtain ⟨u1, rfl, ho1⟩ := hv4
 obtain ⟨φ1, hl1, hm1, S⟩ := S.see' hn4 hz4
 have hs1 := ho1.mono hm1
 refine lv S (rn_move (S.tm rfl)) rfl ?_; clear S; intro a S
 refine lv S (rn_extract (S.tm rfl) rfl) rfl ?_; clear S; intro a S
 refine lv S (rn_extract (S.tm rfl) rfl) rfl ?_; clear S; intro a S
 refine lv S (rn_assign (S.tm rfl)) rfl ?_; clear S; intro a S
 refine lv S (rn_assign (S.tm rfl)) rfl ?_; clear S; intro a S
 refine l_done ?_
 replace S := S.nk [] [(1, iV r1.1), (2, iV r1.2), (3, iV r2.1), (4, iV r2.2), (5, iV r3.1), (6, iV r3.2), (7, u1), (8, iV r4.2)] [false, false] rfl (subR rfl)
 refine then_n (f_seq (f_region (lv S (rn_move (S.tm rfl)) rfl ?_))); clear S; intro a S
 iterate 3 (refine lv S (rn_move (S.tm rfl)) rfl ?_; clear S; intro a S)
 refine l_buildSlice S Tryz.underlying68 Tryz.sizeOf32 Tryz.zeroValue32 rfl rfl (pv := [(0, iV r1.2), (1, iV r2.2), (2, iV r3.2), (3, iV r4.2)]) ⟨rfl, (S.tm rfl), rfl, (S.tm rfl), rfl, (S.tm rfl), rfl, (S.tm rfl), trivial⟩ (cs := [iV r1.2, iV r2.2, iV r3.2, iV r4.2]) (by kernel_rfl) rfl ?_; clear S; intro a w8 b4 hz5 hk8 S
 refine l_enter S (fun _ => run_call (vs := [.slice (some ⟨b4, 0, none⟩) 4 4]) ⟨(S.tm rfl), trivial⟩ Tryz.call10) (tumbkeep2_errs_ok _ (.slice (some ⟨b4, 0, none⟩) 4 4) [r1.2, r2.2, r3.2, r4.2] (lit_slcT enc_int S (i := 0) rfl rfl rfl rfl ((ne_nil (e' := .blk b4 [iV r1.2, iV r2.2, iV r3.2, iV r4.2] 32)) _ rfl)) _ rfl) rfl ?_; clear S; intro v5 a w9 hv5 hk9 hn5 S
 subst hv5
 refine lv S (rn_eql (S.tm rfl) rfl) rfl ?_; clear S; intro a S
 refine lv S (rn_move (S.tm rfl)) rfl ?_; clear S; intro a S
 refine f_cutm 3 (fun a w' => Keep [] w9 w' ∧ Sx w [] φ1 [.blk b4 [iV r1.2, iV r2.2, iV r3.2, iV r4.2] 32] [(3, iV r2.1), (5, iV r3.1), (7, u1), (43, bV ((decide ((tumbkeep2_errs [r1.2, r2.2, r3.2, r4.2]) = 0)) && (decide (r1.1 = 60))))] 57 a w') ?_ ?_
 ·rcases Bool.eq_false_or_eq_true (decide ((tumbkeep2_errs [r1.2, r2.2, r3.2, r4.2]) = 0)) with hb1 | hb1
  ·refine l_want S rfl rfl rfl hb1 (lv S (rn_move (S.tm rfl)) rfl ?_); clear S; intro a S
   refine l_want S rfl rfl rfl hb1 (lv S (rn_eql (S.tm rfl) rfl) rfl ?_); clear S; intro a S
   refine lv S (rn_and_t hb1 (S.tm rfl) (S.tm rfl)) rfl ?_; clear S; intro a S
   refine l_done (then_n ?_)
   exact ⟨Keep.refl _ _, S.nf [true] rfl (subR rfl)⟩
  ·refine l_skip S rfl rfl rfl (neq_f hb1) rfl ?_ rfl; clear S; intro a S
   refine l_skip S rfl rfl rfl (neq_f hb1) rfl ?_ rfl; clear S; intro a S
   refine lv S (rn_and_f (decide (r1.1 = 60)) hb1 (S.tm rfl) rfl) rfl ?_; clear S; intro a S
   refine l_done (then_n ?_)
   exact ⟨Keep.refl _ _, S.nf [true] rfl (subR rfl)⟩
 clear S; rintro a w10 ⟨hk10, S⟩
 refine lv S (rn_move (S.tm rfl)) rfl ?_; clear S; intro a S
 refine f_cutm 3 (fun a w' => Keep [] w10 w' ∧ Sx w [] φ1 [.blk b4 [iV r1.2, iV r2.2, iV r3.2, iV r4.2] 32] [(5, iV r3.1), (7, u1), (47, bV (((decide ((tumbkeep2_errs [r1.2, r2.2, r3.2, r4.2]) = 0)) && (decide (r1.1 = 60))) && (decide (r2.1 = 25))))] 57 a w') ?_ ?_
 ·rcases Bool.eq_false_or_eq_true ((decide ((tumbkeep2_errs [r1.2, r2.2, r3.2, r4.2]) = 0)) && (decide (r1.1 = 60))) with hb2 | hb2
  ·refine l_want S rfl rfl rfl hb2 (lv S (rn_move (S.tm rfl)) rfl ?_); clear S; intro a S
   refine l_want S rfl rfl rfl hb2 (lv S (rn_eql (S.tm rfl) rfl) rfl ?_); clear S; intro a S
   refine lv S (rn_and_t hb2 (S.tm rfl) (S.tm rfl)) rfl ?_; clear S; intro a S
   refine l_done (then_n ?_)
   exact ⟨Keep.refl _ _, S.nf [true] rfl (subR rfl)⟩
  ·refine l_skip S rfl rfl rfl (neq_f hb2) rfl ?_ rfl; clear S; intro a S
   refine l_skip S rfl rfl rfl (neq_f hb2) rfl ?_ rfl; clear S; intro a S
   refine lv S (rn_and_f (decide (r2.1 = 25)) hb2 (S.tm rfl) rfl) rfl ?_; clear S; intro a S
   refine l_done (then_n ?_)
   exact ⟨Keep.refl _ _, S.nf [true] rfl (subR rfl)⟩
 clear S; rintro a w11 ⟨hk11, S⟩
 refine lv S (rn_move (S.tm rfl)) rfl ?_; clear S; intro a S
 refine f_cutm 3 (fun a w' => Keep [] w11 w' ∧ Sx w [] φ1 [.blk b4 [iV r1.2, iV r2.2, iV r3.2, iV r4.2] 32] [(7, u1), (51, bV ((((decide ((tumbkeep2_errs [r1.2, r2.2, r3.2, r4.2]) = 0)) && (decide (r1.1 = 60))) && (decide (r2.1 = 25))) && (decide (r3.1 = 125))))] 57 a w') ?_ ?_
 ·rcases Bool.eq_false_or_eq_true (((decide ((tumbkeep2_errs [r1.2, r2.2, r3.2, r4.2]) = 0)) && (decide (r1.1 = 60))) && (decide (r2.1 = 25))) with hb3 | hb3
  ·refine l_want S rfl rfl rfl hb3 (lv S (rn_move (S.tm rfl)) rfl ?_); clear S; intro a S
   refine l_want S rfl rfl rfl hb3 (lv S (rn_eql (S.tm rfl) rfl) rfl ?_); clear S; intro a S
   refine lv S (rn_and_t hb3 (S.tm rfl) (S.tm rfl)) rfl ?_; clear S; intro a S
   refine l_done (then_n ?_)
   exact ⟨Keep.refl _ _, S.nf [true] rfl (subR rfl)⟩
  ·refine l_skip S rfl rfl rfl (neq_f hb3) rfl ?_ rfl; clear S; intro a S
   refine l_skip S rfl rfl rfl (neq_f hb3) rfl ?_ rfl; clear S; intro a S
   refine lv S (rn_and_f (decide (r3.1 = 125)) hb3 (S.tm rfl) rfl) rfl ?_; clear S; intro a S
   refine l_done (then_n ?_)
   exact ⟨Keep.refl _ _, S.nf [true] rfl (subR rfl)⟩
 clear S; rintro a w12 ⟨hk12, S⟩
 refine lv S (rn_move (S.tm rfl)) rfl ?_; clear S; intro a S
 refine f_cutm 4 (fun a w' => Keep [] w12 w' ∧ Sx w [] φ1 [.blk b4 [iV r1.2, iV r2.2, iV r3.2, iV r4.2] 32] [(56, bV (((((decide ((tumbkeep2_errs [r1.2, r2.2, r3.2, r4.2]) = 0)) && (decide (r1.1 = 60))) && (decide (r2.1 = 25))) && (decide (r3.1 = 125))) && (decide ((r4.1.length : Int) = 1))))] 57 a w') ?_ ?_
 ·rcases Bool.eq_false_or_eq_true ((((decide ((tumbkeep2_errs [r1.2, r2.2, r3.2, r4.2]) = 0)) && (decide (r1.1 = 60))) && (decide (r2.1 = 25))) && (decide (r3.1 = 125))) with hb4 | hb4
  ·refine l_want S rfl rfl rfl hb4 (lv S (rn_move (S.tm rfl)) rfl ?_); clear S; intro a S
   refine l_want S rfl rfl rfl hb4 (lv S (rn_lenT sl_37 (S.tm rfl) (slc_len (ownV_slcT enc_str hs1))) rfl ?_); clear S; intro a S
   refine l_want S rfl rfl rfl hb4 (lv S (rn_eql (S.tm rfl) rfl) rfl ?_); clear S; intro a S
   refine lv S (rn_and_t hb4 (S.tm rfl) (S.tm rfl)) rfl ?_; clear S; intro a S
   refine l_done (then_n ?_)
   exact ⟨Keep.refl _ _, S.nf [true] rfl ⟨rfl, trivial⟩⟩
  ·iterate 3 (refine l_skip S rfl rfl rfl (neq_f hb4) rfl ?_ rfl; clear S; intro a S)
   refine lv S (rn_and_f (decide ((r4.1.length : Int) = 1)) hb4 (S.tm rfl) rfl) rfl ?_; clear S; intro a S
   refine l_done (then_n ?_)
   exact ⟨Keep.refl _ _, S.nf [true] rfl ⟨rfl, trivial⟩⟩
 clear S; rintro a w13 ⟨hk13, S⟩
 refine lv S (rn_assign (S.tm rfl)) rfl ?_; clear S; intro a S
 refine l_done (then_n (wp_ret ?_))
 obtain rfl := Option.some.inj h
 exact f_ret S Tryz.results12 rfl rfl
set_option maxRecDepth 20000 in
theorem tumbkeep2_LeadersCanWin_ok (w : World) (v_p_l : Value) (p_l : List Int) (hs_p_l : Slc (view w []) 1 v_p_l (p_l.map eInt)) (r : Bool) (h : tumbkeep2_LeadersCanWin p_l = some r) :
    Calls Tryz.prog 3 [v_p_l].toArray w (Ret w [] fun _ v _ => v = bV r) := by
 refine f_enter [] [] Tryz.func3 rfl Tryz.ntmps3 rfl (by simp) (by simp [fps]) (by simp [fps]) fun a S => ?_
 unfold tumbkeep2_LeadersCanWin at h
 replace S := S.nk [] [(0, v_p_l)] [] rfl ⟨rfl, trivial⟩
 refine f_seq (f_region (lv S (rn_assign rfl) rfl ?_)); clear S; intro a S
 refine l_done (then_n (f_seq (f_region (lv S (rn_move (S.tm rfl)) rfl ?_)))); clear S; intro a S
 refine lv S (rn_bld bt_25 (pv := [(0, v_p_l)]) ⟨rfl, (S.tm rfl), trivial⟩ (cs := [v_p_l, iV 0]) (by obtain ⟨_, _, hv⟩ := (slc_len hs_p_l); rw [hv]; clear hv; kernel_rfl)) rfl ?_; clear S; intro a S
 refine l_box S (S.tm rfl) (cs := [v_p_l, iV 0]) rfl rfl ?_; clear S; intro a w1 b1 hz1 hk1 S
 refine lv S (rn_assign (S.tm rfl)) rfl ?_; clear S; intro a S
 refine l_done (then_n (f_seq (f_region (lv S (rn_move (S.tm rfl)) rfl ?_)))); clear S; intro a S
 obtain ⟨r1, hr1, h⟩ := bindE h
 have hz2 := S.keep.size
 refine l_enter1 0 S (b := b1) rfl rfl (fun _ => .blk b1 [v_p_l, iV r1.2] 25) (fun _ => run_call (vs := [.pointer (some ⟨b1, 0, none⟩)]) ⟨(S.tm rfl), trivial⟩ Tryz.call4) (Stream_RightTable_ok _ b1 v_p_l p_l (hs_p_l.mono (S.le_arg (fp_sub (i := 0) (e := .blk b1 [v_p_l, iV 0] 25) rfl))) 0 (S.holds _ (List.mem_of_getElem? (i := 0) rfl)) _ hr1) rfl (fun _ _ _ h => ⟨h.1, fun _ hc => by cases hc; rfl⟩) ?_; clear S; intro v1 a w2 hv1 hk2 hn1 S
 replace hv1 := hv1.2
 obtain ⟨q1, rfl, hq1⟩ := hv1
 obtain ⟨φ1, hl1, hm1, S⟩ := S.see' hn1 hz2
 obtain ⟨u2, rfl, hs1⟩ := rel_27_mono hm1 _ _ hq1
 refine lv S (rn_move (S.tm rfl)) rfl ?_; clear S; intro a S
 obtain ⟨r2, hr2, h⟩ := bindE h
 have hz3 := S.keep.size
 refine l_enter1 0 S (b := b1) rfl rfl (fun _ => .blk b1 [v_p_l, iV r2.2] 25) (fun _ => run_call (vs := [.pointer (some ⟨b1, 0, none⟩)]) ⟨(S.tm rfl), trivial⟩ Tryz.call5) (Stream_RightScored_ok _ b1 v_p_l p_l (hs_p_l.mono (S.le_arg (fp_sub (i := 0) (e := .blk b1 [v_p_l, iV r1.2] 25) rfl))) r1.2 (S.holds _ (List.mem_of_getElem? (i := 0) rfl)) _ hr2) rfl (fun _ _ _ h => ⟨h.1, fun _ hc => by cases hc; rfl⟩) ?_; clear S; intro v2 a w3 hv2 hk3 hn2 S
 replace hv2 := hv2.2
 obtain ⟨φ2, hl2, hm2, S⟩ := S.see' hn2 hz3
 have hs2 := hv2.mono hm2
 refine l_alloc S Tryz.zeroValue27 (cs := [.slice none 0 0, iV 0, iV 0]) rfl rfl ?_; clear S; intro a w4 b2 hz4 hk4 S
 refine l_store S (S.tm rfl) (S.tm rfl) (i := 0) (off := 0) rfl Tryz.sizeOf27 (vs := [u2.val, iV r1.1.Relay, iV r1.1.Most]) rfl rfl rfl (all1 (SlcLen.one (slc_len hs1)) (all1 rfl (all1 rfl rfl))) ?_; clear S; intro w5 hk5 S
 refine lv S (rn_assign (S.tm rfl)) rfl ?_; clear S; intro a S
 refine l_done (then_n (f_seq (f_region (lv S (rn_ldA Tryz.isAgg27 Tryz.sizeOf27 (off := 0) (o := 0) (part := [u2.val, iV r1.1.Relay, iV r1.1.Most]) rfl rfl (S.tm rfl) (S.cellsAt (i := 0) rfl)) rfl ?_)))); clear S; intro a S
 refine lv S (rn_move (S.tm rfl)) rfl ?_; clear S; intro a S
 obtain ⟨r3, hr3, h⟩ := bindE h
 have hz5 := S.keep.size
 refine l_enter S (fun _ => run_call (vs := [.agg (R27.enc (R27.mk u2 r1.1.Relay r1.1.Most)).toArray, v2]) ⟨(S.tm rfl), (S.tm rfl), trivial⟩ Tryz.call6) (points_Clubs_ok _ r1.1 (R27.mk u2 r1.1.Relay r1.1.Most) ⟨u2, rfl, (hs1.mono (View.le_trans hl2 (S.le_new nil_sub)))⟩ v2 r2.1 ((ownV_slcT GScored.enc_ok hs2).mono (S.le_new nil_sub)) _ hr3) rfl ?_; clear S; intro v3 a w6 hv3 hk6 hn3 S
 obtain ⟨u4, rfl, ho3⟩ := hv3
 obtain ⟨φ3, hl3, hm3, S⟩ := S.see' hn3 hz5
 have hs3 := ho3.mono hm3
 refine lv S (rn_move (S.tm rfl)) rfl ?_; clear S; intro a S
 refine lv S (rn_extract (S.tm rfl) rfl) rfl ?_; clear S; intro a S
 refine lv S (rn_extract (S.tm rfl) rfl) rfl ?_; clear S; intro a S
 refine lv S (rn_assign (S.tm rfl)) rfl ?_; clear S; intro a S
 refine lv S (rn_assign (S.tm rfl)) rfl ?_; clear S; intro a S
 refine l_done ?_
 replace S := S.nk [.blk b2 [u2.val, iV r1.1.Relay, iV r1.1.Most] 27, .blk b1 [v_p_l, iV r2.2] 25] [(3, .pointer (some ⟨b1, 0, none⟩)), (4, .pointer (some ⟨b2, 0, none⟩)), (5, v2), (6, u4), (7, iV r3.2)] [true, true] rfl (subR rfl)
 refine then_n (f_seq (f_region (lv S (rn_move (S.tm rfl)) rfl ?_))); clear S; intro a S
 obtain ⟨r4, hr4, h⟩ := bindE h
 have hz6 := S.keep.size
 refine l_enter S (fun _ => run_call (vs := [u4]) ⟨(S.tm rfl), trivial⟩ Tryz.call7) (points_Ranks_ok _ u4 r3.1 ((ownV_slcT GGiven.enc_ok hs3).mono (S.le_new nil_sub)) _ hr4) rfl ?_; clear S; intro v4 a w7 hv4 hk7 hn4 S
 obtain ⟨u5, rfl, ho4⟩ := hv4
 obtain ⟨φ4, hl4, hm4, S⟩ := S.see' hn4 hz6
 have hs4 := ho4.mono hm4
 refine lv S (rn_move (S.tm rfl)) rfl ?_; clear S; intro a S
 refine lv S (rn_extract (S.tm rfl) rfl) rfl ?_; clear S; intro a S
 refine lv S (rn_extract (S.tm rfl) rfl) rfl ?_; clear S; intro a S
 refine lv S (rn_assign (S.tm rfl)) rfl ?_; clear S; intro a S
 refine lv S (rn_assign (S.tm rfl)) rfl ?_; clear S; intro a S
 refine l_done (then_n (f_seq ?_))
 obtain ⟨r5, hr5, h⟩ := bindE h
 obtain ⟨r6, hr6, h⟩ := bindE h
 obtain ⟨r7, hr7, h⟩ := bindE h
 obtain ⟨r8, hr8, h⟩ := bindE h
 refine d_region [] ([b1]) Tryz.mixed S rfl (by kernel_rfl) ?_; clear S; intro w12 hk12 hsel S
 refine d_quiet 0 S hsel rfl rfl rfl (by kernel_rfl) (by kernel_rfl) rfl (fun _ hw => (rn_ldA Tryz.isAgg27 Tryz.sizeOf27 (off := 0) (o := 0) (part := [u2.val, iV r1.1.Relay, iV r1.1.Most]) rfl rfl (S.tm rfl) ((S.blk_mem (i := 0) (cells := [u2.val, iV r1.1.Relay, iV r1.1.Most]) (b := b2) (T := 27) rfl (ne_fp (i := 1) (j := 0) (e := .blk b1 [v_p_l, iV r2.2] 25) (e' := .blk b2 [u2.val, iV r1.1.Relay, iV r1.1.Most] 27) S rfl rfl rfl)).kept hw))) ?_; clear S; intro a S
 refine d_quiet 1 S hsel rfl rfl rfl (by kernel_rfl) (by kernel_rfl) rfl (fun _ hw => (rn_move (S.tm rfl))) ?_; clear S; intro a S
 refine d_quiet 2 S hsel rfl rfl rfl (by kernel_rfl) (by kernel_rfl) rfl (fun _ hw => (rn_move (S.tm rfl))) ?_; clear S; intro a S
 refine d_quiet 4 S hsel rfl rfl rfl (by kernel_rfl) (by kernel_rfl) rfl (fun _ hw => (rn_move (S.tm rfl))) ?_; clear S; intro a S
 refine d_quiet 6 S hsel rfl rfl rfl (by kernel_rfl) (by kernel_rfl) rfl (fun _ hw => (rn_move (S.tm rfl))) ?_; clear S; intro a S
 refine d_loud1 3 (by kernel_rfl) rfl ?_
 refine l_enter1 1 S (b := b1) rfl rfl (fun _ => .blk b1 [v_p_l, iV r5.2] 25) (fun _ => run_call (vs := [.pointer (some ⟨b1, 0, none⟩), iV 0, iV 3]) ⟨(S.tm rfl), rfl, rfl, trivial⟩ Tryz.call9) (Stream_Range_ok _ b1 v_p_l p_l (hs_p_l.mono (S.le_arg (fp_sub (i := 1) (e := .blk b1 [v_p_l, iV r2.2] 25) rfl))) r2.2 (S.holds _ (List.mem_of_getElem? (i := 1) rfl)) 0 3 _ hr5) rfl (fun _ _ _ h => ⟨h.1, fun _ hc => by cases hc; rfl⟩) ?_; clear S; intro v9 a w13 hv9 hk13 hn9 S
 replace hv9 := hv9.2
 subst hv9
 refine l_done (d_next hk13 (d_loud1 5 (by kernel_rfl) rfl ?_))
 refine l_enter1 1 S (b := b1) rfl rfl (fun _ => .blk b1 [v_p_l, iV r6.2] 25) (fun _ => run_call (vs := [.pointer (some ⟨b1, 0, none⟩), iV 0, iV 3]) ⟨(S.tm rfl), rfl, rfl, trivial⟩ Tryz.call9) (Stream_Range_ok _ b1 v_p_l p_l (hs_p_l.mono (S.le_arg (fp_sub (i := 1) (e := .blk b1 [v_p_l, iV r5.2] 25) rfl))) r5.2 (S.holds _ (List.mem_of_getElem? (i := 1) rfl)) 0 3 _ hr6) rfl (fun _ _ _ h => ⟨h.1, fun _ hc => by cases hc; rfl⟩) ?_; clear S; intro v10 a w14 hv10 hk14 hn10 S
 replace hv10 := hv10.2
 subst hv10
 refine l_done (d_next hk14 (d_loud1 7 (by kernel_rfl) rfl ?_))
 refine l_enter1 1 S (b := b1) rfl rfl (fun _ => .blk b1 [v_p_l, iV r7.2] 25) (fun _ => run_call (vs := [.pointer (some ⟨b1, 0, none⟩), iV 0, iV 3]) ⟨(S.tm rfl), rfl, rfl, trivial⟩ Tryz.call9) (Stream_Range_ok _ b1 v_p_l p_l (hs_p_l.mono (S.le_arg (fp_sub (i := 1) (e := .blk b1 [v_p_l, iV r6.2] 25) rfl))) r6.2 (S.holds _ (List.mem_of_getElem? (i := 1) rfl)) 0 3 _ hr7) rfl (fun _ _ _ h => ⟨h.1, fun _ hc => by cases hc; rfl⟩) ?_; clear S; intro v11 a w15 hv11 hk15 hn11 S
 replace hv11 := hv11.2
 subst hv11
 refine l_done (d_next hk15 (d_loud1 8 (by kernel_rfl) rfl ?_))
 have hz8 := S.keep.size
 refine l_enter S (fun _ => run_call (vs := [.agg (R27.enc (R27.mk u2 r1.1.Relay r1.1.Most)).toArray, v2, iV r5.1, iV r6.1, iV r7.1]) ⟨(S.tm rfl), (S.tm rfl), (S.tm rfl), (S.tm rfl), (S.tm rfl), trivial⟩ Tryz.call8) (points_CanWin_ok _ r1.1 (R27.mk u2 r1.1.Relay r1.1.Most) ⟨u2, rfl, (hs1.mono (View.le_trans (View.le_trans (View.le_trans hl2 hl3) hl4) (S.le_new nil_sub)))⟩ v2 r2.1 ((ownV_slcT GScored.enc_ok hs2).mono (View.le_trans (View.le_trans hl3 hl4) (S.le_new nil_sub))) r5.1 r6.1 r7.1 _ hr8) rfl ?_; clear S; intro v12 a w16 hv12 hk16 hn12 S
 obtain ⟨u7, rfl, ho6⟩ := hv12
 obtain ⟨φ6, hl6, hm6, S⟩ := S.see' hn12 hz8
 have hs6 := ho6.mono hm6
 refine l_done (d_next (Keep.none hk16) (d_rest [9, 10, 11, 12, 13] hsel (by kernel_rfl) rfl ?_))
 clear hsel
 refine s_lv S rfl (rn_move (S.tm rfl)) rfl ?_; clear S; intro a S
 refine s_lv S rfl (rn_extract (S.tm rfl) rfl) rfl ?_; clear S; intro a S
 refine s_lv S rfl (rn_extract (S.tm rfl) rfl) rfl ?_; clear S; intro a S
 refine s_lv S rfl (rn_assign (S.tm rfl)) rfl ?_; clear S; intro a S
 refine s_lv S rfl (rn_assign (S.tm rfl)) rfl ?_; clear S; intro a S
 refine s_done ?_
 replace S := S.nk [.blk b2 [u2.val, iV r1.1.Relay, iV r1.1.Most] 27] [(4, .pointer (some ⟨b2, 0, none⟩)), (5, v2), (6, u4), (7, iV r3.2), (8, u5), (9, iV r4.2), (10, u7), (11, iV r8.2)] [true, false] rfl (subR rfl)
 refine then_n (f_seq (f_region (lv S (rn_ldA Tryz.isAgg27 Tryz.sizeOf27 (off := 0) (o := 0) (part := [u2.val, iV r1.1.Relay, iV r1.1.Most]) rfl rfl (S.tm rfl) (S.cellsAt (i := 0) rfl)) rfl ?_))); clear S; intro a S
 refine lv S (rn_move (S.tm rfl)) rfl ?_; clear S; intro a S
 obtain ⟨r9, hr9, h⟩ := bindE h
 have hz9 := S.keep.size
 refine l_enter S (fun _ => run_call (vs := [.agg (R27.enc (R27.mk u2 r1.1.Relay r1.1.Most)).toArray, v2, iV 0, iV 0, iV 0]) ⟨(S.tm rfl), (S.tm rfl), rfl, rfl, rfl, trivial⟩ Tryz.call8) (points_CanWin_ok _ r1.1 (R27.mk u2 r1.1.Relay r1.1.Most) ⟨u2, rfl, (hs1.mono (View.le_trans (View.le_trans (View.le_trans (View.le_trans hl2 hl3) hl4) hl6) (S.le_new nil_sub)))⟩ v2 r2.1 ((ownV_slcT GScored.enc_ok hs2).mono (View.le_trans (View.le_trans (View.le_trans hl3 hl4) hl6) (S.le_new nil_sub))) 0 0 0 _ hr9) rfl ?_; clear S; intro v13 a w17 hv13 hk17 hn13 S
 obtain ⟨u8, rfl, ho7⟩ := hv13
 obtain ⟨φ7, hl7, hm7, S⟩ := S.see' hn13 hz9
 have hs7 := ho7.mono hm7
 refine lv S (rn_move (S.tm rfl)) rfl ?_; clear S; intro a S
 refine lv S (rn_extract (S.tm rfl) rfl) rfl ?_; clear S; intro a S
 refine lv S (rn_extract (S.tm rfl) rfl) rfl ?_; clear S; intro a S
 refine lv S (rn_assign (S.tm rfl)) rfl ?_; clear S; intro a S
 refine lv S (rn_assign (S.tm rfl)) rfl ?_; clear S; intro a S
 refine l_done ?_
 replace S := S.nk [] [(6, u4), (7, iV r3.2), (8, u5), (9, iV r4.2), (10, u7), (11, iV r8.2), (12, u8), (13, iV r9.2)] [false] rfl (subR rfl)
 refine then_n (f_seq (f_seq (f_region (lv S (rn_move (S.tm rfl)) rfl ?_)))); clear S; intro a S
 iterate 3 (refine lv S (rn_move (S.tm rfl)) rfl ?_; clear S; intro a S)
 refine l_buildSlice S Tryz.underlying68 Tryz.sizeOf32 Tryz.zeroValue32 rfl rfl (pv := [(0, iV r3.2), (1, iV r4.2), (2, iV r8.2), (3, iV r9.2)]) ⟨rfl, (S.tm rfl), rfl, (S.tm rfl), rfl, (S.tm rfl), rfl, (S.tm rfl), trivial⟩ (cs := [iV r3.2, iV r4.2, iV r8.2, iV r9.2]) (by kernel_rfl) rfl ?_; clear S; intro a w18 b3 hz10 hk18 S
 refine l_enter S (fun _ => run_call (vs := [.slice (some ⟨b3, 0, none⟩) 4 4]) ⟨(S.tm rfl), trivial⟩ Tryz.call10) (tumbkeep2_errs_ok _ (.slice (some ⟨b3, 0, none⟩) 4 4) [r3.2, r4.2, r8.2, r9.2] (lit_slcT enc_int S (i := 0) rfl rfl rfl rfl ((ne_nil (e' := .blk b3 [iV r3.2, iV r4.2, iV r8.2, iV r9.2] 32)) _ rfl)) _ rfl) rfl ?_; clear S; intro v14 a w19 hv14 hk19 hn14 S
 subst hv14
 refine lv S (rn_neq (S.tm rfl) rfl) rfl ?_; clear S; intro a S
 refine lv S (rn_move (S.tm rfl)) rfl ?_; clear S; intro a S
 refine f_cutm 6 (fun a w' => Keep [] w19 w' ∧ Sx w [] φ7 [.blk b3 [iV r3.2, iV r4.2, iV r8.2, iV r9.2] 32] [(6, u4), (8, u5), (10, u7), (12, u8), (65, bV ((!decide ((tumbkeep2_errs [r3.2, r4.2, r8.2, r9.2]) = 0)) || (!decide ((r4.1.length : Int) = (r3.1.length : Int)))))] 99 a w') ?_ ?_
 ·rcases Bool.eq_false_or_eq_true (!decide ((tumbkeep2_errs [r3.2, r4.2, r8.2, r9.2]) = 0)) with hb1 | hb1
  ·iterate 5 (refine l_skip S rfl rfl rfl (neq_t hb1) rfl ?_ rfl; clear S; intro a S)
   refine lv S (rn_or_t (!decide ((r4.1.length : Int) = (r3.1.length : Int))) hb1 (S.tm rfl) rfl) rfl ?_; clear S; intro a S
   refine l_done (then_n ?_)
   exact ⟨Keep.refl _ _, S.nf [true] rfl (subR rfl)⟩
  ·refine l_want S rfl rfl rfl hb1 (lv S (rn_move (S.tm rfl)) rfl ?_); clear S; intro a S
   refine l_want S rfl rfl rfl hb1 (lv S (rn_lenT sl_22 (S.tm rfl) (slc_len (ownV_slcT enc_int hs4))) rfl ?_); clear S; intro a S
   refine l_want S rfl rfl rfl hb1 (lv S (rn_move (S.tm rfl)) rfl ?_); clear S; intro a S
   refine l_want S rfl rfl rfl hb1 (lv S (rn_lenT sl_31 (S.tm rfl) (slc_len (ownV_slcT GGiven.enc_ok hs3))) rfl ?_); clear S; intro a S
   refine l_want S rfl rfl rfl hb1 (lv S (rn_neq (S.tm rfl) (S.tm rfl)) rfl ?_); clear S; intro a S
   refine lv S (rn_or_f hb1 (S.tm rfl) (S.tm rfl)) rfl ?_; clear S; intro a S
   refine l_done (then_n ?_)
   exact ⟨Keep.refl _ _, S.nf [true] rfl (subR rfl)⟩
 clear S; rintro a w20 ⟨hk20, S⟩
 refine l_done (then_n (f_cond (S.tm rfl) (fun hb2 => ?_) (fun hb2 => ?_)))
 ·replace h := iteT h hb2
  refine f_seq (f_region (lv S (rn_assign rfl) rfl ?_)); clear S; intro a S
  refine l_done (then_n (wp_ret (then_r ?_)))
  obtain rfl := Option.some.inj h
  exact f_ret S Tryz.results3 rfl rfl
 ·replace h := iteF h hb2
  refine wp_skip (then_n (f_seq (f_seq (f_region (lv S (rn_move (S.tm rfl)) rfl ?_))))); clear S; intro a S
  refine lv S (rn_lenT sl_31 (S.tm rfl) (slc_len (ownV_slcT GGiven.enc_ok hs3))) rfl ?_; clear S; intro a S
  refine lv S (rn_move rfl) rfl ?_; clear S; intro a S
  refine l_done (then_n ?_)
  replace S := S.nk [] [(8, u5), (10, u7), (12, u8), (66, u4), (67, iV (r3.1.length : Int)), (68, iV 0)] [false] rfl (subR rfl)
  obtain ⟨j1, hj1, h⟩ := joinE h
  refine f_join (fun a w' => j1 = some r ∧ Sx w [] φ7 [] [] 99 a w') ?_ ?_
  ·refine wp_block (f_loop (fun (ys1 : List GGiven) a w' => ∃ i1 : Nat, (∃ dn, r3.1 = dn ++ ys1 ∧ dn.length = i1) ∧ tumbkeep2_LeadersCanWin_l1 r4 r9 r8 j1 ys1 i1 = some r ∧ Sx w [] φ7 [] [(8, u5), (10, u7), (12, u8), (66, u4), (67, iV (r3.1.length : Int)), (68, iV (i1 : Int))] 99 a w') List.length r3.1 ⟨0, ⟨[], rfl, rfl⟩, h, S.nf [] rfl (subR rfl)⟩ ?_)
   clear S h; rintro ys1 a w21 ⟨i1, ⟨dn, hd1, hi1⟩, h, S⟩
   cases ys1 with
   | nil =>
    rw [tumbkeep2_LeadersCanWin_l1.eq_1] at h
    refine f_seq (f_region (lv S (rn_lss (S.tm rfl) (S.tm rfl)) rfl ?_)); clear S; intro a S
    refine l_done ?_
    replace S := S.nk [] [(8, u5), (10, u7), (12, u8), (66, u4), (67, iV (r3.1.length : Int)), (68, iV (i1 : Int)), (69, bV (decide ((i1 : Int) < (r3.1.length : Int))))] [] rfl (subR rfl)
    refine then_n (f_seq (wp_cond_false ((S.tm rfl).trans (congrArg Value.bool (rng_nil hd1 hi1))) (wp_exit (then_x (then_x (x_same ?_))))))
    refine then_n ?_
    exact ⟨h, S.nf [] rfl trivial⟩
   | cons y1 ys1 =>
    rw [tumbkeep2_LeadersCanWin_l1.eq_2] at h
    refine f_seq (f_region (lv S (rn_lss (S.tm rfl) (S.tm rfl)) rfl ?_)); clear S; intro a S
    refine l_done ?_
    replace S := S.nk [] [(8, u5), (10, u7), (12, u8), (66, u4), (67, iV (r3.1.length : Int)), (68, iV (i1 : Int)), (69, bV (decide ((i1 : Int) < (r3.1.length : Int))))] [] rfl (subR rfl)
    refine then_n (f_seq (wp_cond_true ((S.tm rfl).trans (congrArg Value.bool (rng_cons hd1 hi1))) (wp_skip (then_n (f_seq (wp_block ?_))))))
    refine f_seq (f_region (lv S (rn_move (S.tm rfl)) rfl ?_)); clear S; intro a S
    obtain ⟨b4, o1, hm8, hr10⟩ := rn_indexT (a := a) (x := .tmp 66) (y := .tmp 68) (ty := 0) sl_31 (ownV_slcT GGiven.enc_ok hs3) (get_mid hd1 hi1) rfl (S.tm rfl) (S.tm rfl)
    refine lv S (hr10 _) rfl ?_; clear S; intro a S
    clear hr10
    refine lv S (rn_ldA Tryz.isAgg45 Tryz.sizeOf45 (off := o1) (o := 0) (part := (GGiven.enc y1)) rfl rfl (S.tm rfl) ((hm8.mono (View.le_trans (View.le_trans hl4 hl6) hl7)).at S.emb)) rfl ?_; clear S; intro a S
    refine l_alloc S Tryz.zeroValue45 (cs := [sV k_empty, iV 0, iV 0]) rfl rfl ?_; clear S; intro a w23 b5 hz11 hk21 S
    refine lv S (rn_assign (S.tm rfl)) rfl ?_; clear S; intro a S
    refine l_store S (S.tm rfl) (S.tm rfl) (i := 0) (off := 0) rfl Tryz.sizeOf45 (vs := (GGiven.enc y1)) rfl rfl rfl rfl ?_; clear S; intro w24 hk22 S
    refine l_done (then_n (f_seq ?_))
    obtain ⟨j2, hj2, h⟩ := joinE h
    refine f_join (fun a w' => ∃ x1 : Bool, j2 x1 = some r ∧ Sx w [] φ7 [] [(8, u5), (10, u7), (12, u8), (66, u4), (67, iV (r3.1.length : Int)), (68, iV (i1 : Int)), (96, bV x1)] 99 a w') ?_ ?_
    ·obtain ⟨hc1, h⟩ := chkE h
     rcases Bool.eq_false_or_eq_true (!decide ((decide ((nth r4.1 (i1 : Int)) = 1)) = (slices_Contains_string r9.1 y1.Key))) with hb3 | hb3
     ·replace h := iteT h hb3
      refine d_region [] ([]) Tryz.mixed S rfl (by kernel_rfl) ?_; clear S; intro w28 hk25 hsel S
      refine d_quiet 0 S hsel rfl rfl rfl (by kernel_rfl) (by kernel_rfl) rfl (fun _ hw => (rn_move (S.tm rfl))) ?_; clear S; intro a S
      refine d_quiet 1 S hsel rfl rfl rfl (by kernel_rfl) (by kernel_rfl) rfl (fun _ hw => (rn_move (S.tm rfl))) ?_; clear S; intro a S
      obtain ⟨b8, o4, hm11, hr13⟩ := rn_indexT (a := a) (x := .tmp 73) (y := .tmp 74) (ty := 0) sl_22 ((ownV_slcT enc_int hs4).mono (View.le_trans (View.le_trans hl6 hl7) (S.le_new nil_sub))) (inB_get hc1).1 (inB_get hc1).2 (S.tm rfl) (S.tm rfl)
      refine d_quiet 2 S hsel rfl rfl rfl (by kernel_rfl) (by kernel_rfl) rfl (fun _ hw => hr13 _) ?_; clear S; intro a S
      clear hr13
      refine d_quiet 3 S hsel rfl rfl rfl (by kernel_rfl) (by kernel_rfl) rfl (fun _ hw => (rn_ld Tryz.isAgg3 (off := o4) (o := 0) (S.tm rfl) (hm11.kept hw) rfl)) ?_; clear S; intro a S
      refine d_quiet 4 S hsel rfl rfl rfl (by kernel_rfl) (by kernel_rfl) rfl (fun _ hw => (rn_eql (S.tm rfl) rfl)) ?_; clear S; intro a S
      refine d_quiet 5 S hsel rfl rfl rfl (by kernel_rfl) (by kernel_rfl) rfl (fun _ hw => (rn_move (S.tm rfl))) ?_; clear S; intro a S
      refine d_quiet 6 S hsel rfl rfl rfl (by kernel_rfl) (by kernel_rfl) rfl (fun _ hw => (rn_fld fa_45_0 (S.tm rfl))) ?_; clear S; intro a S
      refine d_quiet 7 S hsel rfl rfl rfl (by kernel_rfl) (by kernel_rfl) rfl (fun _ hw => (rn_ld Tryz.isAgg9 (off := 0) (o := 0) (S.tm rfl) ((S.blk_mem (i := 0) (cells := (GGiven.enc y1)) (b := b5) (T := 45) rfl (ne_nil (e' := .blk b5 (GGiven.enc y1) 45))).kept hw) rfl)) ?_; clear S; intro a S
      refine d_loud1 8 (by kernel_rfl) rfl (l_enter S (fun _ => run_call (vs := [u8, sV y1.Key]) ⟨(S.tm rfl), (S.tm rfl), trivial⟩ Tryz.call11) (slices_Contains_string_ok _ u8 r9.1 ((ownV_slcT enc_str hs7).mono (S.le_new nil_sub)) y1.Key _ rfl) rfl ?_); clear S; intro v17 a w29 hv17 hk26 hn17 S
      subst hv17
      refine l_done (d_next hk26 (d_quiet 9 S hsel rfl rfl rfl (by kernel_rfl) (by kernel_rfl) rfl (fun _ hw => (rn_bneq Tryz.underlying4 (S.tm rfl) (S.tm rfl))) ?_)); clear S; intro a S
      refine d_quiet 10 S hsel rfl rfl rfl (by kernel_rfl) (by kernel_rfl) rfl (fun _ hw => (rn_move (S.tm rfl))) ?_; clear S; intro a S
      refine d_skip 11 S hsel rfl rfl rfl rfl (neq_t hb3) rfl (by kernel_rfl) (by kernel_rfl) rfl ?_; clear S; intro a S
      refine d_skip 12 S hsel rfl rfl rfl rfl (neq_t hb3) rfl (by kernel_rfl) (by kernel_rfl) rfl ?_; clear S; intro a S
      refine d_skip 13 S hsel rfl rfl rfl rfl (neq_t hb3) rfl (by kernel_rfl) (by kernel_rfl) rfl ?_; clear S; intro a S
      refine d_skip 14 S hsel rfl rfl rfl rfl (neq_t hb3) rfl (by kernel_rfl) (by kernel_rfl) rfl ?_; clear S; intro a S
      refine d_skip 15 S hsel rfl rfl rfl rfl (neq_t hb3) rfl (by kernel_rfl) (by kernel_rfl) rfl ?_; clear S; intro a S
      refine d_skip 16 S hsel rfl rfl rfl rfl (neq_t hb3) rfl (by kernel_rfl) (by kernel_rfl) rfl ?_; clear S; intro a S
      refine d_rest [17, 18, 19, 20, 21, 22, 23] hsel (by kernel_rfl) rfl ?_
      clear hsel
      iterate 5 (refine s_skipU S rfl rfl rfl rfl rfl ?_; clear S; intro a S)
      refine s_skip S rfl rfl rfl rfl (neq_t hb3) rfl ?_ rfl; clear S; intro a S
      refine s_lv S rfl (rn_pick_b hb3 (S.tm rfl) rfl) rfl ?_; clear S; intro a S
      refine s_done ?_
      replace S := S.nk [] [(8, u5), (10, u7), (12, u8), (66, u4), (67, iV (r3.1.length : Int)), (68, iV (i1 : Int)), (96, bV true)] [false] rfl (subR rfl)
      refine then_n ?_
      exact ⟨true, h, S.nf [] rfl (subR rfl)⟩
     ·replace h := iteF h hb3
      obtain ⟨hc2, h⟩ := chkE h
      rcases Bool.eq_false_or_eq_true (decide ((nth r4.1 (i1 : Int)) = 1)) with hb4 | hb4
      ·replace h := iteT h hb4
       refine d_region [] ([]) Tryz.mixed S rfl (by kernel_rfl) ?_; clear S; intro w33 hk30 hsel S
       refine d_quiet 0 S hsel rfl rfl rfl (by kernel_rfl) (by kernel_rfl) rfl (fun _ hw => (rn_move (S.tm rfl))) ?_; clear S; intro a S
       refine d_quiet 1 S hsel rfl rfl rfl (by kernel_rfl) (by kernel_rfl) rfl (fun _ hw => (rn_move (S.tm rfl))) ?_; clear S; intro a S
       obtain ⟨b13, o9, hm16, hr18⟩ := rn_indexT (a := a) (x := .tmp 73) (y := .tmp 74) (ty := 0) sl_22 ((ownV_slcT enc_int hs4).mono (View.le_trans (View.le_trans hl6 hl7) (S.le_new nil_sub))) (inB_get hc1).1 (inB_get hc1).2 (S.tm rfl) (S.tm rfl)
       refine d_quiet 2 S hsel rfl rfl rfl (by kernel_rfl) (by kernel_rfl) rfl (fun _ hw => hr18 _) ?_; clear S; intro a S
       clear hr18
       refine d_quiet 3 S hsel rfl rfl rfl (by kernel_rfl) (by kernel_rfl) rfl (fun _ hw => (rn_ld Tryz.isAgg3 (off := o9) (o := 0) (S.tm rfl) (hm16.kept hw) rfl)) ?_; clear S; intro a S
       refine d_quiet 4 S hsel rfl rfl rfl (by kernel_rfl) (by kernel_rfl) rfl (fun _ hw => (rn_eql (S.tm rfl) rfl)) ?_; clear S; intro a S
       refine d_quiet 5 S hsel rfl rfl rfl (by kernel_rfl) (by kernel_rfl) rfl (fun _ hw => (rn_move (S.tm rfl))) ?_; clear S; intro a S
       refine d_quiet 6 S hsel rfl rfl rfl (by kernel_rfl) (by kernel_rfl) rfl (fun _ hw => (rn_fld fa_45_0 (S.tm rfl))) ?_; clear S; intro a S
       refine d_quiet 7 S hsel rfl rfl rfl (by kernel_rfl) (by kernel_rfl) rfl (fun _ hw => (rn_ld Tryz.isAgg9 (off := 0) (o := 0) (S.tm rfl) ((S.blk_mem (i := 0) (cells := (GGiven.enc y1)) (b := b5) (T := 45) rfl (ne_nil (e' := .blk b5 (GGiven.enc y1) 45))).kept hw) rfl)) ?_; clear S; intro a S
       refine d_loud1 8 (by kernel_rfl) rfl (l_enter S (fun _ => run_call (vs := [u8, sV y1.Key]) ⟨(S.tm rfl), (S.tm rfl), trivial⟩ Tryz.call11) (slices_Contains_string_ok _ u8 r9.1 ((ownV_slcT enc_str hs7).mono (S.le_new nil_sub)) y1.Key _ rfl) rfl ?_); clear S; intro v21 a w34 hv21 hk31 hn21 S
       subst hv21
       refine l_done (d_next hk31 (d_quiet 9 S hsel rfl rfl rfl (by kernel_rfl) (by kernel_rfl) rfl (fun _ hw => (rn_bneq Tryz.underlying4 (S.tm rfl) (S.tm rfl))) ?_)); clear S; intro a S
       refine d_quiet 10 S hsel rfl rfl rfl (by kernel_rfl) (by kernel_rfl) rfl (fun _ hw => (rn_move (S.tm rfl))) ?_; clear S; intro a S
       refine d_quiet_g 11 S hsel rfl rfl rfl rfl hb3 rfl rfl (by kernel_rfl) (by kernel_rfl) rfl (fun _ hw => (rn_move (S.tm rfl))) ?_; clear S; intro a S
       refine d_quiet_g 12 S hsel rfl rfl rfl rfl hb3 rfl rfl (by kernel_rfl) (by kernel_rfl) rfl (fun _ hw => (rn_move (S.tm rfl))) ?_; clear S; intro a S
       obtain ⟨b14, o10, hm17, hr19⟩ := rn_indexT (a := a) (x := .tmp 84) (y := .tmp 85) (ty := 0) sl_22 ((ownV_slcT enc_int hs4).mono (View.le_trans (View.le_trans hl6 hl7) (S.le_new nil_sub))) (inB_get hc2).1 (inB_get hc2).2 (S.tm rfl) (S.tm rfl)
       refine d_quiet_g 13 S hsel rfl rfl rfl rfl hb3 rfl rfl (by kernel_rfl) (by kernel_rfl) rfl (fun _ hw => hr19 _) ?_; clear S; intro a S
       clear hr19
       refine d_quiet_g 14 S hsel rfl rfl rfl rfl hb3 rfl rfl (by kernel_rfl) (by kernel_rfl) rfl (fun _ hw => (rn_ld Tryz.isAgg3 (off := o10) (o := 0) (S.tm rfl) (hm17.kept hw) rfl)) ?_; clear S; intro a S
       refine d_quiet_g 15 S hsel rfl rfl rfl rfl hb3 rfl rfl (by kernel_rfl) (by kernel_rfl) rfl (fun _ hw => (rn_eql (S.tm rfl) rfl)) ?_; clear S; intro a S
       refine d_quiet_g 16 S hsel rfl rfl rfl rfl hb3 rfl rfl (by kernel_rfl) (by kernel_rfl) rfl (fun _ hw => (rn_move (S.tm rfl))) ?_; clear S; intro a S
       refine d_quiet_g 17 S hsel rfl rfl rfl rfl hb4 rfl rfl (by kernel_rfl) (by kernel_rfl) rfl (fun _ hw => (rn_move (S.tm rfl))) ?_; clear S; intro a S
       refine d_quiet_g 18 S hsel rfl rfl rfl rfl hb4 rfl rfl (by kernel_rfl) (by kernel_rfl) rfl (fun _ hw => (rn_fld fa_45_0 (S.tm rfl))) ?_; clear S; intro a S
       refine d_quiet_g 19 S hsel rfl rfl rfl rfl hb4 rfl rfl (by kernel_rfl) (by kernel_rfl) rfl (fun _ hw => (rn_ld Tryz.isAgg9 (off := 0) (o := 0) (S.tm rfl) ((S.blk_mem (i := 0) (cells := (GGiven.enc y1)) (b := b5) (T := 45) rfl (ne_nil (e' := .blk b5 (GGiven.enc y1) 45))).kept hw) rfl)) ?_; clear S; intro a S
       refine d_loud1 20 (by kernel_rfl) rfl (l_want S rfl rfl rfl hb4 (l_enter S (fun _ => run_call (vs := [u7, sV y1.Key]) ⟨(S.tm rfl), (S.tm rfl), trivial⟩ Tryz.call11) (slices_Contains_string_ok _ u7 r8.1 ((ownV_slcT enc_str hs6).mono (View.le_trans hl7 (S.le_new nil_sub))) y1.Key _ rfl) rfl ?_)); clear S; intro v22 a w35 hv22 hk32 hn22 S
       subst hv22
       refine l_done (d_next hk32 (d_rest [21, 22, 23] hsel (by kernel_rfl) rfl ?_))
       clear hsel
       refine s_want S rfl rfl rfl rfl hb4 (s_lv0 S (rn_not (S.tm rfl)) rfl ?_); clear S; intro a S
       refine s_want S rfl rfl rfl rfl hb3 (s_lv0 S (rn_pick_b hb4 (S.tm rfl) (S.tm rfl)) rfl ?_); clear S; intro a S
       refine s_lv S rfl (rn_pick_c hb3 (S.tm rfl) (S.tm rfl)) rfl ?_; clear S; intro a S
       refine s_done ?_
       replace S := S.nk [.blk b5 (GGiven.enc y1) 45] [(8, u5), (10, u7), (12, u8), (66, u4), (67, iV (r3.1.length : Int)), (68, iV (i1 : Int)), (84, u5), (85, iV (i1 : Int)), (86, .pointer (some ⟨b14, o10, none⟩)), (87, iV (nth r4.1 (i1 : Int))), (88, bV (decide ((nth r4.1 (i1 : Int)) = 1))), (89, bV (decide ((nth r4.1 (i1 : Int)) = 1))), (90, u7), (91, .pointer (some ⟨b5, 0, none⟩)), (92, sV y1.Key), (93, bV (slices_Contains_string r8.1 y1.Key)), (94, bV (!(slices_Contains_string r8.1 y1.Key))), (95, bV (!(slices_Contains_string r8.1 y1.Key))), (96, bV (!(slices_Contains_string r8.1 y1.Key)))] [true] rfl (subR rfl)
       refine then_n ?_
       exact ⟨!(slices_Contains_string r8.1 y1.Key), h, S.nf [false] rfl (subR rfl)⟩
      ·replace h := iteF h hb4
       refine d_region [] ([]) Tryz.mixed S rfl (by kernel_rfl) ?_; clear S; intro w37 hk34 hsel S
       refine d_quiet 0 S hsel rfl rfl rfl (by kernel_rfl) (by kernel_rfl) rfl (fun _ hw => (rn_move (S.tm rfl))) ?_; clear S; intro a S
       refine d_quiet 1 S hsel rfl rfl rfl (by kernel_rfl) (by kernel_rfl) rfl (fun _ hw => (rn_move (S.tm rfl))) ?_; clear S; intro a S
       obtain ⟨b16, o12, hm19, hr21⟩ := rn_indexT (a := a) (x := .tmp 73) (y := .tmp 74) (ty := 0) sl_22 ((ownV_slcT enc_int hs4).mono (View.le_trans (View.le_trans hl6 hl7) (S.le_new nil_sub))) (inB_get hc1).1 (inB_get hc1).2 (S.tm rfl) (S.tm rfl)
       refine d_quiet 2 S hsel rfl rfl rfl (by kernel_rfl) (by kernel_rfl) rfl (fun _ hw => hr21 _) ?_; clear S; intro a S
       clear hr21
       refine d_quiet 3 S hsel rfl rfl rfl (by kernel_rfl) (by kernel_rfl) rfl (fun _ hw => (rn_ld Tryz.isAgg3 (off := o12) (o := 0) (S.tm rfl) (hm19.kept hw) rfl)) ?_; clear S; intro a S
       refine d_quiet 4 S hsel rfl rfl rfl (by kernel_rfl) (by kernel_rfl) rfl (fun _ hw => (rn_eql (S.tm rfl) rfl)) ?_; clear S; intro a S
       refine d_quiet 5 S hsel rfl rfl rfl (by kernel_rfl) (by kernel_rfl) rfl (fun _ hw => (rn_move (S.tm rfl))) ?_; clear S; intro a S
       refine d_quiet 6 S hsel rfl rfl rfl (by kernel_rfl) (by kernel_rfl) rfl (fun _ hw => (rn_fld fa_45_0 (S.tm rfl))) ?_; clear S; intro a S
       refine d_quiet 7 S hsel rfl rfl rfl (by kernel_rfl) (by kernel_rfl) rfl (fun _ hw => (rn_ld Tryz.isAgg9 (off := 0) (o := 0) (S.tm rfl) ((S.blk_mem (i := 0) (cells := (GGiven.enc y1)) (b := b5) (T := 45) rfl (ne_nil (e' := .blk b5 (GGiven.enc y1) 45))).kept hw) rfl)) ?_; clear S; intro a S
       refine d_loud1 8 (by kernel_rfl) rfl (l_enter S (fun _ => run_call (vs := [u8, sV y1.Key]) ⟨(S.tm rfl), (S.tm rfl), trivial⟩ Tryz.call11) (slices_Contains_string_ok _ u8 r9.1 ((ownV_slcT enc_str hs7).mono (S.le_new nil_sub)) y1.Key _ rfl) rfl ?_); clear S; intro v24 a w38 hv24 hk35 hn24 S
       subst hv24
       refine l_done (d_next hk35 (d_rest [9, 10, 11, 12, 13, 14, 15, 16, 17, 18, 19, 20, 21, 22, 23] hsel (by kernel_rfl) rfl ?_))
       clear hsel
       refine s_lv S rfl (rn_bneq Tryz.underlying4 (S.tm rfl) (S.tm rfl)) rfl ?_; clear S; intro a S
       refine s_lv S rfl (rn_move (S.tm rfl)) rfl ?_; clear S; intro a S
       refine s_want S rfl rfl rfl rfl hb3 (s_lv0 S (rn_move (S.tm rfl)) rfl ?_); clear S; intro a S
       refine s_want S rfl rfl rfl rfl hb3 (s_lv0 S (rn_move (S.tm rfl)) rfl ?_); clear S; intro a S
       refine s_want S rfl rfl rfl rfl hb3 ?_
       obtain ⟨hc3, h⟩ := chkE h
       obtain ⟨b17, o13, hm20, hr22⟩ := rn_indexT (a := a) (x := .tmp 84) (y := .tmp 85) (ty := 0) sl_22 (ownV_slcT enc_int hs4) (inB_get hc3).1 (inB_get hc3).2 (S.tm rfl) (S.tm rfl)
       refine s_lv0 S (hr22 _) rfl ?_; clear S; intro a S
       clear hr22
       refine s_want S rfl rfl rfl rfl hb3 (s_lv0 S (rn_ld Tryz.isAgg3 (off := o13) (o := 0) (S.tm rfl) ((hm20.mono (View.le_trans hl6 hl7)).at S.emb) rfl) rfl ?_); clear S; intro a S
       refine s_want S rfl rfl rfl rfl hb3 (s_lv0 S (rn_eql (S.tm rfl) rfl) rfl ?_); clear S; intro a S
       refine s_want S rfl rfl rfl rfl hb3 (s_lv0 S (rn_move (S.tm rfl)) rfl ?_); clear S; intro a S
       iterate 5 (refine s_skip S rfl rfl rfl rfl (neq_f hb4) rfl ?_ rfl; clear S; intro a S)
       refine s_want S rfl rfl rfl rfl hb3 (s_lv0 S (rn_pick_c hb4 (S.tm rfl) rfl) rfl ?_); clear S; intro a S
       refine s_lv S rfl (rn_pick_c hb3 (S.tm rfl) (S.tm rfl)) rfl ?_; clear S; intro a S
       refine s_done ?_
       replace S := S.nk [] [(8, u5), (10, u7), (12, u8), (66, u4), (67, iV (r3.1.length : Int)), (68, iV (i1 : Int)), (84, u5), (85, iV (i1 : Int)), (86, .pointer (some ⟨b17, o13, none⟩)), (87, iV (nth r4.1 (i1 : Int))), (88, bV (decide ((nth r4.1 (i1 : Int)) = 1))), (89, bV (decide ((nth r4.1 (i1 : Int)) = 1))), (95, bV false), (96, bV false)] [false] rfl (subR rfl)
       refine then_n ?_
       exact ⟨false, h, S.nf [] rfl (subR rfl)⟩
    clear S h; rintro a w25 ⟨x1, h, S⟩; rw [hj2] at h; clear hj2 j2
    refine then_n (f_cond (S.tm rfl) (fun hb5 => ?_) (fun hb5 => ?_))
    ·replace h := iteT h hb5
     refine f_seq (f_region (lv S (rn_assign rfl) rfl ?_)); clear S; intro a S
     refine l_done (then_n (wp_ret (blk_r (then_r (then_r (blk_r ?_))))))
     refine then_r (then_r ?_)
     obtain rfl := Option.some.inj h
     exact f_ret S Tryz.results3 rfl rfl
    ·replace h := iteF h hb5
     refine wp_skip (blk_n (then_n (f_region (lv S (rn_add (S.tm rfl) rfl) rfl ?_)))); clear S; intro a S
     refine lv S (rn_move (S.tm rfl)) rfl ?_; clear S; intro a S
     refine l_done (then_n ?_)
     exact ⟨ys1, ⟨i1 + 1, ⟨_, (hd1).trans (List.append_cons _ _ _), by simp [hi1]⟩, h, S.nf [] rfl ⟨rfl, rfl, rfl, rfl, rfl, (congrArg (fun z => some (Value.int .i64 z)) (rng_next hd1 hi1 (slc_max (ownV_slcT GGiven.enc_ok hs3)))), trivial⟩⟩, Nat.lt_succ_self _⟩
  clear S h; rintro a w22 ⟨h, S⟩; rw [hj1] at h; clear hj1 j1
  refine then_n (f_seq (f_region ?_))
  obtain ⟨r10, hr23, h⟩ := bindE h
  refine l_enter S (fun _ => run_call (vs := []) trivial Tryz.call12) (tumbkeep2_ready_ok _ _ hr23) rfl ?_; clear S; intro v25 a w39 hv25 hk36 hn25 S
  subst hv25
  refine lv S (rn_assign (S.tm rfl)) rfl ?_; clear S; intro a S
  refine l_done (then_n (wp_ret ?_))
  obtain rfl := Option.some.inj h
  exact f_ret S Tryz.results3 rfl rfl
end Go.Proofs.YteppmbaanjlmmaaGreatDoor
