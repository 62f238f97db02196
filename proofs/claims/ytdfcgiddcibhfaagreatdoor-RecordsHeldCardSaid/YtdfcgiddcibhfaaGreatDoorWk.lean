/- Each Go function computes its plain twin, by program. -/
import Derived.Test.YtdfcgiddcibhfaaGreatDoorWk2
namespace Go.Proofs.YtdfcgiddcibhfaaGreatDoor
open Go
theorem tumbref2_ForOf_ok (w : World) (v_p_l : Value) (p_l : List GKind) (rs_p_l : List R55) (hs_p_l : Slc (view w []) 5 v_p_l (rs_p_l.map R55.enc)) (hr_p_l : All2 (rel_55 (view w [])) p_l rs_p_l) (p_s : GStep) (r : (List ByteArray)) (h : tumbref2_ForOf p_l p_s = some r) :
    Calls Tryz.prog 23 [v_p_l, .agg (GStep.enc p_s).toArray].toArray w (Ret w [] fun τ v _ => OwnV τ 9 1 v r.length (r.flatMap eStr)) := by
 refine f_enter [] [] Tryz.func23 rfl Tryz.ntmps23 rfl (by simp) (by simp [fps]) (by simp [fps]) fun a S => ?_
 unfold tumbref2_ForOf at h
 replace S := S.nk [] [(0, v_p_l), (1, .agg (GStep.enc p_s).toArray)] [] rfl (subR rfl)
 refine f_seq (f_region (l_box S (S.tm rfl) (cs := (GStep.enc p_s)) rfl rfl ?_)); clear S; intro a w1 b1 hz1 hk1 S
 refine lv S (rn_assign rfl) rfl ?_; clear S; intro a S
 refine l_done (then_n (f_seq (f_region (lv S (rn_assign rfl) rfl ?_)))); clear S; intro a S
 replace S := S.nil 9 1
 refine l_done (then_n (f_seq (f_seq (f_region (lv S (rn_move (S.tm rfl)) rfl ?_))))); clear S; intro a S
 refine lv S (rn_lenT sl_26 (S.tm rfl) (slc_lenD hs_p_l hr_p_l)) rfl ?_; clear S; intro a S
 refine lv S (rn_move rfl) rfl ?_; clear S; intro a S
 refine l_done (then_n ?_)
 replace S := S.nk [.own (.slice none 0 0) 9 1 ([] : List ByteArray).length (([] : List ByteArray).flatMap eStr), .blk b1 (GStep.enc p_s) 34] [(3, .pointer (some ⟨b1, 0, none⟩)), (5, (.slice none 0 0)), (8, v_p_l), (9, iV (p_l.length : Int)), (10, iV 0)] [true, true] rfl (subR rfl)
 obtain ⟨j1, hj1, h⟩ := joinE h
 refine f_join (fun a w' => ∃ x1 : List ByteArray, ∃ v1 : Value, j1 x1 = some r ∧ Sx w [] nov [.own v1 9 1 x1.length (x1.flatMap eStr), .blk b1 (GStep.enc p_s) 34] [(5, v1)] 24 a w') ?_ ?_
 ·refine wp_block (f_loop (fun (ys1 : List GKind) a w' => ∃ i1 : Nat, ∃ x1 : List ByteArray, ∃ v1 : Value, (∃ dn, p_l = dn ++ ys1 ∧ dn.length = i1) ∧ tumbref2_ForOf_l1 p_s j1 ys1 i1 x1 = some r ∧ Sx w [] nov [.own v1 9 1 x1.length (x1.flatMap eStr), .blk b1 (GStep.enc p_s) 34] [(3, .pointer (some ⟨b1, 0, none⟩)), (5, v1), (8, v_p_l), (9, iV (p_l.length : Int)), (10, iV (i1 : Int))] 24 a w') List.length p_l ⟨0, ([] : List ByteArray), (.slice none 0 0), ⟨[], rfl, rfl⟩, h, S.nf [true, true] rfl (subR rfl)⟩ ?_)
  clear S h; rintro ys1 a w2 ⟨i1, x1, v1, ⟨dn, hd1, hi1⟩, h, S⟩
  cases ys1 with
  | nil =>
   rw [tumbref2_ForOf_l1.eq_1] at h
   refine f_seq (f_region (lv S (rn_lss (S.tm rfl) (S.tm rfl)) rfl ?_)); clear S; intro a S
   refine l_done ?_
   replace S := S.nk [.own v1 9 1 x1.length (x1.flatMap eStr), .blk b1 (GStep.enc p_s) 34] [(3, .pointer (some ⟨b1, 0, none⟩)), (5, v1), (8, v_p_l), (9, iV (p_l.length : Int)), (10, iV (i1 : Int)), (11, bV (decide ((i1 : Int) < (p_l.length : Int))))] [true, true] rfl (subR rfl)
   refine then_n (f_seq (wp_cond_false ((S.tm rfl).trans (congrArg Value.bool (rng_nil hd1 hi1))) (wp_exit (then_x (then_x (x_same ?_))))))
   refine then_n ?_
   exact ⟨x1, v1, h, S.nf [true, true] rfl ⟨rfl, trivial⟩⟩
  | cons y1 ys1 =>
   rw [tumbref2_ForOf_l1.eq_2] at h
   refine f_seq (f_region (lv S (rn_lss (S.tm rfl) (S.tm rfl)) rfl ?_)); clear S; intro a S
   refine l_done ?_
   replace S := S.nk [.own v1 9 1 x1.length (x1.flatMap eStr), .blk b1 (GStep.enc p_s) 34] [(3, .pointer (some ⟨b1, 0, none⟩)), (5, v1), (8, v_p_l), (9, iV (p_l.length : Int)), (10, iV (i1 : Int)), (11, bV (decide ((i1 : Int) < (p_l.length : Int))))] [true, true] rfl (subR rfl)
   refine then_n (f_seq (wp_cond_true ((S.tm rfl).trans (congrArg Value.bool (rng_cons hd1 hi1))) (wp_skip (then_n (f_seq ?_)))))
   obtain ⟨j2, hj2, h⟩ := joinE h
   refine f_join (fun a w' => ∃ x2 : List ByteArray, ∃ v2 : Value, j2 x2 = some r ∧ Sx w [] nov [.own v2 9 1 x2.length (x2.flatMap eStr), .blk b1 (GStep.enc p_s) 34] [(3, .pointer (some ⟨b1, 0, none⟩)), (5, v2), (8, v_p_l), (9, iV (p_l.length : Int)), (10, iV (i1 : Int))] 24 a w') ?_ ?_
   ·refine wp_block (f_seq (f_region ?_))
    obtain ⟨r1, hg1, hl1⟩ := All2.at hr_p_l (get_mid hd1 hi1)
    obtain ⟨u1, rfl, hs1⟩ := hl1
    obtain ⟨b2, o1, hm1, hr1⟩ := rn_indexT (a := a) (x := .tmp 8) (y := .tmp 10) (ty := 0) sl_26 hs_p_l hg1 rfl (S.tm rfl) (S.tm rfl)
    refine lv S (hr1 _) rfl ?_; clear S; intro a S
    clear hr1
    refine lv S (rn_ldA Tryz.isAgg55 Tryz.sizeOf55 (off := o1) (o := 0) (part := [sV y1.Key, sV y1.Race, u1.val, iV y1.Young, iV y1.Old]) rfl rfl (S.tm rfl) (hm1.at S.emb0)) rfl ?_; clear S; intro a S
    refine l_alloc S Tryz.zeroValue55 (cs := [sV k_empty, sV k_empty, .slice none 0 0, iV 0, iV 0]) rfl rfl ?_; clear S; intro a w5 b3 hz2 hk2 S
    refine l_store S (S.tm rfl) (S.tm rfl) (i := 0) (off := 0) rfl Tryz.sizeOf55 (vs := [sV y1.Key, sV y1.Race, u1.val, iV y1.Young, iV y1.Old]) rfl rfl rfl (all1 rfl (all1 rfl (all1 (SlcLen.one (slc_len hs1)) (all1 rfl (all1 rfl rfl))))) ?_; clear S; intro w6 hk3 S
    refine l_done (then_n (f_seq (f_region (lv S (rn_ldA Tryz.isAgg55 Tryz.sizeOf55 (off := 0) (o := 0) (part := [sV y1.Key, sV y1.Race, u1.val, iV y1.Young, iV y1.Old]) rfl rfl (S.tm rfl) (S.cellsAt (i := 0) rfl)) rfl ?_)))); clear S; intro a S
    refine lv S (rn_ldA Tryz.isAgg34 Tryz.sizeOf34 (off := 0) (o := 0) (part := (GStep.enc p_s)) rfl rfl (S.tm rfl) (S.cellsAt (i := 2) rfl)) rfl ?_; clear S; intro a S
    refine l_enter S (fun _ => run_call (vs := [.agg (R55.enc (R55.mk y1.Key y1.Race u1 y1.Young y1.Old)).toArray, .agg (GStep.enc p_s).toArray]) ⟨(S.tm rfl), (S.tm rfl), trivial⟩ Tryz.call51) (tumbref2_isFor_ok _ y1 (R55.mk y1.Key y1.Race u1 y1.Young y1.Old) ⟨u1, rfl, (hs1.mono (S.le_arg nil_sub))⟩ p_s _ rfl) rfl ?_; clear S; intro v3 a w7 hv1 hk4 hn1 S
    subst hv1
    refine l_done (then_n ?_)
    obtain ⟨j3, hj3, h⟩ := joinE h
    refine f_join (fun a w' => ∃ x3 : List ByteArray, ∃ v4 : Value, j3 x3 = some r ∧ Sx w [] nov [.own v4 9 1 x3.length (x3.flatMap eStr), .blk b1 (GStep.enc p_s) 34] [(3, .pointer (some ⟨b1, 0, none⟩)), (5, v4), (8, v_p_l), (9, iV (p_l.length : Int)), (10, iV (i1 : Int))] 24 a w') ?_ ?_
    ·refine f_cond (S.tm rfl) (fun hb1 => ?_) (fun hb1 => ?_)
     ·replace h := iteT h hb1
      refine f_region (lv S (rn_move (S.tm rfl)) rfl ?_); clear S; intro a S
      refine lv S (rn_fld fa_55_0 (S.tm rfl)) rfl ?_; clear S; intro a S
      refine lv S (rn_load Tryz.isAgg9 (S.tm rfl) (S.cell (i := 0) rfl rfl)) rfl ?_; clear S; intro a S
      refine l_buildSlice S Tryz.underlying37 Tryz.sizeOf9 Tryz.zeroValue9 rfl rfl (pv := [(0, sV y1.Key)]) ⟨rfl, (S.tm rfl), trivial⟩ (cs := [sV y1.Key]) (by kernel_rfl) rfl ?_; clear S; intro a w9 b4 hz3 hk5 S
      obtain ⟨hc1, h⟩ := chkE h
      refine l_appendT sl_37 enc_str S (S.tm rfl) (i := 2) rfl (S.tm rfl) (j := 0) rfl (ys := [y1.Key]) rfl rfl rfl rfl (by have := room_lt hc1; omega) rfl ?_; clear S; intro v5 a w10 hk6 S
      refine lv S (rn_assign (S.tm rfl)) rfl ?_; clear S; intro a S
      refine l_done ?_
      replace S := S.nk [.own v5 9 1 (x1 ++ [y1.Key]).length ((x1 ++ [y1.Key]).flatMap eStr), .blk b1 (GStep.enc p_s) 34] [(3, .pointer (some ⟨b1, 0, none⟩)), (5, v5), (8, v_p_l), (9, iV (p_l.length : Int)), (10, iV (i1 : Int))] [false, false, true, true] rfl (subR rfl)
      refine then_n ?_
      exact ⟨(x1 ++ [y1.Key]), v5, h, S.nf [true, true] rfl (subR rfl)⟩
     ·replace h := iteF h hb1
      refine wp_skip (then_n ?_)
      exact ⟨x1, v1, h, S.nf [false, true, true] rfl (subR rfl)⟩
    clear S h; rintro a w8 ⟨x3, v4, h, S⟩; rw [hj3] at h; clear hj3 j3
    refine blk_n (then_n ?_)
    exact ⟨x3, v4, h, S.nf [true, true] rfl (subR rfl)⟩
   clear S h; rintro a w4 ⟨x2, v2, h, S⟩; rw [hj2] at h; clear hj2 j2
   refine then_n (f_region (lv S (rn_add (S.tm rfl) rfl) rfl ?_)); clear S; intro a S
   refine lv S (rn_move (S.tm rfl)) rfl ?_; clear S; intro a S
   refine l_done (then_n ?_)
   exact ⟨ys1, ⟨i1 + 1, x2, v2, ⟨_, (hd1).trans (List.append_cons _ _ _), by simp [hi1]⟩, h, S.nf [true, true] rfl ⟨rfl, rfl, rfl, rfl, (congrArg (fun z => some (Value.int .i64 z)) (rng_next hd1 hi1 (slc_maxD hs_p_l hr_p_l))), trivial⟩⟩, Nat.lt_succ_self _⟩
 clear S h; rintro a w3 ⟨x1, v1, h, S⟩; rw [hj1] at h; clear hj1 j1
 refine then_n (f_seq (f_region (lv S (rn_move (S.tm rfl)) rfl ?_))); clear S; intro a S
 refine lv S (rn_assign (S.tm rfl)) rfl ?_; clear S; intro a S
 refine l_done (then_n (wp_ret ?_))
 obtain rfl := Option.some.inj h
 exact f_ret S Tryz.results23 rfl (own_retT S (i := 0) rfl rfl)
theorem tumbref2_upTo_ok (w : World) (v_p_l : Value) (p_l : List GStep) (hs_p_l : Slc (view w []) 8 v_p_l (p_l.map GStep.enc)) (p_at : Int) (r : (List GStep)) (h : tumbref2_upTo p_l p_at = some r) :
    Calls Tryz.prog 74 [v_p_l, iV p_at].toArray w (Ret w [] fun τ v _ => OwnV τ 34 8 v r.length (r.flatMap GStep.enc)) := by
 refine f_enter [] [] Tryz.func74 rfl Tryz.ntmps74 rfl (by simp) (by simp [fps]) (by simp [fps]) fun a S => ?_
 unfold tumbref2_upTo at h
 replace S := S.nk [] [(0, v_p_l), (1, iV p_at)] [] rfl (subR rfl)
 refine f_seq (f_region (lv S (rn_assign rfl) rfl ?_)); clear S; intro a S
 refine l_done (then_n (f_seq (f_region (lv S (rn_assign rfl) rfl ?_)))); clear S; intro a S
 replace S := S.nil 34 8
 refine l_done (then_n (f_seq (f_seq (f_region (lv S (rn_move (S.tm rfl)) rfl ?_))))); clear S; intro a S
 refine lv S (rn_lenT sl_28 (S.tm rfl) (slc_len hs_p_l)) rfl ?_; clear S; intro a S
 refine lv S (rn_move rfl) rfl ?_; clear S; intro a S
 refine l_done (then_n ?_)
 replace S := S.nk [.own (.slice none 0 0) 34 8 ([] : List GStep).length (([] : List GStep).flatMap GStep.enc)] [(1, iV p_at), (5, (.slice none 0 0)), (8, v_p_l), (9, iV (p_l.length : Int)), (10, iV 0)] [true] rfl (subR rfl)
 obtain ⟨j1, hj1, h⟩ := joinE h
 refine f_join (fun a w' => ∃ x1 : List GStep, ∃ v1 : Value, j1 x1 = some r ∧ Sx w [] nov [.own v1 34 8 x1.length (x1.flatMap GStep.enc)] [(5, v1)] 24 a w') ?_ ?_
 ·refine wp_block (f_loop (fun (ys1 : List GStep) a w' => ∃ i1 : Nat, ∃ x1 : List GStep, ∃ v1 : Value, (∃ dn, p_l = dn ++ ys1 ∧ dn.length = i1) ∧ tumbref2_upTo_l1 p_at j1 ys1 i1 x1 = some r ∧ Sx w [] nov [.own v1 34 8 x1.length (x1.flatMap GStep.enc)] [(1, iV p_at), (5, v1), (8, v_p_l), (9, iV (p_l.length : Int)), (10, iV (i1 : Int))] 24 a w') List.length p_l ⟨0, ([] : List GStep), (.slice none 0 0), ⟨[], rfl, rfl⟩, h, S.nf [true] rfl (subR rfl)⟩ ?_)
  clear S h; rintro ys1 a w1 ⟨i1, x1, v1, ⟨dn, hd1, hi1⟩, h, S⟩
  cases ys1 with
  | nil =>
   rw [tumbref2_upTo_l1.eq_1] at h
   refine f_seq (f_region (lv S (rn_lss (S.tm rfl) (S.tm rfl)) rfl ?_)); clear S; intro a S
   refine l_done ?_
   replace S := S.nk [.own v1 34 8 x1.length (x1.flatMap GStep.enc)] [(1, iV p_at), (5, v1), (8, v_p_l), (9, iV (p_l.length : Int)), (10, iV (i1 : Int)), (11, bV (decide ((i1 : Int) < (p_l.length : Int))))] [true] rfl (subR rfl)
   refine then_n (f_seq (wp_cond_false ((S.tm rfl).trans (congrArg Value.bool (rng_nil hd1 hi1))) (wp_exit (then_x (then_x (x_same ?_))))))
   refine then_n ?_
   exact ⟨x1, v1, h, S.nf [true] rfl ⟨rfl, trivial⟩⟩
  | cons y1 ys1 =>
   rw [tumbref2_upTo_l1.eq_2] at h
   refine f_seq (f_region (lv S (rn_lss (S.tm rfl) (S.tm rfl)) rfl ?_)); clear S; intro a S
   refine l_done ?_
   replace S := S.nk [.own v1 34 8 x1.length (x1.flatMap GStep.enc)] [(1, iV p_at), (5, v1), (8, v_p_l), (9, iV (p_l.length : Int)), (10, iV (i1 : Int)), (11, bV (decide ((i1 : Int) < (p_l.length : Int))))] [true] rfl (subR rfl)
   refine then_n (f_seq (wp_cond_true ((S.tm rfl).trans (congrArg Value.bool (rng_cons hd1 hi1))) (wp_skip (then_n (f_seq ?_)))))
   obtain ⟨j2, hj2, h⟩ := joinE h
   refine f_join (fun a w' => ∃ x2 : List GStep, ∃ v2 : Value, j2 x2 = some r ∧ Sx w [] nov [.own v2 34 8 x2.length (x2.flatMap GStep.enc)] [(1, iV p_at), (5, v2), (8, v_p_l), (9, iV (p_l.length : Int)), (10, iV (i1 : Int))] 24 a w') ?_ ?_
   ·refine wp_block (f_seq (f_region ?_))
    obtain ⟨b1, o1, hm1, hr1⟩ := rn_indexT (a := a) (x := .tmp 8) (y := .tmp 10) (ty := 0) sl_28 hs_p_l (get_mid hd1 hi1) rfl (S.tm rfl) (S.tm rfl)
    refine lv S (hr1 _) rfl ?_; clear S; intro a S
    clear hr1
    refine lv S (rn_ldA Tryz.isAgg34 Tryz.sizeOf34 (off := o1) (o := 0) (part := (GStep.enc y1)) rfl rfl (S.tm rfl) (hm1.at S.emb0)) rfl ?_; clear S; intro a S
    refine l_alloc S Tryz.zeroValue34 (cs := [iV 0, iV 0, sV k_empty, sV k_empty, sV k_empty, sV k_empty, iV 0, iV 0]) rfl rfl ?_; clear S; intro a w4 b2 hz1 hk1 S
    refine l_store S (S.tm rfl) (S.tm rfl) (i := 0) (off := 0) rfl Tryz.sizeOf34 (vs := (GStep.enc y1)) rfl rfl rfl rfl ?_; clear S; intro w5 hk2 S
    refine l_done (then_n (f_seq (f_region (lv S (rn_fld fa_34_0 (S.tm rfl)) rfl ?_)))); clear S; intro a S
    refine lv S (rn_load Tryz.isAgg3 (S.tm rfl) (S.cell (i := 0) rfl rfl)) rfl ?_; clear S; intro a S
    refine lv S (rn_move (S.tm rfl)) rfl ?_; clear S; intro a S
    refine lv S (rn_leq (S.tm rfl) (S.tm rfl)) rfl ?_; clear S; intro a S
    refine l_done (then_n ?_)
    obtain ⟨j3, hj3, h⟩ := joinE h
    refine f_join (fun a w' => ∃ x3 : List GStep, ∃ v3 : Value, j3 x3 = some r ∧ Sx w [] nov [.own v3 34 8 x3.length (x3.flatMap GStep.enc)] [(1, iV p_at), (5, v3), (8, v_p_l), (9, iV (p_l.length : Int)), (10, iV (i1 : Int))] 24 a w') ?_ ?_
    ·refine f_cond (S.tm rfl) (fun hb1 => ?_) (fun hb1 => ?_)
     ·replace h := iteT h hb1
      refine f_region (lv S (rn_move (S.tm rfl)) rfl ?_); clear S; intro a S
      refine lv S (rn_ldA Tryz.isAgg34 Tryz.sizeOf34 (off := 0) (o := 0) (part := (GStep.enc y1)) rfl rfl (S.tm rfl) (S.cellsAt (i := 0) rfl)) rfl ?_; clear S; intro a S
      refine l_buildSlice S Tryz.underlying28 Tryz.sizeOf34 Tryz.zeroValue34 rfl rfl (pv := [(0, .agg (GStep.enc y1).toArray)]) ⟨rfl, (S.tm rfl), trivial⟩ (cs := [iV y1.At, iV y1.Kind, sV y1.Id, sV y1.Who, sV y1.Club, sV y1.Race, iV y1.Age, iV y1.Time]) (by kernel_rfl) rfl ?_; clear S; intro a w7 b3 hz2 hk3 S
      obtain ⟨hc1, h⟩ := chkE h
      refine l_appendT sl_28 GStep.enc_ok S (S.tm rfl) (i := 2) rfl (S.tm rfl) (j := 0) rfl (ys := [y1]) rfl rfl rfl rfl (by have := room_lt hc1; omega) rfl ?_; clear S; intro v4 a w8 hk4 S
      refine lv S (rn_assign (S.tm rfl)) rfl ?_; clear S; intro a S
      refine l_done ?_
      replace S := S.nk [.own v4 34 8 (x1 ++ [y1]).length ((x1 ++ [y1]).flatMap GStep.enc)] [(1, iV p_at), (5, v4), (8, v_p_l), (9, iV (p_l.length : Int)), (10, iV (i1 : Int))] [false, false, true] rfl (subR rfl)
      refine then_n ?_
      exact ⟨(x1 ++ [y1]), v4, h, S.nf [true] rfl (subR rfl)⟩
     ·replace h := iteF h hb1
      refine wp_skip (then_n ?_)
      exact ⟨x1, v1, h, S.nf [false, true] rfl (subR rfl)⟩
    clear S h; rintro a w6 ⟨x3, v3, h, S⟩; rw [hj3] at h; clear hj3 j3
    refine blk_n (then_n ?_)
    exact ⟨x3, v3, h, S.nf [true] rfl (subR rfl)⟩
   clear S h; rintro a w3 ⟨x2, v2, h, S⟩; rw [hj2] at h; clear hj2 j2
   refine then_n (f_region (lv S (rn_add (S.tm rfl) rfl) rfl ?_)); clear S; intro a S
   refine lv S (rn_move (S.tm rfl)) rfl ?_; clear S; intro a S
   refine l_done (then_n ?_)
   exact ⟨ys1, ⟨i1 + 1, x2, v2, ⟨_, (hd1).trans (List.append_cons _ _ _), by simp [hi1]⟩, h, S.nf [true] rfl ⟨rfl, rfl, rfl, rfl, (congrArg (fun z => some (Value.int .i64 z)) (rng_next hd1 hi1 (slc_max hs_p_l))), trivial⟩⟩, Nat.lt_succ_self _⟩
 clear S h; rintro a w2 ⟨x1, v1, h, S⟩; rw [hj1] at h; clear hj1 j1
 refine then_n (f_seq (f_region (lv S (rn_move (S.tm rfl)) rfl ?_))); clear S; intro a S
 refine lv S (rn_assign (S.tm rfl)) rfl ?_; clear S; intro a S
 refine l_done (then_n (wp_ret ?_))
 obtain rfl := Option.some.inj h
 exact f_ret S Tryz.results74 rfl (own_retT S (i := 0) rfl rfl)
theorem tumbref2_follows_ok (w : World) (p_state : Int) (p_kind : Int) (r : Bool) (h : tumbref2_follows p_state p_kind = r) :
    Calls Tryz.prog 85 [iV p_state, iV p_kind].toArray w (Ret w [] fun _ v _ => v = bV r) := by
 refine f_enter [] [] Tryz.func85 rfl Tryz.ntmps85 rfl (by simp) (by simp [fps]) (by simp [fps]) fun a S => ?_
 unfold tumbref2_follows at h
 replace S := S.nk [] [(0, iV p_state), (1, iV p_kind)] [] rfl (subR rfl)
 refine f_seq (f_region (lv S (rn_assign rfl) rfl ?_)); clear S; intro a S
 refine l_done (then_n (f_seq (f_seq (f_region (lv S (rn_move (S.tm rfl)) rfl ?_))))); clear S; intro a S
 refine l_done (then_n (wp_block (f_seq (f_region (lv S (rn_eql (S.tm rfl) rfl) rfl ?_))))); clear S; intro a S
 refine lv S (rn_assign (S.tm rfl)) rfl ?_; clear S; intro a S
 refine l_done (then_n (f_cond (S.tm rfl) (fun hb1 => ?_) (fun hb1 => ?_)))
 ·replace h := iteT h hb1
  refine f_seq (f_region (lv S (rn_move (S.tm rfl)) rfl ?_)); clear S; intro a S
  refine lv S (rn_eql (S.tm rfl) rfl) rfl ?_; clear S; intro a S
  refine lv S (rn_assign (S.tm rfl)) rfl ?_; clear S; intro a S
  refine l_done (then_n (wp_ret (blk_r (then_r ?_))))
  subst h
  exact f_ret S Tryz.results85 rfl rfl
 ·replace h := iteF h hb1
  refine f_seq (f_region (lv S (rn_eql (S.tm rfl) rfl) rfl ?_)); clear S; intro a S
  refine lv S (rn_assign (S.tm rfl)) rfl ?_; clear S; intro a S
  refine l_done (then_n (f_cond (S.tm rfl) (fun hb2 => ?_) (fun hb2 => ?_)))
  ·replace h := iteT h hb2
   refine f_seq (f_region (lv S (rn_move (S.tm rfl)) rfl ?_)); clear S; intro a S
   refine lv S (rn_eql (S.tm rfl) rfl) rfl ?_; clear S; intro a S
   refine lv S (rn_assign (S.tm rfl)) rfl ?_; clear S; intro a S
   refine l_done (then_n (wp_ret (blk_r (then_r ?_))))
   subst h
   exact f_ret S Tryz.results85 rfl rfl
  ·replace h := iteF h hb2
   refine wp_skip (blk_n (then_n (f_seq (f_region (lv S (rn_move (S.tm rfl)) rfl ?_))))); clear S; intro a S
   refine lv S (rn_eql (S.tm rfl) rfl) rfl ?_; clear S; intro a S
   refine lv S (rn_move (S.tm rfl)) rfl ?_; clear S; intro a S
   refine f_cutm 3 (fun a w' => Keep [] w w' ∧ Sx w [] nov [] [(19, bV ((decide (p_state = 1)) || (decide (p_state = 2))))] 20 a w') ?_ ?_
   ·rcases Bool.eq_false_or_eq_true (decide (p_state = 1)) with hb3 | hb3
    ·refine l_skip S rfl rfl rfl (neq_t hb3) rfl ?_ rfl; clear S; intro a S
     refine l_skip S rfl rfl rfl (neq_t hb3) rfl ?_ rfl; clear S; intro a S
     refine lv S (rn_or_t (decide (p_state = 2)) hb3 (S.tm rfl) rfl) rfl ?_; clear S; intro a S
     refine l_done (then_n ?_)
     exact ⟨Keep.refl _ _, S.nf [] rfl ⟨rfl, trivial⟩⟩
    ·refine l_want S rfl rfl rfl hb3 (lv S (rn_move (S.tm rfl)) rfl ?_); clear S; intro a S
     refine l_want S rfl rfl rfl hb3 (lv S (rn_eql (S.tm rfl) rfl) rfl ?_); clear S; intro a S
     refine lv S (rn_or_f hb3 (S.tm rfl) (S.tm rfl)) rfl ?_; clear S; intro a S
     refine l_done (then_n ?_)
     exact ⟨Keep.refl _ _, S.nf [] rfl ⟨rfl, trivial⟩⟩
   clear S; rintro a w1 ⟨hk1, S⟩
   refine lv S (rn_assign (S.tm rfl)) rfl ?_; clear S; intro a S
   refine l_done (then_n (wp_ret ?_))
   subst h
   exact f_ret S Tryz.results85 rfl rfl
theorem tumbref2_stateOf_ok (w : World) (v_p_l : Value) (p_l : List GStep) (hs_p_l : Slc (view w []) 8 v_p_l (p_l.map GStep.enc)) (p_id : ByteArray) (r : Int) (h : tumbref2_stateOf p_l p_id = r) :
    Calls Tryz.prog 73 [v_p_l, sV p_id].toArray w (Ret w [] fun _ v _ => v = iV r) := by
 refine f_enter [] [] Tryz.func73 rfl Tryz.ntmps73 rfl (by simp) (by simp [fps]) (by simp [fps]) fun a S => ?_
 unfold tumbref2_stateOf at h
 replace S := S.nk [] [(0, v_p_l), (1, sV p_id)] [] rfl (subR rfl)
 refine f_seq (f_region (lv S (rn_assign rfl) rfl ?_)); clear S; intro a S
 refine l_done (then_n (f_seq (f_region (lv S (rn_assign rfl) rfl ?_)))); clear S; intro a S
 refine l_done (then_n (f_seq (f_seq (f_region (lv S (rn_move (S.tm rfl)) rfl ?_))))); clear S; intro a S
 refine lv S (rn_lenT sl_28 (S.tm rfl) (slc_len hs_p_l)) rfl ?_; clear S; intro a S
 refine lv S (rn_move rfl) rfl ?_; clear S; intro a S
 refine l_done (then_n ?_)
 replace S := S.nk [] [(1, sV p_id), (5, iV 0), (8, v_p_l), (9, iV (p_l.length : Int)), (10, iV 0)] [] rfl (subR rfl)
 obtain ⟨j1, hj1, h⟩ := joinE h
 refine f_join (fun a w' => ∃ x1 : Int, j1 x1 = r ∧ Sx w [] nov [] [(5, iV x1)] 28 a w') ?_ ?_
 ·refine wp_block (f_loop (fun (ys1 : List GStep) a w' => ∃ i1 : Nat, ∃ x1 : Int, (∃ dn, p_l = dn ++ ys1 ∧ dn.length = i1) ∧ tumbref2_stateOf_l1 p_id j1 ys1 i1 x1 = r ∧ Sx w [] nov [] [(1, sV p_id), (5, iV x1), (8, v_p_l), (9, iV (p_l.length : Int)), (10, iV (i1 : Int))] 28 a w') List.length p_l ⟨0, 0, ⟨[], rfl, rfl⟩, h, S.nf [] rfl (subR rfl)⟩ ?_)
  clear S h; rintro ys1 a w1 ⟨i1, x1, ⟨dn, hd1, hi1⟩, h, S⟩
  cases ys1 with
  | nil =>
   rw [tumbref2_stateOf_l1.eq_1] at h
   refine f_seq (f_region (lv S (rn_lss (S.tm rfl) (S.tm rfl)) rfl ?_)); clear S; intro a S
   refine l_done ?_
   replace S := S.nk [] [(1, sV p_id), (5, iV x1), (8, v_p_l), (9, iV (p_l.length : Int)), (10, iV (i1 : Int)), (11, bV (decide ((i1 : Int) < (p_l.length : Int))))] [] rfl (subR rfl)
   refine then_n (f_seq (wp_cond_false ((S.tm rfl).trans (congrArg Value.bool (rng_nil hd1 hi1))) (wp_exit (then_x (then_x (x_same ?_))))))
   refine then_n ?_
   exact ⟨x1, h, S.nf [] rfl ⟨rfl, trivial⟩⟩
  | cons y1 ys1 =>
   rw [tumbref2_stateOf_l1.eq_2] at h
   refine f_seq (f_region (lv S (rn_lss (S.tm rfl) (S.tm rfl)) rfl ?_)); clear S; intro a S
   refine l_done ?_
   replace S := S.nk [] [(1, sV p_id), (5, iV x1), (8, v_p_l), (9, iV (p_l.length : Int)), (10, iV (i1 : Int)), (11, bV (decide ((i1 : Int) < (p_l.length : Int))))] [] rfl (subR rfl)
   refine then_n (f_seq (wp_cond_true ((S.tm rfl).trans (congrArg Value.bool (rng_cons hd1 hi1))) (wp_skip (then_n (f_seq ?_)))))
   obtain ⟨j2, hj2, h⟩ := joinE h
   refine f_join (fun a w' => ∃ x2 : Int, j2 x2 = r ∧ Sx w [] nov [] [(1, sV p_id), (5, iV x2), (8, v_p_l), (9, iV (p_l.length : Int)), (10, iV (i1 : Int))] 28 a w') ?_ ?_
   ·refine wp_block (f_seq (f_region ?_))
    obtain ⟨b1, o1, hm1, hr1⟩ := rn_indexT (a := a) (x := .tmp 8) (y := .tmp 10) (ty := 0) sl_28 hs_p_l (get_mid hd1 hi1) rfl (S.tm rfl) (S.tm rfl)
    refine lv S (hr1 _) rfl ?_; clear S; intro a S
    clear hr1
    refine lv S (rn_ldA Tryz.isAgg34 Tryz.sizeOf34 (off := o1) (o := 0) (part := (GStep.enc y1)) rfl rfl (S.tm rfl) (hm1.at S.emb0)) rfl ?_; clear S; intro a S
    refine l_alloc S Tryz.zeroValue34 (cs := [iV 0, iV 0, sV k_empty, sV k_empty, sV k_empty, sV k_empty, iV 0, iV 0]) rfl rfl ?_; clear S; intro a w4 b2 hz1 hk1 S
    refine l_store S (S.tm rfl) (S.tm rfl) (i := 0) (off := 0) rfl Tryz.sizeOf34 (vs := (GStep.enc y1)) rfl rfl rfl rfl ?_; clear S; intro w5 hk2 S
    refine l_done (then_n (f_seq (f_region (lv S (rn_fld fa_34_2 (S.tm rfl)) rfl ?_)))); clear S; intro a S
    refine lv S (rn_load Tryz.isAgg9 (S.tm rfl) (S.cell (i := 0) rfl rfl)) rfl ?_; clear S; intro a S
    refine lv S (rn_move (S.tm rfl)) rfl ?_; clear S; intro a S
    refine lv S (rn_seql (S.tm rfl) (S.tm rfl)) rfl ?_; clear S; intro a S
    refine lv S (rn_move (S.tm rfl)) rfl ?_; clear S; intro a S
    refine f_cutm 5 (fun a w' => Keep [] w5 w' ∧ Sx w [] nov [.blk b2 (GStep.enc y1) 34] [(1, sV p_id), (5, iV x1), (7, .pointer (some ⟨b2, 0, none⟩)), (8, v_p_l), (9, iV (p_l.length : Int)), (10, iV (i1 : Int)), (23, bV ((decide (y1.Id = p_id)) && (tumbref2_follows x1 y1.Kind)))] 28 a w') ?_ ?_
    ·rcases Bool.eq_false_or_eq_true (decide (y1.Id = p_id)) with hb1 | hb1
     ·refine l_want S rfl rfl rfl hb1 (lv S (rn_move (S.tm rfl)) rfl ?_); clear S; intro a S
      refine l_want S rfl rfl rfl hb1 (lv S (rn_fld fa_34_1 (S.tm rfl)) rfl ?_); clear S; intro a S
      refine l_want S rfl rfl rfl hb1 (lv S (rn_load Tryz.isAgg3 (S.tm rfl) (S.cell (i := 0) rfl rfl)) rfl ?_); clear S; intro a S
      refine l_want S rfl rfl rfl hb1 (l_enter S (fun _ => run_call (vs := [iV x1, iV y1.Kind]) ⟨(S.tm rfl), (S.tm rfl), trivial⟩ Tryz.call85) (tumbref2_follows_ok _ x1 y1.Kind _ rfl) rfl ?_); clear S; intro v1 a w7 hv1 hk3 hn1 S
      subst hv1
      refine lv S (rn_and_t hb1 (S.tm rfl) (S.tm rfl)) rfl ?_; clear S; intro a S
      refine l_done (then_n ?_)
      exact ⟨hk3, S.nf [true] rfl (subR rfl)⟩
     ·iterate 4 (refine l_skip S rfl rfl rfl (neq_f hb1) rfl ?_ rfl; clear S; intro a S)
      refine lv S (rn_and_f (tumbref2_follows x1 y1.Kind) hb1 (S.tm rfl) rfl) rfl ?_; clear S; intro a S
      refine l_done (then_n ?_)
      exact ⟨Keep.refl _ _, S.nf [true] rfl (subR rfl)⟩
    clear S; rintro a w6 ⟨hk4, S⟩
    refine l_done (then_n ?_)
    obtain ⟨j3, hj3, h⟩ := joinE h
    refine f_join (fun a w' => ∃ x3 : Int, j3 x3 = r ∧ Sx w [] nov [.blk b2 (GStep.enc y1) 34] [(1, sV p_id), (5, iV x3), (8, v_p_l), (9, iV (p_l.length : Int)), (10, iV (i1 : Int))] 28 a w') ?_ ?_
    ·refine f_cond (S.tm rfl) (fun hb2 => ?_) (fun hb2 => ?_)
     ·replace h := iteT h hb2
      refine f_region (lv S (rn_fld fa_34_1 (S.tm rfl)) rfl ?_); clear S; intro a S
      refine lv S (rn_load Tryz.isAgg3 (S.tm rfl) (S.cell (i := 0) rfl rfl)) rfl ?_; clear S; intro a S
      refine lv S (rn_assign (S.tm rfl)) rfl ?_; clear S; intro a S
      refine l_done (then_n ?_)
      exact ⟨y1.Kind, h, S.nf [true] rfl (subR rfl)⟩
     ·replace h := iteF h hb2
      refine wp_skip (then_n ?_)
      exact ⟨x1, h, S.nf [true] rfl (subR rfl)⟩
    clear S h; rintro a w8 ⟨x3, h, S⟩; rw [hj3] at h; clear hj3 j3
    refine blk_n (then_n ?_)
    exact ⟨x3, h, S.nf [false] rfl (subR rfl)⟩
   clear S h; rintro a w3 ⟨x2, h, S⟩; rw [hj2] at h; clear hj2 j2
   refine then_n (f_region (lv S (rn_add (S.tm rfl) rfl) rfl ?_)); clear S; intro a S
   refine lv S (rn_move (S.tm rfl)) rfl ?_; clear S; intro a S
   refine l_done (then_n ?_)
   exact ⟨ys1, ⟨i1 + 1, x2, ⟨_, (hd1).trans (List.append_cons _ _ _), by simp [hi1]⟩, h, S.nf [] rfl ⟨rfl, rfl, rfl, rfl, (congrArg (fun z => some (Value.int .i64 z)) (rng_next hd1 hi1 (slc_max hs_p_l))), trivial⟩⟩, Nat.lt_succ_self _⟩
 clear S h; rintro a w2 ⟨x1, h, S⟩; rw [hj1] at h; clear hj1 j1
 refine then_n (f_seq (f_region (lv S (rn_move (S.tm rfl)) rfl ?_))); clear S; intro a S
 refine lv S (rn_assign (S.tm rfl)) rfl ?_; clear S; intro a S
 refine l_done (then_n (wp_ret ?_))
 subst h
 exact f_ret S Tryz.results73 rfl rfl
set_option maxRecDepth 20000 in
theorem tumbref2_swumBy_ok (w : World) (v_p_l : Value) (p_l : List GStep) (hs_p_l : Slc (view w []) 8 v_p_l (p_l.map GStep.enc)) (p_at : Int) (r : (List GStep)) (h : tumbref2_swumBy p_l p_at = some r) :
    Calls Tryz.prog 72 [v_p_l, iV p_at].toArray w (Ret w [] fun τ v _ => OwnV τ 34 8 v r.length (r.flatMap GStep.enc)) := by
 refine f_enter [] [] Tryz.func72 rfl Tryz.ntmps72 rfl (by simp) (by simp [fps]) (by simp [fps]) fun a S => ?_
 unfold tumbref2_swumBy at h
 replace S := S.nk [] [(0, v_p_l), (1, iV p_at)] [] rfl (subR rfl)
 refine f_seq (f_region (lv S (rn_assign rfl) rfl ?_)); clear S; intro a S
 refine l_done (then_n (f_seq (f_region (lv S (rn_move (S.tm rfl)) rfl ?_)))); clear S; intro a S
 refine lv S (rn_move (S.tm rfl)) rfl ?_; clear S; intro a S
 obtain ⟨r1, hr1, h⟩ := bindE h
 have hz1 := S.keep.size
 refine l_enter S (fun _ => run_call (vs := [v_p_l, iV p_at]) ⟨(S.tm rfl), (S.tm rfl), trivial⟩ Tryz.call74) (tumbref2_upTo_ok _ v_p_l p_l (hs_p_l.mono (S.le_arg nil_sub)) p_at _ hr1) rfl ?_; clear S; intro v1 a w1 hv1 hk1 hn1 S
 obtain ⟨φ1, hl1, hm1, S⟩ := S.see' hn1 hz1
 have hs1 := hv1.mono hm1
 refine lv S (rn_assign (S.tm rfl)) rfl ?_; clear S; intro a S
 refine l_done (then_n (f_seq (f_region (lv S (rn_assign rfl) rfl ?_)))); clear S; intro a S
 replace S := S.nil 34 8
 refine l_done (then_n (f_seq (f_seq (f_region (lv S (rn_move (S.tm rfl)) rfl ?_))))); clear S; intro a S
 refine lv S (rn_lenT sl_28 (S.tm rfl) (slc_len (ownV_slcT GStep.enc_ok hs1))) rfl ?_; clear S; intro a S
 refine lv S (rn_move rfl) rfl ?_; clear S; intro a S
 refine l_done (then_n ?_)
 replace S := S.nk [.own (.slice none 0 0) 34 8 ([] : List GStep).length (([] : List GStep).flatMap GStep.enc)] [(0, v1), (5, (.slice none 0 0)), (11, v1), (12, iV (r1.length : Int)), (13, iV 0)] [true] rfl (subR rfl)
 obtain ⟨j1, hj1, h⟩ := joinE h
 refine f_join (fun a w' => ∃ x1 : List GStep, ∃ v2 : Value, j1 x1 = some r ∧ Sx w [] φ1 [.own v2 34 8 x1.length (x1.flatMap GStep.enc)] [(5, v2)] 36 a w') ?_ ?_
 ·refine wp_block (f_loop (fun (ys1 : List GStep) a w' => ∃ i1 : Nat, ∃ x1 : List GStep, ∃ v2 : Value, (∃ dn, r1 = dn ++ ys1 ∧ dn.length = i1) ∧ tumbref2_swumBy_l1 r1 j1 ys1 i1 x1 = some r ∧ Sx w [] φ1 [.own v2 34 8 x1.length (x1.flatMap GStep.enc)] [(0, v1), (5, v2), (11, v1), (12, iV (r1.length : Int)), (13, iV (i1 : Int))] 36 a w') List.length r1 ⟨0, ([] : List GStep), (.slice none 0 0), ⟨[], rfl, rfl⟩, h, S.nf [true] rfl (subR rfl)⟩ ?_)
  clear S h; rintro ys1 a w2 ⟨i1, x1, v2, ⟨dn, hd1, hi1⟩, h, S⟩
  cases ys1 with
  | nil =>
   rw [tumbref2_swumBy_l1.eq_1] at h
   refine f_seq (f_region (lv S (rn_lss (S.tm rfl) (S.tm rfl)) rfl ?_)); clear S; intro a S
   refine l_done ?_
   replace S := S.nk [.own v2 34 8 x1.length (x1.flatMap GStep.enc)] [(0, v1), (5, v2), (11, v1), (12, iV (r1.length : Int)), (13, iV (i1 : Int)), (14, bV (decide ((i1 : Int) < (r1.length : Int))))] [true] rfl (subR rfl)
   refine then_n (f_seq (wp_cond_false ((S.tm rfl).trans (congrArg Value.bool (rng_nil hd1 hi1))) (wp_exit (then_x (then_x (x_same ?_))))))
   refine then_n ?_
   exact ⟨x1, v2, h, S.nf [true] rfl ⟨rfl, trivial⟩⟩
  | cons y1 ys1 =>
   rw [tumbref2_swumBy_l1.eq_2] at h
   refine f_seq (f_region (lv S (rn_lss (S.tm rfl) (S.tm rfl)) rfl ?_)); clear S; intro a S
   refine l_done ?_
   replace S := S.nk [.own v2 34 8 x1.length (x1.flatMap GStep.enc)] [(0, v1), (5, v2), (11, v1), (12, iV (r1.length : Int)), (13, iV (i1 : Int)), (14, bV (decide ((i1 : Int) < (r1.length : Int))))] [true] rfl (subR rfl)
   refine then_n (f_seq (wp_cond_true ((S.tm rfl).trans (congrArg Value.bool (rng_cons hd1 hi1))) (wp_skip (then_n (f_seq ?_)))))
   obtain ⟨j2, hj2, h⟩ := joinE h
   refine f_join (fun a w' => ∃ x2 : List GStep, ∃ v3 : Value, j2 x2 = some r ∧ Sx w [] φ1 [.own v3 34 8 x2.length (x2.flatMap GStep.enc)] [(0, v1), (5, v3), (11, v1), (12, iV (r1.length : Int)), (13, iV (i1 : Int))] 36 a w') ?_ ?_
   ·refine wp_block (f_seq (f_region (lv S (rn_move (S.tm rfl)) rfl ?_))); clear S; intro a S
    obtain ⟨b1, o1, hm2, hr2⟩ := rn_indexT (a := a) (x := .tmp 11) (y := .tmp 13) (ty := 0) sl_28 (ownV_slcT GStep.enc_ok hs1) (get_mid hd1 hi1) rfl (S.tm rfl) (S.tm rfl)
    refine lv S (hr2 _) rfl ?_; clear S; intro a S
    clear hr2
    refine lv S (rn_ldA Tryz.isAgg34 Tryz.sizeOf34 (off := o1) (o := 0) (part := (GStep.enc y1)) rfl rfl (S.tm rfl) (hm2.at S.emb)) rfl ?_; clear S; intro a S
    refine l_alloc S Tryz.zeroValue34 (cs := [iV 0, iV 0, sV k_empty, sV k_empty, sV k_empty, sV k_empty, iV 0, iV 0]) rfl rfl ?_; clear S; intro a w5 b2 hz2 hk2 S
    refine lv S (rn_assign (S.tm rfl)) rfl ?_; clear S; intro a S
    refine l_store S (S.tm rfl) (S.tm rfl) (i := 0) (off := 0) rfl Tryz.sizeOf34 (vs := (GStep.enc y1)) rfl rfl rfl rfl ?_; clear S; intro w6 hk3 S
    refine l_done (then_n (f_seq ?_))
    obtain ⟨j3, hj3, h⟩ := joinE h
    refine f_join (fun a w' => ∃ x3 : Bool, j3 x3 = some r ∧ Sx w [] φ1 [.blk b2 (GStep.enc y1) 34, .own v2 34 8 x1.length (x1.flatMap GStep.enc)] [(0, v1), (5, v2), (7, .pointer (some ⟨b2, 0, none⟩)), (11, v1), (12, iV (r1.length : Int)), (13, iV (i1 : Int)), (29, bV x3)] 36 a w') ?_ ?_
    ·rcases Bool.eq_false_or_eq_true (decide (y1.Kind = 1)) with hb1 | hb1
     ·replace h := iteT h hb1
      obtain ⟨hc1, h⟩ := chkE h
      refine d_region [] ([]) Tryz.mixed S rfl (by kernel_rfl) ?_; clear S; intro w9 hk5 hsel S
      refine d_quiet 0 S hsel rfl rfl rfl (by kernel_rfl) (by kernel_rfl) rfl (fun _ hw => (rn_fld fa_34_1 (S.tm rfl))) ?_; clear S; intro a S
      refine d_quiet 1 S hsel rfl rfl rfl (by kernel_rfl) (by kernel_rfl) rfl (fun _ hw => (rn_ld Tryz.isAgg3 (off := 0) (o := 1) (S.tm rfl) ((S.blk_mem (i := 0) (cells := (GStep.enc y1)) (b := b2) (T := 34) rfl (ne_nil (e' := .blk b2 (GStep.enc y1) 34))).kept hw) rfl)) ?_; clear S; intro a S
      refine d_quiet 2 S hsel rfl rfl rfl (by kernel_rfl) (by kernel_rfl) rfl (fun _ hw => (rn_eql (S.tm rfl) rfl)) ?_; clear S; intro a S
      refine d_quiet 3 S hsel rfl rfl rfl (by kernel_rfl) (by kernel_rfl) rfl (fun _ hw => (rn_move (S.tm rfl))) ?_; clear S; intro a S
      refine d_quiet_g 4 S hsel rfl rfl rfl rfl hb1 rfl rfl (by kernel_rfl) (by kernel_rfl) rfl (fun _ hw => (rn_move (S.tm rfl))) ?_; clear S; intro a S
      refine d_quiet_g 5 S hsel rfl rfl rfl rfl hb1 rfl rfl (by kernel_rfl) (by kernel_rfl) rfl (fun _ hw => (rn_move (S.tm rfl))) ?_; clear S; intro a S
      obtain ⟨v6, hs3, hr4⟩ := rn_cutTh (a := a) (x := .tmp 22) (y' := .tmp 23) (ty := 28) sl_28 (ownV_slcT GStep.enc_ok hs1) (S.tm rfl) (S.tm rfl) hc1
      refine d_quiet_g 6 S hsel rfl rfl rfl rfl hb1 rfl rfl (by kernel_rfl) (by kernel_rfl) rfl (fun _ hw => (hr4 _)) ?_; clear S; intro a S
      clear hr4
      refine d_quiet_g 7 S hsel rfl rfl rfl rfl hb1 rfl rfl (by kernel_rfl) (by kernel_rfl) rfl (fun _ hw => (rn_fld fa_34_2 (S.tm rfl))) ?_; clear S; intro a S
      refine d_quiet_g 8 S hsel rfl rfl rfl rfl hb1 rfl rfl (by kernel_rfl) (by kernel_rfl) rfl (fun _ hw => (rn_ld Tryz.isAgg9 (off := 0) (o := 2) (S.tm rfl) ((S.blk_mem (i := 0) (cells := (GStep.enc y1)) (b := b2) (T := 34) rfl (ne_nil (e' := .blk b2 (GStep.enc y1) 34))).kept hw) rfl)) ?_; clear S; intro a S
      refine d_loud1 9 (by kernel_rfl) rfl (l_want S rfl rfl rfl hb1 (l_enter S (fun _ => run_call (vs := [v6, sV y1.Id]) ⟨(S.tm rfl), (S.tm rfl), trivial⟩ Tryz.call73) (tumbref2_stateOf_ok _ v6 (cut r1 0 (i1 : Int)) (hs3.mono (S.le_new nil_sub)) y1.Id _ rfl) rfl ?_)); clear S; intro v7 a w10 hv3 hk6 hn3 S
      subst hv3
      refine l_done (d_next hk6 (d_rest [10, 11] hsel (by kernel_rfl) rfl ?_))
      clear hsel
      refine s_want S rfl rfl rfl rfl hb1 (s_lv0 S (rn_eql (S.tm rfl) rfl) rfl ?_); clear S; intro a S
      refine s_lv S rfl (rn_pick_b hb1 (S.tm rfl) (S.tm rfl)) rfl ?_; clear S; intro a S
      refine s_done ?_
      replace S := S.nk [.blk b2 (GStep.enc y1) 34, .own v2 34 8 x1.length (x1.flatMap GStep.enc)] [(0, v1), (5, v2), (7, .pointer (some ⟨b2, 0, none⟩)), (11, v1), (12, iV (r1.length : Int)), (13, iV (i1 : Int)), (22, v1), (23, iV (i1 : Int)), (24, v6), (25, .pointer (some ⟨b2, 2, none⟩)), (26, sV y1.Id), (27, iV (tumbref2_stateOf (cut r1 0 (i1 : Int)) y1.Id)), (28, bV (decide ((tumbref2_stateOf (cut r1 0 (i1 : Int)) y1.Id) = 0))), (29, bV (decide ((tumbref2_stateOf (cut r1 0 (i1 : Int)) y1.Id) = 0)))] [true, true] rfl (subR rfl)
      refine then_n ?_
      exact ⟨decide ((tumbref2_stateOf (cut r1 0 (i1 : Int)) y1.Id) = 0), h, S.nf [true, true] rfl (subR rfl)⟩
     ·replace h := iteF h hb1
      refine d_region [] ([]) Tryz.mixed S rfl (by kernel_rfl) ?_; clear S; intro w11 hk7 hsel S
      refine d_rest [0, 1, 2, 3, 4, 5, 6, 7, 8, 9, 10, 11] hsel (by kernel_rfl) rfl ?_
      clear hsel
      refine s_lv S rfl (rn_fld fa_34_1 (S.tm rfl)) rfl ?_; clear S; intro a S
      refine s_lv S rfl (rn_load Tryz.isAgg3 (S.tm rfl) (S.cell (i := 0) rfl rfl)) rfl ?_; clear S; intro a S
      refine s_lv S rfl (rn_eql (S.tm rfl) rfl) rfl ?_; clear S; intro a S
      refine s_lv S rfl (rn_move (S.tm rfl)) rfl ?_; clear S; intro a S
      iterate 7 (refine s_skip S rfl rfl rfl rfl (neq_f hb1) rfl ?_ rfl; clear S; intro a S)
      refine s_lv S rfl (rn_pick_c hb1 (S.tm rfl) rfl) rfl ?_; clear S; intro a S
      refine s_done ?_
      replace S := S.nk [.blk b2 (GStep.enc y1) 34, .own v2 34 8 x1.length (x1.flatMap GStep.enc)] [(0, v1), (5, v2), (7, .pointer (some ⟨b2, 0, none⟩)), (11, v1), (12, iV (r1.length : Int)), (13, iV (i1 : Int)), (29, bV false)] [true, true] rfl (subR rfl)
      refine then_n ?_
      exact ⟨false, h, S.nf [true, true] rfl (subR rfl)⟩
    clear S h; rintro a w7 ⟨x3, h, S⟩; rw [hj3] at h; clear hj3 j3
    refine then_n ?_
    obtain ⟨j4, hj4, h⟩ := joinE h
    refine f_join (fun a w' => ∃ x4 : List GStep, ∃ v8 : Value, j4 x4 = some r ∧ Sx w [] φ1 [.blk b2 (GStep.enc y1) 34, .own v8 34 8 x4.length (x4.flatMap GStep.enc)] [(0, v1), (5, v8), (11, v1), (12, iV (r1.length : Int)), (13, iV (i1 : Int))] 36 a w') ?_ ?_
    ·refine f_cond (S.tm rfl) (fun hb2 => ?_) (fun hb2 => ?_)
     ·replace h := iteT h hb2
      refine f_region (lv S (rn_move (S.tm rfl)) rfl ?_); clear S; intro a S
      refine lv S (rn_ldA Tryz.isAgg34 Tryz.sizeOf34 (off := 0) (o := 0) (part := (GStep.enc y1)) rfl rfl (S.tm rfl) (S.cellsAt (i := 0) rfl)) rfl ?_; clear S; intro a S
      refine l_buildSlice S Tryz.underlying28 Tryz.sizeOf34 Tryz.zeroValue34 rfl rfl (pv := [(0, .agg (GStep.enc y1).toArray)]) ⟨rfl, (S.tm rfl), trivial⟩ (cs := [iV y1.At, iV y1.Kind, sV y1.Id, sV y1.Who, sV y1.Club, sV y1.Race, iV y1.Age, iV y1.Time]) (by kernel_rfl) rfl ?_; clear S; intro a w13 b3 hz3 hk8 S
      obtain ⟨hc2, h⟩ := chkE h
      refine l_appendT sl_28 GStep.enc_ok S (S.tm rfl) (i := 2) rfl (S.tm rfl) (j := 0) rfl (ys := [y1]) rfl rfl rfl rfl (by have := room_lt hc2; omega) rfl ?_; clear S; intro v9 a w14 hk9 S
      refine lv S (rn_assign (S.tm rfl)) rfl ?_; clear S; intro a S
      refine l_done (then_n ?_)
      exact ⟨(x1 ++ [y1]), v9, h, S.nf [false, true, true] rfl (subR rfl)⟩
     ·replace h := iteF h hb2
      refine wp_skip (then_n ?_)
      exact ⟨x1, v2, h, S.nf [true, true] rfl (subR rfl)⟩
    clear S h; rintro a w12 ⟨x4, v8, h, S⟩; rw [hj4] at h; clear hj4 j4
    refine blk_n (then_n ?_)
    exact ⟨x4, v8, h, S.nf [false, true] rfl (subR rfl)⟩
   clear S h; rintro a w4 ⟨x2, v3, h, S⟩; rw [hj2] at h; clear hj2 j2
   refine then_n (f_region (lv S (rn_add (S.tm rfl) rfl) rfl ?_)); clear S; intro a S
   refine lv S (rn_move (S.tm rfl)) rfl ?_; clear S; intro a S
   refine l_done (then_n ?_)
   exact ⟨ys1, ⟨i1 + 1, x2, v3, ⟨_, (hd1).trans (List.append_cons _ _ _), by simp [hi1]⟩, h, S.nf [true] rfl ⟨rfl, rfl, rfl, rfl, (congrArg (fun z => some (Value.int .i64 z)) (rng_next hd1 hi1 (slc_max (ownV_slcT GStep.enc_ok hs1)))), trivial⟩⟩, Nat.lt_succ_self _⟩
 clear S h; rintro a w3 ⟨x1, v2, h, S⟩; rw [hj1] at h; clear hj1 j1
 refine then_n (f_seq (f_region (lv S (rn_move (S.tm rfl)) rfl ?_))); clear S; intro a S
 refine lv S (rn_assign (S.tm rfl)) rfl ?_; clear S; intro a S
 refine l_done (then_n (wp_ret ?_))
 obtain rfl := Option.some.inj h
 exact f_ret S Tryz.results72 rfl (own_retT S (i := 0) rfl rfl)
set_option maxRecDepth 20000 in
theorem tumbref2_valid_ok (w : World) (p_k : GKind) (q_p_k : R55) (hq_p_k : rel_55 (view w []) p_k q_p_k) (v_p_l : Value) (p_l : List GStep) (hs_p_l : Slc (view w []) 8 v_p_l (p_l.map GStep.enc)) (p_at : Int) (r : (List GBest)) (h : tumbref2_valid p_k p_l p_at = some r) :
    Calls Tryz.prog 52 [.agg (R55.enc q_p_k).toArray, v_p_l, iV p_at].toArray w (Ret w [] fun τ v _ => OwnV τ 61 6 v r.length (r.flatMap GBest.enc)) := by
 obtain ⟨u1, rfl, hs1⟩ := hq_p_k
 refine f_enter [] [] Tryz.func52 rfl Tryz.ntmps52 rfl (by simp) (by simp [fps]) (by simp [fps]) fun a S => ?_
 unfold tumbref2_valid at h
 replace S := S.nk [] [(0, .agg #[sV p_k.Key, sV p_k.Race, u1.val, iV p_k.Young, iV p_k.Old]), (1, v_p_l), (2, iV p_at)] [] rfl (subR rfl)
 refine f_seq (f_region (l_box S (S.tm rfl) (cs := [sV p_k.Key, sV p_k.Race, u1.val, iV p_k.Young, iV p_k.Old]) rfl rfl ?_)); clear S; intro a w1 b1 hz1 hk1 S
 refine lv S (rn_assign rfl) rfl ?_; clear S; intro a S
 refine l_done (then_n (f_seq (f_region (lv S (rn_assign rfl) rfl ?_)))); clear S; intro a S
 replace S := S.nil 61 6
 refine l_done (then_n (f_seq (f_seq (f_region (lv S (rn_move (S.tm rfl)) rfl ?_))))); clear S; intro a S
 refine lv S (rn_move (S.tm rfl)) rfl ?_; clear S; intro a S
 obtain ⟨r1, hr1, h⟩ := bindE h
 have hz2 := S.keep.size
 refine l_enter S (fun _ => run_call (vs := [v_p_l, iV p_at]) ⟨(S.tm rfl), (S.tm rfl), trivial⟩ Tryz.call72) (tumbref2_swumBy_ok _ v_p_l p_l (hs_p_l.mono (S.le_arg nil_sub)) p_at _ hr1) rfl ?_; clear S; intro v1 a w2 hv1 hk2 hn1 S
 obtain ⟨φ1, hl1, hm1, S⟩ := S.see' hn1 hz2
 have hs2 := hv1.mono hm1
 refine lv S (rn_lenT sl_28 (S.tm rfl) (slc_len (ownV_slcT GStep.enc_ok hs2))) rfl ?_; clear S; intro a S
 refine lv S (rn_move rfl) rfl ?_; clear S; intro a S
 refine l_done (then_n ?_)
 replace S := S.nk [.own (.slice none 0 0) 61 6 ([] : List GBest).length (([] : List GBest).flatMap GBest.enc), .blk b1 [sV p_k.Key, sV p_k.Race, u1.val, iV p_k.Young, iV p_k.Old] 55] [(1, v_p_l), (2, iV p_at), (3, .pointer (some ⟨b1, 0, none⟩)), (7, (.slice none 0 0)), (13, v1), (14, iV (r1.length : Int)), (15, iV 0)] [true, true] rfl (subR rfl)
 obtain ⟨j1, hj1, h⟩ := joinE h
 refine f_join (fun a w' => ∃ x1 : List GBest, ∃ φ2 : View, ∃ v2 : Value, j1 x1 = some r ∧ View.le φ1 φ2 ∧ Sx w [] φ2 [.own v2 61 6 x1.length (x1.flatMap GBest.enc), .blk b1 [sV p_k.Key, sV p_k.Race, u1.val, iV p_k.Young, iV p_k.Old] 55] [(7, v2)] 50 a w') ?_ ?_
 ·refine wp_block (f_loop (fun (ys1 : List GStep) a w' => ∃ i1 : Nat, ∃ x1 : List GBest, ∃ φ2 : View, ∃ v2 : Value, (∃ dn, r1 = dn ++ ys1 ∧ dn.length = i1) ∧ tumbref2_valid_l1 p_l p_at p_k j1 ys1 i1 x1 = some r ∧ View.le φ1 φ2 ∧ Sx w [] φ2 [.own v2 61 6 x1.length (x1.flatMap GBest.enc), .blk b1 [sV p_k.Key, sV p_k.Race, u1.val, iV p_k.Young, iV p_k.Old] 55] [(1, v_p_l), (2, iV p_at), (3, .pointer (some ⟨b1, 0, none⟩)), (7, v2), (13, v1), (14, iV (r1.length : Int)), (15, iV (i1 : Int))] 50 a w') List.length r1 ⟨0, ([] : List GBest), φ1, (.slice none 0 0), ⟨[], rfl, rfl⟩, h, View.le_refl _, S.nf [true, true] rfl (subR rfl)⟩ ?_)
  clear S h; rintro ys1 a w3 ⟨i1, x1, φ2, v2, ⟨dn, hd1, hi1⟩, h, hl2, S⟩
  cases ys1 with
  | nil =>
   rw [tumbref2_valid_l1.eq_1] at h
   refine f_seq (f_region (lv S (rn_lss (S.tm rfl) (S.tm rfl)) rfl ?_)); clear S; intro a S
   refine l_done ?_
   replace S := S.nk [.own v2 61 6 x1.length (x1.flatMap GBest.enc), .blk b1 [sV p_k.Key, sV p_k.Race, u1.val, iV p_k.Young, iV p_k.Old] 55] [(1, v_p_l), (2, iV p_at), (3, .pointer (some ⟨b1, 0, none⟩)), (7, v2), (13, v1), (14, iV (r1.length : Int)), (15, iV (i1 : Int)), (16, bV (decide ((i1 : Int) < (r1.length : Int))))] [true, true] rfl (subR rfl)
   refine then_n (f_seq (wp_cond_false ((S.tm rfl).trans (congrArg Value.bool (rng_nil hd1 hi1))) (wp_exit (then_x (then_x (x_same ?_))))))
   refine then_n ?_
   exact ⟨x1, φ2, v2, h, hl2, S.nf [true, true] rfl ⟨rfl, trivial⟩⟩
  | cons y1 ys1 =>
   rw [tumbref2_valid_l1.eq_2] at h
   refine f_seq (f_region (lv S (rn_lss (S.tm rfl) (S.tm rfl)) rfl ?_)); clear S; intro a S
   refine l_done ?_
   replace S := S.nk [.own v2 61 6 x1.length (x1.flatMap GBest.enc), .blk b1 [sV p_k.Key, sV p_k.Race, u1.val, iV p_k.Young, iV p_k.Old] 55] [(1, v_p_l), (2, iV p_at), (3, .pointer (some ⟨b1, 0, none⟩)), (7, v2), (13, v1), (14, iV (r1.length : Int)), (15, iV (i1 : Int)), (16, bV (decide ((i1 : Int) < (r1.length : Int))))] [true, true] rfl (subR rfl)
   refine then_n (f_seq (wp_cond_true ((S.tm rfl).trans (congrArg Value.bool (rng_cons hd1 hi1))) (wp_skip (then_n (f_seq ?_)))))
   obtain ⟨j2, hj2, h⟩ := joinE h
   refine f_join (fun a w' => ∃ x2 : List GBest, ∃ φ3 : View, ∃ v3 : Value, j2 x2 = some r ∧ View.le φ2 φ3 ∧ Sx w [] φ3 [.own v3 61 6 x2.length (x2.flatMap GBest.enc), .blk b1 [sV p_k.Key, sV p_k.Race, u1.val, iV p_k.Young, iV p_k.Old] 55] [(1, v_p_l), (2, iV p_at), (3, .pointer (some ⟨b1, 0, none⟩)), (7, v3), (13, v1), (14, iV (r1.length : Int)), (15, iV (i1 : Int))] 50 a w') ?_ ?_
   ·refine wp_block (f_seq (f_region ?_))
    obtain ⟨b2, o1, hm2, hr2⟩ := rn_indexT (a := a) (x := .tmp 13) (y := .tmp 15) (ty := 0) sl_28 (ownV_slcT GStep.enc_ok hs2) (get_mid hd1 hi1) rfl (S.tm rfl) (S.tm rfl)
    refine lv S (hr2 _) rfl ?_; clear S; intro a S
    clear hr2
    refine lv S (rn_ldA Tryz.isAgg34 Tryz.sizeOf34 (off := o1) (o := 0) (part := (GStep.enc y1)) rfl rfl (S.tm rfl) ((hm2.mono hl2).at S.emb)) rfl ?_; clear S; intro a S
    refine l_alloc S Tryz.zeroValue34 (cs := [iV 0, iV 0, sV k_empty, sV k_empty, sV k_empty, sV k_empty, iV 0, iV 0]) rfl rfl ?_; clear S; intro a w6 b3 hz3 hk3 S
    refine l_store S (S.tm rfl) (S.tm rfl) (i := 0) (off := 0) rfl Tryz.sizeOf34 (vs := (GStep.enc y1)) rfl rfl rfl rfl ?_; clear S; intro w7 hk4 S
    refine l_done (then_n (f_seq ?_))
    obtain ⟨r2, hr3, h⟩ := bindE h
    refine d_region [] ([]) Tryz.mixed S rfl (by kernel_rfl) ?_; clear S; intro w10 hk7 hsel S
    refine d_quiet 0 S hsel rfl rfl rfl (by kernel_rfl) (by kernel_rfl) rfl (fun _ hw => (rn_move (S.tm rfl))) ?_; clear S; intro a S
    refine d_quiet 1 S hsel rfl rfl rfl (by kernel_rfl) (by kernel_rfl) rfl (fun _ hw => (rn_move (S.tm rfl))) ?_; clear S; intro a S
    refine d_quiet 3 S hsel rfl rfl rfl (by kernel_rfl) (by kernel_rfl) rfl (fun _ hw => (rn_fld fa_34_2 (S.tm rfl))) ?_; clear S; intro a S
    refine d_quiet 4 S hsel rfl rfl rfl (by kernel_rfl) (by kernel_rfl) rfl (fun _ hw => (rn_ld Tryz.isAgg9 (off := 0) (o := 2) (S.tm rfl) ((S.blk_mem (i := 0) (cells := (GStep.enc y1)) (b := b3) (T := 34) rfl (ne_nil (e' := .blk b3 (GStep.enc y1) 34))).kept hw) rfl)) ?_; clear S; intro a S
    refine d_loud1 2 (by kernel_rfl) rfl ?_
    have hz5 := S.keep.size
    refine l_enter S (fun _ => run_call (vs := [v_p_l, iV p_at]) ⟨(S.tm rfl), (S.tm rfl), trivial⟩ Tryz.call74) (tumbref2_upTo_ok _ v_p_l p_l (hs_p_l.mono (S.le_arg nil_sub)) p_at _ hr3) rfl ?_; clear S; intro v6 a w11 hv4 hk8 hn4 S
    obtain ⟨φ5, hl5, hm4, S⟩ := S.see' hn4 hz5
    have hs4 := hv4.mono hm4
    refine l_done (d_next hk8 (d_loud1 5 (by kernel_rfl) rfl (l_enter S (fun _ => run_call (vs := [v6, sV y1.Id]) ⟨(S.tm rfl), (S.tm rfl), trivial⟩ Tryz.call73) (tumbref2_stateOf_ok _ v6 r2 ((ownV_slcT GStep.enc_ok hs4).mono (S.le_new nil_sub)) y1.Id _ rfl) rfl ?_))); clear S; intro v7 a w12 hv5 hk9 hn5 S
    subst hv5
    refine l_done (d_next hk9 (d_rest [6] hsel (by kernel_rfl) rfl ?_))
    clear hsel
    refine s_lv S rfl (rn_assign (S.tm rfl)) rfl ?_; clear S; intro a S
    refine s_done ?_
    replace S := S.nk [.blk b3 (GStep.enc y1) 34, .own v2 61 6 x1.length (x1.flatMap GBest.enc), .blk b1 [sV p_k.Key, sV p_k.Race, u1.val, iV p_k.Young, iV p_k.Old] 55] [(1, v_p_l), (2, iV p_at), (3, .pointer (some ⟨b1, 0, none⟩)), (7, v2), (9, .pointer (some ⟨b3, 0, none⟩)), (10, iV (tumbref2_stateOf r2 y1.Id)), (13, v1), (14, iV (r1.length : Int)), (15, iV (i1 : Int))] [true, true, true] rfl (subR rfl)
    refine then_n (f_seq (f_region (lv S (rn_ldA Tryz.isAgg55 Tryz.sizeOf55 (off := 0) (o := 0) (part := [sV p_k.Key, sV p_k.Race, u1.val, iV p_k.Young, iV p_k.Old]) rfl rfl (S.tm rfl) (S.cellsAt (i := 2) rfl)) rfl ?_))); clear S; intro a S
    refine lv S (rn_ldA Tryz.isAgg34 Tryz.sizeOf34 (off := 0) (o := 0) (part := (GStep.enc y1)) rfl rfl (S.tm rfl) (S.cellsAt (i := 0) rfl)) rfl ?_; clear S; intro a S
    refine l_enter S (fun _ => run_call (vs := [.agg (R55.enc (R55.mk p_k.Key p_k.Race u1 p_k.Young p_k.Old)).toArray, .agg (GStep.enc y1).toArray]) ⟨(S.tm rfl), (S.tm rfl), trivial⟩ Tryz.call51) (tumbref2_isFor_ok _ p_k (R55.mk p_k.Key p_k.Race u1 p_k.Young p_k.Old) ⟨u1, rfl, (hs1.mono (S.le_arg nil_sub))⟩ y1 _ rfl) rfl ?_; clear S; intro v8 a w13 hv6 hk10 hn6 S
    subst hv6
    refine lv S (rn_move (S.tm rfl)) rfl ?_; clear S; intro a S
    refine f_cutm 3 (fun a w' => Keep [] w13 w' ∧ Sx w [] φ5 [.blk b3 (GStep.enc y1) 34, .own v2 61 6 x1.length (x1.flatMap GBest.enc), .blk b1 [sV p_k.Key, sV p_k.Race, u1.val, iV p_k.Young, iV p_k.Old] 55] [(1, v_p_l), (2, iV p_at), (3, .pointer (some ⟨b1, 0, none⟩)), (7, v2), (9, .pointer (some ⟨b3, 0, none⟩)), (10, iV (tumbref2_stateOf r2 y1.Id)), (13, v1), (14, iV (r1.length : Int)), (15, iV (i1 : Int)), (31, bV ((tumbref2_isFor p_k y1) && (!decide ((tumbref2_stateOf r2 y1.Id) = 3))))] 50 a w') ?_ ?_
    ·rcases Bool.eq_false_or_eq_true (tumbref2_isFor p_k y1) with hb1 | hb1
     ·refine l_want S rfl rfl rfl hb1 (lv S (rn_move (S.tm rfl)) rfl ?_); clear S; intro a S
      refine l_want S rfl rfl rfl hb1 (lv S (rn_neq (S.tm rfl) rfl) rfl ?_); clear S; intro a S
      refine lv S (rn_and_t hb1 (S.tm rfl) (S.tm rfl)) rfl ?_; clear S; intro a S
      refine l_done (then_n ?_)
      exact ⟨Keep.refl _ _, S.nf [true, true, true] rfl (subR rfl)⟩
     ·refine l_skip S rfl rfl rfl (neq_f hb1) rfl ?_ rfl; clear S; intro a S
      refine l_skip S rfl rfl rfl (neq_f hb1) rfl ?_ rfl; clear S; intro a S
      refine lv S (rn_and_f (!decide ((tumbref2_stateOf r2 y1.Id) = 3)) hb1 (S.tm rfl) rfl) rfl ?_; clear S; intro a S
      refine l_done (then_n ?_)
      exact ⟨Keep.refl _ _, S.nf [true, true, true] rfl (subR rfl)⟩
    clear S; rintro a w14 ⟨hk11, S⟩
    refine l_done (then_n ?_)
    obtain ⟨j3, hj3, h⟩ := joinE h
    refine f_join (fun a w' => ∃ x3 : List GBest, ∃ v9 : Value, j3 x3 = some r ∧ Sx w [] φ5 [.own v9 61 6 x3.length (x3.flatMap GBest.enc), .blk b1 [sV p_k.Key, sV p_k.Race, u1.val, iV p_k.Young, iV p_k.Old] 55] [(1, v_p_l), (2, iV p_at), (3, .pointer (some ⟨b1, 0, none⟩)), (7, v9), (13, v1), (14, iV (r1.length : Int)), (15, iV (i1 : Int))] 50 a w') ?_ ?_
    ·refine f_cond (S.tm rfl) (fun hb2 => ?_) (fun hb2 => ?_)
     ·replace h := iteT h hb2
      refine f_region (lv S (rn_move (S.tm rfl)) rfl ?_); clear S; intro a S
      refine lv S (rn_fld fa_55_0 (S.tm rfl)) rfl ?_; clear S; intro a S
      refine lv S (rn_load Tryz.isAgg9 (S.tm rfl) (S.cell (i := 2) rfl rfl)) rfl ?_; clear S; intro a S
      refine lv S (rn_fld fa_34_2 (S.tm rfl)) rfl ?_; clear S; intro a S
      refine lv S (rn_load Tryz.isAgg9 (S.tm rfl) (S.cell (i := 0) rfl rfl)) rfl ?_; clear S; intro a S
      refine lv S (rn_fld fa_34_3 (S.tm rfl)) rfl ?_; clear S; intro a S
      refine lv S (rn_load Tryz.isAgg9 (S.tm rfl) (S.cell (i := 0) rfl rfl)) rfl ?_; clear S; intro a S
      refine lv S (rn_fld fa_34_7 (S.tm rfl)) rfl ?_; clear S; intro a S
      refine lv S (rn_load Tryz.isAgg3 (S.tm rfl) (S.cell (i := 0) rfl rfl)) rfl ?_; clear S; intro a S
      refine lv S (rn_fld fa_34_0 (S.tm rfl)) rfl ?_; clear S; intro a S
      refine lv S (rn_load Tryz.isAgg3 (S.tm rfl) (S.cell (i := 0) rfl rfl)) rfl ?_; clear S; intro a S
      refine lv S (rn_move (S.tm rfl)) rfl ?_; clear S; intro a S
      refine lv S (rn_eql (S.tm rfl) rfl) rfl ?_; clear S; intro a S
      refine lv S (rn_bld bt_61 (pv := [(0, sV p_k.Key), (1, sV y1.Id), (2, sV y1.Who), (3, iV y1.Time), (4, iV y1.At), (5, bV (decide ((tumbref2_stateOf r2 y1.Id) = 2)))]) ⟨rfl, (S.tm rfl), rfl, (S.tm rfl), rfl, (S.tm rfl), rfl, (S.tm rfl), rfl, (S.tm rfl), rfl, (S.tm rfl), trivial⟩ (cs := [sV p_k.Key, sV y1.Id, sV y1.Who, iV y1.Time, iV y1.At, bV (decide ((tumbref2_stateOf r2 y1.Id) = 2))]) (by kernel_rfl)) rfl ?_; clear S; intro a S
      refine l_buildSlice S Tryz.underlying41 Tryz.sizeOf61 Tryz.zeroValue61 rfl rfl (pv := [(0, .agg #[sV p_k.Key, sV y1.Id, sV y1.Who, iV y1.Time, iV y1.At, bV (decide ((tumbref2_stateOf r2 y1.Id) = 2))])]) ⟨rfl, (S.tm rfl), trivial⟩ (cs := [sV p_k.Key, sV y1.Id, sV y1.Who, iV y1.Time, iV y1.At, bV (decide ((tumbref2_stateOf r2 y1.Id) = 2))]) (by kernel_rfl) rfl ?_; clear S; intro a w16 b4 hz6 hk12 S
      obtain ⟨hc1, h⟩ := chkE h
      refine l_appendT sl_41 GBest.enc_ok S (S.tm rfl) (i := 2) rfl (S.tm rfl) (j := 0) rfl (ys := [(GBest.mk p_k.Key y1.Id y1.Who y1.Time y1.At (decide ((tumbref2_stateOf r2 y1.Id) = 2)))]) rfl rfl rfl rfl (by have := room_lt hc1; omega) rfl ?_; clear S; intro v10 a w17 hk13 S
      refine lv S (rn_assign (S.tm rfl)) rfl ?_; clear S; intro a S
      refine l_done ?_
      replace S := S.nk [.own v10 61 6 (x1 ++ [(GBest.mk p_k.Key y1.Id y1.Who y1.Time y1.At (decide ((tumbref2_stateOf r2 y1.Id) = 2)))]).length ((x1 ++ [(GBest.mk p_k.Key y1.Id y1.Who y1.Time y1.At (decide ((tumbref2_stateOf r2 y1.Id) = 2)))]).flatMap GBest.enc), .blk b1 [sV p_k.Key, sV p_k.Race, u1.val, iV p_k.Young, iV p_k.Old] 55] [(1, v_p_l), (2, iV p_at), (3, .pointer (some ⟨b1, 0, none⟩)), (7, v10), (13, v1), (14, iV (r1.length : Int)), (15, iV (i1 : Int))] [false, false, true, true] rfl (subR rfl)
      refine then_n ?_
      exact ⟨(x1 ++ [(GBest.mk p_k.Key y1.Id y1.Who y1.Time y1.At (decide ((tumbref2_stateOf r2 y1.Id) = 2)))]), v10, h, S.nf [true, true] rfl (subR rfl)⟩
     ·replace h := iteF h hb2
      refine wp_skip (then_n ?_)
      exact ⟨x1, v2, h, S.nf [false, true, true] rfl (subR rfl)⟩
    clear S h; rintro a w15 ⟨x3, v9, h, S⟩; rw [hj3] at h; clear hj3 j3
    refine blk_n (then_n ?_)
    exact ⟨x3, φ5, v9, h, hl5, S.nf [true, true] rfl (subR rfl)⟩
   clear S h; rintro a w5 ⟨x2, φ3, v3, h, hl3, S⟩; rw [hj2] at h; clear hj2 j2
   refine then_n (f_region (lv S (rn_add (S.tm rfl) rfl) rfl ?_)); clear S; intro a S
   refine lv S (rn_move (S.tm rfl)) rfl ?_; clear S; intro a S
   refine l_done (then_n ?_)
   exact ⟨ys1, ⟨i1 + 1, x2, φ3, v3, ⟨_, (hd1).trans (List.append_cons _ _ _), by simp [hi1]⟩, h, (View.le_trans hl2 hl3), S.nf [true, true] rfl ⟨rfl, rfl, rfl, rfl, rfl, rfl, (congrArg (fun z => some (Value.int .i64 z)) (rng_next hd1 hi1 (slc_max (ownV_slcT GStep.enc_ok hs2)))), trivial⟩⟩, Nat.lt_succ_self _⟩
 clear S h; rintro a w4 ⟨x1, φ2, v2, h, hl2, S⟩; rw [hj1] at h; clear hj1 j1
 refine then_n (f_seq (f_region (lv S (rn_move (S.tm rfl)) rfl ?_))); clear S; intro a S
 refine lv S (rn_assign (S.tm rfl)) rfl ?_; clear S; intro a S
 refine l_done (then_n (wp_ret ?_))
 obtain rfl := Option.some.inj h
 exact f_ret S Tryz.results52 rfl (own_retT S (i := 0) rfl rfl)
theorem tumbref2_RecordOf_c1_c1_ok (w : World) (p_o : GBest) (b_p_a1 : Nat) (p_a1 : GBest) (hb_b_p_a1 : (view w []) b_p_a1 = some (.cells [sV p_a1.Kind, sV p_a1.Id, sV p_a1.Who, iV p_a1.Time, iV p_a1.Since, bV p_a1.Sure].toArray 61 (0, 0))) (r : Bool) (h : tumbref2_RecordOf_c1_c1 p_o p_a1 = r) :
    Calls Tryz.prog 56 [.agg (GBest.enc p_o).toArray, .pointer (some ⟨b_p_a1, 0, none⟩)].toArray w (Ret w [] fun _ v _ => v = bV r) := by
 refine f_enter [] [] Tryz.func56 rfl Tryz.ntmps56 rfl (by simp) (by simp [fps]) (by simp [fps]) fun a S => ?_
 unfold tumbref2_RecordOf_c1_c1 at h
 replace S := S.nk [] [(0, .agg (GBest.enc p_o).toArray), (1, .pointer (some ⟨b_p_a1, 0, none⟩))] [] rfl (subR rfl)
 refine f_seq (f_region (l_box S (S.tm rfl) (cs := (GBest.enc p_o)) rfl rfl ?_)); clear S; intro a w1 b1 hz1 hk1 S
 refine lv S (rn_assign rfl) rfl ?_; clear S; intro a S
 refine l_done (then_n (f_seq (f_region (lv S (rn_fld fa_61_3 (S.tm rfl)) rfl ?_)))); clear S; intro a S
 refine lv S (rn_load Tryz.isAgg3 (S.tm rfl) (S.cell (i := 0) rfl rfl)) rfl ?_; clear S; intro a S
 refine lv S (rn_fld fa_61_3 (S.tm rfl)) rfl ?_; clear S; intro a S
 refine lv S (rn_ld Tryz.isAgg3 (off := 0) (o := 3) (S.tm rfl) ((mem_blk hb_b_p_a1).at S.emb0) rfl) rfl ?_; clear S; intro a S
 refine lv S (rn_lss (S.tm rfl) (S.tm rfl)) rfl ?_; clear S; intro a S
 refine lv S (rn_assign (S.tm rfl)) rfl ?_; clear S; intro a S
 refine l_done (then_n (wp_ret ?_))
 subst h
 exact f_ret S Tryz.results56 rfl rfl
theorem slices_IndexFunc_Best_tumbref2_RecordOf_c1_c1_ok (w : World) (v_p_s : Value) (p_s : List GBest) (hs_p_s : Slc (view w []) 6 v_p_s (p_s.map GBest.enc)) (b_p_f_0 : Nat) (p_f_0 : GBest) (hb_b_p_f_0 : (view w []) b_p_f_0 = some (.cells [sV p_f_0.Kind, sV p_f_0.Id, sV p_f_0.Who, iV p_f_0.Time, iV p_f_0.Since, bV p_f_0.Sure].toArray 61 (0, 0))) (r : Int) (h : slices_IndexFunc_Best_tumbref2_RecordOf_c1_c1 p_s p_f_0 = r) :
    Calls Tryz.prog 75 [v_p_s, .func (.func 56) #[] #[.pointer (some ⟨b_p_f_0, 0, none⟩)]].toArray w (Ret w [] fun _ v _ => v = iV r) := by
 refine f_enter [] [] Tryz.func75 rfl Tryz.ntmps75 rfl (by simp) (by simp [fps]) (by simp [fps]) fun a S => ?_
 unfold slices_IndexFunc_Best_tumbref2_RecordOf_c1_c1 at h
 replace S := S.nk [] [(0, v_p_s), (1, .func (.func 56) #[] #[.pointer (some ⟨b_p_f_0, 0, none⟩)])] [] rfl (subR rfl)
 refine f_seq (f_region (lv S (rn_assign rfl) rfl ?_)); clear S; intro a S
 refine l_done (then_n (f_seq (f_seq (f_region (lv S (rn_move (S.tm rfl)) rfl ?_))))); clear S; intro a S
 refine lv S (rn_lenT sl_41 (S.tm rfl) (slc_len hs_p_s)) rfl ?_; clear S; intro a S
 refine lv S (rn_move rfl) rfl ?_; clear S; intro a S
 refine l_done (then_n ?_)
 replace S := S.nk [] [(0, v_p_s), (1, .func (.func 56) #[] #[.pointer (some ⟨b_p_f_0, 0, none⟩)]), (7, iV (p_s.length : Int)), (8, iV 0)] [] rfl (subR rfl)
 obtain ⟨j1, hj1, h⟩ := joinE h
 refine f_join (fun a w' => j1 = r ∧ Sx w [] nov [] [] 19 a w') ?_ ?_
 ·refine wp_block (f_loop (fun (ys1 : List GBest) a w' => ∃ i1 : Nat, (∃ dn, p_s = dn ++ ys1 ∧ dn.length = i1) ∧ slices_IndexFunc_Best_tumbref2_RecordOf_c1_c1_l1 p_f_0 j1 ys1 i1 = r ∧ Sx w [] nov [] [(0, v_p_s), (1, .func (.func 56) #[] #[.pointer (some ⟨b_p_f_0, 0, none⟩)]), (7, iV (p_s.length : Int)), (8, iV (i1 : Int))] 19 a w') List.length p_s ⟨0, ⟨[], rfl, rfl⟩, h, S.nf [] rfl (subR rfl)⟩ ?_)
  clear S h; rintro ys1 a w1 ⟨i1, ⟨dn, hd1, hi1⟩, h, S⟩
  cases ys1 with
  | nil =>
   rw [slices_IndexFunc_Best_tumbref2_RecordOf_c1_c1_l1.eq_1] at h
   refine f_seq (f_region (lv S (rn_lss (S.tm rfl) (S.tm rfl)) rfl ?_)); clear S; intro a S
   refine l_done ?_
   replace S := S.nk [] [(0, v_p_s), (1, .func (.func 56) #[] #[.pointer (some ⟨b_p_f_0, 0, none⟩)]), (7, iV (p_s.length : Int)), (8, iV (i1 : Int)), (9, bV (decide ((i1 : Int) < (p_s.length : Int))))] [] rfl (subR rfl)
   refine then_n (f_seq (wp_cond_false ((S.tm rfl).trans (congrArg Value.bool (rng_nil hd1 hi1))) (wp_exit (then_x (then_x (x_same ?_))))))
   refine then_n ?_
   exact ⟨h, S.nf [] rfl trivial⟩
  | cons y1 ys1 =>
   rw [slices_IndexFunc_Best_tumbref2_RecordOf_c1_c1_l1.eq_2] at h
   refine f_seq (f_region (lv S (rn_lss (S.tm rfl) (S.tm rfl)) rfl ?_)); clear S; intro a S
   refine l_done ?_
   replace S := S.nk [] [(0, v_p_s), (1, .func (.func 56) #[] #[.pointer (some ⟨b_p_f_0, 0, none⟩)]), (7, iV (p_s.length : Int)), (8, iV (i1 : Int)), (9, bV (decide ((i1 : Int) < (p_s.length : Int))))] [] rfl (subR rfl)
   refine then_n (f_seq (wp_cond_true ((S.tm rfl).trans (congrArg Value.bool (rng_cons hd1 hi1))) (wp_skip (then_n (f_seq (wp_block ?_))))))
   refine f_seq (f_region (lv S (rn_move (S.tm rfl)) rfl ?_)); clear S; intro a S
   refine lv S (rn_assign (S.tm rfl)) rfl ?_; clear S; intro a S
   refine l_done (then_n (f_seq (f_region (lv S (rn_move (S.tm rfl)) rfl ?_)))); clear S; intro a S
   refine lv S (rn_move (S.tm rfl)) rfl ?_; clear S; intro a S
   refine lv S (rn_move (S.tm rfl)) rfl ?_; clear S; intro a S
   obtain ⟨b1, o1, hm1, hr1⟩ := rn_indexT (a := a) (x := .tmp 12) (y := .tmp 13) (ty := 0) sl_41 hs_p_s (get_mid hd1 hi1) rfl (S.tm rfl) (S.tm rfl)
   refine lv S (hr1 _) rfl ?_; clear S; intro a S
   clear hr1
   refine lv S (rn_ldA Tryz.isAgg61 Tryz.sizeOf61 (off := o1) (o := 0) (part := (GBest.enc y1)) rfl rfl (S.tm rfl) (hm1.at S.emb0)) rfl ?_; clear S; intro a S
   refine l_enter S (fun _ => run_callV (cap := [.pointer (some ⟨b_p_f_0, 0, none⟩)]) (S.tm rfl) (vs := [.agg (GBest.enc y1).toArray]) ⟨(S.tm rfl), trivial⟩ Tryz.call56) (tumbref2_RecordOf_c1_c1_ok _ y1 b_p_f_0 p_f_0 ((S.le_arg nil_sub) _ _ hb_b_p_f_0) _ rfl) rfl ?_; clear S; intro v1 a w3 hv1 hk1 hn1 S
   subst hv1
   refine l_done (then_n (f_cond (S.tm rfl) (fun hb1 => ?_) (fun hb1 => ?_)))
   ·replace h := iteT h hb1
    refine f_seq (f_region (lv S (rn_move (S.tm rfl)) rfl ?_)); clear S; intro a S
    refine lv S (rn_assign (S.tm rfl)) rfl ?_; clear S; intro a S
    refine l_done ?_
    replace S := S.nk [] [(4, iV (i1 : Int))] [] rfl ⟨rfl, trivial⟩
    refine then_n (wp_ret (blk_r (then_r (then_r (blk_r (then_r ?_))))))
    refine then_r ?_
    subst h
    exact f_ret S Tryz.results75 rfl rfl
   ·replace h := iteF h hb1
    refine wp_skip (blk_n (then_n (f_region (lv S (rn_add (S.tm rfl) rfl) rfl ?_)))); clear S; intro a S
    refine lv S (rn_move (S.tm rfl)) rfl ?_; clear S; intro a S
    refine l_done (then_n ?_)
    exact ⟨ys1, ⟨i1 + 1, ⟨_, (hd1).trans (List.append_cons _ _ _), by simp [hi1]⟩, h, S.nf [] rfl ⟨rfl, rfl, rfl, (congrArg (fun z => some (Value.int .i64 z)) (rng_next hd1 hi1 (slc_max hs_p_s))), trivial⟩⟩, Nat.lt_succ_self _⟩
 clear S h; rintro a w2 ⟨h, S⟩; rw [hj1] at h; clear hj1 j1
 refine then_n (f_seq (f_region (lv S (rn_assign rfl) rfl ?_))); clear S; intro a S
 refine l_done (then_n (wp_ret ?_))
 subst h
 exact f_ret S Tryz.results75 rfl rfl
theorem slices_ContainsFunc_Best_tumbref2_RecordOf_c1_c1_ok (w : World) (v_p_s : Value) (p_s : List GBest) (hs_p_s : Slc (view w []) 6 v_p_s (p_s.map GBest.enc)) (b_p_f_0 : Nat) (p_f_0 : GBest) (hb_b_p_f_0 : (view w []) b_p_f_0 = some (.cells [sV p_f_0.Kind, sV p_f_0.Id, sV p_f_0.Who, iV p_f_0.Time, iV p_f_0.Since, bV p_f_0.Sure].toArray 61 (0, 0))) (r : Bool) (h : slices_ContainsFunc_Best_tumbref2_RecordOf_c1_c1 p_s p_f_0 = r) :
    Calls Tryz.prog 55 [v_p_s, .func (.func 56) #[] #[.pointer (some ⟨b_p_f_0, 0, none⟩)]].toArray w (Ret w [] fun _ v _ => v = bV r) := by
 refine f_enter [] [] Tryz.func55 rfl Tryz.ntmps55 rfl (by simp) (by simp [fps]) (by simp [fps]) fun a S => ?_
 unfold slices_ContainsFunc_Best_tumbref2_RecordOf_c1_c1 at h
 replace S := S.nk [] [(0, v_p_s), (1, .func (.func 56) #[] #[.pointer (some ⟨b_p_f_0, 0, none⟩)])] [] rfl (subR rfl)
 refine f_seq (f_region (lv S (rn_assign rfl) rfl ?_)); clear S; intro a S
 refine l_done (then_n (f_seq (f_region (lv S (rn_move (S.tm rfl)) rfl ?_)))); clear S; intro a S
 refine lv S (rn_move (S.tm rfl)) rfl ?_; clear S; intro a S
 refine l_enter S (fun _ => run_call (vs := [v_p_s, .func (.func 56) #[] #[.pointer (some ⟨b_p_f_0, 0, none⟩)]]) ⟨(S.tm rfl), (S.tm rfl), trivial⟩ Tryz.call75) (slices_IndexFunc_Best_tumbref2_RecordOf_c1_c1_ok _ v_p_s p_s (hs_p_s.mono (S.le_arg nil_sub)) b_p_f_0 p_f_0 ((S.le_arg nil_sub) _ _ hb_b_p_f_0) _ rfl) rfl ?_; clear S; intro v1 a w1 hv1 hk1 hn1 S
 subst hv1
 refine lv S (rn_geq (S.tm rfl) rfl) rfl ?_; clear S; intro a S
 refine lv S (rn_assign (S.tm rfl)) rfl ?_; clear S; intro a S
 refine l_done (then_n (wp_ret ?_))
 subst h
 exact f_ret S Tryz.results55 rfl rfl
theorem tumbref2_RecordOf_c1_ok (w : World) (p_b : GBest) (b_p_a1 : Nat) (v_p_a1 : Value) (p_a1 : List GBest) (hs_p_a1 : Slc (view w []) 6 v_p_a1 (p_a1.map GBest.enc)) (hb_b_p_a1 : (view w []) b_p_a1 = some (.cells [v_p_a1].toArray 41 (0, 0))) (r : Bool) (h : tumbref2_RecordOf_c1 p_b p_a1 = r) :
    Calls Tryz.prog 54 [.agg (GBest.enc p_b).toArray, .pointer (some ⟨b_p_a1, 0, none⟩)].toArray w (Ret w [] fun _ v _ => v = bV r) := by
 refine f_enter [] [] Tryz.func54 rfl Tryz.ntmps54 rfl (by simp) (by simp [fps]) (by simp [fps]) fun a S => ?_
 unfold tumbref2_RecordOf_c1 at h
 replace S := S.nk [] [(0, .agg (GBest.enc p_b).toArray), (1, .pointer (some ⟨b_p_a1, 0, none⟩))] [] rfl (subR rfl)
 refine f_seq (f_region (l_box S (S.tm rfl) (cs := (GBest.enc p_b)) rfl rfl ?_)); clear S; intro a w1 b1 hz1 hk1 S
 refine lv S (rn_assign rfl) rfl ?_; clear S; intro a S
 refine l_done (then_n (f_seq (f_region (lv S (rn_ld Tryz.isAgg41 (off := 0) (o := 0) (S.tm rfl) ((mem_blk hb_b_p_a1).at S.emb0) rfl) rfl ?_)))); clear S; intro a S
 refine lv S (rn_makeFunc (us := #[]) (xs := [].toArray) (ys := [.tmp 2].toArray) (by simp) (evA ⟨(S.tm rfl), trivial⟩ (vs := [.pointer (some ⟨b1, 0, none⟩)]))) rfl ?_; clear S; intro a S
 refine l_enter S (fun _ => run_call (vs := [v_p_a1, .func (.func 56) #[] #[.pointer (some ⟨b1, 0, none⟩)]]) ⟨(S.tm rfl), (S.tm rfl), trivial⟩ Tryz.call55) (slices_ContainsFunc_Best_tumbref2_RecordOf_c1_c1_ok _ v_p_a1 p_a1 (hs_p_a1.mono (S.le_arg nil_sub)) b1 p_b (S.blk_view (i := 0) rfl ((ne_nil (e' := .blk b1 (GBest.enc p_b) 61)) _ rfl)) _ rfl) rfl ?_; clear S; intro v1 a w2 hv1 hk2 hn1 S
 subst hv1
 refine lv S (rn_assign (S.tm rfl)) rfl ?_; clear S; intro a S
 refine l_done (then_n (wp_ret ?_))
 subst h
 exact f_ret S Tryz.results54 rfl rfl
theorem slices_IndexFunc_Best_tumbref2_RecordOf_c1_ok (w : World) (v_p_s : Value) (p_s : List GBest) (hs_p_s : Slc (view w []) 6 v_p_s (p_s.map GBest.enc)) (b_p_f_0 : Nat) (v_p_f_0 : Value) (p_f_0 : List GBest) (hs_p_f_0 : Slc (view w []) 6 v_p_f_0 (p_f_0.map GBest.enc)) (hb_b_p_f_0 : (view w []) b_p_f_0 = some (.cells [v_p_f_0].toArray 41 (0, 0))) (r : Int) (h : slices_IndexFunc_Best_tumbref2_RecordOf_c1 p_s p_f_0 = r) :
    Calls Tryz.prog 75 [v_p_s, .func (.func 54) #[] #[.pointer (some ⟨b_p_f_0, 0, none⟩)]].toArray w (Ret w [] fun _ v _ => v = iV r) := by
 refine f_enter [] [] Tryz.func75 rfl Tryz.ntmps75 rfl (by simp) (by simp [fps]) (by simp [fps]) fun a S => ?_
 unfold slices_IndexFunc_Best_tumbref2_RecordOf_c1 at h
 replace S := S.nk [] [(0, v_p_s), (1, .func (.func 54) #[] #[.pointer (some ⟨b_p_f_0, 0, none⟩)])] [] rfl (subR rfl)
 refine f_seq (f_region (lv S (rn_assign rfl) rfl ?_)); clear S; intro a S
 refine l_done (then_n (f_seq (f_seq (f_region (lv S (rn_move (S.tm rfl)) rfl ?_))))); clear S; intro a S
 refine lv S (rn_lenT sl_41 (S.tm rfl) (slc_len hs_p_s)) rfl ?_; clear S; intro a S
 refine lv S (rn_move rfl) rfl ?_; clear S; intro a S
 refine l_done (then_n ?_)
 replace S := S.nk [] [(0, v_p_s), (1, .func (.func 54) #[] #[.pointer (some ⟨b_p_f_0, 0, none⟩)]), (7, iV (p_s.length : Int)), (8, iV 0)] [] rfl (subR rfl)
 obtain ⟨j1, hj1, h⟩ := joinE h
 refine f_join (fun a w' => j1 = r ∧ Sx w [] nov [] [] 19 a w') ?_ ?_
 ·refine wp_block (f_loop (fun (ys1 : List GBest) a w' => ∃ i1 : Nat, (∃ dn, p_s = dn ++ ys1 ∧ dn.length = i1) ∧ slices_IndexFunc_Best_tumbref2_RecordOf_c1_l1 p_f_0 j1 ys1 i1 = r ∧ Sx w [] nov [] [(0, v_p_s), (1, .func (.func 54) #[] #[.pointer (some ⟨b_p_f_0, 0, none⟩)]), (7, iV (p_s.length : Int)), (8, iV (i1 : Int))] 19 a w') List.length p_s ⟨0, ⟨[], rfl, rfl⟩, h, S.nf [] rfl (subR rfl)⟩ ?_)
  clear S h; rintro ys1 a w1 ⟨i1, ⟨dn, hd1, hi1⟩, h, S⟩
  cases ys1 with
  | nil =>
   rw [slices_IndexFunc_Best_tumbref2_RecordOf_c1_l1.eq_1] at h
   refine f_seq (f_region (lv S (rn_lss (S.tm rfl) (S.tm rfl)) rfl ?_)); clear S; intro a S
   refine l_done ?_
   replace S := S.nk [] [(0, v_p_s), (1, .func (.func 54) #[] #[.pointer (some ⟨b_p_f_0, 0, none⟩)]), (7, iV (p_s.length : Int)), (8, iV (i1 : Int)), (9, bV (decide ((i1 : Int) < (p_s.length : Int))))] [] rfl (subR rfl)
   refine then_n (f_seq (wp_cond_false ((S.tm rfl).trans (congrArg Value.bool (rng_nil hd1 hi1))) (wp_exit (then_x (then_x (x_same ?_))))))
   refine then_n ?_
   exact ⟨h, S.nf [] rfl trivial⟩
  | cons y1 ys1 =>
   rw [slices_IndexFunc_Best_tumbref2_RecordOf_c1_l1.eq_2] at h
   refine f_seq (f_region (lv S (rn_lss (S.tm rfl) (S.tm rfl)) rfl ?_)); clear S; intro a S
   refine l_done ?_
   replace S := S.nk [] [(0, v_p_s), (1, .func (.func 54) #[] #[.pointer (some ⟨b_p_f_0, 0, none⟩)]), (7, iV (p_s.length : Int)), (8, iV (i1 : Int)), (9, bV (decide ((i1 : Int) < (p_s.length : Int))))] [] rfl (subR rfl)
   refine then_n (f_seq (wp_cond_true ((S.tm rfl).trans (congrArg Value.bool (rng_cons hd1 hi1))) (wp_skip (then_n (f_seq (wp_block ?_))))))
   refine f_seq (f_region (lv S (rn_move (S.tm rfl)) rfl ?_)); clear S; intro a S
   refine lv S (rn_assign (S.tm rfl)) rfl ?_; clear S; intro a S
   refine l_done (then_n (f_seq (f_region (lv S (rn_move (S.tm rfl)) rfl ?_)))); clear S; intro a S
   refine lv S (rn_move (S.tm rfl)) rfl ?_; clear S; intro a S
   refine lv S (rn_move (S.tm rfl)) rfl ?_; clear S; intro a S
   obtain ⟨b1, o1, hm1, hr1⟩ := rn_indexT (a := a) (x := .tmp 12) (y := .tmp 13) (ty := 0) sl_41 hs_p_s (get_mid hd1 hi1) rfl (S.tm rfl) (S.tm rfl)
   refine lv S (hr1 _) rfl ?_; clear S; intro a S
   clear hr1
   refine lv S (rn_ldA Tryz.isAgg61 Tryz.sizeOf61 (off := o1) (o := 0) (part := (GBest.enc y1)) rfl rfl (S.tm rfl) (hm1.at S.emb0)) rfl ?_; clear S; intro a S
   refine l_enter S (fun _ => run_callV (cap := [.pointer (some ⟨b_p_f_0, 0, none⟩)]) (S.tm rfl) (vs := [.agg (GBest.enc y1).toArray]) ⟨(S.tm rfl), trivial⟩ Tryz.call54) (tumbref2_RecordOf_c1_ok _ y1 b_p_f_0 v_p_f_0 p_f_0 (hs_p_f_0.mono (S.le_arg nil_sub)) ((S.le_arg nil_sub) _ _ hb_b_p_f_0) _ rfl) rfl ?_; clear S; intro v1 a w3 hv1 hk1 hn1 S
   subst hv1
   refine l_done (then_n (f_cond (S.tm rfl) (fun hb1 => ?_) (fun hb1 => ?_)))
   ·replace h := iteT h hb1
    refine f_seq (f_region (lv S (rn_move (S.tm rfl)) rfl ?_)); clear S; intro a S
    refine lv S (rn_assign (S.tm rfl)) rfl ?_; clear S; intro a S
    refine l_done ?_
    replace S := S.nk [] [(4, iV (i1 : Int))] [] rfl ⟨rfl, trivial⟩
    refine then_n (wp_ret (blk_r (then_r (then_r (blk_r (then_r ?_))))))
    refine then_r ?_
    subst h
    exact f_ret S Tryz.results75 rfl rfl
   ·replace h := iteF h hb1
    refine wp_skip (blk_n (then_n (f_region (lv S (rn_add (S.tm rfl) rfl) rfl ?_)))); clear S; intro a S
    refine lv S (rn_move (S.tm rfl)) rfl ?_; clear S; intro a S
    refine l_done (then_n ?_)
    exact ⟨ys1, ⟨i1 + 1, ⟨_, (hd1).trans (List.append_cons _ _ _), by simp [hi1]⟩, h, S.nf [] rfl ⟨rfl, rfl, rfl, (congrArg (fun z => some (Value.int .i64 z)) (rng_next hd1 hi1 (slc_max hs_p_s))), trivial⟩⟩, Nat.lt_succ_self _⟩
 clear S h; rintro a w2 ⟨h, S⟩; rw [hj1] at h; clear hj1 j1
 refine then_n (f_seq (f_region (lv S (rn_assign rfl) rfl ?_))); clear S; intro a S
 refine l_done (then_n (wp_ret ?_))
 subst h
 exact f_ret S Tryz.results75 rfl rfl
theorem slices_DeleteFunc_Best_tumbref2_RecordOf_c1_ok (w : World) (v_p_s : Value) (p_s : List GBest) (hb_p_s : (LEnt.own v_p_s 61 6 p_s.length (p_s.flatMap GBest.enc)).holds w) (b_p_del_0 : Nat) (v_p_del_0 : Value) (p_del_0 : List GBest) (hs_p_del_0 : Slc (view w (v_p_s.ownBlock.toList)) 6 v_p_del_0 (p_del_0.map GBest.enc)) (hb_b_p_del_0 : (view w (v_p_s.ownBlock.toList)) b_p_del_0 = some (.cells [v_p_del_0].toArray 41 (0, 0))) (r : (List GBest)) (h : slices_DeleteFunc_Best_tumbref2_RecordOf_c1 p_s p_del_0 = some r) :
    Calls Tryz.prog 53 [v_p_s, .func (.func 54) #[] #[.pointer (some ⟨b_p_del_0, 0, none⟩)]].toArray w (Ret w (v_p_s.ownBlock.toList) fun _ v w' => (LEnt.own v 61 6 r.length (r.flatMap GBest.enc)).holds w' ∧ ∀ c, v.ownBlock = some c → v_p_s.ownBlock = some c) := by
 refine f_enter (v_p_s.ownBlock.toList) [.own v_p_s 61 6 p_s.length (p_s.flatMap GBest.enc)] Tryz.func53 rfl Tryz.ntmps53 rfl (fun e he => by simp only [List.mem_singleton] at he; subst he; exact hb_p_s) (fps_one_nodup _) (fps_one_sub _) fun a S => ?_
 unfold slices_DeleteFunc_Best_tumbref2_RecordOf_c1 at h
 replace S := S.nk [.own v_p_s 61 6 p_s.length (p_s.flatMap GBest.enc)] [(0, v_p_s), (1, .func (.func 54) #[] #[.pointer (some ⟨b_p_del_0, 0, none⟩)])] [true] rfl (subR rfl)
 refine f_seq (f_region (lv S (rn_assign rfl) rfl ?_)); clear S; intro a S
 refine l_done (then_n (f_seq (f_region (lv S (rn_move (S.tm rfl)) rfl ?_)))); clear S; intro a S
 refine lv S (rn_move (S.tm rfl)) rfl ?_; clear S; intro a S
 refine l_enter S (fun _ => run_call (vs := [v_p_s, .func (.func 54) #[] #[.pointer (some ⟨b_p_del_0, 0, none⟩)]]) ⟨(S.tm rfl), (S.tm rfl), trivial⟩ Tryz.call75) (slices_IndexFunc_Best_tumbref2_RecordOf_c1_ok _ v_p_s p_s (own_slcT GBest.enc_ok S (i := 0) rfl (ne_nil (e' := .own v_p_s 61 6 p_s.length (p_s.flatMap GBest.enc)))) b_p_del_0 v_p_del_0 p_del_0 (hs_p_del_0.mono (S.le_arg nil_sub)) ((S.le_arg nil_sub) _ _ hb_b_p_del_0) _ rfl) rfl ?_; clear S; intro v1 a w1 hv1 hk1 hn1 S
 subst hv1
 refine lv S (rn_assign (S.tm rfl)) rfl ?_; clear S; intro a S
 refine l_done (then_n (f_seq (f_seq (f_region (lv S (rn_move (S.tm rfl)) rfl ?_))))); clear S; intro a S
 refine lv S (rn_eql (S.tm rfl) rfl) rfl ?_; clear S; intro a S
 refine l_done (then_n (f_cond (S.tm rfl) (fun hb1 => ?_) (fun hb1 => ?_)))
 ·replace h := iteT h hb1
  refine f_seq (f_region (lv S (rn_move (S.tm rfl)) rfl ?_)); clear S; intro a S
  refine lv S (rn_assign (S.tm rfl)) rfl ?_; clear S; intro a S
  refine l_done (then_n (wp_ret (then_r ?_)))
  obtain rfl := Option.some.inj h
  exact f_ret S Tryz.results53 rfl ⟨(S.holds _ (List.mem_of_getElem? (i := 0) rfl)), (fun _ h => h)⟩
 ·replace h := iteF h hb1
  refine wp_skip (then_n (f_seq (f_seq (f_region (lv S (rn_move (S.tm rfl)) rfl ?_))))); clear S; intro a S
  refine lv S (rn_add (S.tm rfl) rfl) rfl ?_; clear S; intro a S
  refine lv S (rn_assign (S.tm rfl)) rfl ?_; clear S; intro a S
  refine l_done (then_n ?_)
  replace S := S.nk [.own v_p_s 61 6 p_s.length (p_s.flatMap GBest.enc)] [(0, v_p_s), (1, .func (.func 54) #[] #[.pointer (some ⟨b_p_del_0, 0, none⟩)]), (5, iV (slices_IndexFunc_Best_tumbref2_RecordOf_c1 p_s p_del_0)), (6, iV (W ((slices_IndexFunc_Best_tumbref2_RecordOf_c1 p_s p_del_0) + 1)))] [true] rfl (subR rfl)
  obtain ⟨j1, hj1, h⟩ := joinE h
  refine f_join (fun a w' => ∃ x1 : List GBest, ∃ x2 : Int, j1 x1 x2 = some r ∧ Sx w (v_p_s.ownBlock.toList) nov [.own v_p_s 61 6 x1.length (x1.flatMap GBest.enc)] [(0, v_p_s), (5, iV x2)] 42 a w') ?_ ?_
  ·refine wp_block (f_loop (fun (m1 : Nat) a w' => ∃ x1 : List GBest, ∃ x2 : Int, ∃ x3 : Int, slices_DeleteFunc_Best_tumbref2_RecordOf_c1_l1 p_del_0 j1 m1 x1 x2 x3 = some r ∧ Sx w (v_p_s.ownBlock.toList) nov [.own v_p_s 61 6 x1.length (x1.flatMap GBest.enc)] [(0, v_p_s), (1, .func (.func 54) #[] #[.pointer (some ⟨b_p_del_0, 0, none⟩)]), (5, iV x2), (6, iV x3)] 42 a w') id (((p_s.length : Int) - (W ((slices_IndexFunc_Best_tumbref2_RecordOf_c1 p_s p_del_0) + 1))).toNat + 2) ⟨p_s, (slices_IndexFunc_Best_tumbref2_RecordOf_c1 p_s p_del_0), W ((slices_IndexFunc_Best_tumbref2_RecordOf_c1 p_s p_del_0) + 1), h, S.nf [true] rfl (subR rfl)⟩ ?_)
   clear S h; rintro m1 a w2 ⟨x1, x2, x3, h, S⟩
   cases m1 with
   | zero => rw [slices_DeleteFunc_Best_tumbref2_RecordOf_c1_l1.eq_1] at h; cases h
   | succ m1 =>
    rw [slices_DeleteFunc_Best_tumbref2_RecordOf_c1_l1.eq_2] at h
    refine f_seq (f_seq (f_region (lv S (rn_move (S.tm rfl)) rfl ?_))); clear S; intro a S
    refine lv S (rn_move (S.tm rfl)) rfl ?_; clear S; intro a S
    refine lv S (rn_lenT sl_41 (S.tm rfl) (own_len (S.own_at (i := 0) rfl))) rfl ?_; clear S; intro a S
    refine lv S (rn_lss (S.tm rfl) (S.tm rfl)) rfl ?_; clear S; intro a S
    refine l_done (then_n (f_cond (S.tm rfl) (fun hb2 => ?_) (fun hb2 => ?_)))
    ·replace h := iteT h hb2
     refine wp_skip (then_n (f_seq ?_))
     obtain ⟨j2, hj2, h⟩ := joinE h
     refine f_join (fun a w' => ∃ x4 : List GBest, ∃ x5 : Int, j2 x4 x5 = some r ∧ Sx w (v_p_s.ownBlock.toList) nov [.own v_p_s 61 6 x4.length (x4.flatMap GBest.enc)] [(0, v_p_s), (1, .func (.func 54) #[] #[.pointer (some ⟨b_p_del_0, 0, none⟩)]), (5, iV x5), (6, iV x3)] 42 a w') ?_ ?_
     ·refine wp_block (f_seq (f_region (lv S (rn_move (S.tm rfl)) rfl ?_))); clear S; intro a S
      refine lv S (rn_move (S.tm rfl)) rfl ?_; clear S; intro a S
      obtain ⟨hc1, h⟩ := chkE h
      obtain ⟨b1, hg1, hr1⟩ := rn_indexS (a := a) (x := .tmp 22) (y := .tmp 23) (ty := 0) sl_41 GBest.enc_ok S (i := 0) rfl (inB_get hc1).1 (inB_get hc1).2 (S.tm rfl) (S.tm rfl)
      refine lv S (hr1 _) rfl ?_; clear S; intro a S
      clear hr1
      refine lv S (rn_ldA Tryz.isAgg61 Tryz.sizeOf61 (off := x3.toNat * 6) (o := 0) (part := (GBest.enc (nth x1 x3))) rfl rfl (S.tm rfl) (own_cells GBest.enc_ok S (i := 0) rfl hg1 (inB_get hc1).1)) rfl ?_; clear S; intro a S
      refine l_alloc S Tryz.zeroValue61 (cs := [sV k_empty, sV k_empty, sV k_empty, iV 0, iV 0, bV false]) rfl rfl ?_; clear S; intro a w5 b2 hz1 hk2 S
      refine l_store S (S.tm rfl) (S.tm rfl) (i := 0) (off := 0) rfl Tryz.sizeOf61 (vs := (GBest.enc (nth x1 x3))) rfl rfl rfl rfl ?_; clear S; intro w6 hk3 S
      refine l_done (then_n (f_seq (f_region (lv S (rn_move (S.tm rfl)) rfl ?_)))); clear S; intro a S
      refine lv S (rn_ldA Tryz.isAgg61 Tryz.sizeOf61 (off := 0) (o := 0) (part := (GBest.enc (nth x1 x3))) rfl rfl (S.tm rfl) (S.cellsAt (i := 0) rfl)) rfl ?_; clear S; intro a S
      refine l_enter S (fun _ => run_callV (cap := [.pointer (some ⟨b_p_del_0, 0, none⟩)]) (S.tm rfl) (vs := [.agg (GBest.enc (nth x1 x3)).toArray]) ⟨(S.tm rfl), trivial⟩ Tryz.call54) (tumbref2_RecordOf_c1_ok _ (nth x1 x3) b_p_del_0 v_p_del_0 p_del_0 (hs_p_del_0.mono (S.le_arg nil_sub)) ((S.le_arg nil_sub) _ _ hb_b_p_del_0) _ rfl) rfl ?_; clear S; intro v2 a w7 hv2 hk4 hn2 S
      subst hv2
      refine lv S (rn_not (S.tm rfl)) rfl ?_; clear S; intro a S
      refine l_done ?_
      replace S := S.nk [.blk b2 (GBest.enc (nth x1 x3)) 61, .own v_p_s 61 6 x1.length (x1.flatMap GBest.enc)] [(0, v_p_s), (1, .func (.func 54) #[] #[.pointer (some ⟨b_p_del_0, 0, none⟩)]), (5, iV x2), (6, iV x3), (7, .pointer (some ⟨b2, 0, none⟩)), (29, bV (!(tumbref2_RecordOf_c1 (nth x1 x3) p_del_0)))] [true, true] rfl (subR rfl)
      refine then_n ?_
      obtain ⟨j3, hj3, h⟩ := joinE h
      refine f_join (fun a w' => ∃ x6 : List GBest, ∃ x7 : Int, j3 x6 x7 = some r ∧ Sx w (v_p_s.ownBlock.toList) nov [.blk b2 (GBest.enc (nth x1 x3)) 61, .own v_p_s 61 6 x6.length (x6.flatMap GBest.enc)] [(0, v_p_s), (1, .func (.func 54) #[] #[.pointer (some ⟨b_p_del_0, 0, none⟩)]), (5, iV x7), (6, iV x3)] 42 a w') ?_ ?_
      ·refine f_cond (S.tm rfl) (fun hb3 => ?_) (fun hb3 => ?_)
       ·replace h := iteT h hb3
        refine f_seq (f_region (lv S (rn_move (S.tm rfl)) rfl ?_)); clear S; intro a S
        refine lv S (rn_move (S.tm rfl)) rfl ?_; clear S; intro a S
        refine lv S (rn_ldA Tryz.isAgg61 Tryz.sizeOf61 (off := 0) (o := 0) (part := (GBest.enc (nth x1 x3))) rfl rfl (S.tm rfl) (S.cellsAt (i := 0) rfl)) rfl ?_; clear S; intro a S
        obtain ⟨hc2, h⟩ := chkE h
        obtain ⟨b3, hg2, hr2⟩ := rn_indexS (a := a) (x := .tmp 30) (y := .tmp 31) (ty := 0) sl_41 GBest.enc_ok S (i := 1) rfl (inB_get hc2).1 (inB_get hc2).2 (S.tm rfl) (S.tm rfl)
        refine lv S (hr2 _) rfl ?_; clear S; intro a S
        clear hr2
        refine l_storeO (c := 0) (j := x2.toNat) (nth x1 x3) GBest.enc_ok S (S.tm rfl) (S.tm rfl) (i := 1) rfl hg2 (inB_get hc2).1 Tryz.sizeOf61 (vs := [sV ((nth x1 x3).Kind), sV ((nth x1 x3).Id), sV ((nth x1 x3).Who), iV ((nth x1 x3).Time), iV ((nth x1 x3).Since), bV ((nth x1 x3).Sure)]) rfl rfl rfl rfl rfl ?_; clear S; intro w10 hk6 S
        refine l_done (then_n (f_region (lv S (rn_move (S.tm rfl)) rfl ?_))); clear S; intro a S
        refine lv S (rn_add (S.tm rfl) rfl) rfl ?_; clear S; intro a S
        refine lv S (rn_assign (S.tm rfl)) rfl ?_; clear S; intro a S
        refine l_done (then_n ?_)
        exact ⟨(x1.set x2.toNat (nth x1 x3)), W (x2 + 1), h, S.nf [true, true] rfl (subR rfl)⟩
       ·replace h := iteF h hb3
        refine wp_skip (then_n ?_)
        exact ⟨x1, x2, h, S.nf [true, true] rfl (subR rfl)⟩
      clear S h; rintro a w8 ⟨x6, x7, h, S⟩; rw [hj3] at h; clear hj3 j3
      refine blk_n (then_n ?_)
      exact ⟨x6, x7, h, S.nf [false, true] rfl (subR rfl)⟩
     clear S h; rintro a w4 ⟨x4, x5, h, S⟩; rw [hj2] at h; clear hj2 j2
     refine then_n (f_region (lv S (rn_move (S.tm rfl)) rfl ?_)); clear S; intro a S
     refine lv S (rn_add (S.tm rfl) rfl) rfl ?_; clear S; intro a S
     refine lv S (rn_assign (S.tm rfl)) rfl ?_; clear S; intro a S
     refine l_done (then_n ?_)
     exact ⟨m1, ⟨x4, x5, W (x3 + 1), h, S.nf [true] rfl ⟨rfl, rfl, rfl, rfl, trivial⟩⟩, Nat.lt_succ_self _⟩
    ·replace h := iteF h hb2
     refine wp_exit (then_x (then_x (x_same (then_n ?_))))
     exact ⟨x1, x2, h, S.nf [true] rfl (subR rfl)⟩
  clear S h; rintro a w3 ⟨x1, x2, h, S⟩; rw [hj1] at h; clear hj1 j1
  refine then_n (f_seq (f_region (lv S (rn_move (S.tm rfl)) rfl ?_))); clear S; intro a S
  refine lv S (rn_move (S.tm rfl)) rfl ?_; clear S; intro a S
  obtain ⟨hc3, h⟩ := chkE h
  obtain ⟨u1, hu1, hr3⟩ := rn_subl (a := a) (x := .tmp 36) (y := .tmp 37) (ty := 41) sl_41 S (i := 0) rfl (S.tm rfl) (S.tm rfl) hc3
  refine lv S (hr3 _) rfl ?_; clear S; intro a S
  clear hr3
  refine l_clear (zl := x2) (zh := (x1.length : Int)) (z := (GBest.mk k_empty k_empty k_empty 0 0 false)) sl_41 rfl GBest.enc_ok S (i := 0) rfl hu1 (S.tm rfl) Tryz.zeroValue61 rfl ?_; clear S; intro w11 hk7 S
  refine l_done (then_n (f_seq (f_region (lv S (rn_move (S.tm rfl)) rfl ?_)))); clear S; intro a S
  refine lv S (rn_move (S.tm rfl)) rfl ?_; clear S; intro a S
  obtain ⟨hc4, h⟩ := chkE h
  obtain ⟨u2, hu2, hr4⟩ := rn_subh (a := a) (x := .tmp 39) (y' := .tmp 40) (ty := 41) sl_41 S (i := 0) rfl (S.tm rfl) (S.tm rfl) hc4
  refine lv S (hr4 _) rfl ?_; clear S; intro a S
  clear hr4
  refine lv S (rn_assign (S.tm rfl)) rfl ?_; clear S; intro a S
  refine l_done (then_n (wp_ret ?_))
  obtain ⟨S, hz2⟩ := S.ownCut (zh := x2) GBest.enc_ok (i := 0) rfl hu2
  obtain rfl := Option.some.inj h
  exact f_ret S Tryz.results53 rfl ⟨(S.holds _ (List.mem_of_getElem? (i := 0) rfl)), hz2⟩
theorem tumbref2_RecordOf_ok (w : World) (p_k : GKind) (q_p_k : R55) (hq_p_k : rel_55 (view w []) p_k q_p_k) (v_p_l : Value) (p_l : List GStep) (hs_p_l : Slc (view w []) 8 v_p_l (p_l.map GStep.enc)) (p_at : Int) (r : (List GBest)) (h : tumbref2_RecordOf p_k p_l p_at = some r) :
    Calls Tryz.prog 24 [.agg (R55.enc q_p_k).toArray, v_p_l, iV p_at].toArray w (Ret w [] fun τ v _ => OwnV τ 61 6 v r.length (r.flatMap GBest.enc)) := by
 obtain ⟨u1, rfl, hs1⟩ := hq_p_k
 refine f_enter [] [] Tryz.func24 rfl Tryz.ntmps24 rfl (by simp) (by simp [fps]) (by simp [fps]) fun a S => ?_
 unfold tumbref2_RecordOf at h
 replace S := S.nk [] [(0, .agg #[sV p_k.Key, sV p_k.Race, u1.val, iV p_k.Young, iV p_k.Old]), (1, v_p_l), (2, iV p_at)] [] rfl (subR rfl)
 refine f_seq (f_region (l_box S (S.tm rfl) (cs := [sV p_k.Key, sV p_k.Race, u1.val, iV p_k.Young, iV p_k.Old]) rfl rfl ?_)); clear S; intro a w1 b1 hz1 hk1 S
 refine lv S (rn_assign rfl) rfl ?_; clear S; intro a S
 refine l_done (then_n (f_seq (f_region (lv S (rn_ldA Tryz.isAgg55 Tryz.sizeOf55 (off := 0) (o := 0) (part := [sV p_k.Key, sV p_k.Race, u1.val, iV p_k.Young, iV p_k.Old]) rfl rfl (S.tm rfl) (S.cellsAt (i := 0) rfl)) rfl ?_)))); clear S; intro a S
 refine lv S (rn_move (S.tm rfl)) rfl ?_; clear S; intro a S
 refine lv S (rn_move (S.tm rfl)) rfl ?_; clear S; intro a S
 obtain ⟨r1, hr1, h⟩ := bindE h
 have hz2 := S.keep.size
 refine l_enter S (fun _ => run_call (vs := [.agg (R55.enc (R55.mk p_k.Key p_k.Race u1 p_k.Young p_k.Old)).toArray, v_p_l, iV p_at]) ⟨(S.tm rfl), (S.tm rfl), (S.tm rfl), trivial⟩ Tryz.call52) (tumbref2_valid_ok _ p_k (R55.mk p_k.Key p_k.Race u1 p_k.Young p_k.Old) ⟨u1, rfl, (hs1.mono (S.le_arg nil_sub))⟩ v_p_l p_l (hs_p_l.mono (S.le_arg nil_sub)) p_at _ hr1) rfl ?_; clear S; intro v1 a w2 hv1 hk2 hn1 S
 obtain ⟨φ1, hl1, hm1, S⟩ := S.see' hn1 hz2
 have hs2 := hv1.mono hm1
 refine l_alloc S Tryz.zeroValue41 (cs := [.slice none 0 0]) rfl rfl ?_; clear S; intro a w3 b2 hz3 hk3 S
 refine l_store S (S.tm rfl) (S.tm rfl) (i := 0) (off := 0) rfl Tryz.sizeOf41 (vs := [v1]) (SlcLen.cells (slc_len (ownV_slcT GBest.enc_ok hs2))) rfl rfl (all1 (SlcLen.one (slc_len (ownV_slcT GBest.enc_ok hs2))) rfl) ?_; clear S; intro w4 hk4 S
 refine l_done (then_n (f_seq (f_region (lv S (rn_load Tryz.isAgg41 (S.tm rfl) (S.cell (i := 0) rfl rfl)) rfl ?_)))); clear S; intro a S
 obtain ⟨r2, hr2, h⟩ := bindE h
 have hz4 := S.keep.size
 refine l_enter S (fun _ => run_call (vs := [v1]) ⟨(S.tm rfl), trivial⟩ Tryz.call42) (slices_Clone_Best_ok _ v1 r1 ((ownV_slcT GBest.enc_ok hs2).mono (S.le_new nil_sub)) _ hr2) rfl ?_; clear S; intro v2 a w5 hv2 hk5 hn2 S
 replace S := S.take hn2 hz4 hv2
 refine lv S (rn_makeFunc (us := #[]) (xs := [].toArray) (ys := [.tmp 7].toArray) (by simp) (evA ⟨(S.tm rfl), trivial⟩ (vs := [.pointer (some ⟨b2, 0, none⟩)]))) rfl ?_; clear S; intro a S
 obtain ⟨r3, hr3, h⟩ := bindE h
 have hz5 := S.keep.size
 refine l_enterO 0 S rfl (fun v3 => .own v3 61 6 r3.length (r3.flatMap GBest.enc)) (fun _ => run_call (vs := [v2, .func (.func 54) #[] #[.pointer (some ⟨b2, 0, none⟩)]]) ⟨(S.tm rfl), (S.tm rfl), trivial⟩ Tryz.call53) (slices_DeleteFunc_Best_tumbref2_RecordOf_c1_ok _ v2 r2 (S.holds _ (List.mem_of_getElem? (i := 0) rfl)) b2 v1 r1 ((ownV_slcT GBest.enc_ok hs2).mono (S.le_new (fp_sub (i := 0) (e := .own v2 61 6 r2.length (r2.flatMap GBest.enc)) rfl))) (S.blk_view (i := 1) rfl ((ne_fp (i := 0) (j := 1) (e := .own v2 61 6 r2.length (r2.flatMap GBest.enc)) (e' := .blk b2 [v1] 41) S rfl rfl rfl) _ rfl)) _ hr3) rfl (fun _ _ _ h => h) ?_; clear S; intro v3 a w6 hv3 hk6 hn3 S
 clear hv3
 refine lv S (rn_assign (S.tm rfl)) rfl ?_; clear S; intro a S
 refine l_done (then_n (wp_ret ?_))
 obtain rfl := Option.some.inj h
 exact f_ret S Tryz.results24 rfl (own_retT S (i := 0) rfl rfl)
theorem tumbref2_HistoryOf_c1_ok (w : World) (p_o : GBest) (b_p_a1 : Nat) (p_a1 : GBest) (hb_b_p_a1 : (view w []) b_p_a1 = some (.cells [sV p_a1.Kind, sV p_a1.Id, sV p_a1.Who, iV p_a1.Time, iV p_a1.Since, bV p_a1.Sure].toArray 61 (0, 0))) (r : Bool) (h : tumbref2_HistoryOf_c1 p_o p_a1 = r) :
    Calls Tryz.prog 59 [.agg (GBest.enc p_o).toArray, .pointer (some ⟨b_p_a1, 0, none⟩)].toArray w (Ret w [] fun _ v _ => v = bV r) := by
 refine f_enter [] [] Tryz.func59 rfl Tryz.ntmps59 rfl (by simp) (by simp [fps]) (by simp [fps]) fun a S => ?_
 unfold tumbref2_HistoryOf_c1 at h
 replace S := S.nk [] [(0, .agg (GBest.enc p_o).toArray), (1, .pointer (some ⟨b_p_a1, 0, none⟩))] [] rfl (subR rfl)
 refine f_seq (f_region (l_box S (S.tm rfl) (cs := (GBest.enc p_o)) rfl rfl ?_)); clear S; intro a w1 b1 hz1 hk1 S
 refine lv S (rn_assign rfl) rfl ?_; clear S; intro a S
 refine l_done (then_n (f_seq (f_region (lv S (rn_fld fa_61_3 (S.tm rfl)) rfl ?_)))); clear S; intro a S
 refine lv S (rn_load Tryz.isAgg3 (S.tm rfl) (S.cell (i := 0) rfl rfl)) rfl ?_; clear S; intro a S
 refine lv S (rn_fld fa_61_3 (S.tm rfl)) rfl ?_; clear S; intro a S
 refine lv S (rn_ld Tryz.isAgg3 (off := 0) (o := 3) (S.tm rfl) ((mem_blk hb_b_p_a1).at S.emb0) rfl) rfl ?_; clear S; intro a S
 refine lv S (rn_lss (S.tm rfl) (S.tm rfl)) rfl ?_; clear S; intro a S
 refine lv S (rn_assign (S.tm rfl)) rfl ?_; clear S; intro a S
 refine l_done (then_n (wp_ret ?_))
 subst h
 exact f_ret S Tryz.results59 rfl rfl
theorem slices_IndexFunc_Best_tumbref2_HistoryOf_c1_ok (w : World) (v_p_s : Value) (p_s : List GBest) (hs_p_s : Slc (view w []) 6 v_p_s (p_s.map GBest.enc)) (b_p_f_0 : Nat) (p_f_0 : GBest) (hb_b_p_f_0 : (view w []) b_p_f_0 = some (.cells [sV p_f_0.Kind, sV p_f_0.Id, sV p_f_0.Who, iV p_f_0.Time, iV p_f_0.Since, bV p_f_0.Sure].toArray 61 (0, 0))) (r : Int) (h : slices_IndexFunc_Best_tumbref2_HistoryOf_c1 p_s p_f_0 = r) :
    Calls Tryz.prog 75 [v_p_s, .func (.func 59) #[] #[.pointer (some ⟨b_p_f_0, 0, none⟩)]].toArray w (Ret w [] fun _ v _ => v = iV r) := by
 refine f_enter [] [] Tryz.func75 rfl Tryz.ntmps75 rfl (by simp) (by simp [fps]) (by simp [fps]) fun a S => ?_
 unfold slices_IndexFunc_Best_tumbref2_HistoryOf_c1 at h
 replace S := S.nk [] [(0, v_p_s), (1, .func (.func 59) #[] #[.pointer (some ⟨b_p_f_0, 0, none⟩)])] [] rfl (subR rfl)
 refine f_seq (f_region (lv S (rn_assign rfl) rfl ?_)); clear S; intro a S
 refine l_done (then_n (f_seq (f_seq (f_region (lv S (rn_move (S.tm rfl)) rfl ?_))))); clear S; intro a S
 refine lv S (rn_lenT sl_41 (S.tm rfl) (slc_len hs_p_s)) rfl ?_; clear S; intro a S
 refine lv S (rn_move rfl) rfl ?_; clear S; intro a S
 refine l_done (then_n ?_)
 replace S := S.nk [] [(0, v_p_s), (1, .func (.func 59) #[] #[.pointer (some ⟨b_p_f_0, 0, none⟩)]), (7, iV (p_s.length : Int)), (8, iV 0)] [] rfl (subR rfl)
 obtain ⟨j1, hj1, h⟩ := joinE h
 refine f_join (fun a w' => j1 = r ∧ Sx w [] nov [] [] 19 a w') ?_ ?_
 ·refine wp_block (f_loop (fun (ys1 : List GBest) a w' => ∃ i1 : Nat, (∃ dn, p_s = dn ++ ys1 ∧ dn.length = i1) ∧ slices_IndexFunc_Best_tumbref2_HistoryOf_c1_l1 p_f_0 j1 ys1 i1 = r ∧ Sx w [] nov [] [(0, v_p_s), (1, .func (.func 59) #[] #[.pointer (some ⟨b_p_f_0, 0, none⟩)]), (7, iV (p_s.length : Int)), (8, iV (i1 : Int))] 19 a w') List.length p_s ⟨0, ⟨[], rfl, rfl⟩, h, S.nf [] rfl (subR rfl)⟩ ?_)
  clear S h; rintro ys1 a w1 ⟨i1, ⟨dn, hd1, hi1⟩, h, S⟩
  cases ys1 with
  | nil =>
   rw [slices_IndexFunc_Best_tumbref2_HistoryOf_c1_l1.eq_1] at h
   refine f_seq (f_region (lv S (rn_lss (S.tm rfl) (S.tm rfl)) rfl ?_)); clear S; intro a S
   refine l_done ?_
   replace S := S.nk [] [(0, v_p_s), (1, .func (.func 59) #[] #[.pointer (some ⟨b_p_f_0, 0, none⟩)]), (7, iV (p_s.length : Int)), (8, iV (i1 : Int)), (9, bV (decide ((i1 : Int) < (p_s.length : Int))))] [] rfl (subR rfl)
   refine then_n (f_seq (wp_cond_false ((S.tm rfl).trans (congrArg Value.bool (rng_nil hd1 hi1))) (wp_exit (then_x (then_x (x_same ?_))))))
   refine then_n ?_
   exact ⟨h, S.nf [] rfl trivial⟩
  | cons y1 ys1 =>
   rw [slices_IndexFunc_Best_tumbref2_HistoryOf_c1_l1.eq_2] at h
   refine f_seq (f_region (lv S (rn_lss (S.tm rfl) (S.tm rfl)) rfl ?_)); clear S; intro a S
   refine l_done ?_
   replace S := S.nk [] [(0, v_p_s), (1, .func (.func 59) #[] #[.pointer (some ⟨b_p_f_0, 0, none⟩)]), (7, iV (p_s.length : Int)), (8, iV (i1 : Int)), (9, bV (decide ((i1 : Int) < (p_s.length : Int))))] [] rfl (subR rfl)
   refine then_n (f_seq (wp_cond_true ((S.tm rfl).trans (congrArg Value.bool (rng_cons hd1 hi1))) (wp_skip (then_n (f_seq (wp_block ?_))))))
   refine f_seq (f_region (lv S (rn_move (S.tm rfl)) rfl ?_)); clear S; intro a S
   refine lv S (rn_assign (S.tm rfl)) rfl ?_; clear S; intro a S
   refine l_done (then_n (f_seq (f_region (lv S (rn_move (S.tm rfl)) rfl ?_)))); clear S; intro a S
   refine lv S (rn_move (S.tm rfl)) rfl ?_; clear S; intro a S
   refine lv S (rn_move (S.tm rfl)) rfl ?_; clear S; intro a S
   obtain ⟨b1, o1, hm1, hr1⟩ := rn_indexT (a := a) (x := .tmp 12) (y := .tmp 13) (ty := 0) sl_41 hs_p_s (get_mid hd1 hi1) rfl (S.tm rfl) (S.tm rfl)
   refine lv S (hr1 _) rfl ?_; clear S; intro a S
   clear hr1
   refine lv S (rn_ldA Tryz.isAgg61 Tryz.sizeOf61 (off := o1) (o := 0) (part := (GBest.enc y1)) rfl rfl (S.tm rfl) (hm1.at S.emb0)) rfl ?_; clear S; intro a S
   refine l_enter S (fun _ => run_callV (cap := [.pointer (some ⟨b_p_f_0, 0, none⟩)]) (S.tm rfl) (vs := [.agg (GBest.enc y1).toArray]) ⟨(S.tm rfl), trivial⟩ Tryz.call59) (tumbref2_HistoryOf_c1_ok _ y1 b_p_f_0 p_f_0 ((S.le_arg nil_sub) _ _ hb_b_p_f_0) _ rfl) rfl ?_; clear S; intro v1 a w3 hv1 hk1 hn1 S
   subst hv1
   refine l_done (then_n (f_cond (S.tm rfl) (fun hb1 => ?_) (fun hb1 => ?_)))
   ·replace h := iteT h hb1
    refine f_seq (f_region (lv S (rn_move (S.tm rfl)) rfl ?_)); clear S; intro a S
    refine lv S (rn_assign (S.tm rfl)) rfl ?_; clear S; intro a S
    refine l_done ?_
    replace S := S.nk [] [(4, iV (i1 : Int))] [] rfl ⟨rfl, trivial⟩
    refine then_n (wp_ret (blk_r (then_r (then_r (blk_r (then_r ?_))))))
    refine then_r ?_
    subst h
    exact f_ret S Tryz.results75 rfl rfl
   ·replace h := iteF h hb1
    refine wp_skip (blk_n (then_n (f_region (lv S (rn_add (S.tm rfl) rfl) rfl ?_)))); clear S; intro a S
    refine lv S (rn_move (S.tm rfl)) rfl ?_; clear S; intro a S
    refine l_done (then_n ?_)
    exact ⟨ys1, ⟨i1 + 1, ⟨_, (hd1).trans (List.append_cons _ _ _), by simp [hi1]⟩, h, S.nf [] rfl ⟨rfl, rfl, rfl, (congrArg (fun z => some (Value.int .i64 z)) (rng_next hd1 hi1 (slc_max hs_p_s))), trivial⟩⟩, Nat.lt_succ_self _⟩
 clear S h; rintro a w2 ⟨h, S⟩; rw [hj1] at h; clear hj1 j1
 refine then_n (f_seq (f_region (lv S (rn_assign rfl) rfl ?_))); clear S; intro a S
 refine l_done (then_n (wp_ret ?_))
 subst h
 exact f_ret S Tryz.results75 rfl rfl
theorem slices_ContainsFunc_Best_tumbref2_HistoryOf_c1_ok (w : World) (v_p_s : Value) (p_s : List GBest) (hs_p_s : Slc (view w []) 6 v_p_s (p_s.map GBest.enc)) (b_p_f_0 : Nat) (p_f_0 : GBest) (hb_b_p_f_0 : (view w []) b_p_f_0 = some (.cells [sV p_f_0.Kind, sV p_f_0.Id, sV p_f_0.Who, iV p_f_0.Time, iV p_f_0.Since, bV p_f_0.Sure].toArray 61 (0, 0))) (r : Bool) (h : slices_ContainsFunc_Best_tumbref2_HistoryOf_c1 p_s p_f_0 = r) :
    Calls Tryz.prog 55 [v_p_s, .func (.func 59) #[] #[.pointer (some ⟨b_p_f_0, 0, none⟩)]].toArray w (Ret w [] fun _ v _ => v = bV r) := by
 refine f_enter [] [] Tryz.func55 rfl Tryz.ntmps55 rfl (by simp) (by simp [fps]) (by simp [fps]) fun a S => ?_
 unfold slices_ContainsFunc_Best_tumbref2_HistoryOf_c1 at h
 replace S := S.nk [] [(0, v_p_s), (1, .func (.func 59) #[] #[.pointer (some ⟨b_p_f_0, 0, none⟩)])] [] rfl (subR rfl)
 refine f_seq (f_region (lv S (rn_assign rfl) rfl ?_)); clear S; intro a S
 refine l_done (then_n (f_seq (f_region (lv S (rn_move (S.tm rfl)) rfl ?_)))); clear S; intro a S
 refine lv S (rn_move (S.tm rfl)) rfl ?_; clear S; intro a S
 refine l_enter S (fun _ => run_call (vs := [v_p_s, .func (.func 59) #[] #[.pointer (some ⟨b_p_f_0, 0, none⟩)]]) ⟨(S.tm rfl), (S.tm rfl), trivial⟩ Tryz.call75) (slices_IndexFunc_Best_tumbref2_HistoryOf_c1_ok _ v_p_s p_s (hs_p_s.mono (S.le_arg nil_sub)) b_p_f_0 p_f_0 ((S.le_arg nil_sub) _ _ hb_b_p_f_0) _ rfl) rfl ?_; clear S; intro v1 a w1 hv1 hk1 hn1 S
 subst hv1
 refine lv S (rn_geq (S.tm rfl) rfl) rfl ?_; clear S; intro a S
 refine lv S (rn_assign (S.tm rfl)) rfl ?_; clear S; intro a S
 refine l_done (then_n (wp_ret ?_))
 subst h
 exact f_ret S Tryz.results55 rfl rfl
theorem tumbref2_HistoryOf_ok (w : World) (p_k : GKind) (q_p_k : R55) (hq_p_k : rel_55 (view w []) p_k q_p_k) (v_p_l : Value) (p_l : List GStep) (hs_p_l : Slc (view w []) 8 v_p_l (p_l.map GStep.enc)) (p_at : Int) (r : (List GBest)) (h : tumbref2_HistoryOf p_k p_l p_at = some r) :
    Calls Tryz.prog 26 [.agg (R55.enc q_p_k).toArray, v_p_l, iV p_at].toArray w (Ret w [] fun τ v _ => OwnV τ 61 6 v r.length (r.flatMap GBest.enc)) := by
 obtain ⟨u1, rfl, hs1⟩ := hq_p_k
 refine f_enter [] [] Tryz.func26 rfl Tryz.ntmps26 rfl (by simp) (by simp [fps]) (by simp [fps]) fun a S => ?_
 unfold tumbref2_HistoryOf at h
 replace S := S.nk [] [(0, .agg #[sV p_k.Key, sV p_k.Race, u1.val, iV p_k.Young, iV p_k.Old]), (1, v_p_l), (2, iV p_at)] [] rfl (subR rfl)
 refine f_seq (f_region (l_box S (S.tm rfl) (cs := [sV p_k.Key, sV p_k.Race, u1.val, iV p_k.Young, iV p_k.Old]) rfl rfl ?_)); clear S; intro a w1 b1 hz1 hk1 S
 refine lv S (rn_assign rfl) rfl ?_; clear S; intro a S
 refine l_done (then_n (f_seq (f_region (lv S (rn_ldA Tryz.isAgg55 Tryz.sizeOf55 (off := 0) (o := 0) (part := [sV p_k.Key, sV p_k.Race, u1.val, iV p_k.Young, iV p_k.Old]) rfl rfl (S.tm rfl) (S.cellsAt (i := 0) rfl)) rfl ?_)))); clear S; intro a S
 refine lv S (rn_move (S.tm rfl)) rfl ?_; clear S; intro a S
 refine lv S (rn_move (S.tm rfl)) rfl ?_; clear S; intro a S
 obtain ⟨r1, hr1, h⟩ := bindE h
 have hz2 := S.keep.size
 refine l_enter S (fun _ => run_call (vs := [.agg (R55.enc (R55.mk p_k.Key p_k.Race u1 p_k.Young p_k.Old)).toArray, v_p_l, iV p_at]) ⟨(S.tm rfl), (S.tm rfl), (S.tm rfl), trivial⟩ Tryz.call52) (tumbref2_valid_ok _ p_k (R55.mk p_k.Key p_k.Race u1 p_k.Young p_k.Old) ⟨u1, rfl, (hs1.mono (S.le_arg nil_sub))⟩ v_p_l p_l (hs_p_l.mono (S.le_arg nil_sub)) p_at _ hr1) rfl ?_; clear S; intro v1 a w2 hv1 hk2 hn1 S
 obtain ⟨φ1, hl1, hm1, S⟩ := S.see' hn1 hz2
 have hs2 := hv1.mono hm1
 refine lv S (rn_assign (S.tm rfl)) rfl ?_; clear S; intro a S
 refine l_done (then_n (f_seq (f_region (lv S (rn_assign rfl) rfl ?_)))); clear S; intro a S
 replace S := S.nil 61 6
 refine l_done (then_n (f_seq (f_seq (f_region (lv S (rn_move (S.tm rfl)) rfl ?_))))); clear S; intro a S
 refine lv S (rn_lenT sl_41 (S.tm rfl) (slc_len (ownV_slcT GBest.enc_ok hs2))) rfl ?_; clear S; intro a S
 refine lv S (rn_move rfl) rfl ?_; clear S; intro a S
 refine l_done (then_n ?_)
 replace S := S.nk [.own (.slice none 0 0) 61 6 ([] : List GBest).length (([] : List GBest).flatMap GBest.enc)] [(7, v1), (8, (.slice none 0 0)), (15, v1), (16, iV (r1.length : Int)), (17, iV 0)] [true, false] rfl (subR rfl)
 obtain ⟨j1, hj1, h⟩ := joinE h
 refine f_join (fun a w' => ∃ x1 : List GBest, ∃ v2 : Value, j1 x1 = some r ∧ Sx w [] φ1 [.own v2 61 6 x1.length (x1.flatMap GBest.enc)] [(8, v2)] 34 a w') ?_ ?_
 ·refine wp_block (f_loop (fun (ys1 : List GBest) a w' => ∃ i1 : Nat, ∃ x1 : List GBest, ∃ v2 : Value, (∃ dn, r1 = dn ++ ys1 ∧ dn.length = i1) ∧ tumbref2_HistoryOf_l1 r1 j1 ys1 i1 x1 = some r ∧ Sx w [] φ1 [.own v2 61 6 x1.length (x1.flatMap GBest.enc)] [(7, v1), (8, v2), (15, v1), (16, iV (r1.length : Int)), (17, iV (i1 : Int))] 34 a w') List.length r1 ⟨0, ([] : List GBest), (.slice none 0 0), ⟨[], rfl, rfl⟩, h, S.nf [true] rfl (subR rfl)⟩ ?_)
  clear S h; rintro ys1 a w3 ⟨i1, x1, v2, ⟨dn, hd1, hi1⟩, h, S⟩
  cases ys1 with
  | nil =>
   rw [tumbref2_HistoryOf_l1.eq_1] at h
   refine f_seq (f_region (lv S (rn_lss (S.tm rfl) (S.tm rfl)) rfl ?_)); clear S; intro a S
   refine l_done ?_
   replace S := S.nk [.own v2 61 6 x1.length (x1.flatMap GBest.enc)] [(7, v1), (8, v2), (15, v1), (16, iV (r1.length : Int)), (17, iV (i1 : Int)), (18, bV (decide ((i1 : Int) < (r1.length : Int))))] [true] rfl (subR rfl)
   refine then_n (f_seq (wp_cond_false ((S.tm rfl).trans (congrArg Value.bool (rng_nil hd1 hi1))) (wp_exit (then_x (then_x (x_same ?_))))))
   refine then_n ?_
   exact ⟨x1, v2, h, S.nf [true] rfl ⟨rfl, trivial⟩⟩
  | cons y1 ys1 =>
   rw [tumbref2_HistoryOf_l1.eq_2] at h
   refine f_seq (f_region (lv S (rn_lss (S.tm rfl) (S.tm rfl)) rfl ?_)); clear S; intro a S
   refine l_done ?_
   replace S := S.nk [.own v2 61 6 x1.length (x1.flatMap GBest.enc)] [(7, v1), (8, v2), (15, v1), (16, iV (r1.length : Int)), (17, iV (i1 : Int)), (18, bV (decide ((i1 : Int) < (r1.length : Int))))] [true] rfl (subR rfl)
   refine then_n (f_seq (wp_cond_true ((S.tm rfl).trans (congrArg Value.bool (rng_cons hd1 hi1))) (wp_skip (then_n (f_seq ?_)))))
   obtain ⟨j2, hj2, h⟩ := joinE h
   refine f_join (fun a w' => ∃ x2 : List GBest, ∃ v3 : Value, j2 x2 = some r ∧ Sx w [] φ1 [.own v3 61 6 x2.length (x2.flatMap GBest.enc)] [(7, v1), (8, v3), (15, v1), (16, iV (r1.length : Int)), (17, iV (i1 : Int))] 34 a w') ?_ ?_
   ·refine wp_block (f_seq (f_region (lv S (rn_move (S.tm rfl)) rfl ?_))); clear S; intro a S
    obtain ⟨b2, o1, hm2, hr2⟩ := rn_indexT (a := a) (x := .tmp 15) (y := .tmp 17) (ty := 0) sl_41 (ownV_slcT GBest.enc_ok hs2) (get_mid hd1 hi1) rfl (S.tm rfl) (S.tm rfl)
    refine lv S (hr2 _) rfl ?_; clear S; intro a S
    clear hr2
    refine lv S (rn_ldA Tryz.isAgg61 Tryz.sizeOf61 (off := o1) (o := 0) (part := (GBest.enc y1)) rfl rfl (S.tm rfl) (hm2.at S.emb)) rfl ?_; clear S; intro a S
    refine l_alloc S Tryz.zeroValue61 (cs := [sV k_empty, sV k_empty, sV k_empty, iV 0, iV 0, bV false]) rfl rfl ?_; clear S; intro a w6 b3 hz3 hk3 S
    refine lv S (rn_assign (S.tm rfl)) rfl ?_; clear S; intro a S
    refine l_store S (S.tm rfl) (S.tm rfl) (i := 0) (off := 0) rfl Tryz.sizeOf61 (vs := (GBest.enc y1)) rfl rfl rfl rfl ?_; clear S; intro w7 hk4 S
    refine l_done (then_n (f_seq (f_region (lv S (rn_move (S.tm rfl)) rfl ?_)))); clear S; intro a S
    refine lv S (rn_move (S.tm rfl)) rfl ?_; clear S; intro a S
    obtain ⟨hc1, h⟩ := chkE h
    obtain ⟨v4, hs3, hr3⟩ := rn_cutTh (a := a) (x := .tmp 22) (y' := .tmp 23) (ty := 41) sl_41 (ownV_slcT GBest.enc_ok hs2) (S.tm rfl) (S.tm rfl) hc1
    refine lv S (hr3 _) rfl ?_; clear S; intro a S
    clear hr3
    refine lv S (rn_makeFunc (us := #[]) (xs := [].toArray) (ys := [.tmp 10].toArray) (by simp) (evA ⟨(S.tm rfl), trivial⟩ (vs := [.pointer (some ⟨b3, 0, none⟩)]))) rfl ?_; clear S; intro a S
    refine l_enter S (fun _ => run_call (vs := [v4, .func (.func 59) #[] #[.pointer (some ⟨b3, 0, none⟩)]]) ⟨(S.tm rfl), (S.tm rfl), trivial⟩ Tryz.call55) (slices_ContainsFunc_Best_tumbref2_HistoryOf_c1_ok _ v4 (cut r1 0 (i1 : Int)) (hs3.mono (S.le_new nil_sub)) b3 y1 (S.blk_view (i := 0) rfl ((ne_nil (e' := .blk b3 (GBest.enc y1) 61)) _ rfl)) _ rfl) rfl ?_; clear S; intro v5 a w8 hv2 hk5 hn2 S
    subst hv2
    refine lv S (rn_not (S.tm rfl)) rfl ?_; clear S; intro a S
    refine l_done ?_
    replace S := S.nk [.blk b3 (GBest.enc y1) 61, .own v2 61 6 x1.length (x1.flatMap GBest.enc)] [(7, v1), (8, v2), (10, .pointer (some ⟨b3, 0, none⟩)), (15, v1), (16, iV (r1.length : Int)), (17, iV (i1 : Int)), (27, bV (!(slices_ContainsFunc_Best_tumbref2_HistoryOf_c1 (cut r1 0 (i1 : Int)) y1)))] [true, true] rfl (subR rfl)
    refine then_n ?_
    obtain ⟨j3, hj3, h⟩ := joinE h
    refine f_join (fun a w' => ∃ x3 : List GBest, ∃ v6 : Value, j3 x3 = some r ∧ Sx w [] φ1 [.blk b3 (GBest.enc y1) 61, .own v6 61 6 x3.length (x3.flatMap GBest.enc)] [(7, v1), (8, v6), (15, v1), (16, iV (r1.length : Int)), (17, iV (i1 : Int))] 34 a w') ?_ ?_
    ·refine f_cond (S.tm rfl) (fun hb1 => ?_) (fun hb1 => ?_)
     ·replace h := iteT h hb1
      refine f_region (lv S (rn_move (S.tm rfl)) rfl ?_); clear S; intro a S
      refine lv S (rn_ldA Tryz.isAgg61 Tryz.sizeOf61 (off := 0) (o := 0) (part := (GBest.enc y1)) rfl rfl (S.tm rfl) (S.cellsAt (i := 0) rfl)) rfl ?_; clear S; intro a S
      refine l_buildSlice S Tryz.underlying41 Tryz.sizeOf61 Tryz.zeroValue61 rfl rfl (pv := [(0, .agg (GBest.enc y1).toArray)]) ⟨rfl, (S.tm rfl), trivial⟩ (cs := [sV y1.Kind, sV y1.Id, sV y1.Who, iV y1.Time, iV y1.Since, bV y1.Sure]) (by kernel_rfl) rfl ?_; clear S; intro a w10 b4 hz4 hk6 S
      obtain ⟨hc2, h⟩ := chkE h
      refine l_appendT sl_41 GBest.enc_ok S (S.tm rfl) (i := 2) rfl (S.tm rfl) (j := 0) rfl (ys := [y1]) rfl rfl rfl rfl (by have := room_lt hc2; omega) rfl ?_; clear S; intro v7 a w11 hk7 S
      refine lv S (rn_assign (S.tm rfl)) rfl ?_; clear S; intro a S
      refine l_done (then_n ?_)
      exact ⟨(x1 ++ [y1]), v7, h, S.nf [false, true, true] rfl (subR rfl)⟩
     ·replace h := iteF h hb1
      refine wp_skip (then_n ?_)
      exact ⟨x1, v2, h, S.nf [true, true] rfl (subR rfl)⟩
    clear S h; rintro a w9 ⟨x3, v6, h, S⟩; rw [hj3] at h; clear hj3 j3
    refine blk_n (then_n ?_)
    exact ⟨x3, v6, h, S.nf [false, true] rfl (subR rfl)⟩
   clear S h; rintro a w5 ⟨x2, v3, h, S⟩; rw [hj2] at h; clear hj2 j2
   refine then_n (f_region (lv S (rn_add (S.tm rfl) rfl) rfl ?_)); clear S; intro a S
   refine lv S (rn_move (S.tm rfl)) rfl ?_; clear S; intro a S
   refine l_done (then_n ?_)
   exact ⟨ys1, ⟨i1 + 1, x2, v3, ⟨_, (hd1).trans (List.append_cons _ _ _), by simp [hi1]⟩, h, S.nf [true] rfl ⟨rfl, rfl, rfl, rfl, (congrArg (fun z => some (Value.int .i64 z)) (rng_next hd1 hi1 (slc_max (ownV_slcT GBest.enc_ok hs2)))), trivial⟩⟩, Nat.lt_succ_self _⟩
 clear S h; rintro a w4 ⟨x1, v2, h, S⟩; rw [hj1] at h; clear hj1 j1
 refine then_n (f_seq (f_region (lv S (rn_move (S.tm rfl)) rfl ?_))); clear S; intro a S
 refine lv S (rn_assign (S.tm rfl)) rfl ?_; clear S; intro a S
 refine l_done (then_n (wp_ret ?_))
 obtain rfl := Option.some.inj h
 exact f_ret S Tryz.results26 rfl (own_retT S (i := 0) rfl rfl)
theorem tumbref2_AllRecords_ok (w : World) (v_p_k : Value) (p_k : List GKind) (rs_p_k : List R55) (hs_p_k : Slc (view w []) 5 v_p_k (rs_p_k.map R55.enc)) (hr_p_k : All2 (rel_55 (view w [])) p_k rs_p_k) (v_p_l : Value) (p_l : List GStep) (hs_p_l : Slc (view w []) 8 v_p_l (p_l.map GStep.enc)) (p_at : Int) (r : (List GBest)) (h : tumbref2_AllRecords p_k p_l p_at = some r) :
    Calls Tryz.prog 27 [v_p_k, v_p_l, iV p_at].toArray w (Ret w [] fun τ v _ => OwnV τ 61 6 v r.length (r.flatMap GBest.enc)) := by
 refine f_enter [] [] Tryz.func27 rfl Tryz.ntmps27 rfl (by simp) (by simp [fps]) (by simp [fps]) fun a S => ?_
 unfold tumbref2_AllRecords at h
 replace S := S.nk [] [(0, v_p_k), (1, v_p_l), (2, iV p_at)] [] rfl (subR rfl)
 refine f_seq (f_region (lv S (rn_assign rfl) rfl ?_)); clear S; intro a S
 refine l_done (then_n (f_seq (f_region (lv S (rn_assign rfl) rfl ?_)))); clear S; intro a S
 replace S := S.nil 61 6
 refine l_done (then_n (f_seq (f_seq (f_region (lv S (rn_move (S.tm rfl)) rfl ?_))))); clear S; intro a S
 refine lv S (rn_lenT sl_26 (S.tm rfl) (slc_lenD hs_p_k hr_p_k)) rfl ?_; clear S; intro a S
 refine lv S (rn_move rfl) rfl ?_; clear S; intro a S
 refine l_done (then_n ?_)
 replace S := S.nk [.own (.slice none 0 0) 61 6 ([] : List GBest).length (([] : List GBest).flatMap GBest.enc)] [(1, v_p_l), (2, iV p_at), (7, (.slice none 0 0)), (10, v_p_k), (11, iV (p_k.length : Int)), (12, iV 0)] [true] rfl (subR rfl)
 obtain ⟨j1, hj1, h⟩ := joinE h
 refine f_join (fun a w' => ∃ x1 : List GBest, ∃ φ1 : View, ∃ v1 : Value, j1 x1 = some r ∧ View.le nov φ1 ∧ Sx w [] φ1 [.own v1 61 6 x1.length (x1.flatMap GBest.enc)] [(7, v1)] 24 a w') ?_ ?_
 ·refine wp_block (f_loop (fun (ys1 : List GKind) a w' => ∃ i1 : Nat, ∃ x1 : List GBest, ∃ φ1 : View, ∃ v1 : Value, (∃ dn, p_k = dn ++ ys1 ∧ dn.length = i1) ∧ tumbref2_AllRecords_l1 p_l p_at j1 ys1 i1 x1 = some r ∧ View.le nov φ1 ∧ Sx w [] φ1 [.own v1 61 6 x1.length (x1.flatMap GBest.enc)] [(1, v_p_l), (2, iV p_at), (7, v1), (10, v_p_k), (11, iV (p_k.length : Int)), (12, iV (i1 : Int))] 24 a w') List.length p_k ⟨0, ([] : List GBest), nov, (.slice none 0 0), ⟨[], rfl, rfl⟩, h, View.le_refl _, S.nf [true] rfl (subR rfl)⟩ ?_)
  clear S h; rintro ys1 a w1 ⟨i1, x1, φ1, v1, ⟨dn, hd1, hi1⟩, h, hl1, S⟩
  cases ys1 with
  | nil =>
   rw [tumbref2_AllRecords_l1.eq_1] at h
   refine f_seq (f_region (lv S (rn_lss (S.tm rfl) (S.tm rfl)) rfl ?_)); clear S; intro a S
   refine l_done ?_
   replace S := S.nk [.own v1 61 6 x1.length (x1.flatMap GBest.enc)] [(1, v_p_l), (2, iV p_at), (7, v1), (10, v_p_k), (11, iV (p_k.length : Int)), (12, iV (i1 : Int)), (13, bV (decide ((i1 : Int) < (p_k.length : Int))))] [true] rfl (subR rfl)
   refine then_n (f_seq (wp_cond_false ((S.tm rfl).trans (congrArg Value.bool (rng_nil hd1 hi1))) (wp_exit (then_x (then_x (x_same ?_))))))
   refine then_n ?_
   exact ⟨x1, φ1, v1, h, hl1, S.nf [true] rfl ⟨rfl, trivial⟩⟩
  | cons y1 ys1 =>
   rw [tumbref2_AllRecords_l1.eq_2] at h
   refine f_seq (f_region (lv S (rn_lss (S.tm rfl) (S.tm rfl)) rfl ?_)); clear S; intro a S
   refine l_done ?_
   replace S := S.nk [.own v1 61 6 x1.length (x1.flatMap GBest.enc)] [(1, v_p_l), (2, iV p_at), (7, v1), (10, v_p_k), (11, iV (p_k.length : Int)), (12, iV (i1 : Int)), (13, bV (decide ((i1 : Int) < (p_k.length : Int))))] [true] rfl (subR rfl)
   refine then_n (f_seq (wp_cond_true ((S.tm rfl).trans (congrArg Value.bool (rng_cons hd1 hi1))) (wp_skip (then_n (f_seq (wp_block ?_))))))
   refine f_seq (f_region ?_)
   obtain ⟨r1, hg1, hl2⟩ := All2.at hr_p_k (get_mid hd1 hi1)
   obtain ⟨u1, rfl, hs1⟩ := hl2
   obtain ⟨b1, o1, hm1, hr1⟩ := rn_indexT (a := a) (x := .tmp 10) (y := .tmp 12) (ty := 0) sl_26 hs_p_k hg1 rfl (S.tm rfl) (S.tm rfl)
   refine lv S (hr1 _) rfl ?_; clear S; intro a S
   clear hr1
   refine lv S (rn_ldA Tryz.isAgg55 Tryz.sizeOf55 (off := o1) (o := 0) (part := [sV y1.Key, sV y1.Race, u1.val, iV y1.Young, iV y1.Old]) rfl rfl (S.tm rfl) (hm1.at S.emb0)) rfl ?_; clear S; intro a S
   refine l_alloc S Tryz.zeroValue55 (cs := [sV k_empty, sV k_empty, .slice none 0 0, iV 0, iV 0]) rfl rfl ?_; clear S; intro a w3 b2 hz1 hk1 S
   refine l_store S (S.tm rfl) (S.tm rfl) (i := 0) (off := 0) rfl Tryz.sizeOf55 (vs := [sV y1.Key, sV y1.Race, u1.val, iV y1.Young, iV y1.Old]) rfl rfl rfl (all1 rfl (all1 rfl (all1 (SlcLen.one (slc_len hs1)) (all1 rfl (all1 rfl rfl))))) ?_; clear S; intro w4 hk2 S
   refine l_done (then_n (f_region (lv S (rn_move (S.tm rfl)) rfl ?_))); clear S; intro a S
   refine lv S (rn_ldA Tryz.isAgg55 Tryz.sizeOf55 (off := 0) (o := 0) (part := [sV y1.Key, sV y1.Race, u1.val, iV y1.Young, iV y1.Old]) rfl rfl (S.tm rfl) (S.cellsAt (i := 0) rfl)) rfl ?_; clear S; intro a S
   refine lv S (rn_move (S.tm rfl)) rfl ?_; clear S; intro a S
   refine lv S (rn_move (S.tm rfl)) rfl ?_; clear S; intro a S
   obtain ⟨r2, hr2, h⟩ := bindE h
   have hz2 := S.keep.size
   refine l_enter S (fun _ => run_call (vs := [.agg (R55.enc (R55.mk y1.Key y1.Race u1 y1.Young y1.Old)).toArray, v_p_l, iV p_at]) ⟨(S.tm rfl), (S.tm rfl), (S.tm rfl), trivial⟩ Tryz.call24) (tumbref2_RecordOf_ok _ y1 (R55.mk y1.Key y1.Race u1 y1.Young y1.Old) ⟨u1, rfl, (hs1.mono (S.le_arg nil_sub))⟩ v_p_l p_l (hs_p_l.mono (S.le_arg nil_sub)) p_at _ hr2) rfl ?_; clear S; intro v2 a w5 hv1 hk3 hn1 S
   obtain ⟨φ2, hl3, hm2, S⟩ := S.see' hn1 hz2
   have hs2 := hv1.mono hm2
   obtain ⟨hc1, h⟩ := chkE h
   refine l_appendS (Y := []) sl_41 GBest.enc_ok S (S.tm rfl) (i := 1) rfl (S.tm rfl) ((ownV_slcT GBest.enc_ok hs2).mono (S.le_new (fun _ h => by cases h))) rfl rfl (by have := room_lt hc1; omega) rfl ?_; clear S; intro v3 a w6 hk4 S
   refine lv S (rn_assign (S.tm rfl)) rfl ?_; clear S; intro a S
   refine l_done ?_
   replace S := S.nk [.own v3 61 6 (x1 ++ r2).length ((x1 ++ r2).flatMap GBest.enc)] [(1, v_p_l), (2, iV p_at), (7, v3), (10, v_p_k), (11, iV (p_k.length : Int)), (12, iV (i1 : Int))] [false, true] rfl (subR rfl)
   refine blk_n (then_n (f_region (lv S (rn_add (S.tm rfl) rfl) rfl ?_))); clear S; intro a S
   refine lv S (rn_move (S.tm rfl)) rfl ?_; clear S; intro a S
   refine l_done (then_n ?_)
   exact ⟨ys1, ⟨i1 + 1, (x1 ++ r2), φ2, v3, ⟨_, (hd1).trans (List.append_cons _ _ _), by simp [hi1]⟩, h, (View.le_trans hl1 hl3), S.nf [true] rfl ⟨rfl, rfl, rfl, rfl, rfl, (congrArg (fun z => some (Value.int .i64 z)) (rng_next hd1 hi1 (slc_maxD hs_p_k hr_p_k))), trivial⟩⟩, Nat.lt_succ_self _⟩
 clear S h; rintro a w2 ⟨x1, φ1, v1, h, hl1, S⟩; rw [hj1] at h; clear hj1 j1
 refine then_n (f_seq (f_region (lv S (rn_move (S.tm rfl)) rfl ?_))); clear S; intro a S
 refine lv S (rn_assign (S.tm rfl)) rfl ?_; clear S; intro a S
 refine l_done (then_n (wp_ret ?_))
 obtain rfl := Option.some.inj h
 exact f_ret S Tryz.results27 rfl (own_retT S (i := 0) rfl rfl)
set_option maxRecDepth 20000 in
theorem slices_Equal_string_ok (w : World) (v_p_s1 : Value) (p_s1 : List ByteArray) (hs_p_s1 : Slc (view w []) 1 v_p_s1 (p_s1.map eStr)) (v_p_s2 : Value) (p_s2 : List ByteArray) (hs_p_s2 : Slc (view w []) 1 v_p_s2 (p_s2.map eStr)) (r : Bool) (h : slices_Equal_string p_s1 p_s2 = some r) :
    Calls Tryz.prog 28 [v_p_s1, v_p_s2].toArray w (Ret w [] fun _ v _ => v = bV r) := by
 refine f_enter [] [] Tryz.func28 rfl Tryz.ntmps28 rfl (by simp) (by simp [fps]) (by simp [fps]) fun a S => ?_
 unfold slices_Equal_string at h
 replace S := S.nk [] [(0, v_p_s1), (1, v_p_s2)] [] rfl (subR rfl)
 refine f_seq (f_region (lv S (rn_assign rfl) rfl ?_)); clear S; intro a S
 refine l_done (then_n (f_seq (f_seq (f_region (lv S (rn_move (S.tm rfl)) rfl ?_))))); clear S; intro a S
 refine lv S (rn_lenT sl_37 (S.tm rfl) (slc_len hs_p_s1)) rfl ?_; clear S; intro a S
 refine lv S (rn_move (S.tm rfl)) rfl ?_; clear S; intro a S
 refine lv S (rn_lenT sl_37 (S.tm rfl) (slc_len hs_p_s2)) rfl ?_; clear S; intro a S
 refine lv S (rn_neq (S.tm rfl) (S.tm rfl)) rfl ?_; clear S; intro a S
 refine l_done (then_n (f_cond (S.tm rfl) (fun hb1 => ?_) (fun hb1 => ?_)))
 ·replace h := iteT h hb1
  refine f_seq (f_region (lv S (rn_assign rfl) rfl ?_)); clear S; intro a S
  refine l_done (then_n (wp_ret (then_r ?_)))
  obtain rfl := Option.some.inj h
  exact f_ret S Tryz.results28 rfl rfl
 ·replace h := iteF h hb1
  refine wp_skip (then_n (f_seq (f_seq (f_region (lv S (rn_move (S.tm rfl)) rfl ?_))))); clear S; intro a S
  refine lv S (rn_lenT sl_37 (S.tm rfl) (slc_len hs_p_s1)) rfl ?_; clear S; intro a S
  refine lv S (rn_move rfl) rfl ?_; clear S; intro a S
  refine l_done (then_n ?_)
  replace S := S.nk [] [(0, v_p_s1), (1, v_p_s2), (12, iV (p_s1.length : Int)), (13, iV 0)] [] rfl (subR rfl)
  obtain ⟨j1, hj1, h⟩ := joinE h
  refine f_join (fun a w' => j1 = some r ∧ Sx w [] nov [] [] 26 a w') ?_ ?_
  ·refine wp_block (f_loop (fun (ys1 : List ByteArray) a w' => ∃ i1 : Nat, (∃ dn, p_s1 = dn ++ ys1 ∧ dn.length = i1) ∧ slices_Equal_string_l1 p_s2 j1 ys1 i1 = some r ∧ Sx w [] nov [] [(0, v_p_s1), (1, v_p_s2), (12, iV (p_s1.length : Int)), (13, iV (i1 : Int))] 26 a w') List.length p_s1 ⟨0, ⟨[], rfl, rfl⟩, h, S.nf [] rfl (subR rfl)⟩ ?_)
   clear S h; rintro ys1 a w1 ⟨i1, ⟨dn, hd1, hi1⟩, h, S⟩
   cases ys1 with
   | nil =>
    rw [slices_Equal_string_l1.eq_1] at h
    refine f_seq (f_region (lv S (rn_lss (S.tm rfl) (S.tm rfl)) rfl ?_)); clear S; intro a S
    refine l_done ?_
    replace S := S.nk [] [(0, v_p_s1), (1, v_p_s2), (12, iV (p_s1.length : Int)), (13, iV (i1 : Int)), (14, bV (decide ((i1 : Int) < (p_s1.length : Int))))] [] rfl (subR rfl)
    refine then_n (f_seq (wp_cond_false ((S.tm rfl).trans (congrArg Value.bool (rng_nil hd1 hi1))) (wp_exit (then_x (then_x (x_same ?_))))))
    refine then_n ?_
    exact ⟨h, S.nf [] rfl trivial⟩
   | cons y1 ys1 =>
    rw [slices_Equal_string_l1.eq_2] at h
    refine f_seq (f_region (lv S (rn_lss (S.tm rfl) (S.tm rfl)) rfl ?_)); clear S; intro a S
    refine l_done ?_
    replace S := S.nk [] [(0, v_p_s1), (1, v_p_s2), (12, iV (p_s1.length : Int)), (13, iV (i1 : Int)), (14, bV (decide ((i1 : Int) < (p_s1.length : Int))))] [] rfl (subR rfl)
    refine then_n (f_seq (wp_cond_true ((S.tm rfl).trans (congrArg Value.bool (rng_cons hd1 hi1))) (wp_skip (then_n (f_seq (wp_block ?_))))))
    refine f_seq (f_region (lv S (rn_move (S.tm rfl)) rfl ?_)); clear S; intro a S
    refine lv S (rn_assign (S.tm rfl)) rfl ?_; clear S; intro a S
    refine l_done (then_n (f_seq (d_region [] ([]) Tryz.mixed S rfl (by kernel_rfl) ?_))); clear S; intro w3 hk1 hsel S
    refine d_rest [0, 1, 2, 3, 4, 5, 6, 7, 8] hsel (by kernel_rfl) rfl ?_
    clear hsel
    refine s_lv S rfl (rn_move (S.tm rfl)) rfl ?_; clear S; intro a S
    refine s_lv S rfl (rn_move (S.tm rfl)) rfl ?_; clear S; intro a S
    obtain ⟨b1, o1, hm1, hr1⟩ := rn_indexT (a := a) (x := .tmp 16) (y := .tmp 17) (ty := 0) sl_37 hs_p_s1 (get_mid hd1 hi1) rfl (S.tm rfl) (S.tm rfl)
    refine s_lv S rfl (hr1 _) rfl ?_; clear S; intro a S
    clear hr1
    refine s_lv S rfl (rn_ld Tryz.isAgg9 (off := o1) (o := 0) (S.tm rfl) (hm1.at S.emb0) rfl) rfl ?_; clear S; intro a S
    refine s_lv S rfl (rn_move (S.tm rfl)) rfl ?_; clear S; intro a S
    refine s_lv S rfl (rn_move (S.tm rfl)) rfl ?_; clear S; intro a S
    obtain ⟨hc1, h⟩ := chkE h
    obtain ⟨b2, o2, hm2, hr2⟩ := rn_indexT (a := a) (x := .tmp 20) (y := .tmp 21) (ty := 0) sl_37 hs_p_s2 (inB_get hc1).1 (inB_get hc1).2 (S.tm rfl) (S.tm rfl)
    refine s_lv S rfl (hr2 _) rfl ?_; clear S; intro a S
    clear hr2
    refine s_lv S rfl (rn_ld Tryz.isAgg9 (off := o2) (o := 0) (S.tm rfl) (hm2.at S.emb0) rfl) rfl ?_; clear S; intro a S
    refine s_lv S rfl (rn_sneq (S.tm rfl) (S.tm rfl)) rfl ?_; clear S; intro a S
    refine s_done ?_
    replace S := S.nk [] [(0, v_p_s1), (1, v_p_s2), (12, iV (p_s1.length : Int)), (13, iV (i1 : Int)), (24, bV (!decide (y1 = (nth p_s2 (i1 : Int)))))] [] rfl (subR rfl)
    refine then_n (f_cond (S.tm rfl) (fun hb2 => ?_) (fun hb2 => ?_))
    ·replace h := iteT h hb2
     refine f_seq (f_region (lv S (rn_assign rfl) rfl ?_)); clear S; intro a S
     refine l_done (then_n (wp_ret (blk_r (then_r (then_r (blk_r ?_))))))
     refine then_r (then_r ?_)
     obtain rfl := Option.some.inj h
     exact f_ret S Tryz.results28 rfl rfl
    ·replace h := iteF h hb2
     refine wp_skip (blk_n (then_n (f_region (lv S (rn_add (S.tm rfl) rfl) rfl ?_)))); clear S; intro a S
     refine lv S (rn_move (S.tm rfl)) rfl ?_; clear S; intro a S
     refine l_done (then_n ?_)
     exact ⟨ys1, ⟨i1 + 1, ⟨_, (hd1).trans (List.append_cons _ _ _), by simp [hi1]⟩, h, S.nf [] rfl ⟨rfl, rfl, rfl, (congrArg (fun z => some (Value.int .i64 z)) (rng_next hd1 hi1 (slc_max hs_p_s1))), trivial⟩⟩, Nat.lt_succ_self _⟩
  clear S h; rintro a w2 ⟨h, S⟩; rw [hj1] at h; clear hj1 j1
  refine then_n (f_seq (f_region (lv S (rn_assign rfl) rfl ?_))); clear S; intro a S
  refine l_done (then_n (wp_ret ?_))
  obtain rfl := Option.some.inj h
  exact f_ret S Tryz.results28 rfl rfl
set_option maxRecDepth 20000 in
theorem slices_Equal_Best_ok (w : World) (v_p_s1 : Value) (p_s1 : List GBest) (hs_p_s1 : Slc (view w []) 6 v_p_s1 (p_s1.map GBest.enc)) (v_p_s2 : Value) (p_s2 : List GBest) (hs_p_s2 : Slc (view w []) 6 v_p_s2 (p_s2.map GBest.enc)) (r : Bool) (h : slices_Equal_Best p_s1 p_s2 = some r) :
    Calls Tryz.prog 29 [v_p_s1, v_p_s2].toArray w (Ret w [] fun _ v _ => v = bV r) := by
 refine f_enter [] [] Tryz.func29 rfl Tryz.ntmps29 rfl (by simp) (by simp [fps]) (by simp [fps]) fun a S => ?_
 unfold slices_Equal_Best at h
 replace S := S.nk [] [(0, v_p_s1), (1, v_p_s2)] [] rfl (subR rfl)
 refine f_seq (f_region (lv S (rn_assign rfl) rfl ?_)); clear S; intro a S
 refine l_done (then_n (f_seq (f_seq (f_region (lv S (rn_move (S.tm rfl)) rfl ?_))))); clear S; intro a S
 refine lv S (rn_lenT sl_41 (S.tm rfl) (slc_len hs_p_s1)) rfl ?_; clear S; intro a S
 refine lv S (rn_move (S.tm rfl)) rfl ?_; clear S; intro a S
 refine lv S (rn_lenT sl_41 (S.tm rfl) (slc_len hs_p_s2)) rfl ?_; clear S; intro a S
 refine lv S (rn_neq (S.tm rfl) (S.tm rfl)) rfl ?_; clear S; intro a S
 refine l_done (then_n (f_cond (S.tm rfl) (fun hb1 => ?_) (fun hb1 => ?_)))
 ·replace h := iteT h hb1
  refine f_seq (f_region (lv S (rn_assign rfl) rfl ?_)); clear S; intro a S
  refine l_done (then_n (wp_ret (then_r ?_)))
  obtain rfl := Option.some.inj h
  exact f_ret S Tryz.results29 rfl rfl
 ·replace h := iteF h hb1
  refine wp_skip (then_n (f_seq (f_seq (f_region (lv S (rn_move (S.tm rfl)) rfl ?_))))); clear S; intro a S
  refine lv S (rn_lenT sl_41 (S.tm rfl) (slc_len hs_p_s1)) rfl ?_; clear S; intro a S
  refine lv S (rn_move rfl) rfl ?_; clear S; intro a S
  refine l_done (then_n ?_)
  replace S := S.nk [] [(0, v_p_s1), (1, v_p_s2), (12, iV (p_s1.length : Int)), (13, iV 0)] [] rfl (subR rfl)
  obtain ⟨j1, hj1, h⟩ := joinE h
  refine f_join (fun a w' => j1 = some r ∧ Sx w [] nov [] [] 26 a w') ?_ ?_
  ·refine wp_block (f_loop (fun (ys1 : List GBest) a w' => ∃ i1 : Nat, (∃ dn, p_s1 = dn ++ ys1 ∧ dn.length = i1) ∧ slices_Equal_Best_l1 p_s2 j1 ys1 i1 = some r ∧ Sx w [] nov [] [(0, v_p_s1), (1, v_p_s2), (12, iV (p_s1.length : Int)), (13, iV (i1 : Int))] 26 a w') List.length p_s1 ⟨0, ⟨[], rfl, rfl⟩, h, S.nf [] rfl (subR rfl)⟩ ?_)
   clear S h; rintro ys1 a w1 ⟨i1, ⟨dn, hd1, hi1⟩, h, S⟩
   cases ys1 with
   | nil =>
    rw [slices_Equal_Best_l1.eq_1] at h
    refine f_seq (f_region (lv S (rn_lss (S.tm rfl) (S.tm rfl)) rfl ?_)); clear S; intro a S
    refine l_done ?_
    replace S := S.nk [] [(0, v_p_s1), (1, v_p_s2), (12, iV (p_s1.length : Int)), (13, iV (i1 : Int)), (14, bV (decide ((i1 : Int) < (p_s1.length : Int))))] [] rfl (subR rfl)
    refine then_n (f_seq (wp_cond_false ((S.tm rfl).trans (congrArg Value.bool (rng_nil hd1 hi1))) (wp_exit (then_x (then_x (x_same ?_))))))
    refine then_n ?_
    exact ⟨h, S.nf [] rfl trivial⟩
   | cons y1 ys1 =>
    rw [slices_Equal_Best_l1.eq_2] at h
    refine f_seq (f_region (lv S (rn_lss (S.tm rfl) (S.tm rfl)) rfl ?_)); clear S; intro a S
    refine l_done ?_
    replace S := S.nk [] [(0, v_p_s1), (1, v_p_s2), (12, iV (p_s1.length : Int)), (13, iV (i1 : Int)), (14, bV (decide ((i1 : Int) < (p_s1.length : Int))))] [] rfl (subR rfl)
    refine then_n (f_seq (wp_cond_true ((S.tm rfl).trans (congrArg Value.bool (rng_cons hd1 hi1))) (wp_skip (then_n (f_seq (wp_block ?_))))))
    refine f_seq (f_region (lv S (rn_move (S.tm rfl)) rfl ?_)); clear S; intro a S
    refine lv S (rn_assign (S.tm rfl)) rfl ?_; clear S; intro a S
    refine l_done (then_n (f_seq (d_region [] ([]) Tryz.mixed S rfl (by kernel_rfl) ?_))); clear S; intro w3 hk1 hsel S
    refine d_rest [0, 1, 2, 3, 4, 5, 6, 7, 8] hsel (by kernel_rfl) rfl ?_
    clear hsel
    refine s_lv S rfl (rn_move (S.tm rfl)) rfl ?_; clear S; intro a S
    refine s_lv S rfl (rn_move (S.tm rfl)) rfl ?_; clear S; intro a S
    obtain ⟨b1, o1, hm1, hr1⟩ := rn_indexT (a := a) (x := .tmp 16) (y := .tmp 17) (ty := 0) sl_41 hs_p_s1 (get_mid hd1 hi1) rfl (S.tm rfl) (S.tm rfl)
    refine s_lv S rfl (hr1 _) rfl ?_; clear S; intro a S
    clear hr1
    refine s_lv S rfl (rn_ldA Tryz.isAgg61 Tryz.sizeOf61 (off := o1) (o := 0) (part := (GBest.enc y1)) rfl rfl (S.tm rfl) (hm1.at S.emb0)) rfl ?_; clear S; intro a S
    refine s_lv S rfl (rn_move (S.tm rfl)) rfl ?_; clear S; intro a S
    refine s_lv S rfl (rn_move (S.tm rfl)) rfl ?_; clear S; intro a S
    obtain ⟨hc1, h⟩ := chkE h
    obtain ⟨b2, o2, hm2, hr2⟩ := rn_indexT (a := a) (x := .tmp 20) (y := .tmp 21) (ty := 0) sl_41 hs_p_s2 (inB_get hc1).1 (inB_get hc1).2 (S.tm rfl) (S.tm rfl)
    refine s_lv S rfl (hr2 _) rfl ?_; clear S; intro a S
    clear hr2
    refine s_lv S rfl (rn_ldA Tryz.isAgg61 Tryz.sizeOf61 (off := o2) (o := 0) (part := (GBest.enc (nth p_s2 (i1 : Int)))) rfl rfl (S.tm rfl) (hm2.at S.emb0)) rfl ?_; clear S; intro a S
    refine s_lv S rfl (rn_neq_61 (m := y1) (n := (nth p_s2 (i1 : Int))) (S.tm rfl) (S.tm rfl)) rfl ?_; clear S; intro a S
    refine s_done ?_
    replace S := S.nk [] [(0, v_p_s1), (1, v_p_s2), (12, iV (p_s1.length : Int)), (13, iV (i1 : Int)), (24, bV (!decide (y1 = (nth p_s2 (i1 : Int)))))] [] rfl (subR rfl)
    refine then_n (f_cond (S.tm rfl) (fun hb2 => ?_) (fun hb2 => ?_))
    ·replace h := iteT h hb2
     refine f_seq (f_region (lv S (rn_assign rfl) rfl ?_)); clear S; intro a S
     refine l_done (then_n (wp_ret (blk_r (then_r (then_r (blk_r ?_))))))
     refine then_r (then_r ?_)
     obtain rfl := Option.some.inj h
     exact f_ret S Tryz.results29 rfl rfl
    ·replace h := iteF h hb2
     refine wp_skip (blk_n (then_n (f_region (lv S (rn_add (S.tm rfl) rfl) rfl ?_)))); clear S; intro a S
     refine lv S (rn_move (S.tm rfl)) rfl ?_; clear S; intro a S
     refine l_done (then_n ?_)
     exact ⟨ys1, ⟨i1 + 1, ⟨_, (hd1).trans (List.append_cons _ _ _), by simp [hi1]⟩, h, S.nf [] rfl ⟨rfl, rfl, rfl, (congrArg (fun z => some (Value.int .i64 z)) (rng_next hd1 hi1 (slc_max hs_p_s1))), trivial⟩⟩, Nat.lt_succ_self _⟩
  clear S h; rintro a w2 ⟨h, S⟩; rw [hj1] at h; clear hj1 j1
  refine then_n (f_seq (f_region (lv S (rn_assign rfl) rfl ?_))); clear S; intro a S
  refine l_done (then_n (wp_ret ?_))
  obtain rfl := Option.some.inj h
  exact f_ret S Tryz.results29 rfl rfl
theorem tumblaw2_recorded_ok (w : World) (r : Bool) (h : tumblaw2_recorded = some r) :
    Calls Tryz.prog 30 [].toArray w (Ret w [] fun _ v _ => v = bV r) := by
 refine f_enter [] [] Tryz.func30 rfl Tryz.ntmps30 rfl (by simp) (by simp [fps]) (by simp [fps]) fun a S => ?_
 unfold tumblaw2_recorded at h
 replace S := S.nk [] [] [] rfl trivial
 refine f_seq (f_region (lv S (rn_assign rfl) rfl ?_)); clear S; intro a S
 refine l_done (then_n (f_seq (f_region (lv S (rn_bld bt_55 (pv := [(0, sV k_k), (1, sV k_r), (4, iV 9)]) ⟨rfl, rfl, rfl, rfl, rfl, rfl, trivial⟩ (cs := [sV k_k, sV k_r, .slice none 0 0, iV 0, iV 9]) (by kernel_rfl)) rfl ?_)))); clear S; intro a S
 refine l_buildSlice S Tryz.underlying26 Tryz.sizeOf55 Tryz.zeroValue55 rfl rfl (pv := [(0, .agg #[sV k_k, sV k_r, .slice none 0 0, iV 0, iV 9])]) ⟨rfl, (S.tm rfl), trivial⟩ (cs := [sV k_k, sV k_r, .slice none 0 0, iV 0, iV 9]) (by kernel_rfl) rfl ?_; clear S; intro a w1 b1 hz1 hk1 S
 refine lv S (rn_bld bt_34 (pv := [(1, iV 1), (2, sV k_i), (3, sV k_a), (5, sV k_r), (7, iV 5)]) ⟨rfl, rfl, rfl, rfl, rfl, rfl, rfl, rfl, rfl, rfl, trivial⟩ (cs := [iV 0, iV 1, sV k_i, sV k_a, sV k_empty, sV k_r, iV 0, iV 5]) (by kernel_rfl)) rfl ?_; clear S; intro a S
 have hr1 : All2 (rel_55 nov) ([(GKind.mk k_k k_r ([] : List ByteArray) 0 9)] : List GKind) ([(R55.mk k_k k_r ⟨.slice none 0 0, rfl⟩ 0 9)] : List R55) := (All2.cons ⟨⟨.slice none 0 0, rfl⟩, rfl, (slc_nil _ _)⟩ All2.nil)
 replace S := S.litOwn (i := 0) (xs := ([(R55.mk k_k k_r ⟨.slice none 0 0, rfl⟩ 0 9)] : List R55)) rfl R55.enc_ok rfl rfl rfl
 replace S := S.nk [.own (.slice (some ⟨b1, 0, none⟩) 1 1) 55 5 ([(R55.mk k_k k_r ⟨.slice none 0 0, rfl⟩ 0 9)] : List R55).length (([(R55.mk k_k k_r ⟨.slice none 0 0, rfl⟩ 0 9)] : List R55).flatMap R55.enc)] [(0, bV false), (4, .agg #[sV k_k, sV k_r, .slice none 0 0, iV 0, iV 9]), (5, (.slice (some ⟨b1, 0, none⟩) 1 1)), (6, .agg (GStep.enc (GStep.mk 0 1 k_i k_a k_empty k_r 0 5)).toArray)] [] rfl (subR rfl)
 obtain ⟨r1, hr2, h⟩ := bindE h
 have hz2 := S.keep.size
 refine l_enter S (fun _ => run_call (vs := [(.slice (some ⟨b1, 0, none⟩) 1 1), .agg (GStep.enc (GStep.mk 0 1 k_i k_a k_empty k_r 0 5)).toArray]) ⟨(S.tm rfl), (S.tm rfl), trivial⟩ Tryz.call12) (record_For_ok _ (.slice (some ⟨b1, 0, none⟩) 1 1) ([(GKind.mk k_k k_r ([] : List ByteArray) 0 9)] : List GKind) ([(R55.mk k_k k_r ⟨.slice none 0 0, rfl⟩ 0 9)] : List R55) (own_slcT R55.enc_ok S (i := 0) rfl (ne_nil (e' := .own (.slice (some ⟨b1, 0, none⟩) 1 1) 55 5 ([(R55.mk k_k k_r ⟨.slice none 0 0, rfl⟩ 0 9)] : List R55).length (([(R55.mk k_k k_r ⟨.slice none 0 0, rfl⟩ 0 9)] : List R55).flatMap R55.enc)))) (rels_55 (S.le_new nil_sub) hr1) (GStep.mk 0 1 k_i k_a k_empty k_r 0 5) _ hr2) rfl ?_; clear S; intro v1 a w2 hv1 hk2 hn1 S
 obtain ⟨u1, rfl, ho1⟩ := hv1
 obtain ⟨φ1, hl1, hm1, S⟩ := S.see' hn1 hz2
 have hs1 := ho1.mono hm1
 refine lv S (rn_move (S.tm rfl)) rfl ?_; clear S; intro a S
 refine lv S (rn_extract (S.tm rfl) rfl) rfl ?_; clear S; intro a S
 refine lv S (rn_extract (S.tm rfl) rfl) rfl ?_; clear S; intro a S
 refine lv S (rn_assign (S.tm rfl)) rfl ?_; clear S; intro a S
 refine lv S (rn_assign (S.tm rfl)) rfl ?_; clear S; intro a S
 refine l_done (then_n (f_seq (f_region (lv S (rn_move (S.tm rfl)) rfl ?_)))); clear S; intro a S
 refine lv S (rn_eql (S.tm rfl) rfl) rfl ?_; clear S; intro a S
 refine lv S (rn_move (S.tm rfl)) rfl ?_; clear S; intro a S
 obtain ⟨j1, hj1, h⟩ := joinE h
 refine f_cutm 4 (fun a w' => ∃ c1, j1 c1 = some r ∧ Keep [] w2 w' ∧ Sx w [] φ1 [.own (.slice (some ⟨b1, 0, none⟩) 1 1) 55 5 ([(R55.mk k_k k_r ⟨.slice none 0 0, rfl⟩ 0 9)] : List R55).length (([(R55.mk k_k k_r ⟨.slice none 0 0, rfl⟩ 0 9)] : List R55).flatMap R55.enc)] [(16, bV c1)] 17 a w') ?_ ?_
 ·rcases Bool.eq_false_or_eq_true (decide (r1.2 = 0)) with hb1 | hb1
  ·replace h := iteT h hb1
   refine l_want S rfl rfl rfl hb1 (lv S (rn_move (S.tm rfl)) rfl ?_); clear S; intro a S
   refine l_want S rfl rfl rfl hb1 (l_buildSlice S Tryz.underlying37 Tryz.sizeOf9 Tryz.zeroValue9 rfl rfl (pv := [(0, sV k_k)]) ⟨rfl, rfl, trivial⟩ (cs := [sV k_k]) (by kernel_rfl) rfl ?_); clear S; intro a w4 b2 hz3 hk3 S
   refine l_want S rfl rfl rfl hb1 ?_
   obtain ⟨r2, hr3, h⟩ := bindE h
   refine l_enter S (fun _ => run_call (vs := [u1, .slice (some ⟨b2, 0, none⟩) 1 1]) ⟨(S.tm rfl), (S.tm rfl), trivial⟩ Tryz.call28) (slices_Equal_string_ok _ u1 r1.1 ((ownV_slcT enc_str hs1).mono (S.le_new nil_sub)) (.slice (some ⟨b2, 0, none⟩) 1 1) [k_k] (lit_slcT enc_str S (i := 0) rfl rfl rfl rfl ((ne_nil (e' := .blk b2 [sV k_k] 9)) _ rfl)) _ hr3) rfl ?_; clear S; intro v2 a w5 hv2 hk4 hn2 S
   subst hv2
   refine lv S (rn_and_t hb1 (S.tm rfl) (S.tm rfl)) rfl ?_; clear S; intro a S
   refine l_done (then_n ?_)
   exact ⟨_, h, (hk3).trans hk4, S.nf [false, true] rfl ⟨rfl, trivial⟩⟩
  ·replace h := iteF h hb1
   iterate 3 (refine l_skip S rfl rfl rfl (neq_f hb1) rfl ?_ rfl; clear S; intro a S)
   refine lv S (rn_and_f true hb1 (S.tm rfl) rfl) rfl ?_; clear S; intro a S
   refine l_done (then_n ?_)
   exact ⟨_, h, Keep.refl _ _, S.nf [true] rfl ⟨rfl, trivial⟩⟩
 clear S h; rintro a w3 ⟨c1, h, hk5, S⟩; rw [hj1] at h; clear hj1 j1
 refine lv S (rn_assign (S.tm rfl)) rfl ?_; clear S; intro a S
 refine l_done (then_n (wp_ret ?_))
 obtain rfl := Option.some.inj h
 exact f_ret S Tryz.results30 rfl rfl
set_option maxRecDepth 20000 in
theorem tumblaw2_RecordsHeld_ok (w : World) (v_p_l : Value) (p_l : List Int) (hs_p_l : Slc (view w []) 1 v_p_l (p_l.map eInt)) (r : Bool) (h : tumblaw2_RecordsHeld p_l = some r) :
    Calls Tryz.prog 3 [v_p_l].toArray w (Ret w [] fun _ v _ => v = bV r) := by
 refine f_enter [] [] Tryz.func3 rfl Tryz.ntmps3 rfl (by simp) (by simp [fps]) (by simp [fps]) fun a S => ?_
 unfold tumblaw2_RecordsHeld at h
 replace S := S.nk [] [(0, v_p_l)] [] rfl ⟨rfl, trivial⟩
 refine f_seq (f_region (lv S (rn_assign rfl) rfl ?_)); clear S; intro a S
 refine l_done (then_n (f_seq (f_region (lv S (rn_move (S.tm rfl)) rfl ?_)))); clear S; intro a S
 refine lv S (rn_bld bt_25 (pv := [(0, v_p_l)]) ⟨rfl, (S.tm rfl), trivial⟩ (cs := [v_p_l, iV 0]) (by obtain ⟨_, _, hv⟩ := (slc_len hs_p_l); rw [hv]; clear hv; kernel_rfl)) rfl ?_; clear S; intro a S
 refine l_box S (S.tm rfl) (cs := [v_p_l, iV 0]) rfl rfl ?_; clear S; intro a w1 b1 hz1 hk1 S
 refine lv S (rn_assign (S.tm rfl)) rfl ?_; clear S; intro a S
 refine l_done (then_n (f_seq (f_region (lv S (rn_move (S.tm rfl)) rfl ?_)))); clear S; intro a S
 obtain ⟨r1, hr1, h⟩ := bindE h
 have hz2 := S.keep.size
 refine l_enter1 0 S (b := b1) rfl rfl (fun _ => .blk b1 [v_p_l, iV r1.2] 25) (fun _ => run_call (vs := [.pointer (some ⟨b1, 0, none⟩)]) ⟨(S.tm rfl), trivial⟩ Tryz.call4) (Stream_Kinds_ok _ b1 v_p_l p_l (hs_p_l.mono (S.le_arg (fp_sub (i := 0) (e := .blk b1 [v_p_l, iV 0] 25) rfl))) 0 (S.holds _ (List.mem_of_getElem? (i := 0) rfl)) _ hr1) rfl (fun _ _ _ h => ⟨h.1, fun _ hc => by cases hc; rfl⟩) ?_; clear S; intro v1 a w2 hv1 hk2 hn1 S
 replace hv1 := hv1.2
 obtain ⟨rs1, ho2, hr2⟩ := hv1
 obtain ⟨φ1, hl1, hm1, S⟩ := S.see' hn1 hz2
 have hs1 := ho2.mono hm1
 have hr3 := rels_55 (View.le_trans (hide_le _ _) hm1) hr2
 refine lv S (rn_move (S.tm rfl)) rfl ?_; clear S; intro a S
 refine lv S (rn_move (S.tm rfl)) rfl ?_; clear S; intro a S
 obtain ⟨r2, hr4, h⟩ := bindE h
 refine l_enter1 0 S (b := b1) rfl rfl (fun _ => .blk b1 [v_p_l, iV r2.2] 25) (fun _ => run_call (vs := [.pointer (some ⟨b1, 0, none⟩), iV 0, iV 16]) ⟨(S.tm rfl), rfl, rfl, trivial⟩ Tryz.call6) (Stream_Range_ok _ b1 v_p_l p_l (hs_p_l.mono (S.le_arg (fp_sub (i := 0) (e := .blk b1 [v_p_l, iV r1.2] 25) rfl))) r1.2 (S.holds _ (List.mem_of_getElem? (i := 0) rfl)) 0 16 _ hr4) rfl (fun _ _ _ h => ⟨h.1, fun _ hc => by cases hc; rfl⟩) ?_; clear S; intro v2 a w3 hv2 hk3 hn2 S
 replace hv2 := hv2.2
 subst hv2
 obtain ⟨r3, hr5, h⟩ := bindE h
 have hz3 := S.keep.size
 refine l_enter1 0 S (b := b1) rfl rfl (fun _ => .blk b1 [v_p_l, iV r3.2] 25) (fun _ => run_call (vs := [.pointer (some ⟨b1, 0, none⟩), iV r2.1]) ⟨(S.tm rfl), (S.tm rfl), trivial⟩ Tryz.call5) (Stream_Steps_ok _ b1 v_p_l p_l (hs_p_l.mono (S.le_arg (fp_sub (i := 0) (e := .blk b1 [v_p_l, iV r2.2] 25) rfl))) r2.2 (S.holds _ (List.mem_of_getElem? (i := 0) rfl)) r2.1 _ hr5) rfl (fun _ _ _ h => ⟨h.1, fun _ hc => by cases hc; rfl⟩) ?_; clear S; intro v3 a w4 hv3 hk4 hn3 S
 replace hv3 := hv3.2
 obtain ⟨φ2, hl2, hm2, S⟩ := S.see' hn3 hz3
 have hs2 := hv3.mono hm2
 refine lv S (rn_move (S.tm rfl)) rfl ?_; clear S; intro a S
 refine l_buildSlice S Tryz.underlying37 Tryz.sizeOf9 Tryz.zeroValue9 rfl rfl (pv := [(0, sV k_ka), (1, sV k_kb), (2, sV k_kc), (3, sV k_zz)]) ⟨rfl, rfl, rfl, rfl, rfl, rfl, rfl, rfl, trivial⟩ (cs := [sV k_ka, sV k_kb, sV k_kc, sV k_zz]) (by kernel_rfl) rfl ?_; clear S; intro a w5 b2 hz4 hk5 S
 obtain ⟨r4, hr6, h⟩ := bindE h
 refine l_enter1 1 S (b := b1) rfl rfl (fun _ => .blk b1 [v_p_l, iV r4.2] 25) (fun _ => run_call (vs := [.pointer (some ⟨b1, 0, none⟩), .slice (some ⟨b2, 0, none⟩) 4 4]) ⟨(S.tm rfl), (S.tm rfl), trivial⟩ Tryz.call7) (Stream_Some_ok _ b1 v_p_l p_l (hs_p_l.mono (S.le_arg (fp_sub (i := 1) (e := .blk b1 [v_p_l, iV r3.2] 25) rfl))) r3.2 (S.holds _ (List.mem_of_getElem? (i := 1) rfl)) (.slice (some ⟨b2, 0, none⟩) 4 4) [k_ka, k_kb, k_kc, k_zz] (lit_slcT enc_str S (i := 0) rfl rfl rfl rfl ((ne_fp (i := 1) (j := 0) (e := .blk b1 [v_p_l, iV r3.2] 25) (e' := .blk b2 [sV k_ka, sV k_kb, sV k_kc, sV k_zz] 9) S rfl rfl rfl) _ rfl)) _ hr6) rfl (fun _ _ _ h => ⟨h.1, fun _ hc => by cases hc; rfl⟩) ?_; clear S; intro v4 a w6 hv4 hk6 hn4 S
 replace hv4 := hv4.2
 subst hv4
 refine lv S (rn_move (S.tm rfl)) rfl ?_; clear S; intro a S
 refine l_buildSlice S Tryz.underlying22 Tryz.sizeOf3 Tryz.zeroValue3 rfl rfl (pv := [(0, iV 0), (1, iV 3), (2, iV 10), (3, iV 20), (4, iV 60), (5, iV (-1))]) ⟨rfl, rfl, rfl, rfl, rfl, rfl, rfl, rfl, rfl, rfl, rfl, rfl, trivial⟩ (cs := [iV 0, iV 3, iV 10, iV 20, iV 60, iV (-1)]) (by kernel_rfl) rfl ?_; clear S; intro a w7 b3 hz5 hk7 S
 obtain ⟨r5, hr7, h⟩ := bindE h
 refine l_enter1 2 S (b := b1) rfl rfl (fun _ => .blk b1 [v_p_l, iV r5.2] 25) (fun _ => run_call (vs := [.pointer (some ⟨b1, 0, none⟩), .slice (some ⟨b3, 0, none⟩) 6 6]) ⟨(S.tm rfl), (S.tm rfl), trivial⟩ Tryz.call8) (Stream_Pick_ok _ b1 v_p_l p_l (hs_p_l.mono (S.le_arg (fp_sub (i := 2) (e := .blk b1 [v_p_l, iV r4.2] 25) rfl))) r4.2 (S.holds _ (List.mem_of_getElem? (i := 2) rfl)) (.slice (some ⟨b3, 0, none⟩) 6 6) [0, 3, 10, 20, 60, (-1)] (lit_slcT enc_int S (i := 0) rfl rfl rfl rfl ((ne_fp (i := 2) (j := 0) (e := .blk b1 [v_p_l, iV r4.2] 25) (e' := .blk b3 [iV 0, iV 3, iV 10, iV 20, iV 60, iV (-1)] 3) S rfl rfl rfl) _ rfl)) _ hr7) rfl (fun _ _ _ h => ⟨h.1, fun _ hc => by cases hc; rfl⟩) ?_; clear S; intro v5 a w8 hv5 hk8 hn5 S
 replace hv5 := hv5.2
 subst hv5
 refine lv S (rn_move (S.tm rfl)) rfl ?_; clear S; intro a S
 obtain ⟨r6, hr8, h⟩ := bindE h
 refine l_enter1 2 S (b := b1) rfl rfl (fun _ => .blk b1 [v_p_l, iV r6.2] 25) (fun _ => run_call (vs := [.pointer (some ⟨b1, 0, none⟩), iV 70]) ⟨(S.tm rfl), rfl, trivial⟩ Tryz.call9) (Stream_SwumStep_ok _ b1 v_p_l p_l (hs_p_l.mono (S.le_arg (fp_sub (i := 2) (e := .blk b1 [v_p_l, iV r5.2] 25) rfl))) r5.2 (S.holds _ (List.mem_of_getElem? (i := 2) rfl)) 70 _ hr8) rfl (fun _ _ _ h => ⟨h.1, fun _ hc => by cases hc; rfl⟩) ?_; clear S; intro v6 a w9 hv6 hk9 hn6 S
 replace hv6 := hv6.2
 subst hv6
 refine l_alloc S Tryz.zeroValue34 (cs := [iV 0, iV 0, sV k_empty, sV k_empty, sV k_empty, sV k_empty, iV 0, iV 0]) rfl rfl ?_; clear S; intro a w10 b4 hz6 hk10 S
 iterate 4 (refine lv S (rn_assign (S.tm rfl)) rfl ?_; clear S; intro a S)
 refine l_store S (S.tm rfl) (S.tm rfl) (i := 0) (off := 0) rfl Tryz.sizeOf34 (vs := (GStep.enc r6.1)) rfl rfl rfl rfl ?_; clear S; intro w11 hk11 S
 refine l_done ?_
 replace S := S.nk [.blk b4 (GStep.enc r6.1) 34, .blk b1 [v_p_l, iV r6.2] 25] [(3, .pointer (some ⟨b1, 0, none⟩)), (4, v1), (5, v3), (6, sV r4.1), (7, iV r5.1), (8, .pointer (some ⟨b4, 0, none⟩))] [true, false, false, true] rfl (subR rfl)
 refine then_n (f_seq (f_seq (f_region (lv S (rn_move (S.tm rfl)) rfl ?_)))); clear S; intro a S
 obtain ⟨r7, hr9, h⟩ := bindE h
 refine l_enter1 1 S (b := b1) rfl rfl (fun _ => .blk b1 [v_p_l, iV r7.2] 25) (fun _ => run_call (vs := [.pointer (some ⟨b1, 0, none⟩), iV 6]) ⟨(S.tm rfl), rfl, trivial⟩ Tryz.call10) (Stream_Flip_ok _ b1 v_p_l p_l (hs_p_l.mono (S.le_arg (fp_sub (i := 1) (e := .blk b1 [v_p_l, iV r6.2] 25) rfl))) r6.2 (S.holds _ (List.mem_of_getElem? (i := 1) rfl)) 6 _ hr9) rfl (fun _ _ _ h => ⟨h.1, fun _ hc => by cases hc; rfl⟩) ?_; clear S; intro v7 a w12 hv7 hk12 hn7 S
 replace hv7 := hv7.2
 subst hv7
 refine l_done (then_n ?_)
 obtain ⟨j1, hj1, h⟩ := joinE h
 refine f_join (fun a w' => ∃ x1 : Int, ∃ x2 : Int, j1 x1 x2 = some r ∧ Sx w [] φ2 [.blk b4 (GStep.enc (GStep.mk r6.1.At x1 r6.1.Id r6.1.Who r6.1.Club r6.1.Race x2 r6.1.Time)) 34] [(4, v1), (5, v3), (6, sV r4.1), (7, iV r5.1), (8, .pointer (some ⟨b4, 0, none⟩))] 183 a w') ?_ ?_
 ·refine f_cond (S.tm rfl) (fun hb1 => ?_) (fun hb1 => ?_)
  ·replace h := iteT h hb1
   refine f_region (lv S (rn_move (S.tm rfl)) rfl ?_); clear S; intro a S
   refine l_buildSlice S Tryz.underlying22 Tryz.sizeOf3 Tryz.zeroValue3 rfl rfl (pv := [(0, iV 1), (1, iV 2), (2, iV 4)]) ⟨rfl, rfl, rfl, rfl, rfl, rfl, trivial⟩ (cs := [iV 1, iV 2, iV 4]) (by kernel_rfl) rfl ?_; clear S; intro a w14 b5 hz7 hk13 S
   obtain ⟨r8, hr10, h⟩ := bindE h
   refine l_enter1 2 S (b := b1) rfl rfl (fun _ => .blk b1 [v_p_l, iV r8.2] 25) (fun _ => run_call (vs := [.pointer (some ⟨b1, 0, none⟩), .slice (some ⟨b5, 0, none⟩) 3 3]) ⟨(S.tm rfl), (S.tm rfl), trivial⟩ Tryz.call8) (Stream_Pick_ok _ b1 v_p_l p_l (hs_p_l.mono (S.le_arg (fp_sub (i := 2) (e := .blk b1 [v_p_l, iV r7.2] 25) rfl))) r7.2 (S.holds _ (List.mem_of_getElem? (i := 2) rfl)) (.slice (some ⟨b5, 0, none⟩) 3 3) [1, 2, 4] (lit_slcT enc_int S (i := 0) rfl rfl rfl rfl ((ne_fp (i := 2) (j := 0) (e := .blk b1 [v_p_l, iV r7.2] 25) (e' := .blk b5 [iV 1, iV 2, iV 4] 3) S rfl rfl rfl) _ rfl)) _ hr10) rfl (fun _ _ _ h => ⟨h.1, fun _ hc => by cases hc; rfl⟩) ?_; clear S; intro v8 a w15 hv8 hk14 hn8 S
   replace hv8 := hv8.2
   subst hv8
   refine lv S (rn_move (S.tm rfl)) rfl ?_; clear S; intro a S
   obtain ⟨r9, hr11, h⟩ := bindE h
   refine l_enter1 2 S (b := b1) rfl rfl (fun _ => .blk b1 [v_p_l, iV r9.2] 25) (fun _ => run_call (vs := [.pointer (some ⟨b1, 0, none⟩), iV 0, iV 150]) ⟨(S.tm rfl), rfl, rfl, trivial⟩ Tryz.call11) (Stream_Odd_ok _ b1 v_p_l p_l (hs_p_l.mono (S.le_arg (fp_sub (i := 2) (e := .blk b1 [v_p_l, iV r8.2] 25) rfl))) r8.2 (S.holds _ (List.mem_of_getElem? (i := 2) rfl)) 0 150 _ hr11) rfl (fun _ _ _ h => ⟨h.1, fun _ hc => by cases hc; rfl⟩) ?_; clear S; intro v9 a w16 hv9 hk15 hn9 S
   replace hv9 := hv9.2
   subst hv9
   refine lv S (rn_fld fa_34_1 (S.tm rfl)) rfl ?_; clear S; intro a S
   refine l_store S (S.tm rfl) (S.tm rfl) (i := 1) (off := 1) rfl Tryz.sizeOf3 (vs := [iV r8.1]) rfl rfl rfl rfl ?_; clear S; intro w17 hk16 S
   refine lv S (rn_fld fa_34_6 (S.tm rfl)) rfl ?_; clear S; intro a S
   refine l_store S (S.tm rfl) (S.tm rfl) (i := 1) (off := 6) rfl Tryz.sizeOf3 (vs := [iV r9.1]) rfl rfl rfl rfl ?_; clear S; intro w18 hk17 S
   refine l_done ?_
   replace S := S.nk [.blk b4 (GStep.enc (GStep.mk r6.1.At r8.1 r6.1.Id r6.1.Who r6.1.Club r6.1.Race r9.1 r6.1.Time)) 34] [(4, v1), (5, v3), (6, sV r4.1), (7, iV r5.1), (8, .pointer (some ⟨b4, 0, none⟩))] [false, true, false] rfl (subR rfl)
   refine then_n ?_
   exact ⟨r8.1, r9.1, h, S.nf [true] rfl (subR rfl)⟩
  ·replace h := iteF h hb1
   refine wp_skip (then_n ?_)
   exact ⟨r6.1.Kind, r6.1.Age, h, S.nf [true, false] rfl (subR rfl)⟩
 clear S h; rintro a w13 ⟨x1, x2, h, S⟩; rw [hj1] at h; clear hj1 j1
 refine then_n (f_seq (f_region (lv S (rn_move (S.tm rfl)) rfl ?_))); clear S; intro a S
 refine lv S (rn_ldA Tryz.isAgg34 Tryz.sizeOf34 (off := 0) (o := 0) (part := (GStep.enc (GStep.mk r6.1.At x1 r6.1.Id r6.1.Who r6.1.Club r6.1.Race x2 r6.1.Time))) rfl rfl (S.tm rfl) (S.cellsAt (i := 0) rfl)) rfl ?_; clear S; intro a S
 obtain ⟨r10, hr12, h⟩ := bindE h
 have hz8 := S.keep.size
 refine l_enter S (fun _ => run_call (vs := [v1, .agg (GStep.enc (GStep.mk r6.1.At x1 r6.1.Id r6.1.Who r6.1.Club r6.1.Race x2 r6.1.Time)).toArray]) ⟨(S.tm rfl), (S.tm rfl), trivial⟩ Tryz.call12) (record_For_ok _ v1 r1.1 rs1 ((ownV_slcT R55.enc_ok hs1).mono (View.le_trans hl2 (S.le_new nil_sub))) (rels_55 (View.le_trans hl2 (S.le_new nil_sub)) hr3) (GStep.mk r6.1.At x1 r6.1.Id r6.1.Who r6.1.Club r6.1.Race x2 r6.1.Time) _ hr12) rfl ?_; clear S; intro v10 a w19 hv10 hk18 hn10 S
 obtain ⟨u3, rfl, ho4⟩ := hv10
 obtain ⟨φ3, hl3, hm3, S⟩ := S.see' hn10 hz8
 have hs3 := ho4.mono hm3
 refine lv S (rn_move (S.tm rfl)) rfl ?_; clear S; intro a S
 refine lv S (rn_extract (S.tm rfl) rfl) rfl ?_; clear S; intro a S
 refine lv S (rn_extract (S.tm rfl) rfl) rfl ?_; clear S; intro a S
 refine lv S (rn_assign (S.tm rfl)) rfl ?_; clear S; intro a S
 refine lv S (rn_assign (S.tm rfl)) rfl ?_; clear S; intro a S
 refine l_done (then_n (f_seq (f_region (lv S (rn_move (S.tm rfl)) rfl ?_)))); clear S; intro a S
 iterate 3 (refine lv S (rn_move (S.tm rfl)) rfl ?_; clear S; intro a S)
 obtain ⟨r11, hr13, h⟩ := bindE h
 have hz9 := S.keep.size
 refine l_enter S (fun _ => run_call (vs := [v1, v3, sV r4.1, iV r5.1]) ⟨(S.tm rfl), (S.tm rfl), (S.tm rfl), (S.tm rfl), trivial⟩ Tryz.call13) (record_Record_ok _ v1 r1.1 rs1 ((ownV_slcT R55.enc_ok hs1).mono (View.le_trans (View.le_trans hl2 hl3) (S.le_new nil_sub))) (rels_55 (View.le_trans (View.le_trans hl2 hl3) (S.le_new nil_sub)) hr3) v3 r3.1 ((ownV_slcT GStep.enc_ok hs2).mono (View.le_trans hl3 (S.le_new nil_sub))) r4.1 r5.1 _ hr13) rfl ?_; clear S; intro v11 a w20 hv11 hk19 hn11 S
 obtain ⟨u4, rfl, ho5⟩ := hv11
 obtain ⟨φ4, hl4, hm4, S⟩ := S.see' hn11 hz9
 have hs4 := ho5.mono hm4
 refine lv S (rn_move (S.tm rfl)) rfl ?_; clear S; intro a S
 refine lv S (rn_extract (S.tm rfl) rfl) rfl ?_; clear S; intro a S
 refine lv S (rn_extract (S.tm rfl) rfl) rfl ?_; clear S; intro a S
 refine lv S (rn_assign (S.tm rfl)) rfl ?_; clear S; intro a S
 refine lv S (rn_assign (S.tm rfl)) rfl ?_; clear S; intro a S
 refine l_done ?_
 replace S := S.nk [.blk b4 (GStep.enc (GStep.mk r6.1.At x1 r6.1.Id r6.1.Who r6.1.Club r6.1.Race x2 r6.1.Time)) 34] [(4, v1), (5, v3), (6, sV r4.1), (7, iV r5.1), (8, .pointer (some ⟨b4, 0, none⟩)), (9, u3), (10, iV r10.2), (11, u4), (12, iV r11.2)] [true] rfl (subR rfl)
 refine then_n (f_seq (f_region (lv S (rn_move (S.tm rfl)) rfl ?_))); clear S; intro a S
 refine lv S (rn_move (S.tm rfl)) rfl ?_; clear S; intro a S
 refine lv S (rn_move (S.tm rfl)) rfl ?_; clear S; intro a S
 obtain ⟨r12, hr14, h⟩ := bindE h
 have hz10 := S.keep.size
 refine l_enter S (fun _ => run_call (vs := [v1, v3, iV r5.1]) ⟨(S.tm rfl), (S.tm rfl), (S.tm rfl), trivial⟩ Tryz.call14) (record_All_ok _ v1 r1.1 rs1 ((ownV_slcT R55.enc_ok hs1).mono (View.le_trans (View.le_trans (View.le_trans hl2 hl3) hl4) (S.le_new nil_sub))) (rels_55 (View.le_trans (View.le_trans (View.le_trans hl2 hl3) hl4) (S.le_new nil_sub)) hr3) v3 r3.1 ((ownV_slcT GStep.enc_ok hs2).mono (View.le_trans (View.le_trans hl3 hl4) (S.le_new nil_sub))) r5.1 _ hr14) rfl ?_; clear S; intro v12 a w21 hv12 hk20 hn12 S
 obtain ⟨u5, rfl, ho6⟩ := hv12
 obtain ⟨φ5, hl5, hm5, S⟩ := S.see' hn12 hz10
 have hs5 := ho6.mono hm5
 refine lv S (rn_move (S.tm rfl)) rfl ?_; clear S; intro a S
 refine lv S (rn_extract (S.tm rfl) rfl) rfl ?_; clear S; intro a S
 refine lv S (rn_extract (S.tm rfl) rfl) rfl ?_; clear S; intro a S
 refine lv S (rn_assign (S.tm rfl)) rfl ?_; clear S; intro a S
 refine lv S (rn_assign (S.tm rfl)) rfl ?_; clear S; intro a S
 refine l_done ?_
 replace S := S.nk [.blk b4 (GStep.enc (GStep.mk r6.1.At x1 r6.1.Id r6.1.Who r6.1.Club r6.1.Race x2 r6.1.Time)) 34] [(4, v1), (5, v3), (6, sV r4.1), (7, iV r5.1), (8, .pointer (some ⟨b4, 0, none⟩)), (9, u3), (10, iV r10.2), (11, u4), (12, iV r11.2), (13, u5), (14, iV r12.2)] [true] rfl (subR rfl)
 refine then_n (f_seq (f_region (lv S (rn_move (S.tm rfl)) rfl ?_))); clear S; intro a S
 iterate 3 (refine lv S (rn_move (S.tm rfl)) rfl ?_; clear S; intro a S)
 obtain ⟨r13, hr15, h⟩ := bindE h
 have hz11 := S.keep.size
 refine l_enter S (fun _ => run_call (vs := [v1, v3, sV r4.1, iV r5.1]) ⟨(S.tm rfl), (S.tm rfl), (S.tm rfl), (S.tm rfl), trivial⟩ Tryz.call15) (record_History_ok _ v1 r1.1 rs1 ((ownV_slcT R55.enc_ok hs1).mono (View.le_trans (View.le_trans (View.le_trans (View.le_trans hl2 hl3) hl4) hl5) (S.le_new nil_sub))) (rels_55 (View.le_trans (View.le_trans (View.le_trans (View.le_trans hl2 hl3) hl4) hl5) (S.le_new nil_sub)) hr3) v3 r3.1 ((ownV_slcT GStep.enc_ok hs2).mono (View.le_trans (View.le_trans (View.le_trans hl3 hl4) hl5) (S.le_new nil_sub))) r4.1 r5.1 _ hr15) rfl ?_; clear S; intro v13 a w22 hv13 hk21 hn13 S
 obtain ⟨u6, rfl, ho7⟩ := hv13
 obtain ⟨φ6, hl6, hm6, S⟩ := S.see' hn13 hz11
 have hs6 := ho7.mono hm6
 refine lv S (rn_move (S.tm rfl)) rfl ?_; clear S; intro a S
 refine lv S (rn_extract (S.tm rfl) rfl) rfl ?_; clear S; intro a S
 refine lv S (rn_extract (S.tm rfl) rfl) rfl ?_; clear S; intro a S
 refine lv S (rn_assign (S.tm rfl)) rfl ?_; clear S; intro a S
 refine lv S (rn_assign (S.tm rfl)) rfl ?_; clear S; intro a S
 refine l_done ?_
 replace S := S.nk [.blk b4 (GStep.enc (GStep.mk r6.1.At x1 r6.1.Id r6.1.Who r6.1.Club r6.1.Race x2 r6.1.Time)) 34] [(4, v1), (5, v3), (6, sV r4.1), (7, iV r5.1), (8, .pointer (some ⟨b4, 0, none⟩)), (9, u3), (10, iV r10.2), (11, u4), (12, iV r11.2), (13, u5), (14, iV r12.2), (15, u6), (16, iV r13.2)] [true] rfl (subR rfl)
 refine then_n (f_seq (f_region (lv S (rn_move (S.tm rfl)) rfl ?_))); clear S; intro a S
 obtain ⟨r14, hr16, h⟩ := bindE h
 refine l_enter S (fun _ => run_call (vs := [v1]) ⟨(S.tm rfl), trivial⟩ Tryz.call17) (tumbref2_KindsFault_ok _ v1 r1.1 rs1 ((ownV_slcT R55.enc_ok hs1).mono (View.le_trans (View.le_trans (View.le_trans (View.le_trans (View.le_trans hl2 hl3) hl4) hl5) hl6) (S.le_new nil_sub))) (rels_55 (View.le_trans (View.le_trans (View.le_trans (View.le_trans (View.le_trans hl2 hl3) hl4) hl5) hl6) (S.le_new nil_sub)) hr3) _ hr16) rfl ?_; clear S; intro v14 a w23 hv14 hk22 hn14 S
 subst hv14
 refine lv S (rn_move (S.tm rfl)) rfl ?_; clear S; intro a S
 obtain ⟨r15, hr17, h⟩ := bindE h
 refine l_enter S (fun _ => run_call (vs := [v3]) ⟨(S.tm rfl), trivial⟩ Tryz.call18) (tumbref2_StepsFault_ok _ v3 r3.1 ((ownV_slcT GStep.enc_ok hs2).mono (View.le_trans (View.le_trans (View.le_trans (View.le_trans hl3 hl4) hl5) hl6) (S.le_new nil_sub))) _ hr17) rfl ?_; clear S; intro v15 a w24 hv15 hk23 hn15 S
 subst hv15
 refine l_buildSlice S Tryz.underlying80 Tryz.sizeOf38 Tryz.zeroValue38 rfl rfl (pv := [(0, iV r14), (1, iV r15)]) ⟨rfl, (S.tm rfl), rfl, (S.tm rfl), trivial⟩ (cs := [iV r14, iV r15]) (by kernel_rfl) rfl ?_; clear S; intro a w25 b6 hz12 hk24 S
 refine l_enter S (fun _ => run_call (vs := [.slice (some ⟨b6, 0, none⟩) 2 2]) ⟨(S.tm rfl), trivial⟩ Tryz.call16) (tumblaw2_errs_ok _ (.slice (some ⟨b6, 0, none⟩) 2 2) [r14, r15] (lit_slcT enc_int S (i := 0) rfl rfl rfl rfl ((ne_nil (e' := .blk b6 [iV r14, iV r15] 38)) _ rfl)) _ rfl) rfl ?_; clear S; intro v16 a w26 hv16 hk25 hn16 S
 subst hv16
 refine lv S (rn_assign (S.tm rfl)) rfl ?_; clear S; intro a S
 refine l_done ?_
 replace S := S.nk [.blk b4 (GStep.enc (GStep.mk r6.1.At x1 r6.1.Id r6.1.Who r6.1.Club r6.1.Race x2 r6.1.Time)) 34] [(4, v1), (5, v3), (6, sV r4.1), (7, iV r5.1), (8, .pointer (some ⟨b4, 0, none⟩)), (9, u3), (10, iV r10.2), (11, u4), (12, iV r11.2), (13, u5), (14, iV r12.2), (15, u6), (16, iV r13.2), (17, iV (tumblaw2_errs [r14, r15]))] [false, true] rfl (subR rfl)
 refine then_n (f_seq ?_)
 obtain ⟨r16, hr18, h⟩ := bindE h
 obtain ⟨r17, hr19, h⟩ := bindE h
 refine d_region [] ([]) Tryz.mixed S rfl (by kernel_rfl) ?_; clear S; intro w35 hk34 hsel S
 refine d_quiet 0 S hsel rfl rfl rfl (by kernel_rfl) (by kernel_rfl) rfl (fun _ hw => (rn_move (S.tm rfl))) ?_; clear S; intro a S
 refine d_quiet 2 S hsel rfl rfl rfl (by kernel_rfl) (by kernel_rfl) rfl (fun _ hw => (rn_ldA Tryz.isAgg34 Tryz.sizeOf34 (off := 0) (o := 0) (part := (GStep.enc (GStep.mk r6.1.At x1 r6.1.Id r6.1.Who r6.1.Club r6.1.Race x2 r6.1.Time))) rfl rfl (S.tm rfl) ((S.blk_mem (i := 0) (cells := (GStep.enc (GStep.mk r6.1.At x1 r6.1.Id r6.1.Who r6.1.Club r6.1.Race x2 r6.1.Time))) (b := b4) (T := 34) rfl (ne_nil (e' := .blk b4 (GStep.enc (GStep.mk r6.1.At x1 r6.1.Id r6.1.Who r6.1.Club r6.1.Race x2 r6.1.Time)) 34))).kept hw))) ?_; clear S; intro a S
 refine d_quiet 4 S hsel rfl rfl rfl (by kernel_rfl) (by kernel_rfl) rfl (fun _ hw => (rn_fld fa_34_1 (S.tm rfl))) ?_; clear S; intro a S
 refine d_quiet 5 S hsel rfl rfl rfl (by kernel_rfl) (by kernel_rfl) rfl (fun _ hw => (rn_ld Tryz.isAgg3 (off := 0) (o := 1) (S.tm rfl) ((S.blk_mem (i := 0) (cells := (GStep.enc (GStep.mk r6.1.At x1 r6.1.Id r6.1.Who r6.1.Club r6.1.Race x2 r6.1.Time))) (b := b4) (T := 34) rfl (ne_nil (e' := .blk b4 (GStep.enc (GStep.mk r6.1.At x1 r6.1.Id r6.1.Who r6.1.Club r6.1.Race x2 r6.1.Time)) 34))).kept hw) rfl)) ?_; clear S; intro a S
 refine d_quiet 6 S hsel rfl rfl rfl (by kernel_rfl) (by kernel_rfl) rfl (fun _ hw => (rn_neq (S.tm rfl) rfl)) ?_; clear S; intro a S
 refine d_quiet 10 S hsel rfl rfl rfl (by kernel_rfl) (by kernel_rfl) rfl (fun _ hw => (rn_move (S.tm rfl))) ?_; clear S; intro a S
 refine d_quiet 11 S hsel rfl rfl rfl (by kernel_rfl) (by kernel_rfl) rfl (fun _ hw => (rn_move (S.tm rfl))) ?_; clear S; intro a S
 refine d_quiet 12 S hsel rfl rfl rfl (by kernel_rfl) (by kernel_rfl) rfl (fun _ hw => (rn_move (S.tm rfl))) ?_; clear S; intro a S
 refine d_loud1 1 (by kernel_rfl) rfl (l_enter S (fun _ => run_call (vs := [v1]) ⟨(S.tm rfl), trivial⟩ Tryz.call17) (tumbref2_KindsFault_ok _ v1 r1.1 rs1 ((ownV_slcT R55.enc_ok hs1).mono (View.le_trans (View.le_trans (View.le_trans (View.le_trans (View.le_trans hl2 hl3) hl4) hl5) hl6) (S.le_new nil_sub))) (rels_55 (View.le_trans (View.le_trans (View.le_trans (View.le_trans (View.le_trans hl2 hl3) hl4) hl5) hl6) (S.le_new nil_sub)) hr3) _ hr18) rfl ?_); clear S; intro v23 a w36 hv23 hk35 hn23 S
 subst hv23
 refine l_done (d_next hk35 (d_loud1 3 (by kernel_rfl) rfl (l_enter S (fun _ => run_call (vs := [.agg (GStep.enc (GStep.mk r6.1.At x1 r6.1.Id r6.1.Who r6.1.Club r6.1.Race x2 r6.1.Time)).toArray]) ⟨(S.tm rfl), trivial⟩ Tryz.call19) (tumbref2_StepFault_ok _ (GStep.mk r6.1.At x1 r6.1.Id r6.1.Who r6.1.Club r6.1.Race x2 r6.1.Time) _ hr19) rfl ?_))); clear S; intro v24 a w37 hv24 hk36 hn24 S
 subst hv24
 refine l_done (d_next hk36 (d_loud1 7 (by kernel_rfl) rfl (l_enter S (fun _ => run_call (vs := [bV (!decide (x1 = 1)), iV 4]) ⟨(S.tm rfl), rfl, trivial⟩ Tryz.call20) (tumblaw2_when_ok _ (!decide (x1 = 1)) 4 _ rfl) rfl ?_))); clear S; intro v25 a w38 hv25 hk37 hn25 S
 subst hv25
 refine l_done (d_next hk37 (d_loud1 8 (by kernel_rfl) rfl (l_buildSlice S Tryz.underlying80 Tryz.sizeOf38 Tryz.zeroValue38 rfl rfl (pv := [(0, iV r16), (1, iV r17), (2, iV (tumblaw2_when (!decide (x1 = 1)) 4))]) ⟨rfl, (S.tm rfl), rfl, (S.tm rfl), rfl, (S.tm rfl), trivial⟩ (cs := [iV r16, iV r17, iV (tumblaw2_when (!decide (x1 = 1)) 4)]) (by kernel_rfl) rfl ?_))); clear S; intro a w39 b9 hz15 hk38 S
 refine l_done (d_next hk38 (d_loud1 9 (by kernel_rfl) rfl (l_enter S (fun _ => run_call (vs := [.slice (some ⟨b9, 0, none⟩) 3 3]) ⟨(S.tm rfl), trivial⟩ Tryz.call16) (tumblaw2_errs_ok _ (.slice (some ⟨b9, 0, none⟩) 3 3) [r16, r17, (tumblaw2_when (!decide (x1 = 1)) 4)] (lit_slcT enc_int S (i := 0) rfl rfl rfl rfl ((ne_nil (e' := .blk b9 [iV r16, iV r17, iV (tumblaw2_when (!decide (x1 = 1)) 4)] 38)) _ rfl)) _ rfl) rfl ?_))); clear S; intro v26 a w40 hv26 hk39 hn26 S
 subst hv26
 refine l_done (d_next hk39 (d_loud1 13 (by kernel_rfl) rfl (l_enter S (fun _ => run_call (vs := [iV r5.1]) ⟨(S.tm rfl), trivial⟩ Tryz.call21) (tumblaw2_momentFault_ok _ r5.1 _ rfl) rfl ?_))); clear S; intro v27 a w41 hv27 hk40 hn27 S
 subst hv27
 refine l_done (d_next hk40 (d_loud1 14 (by kernel_rfl) rfl (l_buildSlice S Tryz.underlying80 Tryz.sizeOf38 Tryz.zeroValue38 rfl rfl (pv := [(0, iV (tumblaw2_errs [r14, r15])), (1, iV (tumblaw2_momentFault r5.1))]) ⟨rfl, (S.tm rfl), rfl, (S.tm rfl), trivial⟩ (cs := [iV (tumblaw2_errs [r14, r15]), iV (tumblaw2_momentFault r5.1)]) (by kernel_rfl) rfl ?_))); clear S; intro a w42 b10 hz16 hk41 S
 refine l_done (d_next hk41 (d_loud1 15 (by kernel_rfl) rfl (l_enter S (fun _ => run_call (vs := [.slice (some ⟨b10, 0, none⟩) 2 2]) ⟨(S.tm rfl), trivial⟩ Tryz.call16) (tumblaw2_errs_ok _ (.slice (some ⟨b10, 0, none⟩) 2 2) [(tumblaw2_errs [r14, r15]), (tumblaw2_momentFault r5.1)] (lit_slcT enc_int S (i := 0) rfl rfl rfl rfl ((ne_nil (e' := .blk b10 [iV (tumblaw2_errs [r14, r15]), iV (tumblaw2_momentFault r5.1)] 38)) _ rfl)) _ rfl) rfl ?_))); clear S; intro v28 a w43 hv28 hk42 hn28 S
 subst hv28
 refine l_done (d_next hk42 (d_rest [16, 17, 18] hsel (by kernel_rfl) rfl ?_))
 clear hsel
 iterate 3 (refine s_lv S rfl (rn_assign (S.tm rfl)) rfl ?_; clear S; intro a S)
 refine s_done ?_
 replace S := S.nk [.blk b4 (GStep.enc (GStep.mk r6.1.At x1 r6.1.Id r6.1.Who r6.1.Club r6.1.Race x2 r6.1.Time)) 34] [(4, v1), (5, v3), (6, sV r4.1), (7, iV r5.1), (8, .pointer (some ⟨b4, 0, none⟩)), (9, u3), (10, iV r10.2), (11, u4), (12, iV r11.2), (13, u5), (14, iV r12.2), (15, u6), (16, iV r13.2), (18, iV (tumblaw2_errs [r16, r17, (tumblaw2_when (!decide (x1 = 1)) 4)])), (19, iV (tumblaw2_errs [r14, r15])), (20, iV (tumblaw2_errs [(tumblaw2_errs [r14, r15]), (tumblaw2_momentFault r5.1)]))] [false, false, true] rfl (subR rfl)
 refine then_n (f_seq (f_seq (f_region (lv S (rn_move (S.tm rfl)) rfl ?_)))); clear S; intro a S
 refine lv S (rn_eql (S.tm rfl) rfl) rfl ?_; clear S; intro a S
 refine l_done ?_
 replace S := S.nk [.blk b4 (GStep.enc (GStep.mk r6.1.At x1 r6.1.Id r6.1.Who r6.1.Club r6.1.Race x2 r6.1.Time)) 34] [(4, v1), (5, v3), (6, sV r4.1), (7, iV r5.1), (8, .pointer (some ⟨b4, 0, none⟩)), (9, u3), (10, iV r10.2), (11, u4), (12, iV r11.2), (13, u5), (14, iV r12.2), (15, u6), (16, iV r13.2), (18, iV (tumblaw2_errs [r16, r17, (tumblaw2_when (!decide (x1 = 1)) 4)])), (19, iV (tumblaw2_errs [r14, r15])), (20, iV (tumblaw2_errs [(tumblaw2_errs [r14, r15]), (tumblaw2_momentFault r5.1)])), (103, bV (decide ((tumblaw2_errs [r14, r15]) = 0)))] [true] rfl (subR rfl)
 refine then_n ?_
 obtain ⟨j2, hj2, h⟩ := joinE h
 refine f_join (fun a w' => ∃ x3 : Int, j2 x3 = some r ∧ Sx w [] φ6 [.blk b4 (GStep.enc (GStep.mk r6.1.At x1 r6.1.Id r6.1.Who r6.1.Club r6.1.Race x2 r6.1.Time)) 34] [(4, v1), (5, v3), (6, sV r4.1), (7, iV r5.1), (8, .pointer (some ⟨b4, 0, none⟩)), (9, u3), (10, iV r10.2), (11, u4), (12, iV r11.2), (13, u5), (14, iV r12.2), (15, u6), (16, iV r13.2), (18, iV (tumblaw2_errs [r16, r17, (tumblaw2_when (!decide (x1 = 1)) 4)])), (19, iV x3), (20, iV (tumblaw2_errs [(tumblaw2_errs [r14, r15]), (tumblaw2_momentFault r5.1)]))] 183 a w') ?_ ?_
 ·refine f_cond (S.tm rfl) (fun hb2 => ?_) (fun hb2 => ?_)
  ·replace h := iteT h hb2
   refine f_region (lv S (rn_move (S.tm rfl)) rfl ?_); clear S; intro a S
   refine lv S (rn_move (S.tm rfl)) rfl ?_; clear S; intro a S
   refine l_enter S (fun _ => run_call (vs := [v1, sV r4.1]) ⟨(S.tm rfl), (S.tm rfl), trivial⟩ Tryz.call22) (tumblaw2_kindFault_ok _ v1 r1.1 rs1 ((ownV_slcT R55.enc_ok hs1).mono (View.le_trans (View.le_trans (View.le_trans (View.le_trans (View.le_trans hl2 hl3) hl4) hl5) hl6) (S.le_new nil_sub))) (rels_55 (View.le_trans (View.le_trans (View.le_trans (View.le_trans (View.le_trans hl2 hl3) hl4) hl5) hl6) (S.le_new nil_sub)) hr3) r4.1 _ rfl) rfl ?_; clear S; intro v29 a w45 hv29 hk43 hn29 S
   subst hv29
   refine lv S (rn_move (S.tm rfl)) rfl ?_; clear S; intro a S
   refine l_enter S (fun _ => run_call (vs := [iV r5.1]) ⟨(S.tm rfl), trivial⟩ Tryz.call21) (tumblaw2_momentFault_ok _ r5.1 _ rfl) rfl ?_; clear S; intro v30 a w46 hv30 hk44 hn30 S
   subst hv30
   refine l_buildSlice S Tryz.underlying80 Tryz.sizeOf38 Tryz.zeroValue38 rfl rfl (pv := [(0, iV (tumblaw2_kindFault r1.1 r4.1)), (1, iV (tumblaw2_momentFault r5.1))]) ⟨rfl, (S.tm rfl), rfl, (S.tm rfl), trivial⟩ (cs := [iV (tumblaw2_kindFault r1.1 r4.1), iV (tumblaw2_momentFault r5.1)]) (by kernel_rfl) rfl ?_; clear S; intro a w47 b11 hz17 hk45 S
   refine l_enter S (fun _ => run_call (vs := [.slice (some ⟨b11, 0, none⟩) 2 2]) ⟨(S.tm rfl), trivial⟩ Tryz.call16) (tumblaw2_errs_ok _ (.slice (some ⟨b11, 0, none⟩) 2 2) [(tumblaw2_kindFault r1.1 r4.1), (tumblaw2_momentFault r5.1)] (lit_slcT enc_int S (i := 0) rfl rfl rfl rfl ((ne_nil (e' := .blk b11 [iV (tumblaw2_kindFault r1.1 r4.1), iV (tumblaw2_momentFault r5.1)] 38)) _ rfl)) _ rfl) rfl ?_; clear S; intro v31 a w48 hv31 hk46 hn31 S
   subst hv31
   refine lv S (rn_assign (S.tm rfl)) rfl ?_; clear S; intro a S
   refine l_done ?_
   replace S := S.nk [.blk b4 (GStep.enc (GStep.mk r6.1.At x1 r6.1.Id r6.1.Who r6.1.Club r6.1.Race x2 r6.1.Time)) 34] [(4, v1), (5, v3), (6, sV r4.1), (7, iV r5.1), (8, .pointer (some ⟨b4, 0, none⟩)), (9, u3), (10, iV r10.2), (11, u4), (12, iV r11.2), (13, u5), (14, iV r12.2), (15, u6), (16, iV r13.2), (18, iV (tumblaw2_errs [r16, r17, (tumblaw2_when (!decide (x1 = 1)) 4)])), (19, iV (tumblaw2_errs [(tumblaw2_kindFault r1.1 r4.1), (tumblaw2_momentFault r5.1)])), (20, iV (tumblaw2_errs [(tumblaw2_errs [r14, r15]), (tumblaw2_momentFault r5.1)]))] [false, true] rfl (subR rfl)
   refine then_n ?_
   exact ⟨(tumblaw2_errs [(tumblaw2_kindFault r1.1 r4.1), (tumblaw2_momentFault r5.1)]), h, S.nf [true] rfl (subR rfl)⟩
  ·replace h := iteF h hb2
   refine wp_skip (then_n ?_)
   exact ⟨(tumblaw2_errs [r14, r15]), h, S.nf [true] rfl (subR rfl)⟩
 clear S h; rintro a w44 ⟨x3, h, S⟩; rw [hj2] at h; clear hj2 j2
 refine then_n (f_seq (f_region (lv S (rn_assign rfl) rfl ?_))); clear S; intro a S
 refine l_done ?_
 replace S := S.nk [.blk b4 (GStep.enc (GStep.mk r6.1.At x1 r6.1.Id r6.1.Who r6.1.Club r6.1.Race x2 r6.1.Time)) 34] [(4, v1), (5, v3), (6, sV r4.1), (7, iV r5.1), (8, .pointer (some ⟨b4, 0, none⟩)), (9, u3), (10, iV r10.2), (11, u4), (12, iV r11.2), (13, u5), (14, iV r12.2), (15, u6), (16, iV r13.2), (18, iV (tumblaw2_errs [r16, r17, (tumblaw2_when (!decide (x1 = 1)) 4)])), (19, iV x3), (20, iV (tumblaw2_errs [(tumblaw2_errs [r14, r15]), (tumblaw2_momentFault r5.1)])), (21, .slice none 0 0)] [true] rfl (subR rfl)
 refine then_n (f_seq (f_seq (f_region (lv S (rn_move (S.tm rfl)) rfl ?_)))); clear S; intro a S
 refine lv S (rn_eql (S.tm rfl) rfl) rfl ?_; clear S; intro a S
 refine l_done ?_
 replace S := S.nk [.blk b4 (GStep.enc (GStep.mk r6.1.At x1 r6.1.Id r6.1.Who r6.1.Club r6.1.Race x2 r6.1.Time)) 34] [(4, v1), (5, v3), (6, sV r4.1), (7, iV r5.1), (8, .pointer (some ⟨b4, 0, none⟩)), (9, u3), (10, iV r10.2), (11, u4), (12, iV r11.2), (13, u5), (14, iV r12.2), (15, u6), (16, iV r13.2), (18, iV (tumblaw2_errs [r16, r17, (tumblaw2_when (!decide (x1 = 1)) 4)])), (19, iV x3), (20, iV (tumblaw2_errs [(tumblaw2_errs [r14, r15]), (tumblaw2_momentFault r5.1)])), (21, .slice none 0 0), (112, bV (decide ((tumblaw2_errs [r16, r17, (tumblaw2_when (!decide (x1 = 1)) 4)]) = 0)))] [true] rfl (subR rfl)
 refine then_n ?_
 obtain ⟨j3, hj3, h⟩ := joinE h
 refine f_join (fun a w' => ∃ x4 : List ByteArray, ∃ φ7 : View, ∃ v32 : Value, j3 x4 = some r ∧ View.le φ6 φ7 ∧ OwnV φ7 9 1 v32 x4.length (x4.flatMap eStr) ∧ Sx w [] φ7 [] [(4, v1), (5, v3), (6, sV r4.1), (7, iV r5.1), (9, u3), (10, iV r10.2), (11, u4), (12, iV r11.2), (13, u5), (14, iV r12.2), (15, u6), (16, iV r13.2), (18, iV (tumblaw2_errs [r16, r17, (tumblaw2_when (!decide (x1 = 1)) 4)])), (19, iV x3), (20, iV (tumblaw2_errs [(tumblaw2_errs [r14, r15]), (tumblaw2_momentFault r5.1)])), (21, v32)] 183 a w') ?_ ?_
 ·refine f_cond (S.tm rfl) (fun hb3 => ?_) (fun hb3 => ?_)
  ·replace h := iteT h hb3
   refine f_region (lv S (rn_move (S.tm rfl)) rfl ?_); clear S; intro a S
   refine lv S (rn_ldA Tryz.isAgg34 Tryz.sizeOf34 (off := 0) (o := 0) (part := (GStep.enc (GStep.mk r6.1.At x1 r6.1.Id r6.1.Who r6.1.Club r6.1.Race x2 r6.1.Time))) rfl rfl (S.tm rfl) (S.cellsAt (i := 0) rfl)) rfl ?_; clear S; intro a S
   obtain ⟨r18, hr20, h⟩ := bindE h
   have hz18 := S.keep.size
   refine l_enter S (fun _ => run_call (vs := [v1, .agg (GStep.enc (GStep.mk r6.1.At x1 r6.1.Id r6.1.Who r6.1.Club r6.1.Race x2 r6.1.Time)).toArray]) ⟨(S.tm rfl), (S.tm rfl), trivial⟩ Tryz.call23) (tumbref2_ForOf_ok _ v1 r1.1 rs1 ((ownV_slcT R55.enc_ok hs1).mono (View.le_trans (View.le_trans (View.le_trans (View.le_trans (View.le_trans hl2 hl3) hl4) hl5) hl6) (S.le_new nil_sub))) (rels_55 (View.le_trans (View.le_trans (View.le_trans (View.le_trans (View.le_trans hl2 hl3) hl4) hl5) hl6) (S.le_new nil_sub)) hr3) (GStep.mk r6.1.At x1 r6.1.Id r6.1.Who r6.1.Club r6.1.Race x2 r6.1.Time) _ hr20) rfl ?_; clear S; intro v33 a w50 hv32 hk47 hn32 S
   obtain ⟨φ8, hl8, hm7, S⟩ := S.see' hn32 hz18
   have hs8 := hv32.mono hm7
   refine lv S (rn_assign (S.tm rfl)) rfl ?_; clear S; intro a S
   refine l_done ?_
   replace S := S.nk [] [(4, v1), (5, v3), (6, sV r4.1), (7, iV r5.1), (9, u3), (10, iV r10.2), (11, u4), (12, iV r11.2), (13, u5), (14, iV r12.2), (15, u6), (16, iV r13.2), (18, iV (tumblaw2_errs [r16, r17, (tumblaw2_when (!decide (x1 = 1)) 4)])), (19, iV x3), (20, iV (tumblaw2_errs [(tumblaw2_errs [r14, r15]), (tumblaw2_momentFault r5.1)])), (21, v33)] [false] rfl (subR rfl)
   refine then_n ?_
   exact ⟨r18, φ8, v33, h, hl8, hs8, S.nf [] rfl (subR rfl)⟩
  ·replace h := iteF h hb3
   refine wp_skip (then_n ?_)
   exact ⟨([] : List ByteArray), φ6, .slice none 0 0, h, (View.le_refl _), (ownV_nil _ _ _), S.nf [false] rfl (subR rfl)⟩
 clear S h; rintro a w49 ⟨x4, φ7, v32, h, hl7, hs7, S⟩; rw [hj3] at h; clear hj3 j3
 refine then_n (f_seq (f_region (lv S (rn_assign rfl) rfl ?_))); clear S; intro a S
 refine lv S (rn_assign rfl) rfl ?_; clear S; intro a S
 refine lv S (rn_assign rfl) rfl ?_; clear S; intro a S
 refine l_done ?_
 replace S := S.nk [] [(4, v1), (5, v3), (6, sV r4.1), (7, iV r5.1), (9, u3), (10, iV r10.2), (11, u4), (12, iV r11.2), (13, u5), (14, iV r12.2), (15, u6), (16, iV r13.2), (18, iV (tumblaw2_errs [r16, r17, (tumblaw2_when (!decide (x1 = 1)) 4)])), (19, iV x3), (20, iV (tumblaw2_errs [(tumblaw2_errs [r14, r15]), (tumblaw2_momentFault r5.1)])), (21, v32), (22, .slice none 0 0), (23, .slice none 0 0), (24, .slice none 0 0)] [] rfl (subR rfl)
 refine then_n (f_seq (f_seq (f_region (lv S (rn_move (S.tm rfl)) rfl ?_)))); clear S; intro a S
 refine lv S (rn_eql (S.tm rfl) rfl) rfl ?_; clear S; intro a S
 refine l_done ?_
 replace S := S.nk [] [(4, v1), (5, v3), (6, sV r4.1), (7, iV r5.1), (9, u3), (10, iV r10.2), (11, u4), (12, iV r11.2), (13, u5), (14, iV r12.2), (15, u6), (16, iV r13.2), (18, iV (tumblaw2_errs [r16, r17, (tumblaw2_when (!decide (x1 = 1)) 4)])), (19, iV x3), (20, iV (tumblaw2_errs [(tumblaw2_errs [r14, r15]), (tumblaw2_momentFault r5.1)])), (21, v32), (22, .slice none 0 0), (23, .slice none 0 0), (24, .slice none 0 0), (117, bV (decide (x3 = 0)))] [] rfl (subR rfl)
 refine then_n ?_
 obtain ⟨j4, hj4, h⟩ := joinE h
 refine f_join (fun a w' => ∃ x5 : List GBest, ∃ x6 : List GBest, ∃ φ9 : View, ∃ v34 : Value, ∃ v35 : Value, j4 x5 x6 = some r ∧ View.le φ7 φ9 ∧ OwnV φ9 61 6 v34 x5.length (x5.flatMap GBest.enc) ∧ OwnV φ9 61 6 v35 x6.length (x6.flatMap GBest.enc) ∧ Sx w [] φ9 [] [(4, v1), (5, v3), (7, iV r5.1), (9, u3), (10, iV r10.2), (11, u4), (12, iV r11.2), (13, u5), (14, iV r12.2), (15, u6), (16, iV r13.2), (18, iV (tumblaw2_errs [r16, r17, (tumblaw2_when (!decide (x1 = 1)) 4)])), (19, iV x3), (20, iV (tumblaw2_errs [(tumblaw2_errs [r14, r15]), (tumblaw2_momentFault r5.1)])), (21, v32), (22, v34), (23, .slice none 0 0), (24, v35)] 183 a w') ?_ ?_
 ·refine f_cond (S.tm rfl) (fun hb4 => ?_) (fun hb4 => ?_)
  ·replace h := iteT h hb4
   refine f_region (lv S (rn_move (S.tm rfl)) rfl ?_); clear S; intro a S
   refine lv S (rn_move (S.tm rfl)) rfl ?_; clear S; intro a S
   refine lv S (rn_move (S.tm rfl)) rfl ?_; clear S; intro a S
   refine l_enter S (fun _ => run_call (vs := [v1, sV r4.1]) ⟨(S.tm rfl), (S.tm rfl), trivial⟩ Tryz.call25) (tumbref2_KindAt_ok _ v1 r1.1 rs1 ((ownV_slcT R55.enc_ok hs1).mono (View.le_trans (View.le_trans (View.le_trans (View.le_trans (View.le_trans (View.le_trans hl2 hl3) hl4) hl5) hl6) hl7) (S.le_new nil_sub))) (rels_55 (View.le_trans (View.le_trans (View.le_trans (View.le_trans (View.le_trans (View.le_trans hl2 hl3) hl4) hl5) hl6) hl7) (S.le_new nil_sub)) hr3) r4.1 _ rfl) rfl ?_; clear S; intro v36 a w52 hv33 hk48 hn33 S
   subst hv33
   obtain ⟨hc1, h⟩ := chkE h
   obtain ⟨r19, hg1, hl10⟩ := all2_get hr3 hc1
   obtain ⟨u8, rfl, hs11⟩ := hl10
   obtain ⟨b12, o1, hm8, hr21⟩ := rn_indexT (a := a) (x := .tmp 118) (y := .tmp 121) (ty := 0) sl_26 (ownV_slcT R55.enc_ok hs1) hg1 (inB_get hc1).2 (S.tm rfl) (S.tm rfl)
   refine lv S (hr21 _) rfl ?_; clear S; intro a S
   clear hr21
   refine lv S (rn_ldA Tryz.isAgg55 Tryz.sizeOf55 (off := o1) (o := 0) (part := [sV ((nth r1.1 (tumbref2_KindAt r1.1 r4.1)).Key), sV ((nth r1.1 (tumbref2_KindAt r1.1 r4.1)).Race), u8.val, iV ((nth r1.1 (tumbref2_KindAt r1.1 r4.1)).Young), iV ((nth r1.1 (tumbref2_KindAt r1.1 r4.1)).Old)]) rfl rfl (S.tm rfl) ((hm8.mono (View.le_trans (View.le_trans (View.le_trans (View.le_trans (View.le_trans hl2 hl3) hl4) hl5) hl6) hl7)).at S.emb)) rfl ?_; clear S; intro a S
   refine lv S (rn_move (S.tm rfl)) rfl ?_; clear S; intro a S
   refine lv S (rn_move (S.tm rfl)) rfl ?_; clear S; intro a S
   obtain ⟨r20, hr22, h⟩ := bindE h
   have hz19 := S.keep.size
   refine l_enter S (fun _ => run_call (vs := [.agg (R55.enc (R55.mk ((nth r1.1 (tumbref2_KindAt r1.1 r4.1)).Key) ((nth r1.1 (tumbref2_KindAt r1.1 r4.1)).Race) u8 ((nth r1.1 (tumbref2_KindAt r1.1 r4.1)).Young) ((nth r1.1 (tumbref2_KindAt r1.1 r4.1)).Old))).toArray, v3, iV r5.1]) ⟨(S.tm rfl), (S.tm rfl), (S.tm rfl), trivial⟩ Tryz.call24) (tumbref2_RecordOf_ok _ (nth r1.1 (tumbref2_KindAt r1.1 r4.1)) (R55.mk ((nth r1.1 (tumbref2_KindAt r1.1 r4.1)).Key) ((nth r1.1 (tumbref2_KindAt r1.1 r4.1)).Race) u8 ((nth r1.1 (tumbref2_KindAt r1.1 r4.1)).Young) ((nth r1.1 (tumbref2_KindAt r1.1 r4.1)).Old)) ⟨u8, rfl, (hs11.mono (View.le_trans (View.le_trans (View.le_trans (View.le_trans (View.le_trans (View.le_trans hl2 hl3) hl4) hl5) hl6) hl7) (S.le_new nil_sub)))⟩ v3 r3.1 ((ownV_slcT GStep.enc_ok hs2).mono (View.le_trans (View.le_trans (View.le_trans (View.le_trans (View.le_trans hl3 hl4) hl5) hl6) hl7) (S.le_new nil_sub))) r5.1 _ hr22) rfl ?_; clear S; intro v37 a w53 hv34 hk49 hn34 S
   obtain ⟨φ10, hl11, hm9, S⟩ := S.see' hn34 hz19
   have hs12 := hv34.mono hm9
   iterate 3 (refine lv S (rn_move (S.tm rfl)) rfl ?_; clear S; intro a S)
   refine l_enter S (fun _ => run_call (vs := [v1, sV r4.1]) ⟨(S.tm rfl), (S.tm rfl), trivial⟩ Tryz.call25) (tumbref2_KindAt_ok _ v1 r1.1 rs1 ((ownV_slcT R55.enc_ok hs1).mono (View.le_trans (View.le_trans (View.le_trans (View.le_trans (View.le_trans (View.le_trans (View.le_trans hl2 hl3) hl4) hl5) hl6) hl7) hl11) (S.le_new nil_sub))) (rels_55 (View.le_trans (View.le_trans (View.le_trans (View.le_trans (View.le_trans (View.le_trans (View.le_trans hl2 hl3) hl4) hl5) hl6) hl7) hl11) (S.le_new nil_sub)) hr3) r4.1 _ rfl) rfl ?_; clear S; intro v38 a w54 hv35 hk50 hn35 S
   subst hv35
   obtain ⟨hc2, h⟩ := chkE h
   obtain ⟨r21, hg2, hl12⟩ := all2_get hr3 hc2
   obtain ⟨u10, rfl, hs13⟩ := hl12
   obtain ⟨b13, o2, hm10, hr23⟩ := rn_indexT (a := a) (x := .tmp 127) (y := .tmp 130) (ty := 0) sl_26 (ownV_slcT R55.enc_ok hs1) hg2 (inB_get hc2).2 (S.tm rfl) (S.tm rfl)
   refine lv S (hr23 _) rfl ?_; clear S; intro a S
   clear hr23
   refine lv S (rn_ldA Tryz.isAgg55 Tryz.sizeOf55 (off := o2) (o := 0) (part := [sV ((nth r1.1 (tumbref2_KindAt r1.1 r4.1)).Key), sV ((nth r1.1 (tumbref2_KindAt r1.1 r4.1)).Race), u10.val, iV ((nth r1.1 (tumbref2_KindAt r1.1 r4.1)).Young), iV ((nth r1.1 (tumbref2_KindAt r1.1 r4.1)).Old)]) rfl rfl (S.tm rfl) ((hm10.mono (View.le_trans (View.le_trans (View.le_trans (View.le_trans (View.le_trans (View.le_trans hl2 hl3) hl4) hl5) hl6) hl7) hl11)).at S.emb)) rfl ?_; clear S; intro a S
   refine lv S (rn_move (S.tm rfl)) rfl ?_; clear S; intro a S
   refine lv S (rn_move (S.tm rfl)) rfl ?_; clear S; intro a S
   obtain ⟨r22, hr24, h⟩ := bindE h
   have hz20 := S.keep.size
   refine l_enter S (fun _ => run_call (vs := [.agg (R55.enc (R55.mk ((nth r1.1 (tumbref2_KindAt r1.1 r4.1)).Key) ((nth r1.1 (tumbref2_KindAt r1.1 r4.1)).Race) u10 ((nth r1.1 (tumbref2_KindAt r1.1 r4.1)).Young) ((nth r1.1 (tumbref2_KindAt r1.1 r4.1)).Old))).toArray, v3, iV r5.1]) ⟨(S.tm rfl), (S.tm rfl), (S.tm rfl), trivial⟩ Tryz.call26) (tumbref2_HistoryOf_ok _ (nth r1.1 (tumbref2_KindAt r1.1 r4.1)) (R55.mk ((nth r1.1 (tumbref2_KindAt r1.1 r4.1)).Key) ((nth r1.1 (tumbref2_KindAt r1.1 r4.1)).Race) u10 ((nth r1.1 (tumbref2_KindAt r1.1 r4.1)).Young) ((nth r1.1 (tumbref2_KindAt r1.1 r4.1)).Old)) ⟨u10, rfl, (hs13.mono (View.le_trans (View.le_trans (View.le_trans (View.le_trans (View.le_trans (View.le_trans (View.le_trans hl2 hl3) hl4) hl5) hl6) hl7) hl11) (S.le_new nil_sub)))⟩ v3 r3.1 ((ownV_slcT GStep.enc_ok hs2).mono (View.le_trans (View.le_trans (View.le_trans (View.le_trans (View.le_trans (View.le_trans hl3 hl4) hl5) hl6) hl7) hl11) (S.le_new nil_sub))) r5.1 _ hr24) rfl ?_; clear S; intro v39 a w55 hv36 hk51 hn36 S
   obtain ⟨φ11, hl13, hm11, S⟩ := S.see' hn36 hz20
   have hs14 := hv36.mono hm11
   refine lv S (rn_assign (S.tm rfl)) rfl ?_; clear S; intro a S
   refine lv S (rn_assign (S.tm rfl)) rfl ?_; clear S; intro a S
   refine l_done ?_
   replace S := S.nk [] [(4, v1), (5, v3), (7, iV r5.1), (9, u3), (10, iV r10.2), (11, u4), (12, iV r11.2), (13, u5), (14, iV r12.2), (15, u6), (16, iV r13.2), (18, iV (tumblaw2_errs [r16, r17, (tumblaw2_when (!decide (x1 = 1)) 4)])), (19, iV x3), (20, iV (tumblaw2_errs [(tumblaw2_errs [r14, r15]), (tumblaw2_momentFault r5.1)])), (21, v32), (22, v37), (23, .slice none 0 0), (24, v39)] [] rfl (subR rfl)
   refine then_n ?_
   exact ⟨r20, r22, φ11, v37, v39, h, (View.le_trans hl11 hl13), (hs12.mono hl13), hs14, S.nf [] rfl (subR rfl)⟩
  ·replace h := iteF h hb4
   refine wp_skip (then_n ?_)
   exact ⟨([] : List GBest), ([] : List GBest), φ7, .slice none 0 0, .slice none 0 0, h, (View.le_refl _), (ownV_nil _ _ _), (ownV_nil _ _ _), S.nf [] rfl (subR rfl)⟩
 clear S h; rintro a w51 ⟨x5, x6, φ9, v34, v35, h, hl9, hs9, hs10, S⟩; rw [hj4] at h; clear hj4 j4
 refine then_n (f_seq (f_seq (f_region (lv S (rn_move (S.tm rfl)) rfl ?_)))); clear S; intro a S
 refine lv S (rn_eql (S.tm rfl) rfl) rfl ?_; clear S; intro a S
 refine l_done ?_
 replace S := S.nk [] [(4, v1), (5, v3), (7, iV r5.1), (9, u3), (10, iV r10.2), (11, u4), (12, iV r11.2), (13, u5), (14, iV r12.2), (15, u6), (16, iV r13.2), (18, iV (tumblaw2_errs [r16, r17, (tumblaw2_when (!decide (x1 = 1)) 4)])), (19, iV x3), (20, iV (tumblaw2_errs [(tumblaw2_errs [r14, r15]), (tumblaw2_momentFault r5.1)])), (21, v32), (22, v34), (23, .slice none 0 0), (24, v35), (137, bV (decide ((tumblaw2_errs [(tumblaw2_errs [r14, r15]), (tumblaw2_momentFault r5.1)]) = 0)))] [] rfl (subR rfl)
 refine then_n ?_
 obtain ⟨j5, hj5, h⟩ := joinE h
 refine f_join (fun a w' => ∃ x7 : List GBest, ∃ φ12 : View, ∃ v40 : Value, j5 x7 = some r ∧ View.le φ9 φ12 ∧ OwnV φ12 61 6 v40 x7.length (x7.flatMap GBest.enc) ∧ Sx w [] φ12 [] [(9, u3), (10, iV r10.2), (11, u4), (12, iV r11.2), (13, u5), (14, iV r12.2), (15, u6), (16, iV r13.2), (18, iV (tumblaw2_errs [r16, r17, (tumblaw2_when (!decide (x1 = 1)) 4)])), (19, iV x3), (20, iV (tumblaw2_errs [(tumblaw2_errs [r14, r15]), (tumblaw2_momentFault r5.1)])), (21, v32), (22, v34), (23, v40), (24, v35)] 183 a w') ?_ ?_
 ·refine f_cond (S.tm rfl) (fun hb5 => ?_) (fun hb5 => ?_)
  ·replace h := iteT h hb5
   refine f_region (lv S (rn_move (S.tm rfl)) rfl ?_); clear S; intro a S
   refine lv S (rn_move (S.tm rfl)) rfl ?_; clear S; intro a S
   refine lv S (rn_move (S.tm rfl)) rfl ?_; clear S; intro a S
   obtain ⟨r23, hr25, h⟩ := bindE h
   have hz21 := S.keep.size
   refine l_enter S (fun _ => run_call (vs := [v1, v3, iV r5.1]) ⟨(S.tm rfl), (S.tm rfl), (S.tm rfl), trivial⟩ Tryz.call27) (tumbref2_AllRecords_ok _ v1 r1.1 rs1 ((ownV_slcT R55.enc_ok hs1).mono (View.le_trans (View.le_trans (View.le_trans (View.le_trans (View.le_trans (View.le_trans (View.le_trans hl2 hl3) hl4) hl5) hl6) hl7) hl9) (S.le_new nil_sub))) (rels_55 (View.le_trans (View.le_trans (View.le_trans (View.le_trans (View.le_trans (View.le_trans (View.le_trans hl2 hl3) hl4) hl5) hl6) hl7) hl9) (S.le_new nil_sub)) hr3) v3 r3.1 ((ownV_slcT GStep.enc_ok hs2).mono (View.le_trans (View.le_trans (View.le_trans (View.le_trans (View.le_trans (View.le_trans hl3 hl4) hl5) hl6) hl7) hl9) (S.le_new nil_sub))) r5.1 _ hr25) rfl ?_; clear S; intro v41 a w57 hv37 hk52 hn37 S
   obtain ⟨φ13, hl15, hm12, S⟩ := S.see' hn37 hz21
   have hs16 := hv37.mono hm12
   refine lv S (rn_assign (S.tm rfl)) rfl ?_; clear S; intro a S
   refine l_done ?_
   replace S := S.nk [] [(9, u3), (10, iV r10.2), (11, u4), (12, iV r11.2), (13, u5), (14, iV r12.2), (15, u6), (16, iV r13.2), (18, iV (tumblaw2_errs [r16, r17, (tumblaw2_when (!decide (x1 = 1)) 4)])), (19, iV x3), (20, iV (tumblaw2_errs [(tumblaw2_errs [r14, r15]), (tumblaw2_momentFault r5.1)])), (21, v32), (22, v34), (23, v41), (24, v35)] [] rfl (subR rfl)
   refine then_n ?_
   exact ⟨r23, φ13, v41, h, hl15, hs16, S.nf [] rfl (subR rfl)⟩
  ·replace h := iteF h hb5
   refine wp_skip (then_n ?_)
   exact ⟨([] : List GBest), φ9, .slice none 0 0, h, (View.le_refl _), (ownV_nil _ _ _), S.nf [] rfl (subR rfl)⟩
 clear S h; rintro a w56 ⟨x7, φ12, v40, h, hl14, hs15, S⟩; rw [hj5] at h; clear hj5 j5
 refine then_n (f_seq (f_region (lv S (rn_move (S.tm rfl)) rfl ?_))); clear S; intro a S
 refine lv S (rn_move (S.tm rfl)) rfl ?_; clear S; intro a S
 refine lv S (rn_eql (S.tm rfl) (S.tm rfl)) rfl ?_; clear S; intro a S
 refine lv S (rn_move (S.tm rfl)) rfl ?_; clear S; intro a S
 obtain ⟨j6, hj6, h⟩ := joinE h
 refine f_cutm 4 (fun a w' => ∃ c1, j6 c1 = some r ∧ Keep [] w56 w' ∧ Sx w [] φ12 [] [(11, u4), (12, iV r11.2), (13, u5), (14, iV r12.2), (15, u6), (16, iV r13.2), (19, iV x3), (20, iV (tumblaw2_errs [(tumblaw2_errs [r14, r15]), (tumblaw2_momentFault r5.1)])), (22, v34), (23, v40), (24, v35), (149, bV c1)] 183 a w') ?_ ?_
 ·rcases Bool.eq_false_or_eq_true (decide (r10.2 = (tumblaw2_errs [r16, r17, (tumblaw2_when (!decide (x1 = 1)) 4)]))) with hb6 | hb6
  ·replace h := iteT h hb6
   refine l_want S rfl rfl rfl hb6 (lv S (rn_move (S.tm rfl)) rfl ?_); clear S; intro a S
   refine l_want S rfl rfl rfl hb6 (lv S (rn_move (S.tm rfl)) rfl ?_); clear S; intro a S
   refine l_want S rfl rfl rfl hb6 ?_
   obtain ⟨r24, hr26, h⟩ := bindE h
   refine l_enter S (fun _ => run_call (vs := [u3, v32]) ⟨(S.tm rfl), (S.tm rfl), trivial⟩ Tryz.call28) (slices_Equal_string_ok _ u3 r10.1 ((ownV_slcT enc_str hs3).mono (View.le_trans (View.le_trans (View.le_trans (View.le_trans (View.le_trans (View.le_trans hl4 hl5) hl6) hl7) hl9) hl14) (S.le_new nil_sub))) v32 x4 ((ownV_slcT enc_str hs7).mono (View.le_trans (View.le_trans hl9 hl14) (S.le_new nil_sub))) _ hr26) rfl ?_; clear S; intro v42 a w59 hv38 hk53 hn38 S
   subst hv38
   refine lv S (rn_and_t hb6 (S.tm rfl) (S.tm rfl)) rfl ?_; clear S; intro a S
   refine l_done (then_n ?_)
   exact ⟨_, h, hk53, S.nf [] rfl (subR rfl)⟩
  ·replace h := iteF h hb6
   iterate 3 (refine l_skip S rfl rfl rfl (neq_f hb6) rfl ?_ rfl; clear S; intro a S)
   refine lv S (rn_and_f true hb6 (S.tm rfl) rfl) rfl ?_; clear S; intro a S
   refine l_done (then_n ?_)
   exact ⟨_, h, Keep.refl _ _, S.nf [] rfl (subR rfl)⟩
 clear S h; rintro a w58 ⟨c1, h, hk54, S⟩; rw [hj6] at h; clear hj6 j6
 refine lv S (rn_move (S.tm rfl)) rfl ?_; clear S; intro a S
 refine f_cutm 4 (fun a w' => Keep [] w58 w' ∧ Sx w [] φ12 [] [(11, u4), (13, u5), (14, iV r12.2), (15, u6), (16, iV r13.2), (19, iV x3), (20, iV (tumblaw2_errs [(tumblaw2_errs [r14, r15]), (tumblaw2_momentFault r5.1)])), (22, v34), (23, v40), (24, v35), (154, bV (c1 && (decide (r11.2 = x3))))] 183 a w') ?_ ?_
 ·rcases Bool.eq_false_or_eq_true c1 with hb7 | hb7
  ·refine l_want S rfl rfl rfl hb7 (lv S (rn_move (S.tm rfl)) rfl ?_); clear S; intro a S
   refine l_want S rfl rfl rfl hb7 (lv S (rn_move (S.tm rfl)) rfl ?_); clear S; intro a S
   refine l_want S rfl rfl rfl hb7 (lv S (rn_eql (S.tm rfl) (S.tm rfl)) rfl ?_); clear S; intro a S
   refine lv S (rn_and_t hb7 (S.tm rfl) (S.tm rfl)) rfl ?_; clear S; intro a S
   refine l_done (then_n ?_)
   exact ⟨Keep.refl _ _, S.nf [] rfl (subR rfl)⟩
  ·iterate 3 (refine l_skip S rfl rfl rfl (neq_f hb7) rfl ?_ rfl; clear S; intro a S)
   refine lv S (rn_and_f (decide (r11.2 = x3)) hb7 (S.tm rfl) rfl) rfl ?_; clear S; intro a S
   refine l_done (then_n ?_)
   exact ⟨Keep.refl _ _, S.nf [] rfl (subR rfl)⟩
 clear S; rintro a w60 ⟨hk55, S⟩
 refine lv S (rn_move (S.tm rfl)) rfl ?_; clear S; intro a S
 obtain ⟨j7, hj7, h⟩ := joinE h
 refine f_cutm 4 (fun a w' => ∃ c2, j7 c2 = some r ∧ Keep [] w60 w' ∧ Sx w [] φ12 [] [(13, u5), (14, iV r12.2), (15, u6), (16, iV r13.2), (19, iV x3), (20, iV (tumblaw2_errs [(tumblaw2_errs [r14, r15]), (tumblaw2_momentFault r5.1)])), (23, v40), (24, v35), (159, bV c2)] 183 a w') ?_ ?_
 ·rcases Bool.eq_false_or_eq_true (c1 && (decide (r11.2 = x3))) with hb8 | hb8
  ·replace h := iteT h hb8
   refine l_want S rfl rfl rfl hb8 (lv S (rn_move (S.tm rfl)) rfl ?_); clear S; intro a S
   refine l_want S rfl rfl rfl hb8 (lv S (rn_move (S.tm rfl)) rfl ?_); clear S; intro a S
   refine l_want S rfl rfl rfl hb8 ?_
   obtain ⟨r25, hr27, h⟩ := bindE h
   refine l_enter S (fun _ => run_call (vs := [u4, v34]) ⟨(S.tm rfl), (S.tm rfl), trivial⟩ Tryz.call29) (slices_Equal_Best_ok _ u4 r11.1 ((ownV_slcT GBest.enc_ok hs4).mono (View.le_trans (View.le_trans (View.le_trans (View.le_trans (View.le_trans hl5 hl6) hl7) hl9) hl14) (S.le_new nil_sub))) v34 x5 ((ownV_slcT GBest.enc_ok hs9).mono (View.le_trans hl14 (S.le_new nil_sub))) _ hr27) rfl ?_; clear S; intro v43 a w62 hv39 hk56 hn39 S
   subst hv39
   refine lv S (rn_and_t hb8 (S.tm rfl) (S.tm rfl)) rfl ?_; clear S; intro a S
   refine l_done (then_n ?_)
   exact ⟨_, h, hk56, S.nf [] rfl (subR rfl)⟩
  ·replace h := iteF h hb8
   iterate 3 (refine l_skip S rfl rfl rfl (neq_f hb8) rfl ?_ rfl; clear S; intro a S)
   refine lv S (rn_and_f true hb8 (S.tm rfl) rfl) rfl ?_; clear S; intro a S
   refine l_done (then_n ?_)
   exact ⟨_, h, Keep.refl _ _, S.nf [] rfl (subR rfl)⟩
 clear S h; rintro a w61 ⟨c2, h, hk57, S⟩; rw [hj7] at h; clear hj7 j7
 refine lv S (rn_move (S.tm rfl)) rfl ?_; clear S; intro a S
 refine f_cutm 4 (fun a w' => Keep [] w61 w' ∧ Sx w [] φ12 [] [(13, u5), (15, u6), (16, iV r13.2), (19, iV x3), (23, v40), (24, v35), (164, bV (c2 && (decide (r12.2 = (tumblaw2_errs [(tumblaw2_errs [r14, r15]), (tumblaw2_momentFault r5.1)])))))] 183 a w') ?_ ?_
 ·rcases Bool.eq_false_or_eq_true c2 with hb9 | hb9
  ·refine l_want S rfl rfl rfl hb9 (lv S (rn_move (S.tm rfl)) rfl ?_); clear S; intro a S
   refine l_want S rfl rfl rfl hb9 (lv S (rn_move (S.tm rfl)) rfl ?_); clear S; intro a S
   refine l_want S rfl rfl rfl hb9 (lv S (rn_eql (S.tm rfl) (S.tm rfl)) rfl ?_); clear S; intro a S
   refine lv S (rn_and_t hb9 (S.tm rfl) (S.tm rfl)) rfl ?_; clear S; intro a S
   refine l_done (then_n ?_)
   exact ⟨Keep.refl _ _, S.nf [] rfl (subR rfl)⟩
  ·iterate 3 (refine l_skip S rfl rfl rfl (neq_f hb9) rfl ?_ rfl; clear S; intro a S)
   refine lv S (rn_and_f (decide (r12.2 = (tumblaw2_errs [(tumblaw2_errs [r14, r15]), (tumblaw2_momentFault r5.1)]))) hb9 (S.tm rfl) rfl) rfl ?_; clear S; intro a S
   refine l_done (then_n ?_)
   exact ⟨Keep.refl _ _, S.nf [] rfl (subR rfl)⟩
 clear S; rintro a w63 ⟨hk58, S⟩
 refine lv S (rn_move (S.tm rfl)) rfl ?_; clear S; intro a S
 obtain ⟨j8, hj8, h⟩ := joinE h
 refine f_cutm 4 (fun a w' => ∃ c3, j8 c3 = some r ∧ Keep [] w63 w' ∧ Sx w [] φ12 [] [(15, u6), (16, iV r13.2), (19, iV x3), (24, v35), (169, bV c3)] 183 a w') ?_ ?_
 ·rcases Bool.eq_false_or_eq_true (c2 && (decide (r12.2 = (tumblaw2_errs [(tumblaw2_errs [r14, r15]), (tumblaw2_momentFault r5.1)])))) with hb10 | hb10
  ·replace h := iteT h hb10
   refine l_want S rfl rfl rfl hb10 (lv S (rn_move (S.tm rfl)) rfl ?_); clear S; intro a S
   refine l_want S rfl rfl rfl hb10 (lv S (rn_move (S.tm rfl)) rfl ?_); clear S; intro a S
   refine l_want S rfl rfl rfl hb10 ?_
   obtain ⟨r26, hr28, h⟩ := bindE h
   refine l_enter S (fun _ => run_call (vs := [u5, v40]) ⟨(S.tm rfl), (S.tm rfl), trivial⟩ Tryz.call29) (slices_Equal_Best_ok _ u5 r12.1 ((ownV_slcT GBest.enc_ok hs5).mono (View.le_trans (View.le_trans (View.le_trans (View.le_trans hl6 hl7) hl9) hl14) (S.le_new nil_sub))) v40 x7 ((ownV_slcT GBest.enc_ok hs15).mono (S.le_new nil_sub)) _ hr28) rfl ?_; clear S; intro v44 a w65 hv40 hk59 hn40 S
   subst hv40
   refine lv S (rn_and_t hb10 (S.tm rfl) (S.tm rfl)) rfl ?_; clear S; intro a S
   refine l_done (then_n ?_)
   exact ⟨_, h, hk59, S.nf [] rfl (subR rfl)⟩
  ·replace h := iteF h hb10
   iterate 3 (refine l_skip S rfl rfl rfl (neq_f hb10) rfl ?_ rfl; clear S; intro a S)
   refine lv S (rn_and_f true hb10 (S.tm rfl) rfl) rfl ?_; clear S; intro a S
   refine l_done (then_n ?_)
   exact ⟨_, h, Keep.refl _ _, S.nf [] rfl (subR rfl)⟩
 clear S h; rintro a w64 ⟨c3, h, hk60, S⟩; rw [hj8] at h; clear hj8 j8
 refine lv S (rn_move (S.tm rfl)) rfl ?_; clear S; intro a S
 refine f_cutm 4 (fun a w' => Keep [] w64 w' ∧ Sx w [] φ12 [] [(15, u6), (24, v35), (174, bV (c3 && (decide (r13.2 = x3))))] 183 a w') ?_ ?_
 ·rcases Bool.eq_false_or_eq_true c3 with hb11 | hb11
  ·refine l_want S rfl rfl rfl hb11 (lv S (rn_move (S.tm rfl)) rfl ?_); clear S; intro a S
   refine l_want S rfl rfl rfl hb11 (lv S (rn_move (S.tm rfl)) rfl ?_); clear S; intro a S
   refine l_want S rfl rfl rfl hb11 (lv S (rn_eql (S.tm rfl) (S.tm rfl)) rfl ?_); clear S; intro a S
   refine lv S (rn_and_t hb11 (S.tm rfl) (S.tm rfl)) rfl ?_; clear S; intro a S
   refine l_done (then_n ?_)
   exact ⟨Keep.refl _ _, S.nf [] rfl (subR rfl)⟩
  ·iterate 3 (refine l_skip S rfl rfl rfl (neq_f hb11) rfl ?_ rfl; clear S; intro a S)
   refine lv S (rn_and_f (decide (r13.2 = x3)) hb11 (S.tm rfl) rfl) rfl ?_; clear S; intro a S
   refine l_done (then_n ?_)
   exact ⟨Keep.refl _ _, S.nf [] rfl (subR rfl)⟩
 clear S; rintro a w66 ⟨hk61, S⟩
 refine lv S (rn_move (S.tm rfl)) rfl ?_; clear S; intro a S
 obtain ⟨j9, hj9, h⟩ := joinE h
 refine f_cutm 4 (fun a w' => ∃ c4, j9 c4 = some r ∧ Keep [] w66 w' ∧ Sx w [] φ12 [] [(179, bV c4)] 183 a w') ?_ ?_
 ·rcases Bool.eq_false_or_eq_true (c3 && (decide (r13.2 = x3))) with hb12 | hb12
  ·replace h := iteT h hb12
   refine l_want S rfl rfl rfl hb12 (lv S (rn_move (S.tm rfl)) rfl ?_); clear S; intro a S
   refine l_want S rfl rfl rfl hb12 (lv S (rn_move (S.tm rfl)) rfl ?_); clear S; intro a S
   refine l_want S rfl rfl rfl hb12 ?_
   obtain ⟨r27, hr29, h⟩ := bindE h
   refine l_enter S (fun _ => run_call (vs := [u6, v35]) ⟨(S.tm rfl), (S.tm rfl), trivial⟩ Tryz.call29) (slices_Equal_Best_ok _ u6 r13.1 ((ownV_slcT GBest.enc_ok hs6).mono (View.le_trans (View.le_trans (View.le_trans hl7 hl9) hl14) (S.le_new nil_sub))) v35 x6 ((ownV_slcT GBest.enc_ok hs10).mono (View.le_trans hl14 (S.le_new nil_sub))) _ hr29) rfl ?_; clear S; intro v45 a w68 hv41 hk62 hn41 S
   subst hv41
   refine lv S (rn_and_t hb12 (S.tm rfl) (S.tm rfl)) rfl ?_; clear S; intro a S
   refine l_done (then_n ?_)
   exact ⟨_, h, hk62, S.nf [] rfl ⟨rfl, trivial⟩⟩
  ·replace h := iteF h hb12
   iterate 3 (refine l_skip S rfl rfl rfl (neq_f hb12) rfl ?_ rfl; clear S; intro a S)
   refine lv S (rn_and_f true hb12 (S.tm rfl) rfl) rfl ?_; clear S; intro a S
   refine l_done (then_n ?_)
   exact ⟨_, h, Keep.refl _ _, S.nf [] rfl ⟨rfl, trivial⟩⟩
 clear S h; rintro a w67 ⟨c4, h, hk63, S⟩; rw [hj9] at h; clear hj9 j9
 refine lv S (rn_move (S.tm rfl)) rfl ?_; clear S; intro a S
 obtain ⟨j10, hj10, h⟩ := joinE h
 refine f_cutm 2 (fun a w' => ∃ c5, j10 c5 = some r ∧ Keep [] w67 w' ∧ Sx w [] φ12 [] [(182, bV c5)] 183 a w') ?_ ?_
 ·rcases Bool.eq_false_or_eq_true c4 with hb13 | hb13
  ·replace h := iteT h hb13
   refine l_want S rfl rfl rfl hb13 ?_
   obtain ⟨r28, hr30, h⟩ := bindE h
   refine l_enter S (fun _ => run_call (vs := []) trivial Tryz.call30) (tumblaw2_recorded_ok _ _ hr30) rfl ?_; clear S; intro v46 a w70 hv42 hk64 hn42 S
   subst hv42
   refine lv S (rn_and_t hb13 (S.tm rfl) (S.tm rfl)) rfl ?_; clear S; intro a S
   refine l_done (then_n ?_)
   exact ⟨_, h, hk64, S.nf [] rfl ⟨rfl, trivial⟩⟩
  ·replace h := iteF h hb13
   refine l_skip S rfl rfl rfl (neq_f hb13) rfl ?_ rfl; clear S; intro a S
   refine lv S (rn_and_f true hb13 (S.tm rfl) rfl) rfl ?_; clear S; intro a S
   refine l_done (then_n ?_)
   exact ⟨_, h, Keep.refl _ _, S.nf [] rfl ⟨rfl, trivial⟩⟩
 clear S h; rintro a w69 ⟨c5, h, hk65, S⟩; rw [hj10] at h; clear hj10 j10
 refine lv S (rn_assign (S.tm rfl)) rfl ?_; clear S; intro a S
 refine l_done (then_n (wp_ret ?_))
 obtain rfl := Option.some.inj h
 exact f_ret S Tryz.results3 rfl rfl
end Go.Proofs.YtdfcgiddcibhfaaGreatDoor
