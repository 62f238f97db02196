/- Each Go function computes its plain twin, by program. -/
import Derived.Test.YtoffbgomfcmfmaaGreatDoorWk2
namespace Go.Proofs.YtoffbgomfcmfmaaGreatDoor
open Go
set_option maxRecDepth 20000 in
theorem tumbref2_RestsOf_ok (w : World) (v_p_items : Value) (p_items : List GItem) (hs_p_items : Slc (view w []) 5 v_p_items (p_items.map GItem.enc)) (v_p_l : Value) (p_l : List GCall) (hs_p_l : Slc (view w []) 3 v_p_l (p_l.map GCall.enc)) (p_from : Int) (r : (List GRest)) (h : tumbref2_RestsOf p_items p_l p_from = some r) :
    Calls Tryz.prog 19 [v_p_items, v_p_l, iV p_from].toArray w (Ret w [] fun τ v _ => OwnV τ 60 10 v r.length (r.flatMap GRest.enc)) := by
 refine f_enter [] [] Tryz.func19 rfl Tryz.ntmps19 rfl (by simp) (by simp [fps]) (by simp [fps]) fun a S => ?_
 unfold tumbref2_RestsOf at h
 replace S := S.nk [] [(0, v_p_items), (1, v_p_l), (2, iV p_from)] [] rfl (subR rfl)
 refine f_seq (f_region (lv S (rn_assign rfl) rfl ?_)); clear S; intro a S
 refine l_done (then_n (f_seq (f_region (lv S (rn_assign rfl) rfl ?_)))); clear S; intro a S
 replace S := S.nil 9 1
 refine l_done (then_n (f_seq (f_seq (f_region (lv S (rn_move (S.tm rfl)) rfl ?_))))); clear S; intro a S
 refine lv S (rn_lenT sl_30 (S.tm rfl) (slc_len hs_p_l)) rfl ?_; clear S; intro a S
 refine lv S (rn_move rfl) rfl ?_; clear S; intro a S
 refine l_done (then_n ?_)
 replace S := S.nk [.own (.slice none 0 0) 9 1 ([] : List ByteArray).length (([] : List ByteArray).flatMap eStr)] [(0, v_p_items), (1, v_p_l), (2, iV p_from), (7, (.slice none 0 0)), (15, v_p_l), (16, iV (p_l.length : Int)), (17, iV 0)] [true] rfl (subR rfl)
 obtain ⟨j1, hj1, h⟩ := joinE h
 refine f_join (fun a w' => ∃ x1 : List ByteArray, ∃ v1 : Value, j1 x1 = some r ∧ Sx w [] nov [.own v1 9 1 x1.length (x1.flatMap eStr)] [(0, v_p_items), (1, v_p_l), (2, iV p_from), (7, v1)] 75 a w') ?_ ?_
 ·refine wp_block (f_loop (fun (ys1 : List GCall) a w' => ∃ i1 : Nat, ∃ x1 : List ByteArray, ∃ v1 : Value, (∃ dn, p_l = dn ++ ys1 ∧ dn.length = i1) ∧ tumbref2_RestsOf_l1 j1 ys1 i1 x1 = some r ∧ Sx w [] nov [.own v1 9 1 x1.length (x1.flatMap eStr)] [(0, v_p_items), (1, v_p_l), (2, iV p_from), (7, v1), (15, v_p_l), (16, iV (p_l.length : Int)), (17, iV (i1 : Int))] 75 a w') List.length p_l ⟨0, ([] : List ByteArray), (.slice none 0 0), ⟨[], rfl, rfl⟩, h, S.nf [true] rfl (subR rfl)⟩ ?_)
  clear S h; rintro ys1 a w1 ⟨i1, x1, v1, ⟨dn, hd1, hi1⟩, h, S⟩
  cases ys1 with
  | nil =>
   rw [tumbref2_RestsOf_l1.eq_1] at h
   refine f_seq (f_region (lv S (rn_lss (S.tm rfl) (S.tm rfl)) rfl ?_)); clear S; intro a S
   refine l_done ?_
   replace S := S.nk [.own v1 9 1 x1.length (x1.flatMap eStr)] [(0, v_p_items), (1, v_p_l), (2, iV p_from), (7, v1), (15, v_p_l), (16, iV (p_l.length : Int)), (17, iV (i1 : Int)), (18, bV (decide ((i1 : Int) < (p_l.length : Int))))] [true] rfl (subR rfl)
   refine then_n (f_seq (wp_cond_false ((S.tm rfl).trans (congrArg Value.bool (rng_nil hd1 hi1))) (wp_exit (then_x (then_x (x_same ?_))))))
   refine then_n ?_
   exact ⟨x1, v1, h, S.nf [true] rfl (subR rfl)⟩
  | cons y1 ys1 =>
   rw [tumbref2_RestsOf_l1.eq_2] at h
   refine f_seq (f_region (lv S (rn_lss (S.tm rfl) (S.tm rfl)) rfl ?_)); clear S; intro a S
   refine l_done ?_
   replace S := S.nk [.own v1 9 1 x1.length (x1.flatMap eStr)] [(0, v_p_items), (1, v_p_l), (2, iV p_from), (7, v1), (15, v_p_l), (16, iV (p_l.length : Int)), (17, iV (i1 : Int)), (18, bV (decide ((i1 : Int) < (p_l.length : Int))))] [true] rfl (subR rfl)
   refine then_n (f_seq (wp_cond_true ((S.tm rfl).trans (congrArg Value.bool (rng_cons hd1 hi1))) (wp_skip (then_n (f_seq (wp_block ?_))))))
   refine f_seq (f_region ?_)
   obtain ⟨b1, o1, hm1, hr1⟩ := rn_indexT (a := a) (x := .tmp 15) (y := .tmp 17) (ty := 0) sl_30 hs_p_l (get_mid hd1 hi1) rfl (S.tm rfl) (S.tm rfl)
   refine lv S (hr1 _) rfl ?_; clear S; intro a S
   clear hr1
   refine lv S (rn_ldA Tryz.isAgg74 Tryz.sizeOf74 (off := o1) (o := 0) (part := (GCall.enc y1)) rfl rfl (S.tm rfl) (hm1.at S.emb0)) rfl ?_; clear S; intro a S
   refine l_alloc S Tryz.zeroValue74 (cs := [sV k_empty, sV k_empty, iV 0]) rfl rfl ?_; clear S; intro a w3 b2 hz1 hk1 S
   refine l_store S (S.tm rfl) (S.tm rfl) (i := 0) (off := 0) rfl Tryz.sizeOf74 (vs := (GCall.enc y1)) rfl rfl rfl rfl ?_; clear S; intro w4 hk2 S
   refine l_done (then_n (f_region (lv S (rn_move (S.tm rfl)) rfl ?_))); clear S; intro a S
   refine lv S (rn_fld fa_74_0 (S.tm rfl)) rfl ?_; clear S; intro a S
   refine lv S (rn_load Tryz.isAgg9 (S.tm rfl) (S.cell (i := 0) rfl rfl)) rfl ?_; clear S; intro a S
   refine l_buildSlice S Tryz.underlying75 Tryz.sizeOf9 Tryz.zeroValue9 rfl rfl (pv := [(0, sV y1.Who)]) ⟨rfl, (S.tm rfl), trivial⟩ (cs := [sV y1.Who]) (by kernel_rfl) rfl ?_; clear S; intro a w5 b3 hz2 hk3 S
   obtain ⟨hc1, h⟩ := chkE h
   refine l_appendT sl_75 enc_str S (S.tm rfl) (i := 2) rfl (S.tm rfl) (j := 0) rfl (ys := [y1.Who]) rfl rfl rfl rfl (by have := room_lt hc1; omega) rfl ?_; clear S; intro v2 a w6 hk4 S
   refine lv S (rn_assign (S.tm rfl)) rfl ?_; clear S; intro a S
   refine l_done ?_
   replace S := S.nk [.own v2 9 1 (x1 ++ [y1.Who]).length ((x1 ++ [y1.Who]).flatMap eStr)] [(0, v_p_items), (1, v_p_l), (2, iV p_from), (7, v2), (15, v_p_l), (16, iV (p_l.length : Int)), (17, iV (i1 : Int))] [false, false, true] rfl (subR rfl)
   refine blk_n (then_n (f_region (lv S (rn_add (S.tm rfl) rfl) rfl ?_))); clear S; intro a S
   refine lv S (rn_move (S.tm rfl)) rfl ?_; clear S; intro a S
   refine l_done (then_n ?_)
   exact ⟨ys1, ⟨i1 + 1, (x1 ++ [y1.Who]), v2, ⟨_, (hd1).trans (List.append_cons _ _ _), by simp [hi1]⟩, h, S.nf [true] rfl ⟨rfl, rfl, rfl, rfl, rfl, rfl, (congrArg (fun z => some (Value.int .i64 z)) (rng_next hd1 hi1 (slc_max hs_p_l))), trivial⟩⟩, Nat.lt_succ_self _⟩
 clear S h; rintro a w2 ⟨x1, v1, h, S⟩; rw [hj1] at h; clear hj1 j1
 refine then_n (f_seq (f_region (lv S (rn_assign rfl) rfl ?_))); clear S; intro a S
 replace S := S.nil 60 10
 refine l_done (then_n (f_seq (f_seq (f_region (lv S (rn_move (S.tm rfl)) rfl ?_))))); clear S; intro a S
 obtain ⟨r1, hr2, h⟩ := bindE h
 have hz3 := S.keep.size
 refine l_enterO 1 S rfl (fun v3 => .own v3 9 1 r1.length (r1.flatMap eStr)) (fun _ => run_call (vs := [v1]) ⟨(S.tm rfl), trivial⟩ Tryz.call55) (slices_Compact_string_ok _ v1 x1 (S.holds _ (List.mem_of_getElem? (i := 1) rfl)) _ hr2) rfl (fun _ _ _ h => h) ?_; clear S; intro v3 a w7 hv1 hk5 hn1 S
 clear hv1
 refine lv S (rn_lenT sl_75 (S.tm rfl) (own_len (S.own_at (i := 1) rfl))) rfl ?_; clear S; intro a S
 refine lv S (rn_move rfl) rfl ?_; clear S; intro a S
 refine l_done (then_n ?_)
 replace S := S.nk [.own (.slice none 0 0) 60 10 ([] : List GRest).length (([] : List GRest).flatMap GRest.enc), .own v3 9 1 r1.length (r1.flatMap eStr)] [(0, v_p_items), (1, v_p_l), (2, iV p_from), (10, (.slice none 0 0)), (28, v3), (29, iV (r1.length : Int)), (30, iV 0)] [true, true] rfl (subR rfl)
 have hm2 := own_max (S.own_at (i := 1) rfl)
 obtain ⟨j2, hj2, h⟩ := joinE h
 refine f_join (fun a w' => ∃ x2 : List GRest, ∃ φ1 : View, ∃ v4 : Value, j2 x2 = some r ∧ View.le nov φ1 ∧ Sx w [] φ1 [.own v4 60 10 x2.length (x2.flatMap GRest.enc), .own v3 9 1 r1.length (r1.flatMap eStr)] [(10, v4)] 75 a w') ?_ ?_
 ·refine wp_block (f_loop (fun (ys2 : List ByteArray) a w' => ∃ i2 : Nat, ∃ x2 : List GRest, ∃ φ1 : View, ∃ v4 : Value, (∃ dn, r1 = dn ++ ys2 ∧ dn.length = i2) ∧ tumbref2_RestsOf_l2 p_items p_l p_from j2 ys2 i2 x2 = some r ∧ View.le nov φ1 ∧ Sx w [] φ1 [.own v4 60 10 x2.length (x2.flatMap GRest.enc), .own v3 9 1 r1.length (r1.flatMap eStr)] [(0, v_p_items), (1, v_p_l), (2, iV p_from), (10, v4), (28, v3), (29, iV (r1.length : Int)), (30, iV (i2 : Int))] 75 a w') List.length r1 ⟨0, ([] : List GRest), nov, (.slice none 0 0), ⟨[], rfl, rfl⟩, h, View.le_refl _, S.nf [true, true] rfl (subR rfl)⟩ ?_)
  clear S h; rintro ys2 a w8 ⟨i2, x2, φ1, v4, ⟨dn, hd2, hi2⟩, h, hl1, S⟩
  cases ys2 with
  | nil =>
   rw [tumbref2_RestsOf_l2.eq_1] at h
   refine f_seq (f_region (lv S (rn_lss (S.tm rfl) (S.tm rfl)) rfl ?_)); clear S; intro a S
   refine l_done ?_
   replace S := S.nk [.own v4 60 10 x2.length (x2.flatMap GRest.enc), .own v3 9 1 r1.length (r1.flatMap eStr)] [(0, v_p_items), (1, v_p_l), (2, iV p_from), (10, v4), (28, v3), (29, iV (r1.length : Int)), (30, iV (i2 : Int)), (31, bV (decide ((i2 : Int) < (r1.length : Int))))] [true, true] rfl (subR rfl)
   refine then_n (f_seq (wp_cond_false ((S.tm rfl).trans (congrArg Value.bool (rng_nil hd2 hi2))) (wp_exit (then_x (then_x (x_same ?_))))))
   refine then_n ?_
   exact ⟨x2, φ1, v4, h, hl1, S.nf [true, true] rfl ⟨rfl, trivial⟩⟩
  | cons y2 ys2 =>
   rw [tumbref2_RestsOf_l2.eq_2] at h
   refine f_seq (f_region (lv S (rn_lss (S.tm rfl) (S.tm rfl)) rfl ?_)); clear S; intro a S
   refine l_done ?_
   replace S := S.nk [.own v4 60 10 x2.length (x2.flatMap GRest.enc), .own v3 9 1 r1.length (r1.flatMap eStr)] [(0, v_p_items), (1, v_p_l), (2, iV p_from), (10, v4), (28, v3), (29, iV (r1.length : Int)), (30, iV (i2 : Int)), (31, bV (decide ((i2 : Int) < (r1.length : Int))))] [true, true] rfl (subR rfl)
   refine then_n (f_seq (wp_cond_true ((S.tm rfl).trans (congrArg Value.bool (rng_cons hd2 hi2))) (wp_skip (then_n (f_seq (wp_block ?_))))))
   refine f_seq (f_region ?_)
   obtain ⟨b4, hg1, hr3⟩ := rn_indexS (a := a) (x := .tmp 28) (y := .tmp 30) (ty := 0) sl_75 enc_str S (i := 1) rfl (get_mid hd2 hi2) rfl (S.tm rfl) (S.tm rfl)
   refine lv S (hr3 _) rfl ?_; clear S; intro a S
   clear hr3
   refine lv S (rn_ld Tryz.isAgg9 (off := i2 * 1) (o := 0) (S.tm rfl) (own_cells enc_str S (i := 1) rfl hg1 (get_mid hd2 hi2)) rfl) rfl ?_; clear S; intro a S
   refine lv S (rn_assign (S.tm rfl)) rfl ?_; clear S; intro a S
   refine l_done (then_n (f_seq (f_region (lv S (rn_move (S.tm rfl)) rfl ?_)))); clear S; intro a S
   iterate 3 (refine lv S (rn_move (S.tm rfl)) rfl ?_; clear S; intro a S)
   obtain ⟨r2, hr4, h⟩ := bindE h
   have hz4 := S.keep.size
   refine l_enter S (fun _ => run_call (vs := [v_p_items, v_p_l, sV y2, iV p_from]) ⟨(S.tm rfl), (S.tm rfl), (S.tm rfl), (S.tm rfl), trivial⟩ Tryz.call18) (tumbref2_CallsOf_ok _ v_p_items p_items (hs_p_items.mono (S.le_arg nil_sub)) v_p_l p_l (hs_p_l.mono (S.le_arg nil_sub)) y2 p_from _ hr4) rfl ?_; clear S; intro v5 a w10 hv2 hk6 hn2 S
   obtain ⟨φ2, hl2, hm4, S⟩ := S.see' hn2 hz4
   have hs1 := hv2.mono hm4
   refine lv S (rn_assign (S.tm rfl)) rfl ?_; clear S; intro a S
   refine l_done ?_
   replace S := S.nk [.own v4 60 10 x2.length (x2.flatMap GRest.enc), .own v3 9 1 r1.length (r1.flatMap eStr)] [(0, v_p_items), (1, v_p_l), (2, iV p_from), (10, v4), (12, sV y2), (13, v5), (28, v3), (29, iV (r1.length : Int)), (30, iV (i2 : Int))] [true, true] rfl (subR rfl)
   refine then_n (f_seq (f_region (lv S (rn_assign rfl) rfl ?_))); clear S; intro a S
   refine l_done (then_n ?_)
   replace S := S.nk [.own v4 60 10 x2.length (x2.flatMap GRest.enc), .own v3 9 1 r1.length (r1.flatMap eStr)] [(0, v_p_items), (1, v_p_l), (2, iV p_from), (10, v4), (12, sV y2), (13, v5), (14, iV 1), (28, v3), (29, iV (r1.length : Int)), (30, iV (i2 : Int))] [true, true] rfl (subR rfl)
   obtain ⟨j3, hj3, h⟩ := joinE h
   refine f_join (fun a w' => ∃ x3 : List GRest, ∃ v6 : Value, j3 x3 = some r ∧ Sx w [] φ2 [.own v6 60 10 x3.length (x3.flatMap GRest.enc), .own v3 9 1 r1.length (r1.flatMap eStr)] [(0, v_p_items), (1, v_p_l), (2, iV p_from), (10, v6), (28, v3), (29, iV (r1.length : Int)), (30, iV (i2 : Int))] 75 a w') ?_ ?_
   ·refine wp_block (f_loop (fun (m1 : Nat) a w' => ∃ x3 : List GRest, ∃ x4 : Int, ∃ v6 : Value, tumbref2_RestsOf_l3 r2 y2 j3 m1 x3 x4 = some r ∧ Sx w [] φ2 [.own v6 60 10 x3.length (x3.flatMap GRest.enc), .own v3 9 1 r1.length (r1.flatMap eStr)] [(0, v_p_items), (1, v_p_l), (2, iV p_from), (10, v6), (12, sV y2), (13, v5), (14, iV x4), (28, v3), (29, iV (r1.length : Int)), (30, iV (i2 : Int))] 75 a w') id (((r2.length : Int) - 1).toNat + 2) ⟨x2, 1, v4, h, S.nf [true, true] rfl (subR rfl)⟩ ?_)
    clear S h; rintro m1 a w11 ⟨x3, x4, v6, h, S⟩
    cases m1 with
    | zero => rw [tumbref2_RestsOf_l3.eq_1] at h; cases h
    | succ m1 =>
     rw [tumbref2_RestsOf_l3.eq_2] at h
     refine f_seq (f_seq (f_region (lv S (rn_move (S.tm rfl)) rfl ?_))); clear S; intro a S
     refine lv S (rn_move (S.tm rfl)) rfl ?_; clear S; intro a S
     refine lv S (rn_lenT sl_33 (S.tm rfl) (slc_len (ownV_slcT GSlot.enc_ok hs1))) rfl ?_; clear S; intro a S
     refine lv S (rn_lss (S.tm rfl) (S.tm rfl)) rfl ?_; clear S; intro a S
     refine l_done (then_n (f_cond (S.tm rfl) (fun hb1 => ?_) (fun hb1 => ?_)))
     ·replace h := iteT h hb1
      refine wp_skip (then_n (f_seq (wp_block ?_)))
      obtain ⟨hc2, h⟩ := chkE h
      obtain ⟨hc3, h⟩ := chkE h
      obtain ⟨hc4, h⟩ := chkE h
      obtain ⟨hc5, h⟩ := chkE h
      obtain ⟨hc6, h⟩ := chkE h
      refine d_region [] (v6.ownBlock.toList) Tryz.mixed S rfl (by kernel_rfl) ?_; clear S; intro w15 hk9 hsel S
      refine d_quiet 0 S hsel rfl rfl rfl (by kernel_rfl) (by kernel_rfl) rfl (fun _ hw => (rn_move (S.tm rfl))) ?_; clear S; intro a S
      refine d_quiet 1 S hsel rfl rfl rfl (by kernel_rfl) (by kernel_rfl) rfl (fun _ hw => (rn_move (S.tm rfl))) ?_; clear S; intro a S
      refine d_quiet 2 S hsel rfl rfl rfl (by kernel_rfl) (by kernel_rfl) rfl (fun _ hw => (rn_move (S.tm rfl))) ?_; clear S; intro a S
      refine d_quiet 3 S hsel rfl rfl rfl (by kernel_rfl) (by kernel_rfl) rfl (fun _ hw => (rn_move (S.tm rfl))) ?_; clear S; intro a S
      refine d_quiet 4 S hsel rfl rfl rfl (by kernel_rfl) (by kernel_rfl) rfl (fun _ hw => (rn_sub (S.tm rfl) rfl)) ?_; clear S; intro a S
      obtain ⟨b10, o7, hm9, hr9⟩ := rn_indexT (a := a) (x := .tmp 47) (y := .tmp 49) (ty := 0) sl_33 ((ownV_slcT GSlot.enc_ok hs1).mono (S.le_new (fp_sub (i := 0) (e := .own v6 60 10 x3.length (x3.flatMap GRest.enc)) rfl))) (inB_get hc2).1 (inB_get hc2).2 (S.tm rfl) (S.tm rfl)
      refine d_quiet 5 S hsel rfl rfl rfl (by kernel_rfl) (by kernel_rfl) rfl (fun _ hw => hr9 _) ?_; clear S; intro a S
      clear hr9
      refine d_quiet 6 S hsel rfl rfl rfl (by kernel_rfl) (by kernel_rfl) rfl (fun _ hw => (rn_ldA Tryz.isAgg57 Tryz.sizeOf57 (off := o7) (o := 0) (part := (GSlot.enc (GSlot.mk ((nth r2 (W (x4 - 1))).Item) ((nth r2 (W (x4 - 1))).Heat) ((nth r2 (W (x4 - 1))).Time)))) rfl rfl (S.tm rfl) (hm9.kept hw))) ?_; clear S; intro a S
      refine d_quiet 7 S hsel rfl rfl rfl (by kernel_rfl) (by kernel_rfl) rfl (fun _ hw => (rn_move (S.tm rfl))) ?_; clear S; intro a S
      refine d_quiet 8 S hsel rfl rfl rfl (by kernel_rfl) (by kernel_rfl) rfl (fun _ hw => (rn_move (S.tm rfl))) ?_; clear S; intro a S
      obtain ⟨b11, o8, hm10, hr10⟩ := rn_indexT (a := a) (x := .tmp 52) (y := .tmp 53) (ty := 0) sl_33 ((ownV_slcT GSlot.enc_ok hs1).mono (S.le_new (fp_sub (i := 0) (e := .own v6 60 10 x3.length (x3.flatMap GRest.enc)) rfl))) (inB_get hc3).1 (inB_get hc3).2 (S.tm rfl) (S.tm rfl)
      refine d_quiet 9 S hsel rfl rfl rfl (by kernel_rfl) (by kernel_rfl) rfl (fun _ hw => hr10 _) ?_; clear S; intro a S
      clear hr10
      refine d_quiet 10 S hsel rfl rfl rfl (by kernel_rfl) (by kernel_rfl) rfl (fun _ hw => (rn_ldA Tryz.isAgg57 Tryz.sizeOf57 (off := o8) (o := 0) (part := (GSlot.enc (GSlot.mk ((nth r2 x4).Item) ((nth r2 x4).Heat) ((nth r2 x4).Time)))) rfl rfl (S.tm rfl) (hm10.kept hw))) ?_; clear S; intro a S
      refine d_quiet 11 S hsel rfl rfl rfl (by kernel_rfl) (by kernel_rfl) rfl (fun _ hw => (rn_move (S.tm rfl))) ?_; clear S; intro a S
      refine d_quiet 12 S hsel rfl rfl rfl (by kernel_rfl) (by kernel_rfl) rfl (fun _ hw => (rn_move (S.tm rfl))) ?_; clear S; intro a S
      obtain ⟨b12, o9, hm11, hr11⟩ := rn_indexT (a := a) (x := .tmp 56) (y := .tmp 57) (ty := 0) sl_33 ((ownV_slcT GSlot.enc_ok hs1).mono (S.le_new (fp_sub (i := 0) (e := .own v6 60 10 x3.length (x3.flatMap GRest.enc)) rfl))) (inB_get hc4).1 (inB_get hc4).2 (S.tm rfl) (S.tm rfl)
      refine d_quiet 13 S hsel rfl rfl rfl (by kernel_rfl) (by kernel_rfl) rfl (fun _ hw => hr11 _) ?_; clear S; intro a S
      clear hr11
      refine d_quiet 14 S hsel rfl rfl rfl (by kernel_rfl) (by kernel_rfl) rfl (fun _ hw => (rn_fld fa_57_2 (S.tm rfl))) ?_; clear S; intro a S
      refine d_quiet 15 S hsel rfl rfl rfl (by kernel_rfl) (by kernel_rfl) rfl (fun _ hw => (rn_fld fa_55_0 (S.tm rfl))) ?_; clear S; intro a S
      refine d_quiet 16 S hsel rfl rfl rfl (by kernel_rfl) (by kernel_rfl) rfl (fun _ hw => (rn_ld Tryz.isAgg3 (off := o9) (o := 2) (S.tm rfl) (hm11.kept hw) rfl)) ?_; clear S; intro a S
      refine d_quiet 17 S hsel rfl rfl rfl (by kernel_rfl) (by kernel_rfl) rfl (fun _ hw => (rn_move (S.tm rfl))) ?_; clear S; intro a S
      refine d_quiet 18 S hsel rfl rfl rfl (by kernel_rfl) (by kernel_rfl) rfl (fun _ hw => (rn_move (S.tm rfl))) ?_; clear S; intro a S
      refine d_quiet 19 S hsel rfl rfl rfl (by kernel_rfl) (by kernel_rfl) rfl (fun _ hw => (rn_sub (S.tm rfl) rfl)) ?_; clear S; intro a S
      obtain ⟨b13, o10, hm12, hr12⟩ := rn_indexT (a := a) (x := .tmp 62) (y := .tmp 64) (ty := 0) sl_33 ((ownV_slcT GSlot.enc_ok hs1).mono (S.le_new (fp_sub (i := 0) (e := .own v6 60 10 x3.length (x3.flatMap GRest.enc)) rfl))) (inB_get hc5).1 (inB_get hc5).2 (S.tm rfl) (S.tm rfl)
      refine d_quiet 20 S hsel rfl rfl rfl (by kernel_rfl) (by kernel_rfl) rfl (fun _ hw => hr12 _) ?_; clear S; intro a S
      clear hr12
      refine d_quiet 21 S hsel rfl rfl rfl (by kernel_rfl) (by kernel_rfl) rfl (fun _ hw => (rn_fld fa_57_2 (S.tm rfl))) ?_; clear S; intro a S
      refine d_quiet 22 S hsel rfl rfl rfl (by kernel_rfl) (by kernel_rfl) rfl (fun _ hw => (rn_fld fa_55_1 (S.tm rfl))) ?_; clear S; intro a S
      refine d_quiet 23 S hsel rfl rfl rfl (by kernel_rfl) (by kernel_rfl) rfl (fun _ hw => (rn_ld Tryz.isAgg3 (off := o10) (o := 3) (S.tm rfl) (hm12.kept hw) rfl)) ?_; clear S; intro a S
      refine d_quiet 24 S hsel rfl rfl rfl (by kernel_rfl) (by kernel_rfl) rfl (fun _ hw => (rn_sub (S.tm rfl) (S.tm rfl))) ?_; clear S; intro a S
      refine d_quiet 25 S hsel rfl rfl rfl (by kernel_rfl) (by kernel_rfl) rfl (fun _ hw => (rn_bld bt_60 (pv := [(0, sV y2), (1, .agg (GSlot.enc (GSlot.mk ((nth r2 (W (x4 - 1))).Item) ((nth r2 (W (x4 - 1))).Heat) ((nth r2 (W (x4 - 1))).Time))).toArray), (2, .agg (GSlot.enc (GSlot.mk ((nth r2 x4).Item) ((nth r2 x4).Heat) ((nth r2 x4).Time))).toArray), (3, iV (W ((((nth r2 x4).Time).From) - (((nth r2 (W (x4 - 1))).Time).To))))]) ⟨rfl, (S.tm rfl), rfl, (S.tm rfl), rfl, (S.tm rfl), rfl, (S.tm rfl), trivial⟩ (cs := [sV y2, sV ((nth r2 (W (x4 - 1))).Item), iV ((nth r2 (W (x4 - 1))).Heat), iV (((nth r2 (W (x4 - 1))).Time).From), iV (((nth r2 (W (x4 - 1))).Time).To), sV ((nth r2 x4).Item), iV ((nth r2 x4).Heat), iV (((nth r2 x4).Time).From), iV (((nth r2 x4).Time).To), iV (W ((((nth r2 x4).Time).From) - (((nth r2 (W (x4 - 1))).Time).To)))]) (by kernel_rfl))) ?_; clear S; intro a S
      refine d_loud1 26 (by kernel_rfl) rfl (l_buildSlice S Tryz.underlying37 Tryz.sizeOf60 Tryz.zeroValue60 rfl rfl (pv := [(0, .agg (GRest.enc (GRest.mk y2 (GSlot.mk ((nth r2 (W (x4 - 1))).Item) ((nth r2 (W (x4 - 1))).Heat) ((nth r2 (W (x4 - 1))).Time)) (GSlot.mk ((nth r2 x4).Item) ((nth r2 x4).Heat) ((nth r2 x4).Time)) (W ((((nth r2 x4).Time).From) - (((nth r2 (W (x4 - 1))).Time).To))))).toArray)]) ⟨rfl, (S.tm rfl), trivial⟩ (cs := [sV y2, sV ((nth r2 (W (x4 - 1))).Item), iV ((nth r2 (W (x4 - 1))).Heat), iV (((nth r2 (W (x4 - 1))).Time).From), iV (((nth r2 (W (x4 - 1))).Time).To), sV ((nth r2 x4).Item), iV ((nth r2 x4).Heat), iV (((nth r2 x4).Time).From), iV (((nth r2 x4).Time).To), iV (W ((((nth r2 x4).Time).From) - (((nth r2 (W (x4 - 1))).Time).To)))]) (by kernel_rfl) rfl ?_); clear S; intro a w16 b14 hz6 hk10 S
      refine l_done (d_next (Keep.none hk10) (d_loud1 27 (by kernel_rfl) rfl ?_))
      refine l_appendT sl_37 GRest.enc_ok S (S.tm rfl) (i := 1) rfl (S.tm rfl) (j := 0) rfl (ys := [(GRest.mk y2 (GSlot.mk ((nth r2 (W (x4 - 1))).Item) ((nth r2 (W (x4 - 1))).Heat) ((nth r2 (W (x4 - 1))).Time)) (GSlot.mk ((nth r2 x4).Item) ((nth r2 x4).Heat) ((nth r2 x4).Time)) (W ((((nth r2 x4).Time).From) - (((nth r2 (W (x4 - 1))).Time).To))))]) rfl rfl rfl rfl (by have := room_lt hc6; omega) rfl ?_; clear S; intro v8 a w17 hk11 S
      refine l_done (d_next hk11 (d_rest [28] hsel (by kernel_rfl) rfl ?_))
      clear hsel
      refine s_lv S rfl (rn_assign (S.tm rfl)) rfl ?_; clear S; intro a S
      refine s_done ?_
      replace S := S.nk [.own v8 60 10 (x3 ++ [(GRest.mk y2 (GSlot.mk ((nth r2 (W (x4 - 1))).Item) ((nth r2 (W (x4 - 1))).Heat) ((nth r2 (W (x4 - 1))).Time)) (GSlot.mk ((nth r2 x4).Item) ((nth r2 x4).Heat) ((nth r2 x4).Time)) (W ((((nth r2 x4).Time).From) - (((nth r2 (W (x4 - 1))).Time).To))))]).length ((x3 ++ [(GRest.mk y2 (GSlot.mk ((nth r2 (W (x4 - 1))).Item) ((nth r2 (W (x4 - 1))).Heat) ((nth r2 (W (x4 - 1))).Time)) (GSlot.mk ((nth r2 x4).Item) ((nth r2 x4).Heat) ((nth r2 x4).Time)) (W ((((nth r2 x4).Time).From) - (((nth r2 (W (x4 - 1))).Time).To))))]).flatMap GRest.enc), .own v3 9 1 r1.length (r1.flatMap eStr)] [(0, v_p_items), (1, v_p_l), (2, iV p_from), (10, v8), (12, sV y2), (13, v5), (14, iV x4), (28, v3), (29, iV (r1.length : Int)), (30, iV (i2 : Int))] [false, true, true] rfl (subR rfl)
      refine blk_n (then_n (f_region (lv S (rn_move (S.tm rfl)) rfl ?_))); clear S; intro a S
      refine lv S (rn_add (S.tm rfl) rfl) rfl ?_; clear S; intro a S
      refine lv S (rn_assign (S.tm rfl)) rfl ?_; clear S; intro a S
      refine l_done (then_n ?_)
      exact ⟨m1, ⟨(x3 ++ [(GRest.mk y2 (GSlot.mk ((nth r2 (W (x4 - 1))).Item) ((nth r2 (W (x4 - 1))).Heat) ((nth r2 (W (x4 - 1))).Time)) (GSlot.mk ((nth r2 x4).Item) ((nth r2 x4).Heat) ((nth r2 x4).Time)) (W ((((nth r2 x4).Time).From) - (((nth r2 (W (x4 - 1))).Time).To))))]), W (x4 + 1), v8, h, S.nf [true, true] rfl ⟨rfl, rfl, rfl, rfl, rfl, rfl, rfl, rfl, rfl, rfl, trivial⟩⟩, Nat.lt_succ_self _⟩
     ·replace h := iteF h hb1
      refine wp_exit (then_x (then_x (x_same (then_n ?_))))
      exact ⟨x3, v6, h, S.nf [true, true] rfl (subR rfl)⟩
   clear S h; rintro a w12 ⟨x3, v6, h, S⟩; rw [hj3] at h; clear hj3 j3
   refine blk_n (then_n (f_region (lv S (rn_add (S.tm rfl) rfl) rfl ?_))); clear S; intro a S
   refine lv S (rn_move (S.tm rfl)) rfl ?_; clear S; intro a S
   refine l_done (then_n ?_)
   exact ⟨ys2, ⟨i2 + 1, x3, φ2, v6, ⟨_, (hd2).trans (List.append_cons _ _ _), by simp [hi2]⟩, h, (View.le_trans hl1 hl2), S.nf [true, true] rfl ⟨rfl, rfl, rfl, rfl, rfl, rfl, (congrArg (fun z => some (Value.int .i64 z)) (rng_next hd2 hi2 hm2)), trivial⟩⟩, Nat.lt_succ_self _⟩
 clear S h; rintro a w9 ⟨x2, φ1, v4, h, hl1, S⟩; rw [hj2] at h; clear hj2 j2
 refine then_n (f_seq (f_region (lv S (rn_move (S.tm rfl)) rfl ?_))); clear S; intro a S
 refine lv S (rn_assign (S.tm rfl)) rfl ?_; clear S; intro a S
 refine l_done (then_n (wp_ret ?_))
 obtain rfl := Option.some.inj h
 exact f_ret S Tryz.results19 rfl (own_retT S (i := 0) rfl rfl)
theorem tumbref2_ShortOf_c1_ok (w : World) (p_r : GRest) (b_p_a1 : Nat) (p_a1 : Int) (hb_b_p_a1 : (view w []) b_p_a1 = some (.cells [iV p_a1].toArray 3 (0, 0))) (r : Bool) (h : tumbref2_ShortOf_c1 p_r p_a1 = r) :
    Calls Tryz.prog 56 [.agg (GRest.enc p_r).toArray, .pointer (some ⟨b_p_a1, 0, none⟩)].toArray w (Ret w [] fun _ v _ => v = bV r) := by
 refine f_enter [] [] Tryz.func56 rfl Tryz.ntmps56 rfl (by simp) (by simp [fps]) (by simp [fps]) fun a S => ?_
 unfold tumbref2_ShortOf_c1 at h
 replace S := S.nk [] [(0, .agg (GRest.enc p_r).toArray), (1, .pointer (some ⟨b_p_a1, 0, none⟩))] [] rfl (subR rfl)
 refine f_seq (f_region (l_box S (S.tm rfl) (cs := (GRest.enc p_r)) rfl rfl ?_)); clear S; intro a w1 b1 hz1 hk1 S
 refine lv S (rn_assign rfl) rfl ?_; clear S; intro a S
 refine l_done (then_n (f_seq (f_region (lv S (rn_fld fa_60_3 (S.tm rfl)) rfl ?_)))); clear S; intro a S
 refine lv S (rn_load Tryz.isAgg3 (S.tm rfl) (S.cell (i := 0) rfl rfl)) rfl ?_; clear S; intro a S
 refine lv S (rn_ld Tryz.isAgg3 (off := 0) (o := 0) (S.tm rfl) ((mem_blk hb_b_p_a1).at S.emb0) rfl) rfl ?_; clear S; intro a S
 refine lv S (rn_geq (S.tm rfl) (S.tm rfl)) rfl ?_; clear S; intro a S
 refine lv S (rn_assign (S.tm rfl)) rfl ?_; clear S; intro a S
 refine l_done (then_n (wp_ret ?_))
 subst h
 exact f_ret S Tryz.results56 rfl rfl
theorem slices_IndexFunc_Rest_tumbref2_ShortOf_c1_ok (w : World) (v_p_s : Value) (p_s : List GRest) (hs_p_s : Slc (view w []) 10 v_p_s (p_s.map GRest.enc)) (b_p_f_0 : Nat) (p_f_0 : Int) (hb_b_p_f_0 : (view w []) b_p_f_0 = some (.cells [iV p_f_0].toArray 3 (0, 0))) (r : Int) (h : slices_IndexFunc_Rest_tumbref2_ShortOf_c1 p_s p_f_0 = r) :
    Calls Tryz.prog 76 [v_p_s, .func (.func 56) #[] #[.pointer (some ⟨b_p_f_0, 0, none⟩)]].toArray w (Ret w [] fun _ v _ => v = iV r) := by
 refine f_enter [] [] Tryz.func76 rfl Tryz.ntmps76 rfl (by simp) (by simp [fps]) (by simp [fps]) fun a S => ?_
 unfold slices_IndexFunc_Rest_tumbref2_ShortOf_c1 at h
 replace S := S.nk [] [(0, v_p_s), (1, .func (.func 56) #[] #[.pointer (some ⟨b_p_f_0, 0, none⟩)])] [] rfl (subR rfl)
 refine f_seq (f_region (lv S (rn_assign rfl) rfl ?_)); clear S; intro a S
 refine l_done (then_n (f_seq (f_seq (f_region (lv S (rn_move (S.tm rfl)) rfl ?_))))); clear S; intro a S
 refine lv S (rn_lenT sl_37 (S.tm rfl) (slc_len hs_p_s)) rfl ?_; clear S; intro a S
 refine lv S (rn_move rfl) rfl ?_; clear S; intro a S
 refine l_done (then_n ?_)
 replace S := S.nk [] [(0, v_p_s), (1, .func (.func 56) #[] #[.pointer (some ⟨b_p_f_0, 0, none⟩)]), (7, iV (p_s.length : Int)), (8, iV 0)] [] rfl (subR rfl)
 obtain ⟨j1, hj1, h⟩ := joinE h
 refine f_join (fun a w' => j1 = r ∧ Sx w [] nov [] [] 19 a w') ?_ ?_
 ·refine wp_block (f_loop (fun (ys1 : List GRest) a w' => ∃ i1 : Nat, (∃ dn, p_s = dn ++ ys1 ∧ dn.length = i1) ∧ slices_IndexFunc_Rest_tumbref2_ShortOf_c1_l1 p_f_0 j1 ys1 i1 = r ∧ Sx w [] nov [] [(0, v_p_s), (1, .func (.func 56) #[] #[.pointer (some ⟨b_p_f_0, 0, none⟩)]), (7, iV (p_s.length : Int)), (8, iV (i1 : Int))] 19 a w') List.length p_s ⟨0, ⟨[], rfl, rfl⟩, h, S.nf [] rfl (subR rfl)⟩ ?_)
  clear S h; rintro ys1 a w1 ⟨i1, ⟨dn, hd1, hi1⟩, h, S⟩
  cases ys1 with
  | nil =>
   rw [slices_IndexFunc_Rest_tumbref2_ShortOf_c1_l1.eq_1] at h
   refine f_seq (f_region (lv S (rn_lss (S.tm rfl) (S.tm rfl)) rfl ?_)); clear S; intro a S
   refine l_done ?_
   replace S := S.nk [] [(0, v_p_s), (1, .func (.func 56) #[] #[.pointer (some ⟨b_p_f_0, 0, none⟩)]), (7, iV (p_s.length : Int)), (8, iV (i1 : Int)), (9, bV (decide ((i1 : Int) < (p_s.length : Int))))] [] rfl (subR rfl)
   refine then_n (f_seq (wp_cond_false ((S.tm rfl).trans (congrArg Value.bool (rng_nil hd1 hi1))) (wp_exit (then_x (then_x (x_same ?_))))))
   refine then_n ?_
   exact ⟨h, S.nf [] rfl trivial⟩
  | cons y1 ys1 =>
   rw [slices_IndexFunc_Rest_tumbref2_ShortOf_c1_l1.eq_2] at h
   refine f_seq (f_region (lv S (rn_lss (S.tm rfl) (S.tm rfl)) rfl ?_)); clear S; intro a S
   refine l_done ?_
   replace S := S.nk [] [(0, v_p_s), (1, .func (.func 56) #[] #[.pointer (some ⟨b_p_f_0, 0, none⟩)]), (7, iV (p_s.length : Int)), (8, iV (i1 : Int)), (9, bV (decide ((i1 : Int) < (p_s.length : Int))))] [] rfl (subR rfl)
   refine then_n (f_seq (wp_cond_true ((S.tm rfl).trans (congrArg Value.bool (rng_cons hd1 hi1))) (wp_skip (then_n (f_seq (wp_block ?_))))))
   refine f_seq (f_region (lv S (rn_move (S.tm rfl)) rfl ?_)); clear S; intro a S
   refine lv S (rn_assign (S.tm rfl)) rfl ?_; clear S; intro a S
   refine l_done (then_n (f_seq (f_region (lv S (rn_move (S.tm rfl)) rfl ?_)))); clear S; intro a S
   refine lv S (rn_move (S.tm rfl)) rfl ?_; clear S; intro a S
   refine lv S (rn_move (S.tm rfl)) rfl ?_; clear S; intro a S
   obtain ⟨b1, o1, hm1, hr1⟩ := rn_indexT (a := a) (x := .tmp 12) (y := .tmp 13) (ty := 0) sl_37 hs_p_s (get_mid hd1 hi1) rfl (S.tm rfl) (S.tm rfl)
   refine lv S (hr1 _) rfl ?_; clear S; intro a S
   clear hr1
   refine lv S (rn_ldA Tryz.isAgg60 Tryz.sizeOf60 (off := o1) (o := 0) (part := (GRest.enc y1)) rfl rfl (S.tm rfl) (hm1.at S.emb0)) rfl ?_; clear S; intro a S
   refine l_enter S (fun _ => run_callV (cap := [.pointer (some ⟨b_p_f_0, 0, none⟩)]) (S.tm rfl) (vs := [.agg (GRest.enc y1).toArray]) ⟨(S.tm rfl), trivial⟩ Tryz.call56) (tumbref2_ShortOf_c1_ok _ y1 b_p_f_0 p_f_0 ((S.le_arg nil_sub) _ _ hb_b_p_f_0) _ rfl) rfl ?_; clear S; intro v1 a w3 hv1 hk1 hn1 S
   subst hv1
   refine l_done (then_n (f_cond (S.tm rfl) (fun hb1 => ?_) (fun hb1 => ?_)))
   ·replace h := iteT h hb1
    refine f_seq (f_region (lv S (rn_move (S.tm rfl)) rfl ?_)); clear S; intro a S
    refine lv S (rn_assign (S.tm rfl)) rfl ?_; clear S; intro a S
    refine l_done ?_
    replace S := S.nk [] [(4, iV (i1 : Int))] [] rfl ⟨rfl, trivial⟩
    refine then_n (wp_ret (blk_r (then_r (then_r (blk_r (then_r ?_))))))
    refine then_r ?_
    subst h
    exact f_ret S Tryz.results76 rfl rfl
   ·replace h := iteF h hb1
    refine wp_skip (blk_n (then_n (f_region (lv S (rn_add (S.tm rfl) rfl) rfl ?_)))); clear S; intro a S
    refine lv S (rn_move (S.tm rfl)) rfl ?_; clear S; intro a S
    refine l_done (then_n ?_)
    exact ⟨ys1, ⟨i1 + 1, ⟨_, (hd1).trans (List.append_cons _ _ _), by simp [hi1]⟩, h, S.nf [] rfl ⟨rfl, rfl, rfl, (congrArg (fun z => some (Value.int .i64 z)) (rng_next hd1 hi1 (slc_max hs_p_s))), trivial⟩⟩, Nat.lt_succ_self _⟩
 clear S h; rintro a w2 ⟨h, S⟩; rw [hj1] at h; clear hj1 j1
 refine then_n (f_seq (f_region (lv S (rn_assign rfl) rfl ?_))); clear S; intro a S
 refine l_done (then_n (wp_ret ?_))
 subst h
 exact f_ret S Tryz.results76 rfl rfl
theorem slices_DeleteFunc_Rest_tumbref2_ShortOf_c1_ok (w : World) (v_p_s : Value) (p_s : List GRest) (hb_p_s : (LEnt.own v_p_s 60 10 p_s.length (p_s.flatMap GRest.enc)).holds w) (b_p_del_0 : Nat) (p_del_0 : Int) (hb_b_p_del_0 : (view w (v_p_s.ownBlock.toList)) b_p_del_0 = some (.cells [iV p_del_0].toArray 3 (0, 0))) (r : (List GRest)) (h : slices_DeleteFunc_Rest_tumbref2_ShortOf_c1 p_s p_del_0 = some r) :
    Calls Tryz.prog 38 [v_p_s, .func (.func 56) #[] #[.pointer (some ⟨b_p_del_0, 0, none⟩)]].toArray w (Ret w (v_p_s.ownBlock.toList) fun _ v w' => (LEnt.own v 60 10 r.length (r.flatMap GRest.enc)).holds w' ∧ ∀ c, v.ownBlock = some c → v_p_s.ownBlock = some c) := by
 refine f_enter (v_p_s.ownBlock.toList) [.own v_p_s 60 10 p_s.length (p_s.flatMap GRest.enc)] Tryz.func38 rfl Tryz.ntmps38 rfl (fun e he => by simp only [List.mem_singleton] at he; subst he; exact hb_p_s) (fps_one_nodup _) (fps_one_sub _) fun a S => ?_
 unfold slices_DeleteFunc_Rest_tumbref2_ShortOf_c1 at h
 replace S := S.nk [.own v_p_s 60 10 p_s.length (p_s.flatMap GRest.enc)] [(0, v_p_s), (1, .func (.func 56) #[] #[.pointer (some ⟨b_p_del_0, 0, none⟩)])] [true] rfl (subR rfl)
 refine f_seq (f_region (lv S (rn_assign rfl) rfl ?_)); clear S; intro a S
 refine l_done (then_n (f_seq (f_region (lv S (rn_move (S.tm rfl)) rfl ?_)))); clear S; intro a S
 refine lv S (rn_move (S.tm rfl)) rfl ?_; clear S; intro a S
 refine l_enter S (fun _ => run_call (vs := [v_p_s, .func (.func 56) #[] #[.pointer (some ⟨b_p_del_0, 0, none⟩)]]) ⟨(S.tm rfl), (S.tm rfl), trivial⟩ Tryz.call76) (slices_IndexFunc_Rest_tumbref2_ShortOf_c1_ok _ v_p_s p_s (own_slcT GRest.enc_ok S (i := 0) rfl (ne_nil (e' := .own v_p_s 60 10 p_s.length (p_s.flatMap GRest.enc)))) b_p_del_0 p_del_0 ((S.le_arg nil_sub) _ _ hb_b_p_del_0) _ rfl) rfl ?_; clear S; intro v1 a w1 hv1 hk1 hn1 S
 subst hv1
 refine lv S (rn_assign (S.tm rfl)) rfl ?_; clear S; intro a S
 refine l_done (then_n (f_seq (f_seq (f_region (lv S (rn_move (S.tm rfl)) rfl ?_))))); clear S; intro a S
 refine lv S (rn_eql (S.tm rfl) rfl) rfl ?_; clear S; intro a S
 refine l_done (then_n (f_cond (S.tm rfl) (fun hb1 => ?_) (fun hb1 => ?_)))
 ·replace h := iteT h hb1
  refine f_seq (f_region (lv S (rn_move (S.tm rfl)) rfl ?_)); clear S; intro a S
  refine lv S (rn_assign (S.tm rfl)) rfl ?_; clear S; intro a S
  refine l_done (then_n (wp_ret (then_r ?_)))
  obtain rfl := Option.some.inj h
  exact f_ret S Tryz.results38 rfl ⟨(S.holds _ (List.mem_of_getElem? (i := 0) rfl)), (fun _ h => h)⟩
 ·replace h := iteF h hb1
  refine wp_skip (then_n (f_seq (f_seq (f_region (lv S (rn_move (S.tm rfl)) rfl ?_))))); clear S; intro a S
  refine lv S (rn_add (S.tm rfl) rfl) rfl ?_; clear S; intro a S
  refine lv S (rn_assign (S.tm rfl)) rfl ?_; clear S; intro a S
  refine l_done (then_n ?_)
  replace S := S.nk [.own v_p_s 60 10 p_s.length (p_s.flatMap GRest.enc)] [(0, v_p_s), (1, .func (.func 56) #[] #[.pointer (some ⟨b_p_del_0, 0, none⟩)]), (5, iV (slices_IndexFunc_Rest_tumbref2_ShortOf_c1 p_s p_del_0)), (6, iV (W ((slices_IndexFunc_Rest_tumbref2_ShortOf_c1 p_s p_del_0) + 1)))] [true] rfl (subR rfl)
  obtain ⟨j1, hj1, h⟩ := joinE h
  refine f_join (fun a w' => ∃ x1 : List GRest, ∃ x2 : Int, j1 x1 x2 = some r ∧ Sx w (v_p_s.ownBlock.toList) nov [.own v_p_s 60 10 x1.length (x1.flatMap GRest.enc)] [(0, v_p_s), (5, iV x2)] 42 a w') ?_ ?_
  ·refine wp_block (f_loop (fun (m1 : Nat) a w' => ∃ x1 : List GRest, ∃ x2 : Int, ∃ x3 : Int, slices_DeleteFunc_Rest_tumbref2_ShortOf_c1_l1 p_del_0 j1 m1 x1 x2 x3 = some r ∧ Sx w (v_p_s.ownBlock.toList) nov [.own v_p_s 60 10 x1.length (x1.flatMap GRest.enc)] [(0, v_p_s), (1, .func (.func 56) #[] #[.pointer (some ⟨b_p_del_0, 0, none⟩)]), (5, iV x2), (6, iV x3)] 42 a w') id (((p_s.length : Int) - (W ((slices_IndexFunc_Rest_tumbref2_ShortOf_c1 p_s p_del_0) + 1))).toNat + 2) ⟨p_s, (slices_IndexFunc_Rest_tumbref2_ShortOf_c1 p_s p_del_0), W ((slices_IndexFunc_Rest_tumbref2_ShortOf_c1 p_s p_del_0) + 1), h, S.nf [true] rfl (subR rfl)⟩ ?_)
   clear S h; rintro m1 a w2 ⟨x1, x2, x3, h, S⟩
   cases m1 with
   | zero => rw [slices_DeleteFunc_Rest_tumbref2_ShortOf_c1_l1.eq_1] at h; cases h
   | succ m1 =>
    rw [slices_DeleteFunc_Rest_tumbref2_ShortOf_c1_l1.eq_2] at h
    refine f_seq (f_seq (f_region (lv S (rn_move (S.tm rfl)) rfl ?_))); clear S; intro a S
    refine lv S (rn_move (S.tm rfl)) rfl ?_; clear S; intro a S
    refine lv S (rn_lenT sl_37 (S.tm rfl) (own_len (S.own_at (i := 0) rfl))) rfl ?_; clear S; intro a S
    refine lv S (rn_lss (S.tm rfl) (S.tm rfl)) rfl ?_; clear S; intro a S
    refine l_done (then_n (f_cond (S.tm rfl) (fun hb2 => ?_) (fun hb2 => ?_)))
    ·replace h := iteT h hb2
     refine wp_skip (then_n (f_seq ?_))
     obtain ⟨j2, hj2, h⟩ := joinE h
     refine f_join (fun a w' => ∃ x4 : List GRest, ∃ x5 : Int, j2 x4 x5 = some r ∧ Sx w (v_p_s.ownBlock.toList) nov [.own v_p_s 60 10 x4.length (x4.flatMap GRest.enc)] [(0, v_p_s), (1, .func (.func 56) #[] #[.pointer (some ⟨b_p_del_0, 0, none⟩)]), (5, iV x5), (6, iV x3)] 42 a w') ?_ ?_
     ·refine wp_block (f_seq (f_region (lv S (rn_move (S.tm rfl)) rfl ?_))); clear S; intro a S
      refine lv S (rn_move (S.tm rfl)) rfl ?_; clear S; intro a S
      obtain ⟨hc1, h⟩ := chkE h
      obtain ⟨b1, hg1, hr1⟩ := rn_indexS (a := a) (x := .tmp 22) (y := .tmp 23) (ty := 0) sl_37 GRest.enc_ok S (i := 0) rfl (inB_get hc1).1 (inB_get hc1).2 (S.tm rfl) (S.tm rfl)
      refine lv S (hr1 _) rfl ?_; clear S; intro a S
      clear hr1
      refine lv S (rn_ldA Tryz.isAgg60 Tryz.sizeOf60 (off := x3.toNat * 10) (o := 0) (part := (GRest.enc (GRest.mk ((nth x1 x3).Who) (GSlot.mk (((nth x1 x3).From).Item) (((nth x1 x3).From).Heat) (((nth x1 x3).From).Time)) (GSlot.mk (((nth x1 x3).To).Item) (((nth x1 x3).To).Heat) (((nth x1 x3).To).Time)) ((nth x1 x3).Long)))) rfl rfl (S.tm rfl) (own_cells GRest.enc_ok S (i := 0) rfl hg1 (inB_get hc1).1)) rfl ?_; clear S; intro a S
      refine l_alloc S Tryz.zeroValue60 (cs := [sV k_empty, sV k_empty, iV 0, iV 0, iV 0, sV k_empty, iV 0, iV 0, iV 0, iV 0]) rfl rfl ?_; clear S; intro a w5 b2 hz1 hk2 S
      refine l_store S (S.tm rfl) (S.tm rfl) (i := 0) (off := 0) rfl Tryz.sizeOf60 (vs := (GRest.enc (GRest.mk ((nth x1 x3).Who) (GSlot.mk (((nth x1 x3).From).Item) (((nth x1 x3).From).Heat) (((nth x1 x3).From).Time)) (GSlot.mk (((nth x1 x3).To).Item) (((nth x1 x3).To).Heat) (((nth x1 x3).To).Time)) ((nth x1 x3).Long)))) rfl rfl rfl rfl ?_; clear S; intro w6 hk3 S
      refine l_done (then_n (f_seq (f_region (lv S (rn_move (S.tm rfl)) rfl ?_)))); clear S; intro a S
      refine lv S (rn_ldA Tryz.isAgg60 Tryz.sizeOf60 (off := 0) (o := 0) (part := (GRest.enc (GRest.mk ((nth x1 x3).Who) (GSlot.mk (((nth x1 x3).From).Item) (((nth x1 x3).From).Heat) (((nth x1 x3).From).Time)) (GSlot.mk (((nth x1 x3).To).Item) (((nth x1 x3).To).Heat) (((nth x1 x3).To).Time)) ((nth x1 x3).Long)))) rfl rfl (S.tm rfl) (S.cellsAt (i := 0) rfl)) rfl ?_; clear S; intro a S
      refine l_enter S (fun _ => run_callV (cap := [.pointer (some ⟨b_p_del_0, 0, none⟩)]) (S.tm rfl) (vs := [.agg (GRest.enc (GRest.mk ((nth x1 x3).Who) (GSlot.mk (((nth x1 x3).From).Item) (((nth x1 x3).From).Heat) (((nth x1 x3).From).Time)) (GSlot.mk (((nth x1 x3).To).Item) (((nth x1 x3).To).Heat) (((nth x1 x3).To).Time)) ((nth x1 x3).Long))).toArray]) ⟨(S.tm rfl), trivial⟩ Tryz.call56) (tumbref2_ShortOf_c1_ok _ (GRest.mk ((nth x1 x3).Who) (GSlot.mk (((nth x1 x3).From).Item) (((nth x1 x3).From).Heat) (((nth x1 x3).From).Time)) (GSlot.mk (((nth x1 x3).To).Item) (((nth x1 x3).To).Heat) (((nth x1 x3).To).Time)) ((nth x1 x3).Long)) b_p_del_0 p_del_0 ((S.le_arg nil_sub) _ _ hb_b_p_del_0) _ rfl) rfl ?_; clear S; intro v2 a w7 hv2 hk4 hn2 S
      subst hv2
      refine lv S (rn_not (S.tm rfl)) rfl ?_; clear S; intro a S
      refine l_done ?_
      replace S := S.nk [.blk b2 (GRest.enc (GRest.mk ((nth x1 x3).Who) (GSlot.mk (((nth x1 x3).From).Item) (((nth x1 x3).From).Heat) (((nth x1 x3).From).Time)) (GSlot.mk (((nth x1 x3).To).Item) (((nth x1 x3).To).Heat) (((nth x1 x3).To).Time)) ((nth x1 x3).Long))) 60, .own v_p_s 60 10 x1.length (x1.flatMap GRest.enc)] [(0, v_p_s), (1, .func (.func 56) #[] #[.pointer (some ⟨b_p_del_0, 0, none⟩)]), (5, iV x2), (6, iV x3), (7, .pointer (some ⟨b2, 0, none⟩)), (29, bV (!(tumbref2_ShortOf_c1 (GRest.mk ((nth x1 x3).Who) (GSlot.mk (((nth x1 x3).From).Item) (((nth x1 x3).From).Heat) (((nth x1 x3).From).Time)) (GSlot.mk (((nth x1 x3).To).Item) (((nth x1 x3).To).Heat) (((nth x1 x3).To).Time)) ((nth x1 x3).Long)) p_del_0)))] [true, true] rfl (subR rfl)
      refine then_n ?_
      obtain ⟨j3, hj3, h⟩ := joinE h
      refine f_join (fun a w' => ∃ x6 : List GRest, ∃ x7 : Int, j3 x6 x7 = some r ∧ Sx w (v_p_s.ownBlock.toList) nov [.blk b2 (GRest.enc (GRest.mk ((nth x1 x3).Who) (GSlot.mk (((nth x1 x3).From).Item) (((nth x1 x3).From).Heat) (((nth x1 x3).From).Time)) (GSlot.mk (((nth x1 x3).To).Item) (((nth x1 x3).To).Heat) (((nth x1 x3).To).Time)) ((nth x1 x3).Long))) 60, .own v_p_s 60 10 x6.length (x6.flatMap GRest.enc)] [(0, v_p_s), (1, .func (.func 56) #[] #[.pointer (some ⟨b_p_del_0, 0, none⟩)]), (5, iV x7), (6, iV x3)] 42 a w') ?_ ?_
      ·refine f_cond (S.tm rfl) (fun hb3 => ?_) (fun hb3 => ?_)
       ·replace h := iteT h hb3
        refine f_seq (f_region (lv S (rn_move (S.tm rfl)) rfl ?_)); clear S; intro a S
        refine lv S (rn_move (S.tm rfl)) rfl ?_; clear S; intro a S
        refine lv S (rn_ldA Tryz.isAgg60 Tryz.sizeOf60 (off := 0) (o := 0) (part := (GRest.enc (GRest.mk ((nth x1 x3).Who) (GSlot.mk (((nth x1 x3).From).Item) (((nth x1 x3).From).Heat) (((nth x1 x3).From).Time)) (GSlot.mk (((nth x1 x3).To).Item) (((nth x1 x3).To).Heat) (((nth x1 x3).To).Time)) ((nth x1 x3).Long)))) rfl rfl (S.tm rfl) (S.cellsAt (i := 0) rfl)) rfl ?_; clear S; intro a S
        obtain ⟨hc2, h⟩ := chkE h
        obtain ⟨b3, hg2, hr2⟩ := rn_indexS (a := a) (x := .tmp 30) (y := .tmp 31) (ty := 0) sl_37 GRest.enc_ok S (i := 1) rfl (inB_get hc2).1 (inB_get hc2).2 (S.tm rfl) (S.tm rfl)
        refine lv S (hr2 _) rfl ?_; clear S; intro a S
        clear hr2
        refine l_storeO (c := 0) (j := x2.toNat) (GRest.mk ((nth x1 x3).Who) (GSlot.mk (((nth x1 x3).From).Item) (((nth x1 x3).From).Heat) (((nth x1 x3).From).Time)) (GSlot.mk (((nth x1 x3).To).Item) (((nth x1 x3).To).Heat) (((nth x1 x3).To).Time)) ((nth x1 x3).Long)) GRest.enc_ok S (S.tm rfl) (S.tm rfl) (i := 1) rfl hg2 (inB_get hc2).1 Tryz.sizeOf60 (vs := [sV ((nth x1 x3).Who), sV (((nth x1 x3).From).Item), iV (((nth x1 x3).From).Heat), iV ((((nth x1 x3).From).Time).From), iV ((((nth x1 x3).From).Time).To), sV (((nth x1 x3).To).Item), iV (((nth x1 x3).To).Heat), iV ((((nth x1 x3).To).Time).From), iV ((((nth x1 x3).To).Time).To), iV ((nth x1 x3).Long)]) rfl rfl rfl rfl rfl ?_; clear S; intro w10 hk6 S
        refine l_done (then_n (f_region (lv S (rn_move (S.tm rfl)) rfl ?_))); clear S; intro a S
        refine lv S (rn_add (S.tm rfl) rfl) rfl ?_; clear S; intro a S
        refine lv S (rn_assign (S.tm rfl)) rfl ?_; clear S; intro a S
        refine l_done (then_n ?_)
        exact ⟨(x1.set x2.toNat (GRest.mk ((nth x1 x3).Who) (GSlot.mk (((nth x1 x3).From).Item) (((nth x1 x3).From).Heat) (((nth x1 x3).From).Time)) (GSlot.mk (((nth x1 x3).To).Item) (((nth x1 x3).To).Heat) (((nth x1 x3).To).Time)) ((nth x1 x3).Long))), W (x2 + 1), h, S.nf [true, true] rfl (subR rfl)⟩
       ·replace h := iteF h hb3
        refine wp_skip (then_n ?_)
        exact ⟨x1, x2, h, S.nf [true, true] rfl (subR rfl)⟩
      clear S h; rintro a w8 ⟨x6, x7, h, S⟩; rw [hj3] at h; clear hj3 j3
      refine blk_n (then_n ?_)
      exact ⟨x6, x7, h, S.nf [false, true] rfl (subR rfl)⟩
     clear S h; rintro a w4 ⟨x4, x5, h, S⟩; rw [hj2] at h; clear hj2 j2
     refine then_n (f_region (lv S (rn_move (S.tm rfl)) rfl ?_)); clear S; intro a S
     refine lv S (rn_add (S.tm rfl) rfl) rfl ?_; clear S; intro a S
     refine lv S (rn_assign (S.tm rfl)) rfl ?_; clear S; intro a S
     refine l_done (then_n ?_)
     exact ⟨m1, ⟨x4, x5, W (x3 + 1), h, S.nf [true] rfl ⟨rfl, rfl, rfl, rfl, trivial⟩⟩, Nat.lt_succ_self _⟩
    ·replace h := iteF h hb2
     refine wp_exit (then_x (then_x (x_same (then_n ?_))))
     exact ⟨x1, x2, h, S.nf [true] rfl (subR rfl)⟩
  clear S h; rintro a w3 ⟨x1, x2, h, S⟩; rw [hj1] at h; clear hj1 j1
  refine then_n (f_seq (f_region (lv S (rn_move (S.tm rfl)) rfl ?_))); clear S; intro a S
  refine lv S (rn_move (S.tm rfl)) rfl ?_; clear S; intro a S
  obtain ⟨hc3, h⟩ := chkE h
  obtain ⟨u1, hu1, hr3⟩ := rn_subl (a := a) (x := .tmp 36) (y := .tmp 37) (ty := 37) sl_37 S (i := 0) rfl (S.tm rfl) (S.tm rfl) hc3
  refine lv S (hr3 _) rfl ?_; clear S; intro a S
  clear hr3
  refine l_clear (zl := x2) (zh := (x1.length : Int)) (z := (GRest.mk k_empty (GSlot.mk k_empty 0 (GWindow.mk 0 0)) (GSlot.mk k_empty 0 (GWindow.mk 0 0)) 0)) sl_37 rfl GRest.enc_ok S (i := 0) rfl hu1 (S.tm rfl) Tryz.zeroValue60 rfl ?_; clear S; intro w11 hk7 S
  refine l_done (then_n (f_seq (f_region (lv S (rn_move (S.tm rfl)) rfl ?_)))); clear S; intro a S
  refine lv S (rn_move (S.tm rfl)) rfl ?_; clear S; intro a S
  obtain ⟨hc4, h⟩ := chkE h
  obtain ⟨u2, hu2, hr4⟩ := rn_subh (a := a) (x := .tmp 39) (y' := .tmp 40) (ty := 37) sl_37 S (i := 0) rfl (S.tm rfl) (S.tm rfl) hc4
  refine lv S (hr4 _) rfl ?_; clear S; intro a S
  clear hr4
  refine lv S (rn_assign (S.tm rfl)) rfl ?_; clear S; intro a S
  refine l_done (then_n (wp_ret ?_))
  obtain ⟨S, hz2⟩ := S.ownCut (zh := x2) GRest.enc_ok (i := 0) rfl hu2
  obtain rfl := Option.some.inj h
  exact f_ret S Tryz.results38 rfl ⟨(S.holds _ (List.mem_of_getElem? (i := 0) rfl)), hz2⟩
theorem tumbref2_ShortOf_ok (w : World) (v_p_items : Value) (p_items : List GItem) (hs_p_items : Slc (view w []) 5 v_p_items (p_items.map GItem.enc)) (v_p_l : Value) (p_l : List GCall) (hs_p_l : Slc (view w []) 3 v_p_l (p_l.map GCall.enc)) (p_from : Int) (p_need : Int) (r : (List GRest)) (h : tumbref2_ShortOf p_items p_l p_from p_need = some r) :
    Calls Tryz.prog 20 [v_p_items, v_p_l, iV p_from, iV p_need].toArray w (Ret w [] fun τ v _ => OwnV τ 60 10 v r.length (r.flatMap GRest.enc)) := by
 refine f_enter [] [] Tryz.func20 rfl Tryz.ntmps20 rfl (by simp) (by simp [fps]) (by simp [fps]) fun a S => ?_
 unfold tumbref2_ShortOf at h
 replace S := S.nk [] [(0, v_p_items), (1, v_p_l), (2, iV p_from), (3, iV p_need)] [] rfl (subR rfl)
 refine f_seq (f_region (l_box S (S.tm rfl) (cs := [iV p_need]) rfl rfl ?_)); clear S; intro a w1 b1 hz1 hk1 S
 refine lv S (rn_assign rfl) rfl ?_; clear S; intro a S
 refine l_done (then_n (f_seq (f_region (lv S (rn_move (S.tm rfl)) rfl ?_)))); clear S; intro a S
 refine lv S (rn_move (S.tm rfl)) rfl ?_; clear S; intro a S
 refine lv S (rn_move (S.tm rfl)) rfl ?_; clear S; intro a S
 obtain ⟨r1, hr1, h⟩ := bindE h
 have hz2 := S.keep.size
 refine l_enter S (fun _ => run_call (vs := [v_p_items, v_p_l, iV p_from]) ⟨(S.tm rfl), (S.tm rfl), (S.tm rfl), trivial⟩ Tryz.call19) (tumbref2_RestsOf_ok _ v_p_items p_items (hs_p_items.mono (S.le_arg nil_sub)) v_p_l p_l (hs_p_l.mono (S.le_arg nil_sub)) p_from _ hr1) rfl ?_; clear S; intro v1 a w2 hv1 hk2 hn1 S
 replace S := S.take hn1 hz2 hv1
 refine lv S (rn_makeFunc (us := #[]) (xs := [].toArray) (ys := [.tmp 7].toArray) (by simp) (evA ⟨(S.tm rfl), trivial⟩ (vs := [.pointer (some ⟨b1, 0, none⟩)]))) rfl ?_; clear S; intro a S
 obtain ⟨r2, hr2, h⟩ := bindE h
 have hz3 := S.keep.size
 refine l_enterO 0 S rfl (fun v2 => .own v2 60 10 r2.length (r2.flatMap GRest.enc)) (fun _ => run_call (vs := [v1, .func (.func 56) #[] #[.pointer (some ⟨b1, 0, none⟩)]]) ⟨(S.tm rfl), (S.tm rfl), trivial⟩ Tryz.call38) (slices_DeleteFunc_Rest_tumbref2_ShortOf_c1_ok _ v1 r1 (S.holds _ (List.mem_of_getElem? (i := 0) rfl)) b1 p_need (S.blk_view (i := 1) rfl ((ne_fp (i := 0) (j := 1) (e := .own v1 60 10 r1.length (r1.flatMap GRest.enc)) (e' := .blk b1 [iV p_need] 3) S rfl rfl rfl) _ rfl)) _ hr2) rfl (fun _ _ _ h => h) ?_; clear S; intro v2 a w3 hv2 hk3 hn2 S
 clear hv2
 refine lv S (rn_assign (S.tm rfl)) rfl ?_; clear S; intro a S
 refine l_done (then_n (wp_ret ?_))
 obtain rfl := Option.some.inj h
 exact f_ret S Tryz.results20 rfl (own_retT S (i := 0) rfl rfl)
set_option maxRecDepth 20000 in
theorem slices_Index_Pair_ok (w : World) (v_p_s : Value) (p_s : List GPair) (hs_p_s : Slc (view w []) 2 v_p_s (p_s.map GPair.enc)) (p_v : GPair) (r : Int) (h : slices_Index_Pair p_s p_v = r) :
    Calls Tryz.prog 86 [v_p_s, .agg (GPair.enc p_v).toArray].toArray w (Ret w [] fun _ v _ => v = iV r) := by
 refine f_enter [] [] Tryz.func86 rfl Tryz.ntmps86 rfl (by simp) (by simp [fps]) (by simp [fps]) fun a S => ?_
 unfold slices_Index_Pair at h
 replace S := S.nk [] [(0, v_p_s), (1, .agg (GPair.enc p_v).toArray)] [] rfl (subR rfl)
 refine f_seq (f_region (l_box S (S.tm rfl) (cs := (GPair.enc p_v)) rfl rfl ?_)); clear S; intro a w1 b1 hz1 hk1 S
 refine lv S (rn_assign rfl) rfl ?_; clear S; intro a S
 refine l_done (then_n (f_seq (f_seq (f_region (lv S (rn_move (S.tm rfl)) rfl ?_))))); clear S; intro a S
 refine lv S (rn_lenT sl_41 (S.tm rfl) (slc_len hs_p_s)) rfl ?_; clear S; intro a S
 refine lv S (rn_move rfl) rfl ?_; clear S; intro a S
 refine l_done (then_n ?_)
 replace S := S.nk [.blk b1 (GPair.enc p_v) 63] [(0, v_p_s), (3, .pointer (some ⟨b1, 0, none⟩)), (7, iV (p_s.length : Int)), (8, iV 0)] [true] rfl (subR rfl)
 obtain ⟨j1, hj1, h⟩ := joinE h
 refine f_join (fun a w' => j1 = r ∧ Sx w [] nov [.blk b1 (GPair.enc p_v) 63] [] 19 a w') ?_ ?_
 ·refine wp_block (f_loop (fun (ys1 : List GPair) a w' => ∃ i1 : Nat, (∃ dn, p_s = dn ++ ys1 ∧ dn.length = i1) ∧ slices_Index_Pair_l1 p_v j1 ys1 i1 = r ∧ Sx w [] nov [.blk b1 (GPair.enc p_v) 63] [(0, v_p_s), (3, .pointer (some ⟨b1, 0, none⟩)), (7, iV (p_s.length : Int)), (8, iV (i1 : Int))] 19 a w') List.length p_s ⟨0, ⟨[], rfl, rfl⟩, h, S.nf [true] rfl (subR rfl)⟩ ?_)
  clear S h; rintro ys1 a w2 ⟨i1, ⟨dn, hd1, hi1⟩, h, S⟩
  cases ys1 with
  | nil =>
   rw [slices_Index_Pair_l1.eq_1] at h
   refine f_seq (f_region (lv S (rn_lss (S.tm rfl) (S.tm rfl)) rfl ?_)); clear S; intro a S
   refine l_done ?_
   replace S := S.nk [.blk b1 (GPair.enc p_v) 63] [(0, v_p_s), (3, .pointer (some ⟨b1, 0, none⟩)), (7, iV (p_s.length : Int)), (8, iV (i1 : Int)), (9, bV (decide ((i1 : Int) < (p_s.length : Int))))] [true] rfl (subR rfl)
   refine then_n (f_seq (wp_cond_false ((S.tm rfl).trans (congrArg Value.bool (rng_nil hd1 hi1))) (wp_exit (then_x (then_x (x_same ?_))))))
   refine then_n ?_
   exact ⟨h, S.nf [true] rfl trivial⟩
  | cons y1 ys1 =>
   rw [slices_Index_Pair_l1.eq_2] at h
   refine f_seq (f_region (lv S (rn_lss (S.tm rfl) (S.tm rfl)) rfl ?_)); clear S; intro a S
   refine l_done ?_
   replace S := S.nk [.blk b1 (GPair.enc p_v) 63] [(0, v_p_s), (3, .pointer (some ⟨b1, 0, none⟩)), (7, iV (p_s.length : Int)), (8, iV (i1 : Int)), (9, bV (decide ((i1 : Int) < (p_s.length : Int))))] [true] rfl (subR rfl)
   refine then_n (f_seq (wp_cond_true ((S.tm rfl).trans (congrArg Value.bool (rng_cons hd1 hi1))) (wp_skip (then_n (f_seq (wp_block ?_))))))
   refine f_seq (f_region (lv S (rn_move (S.tm rfl)) rfl ?_)); clear S; intro a S
   refine lv S (rn_assign (S.tm rfl)) rfl ?_; clear S; intro a S
   refine l_done (then_n (f_seq (d_region [] ([]) Tryz.mixed S rfl (by kernel_rfl) ?_))); clear S; intro w4 hk2 hsel S
   refine d_rest [0, 1, 2, 3, 4, 5] hsel (by kernel_rfl) rfl ?_
   clear hsel
   refine s_lv S rfl (rn_ldA Tryz.isAgg63 Tryz.sizeOf63 (off := 0) (o := 0) (part := (GPair.enc p_v)) rfl rfl (S.tm rfl) (S.cellsAt (i := 0) rfl)) rfl ?_; clear S; intro a S
   refine s_lv S rfl (rn_move (S.tm rfl)) rfl ?_; clear S; intro a S
   refine s_lv S rfl (rn_move (S.tm rfl)) rfl ?_; clear S; intro a S
   obtain ⟨b2, o1, hm1, hr1⟩ := rn_indexT (a := a) (x := .tmp 12) (y := .tmp 13) (ty := 0) sl_41 hs_p_s (get_mid hd1 hi1) rfl (S.tm rfl) (S.tm rfl)
   refine s_lv S rfl (hr1 _) rfl ?_; clear S; intro a S
   clear hr1
   refine s_lv S rfl (rn_ldA Tryz.isAgg63 Tryz.sizeOf63 (off := o1) (o := 0) (part := (GPair.enc y1)) rfl rfl (S.tm rfl) (hm1.at S.emb0)) rfl ?_; clear S; intro a S
   refine s_lv S rfl (rn_eql_63 (m := p_v) (n := y1) (S.tm rfl) (S.tm rfl)) rfl ?_; clear S; intro a S
   refine s_done ?_
   replace S := S.nk [.blk b1 (GPair.enc p_v) 63] [(0, v_p_s), (3, .pointer (some ⟨b1, 0, none⟩)), (5, iV (i1 : Int)), (7, iV (p_s.length : Int)), (8, iV (i1 : Int)), (16, bV (decide (p_v = y1)))] [true] rfl (subR rfl)
   refine then_n (f_cond (S.tm rfl) (fun hb1 => ?_) (fun hb1 => ?_))
   ·replace h := iteT h hb1
    refine f_seq (f_region (lv S (rn_move (S.tm rfl)) rfl ?_)); clear S; intro a S
    refine lv S (rn_assign (S.tm rfl)) rfl ?_; clear S; intro a S
    refine l_done (then_n (wp_ret (blk_r (then_r (then_r (blk_r ?_))))))
    refine then_r (then_r ?_)
    subst h
    exact f_ret S Tryz.results86 rfl rfl
   ·replace h := iteF h hb1
    refine wp_skip (blk_n (then_n (f_region (lv S (rn_add (S.tm rfl) rfl) rfl ?_)))); clear S; intro a S
    refine lv S (rn_move (S.tm rfl)) rfl ?_; clear S; intro a S
    refine l_done (then_n ?_)
    exact ⟨ys1, ⟨i1 + 1, ⟨_, (hd1).trans (List.append_cons _ _ _), by simp [hi1]⟩, h, S.nf [true] rfl ⟨rfl, rfl, rfl, (congrArg (fun z => some (Value.int .i64 z)) (rng_next hd1 hi1 (slc_max hs_p_s))), trivial⟩⟩, Nat.lt_succ_self _⟩
 clear S h; rintro a w3 ⟨h, S⟩; rw [hj1] at h; clear hj1 j1
 refine then_n (f_seq (f_region (lv S (rn_assign rfl) rfl ?_))); clear S; intro a S
 refine l_done (then_n (wp_ret ?_))
 subst h
 exact f_ret S Tryz.results86 rfl rfl
theorem slices_Contains_Pair_ok (w : World) (v_p_s : Value) (p_s : List GPair) (hs_p_s : Slc (view w []) 2 v_p_s (p_s.map GPair.enc)) (p_v : GPair) (r : Bool) (h : slices_Contains_Pair p_s p_v = r) :
    Calls Tryz.prog 57 [v_p_s, .agg (GPair.enc p_v).toArray].toArray w (Ret w [] fun _ v _ => v = bV r) := by
 refine f_enter [] [] Tryz.func57 rfl Tryz.ntmps57 rfl (by simp) (by simp [fps]) (by simp [fps]) fun a S => ?_
 unfold slices_Contains_Pair at h
 replace S := S.nk [] [(0, v_p_s), (1, .agg (GPair.enc p_v).toArray)] [] rfl (subR rfl)
 refine f_seq (f_region (l_box S (S.tm rfl) (cs := (GPair.enc p_v)) rfl rfl ?_)); clear S; intro a w1 b1 hz1 hk1 S
 refine lv S (rn_assign rfl) rfl ?_; clear S; intro a S
 refine l_done (then_n (f_seq (f_region (lv S (rn_move (S.tm rfl)) rfl ?_)))); clear S; intro a S
 refine lv S (rn_ldA Tryz.isAgg63 Tryz.sizeOf63 (off := 0) (o := 0) (part := (GPair.enc p_v)) rfl rfl (S.tm rfl) (S.cellsAt (i := 0) rfl)) rfl ?_; clear S; intro a S
 refine l_enter S (fun _ => run_call (vs := [v_p_s, .agg (GPair.enc p_v).toArray]) ⟨(S.tm rfl), (S.tm rfl), trivial⟩ Tryz.call86) (slices_Index_Pair_ok _ v_p_s p_s (hs_p_s.mono (S.le_arg nil_sub)) p_v _ rfl) rfl ?_; clear S; intro v1 a w2 hv1 hk2 hn1 S
 subst hv1
 refine lv S (rn_geq (S.tm rfl) rfl) rfl ?_; clear S; intro a S
 refine lv S (rn_assign (S.tm rfl)) rfl ?_; clear S; intro a S
 refine l_done (then_n (wp_ret ?_))
 subst h
 exact f_ret S Tryz.results57 rfl rfl
theorem tumbref2_BothOf_c1_ok (w : World) (p_a : GPair) (p_b : GPair) (r : Int) (h : tumbref2_BothOf_c1 p_a p_b = some r) :
    Calls Tryz.prog 58 [.agg (GPair.enc p_a).toArray, .agg (GPair.enc p_b).toArray].toArray w (Ret w [] fun _ v _ => v = iV r) := by
 refine f_enter [] [] Tryz.func58 rfl Tryz.ntmps58 rfl (by simp) (by simp [fps]) (by simp [fps]) fun a S => ?_
 unfold tumbref2_BothOf_c1 at h
 replace S := S.nk [] [(0, .agg (GPair.enc p_a).toArray), (1, .agg (GPair.enc p_b).toArray)] [] rfl (subR rfl)
 refine f_seq (f_region (l_box S (S.tm rfl) (cs := (GPair.enc p_a)) rfl rfl ?_)); clear S; intro a w1 b1 hz1 hk1 S
 refine l_box S (S.tm rfl) (cs := (GPair.enc p_b)) rfl rfl ?_; clear S; intro a w2 b2 hz2 hk2 S
 refine lv S (rn_assign rfl) rfl ?_; clear S; intro a S
 refine l_done (then_n (f_seq (f_region (lv S (rn_fld fa_63_0 (S.tm rfl)) rfl ?_)))); clear S; intro a S
 refine lv S (rn_load Tryz.isAgg9 (S.tm rfl) (S.cell (i := 1) rfl rfl)) rfl ?_; clear S; intro a S
 refine lv S (rn_fld fa_63_1 (S.tm rfl)) rfl ?_; clear S; intro a S
 refine lv S (rn_load Tryz.isAgg9 (S.tm rfl) (S.cell (i := 1) rfl rfl)) rfl ?_; clear S; intro a S
 refine l_buildSlice S Tryz.underlying75 Tryz.sizeOf9 Tryz.zeroValue9 rfl rfl (pv := [(0, sV p_a.Name), (1, sV p_a.Value)]) ⟨rfl, (S.tm rfl), rfl, (S.tm rfl), trivial⟩ (cs := [sV p_a.Name, sV p_a.Value]) (by kernel_rfl) rfl ?_; clear S; intro a w3 b3 hz3 hk3 S
 refine lv S (rn_fld fa_63_0 (S.tm rfl)) rfl ?_; clear S; intro a S
 refine lv S (rn_load Tryz.isAgg9 (S.tm rfl) (S.cell (i := 1) rfl rfl)) rfl ?_; clear S; intro a S
 refine lv S (rn_fld fa_63_1 (S.tm rfl)) rfl ?_; clear S; intro a S
 refine lv S (rn_load Tryz.isAgg9 (S.tm rfl) (S.cell (i := 1) rfl rfl)) rfl ?_; clear S; intro a S
 refine l_buildSlice S Tryz.underlying75 Tryz.sizeOf9 Tryz.zeroValue9 rfl rfl (pv := [(0, sV p_b.Name), (1, sV p_b.Value)]) ⟨rfl, (S.tm rfl), rfl, (S.tm rfl), trivial⟩ (cs := [sV p_b.Name, sV p_b.Value]) (by kernel_rfl) rfl ?_; clear S; intro a w4 b4 hz4 hk4 S
 obtain ⟨r1, hr1, h⟩ := bindE h
 refine l_enter S (fun _ => run_call (vs := [.slice (some ⟨b3, 0, none⟩) 2 2, .slice (some ⟨b4, 0, none⟩) 2 2]) ⟨(S.tm rfl), (S.tm rfl), trivial⟩ Tryz.call59) (slices_Compare_string_ok _ (.slice (some ⟨b3, 0, none⟩) 2 2) [p_a.Name, p_a.Value] (lit_slcT enc_str S (i := 1) rfl rfl rfl rfl ((ne_nil (e' := .blk b3 [sV p_a.Name, sV p_a.Value] 9)) _ rfl)) (.slice (some ⟨b4, 0, none⟩) 2 2) [p_b.Name, p_b.Value] (lit_slcT enc_str S (i := 0) rfl rfl rfl rfl ((ne_nil (e' := .blk b4 [sV p_b.Name, sV p_b.Value] 9)) _ rfl)) _ hr1) rfl ?_; clear S; intro v1 a w5 hv1 hk5 hn1 S
 subst hv1
 refine lv S (rn_assign (S.tm rfl)) rfl ?_; clear S; intro a S
 refine l_done ?_
 replace S := S.nk [] [(4, iV r1)] [false, false, false, false] rfl ⟨rfl, trivial⟩
 refine then_n (wp_ret ?_)
 obtain rfl := Option.some.inj h
 exact f_ret S Tryz.results58 rfl rfl
set_option maxRecDepth 20000 in
theorem slices_insertionSortCmpFunc_Pair_tumbref2_BothOf_c1_ok (w : World) (v_p_data : Value) (p_data : List GPair) (hb_p_data : (LEnt.own v_p_data 63 2 p_data.length (p_data.flatMap GPair.enc)).holds w) (p_a : Int) (p_b : Int) (r : (List GPair)) (h : slices_insertionSortCmpFunc_Pair_tumbref2_BothOf_c1 p_data p_a p_b = some r) :
    Calls Tryz.prog 100 [v_p_data, iV p_a, iV p_b, .func (.func 58) #[] #[]].toArray w (Ret w (v_p_data.ownBlock.toList) fun _ v w' => (LEnt.own v_p_data 63 2 r.length (r.flatMap GPair.enc)).holds w' ∧ v = .tuple #[]) := by
 refine f_enter (v_p_data.ownBlock.toList) [.own v_p_data 63 2 p_data.length (p_data.flatMap GPair.enc)] Tryz.func100 rfl Tryz.ntmps100 rfl (fun e he => by simp only [List.mem_singleton] at he; subst he; exact hb_p_data) (fps_one_nodup _) (fps_one_sub _) fun a S => ?_
 unfold slices_insertionSortCmpFunc_Pair_tumbref2_BothOf_c1 at h
 replace S := S.nk [.own v_p_data 63 2 p_data.length (p_data.flatMap GPair.enc)] [(0, v_p_data), (1, iV p_a), (2, iV p_b), (3, .func (.func 58) #[] #[])] [true] rfl (subR rfl)
 refine f_seq (f_region (lv S (rn_move (S.tm rfl)) rfl ?_)); clear S; intro a S
 refine lv S (rn_add (S.tm rfl) rfl) rfl ?_; clear S; intro a S
 refine lv S (rn_assign (S.tm rfl)) rfl ?_; clear S; intro a S
 refine l_done (then_n ?_)
 replace S := S.nk [.own v_p_data 63 2 p_data.length (p_data.flatMap GPair.enc)] [(0, v_p_data), (1, iV p_a), (2, iV p_b), (3, .func (.func 58) #[] #[]), (8, iV (W (p_a + 1)))] [true] rfl (subR rfl)
 obtain ⟨j1, hj1, h⟩ := joinE h
 refine f_join (fun a w' => ∃ x1 : List GPair, j1 x1 = some r ∧ Sx w (v_p_data.ownBlock.toList) nov [.own v_p_data 63 2 x1.length (x1.flatMap GPair.enc)] [] 53 a w') ?_ ?_
 ·refine wp_block (f_loop (fun (m1 : Nat) a w' => ∃ x1 : List GPair, ∃ x2 : Int, slices_insertionSortCmpFunc_Pair_tumbref2_BothOf_c1_l1 p_b p_a j1 m1 x1 x2 = some r ∧ Sx w (v_p_data.ownBlock.toList) nov [.own v_p_data 63 2 x1.length (x1.flatMap GPair.enc)] [(0, v_p_data), (1, iV p_a), (2, iV p_b), (3, .func (.func 58) #[] #[]), (8, iV x2)] 53 a w') id ((p_b - (W (p_a + 1))).toNat + 2) ⟨p_data, W (p_a + 1), h, S.nf [true] rfl (subR rfl)⟩ ?_)
  clear S h; rintro m1 a w1 ⟨x1, x2, h, S⟩
  cases m1 with
  | zero => rw [slices_insertionSortCmpFunc_Pair_tumbref2_BothOf_c1_l1.eq_1] at h; cases h
  | succ m1 =>
   rw [slices_insertionSortCmpFunc_Pair_tumbref2_BothOf_c1_l1.eq_2] at h
   refine f_seq (f_seq (f_region (lv S (rn_move (S.tm rfl)) rfl ?_))); clear S; intro a S
   refine lv S (rn_move (S.tm rfl)) rfl ?_; clear S; intro a S
   refine lv S (rn_lss (S.tm rfl) (S.tm rfl)) rfl ?_; clear S; intro a S
   refine l_done (then_n (f_cond (S.tm rfl) (fun hb1 => ?_) (fun hb1 => ?_)))
   ·replace h := iteT h hb1
    refine wp_skip (then_n (f_seq (wp_block (f_seq (f_region (lv S (rn_move (S.tm rfl)) rfl ?_)))))); clear S; intro a S
    refine lv S (rn_assign (S.tm rfl)) rfl ?_; clear S; intro a S
    refine l_done (then_n ?_)
    replace S := S.nk [.own v_p_data 63 2 x1.length (x1.flatMap GPair.enc)] [(0, v_p_data), (1, iV p_a), (2, iV p_b), (3, .func (.func 58) #[] #[]), (8, iV x2), (9, iV x2)] [true] rfl (subR rfl)
    obtain ⟨j2, hj2, h⟩ := joinE h
    refine f_join (fun a w' => ∃ x3 : List GPair, j2 x3 = some r ∧ Sx w (v_p_data.ownBlock.toList) nov [.own v_p_data 63 2 x3.length (x3.flatMap GPair.enc)] [(0, v_p_data), (1, iV p_a), (2, iV p_b), (3, .func (.func 58) #[] #[]), (8, iV x2)] 53 a w') ?_ ?_
    ·refine wp_block (f_loop (fun (m2 : Nat) a w' => ∃ x3 : List GPair, ∃ x4 : Int, slices_insertionSortCmpFunc_Pair_tumbref2_BothOf_c1_l2 p_a j2 m2 x3 x4 = some r ∧ Sx w (v_p_data.ownBlock.toList) nov [.own v_p_data 63 2 x3.length (x3.flatMap GPair.enc)] [(0, v_p_data), (1, iV p_a), (2, iV p_b), (3, .func (.func 58) #[] #[]), (8, iV x2), (9, iV x4)] 53 a w') id ((x2 - p_a).toNat + 2) ⟨x1, x2, h, S.nf [true] rfl (subR rfl)⟩ ?_)
     clear S h; rintro m2 a w3 ⟨x3, x4, h, S⟩
     cases m2 with
     | zero => rw [slices_insertionSortCmpFunc_Pair_tumbref2_BothOf_c1_l2.eq_1] at h; cases h
     | succ m2 =>
      rw [slices_insertionSortCmpFunc_Pair_tumbref2_BothOf_c1_l2.eq_2] at h
      refine f_seq (f_seq ?_)
      obtain ⟨j3, hj3, h⟩ := joinE h
      refine f_join (fun a w' => ∃ x5 : Bool, j3 x5 = some r ∧ Sx w (v_p_data.ownBlock.toList) nov [.own v_p_data 63 2 x3.length (x3.flatMap GPair.enc)] [(0, v_p_data), (1, iV p_a), (2, iV p_b), (3, .func (.func 58) #[] #[]), (8, iV x2), (9, iV x4), (34, bV x5)] 53 a w') ?_ ?_
      ·rcases Bool.eq_false_or_eq_true (decide (p_a < x4)) with hb2 | hb2
       ·replace h := iteT h hb2
        obtain ⟨hc1, h⟩ := chkE h
        obtain ⟨hc2, h⟩ := chkE h
        obtain ⟨r1, hr3, h⟩ := bindE h
        refine d_region [] ([]) Tryz.mixed S rfl (by kernel_rfl) ?_; clear S; intro w7 hk2 hsel S
        refine d_quiet 0 S hsel rfl rfl rfl (by kernel_rfl) (by kernel_rfl) rfl (fun _ hw => (rn_move (S.tm rfl))) ?_; clear S; intro a S
        refine d_quiet 1 S hsel rfl rfl rfl (by kernel_rfl) (by kernel_rfl) rfl (fun _ hw => (rn_move (S.tm rfl))) ?_; clear S; intro a S
        refine d_quiet 2 S hsel rfl rfl rfl (by kernel_rfl) (by kernel_rfl) rfl (fun _ hw => (rn_gtr (S.tm rfl) (S.tm rfl))) ?_; clear S; intro a S
        refine d_quiet 3 S hsel rfl rfl rfl (by kernel_rfl) (by kernel_rfl) rfl (fun _ hw => (rn_move (S.tm rfl))) ?_; clear S; intro a S
        refine d_quiet_g 4 S hsel rfl rfl rfl rfl hb2 rfl rfl (by kernel_rfl) (by kernel_rfl) rfl (fun _ hw => (rn_move (S.tm rfl))) ?_; clear S; intro a S
        refine d_quiet_g 5 S hsel rfl rfl rfl rfl hb2 rfl rfl (by kernel_rfl) (by kernel_rfl) rfl (fun _ hw => (rn_move (S.tm rfl))) ?_; clear S; intro a S
        refine d_quiet_g 6 S hsel rfl rfl rfl rfl hb2 rfl rfl (by kernel_rfl) (by kernel_rfl) rfl (fun _ hw => (rn_move (S.tm rfl))) ?_; clear S; intro a S
        obtain ⟨b3, hg3, hr4⟩ := rn_indexS (a := a) (x := .tmp 23) (y := .tmp 24) (ty := 0) sl_41 GPair.enc_ok S (i := 0) rfl (inB_get hc1).1 (inB_get hc1).2 (S.tm rfl) (S.tm rfl)
        refine d_quiet_g 7 S hsel rfl rfl rfl rfl hb2 rfl rfl (by kernel_rfl) (by kernel_rfl) rfl (fun _ hw => (hr4 _)) ?_; clear S; intro a S
        clear hr4
        refine d_quiet_g 8 S hsel rfl rfl rfl rfl hb2 rfl rfl (by kernel_rfl) (by kernel_rfl) rfl (fun _ hw => (rn_ldA Tryz.isAgg63 Tryz.sizeOf63 (off := x4.toNat * 2) (o := 0) (part := (GPair.enc (nth x3 x4))) rfl rfl (S.tm rfl) ((own_mem GPair.enc_ok S (i := 0) rfl hg3 (inB_get hc1).1 (ne_nil (e' := .own v_p_data 63 2 x3.length (x3.flatMap GPair.enc)))).kept hw))) ?_; clear S; intro a S
        refine d_quiet_g 9 S hsel rfl rfl rfl rfl hb2 rfl rfl (by kernel_rfl) (by kernel_rfl) rfl (fun _ hw => (rn_move (S.tm rfl))) ?_; clear S; intro a S
        refine d_quiet_g 10 S hsel rfl rfl rfl rfl hb2 rfl rfl (by kernel_rfl) (by kernel_rfl) rfl (fun _ hw => (rn_move (S.tm rfl))) ?_; clear S; intro a S
        refine d_quiet_g 11 S hsel rfl rfl rfl rfl hb2 rfl rfl (by kernel_rfl) (by kernel_rfl) rfl (fun _ hw => (rn_sub (S.tm rfl) rfl)) ?_; clear S; intro a S
        obtain ⟨b4, hg4, hr5⟩ := rn_indexS (a := a) (x := .tmp 27) (y := .tmp 29) (ty := 0) sl_41 GPair.enc_ok S (i := 0) rfl (inB_get hc2).1 (inB_get hc2).2 (S.tm rfl) (S.tm rfl)
        refine d_quiet_g 12 S hsel rfl rfl rfl rfl hb2 rfl rfl (by kernel_rfl) (by kernel_rfl) rfl (fun _ hw => (hr5 _)) ?_; clear S; intro a S
        clear hr5
        refine d_quiet_g 13 S hsel rfl rfl rfl rfl hb2 rfl rfl (by kernel_rfl) (by kernel_rfl) rfl (fun _ hw => (rn_ldA Tryz.isAgg63 Tryz.sizeOf63 (off := ((W (x4 - 1)).toNat) * 2) (o := 0) (part := (GPair.enc (nth x3 (W (x4 - 1))))) rfl rfl (S.tm rfl) ((own_mem GPair.enc_ok S (i := 0) rfl hg4 (inB_get hc2).1 (ne_nil (e' := .own v_p_data 63 2 x3.length (x3.flatMap GPair.enc)))).kept hw))) ?_; clear S; intro a S
        refine d_loud1 14 (by kernel_rfl) rfl (l_want S rfl rfl rfl hb2 (l_enter S (fun _ => run_callV (cap := []) (S.tm rfl) (vs := [.agg (GPair.enc (nth x3 x4)).toArray, .agg (GPair.enc (nth x3 (W (x4 - 1)))).toArray]) ⟨(S.tm rfl), (S.tm rfl), trivial⟩ Tryz.call58) (tumbref2_BothOf_c1_ok _ (nth x3 x4) (nth x3 (W (x4 - 1))) _ hr3) rfl ?_)); clear S; intro v2 a w8 hv2 hk3 hn2 S
        subst hv2
        refine l_done (d_next hk3 (d_rest [15, 16] hsel (by kernel_rfl) rfl ?_))
        clear hsel
        refine s_want S rfl rfl rfl rfl hb2 (s_lv0 S (rn_lss (S.tm rfl) rfl) rfl ?_); clear S; intro a S
        refine s_lv S rfl (rn_pick_b hb2 (S.tm rfl) (S.tm rfl)) rfl ?_; clear S; intro a S
        refine s_done ?_
        replace S := S.nk [.own v_p_data 63 2 x3.length (x3.flatMap GPair.enc)] [(0, v_p_data), (1, iV p_a), (2, iV p_b), (3, .func (.func 58) #[] #[]), (8, iV x2), (9, iV x4), (22, .func (.func 58) #[] #[]), (23, v_p_data), (24, iV x4), (25, .pointer (some ⟨b3, x4.toNat * 2, none⟩)), (26, .agg (GPair.enc (nth x3 x4)).toArray), (27, v_p_data), (28, iV x4), (29, iV (W (x4 - 1))), (30, .pointer (some ⟨b4, ((W (x4 - 1)).toNat) * 2, none⟩)), (31, .agg (GPair.enc (nth x3 (W (x4 - 1)))).toArray), (32, iV r1), (33, bV (decide (r1 < 0))), (34, bV (decide (r1 < 0)))] [true] rfl (subR rfl)
        refine then_n ?_
        exact ⟨decide (r1 < 0), h, S.nf [true] rfl (subR rfl)⟩
       ·replace h := iteF h hb2
        refine d_region [] ([]) Tryz.mixed S rfl (by kernel_rfl) ?_; clear S; intro w9 hk4 hsel S
        refine d_rest [0, 1, 2, 3, 4, 5, 6, 7, 8, 9, 10, 11, 12, 13, 14, 15, 16] hsel (by kernel_rfl) rfl ?_
        clear hsel
        refine s_lv S rfl (rn_move (S.tm rfl)) rfl ?_; clear S; intro a S
        refine s_lv S rfl (rn_move (S.tm rfl)) rfl ?_; clear S; intro a S
        refine s_lv S rfl (rn_gtr (S.tm rfl) (S.tm rfl)) rfl ?_; clear S; intro a S
        refine s_lv S rfl (rn_move (S.tm rfl)) rfl ?_; clear S; intro a S
        iterate 12 (refine s_skip S rfl rfl rfl rfl (neq_f hb2) rfl ?_ rfl; clear S; intro a S)
        refine s_lv S rfl (rn_pick_c hb2 (S.tm rfl) rfl) rfl ?_; clear S; intro a S
        refine s_done ?_
        replace S := S.nk [.own v_p_data 63 2 x3.length (x3.flatMap GPair.enc)] [(0, v_p_data), (1, iV p_a), (2, iV p_b), (3, .func (.func 58) #[] #[]), (8, iV x2), (9, iV x4), (34, bV false)] [true] rfl (subR rfl)
        refine then_n ?_
        exact ⟨false, h, S.nf [true] rfl (subR rfl)⟩
      clear S h; rintro a w5 ⟨x5, h, S⟩; rw [hj3] at h; clear hj3 j3
      refine then_n (f_cond (S.tm rfl) (fun hb3 => ?_) (fun hb3 => ?_))
      ·replace h := iteT h hb3
       refine wp_skip (then_n (f_seq (wp_block ?_)))
       obtain ⟨hc3, h⟩ := chkE h
       obtain ⟨hc4, h⟩ := chkE h
       obtain ⟨hc5, h⟩ := chkE h
       obtain ⟨hc6, h⟩ := chkE h
       refine d_region [15, 17] ([]) Tryz.mixed S rfl (by kernel_rfl) ?_; clear S; intro w14 hk9 hsel S
       refine d_pure 0 S hsel rfl rfl (by kernel_rfl) (by kernel_rfl) rfl (fun _ => (rn_move (S.tm rfl))) ?_; clear S; intro a S
       refine d_pure 1 S hsel rfl rfl (by kernel_rfl) (by kernel_rfl) rfl (fun _ => (rn_move (S.tm rfl))) ?_; clear S; intro a S
       refine d_pure 2 S hsel rfl rfl (by kernel_rfl) (by kernel_rfl) rfl (fun _ => (rn_move (S.tm rfl))) ?_; clear S; intro a S
       refine d_pure 3 S hsel rfl rfl (by kernel_rfl) (by kernel_rfl) rfl (fun _ => (rn_move (S.tm rfl))) ?_; clear S; intro a S
       refine d_pure 4 S hsel rfl rfl (by kernel_rfl) (by kernel_rfl) rfl (fun _ => (rn_sub (S.tm rfl) rfl)) ?_; clear S; intro a S
       refine d_pure 5 S hsel rfl rfl (by kernel_rfl) (by kernel_rfl) rfl (fun _ => (rn_move (S.tm rfl))) ?_; clear S; intro a S
       refine d_pure 6 S hsel rfl rfl (by kernel_rfl) (by kernel_rfl) rfl (fun _ => (rn_move (S.tm rfl))) ?_; clear S; intro a S
       refine d_pure 7 S hsel rfl rfl (by kernel_rfl) (by kernel_rfl) rfl (fun _ => (rn_sub (S.tm rfl) rfl)) ?_; clear S; intro a S
       obtain ⟨b9, hg9, hr10⟩ := rn_indexS (a := a) (x := .tmp 42) (y := .tmp 44) (ty := 0) sl_41 GPair.enc_ok S (i := 0) rfl (inB_get hc3).1 (inB_get hc3).2 (S.tm rfl) (S.tm rfl)
       refine d_pure 8 S hsel rfl rfl (by kernel_rfl) (by kernel_rfl) rfl (fun _ => (hr10 _)) ?_; clear S; intro a S
       clear hr10
       refine d_quiet 9 S hsel rfl (by kernel_rfl) (by kernel_rfl) (by kernel_rfl) (by kernel_rfl) rfl (fun _ hw => (rn_ldA Tryz.isAgg63 Tryz.sizeOf63 (off := ((W (x4 - 1)).toNat) * 2) (o := 0) (part := (GPair.enc (nth x3 (W (x4 - 1))))) rfl rfl (S.tm rfl) ((own_mem GPair.enc_ok S (i := 0) rfl hg9 (inB_get hc3).1 (ne_nil (e' := .own v_p_data 63 2 x3.length (x3.flatMap GPair.enc)))).kept hw))) ?_; clear S; intro a S
       refine d_pure 10 S hsel rfl rfl (by kernel_rfl) (by kernel_rfl) rfl (fun _ => (rn_move (S.tm rfl))) ?_; clear S; intro a S
       refine d_pure 11 S hsel rfl rfl (by kernel_rfl) (by kernel_rfl) rfl (fun _ => (rn_move (S.tm rfl))) ?_; clear S; intro a S
       obtain ⟨b10, hg10, hr11⟩ := rn_indexS (a := a) (x := .tmp 47) (y := .tmp 48) (ty := 0) sl_41 GPair.enc_ok S (i := 0) rfl (inB_get hc4).1 (inB_get hc4).2 (S.tm rfl) (S.tm rfl)
       refine d_pure 12 S hsel rfl rfl (by kernel_rfl) (by kernel_rfl) rfl (fun _ => (hr11 _)) ?_; clear S; intro a S
       clear hr11
       refine d_quiet 13 S hsel rfl (by kernel_rfl) (by kernel_rfl) (by kernel_rfl) (by kernel_rfl) rfl (fun _ hw => (rn_ldA Tryz.isAgg63 Tryz.sizeOf63 (off := x4.toNat * 2) (o := 0) (part := (GPair.enc (nth x3 x4))) rfl rfl (S.tm rfl) ((own_mem GPair.enc_ok S (i := 0) rfl hg10 (inB_get hc4).1 (ne_nil (e' := .own v_p_data 63 2 x3.length (x3.flatMap GPair.enc)))).kept hw))) ?_; clear S; intro a S
       obtain ⟨b11, hg11, hr12⟩ := rn_indexS (a := a) (x := .tmp 37) (y := .tmp 38) (ty := 0) sl_41 GPair.enc_ok S (i := 0) rfl (inB_get hc5).1 (inB_get hc5).2 (S.tm rfl) (S.tm rfl)
       refine d_pure 14 S hsel rfl rfl (by kernel_rfl) (by kernel_rfl) rfl (fun _ => (hr12 _)) ?_; clear S; intro a S
       clear hr12
       refine d_loudB 15 (v_p_data.ownBlock.toList) rfl (by kernel_rfl) rfl (l_storeO (c := 0) (j := x4.toNat) (nth x3 (W (x4 - 1))) GPair.enc_ok S (S.tm rfl) (S.tm rfl) (i := 0) rfl hg11 (inB_get hc5).1 Tryz.sizeOf63 (vs := [sV ((nth x3 (W (x4 - 1))).Name), sV ((nth x3 (W (x4 - 1))).Value)]) rfl rfl rfl rfl rfl ?_); clear S; intro w16 hk11 S
       refine l_done (d_nextB ?_)
       obtain ⟨b12, hg12, hr13⟩ := rn_indexS (a := a) (x := .tmp 39) (y := .tmp 41) (ty := 0) sl_41 GPair.enc_ok S (i := 0) rfl (inB_get hc6).1 (inB_get hc6).2 (S.tm rfl) (S.tm rfl)
       refine d_quiet 16 S hsel rfl rfl rfl (by kernel_rfl) (by kernel_rfl) rfl (fun _ hw => (hr13 _)) ?_; clear S; intro a S
       clear hr13
       refine d_loud1 17 (by kernel_rfl) rfl (l_storeO (c := 0) (j := (W (x4 - 1)).toNat) (nth x3 x4) GPair.enc_ok S (S.tm rfl) (S.tm rfl) (i := 0) rfl hg12 (inB_get hc6).1 Tryz.sizeOf63 (vs := [sV ((nth x3 x4).Name), sV ((nth x3 x4).Value)]) rfl rfl rfl rfl rfl ?_); clear S; intro w18 hk13 S
       refine l_done (d_next hk13 (d_end (by kernel_rfl) ?_))
       clear hsel
       replace S := S.nk [.own v_p_data 63 2 ((x3.set x4.toNat (nth x3 (W (x4 - 1)))).set ((W (x4 - 1)).toNat) (nth x3 x4)).length (((x3.set x4.toNat (nth x3 (W (x4 - 1)))).set ((W (x4 - 1)).toNat) (nth x3 x4)).flatMap GPair.enc)] [(0, v_p_data), (1, iV p_a), (2, iV p_b), (3, .func (.func 58) #[] #[]), (8, iV x2), (9, iV x4)] [true] rfl (subR rfl)
       refine blk_n (then_n (f_region (lv S (rn_move (S.tm rfl)) rfl ?_))); clear S; intro a S
       refine lv S (rn_sub (S.tm rfl) rfl) rfl ?_; clear S; intro a S
       refine lv S (rn_assign (S.tm rfl)) rfl ?_; clear S; intro a S
       refine l_done (then_n ?_)
       exact ⟨m2, ⟨((x3.set x4.toNat (nth x3 (W (x4 - 1)))).set ((W (x4 - 1)).toNat) (nth x3 x4)), W (x4 - 1), h, S.nf [true] rfl ⟨rfl, rfl, rfl, rfl, rfl, rfl, trivial⟩⟩, Nat.lt_succ_self _⟩
      ·replace h := iteF h hb3
       refine wp_exit (then_x (then_x (x_same (then_n ?_))))
       exact ⟨x3, h, S.nf [true] rfl (subR rfl)⟩
    clear S h; rintro a w4 ⟨x3, h, S⟩; rw [hj2] at h; clear hj2 j2
    refine blk_n (then_n (f_region (lv S (rn_move (S.tm rfl)) rfl ?_))); clear S; intro a S
    refine lv S (rn_add (S.tm rfl) rfl) rfl ?_; clear S; intro a S
    refine lv S (rn_assign (S.tm rfl)) rfl ?_; clear S; intro a S
    refine l_done (then_n ?_)
    exact ⟨m1, ⟨x3, W (x2 + 1), h, S.nf [true] rfl ⟨rfl, rfl, rfl, rfl, rfl, trivial⟩⟩, Nat.lt_succ_self _⟩
   ·replace h := iteF h hb1
    refine wp_exit (then_x (then_x (x_same (then_n ?_))))
    exact ⟨x1, h, S.nf [true] rfl trivial⟩
 clear S h; rintro a w2 ⟨x1, h, S⟩; rw [hj1] at h; clear hj1 j1
 obtain rfl := Option.some.inj h
 exact f_ret0 S Tryz.results100 ⟨(S.holds _ (List.mem_of_getElem? (i := 0) rfl)), rfl⟩
theorem slices_pdqsortCmpFunc_Pair_tumbref2_BothOf_c1_ok (w : World) (v_p_data : Value) (p_data : List GPair) (hb_p_data : (LEnt.own v_p_data 63 2 p_data.length (p_data.flatMap GPair.enc)).holds w) (p_a : Int) (p_b : Int) (p_limit : Int) (r : (List GPair)) (h : slices_pdqsortCmpFunc_Pair_tumbref2_BothOf_c1 p_data p_a p_b p_limit = some r) :
    Calls Tryz.prog 77 [v_p_data, iV p_a, iV p_b, iV p_limit, .func (.func 58) #[] #[]].toArray w (Ret w (v_p_data.ownBlock.toList) fun _ v w' => (LEnt.own v_p_data 63 2 r.length (r.flatMap GPair.enc)).holds w' ∧ v = .tuple #[]) := by
 refine f_enter (v_p_data.ownBlock.toList) [.own v_p_data 63 2 p_data.length (p_data.flatMap GPair.enc)] Tryz.func77 rfl Tryz.ntmps77 rfl (fun e he => by simp only [List.mem_singleton] at he; subst he; exact hb_p_data) (fps_one_nodup _) (fps_one_sub _) fun a S => ?_
 unfold slices_pdqsortCmpFunc_Pair_tumbref2_BothOf_c1 at h
 replace S := S.nk [.own v_p_data 63 2 p_data.length (p_data.flatMap GPair.enc)] [(0, v_p_data), (1, iV p_a), (2, iV p_b), (3, iV p_limit), (4, .func (.func 58) #[] #[])] [true] rfl (subR rfl)
 refine f_seq (f_region (lv S (rn_assign rfl) rfl ?_)); clear S; intro a S
 refine l_done (then_n (f_seq (f_region (lv S (rn_assign rfl) rfl ?_)))); clear S; intro a S
 refine l_done (then_n ?_)
 replace S := S.nk [.own v_p_data 63 2 p_data.length (p_data.flatMap GPair.enc)] [(0, v_p_data), (1, iV p_a), (2, iV p_b), (3, iV p_limit), (4, .func (.func 58) #[] #[]), (10, bV true)] [true] rfl (subR rfl)
 refine f_join (fun a w' => False) ?_ ?_
 ·refine wp_block (f_loop (fun (m1 : Nat) a w' => ∃ x1 : Int, ∃ x2 : Int, ∃ x3 : Int, ∃ x4 : Bool, slices_pdqsortCmpFunc_Pair_tumbref2_BothOf_c1_l1 p_data m1 x1 x2 x3 x4 = some r ∧ Sx w (v_p_data.ownBlock.toList) nov [.own v_p_data 63 2 p_data.length (p_data.flatMap GPair.enc)] [(0, v_p_data), (1, iV x1), (2, iV x2), (3, iV x3), (4, .func (.func 58) #[] #[]), (10, bV x4)] 148 a w') id 4611686018427387904 ⟨p_a, p_b, p_limit, true, h, S.nf [true] rfl (subR rfl)⟩ ?_)
  clear S h; rintro m1 a w1 ⟨x1, x2, x3, x4, h, S⟩
  cases m1 with
  | zero => rw [slices_pdqsortCmpFunc_Pair_tumbref2_BothOf_c1_l1.eq_1] at h; cases h
  | succ m1 =>
   rw [slices_pdqsortCmpFunc_Pair_tumbref2_BothOf_c1_l1.eq_2] at h
   refine wp_block (f_seq (f_region (lv S (rn_move (S.tm rfl)) rfl ?_))); clear S; intro a S
   refine lv S (rn_move (S.tm rfl)) rfl ?_; clear S; intro a S
   refine lv S (rn_sub (S.tm rfl) (S.tm rfl)) rfl ?_; clear S; intro a S
   refine lv S (rn_assign (S.tm rfl)) rfl ?_; clear S; intro a S
   refine l_done (then_n (f_seq (f_seq (f_region (lv S (rn_move (S.tm rfl)) rfl ?_))))); clear S; intro a S
   refine lv S (rn_leq (S.tm rfl) rfl) rfl ?_; clear S; intro a S
   refine l_done (then_n (f_cond (S.tm rfl) (fun hb1 => ?_) (fun hb1 => ?_)))
   ·replace h := iteT h hb1
    refine f_seq (f_region (lv S (rn_move (S.tm rfl)) rfl ?_)); clear S; intro a S
    iterate 3 (refine lv S (rn_move (S.tm rfl)) rfl ?_; clear S; intro a S)
    obtain ⟨r1, hr1, h⟩ := bindE h
    refine l_enterO 0 S rfl (fun _ => .own v_p_data 63 2 r1.length (r1.flatMap GPair.enc)) (fun _ => run_call (vs := [v_p_data, iV x1, iV x2, .func (.func 58) #[] #[]]) ⟨(S.tm rfl), (S.tm rfl), (S.tm rfl), (S.tm rfl), trivial⟩ Tryz.call100) (slices_insertionSortCmpFunc_Pair_tumbref2_BothOf_c1_ok _ v_p_data p_data (S.holds _ (List.mem_of_getElem? (i := 0) rfl)) x1 x2 _ hr1) rfl (fun _ _ _ h => ⟨h.1, fun _ hc => hc⟩) ?_; clear S; intro v1 a w3 hv1 hk1 hn1 S
    replace hv1 := hv1.2
    subst hv1
    refine l_done ?_
    replace S := S.nk [.own v_p_data 63 2 r1.length (r1.flatMap GPair.enc)] [] [true] rfl trivial
    refine then_n (wp_ret (then_r (blk_r (then_r (blk_r (then_r ?_))))))
    obtain rfl := Option.some.inj h
    exact f_ret0 S Tryz.results77 ⟨(S.holds _ (List.mem_of_getElem? (i := 0) rfl)), rfl⟩
   ·replace h := iteF h hb1
    refine wp_skip (then_n (f_seq (f_seq (f_region (lv S (rn_move (S.tm rfl)) rfl ?_))))); clear S; intro a S
    refine lv S (rn_eql (S.tm rfl) rfl) rfl ?_; clear S; intro a S
    refine l_done (then_n (f_cond (S.tm rfl) (fun hb2 => ?_) (fun hb2 => ?_)))
    ·replace h := iteT h hb2
     refine f_seq ?_
     cases h
    ·replace h := iteF h hb2
     refine wp_skip (then_n (f_seq (f_seq (f_region (lv S (rn_move (S.tm rfl)) rfl ?_))))); clear S; intro a S
     refine lv S (rn_not (S.tm rfl)) rfl ?_; clear S; intro a S
     refine l_done ?_
     replace S := S.nk [.own v_p_data 63 2 p_data.length (p_data.flatMap GPair.enc)] [(39, bV (!x4))] [true] rfl ⟨rfl, trivial⟩
     refine then_n (f_cond (S.tm rfl) (fun hb3 => ?_) (fun hb3 => ?_))
     ·replace h := iteT h hb3
      refine f_seq ?_
      cases h
     ·replace h := iteF h hb3
      refine wp_skip (then_n (f_seq ?_))
      cases h
 exact fun _ _ h => h.elim
theorem slices_SortFunc_Pair_tumbref2_BothOf_c1_ok (w : World) (v_p_x : Value) (p_x : List GPair) (hb_p_x : (LEnt.own v_p_x 63 2 p_x.length (p_x.flatMap GPair.enc)).holds w) (r : (List GPair)) (h : slices_SortFunc_Pair_tumbref2_BothOf_c1 p_x = some r) :
    Calls Tryz.prog 40 [v_p_x, .func (.func 58) #[] #[]].toArray w (Ret w (v_p_x.ownBlock.toList) fun _ v w' => (LEnt.own v_p_x 63 2 r.length (r.flatMap GPair.enc)).holds w' ∧ v = .tuple #[]) := by
 refine f_enter (v_p_x.ownBlock.toList) [.own v_p_x 63 2 p_x.length (p_x.flatMap GPair.enc)] Tryz.func40 rfl Tryz.ntmps40 rfl (fun e he => by simp only [List.mem_singleton] at he; subst he; exact hb_p_x) (fps_one_nodup _) (fps_one_sub _) fun a S => ?_
 unfold slices_SortFunc_Pair_tumbref2_BothOf_c1 at h
 replace S := S.nk [.own v_p_x 63 2 p_x.length (p_x.flatMap GPair.enc)] [(0, v_p_x), (1, .func (.func 58) #[] #[])] [true] rfl (subR rfl)
 refine f_seq (f_region (lv S (rn_move (S.tm rfl)) rfl ?_)); clear S; intro a S
 refine lv S (rn_lenT sl_41 (S.tm rfl) (own_len (S.own_at (i := 0) rfl))) rfl ?_; clear S; intro a S
 refine lv S (rn_assign (S.tm rfl)) rfl ?_; clear S; intro a S
 refine l_done (then_n (f_region (lv S (rn_move (S.tm rfl)) rfl ?_))); clear S; intro a S
 refine lv S (rn_move (S.tm rfl)) rfl ?_; clear S; intro a S
 refine lv S (rn_move (S.tm rfl)) rfl ?_; clear S; intro a S
 refine lv S (rn_conv Tryz.underlying3 Tryz.underlying115 (S.tm rfl)) rfl ?_; clear S; intro a S
 obtain ⟨r1, hr1, h⟩ := bindE h
 refine l_enter S (fun _ => run_call (vs := [.int .u64 (IntKind.wrap .u64 (p_x.length : Int))]) ⟨(S.tm rfl), trivial⟩ Tryz.call78) (bits_Len_ok _ (IntKind.wrap .u64 (p_x.length : Int)) _ hr1) rfl ?_; clear S; intro v1 a w1 hv1 hk1 hn1 S
 subst hv1
 refine lv S (rn_move (S.tm rfl)) rfl ?_; clear S; intro a S
 obtain ⟨r2, hr2, h⟩ := bindE h
 refine l_enterO 0 S rfl (fun _ => .own v_p_x 63 2 r2.length (r2.flatMap GPair.enc)) (fun _ => run_call (vs := [v_p_x, iV 0, iV (p_x.length : Int), iV r1, .func (.func 58) #[] #[]]) ⟨(S.tm rfl), rfl, (S.tm rfl), (S.tm rfl), (S.tm rfl), trivial⟩ Tryz.call77) (slices_pdqsortCmpFunc_Pair_tumbref2_BothOf_c1_ok _ v_p_x p_x (S.holds _ (List.mem_of_getElem? (i := 0) rfl)) 0 (p_x.length : Int) r1 _ hr2) rfl (fun _ _ _ h => ⟨h.1, fun _ hc => hc⟩) ?_; clear S; intro v2 a w2 hv2 hk2 hn2 S
 replace hv2 := hv2.2
 subst hv2
 refine l_done ?_
 obtain rfl := Option.some.inj h
 exact f_ret0 S Tryz.results40 ⟨(S.holds _ (List.mem_of_getElem? (i := 0) rfl)), rfl⟩
theorem tumbref2_BothOf_ok (w : World) (v_p_items : Value) (p_items : List GItem) (hs_p_items : Slc (view w []) 5 v_p_items (p_items.map GItem.enc)) (v_p_l : Value) (p_l : List GCall) (hs_p_l : Slc (view w []) 3 v_p_l (p_l.map GCall.enc)) (r : (List GPair)) (h : tumbref2_BothOf p_items p_l = some r) :
    Calls Tryz.prog 21 [v_p_items, v_p_l].toArray w (Ret w [] fun τ v _ => OwnV τ 63 2 v r.length (r.flatMap GPair.enc)) := by
 refine f_enter [] [] Tryz.func21 rfl Tryz.ntmps21 rfl (by simp) (by simp [fps]) (by simp [fps]) fun a S => ?_
 unfold tumbref2_BothOf at h
 replace S := S.nk [] [(1, v_p_l)] [] rfl ⟨rfl, trivial⟩
 refine f_seq (f_region (lv S (rn_assign rfl) rfl ?_)); clear S; intro a S
 refine l_done (then_n (f_seq (f_region (lv S (rn_assign rfl) rfl ?_)))); clear S; intro a S
 replace S := S.nil 63 2
 refine l_done (then_n (f_seq (f_seq (f_region (lv S (rn_move (S.tm rfl)) rfl ?_))))); clear S; intro a S
 refine lv S (rn_lenT sl_30 (S.tm rfl) (slc_len hs_p_l)) rfl ?_; clear S; intro a S
 refine lv S (rn_move rfl) rfl ?_; clear S; intro a S
 refine l_done (then_n ?_)
 replace S := S.nk [.own (.slice none 0 0) 63 2 ([] : List GPair).length (([] : List GPair).flatMap GPair.enc)] [(1, v_p_l), (5, (.slice none 0 0)), (11, v_p_l), (12, iV (p_l.length : Int)), (13, iV 0)] [true] rfl (subR rfl)
 obtain ⟨j1, hj1, h⟩ := joinE h
 refine f_join (fun a w' => ∃ x1 : List GPair, ∃ v1 : Value, j1 x1 = some r ∧ Sx w [] nov [.own v1 63 2 x1.length (x1.flatMap GPair.enc)] [(5, v1)] 55 a w') ?_ ?_
 ·refine wp_block (f_loop (fun (ys1 : List GCall) a w' => ∃ i1 : Nat, ∃ x1 : List GPair, ∃ v1 : Value, (∃ dn, p_l = dn ++ ys1 ∧ dn.length = i1) ∧ tumbref2_BothOf_l1 p_l j1 ys1 i1 x1 = some r ∧ Sx w [] nov [.own v1 63 2 x1.length (x1.flatMap GPair.enc)] [(1, v_p_l), (5, v1), (11, v_p_l), (12, iV (p_l.length : Int)), (13, iV (i1 : Int))] 55 a w') List.length p_l ⟨0, ([] : List GPair), (.slice none 0 0), ⟨[], rfl, rfl⟩, h, S.nf [true] rfl (subR rfl)⟩ ?_)
  clear S h; rintro ys1 a w1 ⟨i1, x1, v1, ⟨dn, hd1, hi1⟩, h, S⟩
  cases ys1 with
  | nil =>
   rw [tumbref2_BothOf_l1.eq_1] at h
   refine f_seq (f_region (lv S (rn_lss (S.tm rfl) (S.tm rfl)) rfl ?_)); clear S; intro a S
   refine l_done ?_
   replace S := S.nk [.own v1 63 2 x1.length (x1.flatMap GPair.enc)] [(1, v_p_l), (5, v1), (11, v_p_l), (12, iV (p_l.length : Int)), (13, iV (i1 : Int)), (14, bV (decide ((i1 : Int) < (p_l.length : Int))))] [true] rfl (subR rfl)
   refine then_n (f_seq (wp_cond_false ((S.tm rfl).trans (congrArg Value.bool (rng_nil hd1 hi1))) (wp_exit (then_x (then_x (x_same ?_))))))
   refine then_n ?_
   exact ⟨x1, v1, h, S.nf [true] rfl ⟨rfl, trivial⟩⟩
  | cons y1 ys1 =>
   rw [tumbref2_BothOf_l1.eq_2] at h
   refine f_seq (f_region (lv S (rn_lss (S.tm rfl) (S.tm rfl)) rfl ?_)); clear S; intro a S
   refine l_done ?_
   replace S := S.nk [.own v1 63 2 x1.length (x1.flatMap GPair.enc)] [(1, v_p_l), (5, v1), (11, v_p_l), (12, iV (p_l.length : Int)), (13, iV (i1 : Int)), (14, bV (decide ((i1 : Int) < (p_l.length : Int))))] [true] rfl (subR rfl)
   refine then_n (f_seq (wp_cond_true ((S.tm rfl).trans (congrArg Value.bool (rng_cons hd1 hi1))) (wp_skip (then_n (f_seq (wp_block ?_))))))
   refine f_seq (f_region ?_)
   obtain ⟨b1, o1, hm1, hr1⟩ := rn_indexT (a := a) (x := .tmp 11) (y := .tmp 13) (ty := 0) sl_30 hs_p_l (get_mid hd1 hi1) rfl (S.tm rfl) (S.tm rfl)
   refine lv S (hr1 _) rfl ?_; clear S; intro a S
   clear hr1
   refine lv S (rn_ldA Tryz.isAgg74 Tryz.sizeOf74 (off := o1) (o := 0) (part := (GCall.enc y1)) rfl rfl (S.tm rfl) (hm1.at S.emb0)) rfl ?_; clear S; intro a S
   refine l_alloc S Tryz.zeroValue74 (cs := [sV k_empty, sV k_empty, iV 0]) rfl rfl ?_; clear S; intro a w3 b2 hz1 hk1 S
   refine l_store S (S.tm rfl) (S.tm rfl) (i := 0) (off := 0) rfl Tryz.sizeOf74 (vs := (GCall.enc y1)) rfl rfl rfl rfl ?_; clear S; intro w4 hk2 S
   refine l_done (then_n (f_seq (f_region (lv S (rn_move (S.tm rfl)) rfl ?_)))); clear S; intro a S
   refine lv S (rn_lenT sl_30 (S.tm rfl) (slc_len hs_p_l)) rfl ?_; clear S; intro a S
   refine lv S (rn_move rfl) rfl ?_; clear S; intro a S
   refine l_done (then_n ?_)
   replace S := S.nk [.blk b2 (GCall.enc y1) 74, .own v1 63 2 x1.length (x1.flatMap GPair.enc)] [(1, v_p_l), (5, v1), (7, .pointer (some ⟨b2, 0, none⟩)), (11, v_p_l), (12, iV (p_l.length : Int)), (13, iV (i1 : Int)), (17, v_p_l), (18, iV (p_l.length : Int)), (19, iV 0)] [true, true] rfl (subR rfl)
   obtain ⟨j2, hj2, h⟩ := joinE h
   refine f_join (fun a w' => ∃ x2 : List GPair, ∃ v2 : Value, j2 x2 = some r ∧ Sx w [] nov [.blk b2 (GCall.enc y1) 74, .own v2 63 2 x2.length (x2.flatMap GPair.enc)] [(1, v_p_l), (5, v2), (11, v_p_l), (12, iV (p_l.length : Int)), (13, iV (i1 : Int))] 55 a w') ?_ ?_
   ·refine wp_block (f_loop (fun (ys2 : List GCall) a w' => ∃ i2 : Nat, ∃ x2 : List GPair, ∃ v2 : Value, (∃ dn, p_l = dn ++ ys2 ∧ dn.length = i2) ∧ tumbref2_BothOf_l2 y1 j2 ys2 i2 x2 = some r ∧ Sx w [] nov [.blk b2 (GCall.enc y1) 74, .own v2 63 2 x2.length (x2.flatMap GPair.enc)] [(1, v_p_l), (5, v2), (7, .pointer (some ⟨b2, 0, none⟩)), (11, v_p_l), (12, iV (p_l.length : Int)), (13, iV (i1 : Int)), (17, v_p_l), (18, iV (p_l.length : Int)), (19, iV (i2 : Int))] 55 a w') List.length p_l ⟨0, x1, v1, ⟨[], rfl, rfl⟩, h, S.nf [true, true] rfl (subR rfl)⟩ ?_)
    clear S h; rintro ys2 a w5 ⟨i2, x2, v2, ⟨dn, hd2, hi2⟩, h, S⟩
    cases ys2 with
    | nil =>
     rw [tumbref2_BothOf_l2.eq_1] at h
     refine f_seq (f_region (lv S (rn_lss (S.tm rfl) (S.tm rfl)) rfl ?_)); clear S; intro a S
     refine l_done ?_
     replace S := S.nk [.blk b2 (GCall.enc y1) 74, .own v2 63 2 x2.length (x2.flatMap GPair.enc)] [(1, v_p_l), (5, v2), (7, .pointer (some ⟨b2, 0, none⟩)), (11, v_p_l), (12, iV (p_l.length : Int)), (13, iV (i1 : Int)), (17, v_p_l), (18, iV (p_l.length : Int)), (19, iV (i2 : Int)), (20, bV (decide ((i2 : Int) < (p_l.length : Int))))] [true, true] rfl (subR rfl)
     refine then_n (f_seq (wp_cond_false ((S.tm rfl).trans (congrArg Value.bool (rng_nil hd2 hi2))) (wp_exit (then_x (then_x (x_same ?_))))))
     refine then_n ?_
     exact ⟨x2, v2, h, S.nf [true, true] rfl (subR rfl)⟩
    | cons y2 ys2 =>
     rw [tumbref2_BothOf_l2.eq_2] at h
     refine f_seq (f_region (lv S (rn_lss (S.tm rfl) (S.tm rfl)) rfl ?_)); clear S; intro a S
     refine l_done ?_
     replace S := S.nk [.blk b2 (GCall.enc y1) 74, .own v2 63 2 x2.length (x2.flatMap GPair.enc)] [(1, v_p_l), (5, v2), (7, .pointer (some ⟨b2, 0, none⟩)), (11, v_p_l), (12, iV (p_l.length : Int)), (13, iV (i1 : Int)), (17, v_p_l), (18, iV (p_l.length : Int)), (19, iV (i2 : Int)), (20, bV (decide ((i2 : Int) < (p_l.length : Int))))] [true, true] rfl (subR rfl)
     refine then_n (f_seq (wp_cond_true ((S.tm rfl).trans (congrArg Value.bool (rng_cons hd2 hi2))) (wp_skip (then_n (f_seq ?_)))))
     obtain ⟨j3, hj3, h⟩ := joinE h
     refine f_join (fun a w' => ∃ x3 : List GPair, ∃ v3 : Value, j3 x3 = some r ∧ Sx w [] nov [.blk b2 (GCall.enc y1) 74, .own v3 63 2 x3.length (x3.flatMap GPair.enc)] [(1, v_p_l), (5, v3), (7, .pointer (some ⟨b2, 0, none⟩)), (11, v_p_l), (12, iV (p_l.length : Int)), (13, iV (i1 : Int)), (17, v_p_l), (18, iV (p_l.length : Int)), (19, iV (i2 : Int))] 55 a w') ?_ ?_
     ·refine wp_block (f_seq (f_region ?_))
      obtain ⟨b3, o2, hm2, hr2⟩ := rn_indexT (a := a) (x := .tmp 17) (y := .tmp 19) (ty := 0) sl_30 hs_p_l (get_mid hd2 hi2) rfl (S.tm rfl) (S.tm rfl)
      refine lv S (hr2 _) rfl ?_; clear S; intro a S
      clear hr2
      refine lv S (rn_ldA Tryz.isAgg74 Tryz.sizeOf74 (off := o2) (o := 0) (part := (GCall.enc y2)) rfl rfl (S.tm rfl) (hm2.at S.emb0)) rfl ?_; clear S; intro a S
      refine l_alloc S Tryz.zeroValue74 (cs := [sV k_empty, sV k_empty, iV 0]) rfl rfl ?_; clear S; intro a w8 b4 hz2 hk3 S
      refine l_store S (S.tm rfl) (S.tm rfl) (i := 0) (off := 0) rfl Tryz.sizeOf74 (vs := (GCall.enc y2)) rfl rfl rfl rfl ?_; clear S; intro w9 hk4 S
      refine l_done (then_n (f_seq (f_region (lv S (rn_fld fa_74_1 (S.tm rfl)) rfl ?_)))); clear S; intro a S
      refine lv S (rn_load Tryz.isAgg9 (S.tm rfl) (S.cell (i := 1) rfl rfl)) rfl ?_; clear S; intro a S
      refine lv S (rn_fld fa_74_1 (S.tm rfl)) rfl ?_; clear S; intro a S
      refine lv S (rn_load Tryz.isAgg9 (S.tm rfl) (S.cell (i := 0) rfl rfl)) rfl ?_; clear S; intro a S
      refine lv S (rn_bld bt_63 (pv := [(0, sV y1.Item), (1, sV y2.Item)]) ⟨rfl, (S.tm rfl), rfl, (S.tm rfl), trivial⟩ (cs := [sV y1.Item, sV y2.Item]) (by kernel_rfl)) rfl ?_; clear S; intro a S
      refine l_alloc S Tryz.zeroValue63 (cs := [sV k_empty, sV k_empty]) rfl rfl ?_; clear S; intro a w10 b5 hz3 hk5 S
      refine l_store S (S.tm rfl) (S.tm rfl) (i := 0) (off := 0) rfl Tryz.sizeOf63 (vs := [sV y1.Item, sV y2.Item]) rfl rfl rfl rfl ?_; clear S; intro w11 hk6 S
      refine l_done ?_
      replace S := S.nk [.blk b5 [sV y1.Item, sV y2.Item] 63, .blk b4 (GCall.enc y2) 74, .blk b2 (GCall.enc y1) 74, .own v2 63 2 x2.length (x2.flatMap GPair.enc)] [(1, v_p_l), (5, v2), (7, .pointer (some ⟨b2, 0, none⟩)), (9, .pointer (some ⟨b4, 0, none⟩)), (10, .pointer (some ⟨b5, 0, none⟩)), (11, v_p_l), (12, iV (p_l.length : Int)), (13, iV (i1 : Int)), (17, v_p_l), (18, iV (p_l.length : Int)), (19, iV (i2 : Int))] [true, true, true, true] rfl (subR rfl)
      refine then_n (f_seq (f_region (lv S (rn_fld fa_74_0 (S.tm rfl)) rfl ?_))); clear S; intro a S
      refine lv S (rn_load Tryz.isAgg9 (S.tm rfl) (S.cell (i := 2) rfl rfl)) rfl ?_; clear S; intro a S
      refine lv S (rn_fld fa_74_0 (S.tm rfl)) rfl ?_; clear S; intro a S
      refine lv S (rn_load Tryz.isAgg9 (S.tm rfl) (S.cell (i := 1) rfl rfl)) rfl ?_; clear S; intro a S
      refine lv S (rn_seql (S.tm rfl) (S.tm rfl)) rfl ?_; clear S; intro a S
      refine lv S (rn_move (S.tm rfl)) rfl ?_; clear S; intro a S
      refine f_cutm 6 (fun a w' => Keep [] w11 w' ∧ Sx w [] nov [.blk b5 [sV y1.Item, sV y2.Item] 63, .blk b4 (GCall.enc y2) 74, .blk b2 (GCall.enc y1) 74, .own v2 63 2 x2.length (x2.flatMap GPair.enc)] [(1, v_p_l), (5, v2), (7, .pointer (some ⟨b2, 0, none⟩)), (10, .pointer (some ⟨b5, 0, none⟩)), (11, v_p_l), (12, iV (p_l.length : Int)), (13, iV (i1 : Int)), (17, v_p_l), (18, iV (p_l.length : Int)), (19, iV (i2 : Int)), (39, bV ((decide (y1.Who = y2.Who)) && (Sless y1.Item y2.Item)))] 55 a w') ?_ ?_
      ·rcases Bool.eq_false_or_eq_true (decide (y1.Who = y2.Who)) with hb1 | hb1
       ·refine l_want S rfl rfl rfl hb1 (lv S (rn_fld fa_74_1 (S.tm rfl)) rfl ?_); clear S; intro a S
        refine l_want S rfl rfl rfl hb1 (lv S (rn_load Tryz.isAgg9 (S.tm rfl) (S.cell (i := 2) rfl rfl)) rfl ?_); clear S; intro a S
        refine l_want S rfl rfl rfl hb1 (lv S (rn_fld fa_74_1 (S.tm rfl)) rfl ?_); clear S; intro a S
        refine l_want S rfl rfl rfl hb1 (lv S (rn_load Tryz.isAgg9 (S.tm rfl) (S.cell (i := 1) rfl rfl)) rfl ?_); clear S; intro a S
        refine l_want S rfl rfl rfl hb1 (lv S (rn_slss (S.tm rfl) (S.tm rfl)) rfl ?_); clear S; intro a S
        refine lv S (rn_and_t hb1 (S.tm rfl) (S.tm rfl)) rfl ?_; clear S; intro a S
        refine l_done (then_n ?_)
        exact ⟨Keep.refl _ _, S.nf [true, true, true, true] rfl (subR rfl)⟩
       ·iterate 5 (refine l_skip S rfl rfl rfl (neq_f hb1) rfl ?_ rfl; clear S; intro a S)
        refine lv S (rn_and_f (Sless y1.Item y2.Item) hb1 (S.tm rfl) rfl) rfl ?_; clear S; intro a S
        refine l_done (then_n ?_)
        exact ⟨Keep.refl _ _, S.nf [true, true, true, true] rfl (subR rfl)⟩
      clear S; rintro a w12 ⟨hk7, S⟩
      refine lv S (rn_move (S.tm rfl)) rfl ?_; clear S; intro a S
      refine f_cutm 5 (fun a w' => Keep [] w12 w' ∧ Sx w [] nov [.blk b5 [sV y1.Item, sV y2.Item] 63, .blk b4 (GCall.enc y2) 74, .blk b2 (GCall.enc y1) 74, .own v2 63 2 x2.length (x2.flatMap GPair.enc)] [(1, v_p_l), (5, v2), (7, .pointer (some ⟨b2, 0, none⟩)), (10, .pointer (some ⟨b5, 0, none⟩)), (11, v_p_l), (12, iV (p_l.length : Int)), (13, iV (i1 : Int)), (17, v_p_l), (18, iV (p_l.length : Int)), (19, iV (i2 : Int)), (45, bV (((decide (y1.Who = y2.Who)) && (Sless y1.Item y2.Item)) && (!(slices_Contains_Pair x2 (GPair.mk y1.Item y2.Item)))))] 55 a w') ?_ ?_
      ·rcases Bool.eq_false_or_eq_true ((decide (y1.Who = y2.Who)) && (Sless y1.Item y2.Item)) with hb2 | hb2
       ·refine l_want S rfl rfl rfl hb2 (lv S (rn_move (S.tm rfl)) rfl ?_); clear S; intro a S
        refine l_want S rfl rfl rfl hb2 (lv S (rn_ldA Tryz.isAgg63 Tryz.sizeOf63 (off := 0) (o := 0) (part := [sV y1.Item, sV y2.Item]) rfl rfl (S.tm rfl) (S.cellsAt (i := 0) rfl)) rfl ?_); clear S; intro a S
        refine l_want S rfl rfl rfl hb2 (l_enter S (fun _ => run_call (vs := [v2, .agg (GPair.enc (GPair.mk y1.Item y2.Item)).toArray]) ⟨(S.tm rfl), (S.tm rfl), trivial⟩ Tryz.call57) (slices_Contains_Pair_ok _ v2 x2 (own_slcT GPair.enc_ok S (i := 3) rfl (ne_nil (e' := .own v2 63 2 x2.length (x2.flatMap GPair.enc)))) (GPair.mk y1.Item y2.Item) _ rfl) rfl ?_); clear S; intro v4 a w14 hv1 hk8 hn1 S
        subst hv1
        refine l_want S rfl rfl rfl hb2 (lv S (rn_not (S.tm rfl)) rfl ?_); clear S; intro a S
        refine lv S (rn_and_t hb2 (S.tm rfl) (S.tm rfl)) rfl ?_; clear S; intro a S
        refine l_done (then_n ?_)
        exact ⟨hk8, S.nf [true, true, true, true] rfl (subR rfl)⟩
       ·iterate 4 (refine l_skip S rfl rfl rfl (neq_f hb2) rfl ?_ rfl; clear S; intro a S)
        refine lv S (rn_and_f (!(slices_Contains_Pair x2 (GPair.mk y1.Item y2.Item))) hb2 (S.tm rfl) rfl) rfl ?_; clear S; intro a S
        refine l_done (then_n ?_)
        exact ⟨Keep.refl _ _, S.nf [true, true, true, true] rfl (subR rfl)⟩
      clear S; rintro a w13 ⟨hk9, S⟩
      refine l_done (then_n ?_)
      obtain ⟨j4, hj4, h⟩ := joinE h
      refine f_join (fun a w' => ∃ x4 : List GPair, ∃ v5 : Value, j4 x4 = some r ∧ Sx w [] nov [.blk b2 (GCall.enc y1) 74, .own v5 63 2 x4.length (x4.flatMap GPair.enc)] [(1, v_p_l), (5, v5), (7, .pointer (some ⟨b2, 0, none⟩)), (11, v_p_l), (12, iV (p_l.length : Int)), (13, iV (i1 : Int)), (17, v_p_l), (18, iV (p_l.length : Int)), (19, iV (i2 : Int))] 55 a w') ?_ ?_
      ·refine f_cond (S.tm rfl) (fun hb3 => ?_) (fun hb3 => ?_)
       ·replace h := iteT h hb3
        refine f_region (lv S (rn_move (S.tm rfl)) rfl ?_); clear S; intro a S
        refine lv S (rn_ldA Tryz.isAgg63 Tryz.sizeOf63 (off := 0) (o := 0) (part := [sV y1.Item, sV y2.Item]) rfl rfl (S.tm rfl) (S.cellsAt (i := 0) rfl)) rfl ?_; clear S; intro a S
        refine l_buildSlice S Tryz.underlying41 Tryz.sizeOf63 Tryz.zeroValue63 rfl rfl (pv := [(0, .agg #[sV y1.Item, sV y2.Item])]) ⟨rfl, (S.tm rfl), trivial⟩ (cs := [sV y1.Item, sV y2.Item]) (by kernel_rfl) rfl ?_; clear S; intro a w16 b6 hz4 hk10 S
        obtain ⟨hc1, h⟩ := chkE h
        refine l_appendT sl_41 GPair.enc_ok S (S.tm rfl) (i := 4) rfl (S.tm rfl) (j := 0) rfl (ys := [(GPair.mk y1.Item y2.Item)]) rfl rfl rfl rfl (by have := room_lt hc1; omega) rfl ?_; clear S; intro v6 a w17 hk11 S
        refine lv S (rn_assign (S.tm rfl)) rfl ?_; clear S; intro a S
        refine l_done ?_
        replace S := S.nk [.blk b2 (GCall.enc y1) 74, .own v6 63 2 (x2 ++ [(GPair.mk y1.Item y2.Item)]).length ((x2 ++ [(GPair.mk y1.Item y2.Item)]).flatMap GPair.enc)] [(1, v_p_l), (5, v6), (7, .pointer (some ⟨b2, 0, none⟩)), (11, v_p_l), (12, iV (p_l.length : Int)), (13, iV (i1 : Int)), (17, v_p_l), (18, iV (p_l.length : Int)), (19, iV (i2 : Int))] [false, false, false, true, true] rfl (subR rfl)
        refine then_n ?_
        exact ⟨(x2 ++ [(GPair.mk y1.Item y2.Item)]), v6, h, S.nf [true, true] rfl (subR rfl)⟩
       ·replace h := iteF h hb3
        refine wp_skip (then_n ?_)
        exact ⟨x2, v2, h, S.nf [false, false, true, true] rfl (subR rfl)⟩
      clear S h; rintro a w15 ⟨x4, v5, h, S⟩; rw [hj4] at h; clear hj4 j4
      refine blk_n (then_n ?_)
      exact ⟨x4, v5, h, S.nf [true, true] rfl (subR rfl)⟩
     clear S h; rintro a w7 ⟨x3, v3, h, S⟩; rw [hj3] at h; clear hj3 j3
     refine then_n (f_region (lv S (rn_add (S.tm rfl) rfl) rfl ?_)); clear S; intro a S
     refine lv S (rn_move (S.tm rfl)) rfl ?_; clear S; intro a S
     refine l_done (then_n ?_)
     exact ⟨ys2, ⟨i2 + 1, x3, v3, ⟨_, (hd2).trans (List.append_cons _ _ _), by simp [hi2]⟩, h, S.nf [true, true] rfl ⟨rfl, rfl, rfl, rfl, rfl, rfl, rfl, rfl, (congrArg (fun z => some (Value.int .i64 z)) (rng_next hd2 hi2 (slc_max hs_p_l))), trivial⟩⟩, Nat.lt_succ_self _⟩
   clear S h; rintro a w6 ⟨x2, v2, h, S⟩; rw [hj2] at h; clear hj2 j2
   refine blk_n (then_n (f_region (lv S (rn_add (S.tm rfl) rfl) rfl ?_))); clear S; intro a S
   refine lv S (rn_move (S.tm rfl)) rfl ?_; clear S; intro a S
   refine l_done (then_n ?_)
   exact ⟨ys1, ⟨i1 + 1, x2, v2, ⟨_, (hd1).trans (List.append_cons _ _ _), by simp [hi1]⟩, h, S.nf [false, true] rfl ⟨rfl, rfl, rfl, rfl, (congrArg (fun z => some (Value.int .i64 z)) (rng_next hd1 hi1 (slc_max hs_p_l))), trivial⟩⟩, Nat.lt_succ_self _⟩
 clear S h; rintro a w2 ⟨x1, v1, h, S⟩; rw [hj1] at h; clear hj1 j1
 refine then_n (f_seq (f_region (lv S (rn_move (S.tm rfl)) rfl ?_))); clear S; intro a S
 obtain ⟨r1, hr3, h⟩ := bindE h
 refine l_enterO 0 S rfl (fun _ => .own v1 63 2 r1.length (r1.flatMap GPair.enc)) (fun _ => run_call (vs := [v1, .func (.func 58) #[] #[]]) ⟨(S.tm rfl), rfl, trivial⟩ Tryz.call40) (slices_SortFunc_Pair_tumbref2_BothOf_c1_ok _ v1 x1 (S.holds _ (List.mem_of_getElem? (i := 0) rfl)) _ hr3) rfl (fun _ _ _ h => ⟨h.1, fun _ hc => hc⟩) ?_; clear S; intro v7 a w18 hv2 hk12 hn2 S
 replace hv2 := hv2.2
 subst hv2
 refine l_done (then_n (f_seq (f_region (lv S (rn_move (S.tm rfl)) rfl ?_)))); clear S; intro a S
 refine lv S (rn_assign (S.tm rfl)) rfl ?_; clear S; intro a S
 refine l_done (then_n (wp_ret ?_))
 obtain rfl := Option.some.inj h
 exact f_ret S Tryz.results21 rfl (own_retT S (i := 0) rfl rfl)
set_option maxRecDepth 20000 in
theorem slices_Equal_Slot_ok (w : World) (v_p_s1 : Value) (p_s1 : List GSlot) (hs_p_s1 : Slc (view w []) 4 v_p_s1 (p_s1.map GSlot.enc)) (v_p_s2 : Value) (p_s2 : List GSlot) (hs_p_s2 : Slc (view w []) 4 v_p_s2 (p_s2.map GSlot.enc)) (r : Bool) (h : slices_Equal_Slot p_s1 p_s2 = some r) :
    Calls Tryz.prog 23 [v_p_s1, v_p_s2].toArray w (Ret w [] fun _ v _ => v = bV r) := by
 refine f_enter [] [] Tryz.func23 rfl Tryz.ntmps23 rfl (by simp) (by simp [fps]) (by simp [fps]) fun a S => ?_
 unfold slices_Equal_Slot at h
 replace S := S.nk [] [(0, v_p_s1), (1, v_p_s2)] [] rfl (subR rfl)
 refine f_seq (f_region (lv S (rn_assign rfl) rfl ?_)); clear S; intro a S
 refine l_done (then_n (f_seq (f_seq (f_region (lv S (rn_move (S.tm rfl)) rfl ?_))))); clear S; intro a S
 refine lv S (rn_lenT sl_33 (S.tm rfl) (slc_len hs_p_s1)) rfl ?_; clear S; intro a S
 refine lv S (rn_move (S.tm rfl)) rfl ?_; clear S; intro a S
 refine lv S (rn_lenT sl_33 (S.tm rfl) (slc_len hs_p_s2)) rfl ?_; clear S; intro a S
 refine lv S (rn_neq (S.tm rfl) (S.tm rfl)) rfl ?_; clear S; intro a S
 refine l_done (then_n (f_cond (S.tm rfl) (fun hb1 => ?_) (fun hb1 => ?_)))
 ·replace h := iteT h hb1
  refine f_seq (f_region (lv S (rn_assign rfl) rfl ?_)); clear S; intro a S
  refine l_done (then_n (wp_ret (then_r ?_)))
  obtain rfl := Option.some.inj h
  exact f_ret S Tryz.results23 rfl rfl
 ·replace h := iteF h hb1
  refine wp_skip (then_n (f_seq (f_seq (f_region (lv S (rn_move (S.tm rfl)) rfl ?_))))); clear S; intro a S
  refine lv S (rn_lenT sl_33 (S.tm rfl) (slc_len hs_p_s1)) rfl ?_; clear S; intro a S
  refine lv S (rn_move rfl) rfl ?_; clear S; intro a S
  refine l_done (then_n ?_)
  replace S := S.nk [] [(0, v_p_s1), (1, v_p_s2), (12, iV (p_s1.length : Int)), (13, iV 0)] [] rfl (subR rfl)
  obtain ⟨j1, hj1, h⟩ := joinE h
  refine f_join (fun a w' => j1 = some r ∧ Sx w [] nov [] [] 26 a w') ?_ ?_
  ·refine wp_block (f_loop (fun (ys1 : List GSlot) a w' => ∃ i1 : Nat, (∃ dn, p_s1 = dn ++ ys1 ∧ dn.length = i1) ∧ slices_Equal_Slot_l1 p_s2 j1 ys1 i1 = some r ∧ Sx w [] nov [] [(0, v_p_s1), (1, v_p_s2), (12, iV (p_s1.length : Int)), (13, iV (i1 : Int))] 26 a w') List.length p_s1 ⟨0, ⟨[], rfl, rfl⟩, h, S.nf [] rfl (subR rfl)⟩ ?_)
   clear S h; rintro ys1 a w1 ⟨i1, ⟨dn, hd1, hi1⟩, h, S⟩
   cases ys1 with
   | nil =>
    rw [slices_Equal_Slot_l1.eq_1] at h
    refine f_seq (f_region (lv S (rn_lss (S.tm rfl) (S.tm rfl)) rfl ?_)); clear S; intro a S
    refine l_done ?_
    replace S := S.nk [] [(0, v_p_s1), (1, v_p_s2), (12, iV (p_s1.length : Int)), (13, iV (i1 : Int)), (14, bV (decide ((i1 : Int) < (p_s1.length : Int))))] [] rfl (subR rfl)
    refine then_n (f_seq (wp_cond_false ((S.tm rfl).trans (congrArg Value.bool (rng_nil hd1 hi1))) (wp_exit (then_x (then_x (x_same ?_))))))
    refine then_n ?_
    exact ⟨h, S.nf [] rfl trivial⟩
   | cons y1 ys1 =>
    rw [slices_Equal_Slot_l1.eq_2] at h
    refine f_seq (f_region (lv S (rn_lss (S.tm rfl) (S.tm rfl)) rfl ?_)); clear S; intro a S
    refine l_done ?_
    replace S := S.nk [] [(0, v_p_s1), (1, v_p_s2), (12, iV (p_s1.length : Int)), (13, iV (i1 : Int)), (14, bV (decide ((i1 : Int) < (p_s1.length : Int))))] [] rfl (subR rfl)
    refine then_n (f_seq (wp_cond_true ((S.tm rfl).trans (congrArg Value.bool (rng_cons hd1 hi1))) (wp_skip (then_n (f_seq (wp_block ?_))))))
    refine f_seq (f_region (lv S (rn_move (S.tm rfl)) rfl ?_)); clear S; intro a S
    refine lv S (rn_assign (S.tm rfl)) rfl ?_; clear S; intro a S
    refine l_done (then_n (f_seq (d_region [] ([]) Tryz.mixed S rfl (by kernel_rfl) ?_))); clear S; intro w3 hk1 hsel S
    refine d_rest [0, 1, 2, 3, 4, 5, 6, 7, 8] hsel (by kernel_rfl) rfl ?_
    clear hsel
    refine s_lv S rfl (rn_move (S.tm rfl)) rfl ?_; clear S; intro a S
    refine s_lv S rfl (rn_move (S.tm rfl)) rfl ?_; clear S; intro a S
    obtain ⟨b1, o1, hm1, hr1⟩ := rn_indexT (a := a) (x := .tmp 16) (y := .tmp 17) (ty := 0) sl_33 hs_p_s1 (get_mid hd1 hi1) rfl (S.tm rfl) (S.tm rfl)
    refine s_lv S rfl (hr1 _) rfl ?_; clear S; intro a S
    clear hr1
    refine s_lv S rfl (rn_ldA Tryz.isAgg57 Tryz.sizeOf57 (off := o1) (o := 0) (part := (GSlot.enc y1)) rfl rfl (S.tm rfl) (hm1.at S.emb0)) rfl ?_; clear S; intro a S
    refine s_lv S rfl (rn_move (S.tm rfl)) rfl ?_; clear S; intro a S
    refine s_lv S rfl (rn_move (S.tm rfl)) rfl ?_; clear S; intro a S
    obtain ⟨hc1, h⟩ := chkE h
    obtain ⟨b2, o2, hm2, hr2⟩ := rn_indexT (a := a) (x := .tmp 20) (y := .tmp 21) (ty := 0) sl_33 hs_p_s2 (inB_get hc1).1 (inB_get hc1).2 (S.tm rfl) (S.tm rfl)
    refine s_lv S rfl (hr2 _) rfl ?_; clear S; intro a S
    clear hr2
    refine s_lv S rfl (rn_ldA Tryz.isAgg57 Tryz.sizeOf57 (off := o2) (o := 0) (part := (GSlot.enc (GSlot.mk ((nth p_s2 (i1 : Int)).Item) ((nth p_s2 (i1 : Int)).Heat) ((nth p_s2 (i1 : Int)).Time)))) rfl rfl (S.tm rfl) (hm2.at S.emb0)) rfl ?_; clear S; intro a S
    refine s_lv S rfl (rn_neq_57 (m := y1) (n := (GSlot.mk ((nth p_s2 (i1 : Int)).Item) ((nth p_s2 (i1 : Int)).Heat) ((nth p_s2 (i1 : Int)).Time))) (S.tm rfl) (S.tm rfl)) rfl ?_; clear S; intro a S
    refine s_done ?_
    replace S := S.nk [] [(0, v_p_s1), (1, v_p_s2), (12, iV (p_s1.length : Int)), (13, iV (i1 : Int)), (24, bV (!decide (y1 = (GSlot.mk ((nth p_s2 (i1 : Int)).Item) ((nth p_s2 (i1 : Int)).Heat) ((nth p_s2 (i1 : Int)).Time)))))] [] rfl (subR rfl)
    refine then_n (f_cond (S.tm rfl) (fun hb2 => ?_) (fun hb2 => ?_))
    ·replace h := iteT h hb2
     refine f_seq (f_region (lv S (rn_assign rfl) rfl ?_)); clear S; intro a S
     refine l_done (then_n (wp_ret (blk_r (then_r (then_r (blk_r ?_))))))
     refine then_r (then_r ?_)
     obtain rfl := Option.some.inj h
     exact f_ret S Tryz.results23 rfl rfl
    ·replace h := iteF h hb2
     refine wp_skip (blk_n (then_n (f_region (lv S (rn_add (S.tm rfl) rfl) rfl ?_)))); clear S; intro a S
     refine lv S (rn_move (S.tm rfl)) rfl ?_; clear S; intro a S
     refine l_done (then_n ?_)
     exact ⟨ys1, ⟨i1 + 1, ⟨_, (hd1).trans (List.append_cons _ _ _), by simp [hi1]⟩, h, S.nf [] rfl ⟨rfl, rfl, rfl, (congrArg (fun z => some (Value.int .i64 z)) (rng_next hd1 hi1 (slc_max hs_p_s1))), trivial⟩⟩, Nat.lt_succ_self _⟩
  clear S h; rintro a w2 ⟨h, S⟩; rw [hj1] at h; clear hj1 j1
  refine then_n (f_seq (f_region (lv S (rn_assign rfl) rfl ?_))); clear S; intro a S
  refine l_done (then_n (wp_ret ?_))
  obtain rfl := Option.some.inj h
  exact f_ret S Tryz.results23 rfl rfl
set_option maxRecDepth 20000 in
theorem slices_Equal_Rest_ok (w : World) (v_p_s1 : Value) (p_s1 : List GRest) (hs_p_s1 : Slc (view w []) 10 v_p_s1 (p_s1.map GRest.enc)) (v_p_s2 : Value) (p_s2 : List GRest) (hs_p_s2 : Slc (view w []) 10 v_p_s2 (p_s2.map GRest.enc)) (r : Bool) (h : slices_Equal_Rest p_s1 p_s2 = some r) :
    Calls Tryz.prog 24 [v_p_s1, v_p_s2].toArray w (Ret w [] fun _ v _ => v = bV r) := by
 refine f_enter [] [] Tryz.func24 rfl Tryz.ntmps24 rfl (by simp) (by simp [fps]) (by simp [fps]) fun a S => ?_
 unfold slices_Equal_Rest at h
 replace S := S.nk [] [(0, v_p_s1), (1, v_p_s2)] [] rfl (subR rfl)
 refine f_seq (f_region (lv S (rn_assign rfl) rfl ?_)); clear S; intro a S
 refine l_done (then_n (f_seq (f_seq (f_region (lv S (rn_move (S.tm rfl)) rfl ?_))))); clear S; intro a S
 refine lv S (rn_lenT sl_37 (S.tm rfl) (slc_len hs_p_s1)) rfl ?_; clear S; intro a S
 refine lv S (rn_move (S.tm rfl)) rfl ?_; clear S; intro a S
 refine lv S (rn_lenT sl_37 (S.tm rfl) (slc_len hs_p_s2)) rfl ?_; clear S; intro a S
 refine lv S (rn_neq (S.tm rfl) (S.tm rfl)) rfl ?_; clear S; intro a S
 refine l_done (then_n (f_cond (S.tm rfl) (fun hb1 => ?_) (fun hb1 => ?_)))
 ·replace h := iteT h hb1
  refine f_seq (f_region (lv S (rn_assign rfl) rfl ?_)); clear S; intro a S
  refine l_done (then_n (wp_ret (then_r ?_)))
  obtain rfl := Option.some.inj h
  exact f_ret S Tryz.results24 rfl rfl
 ·replace h := iteF h hb1
  refine wp_skip (then_n (f_seq (f_seq (f_region (lv S (rn_move (S.tm rfl)) rfl ?_))))); clear S; intro a S
  refine lv S (rn_lenT sl_37 (S.tm rfl) (slc_len hs_p_s1)) rfl ?_; clear S; intro a S
  refine lv S (rn_move rfl) rfl ?_; clear S; intro a S
  refine l_done (then_n ?_)
  replace S := S.nk [] [(0, v_p_s1), (1, v_p_s2), (12, iV (p_s1.length : Int)), (13, iV 0)] [] rfl (subR rfl)
  obtain ⟨j1, hj1, h⟩ := joinE h
  refine f_join (fun a w' => j1 = some r ∧ Sx w [] nov [] [] 26 a w') ?_ ?_
  ·refine wp_block (f_loop (fun (ys1 : List GRest) a w' => ∃ i1 : Nat, (∃ dn, p_s1 = dn ++ ys1 ∧ dn.length = i1) ∧ slices_Equal_Rest_l1 p_s2 j1 ys1 i1 = some r ∧ Sx w [] nov [] [(0, v_p_s1), (1, v_p_s2), (12, iV (p_s1.length : Int)), (13, iV (i1 : Int))] 26 a w') List.length p_s1 ⟨0, ⟨[], rfl, rfl⟩, h, S.nf [] rfl (subR rfl)⟩ ?_)
   clear S h; rintro ys1 a w1 ⟨i1, ⟨dn, hd1, hi1⟩, h, S⟩
   cases ys1 with
   | nil =>
    rw [slices_Equal_Rest_l1.eq_1] at h
    refine f_seq (f_region (lv S (rn_lss (S.tm rfl) (S.tm rfl)) rfl ?_)); clear S; intro a S
    refine l_done ?_
    replace S := S.nk [] [(0, v_p_s1), (1, v_p_s2), (12, iV (p_s1.length : Int)), (13, iV (i1 : Int)), (14, bV (decide ((i1 : Int) < (p_s1.length : Int))))] [] rfl (subR rfl)
    refine then_n (f_seq (wp_cond_false ((S.tm rfl).trans (congrArg Value.bool (rng_nil hd1 hi1))) (wp_exit (then_x (then_x (x_same ?_))))))
    refine then_n ?_
    exact ⟨h, S.nf [] rfl trivial⟩
   | cons y1 ys1 =>
    rw [slices_Equal_Rest_l1.eq_2] at h
    refine f_seq (f_region (lv S (rn_lss (S.tm rfl) (S.tm rfl)) rfl ?_)); clear S; intro a S
    refine l_done ?_
    replace S := S.nk [] [(0, v_p_s1), (1, v_p_s2), (12, iV (p_s1.length : Int)), (13, iV (i1 : Int)), (14, bV (decide ((i1 : Int) < (p_s1.length : Int))))] [] rfl (subR rfl)
    refine then_n (f_seq (wp_cond_true ((S.tm rfl).trans (congrArg Value.bool (rng_cons hd1 hi1))) (wp_skip (then_n (f_seq (wp_block ?_))))))
    refine f_seq (f_region (lv S (rn_move (S.tm rfl)) rfl ?_)); clear S; intro a S
    refine lv S (rn_assign (S.tm rfl)) rfl ?_; clear S; intro a S
    refine l_done (then_n (f_seq (d_region [] ([]) Tryz.mixed S rfl (by kernel_rfl) ?_))); clear S; intro w3 hk1 hsel S
    refine d_rest [0, 1, 2, 3, 4, 5, 6, 7, 8] hsel (by kernel_rfl) rfl ?_
    clear hsel
    refine s_lv S rfl (rn_move (S.tm rfl)) rfl ?_; clear S; intro a S
    refine s_lv S rfl (rn_move (S.tm rfl)) rfl ?_; clear S; intro a S
    obtain ⟨b1, o1, hm1, hr1⟩ := rn_indexT (a := a) (x := .tmp 16) (y := .tmp 17) (ty := 0) sl_37 hs_p_s1 (get_mid hd1 hi1) rfl (S.tm rfl) (S.tm rfl)
    refine s_lv S rfl (hr1 _) rfl ?_; clear S; intro a S
    clear hr1
    refine s_lv S rfl (rn_ldA Tryz.isAgg60 Tryz.sizeOf60 (off := o1) (o := 0) (part := (GRest.enc y1)) rfl rfl (S.tm rfl) (hm1.at S.emb0)) rfl ?_; clear S; intro a S
    refine s_lv S rfl (rn_move (S.tm rfl)) rfl ?_; clear S; intro a S
    refine s_lv S rfl (rn_move (S.tm rfl)) rfl ?_; clear S; intro a S
    obtain ⟨hc1, h⟩ := chkE h
    obtain ⟨b2, o2, hm2, hr2⟩ := rn_indexT (a := a) (x := .tmp 20) (y := .tmp 21) (ty := 0) sl_37 hs_p_s2 (inB_get hc1).1 (inB_get hc1).2 (S.tm rfl) (S.tm rfl)
    refine s_lv S rfl (hr2 _) rfl ?_; clear S; intro a S
    clear hr2
    refine s_lv S rfl (rn_ldA Tryz.isAgg60 Tryz.sizeOf60 (off := o2) (o := 0) (part := (GRest.enc (GRest.mk ((nth p_s2 (i1 : Int)).Who) (GSlot.mk (((nth p_s2 (i1 : Int)).From).Item) (((nth p_s2 (i1 : Int)).From).Heat) (((nth p_s2 (i1 : Int)).From).Time)) (GSlot.mk (((nth p_s2 (i1 : Int)).To).Item) (((nth p_s2 (i1 : Int)).To).Heat) (((nth p_s2 (i1 : Int)).To).Time)) ((nth p_s2 (i1 : Int)).Long)))) rfl rfl (S.tm rfl) (hm2.at S.emb0)) rfl ?_; clear S; intro a S
    refine s_lv S rfl (rn_neq_60 (m := y1) (n := (GRest.mk ((nth p_s2 (i1 : Int)).Who) (GSlot.mk (((nth p_s2 (i1 : Int)).From).Item) (((nth p_s2 (i1 : Int)).From).Heat) (((nth p_s2 (i1 : Int)).From).Time)) (GSlot.mk (((nth p_s2 (i1 : Int)).To).Item) (((nth p_s2 (i1 : Int)).To).Heat) (((nth p_s2 (i1 : Int)).To).Time)) ((nth p_s2 (i1 : Int)).Long))) (S.tm rfl) (S.tm rfl)) rfl ?_; clear S; intro a S
    refine s_done ?_
    replace S := S.nk [] [(0, v_p_s1), (1, v_p_s2), (12, iV (p_s1.length : Int)), (13, iV (i1 : Int)), (24, bV (!decide (y1 = (GRest.mk ((nth p_s2 (i1 : Int)).Who) (GSlot.mk (((nth p_s2 (i1 : Int)).From).Item) (((nth p_s2 (i1 : Int)).From).Heat) (((nth p_s2 (i1 : Int)).From).Time)) (GSlot.mk (((nth p_s2 (i1 : Int)).To).Item) (((nth p_s2 (i1 : Int)).To).Heat) (((nth p_s2 (i1 : Int)).To).Time)) ((nth p_s2 (i1 : Int)).Long)))))] [] rfl (subR rfl)
    refine then_n (f_cond (S.tm rfl) (fun hb2 => ?_) (fun hb2 => ?_))
    ·replace h := iteT h hb2
     refine f_seq (f_region (lv S (rn_assign rfl) rfl ?_)); clear S; intro a S
     refine l_done (then_n (wp_ret (blk_r (then_r (then_r (blk_r ?_))))))
     refine then_r (then_r ?_)
     obtain rfl := Option.some.inj h
     exact f_ret S Tryz.results24 rfl rfl
    ·replace h := iteF h hb2
     refine wp_skip (blk_n (then_n (f_region (lv S (rn_add (S.tm rfl) rfl) rfl ?_)))); clear S; intro a S
     refine lv S (rn_move (S.tm rfl)) rfl ?_; clear S; intro a S
     refine l_done (then_n ?_)
     exact ⟨ys1, ⟨i1 + 1, ⟨_, (hd1).trans (List.append_cons _ _ _), by simp [hi1]⟩, h, S.nf [] rfl ⟨rfl, rfl, rfl, (congrArg (fun z => some (Value.int .i64 z)) (rng_next hd1 hi1 (slc_max hs_p_s1))), trivial⟩⟩, Nat.lt_succ_self _⟩
  clear S h; rintro a w2 ⟨h, S⟩; rw [hj1] at h; clear hj1 j1
  refine then_n (f_seq (f_region (lv S (rn_assign rfl) rfl ?_))); clear S; intro a S
  refine l_done (then_n (wp_ret ?_))
  obtain rfl := Option.some.inj h
  exact f_ret S Tryz.results24 rfl rfl
set_option maxRecDepth 20000 in
theorem slices_Equal_Pair_ok (w : World) (v_p_s1 : Value) (p_s1 : List GPair) (hs_p_s1 : Slc (view w []) 2 v_p_s1 (p_s1.map GPair.enc)) (v_p_s2 : Value) (p_s2 : List GPair) (hs_p_s2 : Slc (view w []) 2 v_p_s2 (p_s2.map GPair.enc)) (r : Bool) (h : slices_Equal_Pair p_s1 p_s2 = some r) :
    Calls Tryz.prog 25 [v_p_s1, v_p_s2].toArray w (Ret w [] fun _ v _ => v = bV r) := by
 refine f_enter [] [] Tryz.func25 rfl Tryz.ntmps25 rfl (by simp) (by simp [fps]) (by simp [fps]) fun a S => ?_
 unfold slices_Equal_Pair at h
 replace S := S.nk [] [(0, v_p_s1), (1, v_p_s2)] [] rfl (subR rfl)
 refine f_seq (f_region (lv S (rn_assign rfl) rfl ?_)); clear S; intro a S
 refine l_done (then_n (f_seq (f_seq (f_region (lv S (rn_move (S.tm rfl)) rfl ?_))))); clear S; intro a S
 refine lv S (rn_lenT sl_41 (S.tm rfl) (slc_len hs_p_s1)) rfl ?_; clear S; intro a S
 refine lv S (rn_move (S.tm rfl)) rfl ?_; clear S; intro a S
 refine lv S (rn_lenT sl_41 (S.tm rfl) (slc_len hs_p_s2)) rfl ?_; clear S; intro a S
 refine lv S (rn_neq (S.tm rfl) (S.tm rfl)) rfl ?_; clear S; intro a S
 refine l_done (then_n (f_cond (S.tm rfl) (fun hb1 => ?_) (fun hb1 => ?_)))
 ·replace h := iteT h hb1
  refine f_seq (f_region (lv S (rn_assign rfl) rfl ?_)); clear S; intro a S
  refine l_done (then_n (wp_ret (then_r ?_)))
  obtain rfl := Option.some.inj h
  exact f_ret S Tryz.results25 rfl rfl
 ·replace h := iteF h hb1
  refine wp_skip (then_n (f_seq (f_seq (f_region (lv S (rn_move (S.tm rfl)) rfl ?_))))); clear S; intro a S
  refine lv S (rn_lenT sl_41 (S.tm rfl) (slc_len hs_p_s1)) rfl ?_; clear S; intro a S
  refine lv S (rn_move rfl) rfl ?_; clear S; intro a S
  refine l_done (then_n ?_)
  replace S := S.nk [] [(0, v_p_s1), (1, v_p_s2), (12, iV (p_s1.length : Int)), (13, iV 0)] [] rfl (subR rfl)
  obtain ⟨j1, hj1, h⟩ := joinE h
  refine f_join (fun a w' => j1 = some r ∧ Sx w [] nov [] [] 26 a w') ?_ ?_
  ·refine wp_block (f_loop (fun (ys1 : List GPair) a w' => ∃ i1 : Nat, (∃ dn, p_s1 = dn ++ ys1 ∧ dn.length = i1) ∧ slices_Equal_Pair_l1 p_s2 j1 ys1 i1 = some r ∧ Sx w [] nov [] [(0, v_p_s1), (1, v_p_s2), (12, iV (p_s1.length : Int)), (13, iV (i1 : Int))] 26 a w') List.length p_s1 ⟨0, ⟨[], rfl, rfl⟩, h, S.nf [] rfl (subR rfl)⟩ ?_)
   clear S h; rintro ys1 a w1 ⟨i1, ⟨dn, hd1, hi1⟩, h, S⟩
   cases ys1 with
   | nil =>
    rw [slices_Equal_Pair_l1.eq_1] at h
    refine f_seq (f_region (lv S (rn_lss (S.tm rfl) (S.tm rfl)) rfl ?_)); clear S; intro a S
    refine l_done ?_
    replace S := S.nk [] [(0, v_p_s1), (1, v_p_s2), (12, iV (p_s1.length : Int)), (13, iV (i1 : Int)), (14, bV (decide ((i1 : Int) < (p_s1.length : Int))))] [] rfl (subR rfl)
    refine then_n (f_seq (wp_cond_false ((S.tm rfl).trans (congrArg Value.bool (rng_nil hd1 hi1))) (wp_exit (then_x (then_x (x_same ?_))))))
    refine then_n ?_
    exact ⟨h, S.nf [] rfl trivial⟩
   | cons y1 ys1 =>
    rw [slices_Equal_Pair_l1.eq_2] at h
    refine f_seq (f_region (lv S (rn_lss (S.tm rfl) (S.tm rfl)) rfl ?_)); clear S; intro a S
    refine l_done ?_
    replace S := S.nk [] [(0, v_p_s1), (1, v_p_s2), (12, iV (p_s1.length : Int)), (13, iV (i1 : Int)), (14, bV (decide ((i1 : Int) < (p_s1.length : Int))))] [] rfl (subR rfl)
    refine then_n (f_seq (wp_cond_true ((S.tm rfl).trans (congrArg Value.bool (rng_cons hd1 hi1))) (wp_skip (then_n (f_seq (wp_block ?_))))))
    refine f_seq (f_region (lv S (rn_move (S.tm rfl)) rfl ?_)); clear S; intro a S
    refine lv S (rn_assign (S.tm rfl)) rfl ?_; clear S; intro a S
    refine l_done (then_n (f_seq (d_region [] ([]) Tryz.mixed S rfl (by kernel_rfl) ?_))); clear S; intro w3 hk1 hsel S
    refine d_rest [0, 1, 2, 3, 4, 5, 6, 7, 8] hsel (by kernel_rfl) rfl ?_
    clear hsel
    refine s_lv S rfl (rn_move (S.tm rfl)) rfl ?_; clear S; intro a S
    refine s_lv S rfl (rn_move (S.tm rfl)) rfl ?_; clear S; intro a S
    obtain ⟨b1, o1, hm1, hr1⟩ := rn_indexT (a := a) (x := .tmp 16) (y := .tmp 17) (ty := 0) sl_41 hs_p_s1 (get_mid hd1 hi1) rfl (S.tm rfl) (S.tm rfl)
    refine s_lv S rfl (hr1 _) rfl ?_; clear S; intro a S
    clear hr1
    refine s_lv S rfl (rn_ldA Tryz.isAgg63 Tryz.sizeOf63 (off := o1) (o := 0) (part := (GPair.enc y1)) rfl rfl (S.tm rfl) (hm1.at S.emb0)) rfl ?_; clear S; intro a S
    refine s_lv S rfl (rn_move (S.tm rfl)) rfl ?_; clear S; intro a S
    refine s_lv S rfl (rn_move (S.tm rfl)) rfl ?_; clear S; intro a S
    obtain ⟨hc1, h⟩ := chkE h
    obtain ⟨b2, o2, hm2, hr2⟩ := rn_indexT (a := a) (x := .tmp 20) (y := .tmp 21) (ty := 0) sl_41 hs_p_s2 (inB_get hc1).1 (inB_get hc1).2 (S.tm rfl) (S.tm rfl)
    refine s_lv S rfl (hr2 _) rfl ?_; clear S; intro a S
    clear hr2
    refine s_lv S rfl (rn_ldA Tryz.isAgg63 Tryz.sizeOf63 (off := o2) (o := 0) (part := (GPair.enc (nth p_s2 (i1 : Int)))) rfl rfl (S.tm rfl) (hm2.at S.emb0)) rfl ?_; clear S; intro a S
    refine s_lv S rfl (rn_neq_63 (m := y1) (n := (nth p_s2 (i1 : Int))) (S.tm rfl) (S.tm rfl)) rfl ?_; clear S; intro a S
    refine s_done ?_
    replace S := S.nk [] [(0, v_p_s1), (1, v_p_s2), (12, iV (p_s1.length : Int)), (13, iV (i1 : Int)), (24, bV (!decide (y1 = (nth p_s2 (i1 : Int)))))] [] rfl (subR rfl)
    refine then_n (f_cond (S.tm rfl) (fun hb2 => ?_) (fun hb2 => ?_))
    ·replace h := iteT h hb2
     refine f_seq (f_region (lv S (rn_assign rfl) rfl ?_)); clear S; intro a S
     refine l_done (then_n (wp_ret (blk_r (then_r (then_r (blk_r ?_))))))
     refine then_r (then_r ?_)
     obtain rfl := Option.some.inj h
     exact f_ret S Tryz.results25 rfl rfl
    ·replace h := iteF h hb2
     refine wp_skip (blk_n (then_n (f_region (lv S (rn_add (S.tm rfl) rfl) rfl ?_)))); clear S; intro a S
     refine lv S (rn_move (S.tm rfl)) rfl ?_; clear S; intro a S
     refine l_done (then_n ?_)
     exact ⟨ys1, ⟨i1 + 1, ⟨_, (hd1).trans (List.append_cons _ _ _), by simp [hi1]⟩, h, S.nf [] rfl ⟨rfl, rfl, rfl, (congrArg (fun z => some (Value.int .i64 z)) (rng_next hd1 hi1 (slc_max hs_p_s1))), trivial⟩⟩, Nat.lt_succ_self _⟩
  clear S h; rintro a w2 ⟨h, S⟩; rw [hj1] at h; clear hj1 j1
  refine then_n (f_seq (f_region (lv S (rn_assign rfl) rfl ?_))); clear S; intro a S
  refine l_done (then_n (wp_ret ?_))
  obtain rfl := Option.some.inj h
  exact f_ret S Tryz.results25 rfl rfl
theorem session_Timetable_ok (w : World) (v_p_l : Value) (p_l : List GItem) (hs_p_l : Slc (view w []) 5 v_p_l (p_l.map GItem.enc)) (p_from : Int) (r : (List GSlot) × Int) (h : session_Timetable p_l p_from = some r) :
    Calls Tryz.prog 89 [v_p_l, iV p_from].toArray w (Ret w [] fun τ v _ => ∃ u1 : Value, v = .tuple #[u1, iV r.2] ∧ OwnV τ 57 4 u1 r.1.length (r.1.flatMap GSlot.enc)) := by
 refine f_enter [] [] Tryz.func89 rfl Tryz.ntmps89 rfl (by simp) (by simp [fps]) (by simp [fps]) fun a S => ?_
 unfold session_Timetable at h
 replace S := S.nk [] [(0, v_p_l), (1, iV p_from)] [] rfl (subR rfl)
 refine f_seq (f_region (lv S (rn_assign rfl) rfl ?_)); clear S; intro a S
 refine lv S (rn_assign rfl) rfl ?_; clear S; intro a S
 refine l_done (then_n (f_seq (f_seq (f_region (lv S (rn_move (S.tm rfl)) rfl ?_))))); clear S; intro a S
 obtain ⟨r1, hr1, h⟩ := bindE h
 refine l_enter S (fun _ => run_call (vs := [v_p_l]) ⟨(S.tm rfl), trivial⟩ Tryz.call60) (session_CheckItems_ok _ v_p_l p_l (hs_p_l.mono (S.le_arg nil_sub)) _ hr1) rfl ?_; clear S; intro v1 a w1 hv1 hk1 hn1 S
 subst hv1
 refine lv S (rn_assign (S.tm rfl)) rfl ?_; clear S; intro a S
 refine l_done (then_n (f_seq (f_region (lv S (rn_move (S.tm rfl)) rfl ?_)))); clear S; intro a S
 refine lv S (rn_neq (S.tm rfl) rfl) rfl ?_; clear S; intro a S
 refine l_done (then_n (f_cond (S.tm rfl) (fun hb1 => ?_) (fun hb1 => ?_)))
 ·replace h := iteT h hb1
  refine f_seq (f_region (lv S (rn_move (S.tm rfl)) rfl ?_)); clear S; intro a S
  refine lv S (rn_assign rfl) rfl ?_; clear S; intro a S
  refine lv S (rn_assign (S.tm rfl)) rfl ?_; clear S; intro a S
  refine l_done (then_n (wp_ret (then_r ?_)))
  obtain rfl := Option.some.inj h
  exact f_ret2 S Tryz.results89 rfl rfl ⟨_, rfl, (ownV_nil _ _ _)⟩
 ·replace h := iteF h hb1
  refine wp_skip (then_n (f_seq (f_region (lv S (rn_move (S.tm rfl)) rfl ?_)))); clear S; intro a S
  refine lv S (rn_move (S.tm rfl)) rfl ?_; clear S; intro a S
  obtain ⟨r2, hr2, h⟩ := bindE h
  have hz1 := S.keep.size
  refine l_enter S (fun _ => run_call (vs := [v_p_l, iV p_from]) ⟨(S.tm rfl), (S.tm rfl), trivial⟩ Tryz.call33) (session_begin_ok _ v_p_l p_l (hs_p_l.mono (S.le_arg nil_sub)) p_from _ hr2) rfl ?_; clear S; intro v2 a w2 hv2 hk2 hn2 S
  obtain ⟨u1, rfl, ho1⟩ := hv2
  obtain ⟨φ1, hl1, hm1, S⟩ := S.see' hn2 hz1
  have hs1 := ho1.mono hm1
  refine lv S (rn_extract (S.tm rfl) rfl) rfl ?_; clear S; intro a S
  refine lv S (rn_extract (S.tm rfl) rfl) rfl ?_; clear S; intro a S
  refine lv S (rn_assign (S.tm rfl)) rfl ?_; clear S; intro a S
  refine lv S (rn_assign (S.tm rfl)) rfl ?_; clear S; intro a S
  refine l_done (then_n (wp_ret ?_))
  obtain rfl := Option.some.inj h
  exact f_ret2 S Tryz.results89 rfl rfl ⟨_, rfl, ((hs1).mono S.le_newer)⟩
theorem session_Ends_ok (w : World) (v_p_l : Value) (p_l : List GItem) (hs_p_l : Slc (view w []) 5 v_p_l (p_l.map GItem.enc)) (p_from : Int) (r : Int × Int) (h : session_Ends p_l p_from = some r) :
    Calls Tryz.prog 63 [v_p_l, iV p_from].toArray w (Ret w [] fun _ v _ => v = .tuple #[iV r.1, iV r.2]) := by
 refine f_enter [] [] Tryz.func63 rfl Tryz.ntmps63 rfl (by simp) (by simp [fps]) (by simp [fps]) fun a S => ?_
 unfold session_Ends at h
 replace S := S.nk [] [(0, v_p_l), (1, iV p_from)] [] rfl (subR rfl)
 refine f_seq (f_region (lv S (rn_assign rfl) rfl ?_)); clear S; intro a S
 refine lv S (rn_assign rfl) rfl ?_; clear S; intro a S
 refine l_done (then_n (f_seq (f_region (lv S (rn_move (S.tm rfl)) rfl ?_)))); clear S; intro a S
 refine lv S (rn_move (S.tm rfl)) rfl ?_; clear S; intro a S
 obtain ⟨r1, hr1, h⟩ := bindE h
 have hz1 := S.keep.size
 refine l_enter S (fun _ => run_call (vs := [v_p_l, iV p_from]) ⟨(S.tm rfl), (S.tm rfl), trivial⟩ Tryz.call89) (session_Timetable_ok _ v_p_l p_l (hs_p_l.mono (S.le_arg nil_sub)) p_from _ hr1) rfl ?_; clear S; intro v1 a w1 hv1 hk1 hn1 S
 obtain ⟨u1, rfl, ho1⟩ := hv1
 obtain ⟨φ1, hl1, hm1, S⟩ := S.see' hn1 hz1
 have hs1 := ho1.mono hm1
 refine lv S (rn_move (S.tm rfl)) rfl ?_; clear S; intro a S
 refine lv S (rn_extract (S.tm rfl) rfl) rfl ?_; clear S; intro a S
 refine lv S (rn_extract (S.tm rfl) rfl) rfl ?_; clear S; intro a S
 refine lv S (rn_assign (S.tm rfl)) rfl ?_; clear S; intro a S
 refine lv S (rn_assign (S.tm rfl)) rfl ?_; clear S; intro a S
 refine l_done (then_n (f_seq (f_seq (f_region (lv S (rn_move (S.tm rfl)) rfl ?_))))); clear S; intro a S
 refine lv S (rn_neq (S.tm rfl) rfl) rfl ?_; clear S; intro a S
 refine l_done (then_n (f_cond (S.tm rfl) (fun hb1 => ?_) (fun hb1 => ?_)))
 ·replace h := iteT h hb1
  refine f_seq (f_region (lv S (rn_move (S.tm rfl)) rfl ?_)); clear S; intro a S
  refine lv S (rn_assign rfl) rfl ?_; clear S; intro a S
  refine lv S (rn_assign (S.tm rfl)) rfl ?_; clear S; intro a S
  refine l_done ?_
  replace S := S.nk [] [(4, iV 0), (5, iV r1.2)] [] rfl (subR rfl)
  refine then_n (wp_ret (then_r ?_))
  obtain rfl := Option.some.inj h
  exact f_ret2 S Tryz.results63 rfl rfl rfl
 ·replace h := iteF h hb1
  refine wp_skip (then_n (f_seq (f_region (lv S (rn_move (S.tm rfl)) rfl ?_)))); clear S; intro a S
  refine lv S (rn_move (S.tm rfl)) rfl ?_; clear S; intro a S
  obtain ⟨r2, hr2, h⟩ := bindE h
  refine l_enter S (fun _ => run_call (vs := [u1, iV p_from]) ⟨(S.tm rfl), (S.tm rfl), trivial⟩ Tryz.call72) (session_end_ok _ u1 r1.1 ((ownV_slcT GSlot.enc_ok hs1).mono (S.le_new nil_sub)) p_from _ hr2) rfl ?_; clear S; intro v2 a w2 hv2 hk2 hn2 S
  subst hv2
  refine lv S (rn_assign (S.tm rfl)) rfl ?_; clear S; intro a S
  refine lv S (rn_assign rfl) rfl ?_; clear S; intro a S
  refine l_done ?_
  replace S := S.nk [] [(4, iV r2), (5, iV 0)] [] rfl (subR rfl)
  refine then_n (wp_ret ?_)
  obtain rfl := Option.some.inj h
  exact f_ret2 S Tryz.results63 rfl rfl rfl
theorem tumblaw2_timed_ok (w : World) (r : Bool) (h : tumblaw2_timed = some r) :
    Calls Tryz.prog 26 [].toArray w (Ret w [] fun _ v _ => v = bV r) := by
 refine f_enter [] [] Tryz.func26 rfl Tryz.ntmps26 rfl (by simp) (by simp [fps]) (by simp [fps]) fun a S => ?_
 unfold tumblaw2_timed at h
 replace S := S.nk [] [] [] rfl trivial
 refine f_seq (f_region (lv S (rn_assign rfl) rfl ?_)); clear S; intro a S
 refine l_done (then_n (f_seq (f_region (lv S (rn_bld bt_69 (pv := [(0, sV k_a), (1, iV 2), (2, iV 10), (3, iV 5)]) ⟨rfl, rfl, rfl, rfl, rfl, rfl, rfl, rfl, trivial⟩ (cs := [sV k_a, iV 2, iV 10, iV 5, iV 0]) (by kernel_rfl)) rfl ?_)))); clear S; intro a S
 refine l_buildSlice S Tryz.underlying26 Tryz.sizeOf69 Tryz.zeroValue69 rfl rfl (pv := [(0, .agg #[sV k_a, iV 2, iV 10, iV 5, iV 0])]) ⟨rfl, (S.tm rfl), trivial⟩ (cs := [sV k_a, iV 2, iV 10, iV 5, iV 0]) (by kernel_rfl) rfl ?_; clear S; intro a w1 b1 hz1 hk1 S
 obtain ⟨r1, hr1, h⟩ := bindE h
 refine l_enter S (fun _ => run_call (vs := [.slice (some ⟨b1, 0, none⟩) 1 1, iV 0]) ⟨(S.tm rfl), rfl, trivial⟩ Tryz.call63) (session_Ends_ok _ (.slice (some ⟨b1, 0, none⟩) 1 1) [(GItem.mk k_a 2 10 5 0)] (lit_slcT GItem.enc_ok S (i := 0) rfl rfl rfl rfl ((ne_nil (e' := .blk b1 [sV k_a, iV 2, iV 10, iV 5, iV 0] 69)) _ rfl)) 0 _ hr1) rfl ?_; clear S; intro v1 a w2 hv1 hk2 hn1 S
 subst hv1
 refine lv S (rn_move (S.tm rfl)) rfl ?_; clear S; intro a S
 refine lv S (rn_extract (S.tm rfl) rfl) rfl ?_; clear S; intro a S
 refine lv S (rn_extract (S.tm rfl) rfl) rfl ?_; clear S; intro a S
 refine lv S (rn_assign (S.tm rfl)) rfl ?_; clear S; intro a S
 refine lv S (rn_assign (S.tm rfl)) rfl ?_; clear S; intro a S
 refine l_done (then_n (f_seq (f_region (lv S (rn_move (S.tm rfl)) rfl ?_)))); clear S; intro a S
 refine lv S (rn_eql (S.tm rfl) rfl) rfl ?_; clear S; intro a S
 refine lv S (rn_move (S.tm rfl)) rfl ?_; clear S; intro a S
 refine f_cutm 3 (fun a w' => Keep [] w2 w' ∧ Sx w [] nov [.blk b1 [sV k_a, iV 2, iV 10, iV 5, iV 0] 69] [(14, bV ((decide (r1.2 = 0)) && (decide (r1.1 = 25))))] 15 a w') ?_ ?_
 ·rcases Bool.eq_false_or_eq_true (decide (r1.2 = 0)) with hb1 | hb1
  ·refine l_want S rfl rfl rfl hb1 (lv S (rn_move (S.tm rfl)) rfl ?_); clear S; intro a S
   refine l_want S rfl rfl rfl hb1 (lv S (rn_eql (S.tm rfl) rfl) rfl ?_); clear S; intro a S
   refine lv S (rn_and_t hb1 (S.tm rfl) (S.tm rfl)) rfl ?_; clear S; intro a S
   refine l_done (then_n ?_)
   exact ⟨Keep.refl _ _, S.nf [true] rfl ⟨rfl, trivial⟩⟩
  ·refine l_skip S rfl rfl rfl (neq_f hb1) rfl ?_ rfl; clear S; intro a S
   refine l_skip S rfl rfl rfl (neq_f hb1) rfl ?_ rfl; clear S; intro a S
   refine lv S (rn_and_f (decide (r1.1 = 25)) hb1 (S.tm rfl) rfl) rfl ?_; clear S; intro a S
   refine l_done (then_n ?_)
   exact ⟨Keep.refl _ _, S.nf [true] rfl ⟨rfl, trivial⟩⟩
 clear S; rintro a w3 ⟨hk3, S⟩
 refine lv S (rn_assign (S.tm rfl)) rfl ?_; clear S; intro a S
 refine l_done (then_n (wp_ret ?_))
 obtain rfl := Option.some.inj h
 exact f_ret S Tryz.results26 rfl rfl
theorem tumblaw2_SwimmersRest_ok (w : World) (v_p_l : Value) (p_l : List Int) (hs_p_l : Slc (view w []) 1 v_p_l (p_l.map eInt)) (r : Bool) (h : tumblaw2_SwimmersRest p_l = some r) :
    Calls Tryz.prog 3 [v_p_l].toArray w (Ret w [] fun _ v _ => v = bV r) := by
 refine f_enter [] [] Tryz.func3 rfl Tryz.ntmps3 rfl (by simp) (by simp [fps]) (by simp [fps]) fun a S => ?_
 unfold tumblaw2_SwimmersRest at h
 replace S := S.nk [] [(0, v_p_l)] [] rfl ⟨rfl, trivial⟩
 refine f_seq (f_region (lv S (rn_assign rfl) rfl ?_)); clear S; intro a S
 refine l_done (then_n (f_seq (f_region (lv S (rn_move (S.tm rfl)) rfl ?_)))); clear S; intro a S
 refine lv S (rn_bld bt_25 (pv := [(0, v_p_l)]) ⟨rfl, (S.tm rfl), trivial⟩ (cs := [v_p_l, iV 0]) (by obtain ⟨_, _, hv⟩ := (slc_len hs_p_l); rw [hv]; clear hv; kernel_rfl)) rfl ?_; clear S; intro a S
 refine l_box S (S.tm rfl) (cs := [v_p_l, iV 0]) rfl rfl ?_; clear S; intro a w1 b1 hz1 hk1 S
 refine lv S (rn_assign (S.tm rfl)) rfl ?_; clear S; intro a S
 refine l_done (then_n (f_seq (f_region (lv S (rn_move (S.tm rfl)) rfl ?_)))); clear S; intro a S
 obtain ⟨r1, hr1, h⟩ := bindE h
 have hz2 := S.keep.size
 refine l_enter1 0 S (b := b1) rfl rfl (fun _ => .blk b1 [v_p_l, iV r1.2] 25) (fun _ => run_call (vs := [.pointer (some ⟨b1, 0, none⟩), iV 5]) ⟨(S.tm rfl), rfl, trivial⟩ Tryz.call4) (Stream_Items_ok _ b1 v_p_l p_l (hs_p_l.mono (S.le_arg (fp_sub (i := 0) (e := .blk b1 [v_p_l, iV 0] 25) rfl))) 0 (S.holds _ (List.mem_of_getElem? (i := 0) rfl)) 5 _ hr1) rfl (fun _ _ _ h => ⟨h.1, fun _ hc => by cases hc; rfl⟩) ?_; clear S; intro v1 a w2 hv1 hk2 hn1 S
 replace hv1 := hv1.2
 obtain ⟨φ1, hl1, hm1, S⟩ := S.see' hn1 hz2
 have hs1 := hv1.mono hm1
 refine lv S (rn_move (S.tm rfl)) rfl ?_; clear S; intro a S
 obtain ⟨r2, hr2, h⟩ := bindE h
 refine l_enter1 0 S (b := b1) rfl rfl (fun _ => .blk b1 [v_p_l, iV r2.2] 25) (fun _ => run_call (vs := [.pointer (some ⟨b1, 0, none⟩)]) ⟨(S.tm rfl), trivial⟩ Tryz.call5) (Stream_SessionStart_ok _ b1 v_p_l p_l (hs_p_l.mono (S.le_arg (fp_sub (i := 0) (e := .blk b1 [v_p_l, iV r1.2] 25) rfl))) r1.2 (S.holds _ (List.mem_of_getElem? (i := 0) rfl)) _ hr2) rfl (fun _ _ _ h => ⟨h.1, fun _ hc => by cases hc; rfl⟩) ?_; clear S; intro v2 a w3 hv2 hk3 hn2 S
 replace hv2 := hv2.2
 subst hv2
 refine lv S (rn_move (S.tm rfl)) rfl ?_; clear S; intro a S
 refine l_buildSlice S Tryz.underlying22 Tryz.sizeOf3 Tryz.zeroValue3 rfl rfl (pv := [(0, iV 0), (1, iV 50), (2, iV 100), (3, iV 200), (4, iV (-1)), (5, iV 3600001)]) ⟨rfl, rfl, rfl, rfl, rfl, rfl, rfl, rfl, rfl, rfl, rfl, rfl, trivial⟩ (cs := [iV 0, iV 50, iV 100, iV 200, iV (-1), iV 3600001]) (by kernel_rfl) rfl ?_; clear S; intro a w4 b2 hz3 hk4 S
 obtain ⟨r3, hr3, h⟩ := bindE h
 refine l_enter1 1 S (b := b1) rfl rfl (fun _ => .blk b1 [v_p_l, iV r3.2] 25) (fun _ => run_call (vs := [.pointer (some ⟨b1, 0, none⟩), .slice (some ⟨b2, 0, none⟩) 6 6]) ⟨(S.tm rfl), (S.tm rfl), trivial⟩ Tryz.call6) (Stream_Pick_ok _ b1 v_p_l p_l (hs_p_l.mono (S.le_arg (fp_sub (i := 1) (e := .blk b1 [v_p_l, iV r2.2] 25) rfl))) r2.2 (S.holds _ (List.mem_of_getElem? (i := 1) rfl)) (.slice (some ⟨b2, 0, none⟩) 6 6) [0, 50, 100, 200, (-1), 3600001] (lit_slcT enc_int S (i := 0) rfl rfl rfl rfl ((ne_fp (i := 1) (j := 0) (e := .blk b1 [v_p_l, iV r2.2] 25) (e' := .blk b2 [iV 0, iV 50, iV 100, iV 200, iV (-1), iV 3600001] 3) S rfl rfl rfl) _ rfl)) _ hr3) rfl (fun _ _ _ h => ⟨h.1, fun _ hc => by cases hc; rfl⟩) ?_; clear S; intro v3 a w5 hv3 hk5 hn3 S
 replace hv3 := hv3.2
 subst hv3
 iterate 3 (refine lv S (rn_assign (S.tm rfl)) rfl ?_; clear S; intro a S)
 refine l_done ?_
 replace S := S.nk [.blk b1 [v_p_l, iV r3.2] 25] [(3, .pointer (some ⟨b1, 0, none⟩)), (4, v1), (5, iV r2.1), (6, iV r3.1)] [false, true] rfl (subR rfl)
 refine then_n (f_seq (f_region (lv S (rn_move (S.tm rfl)) rfl ?_))); clear S; intro a S
 refine lv S (rn_move (S.tm rfl)) rfl ?_; clear S; intro a S
 obtain ⟨r4, hr4, h⟩ := bindE h
 have hz4 := S.keep.size
 refine l_enter1 0 S (b := b1) rfl rfl (fun _ => .blk b1 [v_p_l, iV r4.2] 25) (fun _ => run_call (vs := [.pointer (some ⟨b1, 0, none⟩), v1]) ⟨(S.tm rfl), (S.tm rfl), trivial⟩ Tryz.call7) (Stream_Calls_ok _ b1 v_p_l p_l (hs_p_l.mono (S.le_arg (fp_sub (i := 0) (e := .blk b1 [v_p_l, iV r3.2] 25) rfl))) r3.2 (S.holds _ (List.mem_of_getElem? (i := 0) rfl)) v1 r1.1 ((ownV_slcT GItem.enc_ok hs1).mono (S.le_new (fp_sub (i := 0) (e := .blk b1 [v_p_l, iV r3.2] 25) rfl))) _ hr4) rfl (fun _ _ _ h => ⟨h.1, fun _ hc => by cases hc; rfl⟩) ?_; clear S; intro v4 a w6 hv4 hk6 hn4 S
 replace hv4 := hv4.2
 obtain ⟨φ2, hl2, hm2, S⟩ := S.see' hn4 hz4
 have hs2 := hv4.mono hm2
 refine lv S (rn_move (S.tm rfl)) rfl ?_; clear S; intro a S
 refine l_buildSlice S Tryz.underlying75 Tryz.sizeOf9 Tryz.zeroValue9 rfl rfl (pv := [(0, sV k_ann), (1, sV k_bea), (2, sV k_zed), (3, sV k_empty)]) ⟨rfl, rfl, rfl, rfl, rfl, rfl, rfl, rfl, trivial⟩ (cs := [sV k_ann, sV k_bea, sV k_zed, sV k_empty]) (by kernel_rfl) rfl ?_; clear S; intro a w7 b3 hz5 hk7 S
 obtain ⟨r5, hr5, h⟩ := bindE h
 refine l_enter1 1 S (b := b1) rfl rfl (fun _ => .blk b1 [v_p_l, iV r5.2] 25) (fun _ => run_call (vs := [.pointer (some ⟨b1, 0, none⟩), .slice (some ⟨b3, 0, none⟩) 4 4]) ⟨(S.tm rfl), (S.tm rfl), trivial⟩ Tryz.call8) (Stream_Some_ok _ b1 v_p_l p_l (hs_p_l.mono (S.le_arg (fp_sub (i := 1) (e := .blk b1 [v_p_l, iV r4.2] 25) rfl))) r4.2 (S.holds _ (List.mem_of_getElem? (i := 1) rfl)) (.slice (some ⟨b3, 0, none⟩) 4 4) [k_ann, k_bea, k_zed, k_empty] (lit_slcT enc_str S (i := 0) rfl rfl rfl rfl ((ne_fp (i := 1) (j := 0) (e := .blk b1 [v_p_l, iV r4.2] 25) (e' := .blk b3 [sV k_ann, sV k_bea, sV k_zed, sV k_empty] 9) S rfl rfl rfl) _ rfl)) _ hr5) rfl (fun _ _ _ h => ⟨h.1, fun _ hc => by cases hc; rfl⟩) ?_; clear S; intro v5 a w8 hv5 hk8 hn5 S
 replace hv5 := hv5.2
 subst hv5
 refine lv S (rn_assign (S.tm rfl)) rfl ?_; clear S; intro a S
 refine lv S (rn_assign (S.tm rfl)) rfl ?_; clear S; intro a S
 refine l_done (then_n (f_seq (f_region (lv S (rn_move (S.tm rfl)) rfl ?_)))); clear S; intro a S
 iterate 3 (refine lv S (rn_move (S.tm rfl)) rfl ?_; clear S; intro a S)
 obtain ⟨r6, hr6, h⟩ := bindE h
 have hz6 := S.keep.size
 refine l_enter S (fun _ => run_call (vs := [v1, v4, sV r5.1, iV r2.1]) ⟨(S.tm rfl), (S.tm rfl), (S.tm rfl), (S.tm rfl), trivial⟩ Tryz.call9) (session_Calls_ok _ v1 r1.1 ((ownV_slcT GItem.enc_ok hs1).mono (View.le_trans hl2 (S.le_new nil_sub))) v4 r4.1 ((ownV_slcT GCall.enc_ok hs2).mono (S.le_new nil_sub)) r5.1 r2.1 _ hr6) rfl ?_; clear S; intro v6 a w9 hv6 hk9 hn6 S
 obtain ⟨u3, rfl, ho3⟩ := hv6
 obtain ⟨φ3, hl3, hm3, S⟩ := S.see' hn6 hz6
 have hs3 := ho3.mono hm3
 refine lv S (rn_move (S.tm rfl)) rfl ?_; clear S; intro a S
 refine lv S (rn_extract (S.tm rfl) rfl) rfl ?_; clear S; intro a S
 refine lv S (rn_extract (S.tm rfl) rfl) rfl ?_; clear S; intro a S
 refine lv S (rn_assign (S.tm rfl)) rfl ?_; clear S; intro a S
 refine lv S (rn_assign (S.tm rfl)) rfl ?_; clear S; intro a S
 refine l_done ?_
 replace S := S.nk [] [(4, v1), (5, iV r2.1), (6, iV r3.1), (7, v4), (8, sV r5.1), (9, u3), (10, iV r6.2)] [false, false] rfl (subR rfl)
 refine then_n (f_seq (f_region (lv S (rn_move (S.tm rfl)) rfl ?_))); clear S; intro a S
 refine lv S (rn_move (S.tm rfl)) rfl ?_; clear S; intro a S
 refine lv S (rn_move (S.tm rfl)) rfl ?_; clear S; intro a S
 obtain ⟨r7, hr7, h⟩ := bindE h
 have hz7 := S.keep.size
 refine l_enter S (fun _ => run_call (vs := [v1, v4, iV r2.1]) ⟨(S.tm rfl), (S.tm rfl), (S.tm rfl), trivial⟩ Tryz.call10) (session_Rests_ok _ v1 r1.1 ((ownV_slcT GItem.enc_ok hs1).mono (View.le_trans (View.le_trans hl2 hl3) (S.le_new nil_sub))) v4 r4.1 ((ownV_slcT GCall.enc_ok hs2).mono (View.le_trans hl3 (S.le_new nil_sub))) r2.1 _ hr7) rfl ?_; clear S; intro v7 a w10 hv7 hk10 hn7 S
 obtain ⟨u4, rfl, ho4⟩ := hv7
 obtain ⟨φ4, hl4, hm4, S⟩ := S.see' hn7 hz7
 have hs4 := ho4.mono hm4
 refine lv S (rn_move (S.tm rfl)) rfl ?_; clear S; intro a S
 refine lv S (rn_extract (S.tm rfl) rfl) rfl ?_; clear S; intro a S
 refine lv S (rn_extract (S.tm rfl) rfl) rfl ?_; clear S; intro a S
 refine lv S (rn_assign (S.tm rfl)) rfl ?_; clear S; intro a S
 refine lv S (rn_assign (S.tm rfl)) rfl ?_; clear S; intro a S
 refine l_done ?_
 replace S := S.nk [] [(4, v1), (5, iV r2.1), (6, iV r3.1), (7, v4), (8, sV r5.1), (9, u3), (10, iV r6.2), (11, u4), (12, iV r7.2)] [] rfl (subR rfl)
 refine then_n (f_seq (f_region (lv S (rn_move (S.tm rfl)) rfl ?_))); clear S; intro a S
 iterate 3 (refine lv S (rn_move (S.tm rfl)) rfl ?_; clear S; intro a S)
 obtain ⟨r8, hr8, h⟩ := bindE h
 have hz8 := S.keep.size
 refine l_enter S (fun _ => run_call (vs := [v1, v4, iV r2.1, iV r3.1]) ⟨(S.tm rfl), (S.tm rfl), (S.tm rfl), (S.tm rfl), trivial⟩ Tryz.call11) (session_Short_ok _ v1 r1.1 ((ownV_slcT GItem.enc_ok hs1).mono (View.le_trans (View.le_trans (View.le_trans hl2 hl3) hl4) (S.le_new nil_sub))) v4 r4.1 ((ownV_slcT GCall.enc_ok hs2).mono (View.le_trans (View.le_trans hl3 hl4) (S.le_new nil_sub))) r2.1 r3.1 _ hr8) rfl ?_; clear S; intro v8 a w11 hv8 hk11 hn8 S
 obtain ⟨u5, rfl, ho5⟩ := hv8
 obtain ⟨φ5, hl5, hm5, S⟩ := S.see' hn8 hz8
 have hs5 := ho5.mono hm5
 refine lv S (rn_move (S.tm rfl)) rfl ?_; clear S; intro a S
 refine lv S (rn_extract (S.tm rfl) rfl) rfl ?_; clear S; intro a S
 refine lv S (rn_extract (S.tm rfl) rfl) rfl ?_; clear S; intro a S
 refine lv S (rn_assign (S.tm rfl)) rfl ?_; clear S; intro a S
 refine lv S (rn_assign (S.tm rfl)) rfl ?_; clear S; intro a S
 refine l_done ?_
 replace S := S.nk [] [(4, v1), (5, iV r2.1), (6, iV r3.1), (7, v4), (8, sV r5.1), (9, u3), (10, iV r6.2), (11, u4), (12, iV r7.2), (13, u5), (14, iV r8.2)] [] rfl (subR rfl)
 refine then_n (f_seq (f_region (lv S (rn_move (S.tm rfl)) rfl ?_))); clear S; intro a S
 refine lv S (rn_move (S.tm rfl)) rfl ?_; clear S; intro a S
 obtain ⟨r9, hr9, h⟩ := bindE h
 have hz9 := S.keep.size
 refine l_enter S (fun _ => run_call (vs := [v1, v4]) ⟨(S.tm rfl), (S.tm rfl), trivial⟩ Tryz.call12) (session_Both_ok _ v1 r1.1 ((ownV_slcT GItem.enc_ok hs1).mono (View.le_trans (View.le_trans (View.le_trans (View.le_trans hl2 hl3) hl4) hl5) (S.le_new nil_sub))) v4 r4.1 ((ownV_slcT GCall.enc_ok hs2).mono (View.le_trans (View.le_trans (View.le_trans hl3 hl4) hl5) (S.le_new nil_sub))) _ hr9) rfl ?_; clear S; intro v9 a w12 hv9 hk12 hn9 S
 obtain ⟨u6, rfl, ho6⟩ := hv9
 obtain ⟨φ6, hl6, hm6, S⟩ := S.see' hn9 hz9
 have hs6 := ho6.mono hm6
 refine lv S (rn_move (S.tm rfl)) rfl ?_; clear S; intro a S
 refine lv S (rn_extract (S.tm rfl) rfl) rfl ?_; clear S; intro a S
 refine lv S (rn_extract (S.tm rfl) rfl) rfl ?_; clear S; intro a S
 refine lv S (rn_assign (S.tm rfl)) rfl ?_; clear S; intro a S
 refine lv S (rn_assign (S.tm rfl)) rfl ?_; clear S; intro a S
 refine l_done ?_
 replace S := S.nk [] [(4, v1), (5, iV r2.1), (6, iV r3.1), (7, v4), (8, sV r5.1), (9, u3), (10, iV r6.2), (11, u4), (12, iV r7.2), (13, u5), (14, iV r8.2), (15, u6), (16, iV r9.2)] [] rfl (subR rfl)
 refine then_n (f_seq (f_region (lv S (rn_move (S.tm rfl)) rfl ?_))); clear S; intro a S
 refine lv S (rn_move (S.tm rfl)) rfl ?_; clear S; intro a S
 obtain ⟨r10, hr10, h⟩ := bindE h
 refine l_enter S (fun _ => run_call (vs := [v1, v4]) ⟨(S.tm rfl), (S.tm rfl), trivial⟩ Tryz.call13) (tumbref2_CallsFault_ok _ v1 r1.1 ((ownV_slcT GItem.enc_ok hs1).mono (View.le_trans (View.le_trans (View.le_trans (View.le_trans (View.le_trans hl2 hl3) hl4) hl5) hl6) (S.le_new nil_sub))) v4 r4.1 ((ownV_slcT GCall.enc_ok hs2).mono (View.le_trans (View.le_trans (View.le_trans (View.le_trans hl3 hl4) hl5) hl6) (S.le_new nil_sub))) _ hr10) rfl ?_; clear S; intro v10 a w13 hv10 hk13 hn10 S
 subst hv10
 refine lv S (rn_assign (S.tm rfl)) rfl ?_; clear S; intro a S
 refine l_done ?_
 replace S := S.nk [] [(4, v1), (5, iV r2.1), (6, iV r3.1), (7, v4), (8, sV r5.1), (9, u3), (10, iV r6.2), (11, u4), (12, iV r7.2), (13, u5), (14, iV r8.2), (15, u6), (16, iV r9.2), (17, iV r10)] [] rfl (subR rfl)
 refine then_n (f_seq (f_region (lv S (rn_assign rfl) rfl ?_))); clear S; intro a S
 refine l_done ?_
 replace S := S.nk [] [(4, v1), (5, iV r2.1), (6, iV r3.1), (7, v4), (8, sV r5.1), (9, u3), (10, iV r6.2), (11, u4), (12, iV r7.2), (13, u5), (14, iV r8.2), (15, u6), (16, iV r9.2), (17, iV r10), (18, iV 0)] [] rfl (subR rfl)
 refine then_n (f_seq (f_seq (f_region (lv S (rn_move (S.tm rfl)) rfl ?_)))); clear S; intro a S
 refine lv S (rn_eql (S.tm rfl) rfl) rfl ?_; clear S; intro a S
 refine l_done ?_
 replace S := S.nk [] [(4, v1), (5, iV r2.1), (6, iV r3.1), (7, v4), (8, sV r5.1), (9, u3), (10, iV r6.2), (11, u4), (12, iV r7.2), (13, u5), (14, iV r8.2), (15, u6), (16, iV r9.2), (17, iV r10), (18, iV 0), (75, bV (decide (r10 = 0)))] [] rfl (subR rfl)
 refine then_n ?_
 obtain ⟨j1, hj1, h⟩ := joinE h
 refine f_join (fun a w' => ∃ x1 : Int, j1 x1 = some r ∧ Sx w [] φ6 [] [(4, v1), (5, iV r2.1), (6, iV r3.1), (7, v4), (8, sV r5.1), (9, u3), (10, iV r6.2), (11, u4), (12, iV r7.2), (13, u5), (14, iV r8.2), (15, u6), (16, iV r9.2), (17, iV r10), (18, iV x1)] 172 a w') ?_ ?_
 ·refine f_cond (S.tm rfl) (fun hb1 => ?_) (fun hb1 => ?_)
  ·replace h := iteT h hb1
   refine f_region (lv S (rn_move (S.tm rfl)) rfl ?_); clear S; intro a S
   refine lv S (rn_move (S.tm rfl)) rfl ?_; clear S; intro a S
   obtain ⟨r11, hr11, h⟩ := bindE h
   refine l_enter S (fun _ => run_call (vs := [v1, iV r2.1]) ⟨(S.tm rfl), (S.tm rfl), trivial⟩ Tryz.call14) (tumbref2_FromFault_ok _ v1 r1.1 ((ownV_slcT GItem.enc_ok hs1).mono (View.le_trans (View.le_trans (View.le_trans (View.le_trans (View.le_trans hl2 hl3) hl4) hl5) hl6) (S.le_new nil_sub))) r2.1 _ hr11) rfl ?_; clear S; intro v11 a w15 hv11 hk14 hn11 S
   subst hv11
   refine lv S (rn_assign (S.tm rfl)) rfl ?_; clear S; intro a S
   refine l_done ?_
   replace S := S.nk [] [(4, v1), (5, iV r2.1), (6, iV r3.1), (7, v4), (8, sV r5.1), (9, u3), (10, iV r6.2), (11, u4), (12, iV r7.2), (13, u5), (14, iV r8.2), (15, u6), (16, iV r9.2), (17, iV r10), (18, iV r11)] [] rfl (subR rfl)
   refine then_n ?_
   exact ⟨r11, h, S.nf [] rfl (subR rfl)⟩
  ·replace h := iteF h hb1
   refine wp_skip (then_n ?_)
   exact ⟨0, h, S.nf [] rfl (subR rfl)⟩
 clear S h; rintro a w14 ⟨x1, h, S⟩; rw [hj1] at h; clear hj1 j1
 refine then_n (f_seq (f_region (lv S (rn_move (S.tm rfl)) rfl ?_))); clear S; intro a S
 refine lv S (rn_move (S.tm rfl)) rfl ?_; clear S; intro a S
 obtain ⟨r12, hr12, h⟩ := bindE h
 refine l_enter S (fun _ => run_call (vs := [sV r5.1]) ⟨(S.tm rfl), trivial⟩ Tryz.call16) (tumblaw2_nameFault_ok _ r5.1 _ hr12) rfl ?_; clear S; intro v12 a w16 hv12 hk15 hn12 S
 subst hv12
 refine lv S (rn_move (S.tm rfl)) rfl ?_; clear S; intro a S
 refine l_buildSlice S Tryz.underlying93 Tryz.sizeOf34 Tryz.zeroValue34 rfl rfl (pv := [(0, iV r10), (1, iV r12), (2, iV x1)]) ⟨rfl, (S.tm rfl), rfl, (S.tm rfl), rfl, (S.tm rfl), trivial⟩ (cs := [iV r10, iV r12, iV x1]) (by kernel_rfl) rfl ?_; clear S; intro a w17 b4 hz10 hk16 S
 refine l_enter S (fun _ => run_call (vs := [.slice (some ⟨b4, 0, none⟩) 3 3]) ⟨(S.tm rfl), trivial⟩ Tryz.call15) (tumblaw2_errs_ok _ (.slice (some ⟨b4, 0, none⟩) 3 3) [r10, r12, x1] (lit_slcT enc_int S (i := 0) rfl rfl rfl rfl ((ne_nil (e' := .blk b4 [iV r10, iV r12, iV x1] 34)) _ rfl)) _ rfl) rfl ?_; clear S; intro v13 a w18 hv13 hk17 hn13 S
 subst hv13
 refine lv S (rn_move (S.tm rfl)) rfl ?_; clear S; intro a S
 refine lv S (rn_move (S.tm rfl)) rfl ?_; clear S; intro a S
 refine l_buildSlice S Tryz.underlying93 Tryz.sizeOf34 Tryz.zeroValue34 rfl rfl (pv := [(0, iV r10), (1, iV x1)]) ⟨rfl, (S.tm rfl), rfl, (S.tm rfl), trivial⟩ (cs := [iV r10, iV x1]) (by kernel_rfl) rfl ?_; clear S; intro a w19 b5 hz11 hk18 S
 refine l_enter S (fun _ => run_call (vs := [.slice (some ⟨b5, 0, none⟩) 2 2]) ⟨(S.tm rfl), trivial⟩ Tryz.call15) (tumblaw2_errs_ok _ (.slice (some ⟨b5, 0, none⟩) 2 2) [r10, x1] (lit_slcT enc_int S (i := 0) rfl rfl rfl rfl ((ne_nil (e' := .blk b5 [iV r10, iV x1] 34)) _ rfl)) _ rfl) rfl ?_; clear S; intro v14 a w20 hv14 hk19 hn14 S
 subst hv14
 refine lv S (rn_assign (S.tm rfl)) rfl ?_; clear S; intro a S
 refine lv S (rn_assign (S.tm rfl)) rfl ?_; clear S; intro a S
 refine l_done ?_
 replace S := S.nk [] [(4, v1), (5, iV r2.1), (6, iV r3.1), (7, v4), (8, sV r5.1), (9, u3), (10, iV r6.2), (11, u4), (12, iV r7.2), (13, u5), (14, iV r8.2), (15, u6), (16, iV r9.2), (17, iV r10), (19, iV (tumblaw2_errs [r10, r12, x1])), (20, iV (tumblaw2_errs [r10, x1]))] [false, false] rfl (subR rfl)
 refine then_n (f_seq (f_region (lv S (rn_move (S.tm rfl)) rfl ?_))); clear S; intro a S
 refine lv S (rn_move (S.tm rfl)) rfl ?_; clear S; intro a S
 refine lv S (rn_lss (S.tm rfl) rfl) rfl ?_; clear S; intro a S
 refine lv S (rn_move (S.tm rfl)) rfl ?_; clear S; intro a S
 refine f_cutm 3 (fun a w' => Keep [] w20 w' ∧ Sx w [] φ6 [] [(4, v1), (5, iV r2.1), (6, iV r3.1), (7, v4), (8, sV r5.1), (9, u3), (10, iV r6.2), (11, u4), (12, iV r7.2), (13, u5), (14, iV r8.2), (15, u6), (16, iV r9.2), (17, iV r10), (19, iV (tumblaw2_errs [r10, r12, x1])), (20, iV (tumblaw2_errs [r10, x1])), (89, iV (tumblaw2_errs [r10, x1])), (95, bV ((decide (r3.1 < 0)) || (decide (3600000 < r3.1))))] 172 a w') ?_ ?_
 ·rcases Bool.eq_false_or_eq_true (decide (r3.1 < 0)) with hb2 | hb2
  ·refine l_skip S rfl rfl rfl (neq_t hb2) rfl ?_ rfl; clear S; intro a S
   refine l_skip S rfl rfl rfl (neq_t hb2) rfl ?_ rfl; clear S; intro a S
   refine lv S (rn_or_t (decide (3600000 < r3.1)) hb2 (S.tm rfl) rfl) rfl ?_; clear S; intro a S
   refine l_done (then_n ?_)
   exact ⟨Keep.refl _ _, S.nf [] rfl (subR rfl)⟩
  ·refine l_want S rfl rfl rfl hb2 (lv S (rn_move (S.tm rfl)) rfl ?_); clear S; intro a S
   refine l_want S rfl rfl rfl hb2 (lv S (rn_gtr (S.tm rfl) rfl) rfl ?_); clear S; intro a S
   refine lv S (rn_or_f hb2 (S.tm rfl) (S.tm rfl)) rfl ?_; clear S; intro a S
   refine l_done (then_n ?_)
   exact ⟨Keep.refl _ _, S.nf [] rfl (subR rfl)⟩
 clear S; rintro a w21 ⟨hk20, S⟩
 refine l_enter S (fun _ => run_call (vs := [bV ((decide (r3.1 < 0)) || (decide (3600000 < r3.1))), iV 1]) ⟨(S.tm rfl), rfl, trivial⟩ Tryz.call17) (tumblaw2_when_ok _ ((decide (r3.1 < 0)) || (decide (3600000 < r3.1))) 1 _ rfl) rfl ?_; clear S; intro v15 a w22 hv15 hk21 hn15 S
 subst hv15
 refine l_buildSlice S Tryz.underlying93 Tryz.sizeOf34 Tryz.zeroValue34 rfl rfl (pv := [(0, iV (tumblaw2_errs [r10, x1])), (1, iV (tumblaw2_when ((decide (r3.1 < 0)) || (decide (3600000 < r3.1))) 1))]) ⟨rfl, (S.tm rfl), rfl, (S.tm rfl), trivial⟩ (cs := [iV (tumblaw2_errs [r10, x1]), iV (tumblaw2_when ((decide (r3.1 < 0)) || (decide (3600000 < r3.1))) 1)]) (by kernel_rfl) rfl ?_; clear S; intro a w23 b6 hz12 hk22 S
 refine l_enter S (fun _ => run_call (vs := [.slice (some ⟨b6, 0, none⟩) 2 2]) ⟨(S.tm rfl), trivial⟩ Tryz.call15) (tumblaw2_errs_ok _ (.slice (some ⟨b6, 0, none⟩) 2 2) [(tumblaw2_errs [r10, x1]), (tumblaw2_when ((decide (r3.1 < 0)) || (decide (3600000 < r3.1))) 1)] (lit_slcT enc_int S (i := 0) rfl rfl rfl rfl ((ne_nil (e' := .blk b6 [iV (tumblaw2_errs [r10, x1]), iV (tumblaw2_when ((decide (r3.1 < 0)) || (decide (3600000 < r3.1))) 1)] 34)) _ rfl)) _ rfl) rfl ?_; clear S; intro v16 a w24 hv16 hk23 hn16 S
 subst hv16
 refine lv S (rn_assign (S.tm rfl)) rfl ?_; clear S; intro a S
 refine l_done ?_
 replace S := S.nk [] [(4, v1), (5, iV r2.1), (6, iV r3.1), (7, v4), (8, sV r5.1), (9, u3), (10, iV r6.2), (11, u4), (12, iV r7.2), (13, u5), (14, iV r8.2), (15, u6), (16, iV r9.2), (17, iV r10), (19, iV (tumblaw2_errs [r10, r12, x1])), (20, iV (tumblaw2_errs [r10, x1])), (21, iV (tumblaw2_errs [(tumblaw2_errs [r10, x1]), (tumblaw2_when ((decide (r3.1 < 0)) || (decide (3600000 < r3.1))) 1)]))] [false] rfl (subR rfl)
 refine then_n (f_seq (f_region (lv S (rn_assign rfl) rfl ?_))); clear S; intro a S
 refine l_done ?_
 replace S := S.nk [] [(4, v1), (5, iV r2.1), (6, iV r3.1), (7, v4), (8, sV r5.1), (9, u3), (10, iV r6.2), (11, u4), (12, iV r7.2), (13, u5), (14, iV r8.2), (15, u6), (16, iV r9.2), (17, iV r10), (19, iV (tumblaw2_errs [r10, r12, x1])), (20, iV (tumblaw2_errs [r10, x1])), (21, iV (tumblaw2_errs [(tumblaw2_errs [r10, x1]), (tumblaw2_when ((decide (r3.1 < 0)) || (decide (3600000 < r3.1))) 1)])), (22, .slice none 0 0)] [] rfl (subR rfl)
 refine then_n (f_seq (f_region (lv S (rn_assign rfl) rfl ?_))); clear S; intro a S
 refine lv S (rn_assign rfl) rfl ?_; clear S; intro a S
 refine l_done ?_
 replace S := S.nk [] [(4, v1), (5, iV r2.1), (6, iV r3.1), (7, v4), (8, sV r5.1), (9, u3), (10, iV r6.2), (11, u4), (12, iV r7.2), (13, u5), (14, iV r8.2), (15, u6), (16, iV r9.2), (17, iV r10), (19, iV (tumblaw2_errs [r10, r12, x1])), (20, iV (tumblaw2_errs [r10, x1])), (21, iV (tumblaw2_errs [(tumblaw2_errs [r10, x1]), (tumblaw2_when ((decide (r3.1 < 0)) || (decide (3600000 < r3.1))) 1)])), (22, .slice none 0 0), (23, .slice none 0 0), (24, .slice none 0 0)] [] rfl (subR rfl)
 refine then_n (f_seq (f_region (lv S (rn_assign rfl) rfl ?_))); clear S; intro a S
 refine l_done ?_
 replace S := S.nk [] [(4, v1), (5, iV r2.1), (6, iV r3.1), (7, v4), (8, sV r5.1), (9, u3), (10, iV r6.2), (11, u4), (12, iV r7.2), (13, u5), (14, iV r8.2), (15, u6), (16, iV r9.2), (17, iV r10), (19, iV (tumblaw2_errs [r10, r12, x1])), (20, iV (tumblaw2_errs [r10, x1])), (21, iV (tumblaw2_errs [(tumblaw2_errs [r10, x1]), (tumblaw2_when ((decide (r3.1 < 0)) || (decide (3600000 < r3.1))) 1)])), (22, .slice none 0 0), (23, .slice none 0 0), (24, .slice none 0 0), (25, .slice none 0 0)] [] rfl (subR rfl)
 refine then_n (f_seq (f_seq (f_region (lv S (rn_move (S.tm rfl)) rfl ?_)))); clear S; intro a S
 refine lv S (rn_eql (S.tm rfl) rfl) rfl ?_; clear S; intro a S
 refine l_done ?_
 replace S := S.nk [] [(4, v1), (5, iV r2.1), (6, iV r3.1), (7, v4), (8, sV r5.1), (9, u3), (10, iV r6.2), (11, u4), (12, iV r7.2), (13, u5), (14, iV r8.2), (15, u6), (16, iV r9.2), (17, iV r10), (19, iV (tumblaw2_errs [r10, r12, x1])), (20, iV (tumblaw2_errs [r10, x1])), (21, iV (tumblaw2_errs [(tumblaw2_errs [r10, x1]), (tumblaw2_when ((decide (r3.1 < 0)) || (decide (3600000 < r3.1))) 1)])), (22, .slice none 0 0), (23, .slice none 0 0), (24, .slice none 0 0), (25, .slice none 0 0), (100, bV (decide ((tumblaw2_errs [r10, r12, x1]) = 0)))] [] rfl (subR rfl)
 refine then_n ?_
 obtain ⟨j2, hj2, h⟩ := joinE h
 refine f_join (fun a w' => ∃ x2 : List GSlot, ∃ φ7 : View, ∃ v17 : Value, j2 x2 = some r ∧ View.le φ6 φ7 ∧ OwnV φ7 57 4 v17 x2.length (x2.flatMap GSlot.enc) ∧ Sx w [] φ7 [] [(4, v1), (5, iV r2.1), (6, iV r3.1), (7, v4), (9, u3), (10, iV r6.2), (11, u4), (12, iV r7.2), (13, u5), (14, iV r8.2), (15, u6), (16, iV r9.2), (17, iV r10), (19, iV (tumblaw2_errs [r10, r12, x1])), (20, iV (tumblaw2_errs [r10, x1])), (21, iV (tumblaw2_errs [(tumblaw2_errs [r10, x1]), (tumblaw2_when ((decide (r3.1 < 0)) || (decide (3600000 < r3.1))) 1)])), (22, v17), (23, .slice none 0 0), (24, .slice none 0 0), (25, .slice none 0 0)] 172 a w') ?_ ?_
 ·refine f_cond (S.tm rfl) (fun hb3 => ?_) (fun hb3 => ?_)
  ·replace h := iteT h hb3
   refine f_region (lv S (rn_move (S.tm rfl)) rfl ?_); clear S; intro a S
   iterate 3 (refine lv S (rn_move (S.tm rfl)) rfl ?_; clear S; intro a S)
   obtain ⟨r13, hr13, h⟩ := bindE h
   have hz13 := S.keep.size
   refine l_enter S (fun _ => run_call (vs := [v1, v4, sV r5.1, iV r2.1]) ⟨(S.tm rfl), (S.tm rfl), (S.tm rfl), (S.tm rfl), trivial⟩ Tryz.call18) (tumbref2_CallsOf_ok _ v1 r1.1 ((ownV_slcT GItem.enc_ok hs1).mono (View.le_trans (View.le_trans (View.le_trans (View.le_trans (View.le_trans hl2 hl3) hl4) hl5) hl6) (S.le_new nil_sub))) v4 r4.1 ((ownV_slcT GCall.enc_ok hs2).mono (View.le_trans (View.le_trans (View.le_trans (View.le_trans hl3 hl4) hl5) hl6) (S.le_new nil_sub))) r5.1 r2.1 _ hr13) rfl ?_; clear S; intro v18 a w26 hv17 hk24 hn17 S
   obtain ⟨φ8, hl8, hm7, S⟩ := S.see' hn17 hz13
   have hs8 := hv17.mono hm7
   refine lv S (rn_assign (S.tm rfl)) rfl ?_; clear S; intro a S
   refine l_done ?_
   replace S := S.nk [] [(4, v1), (5, iV r2.1), (6, iV r3.1), (7, v4), (9, u3), (10, iV r6.2), (11, u4), (12, iV r7.2), (13, u5), (14, iV r8.2), (15, u6), (16, iV r9.2), (17, iV r10), (19, iV (tumblaw2_errs [r10, r12, x1])), (20, iV (tumblaw2_errs [r10, x1])), (21, iV (tumblaw2_errs [(tumblaw2_errs [r10, x1]), (tumblaw2_when ((decide (r3.1 < 0)) || (decide (3600000 < r3.1))) 1)])), (22, v18), (23, .slice none 0 0), (24, .slice none 0 0), (25, .slice none 0 0)] [] rfl (subR rfl)
   refine then_n ?_
   exact ⟨r13, φ8, v18, h, hl8, hs8, S.nf [] rfl (subR rfl)⟩
  ·replace h := iteF h hb3
   refine wp_skip (then_n ?_)
   exact ⟨([] : List GSlot), φ6, .slice none 0 0, h, (View.le_refl _), (ownV_nil _ _ _), S.nf [] rfl (subR rfl)⟩
 clear S h; rintro a w25 ⟨x2, φ7, v17, h, hl7, hs7, S⟩; rw [hj2] at h; clear hj2 j2
 refine then_n (f_seq (f_seq (f_region (lv S (rn_move (S.tm rfl)) rfl ?_)))); clear S; intro a S
 refine lv S (rn_eql (S.tm rfl) rfl) rfl ?_; clear S; intro a S
 refine l_done ?_
 replace S := S.nk [] [(4, v1), (5, iV r2.1), (6, iV r3.1), (7, v4), (9, u3), (10, iV r6.2), (11, u4), (12, iV r7.2), (13, u5), (14, iV r8.2), (15, u6), (16, iV r9.2), (17, iV r10), (19, iV (tumblaw2_errs [r10, r12, x1])), (20, iV (tumblaw2_errs [r10, x1])), (21, iV (tumblaw2_errs [(tumblaw2_errs [r10, x1]), (tumblaw2_when ((decide (r3.1 < 0)) || (decide (3600000 < r3.1))) 1)])), (22, v17), (23, .slice none 0 0), (24, .slice none 0 0), (25, .slice none 0 0), (107, bV (decide ((tumblaw2_errs [r10, x1]) = 0)))] [] rfl (subR rfl)
 refine then_n ?_
 obtain ⟨j3, hj3, h⟩ := joinE h
 refine f_join (fun a w' => ∃ x3 : List GRest, ∃ φ9 : View, ∃ v19 : Value, j3 x3 = some r ∧ View.le φ7 φ9 ∧ OwnV φ9 60 10 v19 x3.length (x3.flatMap GRest.enc) ∧ Sx w [] φ9 [] [(4, v1), (5, iV r2.1), (6, iV r3.1), (7, v4), (9, u3), (10, iV r6.2), (11, u4), (12, iV r7.2), (13, u5), (14, iV r8.2), (15, u6), (16, iV r9.2), (17, iV r10), (19, iV (tumblaw2_errs [r10, r12, x1])), (20, iV (tumblaw2_errs [r10, x1])), (21, iV (tumblaw2_errs [(tumblaw2_errs [r10, x1]), (tumblaw2_when ((decide (r3.1 < 0)) || (decide (3600000 < r3.1))) 1)])), (22, v17), (23, v19), (24, .slice none 0 0), (25, .slice none 0 0)] 172 a w') ?_ ?_
 ·refine f_cond (S.tm rfl) (fun hb4 => ?_) (fun hb4 => ?_)
  ·replace h := iteT h hb4
   refine f_region (lv S (rn_move (S.tm rfl)) rfl ?_); clear S; intro a S
   refine lv S (rn_move (S.tm rfl)) rfl ?_; clear S; intro a S
   refine lv S (rn_move (S.tm rfl)) rfl ?_; clear S; intro a S
   obtain ⟨r14, hr14, h⟩ := bindE h
   have hz14 := S.keep.size
   refine l_enter S (fun _ => run_call (vs := [v1, v4, iV r2.1]) ⟨(S.tm rfl), (S.tm rfl), (S.tm rfl), trivial⟩ Tryz.call19) (tumbref2_RestsOf_ok _ v1 r1.1 ((ownV_slcT GItem.enc_ok hs1).mono (View.le_trans (View.le_trans (View.le_trans (View.le_trans (View.le_trans (View.le_trans hl2 hl3) hl4) hl5) hl6) hl7) (S.le_new nil_sub))) v4 r4.1 ((ownV_slcT GCall.enc_ok hs2).mono (View.le_trans (View.le_trans (View.le_trans (View.le_trans (View.le_trans hl3 hl4) hl5) hl6) hl7) (S.le_new nil_sub))) r2.1 _ hr14) rfl ?_; clear S; intro v20 a w28 hv18 hk25 hn18 S
   obtain ⟨φ10, hl10, hm8, S⟩ := S.see' hn18 hz14
   have hs10 := hv18.mono hm8
   refine lv S (rn_assign (S.tm rfl)) rfl ?_; clear S; intro a S
   refine l_done ?_
   replace S := S.nk [] [(4, v1), (5, iV r2.1), (6, iV r3.1), (7, v4), (9, u3), (10, iV r6.2), (11, u4), (12, iV r7.2), (13, u5), (14, iV r8.2), (15, u6), (16, iV r9.2), (17, iV r10), (19, iV (tumblaw2_errs [r10, r12, x1])), (20, iV (tumblaw2_errs [r10, x1])), (21, iV (tumblaw2_errs [(tumblaw2_errs [r10, x1]), (tumblaw2_when ((decide (r3.1 < 0)) || (decide (3600000 < r3.1))) 1)])), (22, v17), (23, v20), (24, .slice none 0 0), (25, .slice none 0 0)] [] rfl (subR rfl)
   refine then_n ?_
   exact ⟨r14, φ10, v20, h, hl10, hs10, S.nf [] rfl (subR rfl)⟩
  ·replace h := iteF h hb4
   refine wp_skip (then_n ?_)
   exact ⟨([] : List GRest), φ7, .slice none 0 0, h, (View.le_refl _), (ownV_nil _ _ _), S.nf [] rfl (subR rfl)⟩
 clear S h; rintro a w27 ⟨x3, φ9, v19, h, hl9, hs9, S⟩; rw [hj3] at h; clear hj3 j3
 refine then_n (f_seq (f_seq (f_region (lv S (rn_move (S.tm rfl)) rfl ?_)))); clear S; intro a S
 refine lv S (rn_eql (S.tm rfl) rfl) rfl ?_; clear S; intro a S
 refine l_done ?_
 replace S := S.nk [] [(4, v1), (5, iV r2.1), (6, iV r3.1), (7, v4), (9, u3), (10, iV r6.2), (11, u4), (12, iV r7.2), (13, u5), (14, iV r8.2), (15, u6), (16, iV r9.2), (17, iV r10), (19, iV (tumblaw2_errs [r10, r12, x1])), (20, iV (tumblaw2_errs [r10, x1])), (21, iV (tumblaw2_errs [(tumblaw2_errs [r10, x1]), (tumblaw2_when ((decide (r3.1 < 0)) || (decide (3600000 < r3.1))) 1)])), (22, v17), (23, v19), (24, .slice none 0 0), (25, .slice none 0 0), (113, bV (decide ((tumblaw2_errs [(tumblaw2_errs [r10, x1]), (tumblaw2_when ((decide (r3.1 < 0)) || (decide (3600000 < r3.1))) 1)]) = 0)))] [] rfl (subR rfl)
 refine then_n ?_
 obtain ⟨j4, hj4, h⟩ := joinE h
 refine f_join (fun a w' => ∃ x4 : List GRest, ∃ φ11 : View, ∃ v21 : Value, j4 x4 = some r ∧ View.le φ9 φ11 ∧ OwnV φ11 60 10 v21 x4.length (x4.flatMap GRest.enc) ∧ Sx w [] φ11 [] [(4, v1), (7, v4), (9, u3), (10, iV r6.2), (11, u4), (12, iV r7.2), (13, u5), (14, iV r8.2), (15, u6), (16, iV r9.2), (17, iV r10), (19, iV (tumblaw2_errs [r10, r12, x1])), (20, iV (tumblaw2_errs [r10, x1])), (21, iV (tumblaw2_errs [(tumblaw2_errs [r10, x1]), (tumblaw2_when ((decide (r3.1 < 0)) || (decide (3600000 < r3.1))) 1)])), (22, v17), (23, v19), (24, v21), (25, .slice none 0 0)] 172 a w') ?_ ?_
 ·refine f_cond (S.tm rfl) (fun hb5 => ?_) (fun hb5 => ?_)
  ·replace h := iteT h hb5
   refine f_region (lv S (rn_move (S.tm rfl)) rfl ?_); clear S; intro a S
   iterate 3 (refine lv S (rn_move (S.tm rfl)) rfl ?_; clear S; intro a S)
   obtain ⟨r15, hr15, h⟩ := bindE h
   have hz15 := S.keep.size
   refine l_enter S (fun _ => run_call (vs := [v1, v4, iV r2.1, iV r3.1]) ⟨(S.tm rfl), (S.tm rfl), (S.tm rfl), (S.tm rfl), trivial⟩ Tryz.call20) (tumbref2_ShortOf_ok _ v1 r1.1 ((ownV_slcT GItem.enc_ok hs1).mono (View.le_trans (View.le_trans (View.le_trans (View.le_trans (View.le_trans (View.le_trans (View.le_trans hl2 hl3) hl4) hl5) hl6) hl7) hl9) (S.le_new nil_sub))) v4 r4.1 ((ownV_slcT GCall.enc_ok hs2).mono (View.le_trans (View.le_trans (View.le_trans (View.le_trans (View.le_trans (View.le_trans hl3 hl4) hl5) hl6) hl7) hl9) (S.le_new nil_sub))) r2.1 r3.1 _ hr15) rfl ?_; clear S; intro v22 a w30 hv19 hk26 hn19 S
   obtain ⟨φ12, hl12, hm9, S⟩ := S.see' hn19 hz15
   have hs12 := hv19.mono hm9
   refine lv S (rn_assign (S.tm rfl)) rfl ?_; clear S; intro a S
   refine l_done ?_
   replace S := S.nk [] [(4, v1), (7, v4), (9, u3), (10, iV r6.2), (11, u4), (12, iV r7.2), (13, u5), (14, iV r8.2), (15, u6), (16, iV r9.2), (17, iV r10), (19, iV (tumblaw2_errs [r10, r12, x1])), (20, iV (tumblaw2_errs [r10, x1])), (21, iV (tumblaw2_errs [(tumblaw2_errs [r10, x1]), (tumblaw2_when ((decide (r3.1 < 0)) || (decide (3600000 < r3.1))) 1)])), (22, v17), (23, v19), (24, v22), (25, .slice none 0 0)] [] rfl (subR rfl)
   refine then_n ?_
   exact ⟨r15, φ12, v22, h, hl12, hs12, S.nf [] rfl (subR rfl)⟩
  ·replace h := iteF h hb5
   refine wp_skip (then_n ?_)
   exact ⟨([] : List GRest), φ9, .slice none 0 0, h, (View.le_refl _), (ownV_nil _ _ _), S.nf [] rfl (subR rfl)⟩
 clear S h; rintro a w29 ⟨x4, φ11, v21, h, hl11, hs11, S⟩; rw [hj4] at h; clear hj4 j4
 refine then_n (f_seq (f_seq (f_region (lv S (rn_move (S.tm rfl)) rfl ?_)))); clear S; intro a S
 refine lv S (rn_eql (S.tm rfl) rfl) rfl ?_; clear S; intro a S
 refine l_done ?_
 replace S := S.nk [] [(4, v1), (7, v4), (9, u3), (10, iV r6.2), (11, u4), (12, iV r7.2), (13, u5), (14, iV r8.2), (15, u6), (16, iV r9.2), (17, iV r10), (19, iV (tumblaw2_errs [r10, r12, x1])), (20, iV (tumblaw2_errs [r10, x1])), (21, iV (tumblaw2_errs [(tumblaw2_errs [r10, x1]), (tumblaw2_when ((decide (r3.1 < 0)) || (decide (3600000 < r3.1))) 1)])), (22, v17), (23, v19), (24, v21), (25, .slice none 0 0), (120, bV (decide (r10 = 0)))] [] rfl (subR rfl)
 refine then_n ?_
 obtain ⟨j5, hj5, h⟩ := joinE h
 refine f_join (fun a w' => ∃ x5 : List GPair, ∃ φ13 : View, ∃ v23 : Value, j5 x5 = some r ∧ View.le φ11 φ13 ∧ OwnV φ13 63 2 v23 x5.length (x5.flatMap GPair.enc) ∧ Sx w [] φ13 [] [(4, v1), (7, v4), (9, u3), (10, iV r6.2), (11, u4), (12, iV r7.2), (13, u5), (14, iV r8.2), (15, u6), (16, iV r9.2), (17, iV r10), (19, iV (tumblaw2_errs [r10, r12, x1])), (20, iV (tumblaw2_errs [r10, x1])), (21, iV (tumblaw2_errs [(tumblaw2_errs [r10, x1]), (tumblaw2_when ((decide (r3.1 < 0)) || (decide (3600000 < r3.1))) 1)])), (22, v17), (23, v19), (24, v21), (25, v23)] 172 a w') ?_ ?_
 ·refine f_cond (S.tm rfl) (fun hb6 => ?_) (fun hb6 => ?_)
  ·replace h := iteT h hb6
   refine f_region (lv S (rn_move (S.tm rfl)) rfl ?_); clear S; intro a S
   refine lv S (rn_move (S.tm rfl)) rfl ?_; clear S; intro a S
   obtain ⟨r16, hr16, h⟩ := bindE h
   have hz16 := S.keep.size
   refine l_enter S (fun _ => run_call (vs := [v1, v4]) ⟨(S.tm rfl), (S.tm rfl), trivial⟩ Tryz.call21) (tumbref2_BothOf_ok _ v1 r1.1 ((ownV_slcT GItem.enc_ok hs1).mono (View.le_trans (View.le_trans (View.le_trans (View.le_trans (View.le_trans (View.le_trans (View.le_trans (View.le_trans hl2 hl3) hl4) hl5) hl6) hl7) hl9) hl11) (S.le_new nil_sub))) v4 r4.1 ((ownV_slcT GCall.enc_ok hs2).mono (View.le_trans (View.le_trans (View.le_trans (View.le_trans (View.le_trans (View.le_trans (View.le_trans hl3 hl4) hl5) hl6) hl7) hl9) hl11) (S.le_new nil_sub))) _ hr16) rfl ?_; clear S; intro v24 a w32 hv20 hk27 hn20 S
   obtain ⟨φ14, hl14, hm10, S⟩ := S.see' hn20 hz16
   have hs14 := hv20.mono hm10
   refine lv S (rn_assign (S.tm rfl)) rfl ?_; clear S; intro a S
   refine l_done ?_
   replace S := S.nk [] [(4, v1), (7, v4), (9, u3), (10, iV r6.2), (11, u4), (12, iV r7.2), (13, u5), (14, iV r8.2), (15, u6), (16, iV r9.2), (17, iV r10), (19, iV (tumblaw2_errs [r10, r12, x1])), (20, iV (tumblaw2_errs [r10, x1])), (21, iV (tumblaw2_errs [(tumblaw2_errs [r10, x1]), (tumblaw2_when ((decide (r3.1 < 0)) || (decide (3600000 < r3.1))) 1)])), (22, v17), (23, v19), (24, v21), (25, v24)] [] rfl (subR rfl)
   refine then_n ?_
   exact ⟨r16, φ14, v24, h, hl14, hs14, S.nf [] rfl (subR rfl)⟩
  ·replace h := iteF h hb6
   refine wp_skip (then_n ?_)
   exact ⟨([] : List GPair), φ11, .slice none 0 0, h, (View.le_refl _), (ownV_nil _ _ _), S.nf [] rfl (subR rfl)⟩
 clear S h; rintro a w31 ⟨x5, φ13, v23, h, hl13, hs13, S⟩; rw [hj5] at h; clear hj5 j5
 refine then_n (f_seq (f_region (lv S (rn_move (S.tm rfl)) rfl ?_))); clear S; intro a S
 refine lv S (rn_move (S.tm rfl)) rfl ?_; clear S; intro a S
 obtain ⟨r17, hr17, h⟩ := bindE h
 refine l_enter S (fun _ => run_call (vs := [v1, v4]) ⟨(S.tm rfl), (S.tm rfl), trivial⟩ Tryz.call22) (session_CheckSwims_ok _ v1 r1.1 ((ownV_slcT GItem.enc_ok hs1).mono (View.le_trans (View.le_trans (View.le_trans (View.le_trans (View.le_trans (View.le_trans (View.le_trans (View.le_trans (View.le_trans hl2 hl3) hl4) hl5) hl6) hl7) hl9) hl11) hl13) (S.le_new nil_sub))) v4 r4.1 ((ownV_slcT GCall.enc_ok hs2).mono (View.le_trans (View.le_trans (View.le_trans (View.le_trans (View.le_trans (View.le_trans (View.le_trans (View.le_trans hl3 hl4) hl5) hl6) hl7) hl9) hl11) hl13) (S.le_new nil_sub))) _ hr17) rfl ?_; clear S; intro v25 a w33 hv21 hk28 hn21 S
 subst hv21
 refine lv S (rn_move (S.tm rfl)) rfl ?_; clear S; intro a S
 refine lv S (rn_eql (S.tm rfl) (S.tm rfl)) rfl ?_; clear S; intro a S
 refine lv S (rn_move (S.tm rfl)) rfl ?_; clear S; intro a S
 refine f_cutm 4 (fun a w' => Keep [] w33 w' ∧ Sx w [] φ13 [] [(9, u3), (11, u4), (12, iV r7.2), (13, u5), (14, iV r8.2), (15, u6), (16, iV r9.2), (17, iV r10), (20, iV (tumblaw2_errs [r10, x1])), (21, iV (tumblaw2_errs [(tumblaw2_errs [r10, x1]), (tumblaw2_when ((decide (r3.1 < 0)) || (decide (3600000 < r3.1))) 1)])), (22, v17), (23, v19), (24, v21), (25, v23), (133, bV ((decide (r17 = r10)) && (decide (r6.2 = (tumblaw2_errs [r10, r12, x1])))))] 172 a w') ?_ ?_
 ·rcases Bool.eq_false_or_eq_true (decide (r17 = r10)) with hb7 | hb7
  ·refine l_want S rfl rfl rfl hb7 (lv S (rn_move (S.tm rfl)) rfl ?_); clear S; intro a S
   refine l_want S rfl rfl rfl hb7 (lv S (rn_move (S.tm rfl)) rfl ?_); clear S; intro a S
   refine l_want S rfl rfl rfl hb7 (lv S (rn_eql (S.tm rfl) (S.tm rfl)) rfl ?_); clear S; intro a S
   refine lv S (rn_and_t hb7 (S.tm rfl) (S.tm rfl)) rfl ?_; clear S; intro a S
   refine l_done (then_n ?_)
   exact ⟨Keep.refl _ _, S.nf [] rfl (subR rfl)⟩
  ·iterate 3 (refine l_skip S rfl rfl rfl (neq_f hb7) rfl ?_ rfl; clear S; intro a S)
   refine lv S (rn_and_f (decide (r6.2 = (tumblaw2_errs [r10, r12, x1]))) hb7 (S.tm rfl) rfl) rfl ?_; clear S; intro a S
   refine l_done (then_n ?_)
   exact ⟨Keep.refl _ _, S.nf [] rfl (subR rfl)⟩
 clear S; rintro a w34 ⟨hk29, S⟩
 refine lv S (rn_move (S.tm rfl)) rfl ?_; clear S; intro a S
 obtain ⟨j6, hj6, h⟩ := joinE h
 refine f_cutm 4 (fun a w' => ∃ c1, j6 c1 = some r ∧ Keep [] w34 w' ∧ Sx w [] φ13 [] [(11, u4), (12, iV r7.2), (13, u5), (14, iV r8.2), (15, u6), (16, iV r9.2), (17, iV r10), (20, iV (tumblaw2_errs [r10, x1])), (21, iV (tumblaw2_errs [(tumblaw2_errs [r10, x1]), (tumblaw2_when ((decide (r3.1 < 0)) || (decide (3600000 < r3.1))) 1)])), (23, v19), (24, v21), (25, v23), (138, bV c1)] 172 a w') ?_ ?_
 ·rcases Bool.eq_false_or_eq_true ((decide (r17 = r10)) && (decide (r6.2 = (tumblaw2_errs [r10, r12, x1])))) with hb8 | hb8
  ·replace h := iteT h hb8
   refine l_want S rfl rfl rfl hb8 (lv S (rn_move (S.tm rfl)) rfl ?_); clear S; intro a S
   refine l_want S rfl rfl rfl hb8 (lv S (rn_move (S.tm rfl)) rfl ?_); clear S; intro a S
   refine l_want S rfl rfl rfl hb8 ?_
   obtain ⟨r18, hr18, h⟩ := bindE h
   refine l_enter S (fun _ => run_call (vs := [u3, v17]) ⟨(S.tm rfl), (S.tm rfl), trivial⟩ Tryz.call23) (slices_Equal_Slot_ok _ u3 r6.1 ((ownV_slcT GSlot.enc_ok hs3).mono (View.le_trans (View.le_trans (View.le_trans (View.le_trans (View.le_trans (View.le_trans (View.le_trans hl4 hl5) hl6) hl7) hl9) hl11) hl13) (S.le_new nil_sub))) v17 x2 ((ownV_slcT GSlot.enc_ok hs7).mono (View.le_trans (View.le_trans (View.le_trans hl9 hl11) hl13) (S.le_new nil_sub))) _ hr18) rfl ?_; clear S; intro v26 a w36 hv22 hk30 hn22 S
   subst hv22
   refine lv S (rn_and_t hb8 (S.tm rfl) (S.tm rfl)) rfl ?_; clear S; intro a S
   refine l_done (then_n ?_)
   exact ⟨_, h, hk30, S.nf [] rfl (subR rfl)⟩
  ·replace h := iteF h hb8
   iterate 3 (refine l_skip S rfl rfl rfl (neq_f hb8) rfl ?_ rfl; clear S; intro a S)
   refine lv S (rn_and_f true hb8 (S.tm rfl) rfl) rfl ?_; clear S; intro a S
   refine l_done (then_n ?_)
   exact ⟨_, h, Keep.refl _ _, S.nf [] rfl (subR rfl)⟩
 clear S h; rintro a w35 ⟨c1, h, hk31, S⟩; rw [hj6] at h; clear hj6 j6
 refine lv S (rn_move (S.tm rfl)) rfl ?_; clear S; intro a S
 refine f_cutm 4 (fun a w' => Keep [] w35 w' ∧ Sx w [] φ13 [] [(11, u4), (13, u5), (14, iV r8.2), (15, u6), (16, iV r9.2), (17, iV r10), (21, iV (tumblaw2_errs [(tumblaw2_errs [r10, x1]), (tumblaw2_when ((decide (r3.1 < 0)) || (decide (3600000 < r3.1))) 1)])), (23, v19), (24, v21), (25, v23), (143, bV (c1 && (decide (r7.2 = (tumblaw2_errs [r10, x1])))))] 172 a w') ?_ ?_
 ·rcases Bool.eq_false_or_eq_true c1 with hb9 | hb9
  ·refine l_want S rfl rfl rfl hb9 (lv S (rn_move (S.tm rfl)) rfl ?_); clear S; intro a S
   refine l_want S rfl rfl rfl hb9 (lv S (rn_move (S.tm rfl)) rfl ?_); clear S; intro a S
   refine l_want S rfl rfl rfl hb9 (lv S (rn_eql (S.tm rfl) (S.tm rfl)) rfl ?_); clear S; intro a S
   refine lv S (rn_and_t hb9 (S.tm rfl) (S.tm rfl)) rfl ?_; clear S; intro a S
   refine l_done (then_n ?_)
   exact ⟨Keep.refl _ _, S.nf [] rfl (subR rfl)⟩
  ·iterate 3 (refine l_skip S rfl rfl rfl (neq_f hb9) rfl ?_ rfl; clear S; intro a S)
   refine lv S (rn_and_f (decide (r7.2 = (tumblaw2_errs [r10, x1]))) hb9 (S.tm rfl) rfl) rfl ?_; clear S; intro a S
   refine l_done (then_n ?_)
   exact ⟨Keep.refl _ _, S.nf [] rfl (subR rfl)⟩
 clear S; rintro a w37 ⟨hk32, S⟩
 refine lv S (rn_move (S.tm rfl)) rfl ?_; clear S; intro a S
 obtain ⟨j7, hj7, h⟩ := joinE h
 refine f_cutm 4 (fun a w' => ∃ c2, j7 c2 = some r ∧ Keep [] w37 w' ∧ Sx w [] φ13 [] [(13, u5), (14, iV r8.2), (15, u6), (16, iV r9.2), (17, iV r10), (21, iV (tumblaw2_errs [(tumblaw2_errs [r10, x1]), (tumblaw2_when ((decide (r3.1 < 0)) || (decide (3600000 < r3.1))) 1)])), (24, v21), (25, v23), (148, bV c2)] 172 a w') ?_ ?_
 ·rcases Bool.eq_false_or_eq_true (c1 && (decide (r7.2 = (tumblaw2_errs [r10, x1])))) with hb10 | hb10
  ·replace h := iteT h hb10
   refine l_want S rfl rfl rfl hb10 (lv S (rn_move (S.tm rfl)) rfl ?_); clear S; intro a S
   refine l_want S rfl rfl rfl hb10 (lv S (rn_move (S.tm rfl)) rfl ?_); clear S; intro a S
   refine l_want S rfl rfl rfl hb10 ?_
   obtain ⟨r19, hr19, h⟩ := bindE h
   refine l_enter S (fun _ => run_call (vs := [u4, v19]) ⟨(S.tm rfl), (S.tm rfl), trivial⟩ Tryz.call24) (slices_Equal_Rest_ok _ u4 r7.1 ((ownV_slcT GRest.enc_ok hs4).mono (View.le_trans (View.le_trans (View.le_trans (View.le_trans (View.le_trans (View.le_trans hl5 hl6) hl7) hl9) hl11) hl13) (S.le_new nil_sub))) v19 x3 ((ownV_slcT GRest.enc_ok hs9).mono (View.le_trans (View.le_trans hl11 hl13) (S.le_new nil_sub))) _ hr19) rfl ?_; clear S; intro v27 a w39 hv23 hk33 hn23 S
   subst hv23
   refine lv S (rn_and_t hb10 (S.tm rfl) (S.tm rfl)) rfl ?_; clear S; intro a S
   refine l_done (then_n ?_)
   exact ⟨_, h, hk33, S.nf [] rfl (subR rfl)⟩
  ·replace h := iteF h hb10
   iterate 3 (refine l_skip S rfl rfl rfl (neq_f hb10) rfl ?_ rfl; clear S; intro a S)
   refine lv S (rn_and_f true hb10 (S.tm rfl) rfl) rfl ?_; clear S; intro a S
   refine l_done (then_n ?_)
   exact ⟨_, h, Keep.refl _ _, S.nf [] rfl (subR rfl)⟩
 clear S h; rintro a w38 ⟨c2, h, hk34, S⟩; rw [hj7] at h; clear hj7 j7
 refine lv S (rn_move (S.tm rfl)) rfl ?_; clear S; intro a S
 refine f_cutm 4 (fun a w' => Keep [] w38 w' ∧ Sx w [] φ13 [] [(13, u5), (15, u6), (16, iV r9.2), (17, iV r10), (24, v21), (25, v23), (153, bV (c2 && (decide (r8.2 = (tumblaw2_errs [(tumblaw2_errs [r10, x1]), (tumblaw2_when ((decide (r3.1 < 0)) || (decide (3600000 < r3.1))) 1)])))))] 172 a w') ?_ ?_
 ·rcases Bool.eq_false_or_eq_true c2 with hb11 | hb11
  ·refine l_want S rfl rfl rfl hb11 (lv S (rn_move (S.tm rfl)) rfl ?_); clear S; intro a S
   refine l_want S rfl rfl rfl hb11 (lv S (rn_move (S.tm rfl)) rfl ?_); clear S; intro a S
   refine l_want S rfl rfl rfl hb11 (lv S (rn_eql (S.tm rfl) (S.tm rfl)) rfl ?_); clear S; intro a S
   refine lv S (rn_and_t hb11 (S.tm rfl) (S.tm rfl)) rfl ?_; clear S; intro a S
   refine l_done (then_n ?_)
   exact ⟨Keep.refl _ _, S.nf [] rfl (subR rfl)⟩
  ·iterate 3 (refine l_skip S rfl rfl rfl (neq_f hb11) rfl ?_ rfl; clear S; intro a S)
   refine lv S (rn_and_f (decide (r8.2 = (tumblaw2_errs [(tumblaw2_errs [r10, x1]), (tumblaw2_when ((decide (r3.1 < 0)) || (decide (3600000 < r3.1))) 1)]))) hb11 (S.tm rfl) rfl) rfl ?_; clear S; intro a S
   refine l_done (then_n ?_)
   exact ⟨Keep.refl _ _, S.nf [] rfl (subR rfl)⟩
 clear S; rintro a w40 ⟨hk35, S⟩
 refine lv S (rn_move (S.tm rfl)) rfl ?_; clear S; intro a S
 obtain ⟨j8, hj8, h⟩ := joinE h
 refine f_cutm 4 (fun a w' => ∃ c3, j8 c3 = some r ∧ Keep [] w40 w' ∧ Sx w [] φ13 [] [(15, u6), (16, iV r9.2), (17, iV r10), (25, v23), (158, bV c3)] 172 a w') ?_ ?_
 ·rcases Bool.eq_false_or_eq_true (c2 && (decide (r8.2 = (tumblaw2_errs [(tumblaw2_errs [r10, x1]), (tumblaw2_when ((decide (r3.1 < 0)) || (decide (3600000 < r3.1))) 1)])))) with hb12 | hb12
  ·replace h := iteT h hb12
   refine l_want S rfl rfl rfl hb12 (lv S (rn_move (S.tm rfl)) rfl ?_); clear S; intro a S
   refine l_want S rfl rfl rfl hb12 (lv S (rn_move (S.tm rfl)) rfl ?_); clear S; intro a S
   refine l_want S rfl rfl rfl hb12 ?_
   obtain ⟨r20, hr20, h⟩ := bindE h
   refine l_enter S (fun _ => run_call (vs := [u5, v21]) ⟨(S.tm rfl), (S.tm rfl), trivial⟩ Tryz.call24) (slices_Equal_Rest_ok _ u5 r8.1 ((ownV_slcT GRest.enc_ok hs5).mono (View.le_trans (View.le_trans (View.le_trans (View.le_trans (View.le_trans hl6 hl7) hl9) hl11) hl13) (S.le_new nil_sub))) v21 x4 ((ownV_slcT GRest.enc_ok hs11).mono (View.le_trans hl13 (S.le_new nil_sub))) _ hr20) rfl ?_; clear S; intro v28 a w42 hv24 hk36 hn24 S
   subst hv24
   refine lv S (rn_and_t hb12 (S.tm rfl) (S.tm rfl)) rfl ?_; clear S; intro a S
   refine l_done (then_n ?_)
   exact ⟨_, h, hk36, S.nf [] rfl (subR rfl)⟩
  ·replace h := iteF h hb12
   iterate 3 (refine l_skip S rfl rfl rfl (neq_f hb12) rfl ?_ rfl; clear S; intro a S)
   refine lv S (rn_and_f true hb12 (S.tm rfl) rfl) rfl ?_; clear S; intro a S
   refine l_done (then_n ?_)
   exact ⟨_, h, Keep.refl _ _, S.nf [] rfl (subR rfl)⟩
 clear S h; rintro a w41 ⟨c3, h, hk37, S⟩; rw [hj8] at h; clear hj8 j8
 refine lv S (rn_move (S.tm rfl)) rfl ?_; clear S; intro a S
 refine f_cutm 4 (fun a w' => Keep [] w41 w' ∧ Sx w [] φ13 [] [(15, u6), (25, v23), (163, bV (c3 && (decide (r9.2 = r10))))] 172 a w') ?_ ?_
 ·rcases Bool.eq_false_or_eq_true c3 with hb13 | hb13
  ·refine l_want S rfl rfl rfl hb13 (lv S (rn_move (S.tm rfl)) rfl ?_); clear S; intro a S
   refine l_want S rfl rfl rfl hb13 (lv S (rn_move (S.tm rfl)) rfl ?_); clear S; intro a S
   refine l_want S rfl rfl rfl hb13 (lv S (rn_eql (S.tm rfl) (S.tm rfl)) rfl ?_); clear S; intro a S
   refine lv S (rn_and_t hb13 (S.tm rfl) (S.tm rfl)) rfl ?_; clear S; intro a S
   refine l_done (then_n ?_)
   exact ⟨Keep.refl _ _, S.nf [] rfl (subR rfl)⟩
  ·iterate 3 (refine l_skip S rfl rfl rfl (neq_f hb13) rfl ?_ rfl; clear S; intro a S)
   refine lv S (rn_and_f (decide (r9.2 = r10)) hb13 (S.tm rfl) rfl) rfl ?_; clear S; intro a S
   refine l_done (then_n ?_)
   exact ⟨Keep.refl _ _, S.nf [] rfl (subR rfl)⟩
 clear S; rintro a w43 ⟨hk38, S⟩
 refine lv S (rn_move (S.tm rfl)) rfl ?_; clear S; intro a S
 obtain ⟨j9, hj9, h⟩ := joinE h
 refine f_cutm 4 (fun a w' => ∃ c4, j9 c4 = some r ∧ Keep [] w43 w' ∧ Sx w [] φ13 [] [(168, bV c4)] 172 a w') ?_ ?_
 ·rcases Bool.eq_false_or_eq_true (c3 && (decide (r9.2 = r10))) with hb14 | hb14
  ·replace h := iteT h hb14
   refine l_want S rfl rfl rfl hb14 (lv S (rn_move (S.tm rfl)) rfl ?_); clear S; intro a S
   refine l_want S rfl rfl rfl hb14 (lv S (rn_move (S.tm rfl)) rfl ?_); clear S; intro a S
   refine l_want S rfl rfl rfl hb14 ?_
   obtain ⟨r21, hr21, h⟩ := bindE h
   refine l_enter S (fun _ => run_call (vs := [u6, v23]) ⟨(S.tm rfl), (S.tm rfl), trivial⟩ Tryz.call25) (slices_Equal_Pair_ok _ u6 r9.1 ((ownV_slcT GPair.enc_ok hs6).mono (View.le_trans (View.le_trans (View.le_trans (View.le_trans hl7 hl9) hl11) hl13) (S.le_new nil_sub))) v23 x5 ((ownV_slcT GPair.enc_ok hs13).mono (S.le_new nil_sub)) _ hr21) rfl ?_; clear S; intro v29 a w45 hv25 hk39 hn25 S
   subst hv25
   refine lv S (rn_and_t hb14 (S.tm rfl) (S.tm rfl)) rfl ?_; clear S; intro a S
   refine l_done (then_n ?_)
   exact ⟨_, h, hk39, S.nf [] rfl ⟨rfl, trivial⟩⟩
  ·replace h := iteF h hb14
   iterate 3 (refine l_skip S rfl rfl rfl (neq_f hb14) rfl ?_ rfl; clear S; intro a S)
   refine lv S (rn_and_f true hb14 (S.tm rfl) rfl) rfl ?_; clear S; intro a S
   refine l_done (then_n ?_)
   exact ⟨_, h, Keep.refl _ _, S.nf [] rfl ⟨rfl, trivial⟩⟩
 clear S h; rintro a w44 ⟨c4, h, hk40, S⟩; rw [hj9] at h; clear hj9 j9
 refine lv S (rn_move (S.tm rfl)) rfl ?_; clear S; intro a S
 obtain ⟨j10, hj10, h⟩ := joinE h
 refine f_cutm 2 (fun a w' => ∃ c5, j10 c5 = some r ∧ Keep [] w44 w' ∧ Sx w [] φ13 [] [(171, bV c5)] 172 a w') ?_ ?_
 ·rcases Bool.eq_false_or_eq_true c4 with hb15 | hb15
  ·replace h := iteT h hb15
   refine l_want S rfl rfl rfl hb15 ?_
   obtain ⟨r22, hr22, h⟩ := bindE h
   refine l_enter S (fun _ => run_call (vs := []) trivial Tryz.call26) (tumblaw2_timed_ok _ _ hr22) rfl ?_; clear S; intro v30 a w47 hv26 hk41 hn26 S
   subst hv26
   refine lv S (rn_and_t hb15 (S.tm rfl) (S.tm rfl)) rfl ?_; clear S; intro a S
   refine l_done (then_n ?_)
   exact ⟨_, h, hk41, S.nf [] rfl ⟨rfl, trivial⟩⟩
  ·replace h := iteF h hb15
   refine l_skip S rfl rfl rfl (neq_f hb15) rfl ?_ rfl; clear S; intro a S
   refine lv S (rn_and_f true hb15 (S.tm rfl) rfl) rfl ?_; clear S; intro a S
   refine l_done (then_n ?_)
   exact ⟨_, h, Keep.refl _ _, S.nf [] rfl ⟨rfl, trivial⟩⟩
 clear S h; rintro a w46 ⟨c5, h, hk42, S⟩; rw [hj10] at h; clear hj10 j10
 refine lv S (rn_assign (S.tm rfl)) rfl ?_; clear S; intro a S
 refine l_done (then_n (wp_ret ?_))
 obtain rfl := Option.some.inj h
 exact f_ret S Tryz.results3 rfl rfl
end Go.Proofs.YtoffbgomfcmfmaaGreatDoor
