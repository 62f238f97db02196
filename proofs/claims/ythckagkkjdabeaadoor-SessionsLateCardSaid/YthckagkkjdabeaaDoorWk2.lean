/- Each Go function computes its plain twin, by program. -/
import Derived.Test.YthckagkkjdabeaaDoorWk1
namespace Go.Proofs.YthckagkkjdabeaaDoor
open Go
theorem session_Behind_ok (w : World) (v_p_items : Value) (p_items : List GItem) (hs_p_items : Slc (view w []) 5 v_p_items (p_items.map GItem.enc)) (p_from : Int) (v_p_l : Value) (p_l : List GHeld) (hs_p_l : Slc (view w []) 3 v_p_l (p_l.map GHeld.enc)) (r : Int × Int) (h : session_Behind p_items p_from p_l = some r) :
    Calls Tryd.prog 9 [v_p_items, .int .i64 p_from, v_p_l].toArray w (Ret w [] fun τ v w' => v = .tuple #[.int .i64 r.1, .int .i64 r.2]) := by
  refine f_enter [] [] Tryd.func9 rfl Tryd.ntmps9 rfl (by simp) (by simp [fps]) (by simp [fps]) fun a S => ?_
  unfold session_Behind at h
  replace S := S.nf (L' := []) (K' := [(0, v_p_items), (1, .int .i64 p_from), (2, v_p_l)]) [] rfl ⟨rfl, rfl, rfl, trivial⟩
  refine f_seq ?_
  refine f_region ?_
  refine lv S (rn_assign rfl) rfl ?_; clear S; intro a S
  refine lv S (rn_assign rfl) rfl ?_; clear S; intro a S
  refine l_done ?_
  replace S := S.nf (L' := []) (K' := [(0, v_p_items), (1, .int .i64 p_from), (2, v_p_l)]) [] rfl ⟨rfl, rfl, rfl, trivial⟩
  refine then_n ?_
  refine f_seq ?_
  refine f_region ?_
  refine lv S (rn_move (S.tm rfl)) rfl ?_; clear S; intro a S
  refine lv S (rn_move (S.tm rfl)) rfl ?_; clear S; intro a S
  refine lv S (rn_move (S.tm rfl)) rfl ?_; clear S; intro a S
  obtain ⟨r1, hr1, h⟩ := bindE h
  have hz1 := S.keep.size
  refine l_enter S (fun _ => run_call (vs := [v_p_items, .int .i64 p_from, v_p_l]) ⟨(S.tm rfl), (S.tm rfl), (S.tm rfl), trivial⟩ Tryd.call26) (session_checkLive_ok _ v_p_items p_items (hs_p_items.mono (S.le_arg nil_sub)) p_from v_p_l p_l (hs_p_l.mono (S.le_arg nil_sub)) _ hr1) rfl ?_; clear S; intro v1 a w1 hv1 hk1 hn1 S
  obtain ⟨u1, u2, rfl, ho1, ho2⟩ := hv1
  obtain ⟨φ1, hl1, hm1, S⟩ := S.see' hn1 hz1
  have hs1 := ho1.mono hm1
  have hs2 := ho2.mono hm1
  refine lv S (rn_move (S.tm rfl)) rfl ?_; clear S; intro a S
  refine lv S (rn_extract (S.tm rfl) rfl) rfl ?_; clear S; intro a S
  refine lv S (rn_extract (S.tm rfl) rfl) rfl ?_; clear S; intro a S
  refine lv S (rn_extract (S.tm rfl) rfl) rfl ?_; clear S; intro a S
  refine lv S (rn_assign (S.tm rfl)) rfl ?_; clear S; intro a S
  refine lv S (rn_assign (S.tm rfl)) rfl ?_; clear S; intro a S
  refine lv S (rn_assign (S.tm rfl)) rfl ?_; clear S; intro a S
  refine l_done ?_
  replace S := S.nf (L' := []) (K' := [(1, .int .i64 p_from), (8, u1), (9, u2), (10, .int .i64 r1.2.2)]) [] rfl ⟨rfl, rfl, rfl, rfl, trivial⟩
  refine then_n ?_
  refine f_seq ?_
  refine f_seq ?_
  refine f_region ?_
  refine lv S (rn_move (S.tm rfl)) rfl ?_; clear S; intro a S
  refine lv S (rn_neq (S.tm rfl) rfl) rfl ?_; clear S; intro a S
  refine l_done ?_
  replace S := S.nf (L' := []) (K' := [(1, .int .i64 p_from), (8, u1), (9, u2), (10, .int .i64 r1.2.2), (20, .bool (!decide (r1.2.2 = 0)))]) [] rfl ⟨rfl, rfl, rfl, rfl, rfl, trivial⟩
  refine then_n ?_
  refine f_cond (S.tm rfl) (fun hb1 => ?_) (fun hb1 => ?_)
  · replace h := iteT h hb1
    refine f_seq ?_
    refine f_region ?_
    refine lv S (rn_move (S.tm rfl)) rfl ?_; clear S; intro a S
    refine lv S (rn_assign rfl) rfl ?_; clear S; intro a S
    refine lv S (rn_assign (S.tm rfl)) rfl ?_; clear S; intro a S
    refine l_done ?_
    replace S := S.nf (L' := []) (K' := [(6, .int .i64 0), (7, .int .i64 r1.2.2)]) [] rfl ⟨rfl, rfl, trivial⟩
    refine then_n ?_
    refine wp_ret ?_
    refine then_r ?_
    obtain rfl := Option.some.inj h
    exact f_ret2 S Tryd.results9 rfl rfl rfl
  · replace h := iteF h hb1
    refine wp_skip ?_
    refine then_n ?_
    refine f_seq ?_
    refine f_region ?_
    refine lv S (rn_move (S.tm rfl)) rfl ?_; clear S; intro a S
    refine lv S (rn_move (S.tm rfl)) rfl ?_; clear S; intro a S
    obtain ⟨r2, hr2, h⟩ := bindE h
    refine l_enter S (fun _ => run_call (vs := [u1, .int .i64 p_from]) ⟨(S.tm rfl), (S.tm rfl), trivial⟩ Tryd.call27) (session_end_ok _ u1 r1.1 (((ownV_slcT GSlot.enc_ok hs1)).mono (S.le_new nil_sub)) p_from _ hr2) rfl ?_; clear S; intro v2 a w2 hv2 hk2 hn2 S
    subst hv2
    refine lv S (rn_move (S.tm rfl)) rfl ?_; clear S; intro a S
    refine lv S (rn_move (S.tm rfl)) rfl ?_; clear S; intro a S
    obtain ⟨r3, hr3, h⟩ := bindE h
    refine l_enter S (fun _ => run_call (vs := [u2, .int .i64 p_from]) ⟨(S.tm rfl), (S.tm rfl), trivial⟩ Tryd.call27) (session_end_ok _ u2 r1.2.1 (((ownV_slcT GSlot.enc_ok hs2)).mono (S.le_new nil_sub)) p_from _ hr3) rfl ?_; clear S; intro v3 a w3 hv3 hk3 hn3 S
    subst hv3
    refine lv S (rn_sub (S.tm rfl) (S.tm rfl)) rfl ?_; clear S; intro a S
    refine lv S (rn_assign (S.tm rfl)) rfl ?_; clear S; intro a S
    refine lv S (rn_assign rfl) rfl ?_; clear S; intro a S
    refine l_done ?_
    replace S := S.nf (L' := []) (K' := [(6, .int .i64 (W (r2 - r3))), (7, .int .i64 0)]) [] rfl ⟨rfl, rfl, trivial⟩
    refine then_n ?_
    refine wp_ret ?_
    obtain rfl := Option.some.inj h
    exact f_ret2 S Tryd.results9 rfl rfl rfl
theorem session_Now_ok (w : World) (v_p_items : Value) (p_items : List GItem) (hs_p_items : Slc (view w []) 5 v_p_items (p_items.map GItem.enc)) (p_from : Int) (v_p_l : Value) (p_l : List GHeld) (hs_p_l : Slc (view w []) 3 v_p_l (p_l.map GHeld.enc)) (p_at : Int) (r : GSlot × Bool × Int) (h : session_Now p_items p_from p_l p_at = some r) :
    Calls Tryd.prog 10 [v_p_items, .int .i64 p_from, v_p_l, .int .i64 p_at].toArray w (Ret w [] fun τ v w' => v = .tuple #[.agg (GSlot.enc r.1).toArray, .bool r.2.1, .int .i64 r.2.2]) := by
  refine f_enter [] [] Tryd.func10 rfl Tryd.ntmps10 rfl (by simp) (by simp [fps]) (by simp [fps]) fun a S => ?_
  unfold session_Now at h
  replace S := S.nf (L' := []) (K' := [(0, v_p_items), (1, .int .i64 p_from), (2, v_p_l), (3, .int .i64 p_at)]) [] rfl ⟨rfl, rfl, rfl, rfl, trivial⟩
  refine f_seq ?_
  refine f_region ?_
  refine l_alloc S Tryd.zeroValue41 (cs := [.string k_empty, .int .i64 0, .int .i64 0, .int .i64 0]) rfl rfl ?_; clear S; intro a w1 b1 hz1 hk1 S
  refine lv S (rn_assign rfl) rfl ?_; clear S; intro a S
  refine lv S (rn_assign rfl) rfl ?_; clear S; intro a S
  refine l_done ?_
  replace S := S.nf (L' := [.blk b1 [.string k_empty, .int .i64 0, .int .i64 0, .int .i64 0] 41]) (K' := [(0, v_p_items), (1, .int .i64 p_from), (2, v_p_l), (3, .int .i64 p_at), (8, .pointer (some ⟨b1, 0, none⟩))]) [true] rfl ⟨rfl, rfl, rfl, rfl, rfl, trivial⟩
  refine then_n ?_
  refine f_seq ?_
  refine f_region ?_
  refine lv S (rn_move (S.tm rfl)) rfl ?_; clear S; intro a S
  refine lv S (rn_move (S.tm rfl)) rfl ?_; clear S; intro a S
  refine lv S (rn_move (S.tm rfl)) rfl ?_; clear S; intro a S
  obtain ⟨r1, hr1, h⟩ := bindE h
  have hz2 := S.keep.size
  refine l_enter S (fun _ => run_call (vs := [v_p_items, .int .i64 p_from, v_p_l]) ⟨(S.tm rfl), (S.tm rfl), (S.tm rfl), trivial⟩ Tryd.call26) (session_checkLive_ok _ v_p_items p_items (hs_p_items.mono (S.le_arg nil_sub)) p_from v_p_l p_l (hs_p_l.mono (S.le_arg nil_sub)) _ hr1) rfl ?_; clear S; intro v1 a w2 hv1 hk2 hn1 S
  obtain ⟨u1, u2, rfl, ho1, ho2⟩ := hv1
  obtain ⟨φ1, hl1, hm1, S⟩ := S.see' hn1 hz2
  have hs1 := ho1.mono hm1
  have hs2 := ho2.mono hm1
  refine lv S (rn_move (S.tm rfl)) rfl ?_; clear S; intro a S
  refine lv S (rn_extract (S.tm rfl) rfl) rfl ?_; clear S; intro a S
  refine lv S (rn_extract (S.tm rfl) rfl) rfl ?_; clear S; intro a S
  refine lv S (rn_extract (S.tm rfl) rfl) rfl ?_; clear S; intro a S
  refine lv S (rn_assign (S.tm rfl)) rfl ?_; clear S; intro a S
  refine lv S (rn_assign (S.tm rfl)) rfl ?_; clear S; intro a S
  refine lv S (rn_assign (S.tm rfl)) rfl ?_; clear S; intro a S
  refine l_done ?_
  replace S := S.nf (L' := [.blk b1 [.string k_empty, .int .i64 0, .int .i64 0, .int .i64 0] 41]) (K' := [(3, .int .i64 p_at), (8, .pointer (some ⟨b1, 0, none⟩)), (11, u1), (13, .int .i64 r1.2.2)]) [true] rfl ⟨rfl, rfl, rfl, rfl, trivial⟩
  refine then_n ?_
  refine f_seq ?_
  refine f_seq ?_
  refine f_region ?_
  refine lv S (rn_move (S.tm rfl)) rfl ?_; clear S; intro a S
  refine lv S (rn_neq (S.tm rfl) rfl) rfl ?_; clear S; intro a S
  refine l_done ?_
  replace S := S.nf (L' := [.blk b1 [.string k_empty, .int .i64 0, .int .i64 0, .int .i64 0] 41]) (K' := [(3, .int .i64 p_at), (8, .pointer (some ⟨b1, 0, none⟩)), (11, u1), (13, .int .i64 r1.2.2), (25, .bool (!decide (r1.2.2 = 0)))]) [true] rfl ⟨rfl, rfl, rfl, rfl, rfl, trivial⟩
  refine then_n ?_
  refine f_cond (S.tm rfl) (fun hb1 => ?_) (fun hb1 => ?_)
  · replace h := iteT h hb1
    refine f_seq ?_
    refine f_region ?_
    refine lv S (rn_bld bt_41 (pv := []) trivial (cs := [.string k_empty, .int .i64 0, .int .i64 0, .int .i64 0]) (by kernel_rfl)) rfl ?_; clear S; intro a S
    refine lv S (rn_move (S.tm rfl)) rfl ?_; clear S; intro a S
    refine l_store S (S.tm rfl) (S.tm rfl) (i := 0) (off := 0) rfl Tryd.sizeOf41 (vs := [.string k_empty, .int .i64 0, .int .i64 0, .int .i64 0]) rfl rfl rfl rfl ?_; clear S; intro w3 hk3 S
    refine lv S (rn_assign rfl) rfl ?_; clear S; intro a S
    refine lv S (rn_assign (S.tm rfl)) rfl ?_; clear S; intro a S
    refine l_done ?_
    replace S := S.nf (L' := [.blk b1 [.string k_empty, .int .i64 0, .int .i64 0, .int .i64 0] 41]) (K' := [(8, .pointer (some ⟨b1, 0, none⟩)), (9, .bool false), (10, .int .i64 r1.2.2)]) [true] rfl ⟨rfl, rfl, rfl, trivial⟩
    refine then_n ?_
    refine wp_ret ?_
    refine then_r ?_
    obtain rfl := Option.some.inj h
    exact f_retG S (rs := [.cell 8 41, .tmp 9, .tmp 10]) (vs := [.agg #[.string k_empty, .int .i64 0, .int .i64 0, .int .i64 0], .bool false, .int .i64 r1.2.2]) Tryd.results10 ⟨(res_cell (off := 0) S rfl Tryd.isAgg41 Tryd.sizeOf41 rfl (S.cellsAt (i := 0) rfl)), (res_tmp S rfl), (res_tmp S rfl), trivial⟩ rfl rfl
  · replace h := iteF h hb1
    refine wp_skip ?_
    refine then_n ?_
    refine f_seq ?_
    refine f_seq ?_
    refine f_region ?_
    refine lv S (rn_move (S.tm rfl)) rfl ?_; clear S; intro a S
    refine l_enter S (fun _ => run_call (vs := [.int .i64 p_at]) ⟨(S.tm rfl), trivial⟩ Tryd.call28) (words_IsMoment_ok _ p_at _ rfl) rfl ?_; clear S; intro v2 a w4 hv2 hk4 hn2 S
    subst hv2
    refine lv S (rn_not (S.tm rfl)) rfl ?_; clear S; intro a S
    refine l_done ?_
    replace S := S.nf (L' := [.blk b1 [.string k_empty, .int .i64 0, .int .i64 0, .int .i64 0] 41]) (K' := [(3, .int .i64 p_at), (8, .pointer (some ⟨b1, 0, none⟩)), (11, u1), (30, .bool (!(words_IsMoment p_at)))]) [true] rfl ⟨rfl, rfl, rfl, rfl, trivial⟩
    refine then_n ?_
    refine f_cond (S.tm rfl) (fun hb2 => ?_) (fun hb2 => ?_)
    · replace h := iteT h hb2
      refine f_seq ?_
      refine f_region ?_
      refine lv S (rn_bld bt_41 (pv := []) trivial (cs := [.string k_empty, .int .i64 0, .int .i64 0, .int .i64 0]) (by kernel_rfl)) rfl ?_; clear S; intro a S
      refine l_store S (S.tm rfl) (S.tm rfl) (i := 0) (off := 0) rfl Tryd.sizeOf41 (vs := [.string k_empty, .int .i64 0, .int .i64 0, .int .i64 0]) rfl rfl rfl rfl ?_; clear S; intro w5 hk5 S
      refine lv S (rn_assign rfl) rfl ?_; clear S; intro a S
      refine lv S (rn_assign rfl) rfl ?_; clear S; intro a S
      refine l_done ?_
      replace S := S.nf (L' := [.blk b1 [.string k_empty, .int .i64 0, .int .i64 0, .int .i64 0] 41]) (K' := [(8, .pointer (some ⟨b1, 0, none⟩)), (9, .bool false), (10, .int .i64 1)]) [true] rfl ⟨rfl, rfl, rfl, trivial⟩
      refine then_n ?_
      refine wp_ret ?_
      refine then_r ?_
      obtain rfl := Option.some.inj h
      exact f_retG S (rs := [.cell 8 41, .tmp 9, .tmp 10]) (vs := [.agg #[.string k_empty, .int .i64 0, .int .i64 0, .int .i64 0], .bool false, .int .i64 1]) Tryd.results10 ⟨(res_cell (off := 0) S rfl Tryd.isAgg41 Tryd.sizeOf41 rfl (S.cellsAt (i := 0) rfl)), (res_tmp S rfl), (res_tmp S rfl), trivial⟩ rfl rfl
    · replace h := iteF h hb2
      refine wp_skip ?_
      refine then_n ?_
      refine f_seq ?_
      refine f_seq ?_
      refine f_region ?_
      refine lv S (rn_move (S.tm rfl)) rfl ?_; clear S; intro a S
      refine lv S (rn_lenT sl_32 (S.tm rfl) (slc_len (ownV_slcT GSlot.enc_ok hs1))) rfl ?_; clear S; intro a S
      refine lv S (rn_move rfl) rfl ?_; clear S; intro a S
      refine l_done ?_
      replace S := S.nf (L' := [.blk b1 [.string k_empty, .int .i64 0, .int .i64 0, .int .i64 0] 41]) (K' := [(3, .int .i64 p_at), (8, .pointer (some ⟨b1, 0, none⟩)), (32, u1), (33, .int .i64 (r1.1.length : Int)), (34, .int .i64 0)]) [true] rfl ⟨rfl, rfl, rfl, rfl, rfl, trivial⟩
      refine then_n ?_
      obtain ⟨j1, hj1, h⟩ := joinE h
      refine f_join (fun a w' => j1 = some r ∧ Sx w [] φ1 [.blk b1 [.string k_empty, .int .i64 0, .int .i64 0, .int .i64 0] 41] [(8, .pointer (some ⟨b1, 0, none⟩))] 46 a w') ?_ ?_
      · refine wp_block ?_
        refine f_loop (fun (ys1 : List GSlot) a w' => ∃ i1 : Nat, (∃ dn, r1.1 = dn ++ ys1 ∧ dn.length = i1) ∧ session_Now_l1 p_at j1 ys1 i1 = some r ∧ Sx w [] φ1 [.blk b1 [.string k_empty, .int .i64 0, .int .i64 0, .int .i64 0] 41] [(3, .int .i64 p_at), (8, .pointer (some ⟨b1, 0, none⟩)), (32, u1), (33, .int .i64 (r1.1.length : Int)), (34, .int .i64 (i1 : Int))] 46 a w') List.length r1.1 ⟨0, ⟨[], rfl, rfl⟩, h, S.nf [true] rfl ⟨rfl, rfl, rfl, rfl, rfl, trivial⟩⟩ ?_
        clear S h; rintro ys1 a w6 ⟨i1, ⟨dn, hd1, hi1⟩, h, S⟩
        cases ys1 with
        | nil =>
          rw [session_Now_l1.eq_1] at h
          refine f_seq ?_
          refine f_region ?_
          refine lv S (rn_lss (S.tm rfl) (S.tm rfl)) rfl ?_; clear S; intro a S
          refine l_done ?_
          replace S := S.nf (L' := [.blk b1 [.string k_empty, .int .i64 0, .int .i64 0, .int .i64 0] 41]) (K' := [(3, .int .i64 p_at), (8, .pointer (some ⟨b1, 0, none⟩)), (32, u1), (33, .int .i64 (r1.1.length : Int)), (34, .int .i64 (i1 : Int)), (35, .bool (decide ((i1 : Int) < (r1.1.length : Int))))]) [true] rfl ⟨rfl, rfl, rfl, rfl, rfl, rfl, trivial⟩
          refine then_n ?_
          refine f_seq ?_
          refine wp_cond_false ((S.tm rfl).trans (congrArg Value.bool (rng_nil hd1 hi1))) ?_
          refine wp_exit ?_
          refine then_x ?_
          refine then_x ?_
          refine x_same ?_
          refine then_n ?_
          exact ⟨h, S.nf [true] rfl ⟨rfl, trivial⟩⟩
        | cons y1 ys1 =>
          rw [session_Now_l1.eq_2] at h
          refine f_seq ?_
          refine f_region ?_
          refine lv S (rn_lss (S.tm rfl) (S.tm rfl)) rfl ?_; clear S; intro a S
          refine l_done ?_
          replace S := S.nf (L' := [.blk b1 [.string k_empty, .int .i64 0, .int .i64 0, .int .i64 0] 41]) (K' := [(3, .int .i64 p_at), (8, .pointer (some ⟨b1, 0, none⟩)), (32, u1), (33, .int .i64 (r1.1.length : Int)), (34, .int .i64 (i1 : Int)), (35, .bool (decide ((i1 : Int) < (r1.1.length : Int))))]) [true] rfl ⟨rfl, rfl, rfl, rfl, rfl, rfl, trivial⟩
          refine then_n ?_
          refine f_seq ?_
          refine wp_cond_true ((S.tm rfl).trans (congrArg Value.bool (rng_cons hd1 hi1))) ?_
          refine wp_skip ?_
          refine then_n ?_
          refine f_seq ?_
          refine wp_block ?_
          refine f_seq ?_
          refine f_region ?_
          obtain ⟨b2, o1, hm2, hr2⟩ := rn_indexT (a := a) (x := .tmp 32) (y := .tmp 34) (ty := 0) sl_32 (ownV_slcT GSlot.enc_ok hs1) (get_mid hd1 hi1) rfl (S.tm rfl) (S.tm rfl)
          refine lv S (hr2 _) rfl ?_; clear S; intro a S
          clear hr2
          refine lv S (rn_ldA Tryd.isAgg41 Tryd.sizeOf41 (off := o1) (o := 0) (part := [.string y1.Item, .int .i64 y1.Heat, .int .i64 y1.Time.From, .int .i64 y1.Time.To]) rfl rfl (S.tm rfl) (hm2.at S.emb)) rfl ?_; clear S; intro a S
          refine l_alloc S Tryd.zeroValue41 (cs := [.string k_empty, .int .i64 0, .int .i64 0, .int .i64 0]) rfl rfl ?_; clear S; intro a w8 b3 hz3 hk6 S
          refine l_store S (S.tm rfl) (S.tm rfl) (i := 0) (off := 0) rfl Tryd.sizeOf41 (vs := [.string y1.Item, .int .i64 y1.Heat, .int .i64 y1.Time.From, .int .i64 y1.Time.To]) rfl rfl rfl rfl ?_; clear S; intro w9 hk7 S
          refine l_done ?_
          replace S := S.nf (L' := [.blk b3 [.string y1.Item, .int .i64 y1.Heat, .int .i64 y1.Time.From, .int .i64 y1.Time.To] 41, .blk b1 [.string k_empty, .int .i64 0, .int .i64 0, .int .i64 0] 41]) (K' := [(3, .int .i64 p_at), (8, .pointer (some ⟨b1, 0, none⟩)), (15, .pointer (some ⟨b3, 0, none⟩)), (32, u1), (33, .int .i64 (r1.1.length : Int)), (34, .int .i64 (i1 : Int))]) [true, true] rfl ⟨rfl, rfl, rfl, rfl, rfl, rfl, trivial⟩
          refine then_n ?_
          refine f_seq ?_
          refine f_region ?_
          refine lv S (rn_move (S.tm rfl)) rfl ?_; clear S; intro a S
          refine lv S (rn_fld fa_41_2 (S.tm rfl)) rfl ?_; clear S; intro a S
          refine lv S (rn_fld fa_39_1 (S.tm rfl)) rfl ?_; clear S; intro a S
          refine lv S (rn_load Tryd.isAgg3 (S.tm rfl) (S.cell (i := 0) rfl rfl)) rfl ?_; clear S; intro a S
          refine lv S (rn_lss (S.tm rfl) (S.tm rfl)) rfl ?_; clear S; intro a S
          refine l_done ?_
          replace S := S.nf (L' := [.blk b3 [.string y1.Item, .int .i64 y1.Heat, .int .i64 y1.Time.From, .int .i64 y1.Time.To] 41, .blk b1 [.string k_empty, .int .i64 0, .int .i64 0, .int .i64 0] 41]) (K' := [(3, .int .i64 p_at), (8, .pointer (some ⟨b1, 0, none⟩)), (15, .pointer (some ⟨b3, 0, none⟩)), (32, u1), (33, .int .i64 (r1.1.length : Int)), (34, .int .i64 (i1 : Int)), (42, .bool (decide (p_at < y1.Time.To)))]) [true, true] rfl ⟨rfl, rfl, rfl, rfl, rfl, rfl, rfl, trivial⟩
          refine then_n ?_
          refine f_cond (S.tm rfl) (fun hb3 => ?_) (fun hb3 => ?_)
          · replace h := iteT h hb3
            refine f_seq ?_
            refine f_region ?_
            refine lv S (rn_ldA Tryd.isAgg41 Tryd.sizeOf41 (off := 0) (o := 0) (part := [.string y1.Item, .int .i64 y1.Heat, .int .i64 y1.Time.From, .int .i64 y1.Time.To]) rfl rfl (S.tm rfl) (S.cellsAt (i := 0) rfl)) rfl ?_; clear S; intro a S
            refine l_store S (S.tm rfl) (S.tm rfl) (i := 1) (off := 0) rfl Tryd.sizeOf41 (vs := [.string y1.Item, .int .i64 y1.Heat, .int .i64 y1.Time.From, .int .i64 y1.Time.To]) rfl rfl rfl rfl ?_; clear S; intro w10 hk8 S
            refine lv S (rn_assign rfl) rfl ?_; clear S; intro a S
            refine lv S (rn_assign rfl) rfl ?_; clear S; intro a S
            refine l_done ?_
            replace S := S.nf (L' := [.blk b1 [.string y1.Item, .int .i64 y1.Heat, .int .i64 y1.Time.From, .int .i64 y1.Time.To] 41]) (K' := [(8, .pointer (some ⟨b1, 0, none⟩)), (9, .bool true), (10, .int .i64 0)]) [false, true] rfl ⟨rfl, rfl, rfl, trivial⟩
            refine then_n ?_
            refine wp_ret ?_
            refine blk_r ?_
            refine then_r ?_
            refine then_r ?_
            refine blk_r ?_
            refine then_r ?_
            refine then_r ?_
            obtain rfl := Option.some.inj h
            exact f_retG S (rs := [.cell 8 41, .tmp 9, .tmp 10]) (vs := [.agg #[.string y1.Item, .int .i64 y1.Heat, .int .i64 y1.Time.From, .int .i64 y1.Time.To], .bool true, .int .i64 0]) Tryd.results10 ⟨(res_cell (off := 0) S rfl Tryd.isAgg41 Tryd.sizeOf41 rfl (S.cellsAt (i := 0) rfl)), (res_tmp S rfl), (res_tmp S rfl), trivial⟩ rfl rfl
          · replace h := iteF h hb3
            refine wp_skip ?_
            refine blk_n ?_
            refine then_n ?_
            refine f_region ?_
            refine lv S (rn_add (S.tm rfl) rfl) rfl ?_; clear S; intro a S
            refine lv S (rn_move (S.tm rfl)) rfl ?_; clear S; intro a S
            refine l_done ?_
            replace S := S.nf (L' := [.blk b1 [.string k_empty, .int .i64 0, .int .i64 0, .int .i64 0] 41]) (K' := [(3, .int .i64 p_at), (8, .pointer (some ⟨b1, 0, none⟩)), (32, u1), (33, .int .i64 (r1.1.length : Int)), (34, .int .i64 (W ((i1 : Int) + 1)))]) [false, true] rfl ⟨rfl, rfl, rfl, rfl, rfl, trivial⟩
            refine then_n ?_
            exact ⟨ys1, ⟨i1 + 1, ⟨_, (hd1).trans (List.append_cons _ _ _), by simp [hi1]⟩, h, S.nf [true] rfl ⟨rfl, rfl, rfl, rfl, (congrArg (fun z => some (Value.int .i64 z)) (rng_next hd1 hi1 (slc_max (ownV_slcT GSlot.enc_ok hs1)))), trivial⟩⟩, Nat.lt_succ_self _⟩
      clear S h; rintro a w7 ⟨h, S⟩; rw [hj1] at h; clear hj1 j1
      refine then_n ?_
      refine f_seq ?_
      refine f_region ?_
      refine lv S (rn_bld bt_41 (pv := []) trivial (cs := [.string k_empty, .int .i64 0, .int .i64 0, .int .i64 0]) (by kernel_rfl)) rfl ?_; clear S; intro a S
      refine l_store S (S.tm rfl) (S.tm rfl) (i := 0) (off := 0) rfl Tryd.sizeOf41 (vs := [.string k_empty, .int .i64 0, .int .i64 0, .int .i64 0]) rfl rfl rfl rfl ?_; clear S; intro w11 hk9 S
      refine lv S (rn_assign rfl) rfl ?_; clear S; intro a S
      refine lv S (rn_assign rfl) rfl ?_; clear S; intro a S
      refine l_done ?_
      replace S := S.nf (L' := [.blk b1 [.string k_empty, .int .i64 0, .int .i64 0, .int .i64 0] 41]) (K' := [(8, .pointer (some ⟨b1, 0, none⟩)), (9, .bool false), (10, .int .i64 0)]) [true] rfl ⟨rfl, rfl, rfl, trivial⟩
      refine then_n ?_
      refine wp_ret ?_
      obtain rfl := Option.some.inj h
      exact f_retG S (rs := [.cell 8 41, .tmp 9, .tmp 10]) (vs := [.agg #[.string k_empty, .int .i64 0, .int .i64 0, .int .i64 0], .bool false, .int .i64 0]) Tryd.results10 ⟨(res_cell (off := 0) S rfl Tryd.isAgg41 Tryd.sizeOf41 rfl (S.cellsAt (i := 0) rfl)), (res_tmp S rfl), (res_tmp S rfl), trivial⟩ rfl rfl
theorem tumbref2_in_ok (w : World) (p_n : Int) (p_low : Int) (p_high : Int) (r : Bool) (h : tumbref2_in p_n p_low p_high = r) :
    Calls Tryd.prog 39 [.int .i64 p_n, .int .i64 p_low, .int .i64 p_high].toArray w (Ret w [] fun τ v w' => v = .bool r) := by
  refine f_enter [] [] Tryd.func39 rfl Tryd.ntmps39 rfl (by simp) (by simp [fps]) (by simp [fps]) fun a S => ?_
  unfold tumbref2_in at h
  replace S := S.nf (L' := []) (K' := [(0, .int .i64 p_n), (1, .int .i64 p_low), (2, .int .i64 p_high)]) [] rfl ⟨rfl, rfl, rfl, trivial⟩
  refine f_seq ?_
  refine f_region ?_
  refine lv S (rn_assign rfl) rfl ?_; clear S; intro a S
  refine l_done ?_
  replace S := S.nf (L' := []) (K' := [(0, .int .i64 p_n), (1, .int .i64 p_low), (2, .int .i64 p_high)]) [] rfl ⟨rfl, rfl, rfl, trivial⟩
  refine then_n ?_
  refine f_seq ?_
  refine f_region ?_
  refine lv S (rn_move (S.tm rfl)) rfl ?_; clear S; intro a S
  refine lv S (rn_move (S.tm rfl)) rfl ?_; clear S; intro a S
  refine lv S (rn_leq (S.tm rfl) (S.tm rfl)) rfl ?_; clear S; intro a S
  refine lv S (rn_move (S.tm rfl)) rfl ?_; clear S; intro a S
  refine f_cutm 4 (fun a w' => Keep [] w w' ∧ Sx w [] nov [] [(14, .bool ((decide (p_low ≤ p_n)) && (decide (p_n ≤ p_high))))] 15 a w') ?_ ?_
  · rcases Bool.eq_false_or_eq_true (decide (p_low ≤ p_n)) with hb1 | hb1
    · refine l_want S rfl rfl rfl hb1 ?_
      refine lv S (rn_move (S.tm rfl)) rfl ?_; clear S; intro a S
      refine l_want S rfl rfl rfl hb1 ?_
      refine lv S (rn_move (S.tm rfl)) rfl ?_; clear S; intro a S
      refine l_want S rfl rfl rfl hb1 ?_
      refine lv S (rn_leq (S.tm rfl) (S.tm rfl)) rfl ?_; clear S; intro a S
      refine lv S (rn_and_t hb1 (S.tm rfl) (S.tm rfl)) rfl ?_; clear S; intro a S
      refine l_done ?_
      refine then_n ?_
      exact ⟨Keep.refl _ _, S.nf [] rfl ⟨rfl, trivial⟩⟩
    · refine l_skip S rfl rfl rfl (neq_f hb1) rfl ?_ rfl; clear S; intro a S
      refine l_skip S rfl rfl rfl (neq_f hb1) rfl ?_ rfl; clear S; intro a S
      refine l_skip S rfl rfl rfl (neq_f hb1) rfl ?_ rfl; clear S; intro a S
      refine lv S (rn_and_f (decide (p_n ≤ p_high)) hb1 (S.tm rfl) rfl) rfl ?_; clear S; intro a S
      refine l_done ?_
      refine then_n ?_
      exact ⟨Keep.refl _ _, S.nf [] rfl ⟨rfl, trivial⟩⟩
  clear S; rintro a w1 ⟨hk1, S⟩
  refine lv S (rn_assign (S.tm rfl)) rfl ?_; clear S; intro a S
  refine l_done ?_
  replace S := S.nf (L' := []) (K' := [(6, .bool ((decide (p_low ≤ p_n)) && (decide (p_n ≤ p_high))))]) [] rfl ⟨rfl, trivial⟩
  refine then_n ?_
  refine wp_ret ?_
  subst h
  exact f_ret S Tryd.results39 rfl rfl
theorem strings_IndexByte_ok (w : World) (s : ByteArray) (c : Int) (r : Int) (h : strings_IndexByte s c = r) : Calls Tryd.prog 64 [.string s, .int .u8 c].toArray w (Ret w [] fun _ v _ => v = .int .i64 r) := by
  subst h
  exact ret_of_same (Any.strings_IndexByte Tryd.lays137 s c w)
theorem tumbref2_only_ok (w : World) (p_s : ByteArray) (p_some : ByteArray) (r : Bool) (h : tumbref2_only p_s p_some = some r) :
    Calls Tryd.prog 55 [.string p_s, .string p_some].toArray w (Ret w [] fun τ v w' => v = .bool r) := by
  refine f_enter [] [] Tryd.func55 rfl Tryd.ntmps55 rfl (by simp) (by simp [fps]) (by simp [fps]) fun a S => ?_
  unfold tumbref2_only at h
  replace S := S.nf (L' := []) (K' := [(0, .string p_s), (1, .string p_some)]) [] rfl ⟨rfl, rfl, trivial⟩
  refine f_seq ?_
  refine f_region ?_
  refine lv S (rn_assign rfl) rfl ?_; clear S; intro a S
  refine l_done ?_
  replace S := S.nf (L' := []) (K' := [(0, .string p_s), (1, .string p_some)]) [] rfl ⟨rfl, rfl, trivial⟩
  refine then_n ?_
  refine f_seq ?_
  refine f_seq ?_
  refine f_region ?_
  refine lv S (rn_move (S.tm rfl)) rfl ?_; clear S; intro a S
  refine lv S (rn_len_str Tryd.underlying9 (S.tm rfl)) rfl ?_; clear S; intro a S
  refine lv S (rn_move rfl) rfl ?_; clear S; intro a S
  refine l_done ?_
  replace S := S.nf (L' := []) (K' := [(0, .string p_s), (1, .string p_some), (7, .int .i64 (p_s.size : Int)), (8, .int .i64 0)]) [] rfl ⟨rfl, rfl, rfl, rfl, trivial⟩
  refine then_n ?_
  obtain ⟨j1, hj1, h⟩ := joinE h
  refine f_join (fun a w' => j1 = some r ∧ Sx w [] nov [] [] 18 a w') ?_ ?_
  · refine wp_block ?_
    refine f_loop (fun (m1 : Nat) a w' => ∃ x1 : Int, tumbref2_only_l1 p_s p_some j1 m1 x1 = some r ∧ Sx w [] nov [] [(0, .string p_s), (1, .string p_some), (7, .int .i64 (p_s.size : Int)), (8, .int .i64 x1)] 18 a w') id (((p_s.size : Int) - 0).toNat + 2) ⟨0, h, S.nf [] rfl ⟨rfl, rfl, rfl, rfl, trivial⟩⟩ ?_
    clear S h; rintro m1 a w1 ⟨x1, h, S⟩
    cases m1 with
    | zero => rw [tumbref2_only_l1.eq_1] at h; cases h
    | succ m1 =>
      rw [tumbref2_only_l1.eq_2] at h
      refine f_seq ?_
      refine f_region ?_
      refine lv S (rn_lss (S.tm rfl) (S.tm rfl)) rfl ?_; clear S; intro a S
      refine l_done ?_
      replace S := S.nf (L' := []) (K' := [(0, .string p_s), (1, .string p_some), (7, .int .i64 (p_s.size : Int)), (8, .int .i64 x1), (9, .bool (decide (x1 < (p_s.size : Int))))]) [] rfl ⟨rfl, rfl, rfl, rfl, rfl, trivial⟩
      refine then_n ?_
      refine f_seq ?_
      refine f_cond (S.tm rfl) (fun hb1 => ?_) (fun hb1 => ?_)
      · replace h := iteT h hb1
        refine wp_skip ?_
        refine then_n ?_
        refine f_seq ?_
        refine wp_block ?_
        refine f_seq ?_
        refine f_region ?_
        refine lv S (rn_move (S.tm rfl)) rfl ?_; clear S; intro a S
        refine lv S (rn_assign (S.tm rfl)) rfl ?_; clear S; intro a S
        refine l_done ?_
        replace S := S.nf (L' := []) (K' := [(0, .string p_s), (1, .string p_some), (5, .int .i64 x1), (7, .int .i64 (p_s.size : Int)), (8, .int .i64 x1)]) [] rfl ⟨rfl, rfl, rfl, rfl, rfl, trivial⟩
        refine then_n ?_
        refine f_seq ?_
        refine f_region ?_
        refine lv S (rn_move (S.tm rfl)) rfl ?_; clear S; intro a S
        refine lv S (rn_move (S.tm rfl)) rfl ?_; clear S; intro a S
        refine lv S (rn_move (S.tm rfl)) rfl ?_; clear S; intro a S
        obtain ⟨hc1, h⟩ := chkE h
        refine lv S (rn_sindexT Tryd.underlying9 (S.tm rfl) (S.tm rfl) hc1) rfl ?_; clear S; intro a S
        refine l_enter S (fun _ => run_call (vs := [.string p_some, .int .u8 (sbyte p_s x1)]) ⟨(S.tm rfl), (S.tm rfl), trivial⟩ Tryd.call64) (strings_IndexByte_ok _ p_some (sbyte p_s x1) _ rfl) rfl ?_; clear S; intro v1 a w3 hv1 hk1 hn1 S
        subst hv1
        refine lv S (rn_lss (S.tm rfl) rfl) rfl ?_; clear S; intro a S
        refine l_done ?_
        replace S := S.nf (L' := []) (K' := [(0, .string p_s), (1, .string p_some), (7, .int .i64 (p_s.size : Int)), (8, .int .i64 x1), (16, .bool (decide ((strings_IndexByte p_some (sbyte p_s x1)) < 0)))]) [] rfl ⟨rfl, rfl, rfl, rfl, rfl, trivial⟩
        refine then_n ?_
        refine f_cond (S.tm rfl) (fun hb2 => ?_) (fun hb2 => ?_)
        · replace h := iteT h hb2
          refine f_seq ?_
          refine f_region ?_
          refine lv S (rn_assign rfl) rfl ?_; clear S; intro a S
          refine l_done ?_
          replace S := S.nf (L' := []) (K' := [(4, .bool false)]) [] rfl ⟨rfl, trivial⟩
          refine then_n ?_
          refine wp_ret ?_
          refine blk_r ?_
          refine then_r ?_
          refine then_r ?_
          refine blk_r ?_
          refine then_r ?_
          refine then_r ?_
          obtain rfl := Option.some.inj h
          exact f_ret S Tryd.results55 rfl rfl
        · replace h := iteF h hb2
          refine wp_skip ?_
          refine blk_n ?_
          refine then_n ?_
          refine f_region ?_
          refine lv S (rn_add (S.tm rfl) rfl) rfl ?_; clear S; intro a S
          refine lv S (rn_move (S.tm rfl)) rfl ?_; clear S; intro a S
          refine l_done ?_
          replace S := S.nf (L' := []) (K' := [(0, .string p_s), (1, .string p_some), (7, .int .i64 (p_s.size : Int)), (8, .int .i64 (W (x1 + 1)))]) [] rfl ⟨rfl, rfl, rfl, rfl, trivial⟩
          refine then_n ?_
          exact ⟨m1, ⟨W (x1 + 1), h, S.nf [] rfl ⟨rfl, rfl, rfl, rfl, trivial⟩⟩, Nat.lt_succ_self _⟩
      · replace h := iteF h hb1
        refine wp_exit ?_
        refine then_x ?_
        refine then_x ?_
        refine x_same ?_
        refine then_n ?_
        exact ⟨h, S.nf [] rfl trivial⟩
  clear S h; rintro a w2 ⟨h, S⟩; rw [hj1] at h; clear hj1 j1
  refine then_n ?_
  refine f_seq ?_
  refine f_region ?_
  refine lv S (rn_assign rfl) rfl ?_; clear S; intro a S
  refine l_done ?_
  replace S := S.nf (L' := []) (K' := [(4, .bool true)]) [] rfl ⟨rfl, trivial⟩
  refine then_n ?_
  refine wp_ret ?_
  obtain rfl := Option.some.inj h
  exact f_ret S Tryd.results55 rfl rfl
theorem tumbref2_Key_ok (w : World) (p_s : ByteArray) (r : Bool) (h : tumbref2_Key p_s = some r) :
    Calls Tryd.prog 48 [.string p_s].toArray w (Ret w [] fun τ v w' => v = .bool r) := by
  refine f_enter [] [] Tryd.func48 rfl Tryd.ntmps48 rfl (by simp) (by simp [fps]) (by simp [fps]) fun a S => ?_
  unfold tumbref2_Key at h
  replace S := S.nf (L' := []) (K' := [(0, .string p_s)]) [] rfl ⟨rfl, trivial⟩
  refine f_seq ?_
  refine f_region ?_
  refine lv S (rn_assign rfl) rfl ?_; clear S; intro a S
  refine l_done ?_
  replace S := S.nf (L' := []) (K' := [(0, .string p_s)]) [] rfl ⟨rfl, trivial⟩
  refine then_n ?_
  refine f_seq ?_
  refine f_region ?_
  refine lv S (rn_move (S.tm rfl)) rfl ?_; clear S; intro a S
  refine lv S (rn_len_str Tryd.underlying9 (S.tm rfl)) rfl ?_; clear S; intro a S
  refine l_enter S (fun _ => run_call (vs := [.int .i64 (p_s.size : Int), .int .i64 1, .int .i64 40]) ⟨(S.tm rfl), rfl, rfl, trivial⟩ Tryd.call39) (tumbref2_in_ok _ (p_s.size : Int) 1 40 _ rfl) rfl ?_; clear S; intro v1 a w1 hv1 hk1 hn1 S
  subst hv1
  refine lv S (rn_move (S.tm rfl)) rfl ?_; clear S; intro a S
  obtain ⟨j1, hj1, h⟩ := joinE h
  refine f_cutm 4 (fun a w' => ∃ c1, j1 c1 = some r ∧ Keep [] w1 w' ∧ Sx w [] nov [] [(0, .string p_s), (10, .bool c1)] 15 a w') ?_ ?_
  · rcases Bool.eq_false_or_eq_true (tumbref2_in (p_s.size : Int) 1 40) with hb1 | hb1
    · replace h := iteT h hb1
      refine l_want S rfl rfl rfl hb1 ?_
      refine lv S (rn_move (S.tm rfl)) rfl ?_; clear S; intro a S
      refine l_want S rfl rfl rfl hb1 ?_
      obtain ⟨hc1, h⟩ := chkE h
      refine lv S (rn_scutTh Tryd.underlying9 (S.tm rfl) rfl hc1) rfl ?_; clear S; intro a S
      refine l_want S rfl rfl rfl hb1 ?_
      obtain ⟨r1, hr1, h⟩ := bindE h
      refine l_enter S (fun _ => run_call (vs := [.string (scut p_s 0 1), .string k_abcdefghijklmnopqrstuvwxyz]) ⟨(S.tm rfl), rfl, trivial⟩ Tryd.call55) (tumbref2_only_ok _ (scut p_s 0 1) k_abcdefghijklmnopqrstuvwxyz _ hr1) rfl ?_; clear S; intro v2 a w3 hv2 hk2 hn2 S
      subst hv2
      refine lv S (rn_and_t hb1 (S.tm rfl) (S.tm rfl)) rfl ?_; clear S; intro a S
      refine l_done ?_
      refine then_n ?_
      exact ⟨_, h, hk2, S.nf [] rfl ⟨rfl, rfl, trivial⟩⟩
    · replace h := iteF h hb1
      refine l_skip S rfl rfl rfl (neq_f hb1) rfl ?_ rfl; clear S; intro a S
      refine l_skip S rfl rfl rfl (neq_f hb1) rfl ?_ rfl; clear S; intro a S
      refine l_skip S rfl rfl rfl (neq_f hb1) rfl ?_ rfl; clear S; intro a S
      refine lv S (rn_and_f true hb1 (S.tm rfl) rfl) rfl ?_; clear S; intro a S
      refine l_done ?_
      refine then_n ?_
      exact ⟨_, h, Keep.refl _ _, S.nf [] rfl ⟨rfl, rfl, trivial⟩⟩
  clear S h; rintro a w2 ⟨c1, h, hk3, S⟩; rw [hj1] at h; clear hj1 j1
  refine lv S (rn_move (S.tm rfl)) rfl ?_; clear S; intro a S
  obtain ⟨j2, hj2, h⟩ := joinE h
  refine f_cutm 3 (fun a w' => ∃ c2, j2 c2 = some r ∧ Keep [] w2 w' ∧ Sx w [] nov [] [(14, .bool c2)] 15 a w') ?_ ?_
  · rcases Bool.eq_false_or_eq_true c1 with hb2 | hb2
    · replace h := iteT h hb2
      refine l_want S rfl rfl rfl hb2 ?_
      refine lv S (rn_move (S.tm rfl)) rfl ?_; clear S; intro a S
      refine l_want S rfl rfl rfl hb2 ?_
      obtain ⟨r2, hr2, h⟩ := bindE h
      refine l_enter S (fun _ => run_call (vs := [.string p_s, .string k_abcdefghijkl_h0e2e2c]) ⟨(S.tm rfl), rfl, trivial⟩ Tryd.call55) (tumbref2_only_ok _ p_s k_abcdefghijkl_h0e2e2c _ hr2) rfl ?_; clear S; intro v3 a w5 hv3 hk4 hn3 S
      subst hv3
      refine lv S (rn_and_t hb2 (S.tm rfl) (S.tm rfl)) rfl ?_; clear S; intro a S
      refine l_done ?_
      refine then_n ?_
      exact ⟨_, h, hk4, S.nf [] rfl ⟨rfl, trivial⟩⟩
    · replace h := iteF h hb2
      refine l_skip S rfl rfl rfl (neq_f hb2) rfl ?_ rfl; clear S; intro a S
      refine l_skip S rfl rfl rfl (neq_f hb2) rfl ?_ rfl; clear S; intro a S
      refine lv S (rn_and_f true hb2 (S.tm rfl) rfl) rfl ?_; clear S; intro a S
      refine l_done ?_
      refine then_n ?_
      exact ⟨_, h, Keep.refl _ _, S.nf [] rfl ⟨rfl, trivial⟩⟩
  clear S h; rintro a w4 ⟨c2, h, hk5, S⟩; rw [hj2] at h; clear hj2 j2
  refine lv S (rn_assign (S.tm rfl)) rfl ?_; clear S; intro a S
  refine l_done ?_
  replace S := S.nf (L' := []) (K' := [(2, .bool c2)]) [] rfl ⟨rfl, trivial⟩
  refine then_n ?_
  refine wp_ret ?_
  obtain rfl := Option.some.inj h
  exact f_ret S Tryd.results48 rfl rfl
theorem tumbref2_ItemAt_c1_ok (w : World) (p_x : GItem) (b_p_a1 : Nat) (p_a1 : ByteArray) (hb_b_p_a1 : view w [] b_p_a1 = some (.cells [.string p_a1].toArray 9 (0, 0))) (r : Bool) (h : tumbref2_ItemAt_c1 p_x p_a1 = r) :
    Calls Tryd.prog 49 [.agg (GItem.enc p_x).toArray, .pointer (some ⟨b_p_a1, 0, none⟩)].toArray w (Ret w [] fun τ v w' => v = .bool r) := by
  refine f_enter [] [] Tryd.func49 rfl Tryd.ntmps49 rfl (by simp) (by simp [fps]) (by simp [fps]) fun a S => ?_
  unfold tumbref2_ItemAt_c1 at h
  replace S := S.nf (L' := []) (K' := [(0, .agg (GItem.enc p_x).toArray), (1, .pointer (some ⟨b_p_a1, 0, none⟩))]) [] rfl ⟨rfl, rfl, trivial⟩
  refine f_seq ?_
  refine f_region ?_
  refine l_box S (S.tm rfl) (cs := [.string p_x.Key, .int .i64 p_x.Heats, .int .i64 p_x.Long, .int .i64 p_x.Gap, .int .i64 p_x.Break]) rfl rfl ?_; clear S; intro a w1 b1 hz1 hk1 S
  refine lv S (rn_assign rfl) rfl ?_; clear S; intro a S
  refine l_done ?_
  replace S := S.nf (L' := [.blk b1 [.string p_x.Key, .int .i64 p_x.Heats, .int .i64 p_x.Long, .int .i64 p_x.Gap, .int .i64 p_x.Break] 58]) (K' := [(1, .pointer (some ⟨b_p_a1, 0, none⟩)), (2, .pointer (some ⟨b1, 0, none⟩))]) [true] rfl ⟨rfl, rfl, trivial⟩
  refine then_n ?_
  refine f_seq ?_
  refine f_region ?_
  refine lv S (rn_fld fa_58_0 (S.tm rfl)) rfl ?_; clear S; intro a S
  refine lv S (rn_load Tryd.isAgg9 (S.tm rfl) (S.cell (i := 0) rfl rfl)) rfl ?_; clear S; intro a S
  refine lv S (rn_ld Tryd.isAgg9 (off := 0) (o := 0) (S.tm rfl) ((mem_blk hb_b_p_a1).at S.emb0) rfl) rfl ?_; clear S; intro a S
  refine lv S (rn_seql (S.tm rfl) (S.tm rfl)) rfl ?_; clear S; intro a S
  refine lv S (rn_assign (S.tm rfl)) rfl ?_; clear S; intro a S
  refine l_done ?_
  replace S := S.nf (L' := []) (K' := [(3, .bool (decide (p_x.Key = p_a1)))]) [false] rfl ⟨rfl, trivial⟩
  refine then_n ?_
  refine wp_ret ?_
  subst h
  exact f_ret S Tryd.results49 rfl rfl
theorem slices_IndexFunc_Item_tumbref2_ItemAt_c1_ok (w : World) (v_p_s : Value) (p_s : List GItem) (hs_p_s : Slc (view w []) 5 v_p_s (p_s.map GItem.enc)) (b_p_f_0 : Nat) (p_f_0 : ByteArray) (hb_b_p_f_0 : view w [] b_p_f_0 = some (.cells [.string p_f_0].toArray 9 (0, 0))) (r : Int) (h : slices_IndexFunc_Item_tumbref2_ItemAt_c1 p_s p_f_0 = r) :
    Calls Tryd.prog 46 [v_p_s, .func (.func 49) #[] #[.pointer (some ⟨b_p_f_0, 0, none⟩)]].toArray w (Ret w [] fun τ v w' => v = .int .i64 r) := by
  refine f_enter [] [] Tryd.func46 rfl Tryd.ntmps46 rfl (by simp) (by simp [fps]) (by simp [fps]) fun a S => ?_
  unfold slices_IndexFunc_Item_tumbref2_ItemAt_c1 at h
  replace S := S.nf (L' := []) (K' := [(0, v_p_s), (1, .func (.func 49) #[] #[.pointer (some ⟨b_p_f_0, 0, none⟩)])]) [] rfl ⟨rfl, rfl, trivial⟩
  refine f_seq ?_
  refine f_region ?_
  refine lv S (rn_assign rfl) rfl ?_; clear S; intro a S
  refine l_done ?_
  replace S := S.nf (L' := []) (K' := [(0, v_p_s), (1, .func (.func 49) #[] #[.pointer (some ⟨b_p_f_0, 0, none⟩)])]) [] rfl ⟨rfl, rfl, trivial⟩
  refine then_n ?_
  refine f_seq ?_
  refine f_seq ?_
  refine f_region ?_
  refine lv S (rn_move (S.tm rfl)) rfl ?_; clear S; intro a S
  refine lv S (rn_lenT sl_26 (S.tm rfl) (slc_len hs_p_s)) rfl ?_; clear S; intro a S
  refine lv S (rn_move rfl) rfl ?_; clear S; intro a S
  refine l_done ?_
  replace S := S.nf (L' := []) (K' := [(0, v_p_s), (1, .func (.func 49) #[] #[.pointer (some ⟨b_p_f_0, 0, none⟩)]), (7, .int .i64 (p_s.length : Int)), (8, .int .i64 0)]) [] rfl ⟨rfl, rfl, rfl, rfl, trivial⟩
  refine then_n ?_
  obtain ⟨j1, hj1, h⟩ := joinE h
  refine f_join (fun a w' => j1 = r ∧ Sx w [] nov [] [] 19 a w') ?_ ?_
  · refine wp_block ?_
    refine f_loop (fun (ys1 : List GItem) a w' => ∃ i1 : Nat, (∃ dn, p_s = dn ++ ys1 ∧ dn.length = i1) ∧ slices_IndexFunc_Item_tumbref2_ItemAt_c1_l1 p_f_0 j1 ys1 i1 = r ∧ Sx w [] nov [] [(0, v_p_s), (1, .func (.func 49) #[] #[.pointer (some ⟨b_p_f_0, 0, none⟩)]), (7, .int .i64 (p_s.length : Int)), (8, .int .i64 (i1 : Int))] 19 a w') List.length p_s ⟨0, ⟨[], rfl, rfl⟩, h, S.nf [] rfl ⟨rfl, rfl, rfl, rfl, trivial⟩⟩ ?_
    clear S h; rintro ys1 a w1 ⟨i1, ⟨dn, hd1, hi1⟩, h, S⟩
    cases ys1 with
    | nil =>
      rw [slices_IndexFunc_Item_tumbref2_ItemAt_c1_l1.eq_1] at h
      refine f_seq ?_
      refine f_region ?_
      refine lv S (rn_lss (S.tm rfl) (S.tm rfl)) rfl ?_; clear S; intro a S
      refine l_done ?_
      replace S := S.nf (L' := []) (K' := [(0, v_p_s), (1, .func (.func 49) #[] #[.pointer (some ⟨b_p_f_0, 0, none⟩)]), (7, .int .i64 (p_s.length : Int)), (8, .int .i64 (i1 : Int)), (9, .bool (decide ((i1 : Int) < (p_s.length : Int))))]) [] rfl ⟨rfl, rfl, rfl, rfl, rfl, trivial⟩
      refine then_n ?_
      refine f_seq ?_
      refine wp_cond_false ((S.tm rfl).trans (congrArg Value.bool (rng_nil hd1 hi1))) ?_
      refine wp_exit ?_
      refine then_x ?_
      refine then_x ?_
      refine x_same ?_
      refine then_n ?_
      exact ⟨h, S.nf [] rfl trivial⟩
    | cons y1 ys1 =>
      rw [slices_IndexFunc_Item_tumbref2_ItemAt_c1_l1.eq_2] at h
      refine f_seq ?_
      refine f_region ?_
      refine lv S (rn_lss (S.tm rfl) (S.tm rfl)) rfl ?_; clear S; intro a S
      refine l_done ?_
      replace S := S.nf (L' := []) (K' := [(0, v_p_s), (1, .func (.func 49) #[] #[.pointer (some ⟨b_p_f_0, 0, none⟩)]), (7, .int .i64 (p_s.length : Int)), (8, .int .i64 (i1 : Int)), (9, .bool (decide ((i1 : Int) < (p_s.length : Int))))]) [] rfl ⟨rfl, rfl, rfl, rfl, rfl, trivial⟩
      refine then_n ?_
      refine f_seq ?_
      refine wp_cond_true ((S.tm rfl).trans (congrArg Value.bool (rng_cons hd1 hi1))) ?_
      refine wp_skip ?_
      refine then_n ?_
      refine f_seq ?_
      refine wp_block ?_
      refine f_seq ?_
      refine f_region ?_
      refine lv S (rn_move (S.tm rfl)) rfl ?_; clear S; intro a S
      refine lv S (rn_assign (S.tm rfl)) rfl ?_; clear S; intro a S
      refine l_done ?_
      replace S := S.nf (L' := []) (K' := [(0, v_p_s), (1, .func (.func 49) #[] #[.pointer (some ⟨b_p_f_0, 0, none⟩)]), (5, .int .i64 (i1 : Int)), (7, .int .i64 (p_s.length : Int)), (8, .int .i64 (i1 : Int))]) [] rfl ⟨rfl, rfl, rfl, rfl, rfl, trivial⟩
      refine then_n ?_
      refine f_seq ?_
      refine f_region ?_
      refine lv S (rn_move (S.tm rfl)) rfl ?_; clear S; intro a S
      refine lv S (rn_move (S.tm rfl)) rfl ?_; clear S; intro a S
      refine lv S (rn_move (S.tm rfl)) rfl ?_; clear S; intro a S
      obtain ⟨b1, o1, hm1, hr1⟩ := rn_indexT (a := a) (x := .tmp 12) (y := .tmp 13) (ty := 0) sl_26 hs_p_s (get_mid hd1 hi1) rfl (S.tm rfl) (S.tm rfl)
      refine lv S (hr1 _) rfl ?_; clear S; intro a S
      clear hr1
      refine lv S (rn_ldA Tryd.isAgg58 Tryd.sizeOf58 (off := o1) (o := 0) (part := [.string y1.Key, .int .i64 y1.Heats, .int .i64 y1.Long, .int .i64 y1.Gap, .int .i64 y1.Break]) rfl rfl (S.tm rfl) (hm1.at S.emb0)) rfl ?_; clear S; intro a S
      refine l_enter S (fun _ => run_callV (cap := [.pointer (some ⟨b_p_f_0, 0, none⟩)]) (S.tm rfl) (vs := [.agg (GItem.enc y1).toArray]) ⟨(S.tm rfl), trivial⟩ Tryd.call49) (tumbref2_ItemAt_c1_ok _ y1 b_p_f_0 p_f_0 (S.le_arg nil_sub _ _ hb_b_p_f_0) _ rfl) rfl ?_; clear S; intro v1 a w3 hv1 hk1 hn1 S
      subst hv1
      refine l_done ?_
      replace S := S.nf (L' := []) (K' := [(0, v_p_s), (1, .func (.func 49) #[] #[.pointer (some ⟨b_p_f_0, 0, none⟩)]), (5, .int .i64 (i1 : Int)), (7, .int .i64 (p_s.length : Int)), (8, .int .i64 (i1 : Int)), (16, .bool (tumbref2_ItemAt_c1 y1 p_f_0))]) [] rfl ⟨rfl, rfl, rfl, rfl, rfl, rfl, trivial⟩
      refine then_n ?_
      refine f_cond (S.tm rfl) (fun hb1 => ?_) (fun hb1 => ?_)
      · replace h := iteT h hb1
        refine f_seq ?_
        refine f_region ?_
        refine lv S (rn_move (S.tm rfl)) rfl ?_; clear S; intro a S
        refine lv S (rn_assign (S.tm rfl)) rfl ?_; clear S; intro a S
        refine l_done ?_
        replace S := S.nf (L' := []) (K' := [(4, .int .i64 (i1 : Int))]) [] rfl ⟨rfl, trivial⟩
        refine then_n ?_
        refine wp_ret ?_
        refine blk_r ?_
        refine then_r ?_
        refine then_r ?_
        refine blk_r ?_
        refine then_r ?_
        refine then_r ?_
        subst h
        exact f_ret S Tryd.results46 rfl rfl
      · replace h := iteF h hb1
        refine wp_skip ?_
        refine blk_n ?_
        refine then_n ?_
        refine f_region ?_
        refine lv S (rn_add (S.tm rfl) rfl) rfl ?_; clear S; intro a S
        refine lv S (rn_move (S.tm rfl)) rfl ?_; clear S; intro a S
        refine l_done ?_
        replace S := S.nf (L' := []) (K' := [(0, v_p_s), (1, .func (.func 49) #[] #[.pointer (some ⟨b_p_f_0, 0, none⟩)]), (7, .int .i64 (p_s.length : Int)), (8, .int .i64 (W ((i1 : Int) + 1)))]) [] rfl ⟨rfl, rfl, rfl, rfl, trivial⟩
        refine then_n ?_
        exact ⟨ys1, ⟨i1 + 1, ⟨_, (hd1).trans (List.append_cons _ _ _), by simp [hi1]⟩, h, S.nf [] rfl ⟨rfl, rfl, rfl, (congrArg (fun z => some (Value.int .i64 z)) (rng_next hd1 hi1 (slc_max hs_p_s))), trivial⟩⟩, Nat.lt_succ_self _⟩
  clear S h; rintro a w2 ⟨h, S⟩; rw [hj1] at h; clear hj1 j1
  refine then_n ?_
  refine f_seq ?_
  refine f_region ?_
  refine lv S (rn_assign rfl) rfl ?_; clear S; intro a S
  refine l_done ?_
  replace S := S.nf (L' := []) (K' := [(4, .int .i64 (-1))]) [] rfl ⟨rfl, trivial⟩
  refine then_n ?_
  refine wp_ret ?_
  subst h
  exact f_ret S Tryd.results46 rfl rfl
theorem tumbref2_ItemAt_ok (w : World) (v_p_l : Value) (p_l : List GItem) (hs_p_l : Slc (view w []) 5 v_p_l (p_l.map GItem.enc)) (p_key : ByteArray) (r : Int) (h : tumbref2_ItemAt p_l p_key = r) :
    Calls Tryd.prog 38 [v_p_l, .string p_key].toArray w (Ret w [] fun τ v w' => v = .int .i64 r) := by
  refine f_enter [] [] Tryd.func38 rfl Tryd.ntmps38 rfl (by simp) (by simp [fps]) (by simp [fps]) fun a S => ?_
  unfold tumbref2_ItemAt at h
  replace S := S.nf (L' := []) (K' := [(0, v_p_l), (1, .string p_key)]) [] rfl ⟨rfl, rfl, trivial⟩
  refine f_seq ?_
  refine f_region ?_
  refine l_box S (S.tm rfl) (cs := [.string p_key]) rfl rfl ?_; clear S; intro a w1 b1 hz1 hk1 S
  refine lv S (rn_assign rfl) rfl ?_; clear S; intro a S
  refine l_done ?_
  replace S := S.nf (L' := [.blk b1 [.string p_key] 9]) (K' := [(0, v_p_l), (3, .pointer (some ⟨b1, 0, none⟩))]) [true] rfl ⟨rfl, rfl, trivial⟩
  refine then_n ?_
  refine f_seq ?_
  refine f_region ?_
  refine lv S (rn_move (S.tm rfl)) rfl ?_; clear S; intro a S
  refine lv S (rn_makeFunc (us := #[]) (xs := [].toArray) (ys := [.tmp 3].toArray) (by simp) (evA ⟨(S.tm rfl), trivial⟩ (vs := [.pointer (some ⟨b1, 0, none⟩)]))) rfl ?_; clear S; intro a S
  refine l_enter S (fun _ => run_call (vs := [v_p_l, .func (.func 49) #[] #[.pointer (some ⟨b1, 0, none⟩)]]) ⟨(S.tm rfl), (S.tm rfl), trivial⟩ Tryd.call46) (slices_IndexFunc_Item_tumbref2_ItemAt_c1_ok _ v_p_l p_l (hs_p_l.mono (S.le_arg nil_sub)) b1 p_key (S.blk_view (i := 0) rfl ((ne_nil (e' := .blk b1 [.string p_key] 9)) _ rfl)) _ rfl) rfl ?_; clear S; intro v1 a w2 hv1 hk2 hn1 S
  subst hv1
  refine lv S (rn_assign (S.tm rfl)) rfl ?_; clear S; intro a S
  refine l_done ?_
  replace S := S.nf (L' := []) (K' := [(4, .int .i64 (slices_IndexFunc_Item_tumbref2_ItemAt_c1 p_l p_key))]) [false] rfl ⟨rfl, trivial⟩
  refine then_n ?_
  refine wp_ret ?_
  subst h
  exact f_ret S Tryd.results38 rfl rfl
set_option maxRecDepth 20000 in
theorem tumbref2_ItemsFault_ok (w : World) (v_p_l : Value) (p_l : List GItem) (hs_p_l : Slc (view w []) 5 v_p_l (p_l.map GItem.enc)) (r : Int) (h : tumbref2_ItemsFault p_l = some r) :
    Calls Tryd.prog 37 [v_p_l].toArray w (Ret w [] fun τ v w' => v = .int .i64 r) := by
  refine f_enter [] [] Tryd.func37 rfl Tryd.ntmps37 rfl (by simp) (by simp [fps]) (by simp [fps]) fun a S => ?_
  unfold tumbref2_ItemsFault at h
  replace S := S.nf (L' := []) (K' := [(0, v_p_l)]) [] rfl ⟨rfl, trivial⟩
  refine f_seq ?_
  refine f_region ?_
  refine lv S (rn_assign rfl) rfl ?_; clear S; intro a S
  refine l_done ?_
  replace S := S.nf (L' := []) (K' := [(0, v_p_l)]) [] rfl ⟨rfl, trivial⟩
  refine then_n ?_
  refine f_seq ?_
  refine f_seq ?_
  refine f_region ?_
  refine lv S (rn_move (S.tm rfl)) rfl ?_; clear S; intro a S
  refine lv S (rn_lenT sl_26 (S.tm rfl) (slc_len hs_p_l)) rfl ?_; clear S; intro a S
  refine lv S (rn_gtr (S.tm rfl) rfl) rfl ?_; clear S; intro a S
  refine l_done ?_
  replace S := S.nf (L' := []) (K' := [(0, v_p_l), (7, .bool (decide (100 < (p_l.length : Int))))]) [] rfl ⟨rfl, rfl, trivial⟩
  refine then_n ?_
  refine f_cond (S.tm rfl) (fun hb1 => ?_) (fun hb1 => ?_)
  · replace h := iteT h hb1
    refine f_seq ?_
    refine f_region ?_
    refine lv S (rn_assign rfl) rfl ?_; clear S; intro a S
    refine l_done ?_
    replace S := S.nf (L' := []) (K' := [(2, .int .i64 2)]) [] rfl ⟨rfl, trivial⟩
    refine then_n ?_
    refine wp_ret ?_
    refine then_r ?_
    obtain rfl := Option.some.inj h
    exact f_ret S Tryd.results37 rfl rfl
  · replace h := iteF h hb1
    refine wp_skip ?_
    refine then_n ?_
    refine f_seq ?_
    refine f_seq ?_
    refine f_region ?_
    refine lv S (rn_move (S.tm rfl)) rfl ?_; clear S; intro a S
    refine lv S (rn_lenT sl_26 (S.tm rfl) (slc_len hs_p_l)) rfl ?_; clear S; intro a S
    refine lv S (rn_move rfl) rfl ?_; clear S; intro a S
    refine l_done ?_
    replace S := S.nf (L' := []) (K' := [(0, v_p_l), (8, v_p_l), (9, .int .i64 (p_l.length : Int)), (10, .int .i64 0)]) [] rfl ⟨rfl, rfl, rfl, rfl, trivial⟩
    refine then_n ?_
    obtain ⟨j1, hj1, h⟩ := joinE h
    refine f_join (fun a w' => j1 = some r ∧ Sx w [] nov [] [] 52 a w') ?_ ?_
    · refine wp_block ?_
      refine f_loop (fun (ys1 : List GItem) a w' => ∃ i1 : Nat, (∃ dn, p_l = dn ++ ys1 ∧ dn.length = i1) ∧ tumbref2_ItemsFault_l1 p_l j1 ys1 i1 = some r ∧ Sx w [] nov [] [(0, v_p_l), (8, v_p_l), (9, .int .i64 (p_l.length : Int)), (10, .int .i64 (i1 : Int))] 52 a w') List.length p_l ⟨0, ⟨[], rfl, rfl⟩, h, S.nf [] rfl ⟨rfl, rfl, rfl, rfl, trivial⟩⟩ ?_
      clear S h; rintro ys1 a w1 ⟨i1, ⟨dn, hd1, hi1⟩, h, S⟩
      cases ys1 with
      | nil =>
        rw [tumbref2_ItemsFault_l1.eq_1] at h
        refine f_seq ?_
        refine f_region ?_
        refine lv S (rn_lss (S.tm rfl) (S.tm rfl)) rfl ?_; clear S; intro a S
        refine l_done ?_
        replace S := S.nf (L' := []) (K' := [(0, v_p_l), (8, v_p_l), (9, .int .i64 (p_l.length : Int)), (10, .int .i64 (i1 : Int)), (11, .bool (decide ((i1 : Int) < (p_l.length : Int))))]) [] rfl ⟨rfl, rfl, rfl, rfl, rfl, trivial⟩
        refine then_n ?_
        refine f_seq ?_
        refine wp_cond_false ((S.tm rfl).trans (congrArg Value.bool (rng_nil hd1 hi1))) ?_
        refine wp_exit ?_
        refine then_x ?_
        refine then_x ?_
        refine x_same ?_
        refine then_n ?_
        exact ⟨h, S.nf [] rfl trivial⟩
      | cons y1 ys1 =>
        rw [tumbref2_ItemsFault_l1.eq_2] at h
        refine f_seq ?_
        refine f_region ?_
        refine lv S (rn_lss (S.tm rfl) (S.tm rfl)) rfl ?_; clear S; intro a S
        refine l_done ?_
        replace S := S.nf (L' := []) (K' := [(0, v_p_l), (8, v_p_l), (9, .int .i64 (p_l.length : Int)), (10, .int .i64 (i1 : Int)), (11, .bool (decide ((i1 : Int) < (p_l.length : Int))))]) [] rfl ⟨rfl, rfl, rfl, rfl, rfl, trivial⟩
        refine then_n ?_
        refine f_seq ?_
        refine wp_cond_true ((S.tm rfl).trans (congrArg Value.bool (rng_cons hd1 hi1))) ?_
        refine wp_skip ?_
        refine then_n ?_
        refine f_seq ?_
        refine wp_block ?_
        refine f_seq ?_
        refine f_region ?_
        refine lv S (rn_move (S.tm rfl)) rfl ?_; clear S; intro a S
        obtain ⟨b1, o1, hm1, hr1⟩ := rn_indexT (a := a) (x := .tmp 8) (y := .tmp 10) (ty := 0) sl_26 hs_p_l (get_mid hd1 hi1) rfl (S.tm rfl) (S.tm rfl)
        refine lv S (hr1 _) rfl ?_; clear S; intro a S
        clear hr1
        refine lv S (rn_ldA Tryd.isAgg58 Tryd.sizeOf58 (off := o1) (o := 0) (part := [.string y1.Key, .int .i64 y1.Heats, .int .i64 y1.Long, .int .i64 y1.Gap, .int .i64 y1.Break]) rfl rfl (S.tm rfl) (hm1.at S.emb0)) rfl ?_; clear S; intro a S
        refine l_alloc S Tryd.zeroValue58 (cs := [.string k_empty, .int .i64 0, .int .i64 0, .int .i64 0, .int .i64 0]) rfl rfl ?_; clear S; intro a w3 b2 hz1 hk1 S
        refine lv S (rn_assign (S.tm rfl)) rfl ?_; clear S; intro a S
        refine l_store S (S.tm rfl) (S.tm rfl) (i := 0) (off := 0) rfl Tryd.sizeOf58 (vs := [.string y1.Key, .int .i64 y1.Heats, .int .i64 y1.Long, .int .i64 y1.Gap, .int .i64 y1.Break]) rfl rfl rfl rfl ?_; clear S; intro w4 hk2 S
        refine l_done ?_
        replace S := S.nf (L' := [.blk b2 [.string y1.Key, .int .i64 y1.Heats, .int .i64 y1.Long, .int .i64 y1.Gap, .int .i64 y1.Break] 58]) (K' := [(0, v_p_l), (3, .int .i64 (i1 : Int)), (4, .pointer (some ⟨b2, 0, none⟩)), (8, v_p_l), (9, .int .i64 (p_l.length : Int)), (10, .int .i64 (i1 : Int))]) [true] rfl ⟨rfl, rfl, rfl, rfl, rfl, rfl, trivial⟩
        refine then_n ?_
        refine wp_block ?_
        refine f_seq ?_
        refine f_region ?_
        refine lv S (rn_fld fa_58_0 (S.tm rfl)) rfl ?_; clear S; intro a S
        refine lv S (rn_load Tryd.isAgg9 (S.tm rfl) (S.cell (i := 0) rfl rfl)) rfl ?_; clear S; intro a S
        obtain ⟨r1, hr2, h⟩ := bindE h
        refine l_enter S (fun _ => run_call (vs := [.string y1.Key]) ⟨(S.tm rfl), trivial⟩ Tryd.call48) (tumbref2_Key_ok _ y1.Key _ hr2) rfl ?_; clear S; intro v1 a w5 hv1 hk3 hn1 S
        subst hv1
        refine lv S (rn_not (S.tm rfl)) rfl ?_; clear S; intro a S
        refine lv S (rn_assign (S.tm rfl)) rfl ?_; clear S; intro a S
        refine l_done ?_
        replace S := S.nf (L' := [.blk b2 [.string y1.Key, .int .i64 y1.Heats, .int .i64 y1.Long, .int .i64 y1.Gap, .int .i64 y1.Break] 58]) (K' := [(0, v_p_l), (3, .int .i64 (i1 : Int)), (4, .pointer (some ⟨b2, 0, none⟩)), (8, v_p_l), (9, .int .i64 (p_l.length : Int)), (10, .int .i64 (i1 : Int)), (15, .bool (!r1))]) [true] rfl ⟨rfl, rfl, rfl, rfl, rfl, rfl, rfl, trivial⟩
        refine then_n ?_
        refine f_cond (S.tm rfl) (fun hb2 => ?_) (fun hb2 => ?_)
        · replace h := iteT h hb2
          refine f_seq ?_
          refine f_region ?_
          refine lv S (rn_assign rfl) rfl ?_; clear S; intro a S
          refine l_done ?_
          replace S := S.nf (L' := []) (K' := [(2, .int .i64 5)]) [false] rfl ⟨rfl, trivial⟩
          refine then_n ?_
          refine wp_ret ?_
          refine blk_r ?_
          refine blk_r ?_
          refine then_r ?_
          refine then_r ?_
          refine blk_r ?_
          refine then_r ?_
          refine then_r ?_
          obtain rfl := Option.some.inj h
          exact f_ret S Tryd.results37 rfl rfl
        · replace h := iteF h hb2
          refine f_seq ?_
          obtain ⟨hc1, h⟩ := chkE h
          refine d_region [] ([]) Tryd.mixed S rfl (by kernel_rfl) ?_; clear S; intro w7 hk5 hsel S
          refine d_quiet 0 S hsel rfl rfl rfl (by kernel_rfl) (by kernel_rfl) rfl (fun _ hw => (rn_move (S.tm rfl))) ?_; clear S; intro a S
          refine d_quiet 1 S hsel rfl rfl rfl (by kernel_rfl) (by kernel_rfl) rfl (fun _ hw => (rn_move (S.tm rfl))) ?_; clear S; intro a S
          obtain ⟨v4, hs2, hr4⟩ := rn_cutTh (a := a) (x := .tmp 21) (y' := .tmp 22) (ty := 26) sl_26 hs_p_l (S.tm rfl) (S.tm rfl) hc1
          refine d_quiet 2 S hsel rfl rfl rfl (by kernel_rfl) (by kernel_rfl) rfl (fun _ hw => (hr4 _)) ?_; clear S; intro a S
          clear hr4
          refine d_quiet 3 S hsel rfl rfl rfl (by kernel_rfl) (by kernel_rfl) rfl (fun _ hw => (rn_fld fa_58_0 (S.tm rfl))) ?_; clear S; intro a S
          refine d_quiet 4 S hsel rfl rfl rfl (by kernel_rfl) (by kernel_rfl) rfl (fun _ hw => (rn_ld Tryd.isAgg9 (off := 0) (o := 0) (S.tm rfl) ((S.blk_mem (i := 0) (cells := [.string y1.Key, .int .i64 y1.Heats, .int .i64 y1.Long, .int .i64 y1.Gap, .int .i64 y1.Break]) (b := b2) (T := 58) rfl (ne_nil (e' := .blk b2 [.string y1.Key, .int .i64 y1.Heats, .int .i64 y1.Long, .int .i64 y1.Gap, .int .i64 y1.Break] 58))).kept hw) rfl)) ?_; clear S; intro a S
          refine d_loud1 5 (by kernel_rfl) rfl ?_
          refine l_enter S (fun _ => run_call (vs := [v4, .string y1.Key]) ⟨(S.tm rfl), (S.tm rfl), trivial⟩ Tryd.call38) (tumbref2_ItemAt_ok _ v4 (cut p_l 0 (i1 : Int)) (hs2.mono (S.le_arg nil_sub)) y1.Key _ rfl) rfl ?_; clear S; intro v5 a w8 hv3 hk6 hn3 S
          subst hv3
          refine l_done ?_
          refine d_next hk6 ?_
          refine d_rest [6, 7] hsel (by kernel_rfl) rfl ?_
          clear hsel
          refine s_lv S rfl (rn_geq (S.tm rfl) rfl) rfl ?_; clear S; intro a S
          refine s_lv S rfl (rn_assign (S.tm rfl)) rfl ?_; clear S; intro a S
          refine s_done ?_
          replace S := S.nf (L' := [.blk b2 [.string y1.Key, .int .i64 y1.Heats, .int .i64 y1.Long, .int .i64 y1.Gap, .int .i64 y1.Break] 58]) (K' := [(0, v_p_l), (4, .pointer (some ⟨b2, 0, none⟩)), (8, v_p_l), (9, .int .i64 (p_l.length : Int)), (10, .int .i64 (i1 : Int)), (20, .bool (decide (0 ≤ (tumbref2_ItemAt (cut p_l 0 (i1 : Int)) y1.Key))))]) [true] rfl ⟨rfl, rfl, rfl, rfl, rfl, rfl, trivial⟩
          refine then_n ?_
          refine f_cond (S.tm rfl) (fun hb3 => ?_) (fun hb3 => ?_)
          · replace h := iteT h hb3
            refine f_seq ?_
            refine f_region ?_
            refine lv S (rn_assign rfl) rfl ?_; clear S; intro a S
            refine l_done ?_
            replace S := S.nf (L' := []) (K' := [(2, .int .i64 6)]) [false] rfl ⟨rfl, trivial⟩
            refine then_n ?_
            refine wp_ret ?_
            refine blk_r ?_
            refine blk_r ?_
            refine then_r ?_
            refine then_r ?_
            refine blk_r ?_
            refine then_r ?_
            refine then_r ?_
            obtain rfl := Option.some.inj h
            exact f_ret S Tryd.results37 rfl rfl
          · replace h := iteF h hb3
            refine f_seq ?_
            refine f_region ?_
            refine lv S (rn_fld fa_58_1 (S.tm rfl)) rfl ?_; clear S; intro a S
            refine lv S (rn_load Tryd.isAgg3 (S.tm rfl) (S.cell (i := 0) rfl rfl)) rfl ?_; clear S; intro a S
            refine l_enter S (fun _ => run_call (vs := [.int .i64 y1.Heats, .int .i64 1, .int .i64 60]) ⟨(S.tm rfl), rfl, rfl, trivial⟩ Tryd.call39) (tumbref2_in_ok _ y1.Heats 1 60 _ rfl) rfl ?_; clear S; intro v6 a w9 hv4 hk7 hn4 S
            subst hv4
            refine lv S (rn_not (S.tm rfl)) rfl ?_; clear S; intro a S
            refine lv S (rn_move (S.tm rfl)) rfl ?_; clear S; intro a S
            refine f_cutm 5 (fun a w' => Keep [] w9 w' ∧ Sx w [] nov [.blk b2 [.string y1.Key, .int .i64 y1.Heats, .int .i64 y1.Long, .int .i64 y1.Gap, .int .i64 y1.Break] 58] [(0, v_p_l), (4, .pointer (some ⟨b2, 0, none⟩)), (8, v_p_l), (9, .int .i64 (p_l.length : Int)), (10, .int .i64 (i1 : Int)), (38, .bool ((!(tumbref2_in y1.Heats 1 60)) || (!(tumbref2_in y1.Long 1 3600000))))] 52 a w') ?_ ?_
            · rcases Bool.eq_false_or_eq_true (!(tumbref2_in y1.Heats 1 60)) with hb4 | hb4
              · refine l_skip S rfl rfl rfl (neq_t hb4) rfl ?_ rfl; clear S; intro a S
                refine l_skip S rfl rfl rfl (neq_t hb4) rfl ?_ rfl; clear S; intro a S
                refine l_skip S rfl rfl rfl (neq_t hb4) rfl ?_ rfl; clear S; intro a S
                refine l_skip S rfl rfl rfl (neq_t hb4) rfl ?_ rfl; clear S; intro a S
                refine lv S (rn_or_t (!(tumbref2_in y1.Long 1 3600000)) hb4 (S.tm rfl) rfl) rfl ?_; clear S; intro a S
                refine l_done ?_
                refine then_n ?_
                exact ⟨Keep.refl _ _, S.nf [true] rfl ⟨rfl, rfl, rfl, rfl, rfl, rfl, trivial⟩⟩
              · refine l_want S rfl rfl rfl hb4 ?_
                refine lv S (rn_fld fa_58_2 (S.tm rfl)) rfl ?_; clear S; intro a S
                refine l_want S rfl rfl rfl hb4 ?_
                refine lv S (rn_load Tryd.isAgg3 (S.tm rfl) (S.cell (i := 0) rfl rfl)) rfl ?_; clear S; intro a S
                refine l_want S rfl rfl rfl hb4 ?_
                refine l_enter S (fun _ => run_call (vs := [.int .i64 y1.Long, .int .i64 1, .int .i64 3600000]) ⟨(S.tm rfl), rfl, rfl, trivial⟩ Tryd.call39) (tumbref2_in_ok _ y1.Long 1 3600000 _ rfl) rfl ?_; clear S; intro v7 a w11 hv5 hk8 hn5 S
                subst hv5
                refine l_want S rfl rfl rfl hb4 ?_
                refine lv S (rn_not (S.tm rfl)) rfl ?_; clear S; intro a S
                refine lv S (rn_or_f hb4 (S.tm rfl) (S.tm rfl)) rfl ?_; clear S; intro a S
                refine l_done ?_
                refine then_n ?_
                exact ⟨hk8, S.nf [true] rfl ⟨rfl, rfl, rfl, rfl, rfl, rfl, trivial⟩⟩
            clear S; rintro a w10 ⟨hk9, S⟩
            refine lv S (rn_move (S.tm rfl)) rfl ?_; clear S; intro a S
            refine f_cutm 5 (fun a w' => Keep [] w10 w' ∧ Sx w [] nov [.blk b2 [.string y1.Key, .int .i64 y1.Heats, .int .i64 y1.Long, .int .i64 y1.Gap, .int .i64 y1.Break] 58] [(0, v_p_l), (4, .pointer (some ⟨b2, 0, none⟩)), (8, v_p_l), (9, .int .i64 (p_l.length : Int)), (10, .int .i64 (i1 : Int)), (44, .bool (((!(tumbref2_in y1.Heats 1 60)) || (!(tumbref2_in y1.Long 1 3600000))) || (!(tumbref2_in y1.Gap 0 3600000))))] 52 a w') ?_ ?_
            · rcases Bool.eq_false_or_eq_true ((!(tumbref2_in y1.Heats 1 60)) || (!(tumbref2_in y1.Long 1 3600000))) with hb5 | hb5
              · refine l_skip S rfl rfl rfl (neq_t hb5) rfl ?_ rfl; clear S; intro a S
                refine l_skip S rfl rfl rfl (neq_t hb5) rfl ?_ rfl; clear S; intro a S
                refine l_skip S rfl rfl rfl (neq_t hb5) rfl ?_ rfl; clear S; intro a S
                refine l_skip S rfl rfl rfl (neq_t hb5) rfl ?_ rfl; clear S; intro a S
                refine lv S (rn_or_t (!(tumbref2_in y1.Gap 0 3600000)) hb5 (S.tm rfl) rfl) rfl ?_; clear S; intro a S
                refine l_done ?_
                refine then_n ?_
                exact ⟨Keep.refl _ _, S.nf [true] rfl ⟨rfl, rfl, rfl, rfl, rfl, rfl, trivial⟩⟩
              · refine l_want S rfl rfl rfl hb5 ?_
                refine lv S (rn_fld fa_58_3 (S.tm rfl)) rfl ?_; clear S; intro a S
                refine l_want S rfl rfl rfl hb5 ?_
                refine lv S (rn_load Tryd.isAgg3 (S.tm rfl) (S.cell (i := 0) rfl rfl)) rfl ?_; clear S; intro a S
                refine l_want S rfl rfl rfl hb5 ?_
                refine l_enter S (fun _ => run_call (vs := [.int .i64 y1.Gap, .int .i64 0, .int .i64 3600000]) ⟨(S.tm rfl), rfl, rfl, trivial⟩ Tryd.call39) (tumbref2_in_ok _ y1.Gap 0 3600000 _ rfl) rfl ?_; clear S; intro v8 a w13 hv6 hk10 hn6 S
                subst hv6
                refine l_want S rfl rfl rfl hb5 ?_
                refine lv S (rn_not (S.tm rfl)) rfl ?_; clear S; intro a S
                refine lv S (rn_or_f hb5 (S.tm rfl) (S.tm rfl)) rfl ?_; clear S; intro a S
                refine l_done ?_
                refine then_n ?_
                exact ⟨hk10, S.nf [true] rfl ⟨rfl, rfl, rfl, rfl, rfl, rfl, trivial⟩⟩
            clear S; rintro a w12 ⟨hk11, S⟩
            refine lv S (rn_move (S.tm rfl)) rfl ?_; clear S; intro a S
            refine f_cutm 5 (fun a w' => Keep [] w12 w' ∧ Sx w [] nov [.blk b2 [.string y1.Key, .int .i64 y1.Heats, .int .i64 y1.Long, .int .i64 y1.Gap, .int .i64 y1.Break] 58] [(0, v_p_l), (8, v_p_l), (9, .int .i64 (p_l.length : Int)), (10, .int .i64 (i1 : Int)), (50, .bool ((((!(tumbref2_in y1.Heats 1 60)) || (!(tumbref2_in y1.Long 1 3600000))) || (!(tumbref2_in y1.Gap 0 3600000))) || (!(tumbref2_in y1.Break 0 3600000))))] 52 a w') ?_ ?_
            · rcases Bool.eq_false_or_eq_true (((!(tumbref2_in y1.Heats 1 60)) || (!(tumbref2_in y1.Long 1 3600000))) || (!(tumbref2_in y1.Gap 0 3600000))) with hb6 | hb6
              · refine l_skip S rfl rfl rfl (neq_t hb6) rfl ?_ rfl; clear S; intro a S
                refine l_skip S rfl rfl rfl (neq_t hb6) rfl ?_ rfl; clear S; intro a S
                refine l_skip S rfl rfl rfl (neq_t hb6) rfl ?_ rfl; clear S; intro a S
                refine l_skip S rfl rfl rfl (neq_t hb6) rfl ?_ rfl; clear S; intro a S
                refine lv S (rn_or_t (!(tumbref2_in y1.Break 0 3600000)) hb6 (S.tm rfl) rfl) rfl ?_; clear S; intro a S
                refine l_done ?_
                refine then_n ?_
                exact ⟨Keep.refl _ _, S.nf [true] rfl ⟨rfl, rfl, rfl, rfl, rfl, trivial⟩⟩
              · refine l_want S rfl rfl rfl hb6 ?_
                refine lv S (rn_fld fa_58_4 (S.tm rfl)) rfl ?_; clear S; intro a S
                refine l_want S rfl rfl rfl hb6 ?_
                refine lv S (rn_load Tryd.isAgg3 (S.tm rfl) (S.cell (i := 0) rfl rfl)) rfl ?_; clear S; intro a S
                refine l_want S rfl rfl rfl hb6 ?_
                refine l_enter S (fun _ => run_call (vs := [.int .i64 y1.Break, .int .i64 0, .int .i64 3600000]) ⟨(S.tm rfl), rfl, rfl, trivial⟩ Tryd.call39) (tumbref2_in_ok _ y1.Break 0 3600000 _ rfl) rfl ?_; clear S; intro v9 a w15 hv7 hk12 hn7 S
                subst hv7
                refine l_want S rfl rfl rfl hb6 ?_
                refine lv S (rn_not (S.tm rfl)) rfl ?_; clear S; intro a S
                refine lv S (rn_or_f hb6 (S.tm rfl) (S.tm rfl)) rfl ?_; clear S; intro a S
                refine l_done ?_
                refine then_n ?_
                exact ⟨hk12, S.nf [true] rfl ⟨rfl, rfl, rfl, rfl, rfl, trivial⟩⟩
            clear S; rintro a w14 ⟨hk13, S⟩
            refine lv S (rn_assign (S.tm rfl)) rfl ?_; clear S; intro a S
            refine l_done ?_
            replace S := S.nf (L' := []) (K' := [(0, v_p_l), (8, v_p_l), (9, .int .i64 (p_l.length : Int)), (10, .int .i64 (i1 : Int)), (28, .bool ((((!(tumbref2_in y1.Heats 1 60)) || (!(tumbref2_in y1.Long 1 3600000))) || (!(tumbref2_in y1.Gap 0 3600000))) || (!(tumbref2_in y1.Break 0 3600000))))]) [false] rfl ⟨rfl, rfl, rfl, rfl, rfl, trivial⟩
            refine then_n ?_
            refine f_cond (S.tm rfl) (fun hb7 => ?_) (fun hb7 => ?_)
            · replace h := iteT h hb7
              refine f_seq ?_
              refine f_region ?_
              refine lv S (rn_assign rfl) rfl ?_; clear S; intro a S
              refine l_done ?_
              replace S := S.nf (L' := []) (K' := [(2, .int .i64 1)]) [] rfl ⟨rfl, trivial⟩
              refine then_n ?_
              refine wp_ret ?_
              refine blk_r ?_
              refine blk_r ?_
              refine then_r ?_
              refine then_r ?_
              refine blk_r ?_
              refine then_r ?_
              refine then_r ?_
              obtain rfl := Option.some.inj h
              exact f_ret S Tryd.results37 rfl rfl
            · replace h := iteF h hb7
              refine wp_skip ?_
              refine blk_n ?_
              refine blk_n ?_
              refine then_n ?_
              refine f_region ?_
              refine lv S (rn_add (S.tm rfl) rfl) rfl ?_; clear S; intro a S
              refine lv S (rn_move (S.tm rfl)) rfl ?_; clear S; intro a S
              refine l_done ?_
              replace S := S.nf (L' := []) (K' := [(0, v_p_l), (8, v_p_l), (9, .int .i64 (p_l.length : Int)), (10, .int .i64 (W ((i1 : Int) + 1)))]) [] rfl ⟨rfl, rfl, rfl, rfl, trivial⟩
              refine then_n ?_
              exact ⟨ys1, ⟨i1 + 1, ⟨_, (hd1).trans (List.append_cons _ _ _), by simp [hi1]⟩, h, S.nf [] rfl ⟨rfl, rfl, rfl, (congrArg (fun z => some (Value.int .i64 z)) (rng_next hd1 hi1 (slc_max hs_p_l))), trivial⟩⟩, Nat.lt_succ_self _⟩
    clear S h; rintro a w2 ⟨h, S⟩; rw [hj1] at h; clear hj1 j1
    refine then_n ?_
    refine f_seq ?_
    refine f_region ?_
    refine lv S (rn_assign rfl) rfl ?_; clear S; intro a S
    refine l_done ?_
    replace S := S.nf (L' := []) (K' := [(2, .int .i64 0)]) [] rfl ⟨rfl, trivial⟩
    refine then_n ?_
    refine wp_ret ?_
    obtain rfl := Option.some.inj h
    exact f_ret S Tryd.results37 rfl rfl
set_option maxRecDepth 20000 in
theorem tumbref2_SlotsOf_ok (w : World) (v_p_l : Value) (p_l : List GItem) (hs_p_l : Slc (view w []) 5 v_p_l (p_l.map GItem.enc)) (p_from : Int) (r : (List GSlot)) (h : tumbref2_SlotsOf p_l p_from = some r) :
    Calls Tryd.prog 31 [v_p_l, .int .i64 p_from].toArray w (Ret w [] fun τ v w' => OwnV τ 41 4 v r.length (r.flatMap GSlot.enc)) := by
  refine f_enter [] [] Tryd.func31 rfl Tryd.ntmps31 rfl (by simp) (by simp [fps]) (by simp [fps]) fun a S => ?_
  unfold tumbref2_SlotsOf at h
  replace S := S.nf (L' := []) (K' := [(0, v_p_l), (1, .int .i64 p_from)]) [] rfl ⟨rfl, rfl, trivial⟩
  refine f_seq ?_
  refine f_region ?_
  refine lv S (rn_assign rfl) rfl ?_; clear S; intro a S
  refine l_done ?_
  replace S := S.nf (L' := []) (K' := [(0, v_p_l), (1, .int .i64 p_from)]) [] rfl ⟨rfl, rfl, trivial⟩
  refine then_n ?_
  refine f_seq ?_
  refine f_region ?_
  refine lv S (rn_assign rfl) rfl ?_; clear S; intro a S
  replace S := S.nil 41 4
  refine l_done ?_
  replace S := S.nf (L' := [.own (.slice none 0 0) 41 4 ([] : List GSlot).length (([] : List GSlot).flatMap GSlot.enc)]) (K' := [(0, v_p_l), (1, .int .i64 p_from), (5, (.slice none 0 0))]) [true] rfl ⟨rfl, rfl, rfl, trivial⟩
  refine then_n ?_
  refine f_seq ?_
  refine f_seq ?_
  refine f_region ?_
  refine lv S (rn_move (S.tm rfl)) rfl ?_; clear S; intro a S
  refine lv S (rn_lenT sl_26 (S.tm rfl) (slc_len hs_p_l)) rfl ?_; clear S; intro a S
  refine lv S (rn_move rfl) rfl ?_; clear S; intro a S
  refine l_done ?_
  replace S := S.nf (L' := [.own (.slice none 0 0) 41 4 ([] : List GSlot).length (([] : List GSlot).flatMap GSlot.enc)]) (K' := [(0, v_p_l), (1, .int .i64 p_from), (5, (.slice none 0 0)), (11, v_p_l), (12, .int .i64 (p_l.length : Int)), (13, .int .i64 0)]) [true] rfl ⟨rfl, rfl, rfl, rfl, rfl, rfl, trivial⟩
  refine then_n ?_
  obtain ⟨j1, hj1, h⟩ := joinE h
  refine f_join (fun a w' => ∃ x1 : List GSlot, ∃ v1 : Value, j1 x1 = some r ∧ Sx w [] nov [.own v1 41 4 x1.length (x1.flatMap GSlot.enc)] [(5, v1)] 70 a w') ?_ ?_
  · refine wp_block ?_
    refine f_loop (fun (ys1 : List GItem) a w' => ∃ i1 : Nat, ∃ x1 : List GSlot, ∃ v1 : Value, (∃ dn, p_l = dn ++ ys1 ∧ dn.length = i1) ∧ tumbref2_SlotsOf_l1 p_l p_from j1 ys1 i1 x1 = some r ∧ Sx w [] nov [.own v1 41 4 x1.length (x1.flatMap GSlot.enc)] [(0, v_p_l), (1, .int .i64 p_from), (5, v1), (11, v_p_l), (12, .int .i64 (p_l.length : Int)), (13, .int .i64 (i1 : Int))] 70 a w') List.length p_l ⟨0, ([] : List GSlot), (.slice none 0 0), ⟨[], rfl, rfl⟩, h, S.nf [true] rfl ⟨rfl, rfl, rfl, rfl, rfl, rfl, trivial⟩⟩ ?_
    clear S h; rintro ys1 a w1 ⟨i1, x1, v1, ⟨dn, hd1, hi1⟩, h, S⟩
    cases ys1 with
    | nil =>
      rw [tumbref2_SlotsOf_l1.eq_1] at h
      refine f_seq ?_
      refine f_region ?_
      refine lv S (rn_lss (S.tm rfl) (S.tm rfl)) rfl ?_; clear S; intro a S
      refine l_done ?_
      replace S := S.nf (L' := [.own v1 41 4 x1.length (x1.flatMap GSlot.enc)]) (K' := [(0, v_p_l), (1, .int .i64 p_from), (5, v1), (11, v_p_l), (12, .int .i64 (p_l.length : Int)), (13, .int .i64 (i1 : Int)), (14, .bool (decide ((i1 : Int) < (p_l.length : Int))))]) [true] rfl ⟨rfl, rfl, rfl, rfl, rfl, rfl, rfl, trivial⟩
      refine then_n ?_
      refine f_seq ?_
      refine wp_cond_false ((S.tm rfl).trans (congrArg Value.bool (rng_nil hd1 hi1))) ?_
      refine wp_exit ?_
      refine then_x ?_
      refine then_x ?_
      refine x_same ?_
      refine then_n ?_
      exact ⟨x1, v1, h, S.nf [true] rfl ⟨rfl, trivial⟩⟩
    | cons y1 ys1 =>
      rw [tumbref2_SlotsOf_l1.eq_2] at h
      refine f_seq ?_
      refine f_region ?_
      refine lv S (rn_lss (S.tm rfl) (S.tm rfl)) rfl ?_; clear S; intro a S
      refine l_done ?_
      replace S := S.nf (L' := [.own v1 41 4 x1.length (x1.flatMap GSlot.enc)]) (K' := [(0, v_p_l), (1, .int .i64 p_from), (5, v1), (11, v_p_l), (12, .int .i64 (p_l.length : Int)), (13, .int .i64 (i1 : Int)), (14, .bool (decide ((i1 : Int) < (p_l.length : Int))))]) [true] rfl ⟨rfl, rfl, rfl, rfl, rfl, rfl, rfl, trivial⟩
      refine then_n ?_
      refine f_seq ?_
      refine wp_cond_true ((S.tm rfl).trans (congrArg Value.bool (rng_cons hd1 hi1))) ?_
      refine wp_skip ?_
      refine then_n ?_
      refine f_seq ?_
      refine wp_block ?_
      refine f_seq ?_
      refine f_region ?_
      refine lv S (rn_move (S.tm rfl)) rfl ?_; clear S; intro a S
      obtain ⟨b1, o1, hm1, hr1⟩ := rn_indexT (a := a) (x := .tmp 11) (y := .tmp 13) (ty := 0) sl_26 hs_p_l (get_mid hd1 hi1) rfl (S.tm rfl) (S.tm rfl)
      refine lv S (hr1 _) rfl ?_; clear S; intro a S
      clear hr1
      refine lv S (rn_ldA Tryd.isAgg58 Tryd.sizeOf58 (off := o1) (o := 0) (part := [.string y1.Key, .int .i64 y1.Heats, .int .i64 y1.Long, .int .i64 y1.Gap, .int .i64 y1.Break]) rfl rfl (S.tm rfl) (hm1.at S.emb0)) rfl ?_; clear S; intro a S
      refine l_alloc S Tryd.zeroValue58 (cs := [.string k_empty, .int .i64 0, .int .i64 0, .int .i64 0, .int .i64 0]) rfl rfl ?_; clear S; intro a w3 b2 hz1 hk1 S
      refine lv S (rn_assign (S.tm rfl)) rfl ?_; clear S; intro a S
      refine l_store S (S.tm rfl) (S.tm rfl) (i := 0) (off := 0) rfl Tryd.sizeOf58 (vs := [.string y1.Key, .int .i64 y1.Heats, .int .i64 y1.Long, .int .i64 y1.Gap, .int .i64 y1.Break]) rfl rfl rfl rfl ?_; clear S; intro w4 hk2 S
      refine l_done ?_
      replace S := S.nf (L' := [.blk b2 [.string y1.Key, .int .i64 y1.Heats, .int .i64 y1.Long, .int .i64 y1.Gap, .int .i64 y1.Break] 58, .own v1 41 4 x1.length (x1.flatMap GSlot.enc)]) (K' := [(0, v_p_l), (1, .int .i64 p_from), (5, v1), (6, .int .i64 (i1 : Int)), (7, .pointer (some ⟨b2, 0, none⟩)), (11, v_p_l), (12, .int .i64 (p_l.length : Int)), (13, .int .i64 (i1 : Int))]) [true, true] rfl ⟨rfl, rfl, rfl, rfl, rfl, rfl, rfl, rfl, trivial⟩
      refine then_n ?_
      refine f_seq ?_
      refine f_region ?_
      refine lv S (rn_assign rfl) rfl ?_; clear S; intro a S
      refine l_done ?_
      replace S := S.nf (L' := [.blk b2 [.string y1.Key, .int .i64 y1.Heats, .int .i64 y1.Long, .int .i64 y1.Gap, .int .i64 y1.Break] 58, .own v1 41 4 x1.length (x1.flatMap GSlot.enc)]) (K' := [(0, v_p_l), (1, .int .i64 p_from), (5, v1), (6, .int .i64 (i1 : Int)), (7, .pointer (some ⟨b2, 0, none⟩)), (8, .int .i64 1), (11, v_p_l), (12, .int .i64 (p_l.length : Int)), (13, .int .i64 (i1 : Int))]) [true, true] rfl ⟨rfl, rfl, rfl, rfl, rfl, rfl, rfl, rfl, rfl, trivial⟩
      refine then_n ?_
      obtain ⟨j2, hj2, h⟩ := joinE h
      refine f_join (fun a w' => ∃ x2 : List GSlot, ∃ v2 : Value, j2 x2 = some r ∧ Sx w [] nov [.blk b2 [.string y1.Key, .int .i64 y1.Heats, .int .i64 y1.Long, .int .i64 y1.Gap, .int .i64 y1.Break] 58, .own v2 41 4 x2.length (x2.flatMap GSlot.enc)] [(0, v_p_l), (1, .int .i64 p_from), (5, v2), (11, v_p_l), (12, .int .i64 (p_l.length : Int)), (13, .int .i64 (i1 : Int))] 70 a w') ?_ ?_
      · refine wp_block ?_
        refine f_loop (fun (m1 : Nat) a w' => ∃ x2 : List GSlot, ∃ x3 : Int, ∃ v2 : Value, tumbref2_SlotsOf_l2 y1 i1 p_l p_from j2 m1 x2 x3 = some r ∧ Sx w [] nov [.blk b2 [.string y1.Key, .int .i64 y1.Heats, .int .i64 y1.Long, .int .i64 y1.Gap, .int .i64 y1.Break] 58, .own v2 41 4 x2.length (x2.flatMap GSlot.enc)] [(0, v_p_l), (1, .int .i64 p_from), (5, v2), (6, .int .i64 (i1 : Int)), (7, .pointer (some ⟨b2, 0, none⟩)), (8, .int .i64 x3), (11, v_p_l), (12, .int .i64 (p_l.length : Int)), (13, .int .i64 (i1 : Int))] 70 a w') id ((y1.Heats - 1).toNat + 2) ⟨x1, 1, v1, h, S.nf [true, true] rfl ⟨rfl, rfl, rfl, rfl, rfl, rfl, rfl, rfl, rfl, trivial⟩⟩ ?_
        clear S h; rintro m1 a w5 ⟨x2, x3, v2, h, S⟩
        cases m1 with
        | zero => rw [tumbref2_SlotsOf_l2.eq_1] at h; cases h
        | succ m1 =>
          rw [tumbref2_SlotsOf_l2.eq_2] at h
          refine f_seq ?_
          refine f_seq ?_
          refine f_region ?_
          refine lv S (rn_move (S.tm rfl)) rfl ?_; clear S; intro a S
          refine lv S (rn_fld fa_58_1 (S.tm rfl)) rfl ?_; clear S; intro a S
          refine lv S (rn_load Tryd.isAgg3 (S.tm rfl) (S.cell (i := 0) rfl rfl)) rfl ?_; clear S; intro a S
          refine lv S (rn_leq (S.tm rfl) (S.tm rfl)) rfl ?_; clear S; intro a S
          refine l_done ?_
          replace S := S.nf (L' := [.blk b2 [.string y1.Key, .int .i64 y1.Heats, .int .i64 y1.Long, .int .i64 y1.Gap, .int .i64 y1.Break] 58, .own v2 41 4 x2.length (x2.flatMap GSlot.enc)]) (K' := [(0, v_p_l), (1, .int .i64 p_from), (5, v2), (6, .int .i64 (i1 : Int)), (7, .pointer (some ⟨b2, 0, none⟩)), (8, .int .i64 x3), (11, v_p_l), (12, .int .i64 (p_l.length : Int)), (13, .int .i64 (i1 : Int)), (21, .bool (decide (x3 ≤ y1.Heats)))]) [true, true] rfl ⟨rfl, rfl, rfl, rfl, rfl, rfl, rfl, rfl, rfl, rfl, trivial⟩
          refine then_n ?_
          refine f_cond (S.tm rfl) (fun hb1 => ?_) (fun hb1 => ?_)
          · replace h := iteT h hb1
            refine wp_skip ?_
            refine then_n ?_
            refine f_seq ?_
            refine wp_block ?_
            refine f_seq ?_
            refine f_region ?_
            refine lv S (rn_move (S.tm rfl)) rfl ?_; clear S; intro a S
            refine lv S (rn_assign (S.tm rfl)) rfl ?_; clear S; intro a S
            refine l_done ?_
            replace S := S.nf (L' := [.blk b2 [.string y1.Key, .int .i64 y1.Heats, .int .i64 y1.Long, .int .i64 y1.Gap, .int .i64 y1.Break] 58, .own v2 41 4 x2.length (x2.flatMap GSlot.enc)]) (K' := [(0, v_p_l), (1, .int .i64 p_from), (5, v2), (6, .int .i64 (i1 : Int)), (7, .pointer (some ⟨b2, 0, none⟩)), (8, .int .i64 x3), (9, .int .i64 p_from), (11, v_p_l), (12, .int .i64 (p_l.length : Int)), (13, .int .i64 (i1 : Int))]) [true, true] rfl ⟨rfl, rfl, rfl, rfl, rfl, rfl, rfl, rfl, rfl, rfl, trivial⟩
            refine then_n ?_
            refine f_seq ?_
            refine f_seq ?_
            refine f_region ?_
            refine lv S (rn_move (S.tm rfl)) rfl ?_; clear S; intro a S
            refine lv S (rn_lenT sl_32 (S.tm rfl) (own_len (S.own_at (i := 1) rfl))) rfl ?_; clear S; intro a S
            refine lv S (rn_assign (S.tm rfl)) rfl ?_; clear S; intro a S
            refine l_done ?_
            replace S := S.nf (L' := [.blk b2 [.string y1.Key, .int .i64 y1.Heats, .int .i64 y1.Long, .int .i64 y1.Gap, .int .i64 y1.Break] 58, .own v2 41 4 x2.length (x2.flatMap GSlot.enc)]) (K' := [(0, v_p_l), (1, .int .i64 p_from), (5, v2), (6, .int .i64 (i1 : Int)), (7, .pointer (some ⟨b2, 0, none⟩)), (8, .int .i64 x3), (9, .int .i64 p_from), (10, .int .i64 (x2.length : Int)), (11, v_p_l), (12, .int .i64 (p_l.length : Int)), (13, .int .i64 (i1 : Int))]) [true, true] rfl ⟨rfl, rfl, rfl, rfl, rfl, rfl, rfl, rfl, rfl, rfl, rfl, trivial⟩
            refine then_n ?_
            refine f_seq ?_
            refine f_region ?_
            refine lv S (rn_move (S.tm rfl)) rfl ?_; clear S; intro a S
            refine lv S (rn_gtr (S.tm rfl) rfl) rfl ?_; clear S; intro a S
            refine l_done ?_
            replace S := S.nf (L' := [.blk b2 [.string y1.Key, .int .i64 y1.Heats, .int .i64 y1.Long, .int .i64 y1.Gap, .int .i64 y1.Break] 58, .own v2 41 4 x2.length (x2.flatMap GSlot.enc)]) (K' := [(0, v_p_l), (1, .int .i64 p_from), (5, v2), (6, .int .i64 (i1 : Int)), (7, .pointer (some ⟨b2, 0, none⟩)), (8, .int .i64 x3), (9, .int .i64 p_from), (10, .int .i64 (x2.length : Int)), (11, v_p_l), (12, .int .i64 (p_l.length : Int)), (13, .int .i64 (i1 : Int)), (28, .bool (decide (0 < (x2.length : Int))))]) [true, true] rfl ⟨rfl, rfl, rfl, rfl, rfl, rfl, rfl, rfl, rfl, rfl, rfl, rfl, trivial⟩
            refine then_n ?_
            obtain ⟨j3, hj3, h⟩ := joinE h
            refine f_join (fun a w' => ∃ x4 : Int, j3 x4 = some r ∧ Sx w [] nov [.blk b2 [.string y1.Key, .int .i64 y1.Heats, .int .i64 y1.Long, .int .i64 y1.Gap, .int .i64 y1.Break] 58, .own v2 41 4 x2.length (x2.flatMap GSlot.enc)] [(0, v_p_l), (1, .int .i64 p_from), (5, v2), (6, .int .i64 (i1 : Int)), (7, .pointer (some ⟨b2, 0, none⟩)), (8, .int .i64 x3), (9, .int .i64 x4), (11, v_p_l), (12, .int .i64 (p_l.length : Int)), (13, .int .i64 (i1 : Int))] 70 a w') ?_ ?_
            · refine f_cond (S.tm rfl) (fun hb2 => ?_) (fun hb2 => ?_)
              · replace h := iteT h hb2
                refine f_seq ?_
                refine d_region [] ([]) Tryd.mixed S rfl (by kernel_rfl) ?_; clear S; intro w8 hk3 hsel S
                refine d_rest [0, 1, 2, 3, 4, 5, 6, 7, 8, 9, 10] hsel (by kernel_rfl) rfl ?_
                clear hsel
                refine s_lv S rfl (rn_move (S.tm rfl)) rfl ?_; clear S; intro a S
                refine s_lv S rfl (rn_move (S.tm rfl)) rfl ?_; clear S; intro a S
                refine s_lv S rfl (rn_sub (S.tm rfl) rfl) rfl ?_; clear S; intro a S
                obtain ⟨hc1, h⟩ := chkE h
                obtain ⟨b3, hg1, hr2⟩ := rn_indexS (a := a) (x := .tmp 29) (y := .tmp 31) (ty := 0) sl_32 GSlot.enc_ok S (i := 1) rfl (inB_get hc1).1 (inB_get hc1).2 (S.tm rfl) (S.tm rfl)
                refine s_lv S rfl (hr2 _) rfl ?_; clear S; intro a S
                clear hr2
                refine s_lv S rfl (rn_fld fa_41_2 (S.tm rfl)) rfl ?_; clear S; intro a S
                refine s_lv S rfl (rn_fld fa_39_1 (S.tm rfl)) rfl ?_; clear S; intro a S
                refine s_lv S rfl (rn_ld Tryd.isAgg3 (off := ((W ((x2.length : Int) - 1)).toNat) * 4) (o := 3) (S.tm rfl) (own_cells GSlot.enc_ok S (i := 1) rfl hg1 (inB_get hc1).1) rfl) rfl ?_; clear S; intro a S
                refine s_lv S rfl (rn_fld fa_58_3 (S.tm rfl)) rfl ?_; clear S; intro a S
                refine s_lv S rfl (rn_load Tryd.isAgg3 (S.tm rfl) (S.cell (i := 0) rfl rfl)) rfl ?_; clear S; intro a S
                refine s_lv S rfl (rn_add (S.tm rfl) (S.tm rfl)) rfl ?_; clear S; intro a S
                refine s_lv S rfl (rn_assign (S.tm rfl)) rfl ?_; clear S; intro a S
                refine s_done ?_
                replace S := S.nf (L' := [.blk b2 [.string y1.Key, .int .i64 y1.Heats, .int .i64 y1.Long, .int .i64 y1.Gap, .int .i64 y1.Break] 58, .own v2 41 4 x2.length (x2.flatMap GSlot.enc)]) (K' := [(0, v_p_l), (1, .int .i64 p_from), (5, v2), (6, .int .i64 (i1 : Int)), (7, .pointer (some ⟨b2, 0, none⟩)), (8, .int .i64 x3), (9, .int .i64 (W ((((nth x2 (W ((x2.length : Int) - 1))).Time).To) + y1.Gap))), (10, .int .i64 (x2.length : Int)), (11, v_p_l), (12, .int .i64 (p_l.length : Int)), (13, .int .i64 (i1 : Int))]) [true, true] rfl ⟨rfl, rfl, rfl, rfl, rfl, rfl, rfl, rfl, rfl, rfl, rfl, trivial⟩
                refine then_n ?_
                refine f_seq ?_
                refine f_region ?_
                refine lv S (rn_move (S.tm rfl)) rfl ?_; clear S; intro a S
                refine lv S (rn_eql (S.tm rfl) rfl) rfl ?_; clear S; intro a S
                refine l_done ?_
                replace S := S.nf (L' := [.blk b2 [.string y1.Key, .int .i64 y1.Heats, .int .i64 y1.Long, .int .i64 y1.Gap, .int .i64 y1.Break] 58, .own v2 41 4 x2.length (x2.flatMap GSlot.enc)]) (K' := [(0, v_p_l), (1, .int .i64 p_from), (5, v2), (6, .int .i64 (i1 : Int)), (7, .pointer (some ⟨b2, 0, none⟩)), (8, .int .i64 x3), (9, .int .i64 (W ((((nth x2 (W ((x2.length : Int) - 1))).Time).To) + y1.Gap))), (10, .int .i64 (x2.length : Int)), (11, v_p_l), (12, .int .i64 (p_l.length : Int)), (13, .int .i64 (i1 : Int)), (40, .bool (decide (x3 = 1)))]) [true, true] rfl ⟨rfl, rfl, rfl, rfl, rfl, rfl, rfl, rfl, rfl, rfl, rfl, rfl, trivial⟩
                refine then_n ?_
                obtain ⟨j4, hj4, h⟩ := joinE h
                refine f_join (fun a w' => ∃ x5 : Int, j4 x5 = some r ∧ Sx w [] nov [.blk b2 [.string y1.Key, .int .i64 y1.Heats, .int .i64 y1.Long, .int .i64 y1.Gap, .int .i64 y1.Break] 58, .own v2 41 4 x2.length (x2.flatMap GSlot.enc)] [(0, v_p_l), (1, .int .i64 p_from), (5, v2), (6, .int .i64 (i1 : Int)), (7, .pointer (some ⟨b2, 0, none⟩)), (8, .int .i64 x3), (9, .int .i64 x5), (11, v_p_l), (12, .int .i64 (p_l.length : Int)), (13, .int .i64 (i1 : Int))] 70 a w') ?_ ?_
                · refine f_cond (S.tm rfl) (fun hb3 => ?_) (fun hb3 => ?_)
                  · replace h := iteT h hb3
                    refine d_region [] ([]) Tryd.mixed S rfl (by kernel_rfl) ?_; clear S; intro w10 hk4 hsel S
                    refine d_rest [0, 1, 2, 3, 4, 5, 6, 7, 8, 9, 10, 11, 12, 13, 14] hsel (by kernel_rfl) rfl ?_
                    clear hsel
                    refine s_lv S rfl (rn_move (S.tm rfl)) rfl ?_; clear S; intro a S
                    refine s_lv S rfl (rn_move (S.tm rfl)) rfl ?_; clear S; intro a S
                    refine s_lv S rfl (rn_sub (S.tm rfl) rfl) rfl ?_; clear S; intro a S
                    obtain ⟨hc2, h⟩ := chkE h
                    obtain ⟨b4, hg2, hr3⟩ := rn_indexS (a := a) (x := .tmp 41) (y := .tmp 43) (ty := 0) sl_32 GSlot.enc_ok S (i := 1) rfl (inB_get hc2).1 (inB_get hc2).2 (S.tm rfl) (S.tm rfl)
                    refine s_lv S rfl (hr3 _) rfl ?_; clear S; intro a S
                    clear hr3
                    refine s_lv S rfl (rn_fld fa_41_2 (S.tm rfl)) rfl ?_; clear S; intro a S
                    refine s_lv S rfl (rn_fld fa_39_1 (S.tm rfl)) rfl ?_; clear S; intro a S
                    refine s_lv S rfl (rn_ld Tryd.isAgg3 (off := ((W ((x2.length : Int) - 1)).toNat) * 4) (o := 3) (S.tm rfl) (own_cells GSlot.enc_ok S (i := 1) rfl hg2 (inB_get hc2).1) rfl) rfl ?_; clear S; intro a S
                    refine s_lv S rfl (rn_move (S.tm rfl)) rfl ?_; clear S; intro a S
                    refine s_lv S rfl (rn_move (S.tm rfl)) rfl ?_; clear S; intro a S
                    refine s_lv S rfl (rn_sub (S.tm rfl) rfl) rfl ?_; clear S; intro a S
                    obtain ⟨hc3, h⟩ := chkE h
                    obtain ⟨b5, o4, hm4, hr4⟩ := rn_indexT (a := a) (x := .tmp 48) (y := .tmp 50) (ty := 0) sl_26 hs_p_l (inB_get hc3).1 (inB_get hc3).2 (S.tm rfl) (S.tm rfl)
                    refine s_lv S rfl (hr4 _) rfl ?_; clear S; intro a S
                    clear hr4
                    refine s_lv S rfl (rn_fld fa_58_4 (S.tm rfl)) rfl ?_; clear S; intro a S
                    refine s_lv S rfl (rn_ld Tryd.isAgg3 (off := o4) (o := 4) (S.tm rfl) (hm4.at S.emb0) rfl) rfl ?_; clear S; intro a S
                    refine s_lv S rfl (rn_add (S.tm rfl) (S.tm rfl)) rfl ?_; clear S; intro a S
                    refine s_lv S rfl (rn_assign (S.tm rfl)) rfl ?_; clear S; intro a S
                    refine s_done ?_
                    replace S := S.nf (L' := [.blk b2 [.string y1.Key, .int .i64 y1.Heats, .int .i64 y1.Long, .int .i64 y1.Gap, .int .i64 y1.Break] 58, .own v2 41 4 x2.length (x2.flatMap GSlot.enc)]) (K' := [(0, v_p_l), (1, .int .i64 p_from), (5, v2), (6, .int .i64 (i1 : Int)), (7, .pointer (some ⟨b2, 0, none⟩)), (8, .int .i64 x3), (9, .int .i64 (W ((((nth x2 (W ((x2.length : Int) - 1))).Time).To) + ((nth p_l (W ((i1 : Int) - 1))).Break)))), (11, v_p_l), (12, .int .i64 (p_l.length : Int)), (13, .int .i64 (i1 : Int))]) [true, true] rfl ⟨rfl, rfl, rfl, rfl, rfl, rfl, rfl, rfl, rfl, rfl, trivial⟩
                    refine then_n ?_
                    exact ⟨W ((((nth x2 (W ((x2.length : Int) - 1))).Time).To) + ((nth p_l (W ((i1 : Int) - 1))).Break)), h, S.nf [true, true] rfl ⟨rfl, rfl, rfl, rfl, rfl, rfl, rfl, rfl, rfl, rfl, trivial⟩⟩
                  · replace h := iteF h hb3
                    refine wp_skip ?_
                    refine then_n ?_
                    exact ⟨W ((((nth x2 (W ((x2.length : Int) - 1))).Time).To) + y1.Gap), h, S.nf [true, true] rfl ⟨rfl, rfl, rfl, rfl, rfl, rfl, rfl, rfl, rfl, rfl, trivial⟩⟩
                clear S h; rintro a w9 ⟨x5, h, S⟩; rw [hj4] at h; clear hj4 j4
                refine then_n ?_
                exact ⟨x5, h, S.nf [true, true] rfl ⟨rfl, rfl, rfl, rfl, rfl, rfl, rfl, rfl, rfl, rfl, trivial⟩⟩
              · replace h := iteF h hb2
                refine wp_skip ?_
                refine then_n ?_
                exact ⟨p_from, h, S.nf [true, true] rfl ⟨rfl, rfl, rfl, rfl, rfl, rfl, rfl, rfl, rfl, rfl, trivial⟩⟩
            clear S h; rintro a w7 ⟨x4, h, S⟩; rw [hj3] at h; clear hj3 j3
            refine then_n ?_
            refine f_region ?_
            refine lv S (rn_move (S.tm rfl)) rfl ?_; clear S; intro a S
            refine lv S (rn_fld fa_58_0 (S.tm rfl)) rfl ?_; clear S; intro a S
            refine lv S (rn_load Tryd.isAgg9 (S.tm rfl) (S.cell (i := 0) rfl rfl)) rfl ?_; clear S; intro a S
            refine lv S (rn_move (S.tm rfl)) rfl ?_; clear S; intro a S
            refine lv S (rn_move (S.tm rfl)) rfl ?_; clear S; intro a S
            refine lv S (rn_move (S.tm rfl)) rfl ?_; clear S; intro a S
            refine lv S (rn_fld fa_58_2 (S.tm rfl)) rfl ?_; clear S; intro a S
            refine lv S (rn_load Tryd.isAgg3 (S.tm rfl) (S.cell (i := 0) rfl rfl)) rfl ?_; clear S; intro a S
            refine lv S (rn_add (S.tm rfl) (S.tm rfl)) rfl ?_; clear S; intro a S
            refine lv S (rn_bld bt_39 (pv := [(0, .int .i64 x4), (1, .int .i64 (W (x4 + y1.Long)))]) ⟨rfl, (S.tm rfl), rfl, (S.tm rfl), trivial⟩ (cs := [.int .i64 x4, .int .i64 (W (x4 + y1.Long))]) (by kernel_rfl)) rfl ?_; clear S; intro a S
            refine lv S (rn_bld bt_41 (pv := [(0, .string y1.Key), (1, .int .i64 x3), (2, .agg #[.int .i64 x4, .int .i64 (W (x4 + y1.Long))])]) ⟨rfl, (S.tm rfl), rfl, (S.tm rfl), rfl, (S.tm rfl), trivial⟩ (cs := [.string y1.Key, .int .i64 x3, .int .i64 x4, .int .i64 (W (x4 + y1.Long))]) (by kernel_rfl)) rfl ?_; clear S; intro a S
            refine l_buildSlice S Tryd.underlying32 Tryd.sizeOf41 Tryd.zeroValue41 rfl rfl (pv := [(0, .agg #[.string y1.Key, .int .i64 x3, .int .i64 x4, .int .i64 (W (x4 + y1.Long))])]) ⟨rfl, (S.tm rfl), trivial⟩ (cs := [.string y1.Key, .int .i64 x3, .int .i64 x4, .int .i64 (W (x4 + y1.Long))]) (by kernel_rfl) rfl ?_; clear S; intro a w11 b6 hz2 hk5 S
            obtain ⟨hc4, h⟩ := chkE h
            refine l_appendT sl_32 GSlot.enc_ok S (S.tm rfl) (i := 2) rfl (S.tm rfl) (j := 0) rfl (ys := [(GSlot.mk y1.Key x3 (GWindow.mk x4 (W (x4 + y1.Long))))]) rfl rfl rfl rfl (by have := room_lt hc4; omega) rfl ?_; clear S; intro v3 a w12 hk6 S
            refine lv S (rn_assign (S.tm rfl)) rfl ?_; clear S; intro a S
            refine l_done ?_
            replace S := S.nf (L' := [.blk b2 [.string y1.Key, .int .i64 y1.Heats, .int .i64 y1.Long, .int .i64 y1.Gap, .int .i64 y1.Break] 58, .own v3 41 4 (x2 ++ [(GSlot.mk y1.Key x3 (GWindow.mk x4 (W (x4 + y1.Long))))]).length ((x2 ++ [(GSlot.mk y1.Key x3 (GWindow.mk x4 (W (x4 + y1.Long))))]).flatMap GSlot.enc)]) (K' := [(0, v_p_l), (1, .int .i64 p_from), (5, v3), (6, .int .i64 (i1 : Int)), (7, .pointer (some ⟨b2, 0, none⟩)), (8, .int .i64 x3), (11, v_p_l), (12, .int .i64 (p_l.length : Int)), (13, .int .i64 (i1 : Int))]) [false, true, true] rfl ⟨rfl, rfl, rfl, rfl, rfl, rfl, rfl, rfl, rfl, trivial⟩
            refine blk_n ?_
            refine then_n ?_
            refine f_region ?_
            refine lv S (rn_move (S.tm rfl)) rfl ?_; clear S; intro a S
            refine lv S (rn_add (S.tm rfl) rfl) rfl ?_; clear S; intro a S
            refine lv S (rn_assign (S.tm rfl)) rfl ?_; clear S; intro a S
            refine l_done ?_
            replace S := S.nf (L' := [.blk b2 [.string y1.Key, .int .i64 y1.Heats, .int .i64 y1.Long, .int .i64 y1.Gap, .int .i64 y1.Break] 58, .own v3 41 4 (x2 ++ [(GSlot.mk y1.Key x3 (GWindow.mk x4 (W (x4 + y1.Long))))]).length ((x2 ++ [(GSlot.mk y1.Key x3 (GWindow.mk x4 (W (x4 + y1.Long))))]).flatMap GSlot.enc)]) (K' := [(0, v_p_l), (1, .int .i64 p_from), (5, v3), (6, .int .i64 (i1 : Int)), (7, .pointer (some ⟨b2, 0, none⟩)), (8, .int .i64 (W (x3 + 1))), (11, v_p_l), (12, .int .i64 (p_l.length : Int)), (13, .int .i64 (i1 : Int))]) [true, true] rfl ⟨rfl, rfl, rfl, rfl, rfl, rfl, rfl, rfl, rfl, trivial⟩
            refine then_n ?_
            exact ⟨m1, ⟨(x2 ++ [(GSlot.mk y1.Key x3 (GWindow.mk x4 (W (x4 + y1.Long))))]), W (x3 + 1), v3, h, S.nf [true, true] rfl ⟨rfl, rfl, rfl, rfl, rfl, rfl, rfl, rfl, rfl, trivial⟩⟩, Nat.lt_succ_self _⟩
          · replace h := iteF h hb1
            refine wp_exit ?_
            refine then_x ?_
            refine then_x ?_
            refine x_same ?_
            refine then_n ?_
            exact ⟨x2, v2, h, S.nf [true, true] rfl ⟨rfl, rfl, rfl, rfl, rfl, rfl, trivial⟩⟩
      clear S h; rintro a w6 ⟨x2, v2, h, S⟩; rw [hj2] at h; clear hj2 j2
      refine blk_n ?_
      refine then_n ?_
      refine f_region ?_
      refine lv S (rn_add (S.tm rfl) rfl) rfl ?_; clear S; intro a S
      refine lv S (rn_move (S.tm rfl)) rfl ?_; clear S; intro a S
      refine l_done ?_
      replace S := S.nf (L' := [.own v2 41 4 x2.length (x2.flatMap GSlot.enc)]) (K' := [(0, v_p_l), (1, .int .i64 p_from), (5, v2), (11, v_p_l), (12, .int .i64 (p_l.length : Int)), (13, .int .i64 (W ((i1 : Int) + 1)))]) [false, true] rfl ⟨rfl, rfl, rfl, rfl, rfl, rfl, trivial⟩
      refine then_n ?_
      exact ⟨ys1, ⟨i1 + 1, x2, v2, ⟨_, (hd1).trans (List.append_cons _ _ _), by simp [hi1]⟩, h, S.nf [true] rfl ⟨rfl, rfl, rfl, rfl, rfl, (congrArg (fun z => some (Value.int .i64 z)) (rng_next hd1 hi1 (slc_max hs_p_l))), trivial⟩⟩, Nat.lt_succ_self _⟩
  clear S h; rintro a w2 ⟨x1, v1, h, S⟩; rw [hj1] at h; clear hj1 j1
  refine then_n ?_
  refine f_seq ?_
  refine f_region ?_
  refine lv S (rn_move (S.tm rfl)) rfl ?_; clear S; intro a S
  refine lv S (rn_assign (S.tm rfl)) rfl ?_; clear S; intro a S
  refine l_done ?_
  replace S := S.nf (L' := [.own v1 41 4 x1.length (x1.flatMap GSlot.enc)]) (K' := [(4, v1)]) [true] rfl ⟨rfl, trivial⟩
  refine then_n ?_
  refine wp_ret ?_
  obtain rfl := Option.some.inj h
  exact f_ret S Tryd.results31 rfl (own_retT S (i := 0) rfl rfl)
theorem tumbref2_Moment_ok (w : World) (p_at : Int) (r : Bool) (h : tumbref2_Moment p_at = r) :
    Calls Tryd.prog 29 [.int .i64 p_at].toArray w (Ret w [] fun τ v w' => v = .bool r) := by
  refine f_enter [] [] Tryd.func29 rfl Tryd.ntmps29 rfl (by simp) (by simp [fps]) (by simp [fps]) fun a S => ?_
  unfold tumbref2_Moment at h
  replace S := S.nf (L' := []) (K' := [(0, .int .i64 p_at)]) [] rfl ⟨rfl, trivial⟩
  refine f_seq ?_
  refine f_region ?_
  refine lv S (rn_assign rfl) rfl ?_; clear S; intro a S
  refine l_done ?_
  replace S := S.nf (L' := []) (K' := [(0, .int .i64 p_at)]) [] rfl ⟨rfl, trivial⟩
  refine then_n ?_
  refine f_seq ?_
  refine f_region ?_
  refine lv S (rn_move (S.tm rfl)) rfl ?_; clear S; intro a S
  refine l_enter S (fun _ => run_call (vs := [.int .i64 p_at, .int .i64 0, .int .i64 345686399999]) ⟨(S.tm rfl), rfl, rfl, trivial⟩ Tryd.call39) (tumbref2_in_ok _ p_at 0 345686399999 _ rfl) rfl ?_; clear S; intro v1 a w1 hv1 hk1 hn1 S
  subst hv1
  refine lv S (rn_assign (S.tm rfl)) rfl ?_; clear S; intro a S
  refine l_done ?_
  replace S := S.nf (L' := []) (K' := [(2, .bool (tumbref2_in p_at 0 345686399999))]) [] rfl ⟨rfl, trivial⟩
  refine then_n ?_
  refine wp_ret ?_
  subst h
  exact f_ret S Tryd.results29 rfl rfl
theorem tumbref2_heatAt_c1_ok (w : World) (p_s : GSlot) (b_p_a1 : Nat) (p_a1 : ByteArray) (hb_b_p_a1 : view w [] b_p_a1 = some (.cells [.string p_a1].toArray 9 (0, 0))) (b_p_a2 : Nat) (p_a2 : Int) (hb_b_p_a2 : view w [] b_p_a2 = some (.cells [.int .i64 p_a2].toArray 3 (0, 0))) (r : Bool) (h : tumbref2_heatAt_c1 p_s p_a1 p_a2 = r) :
    Calls Tryd.prog 51 [.agg (GSlot.enc p_s).toArray, .pointer (some ⟨b_p_a1, 0, none⟩), .pointer (some ⟨b_p_a2, 0, none⟩)].toArray w (Ret w [] fun τ v w' => v = .bool r) := by
  refine f_enter [] [] Tryd.func51 rfl Tryd.ntmps51 rfl (by simp) (by simp [fps]) (by simp [fps]) fun a S => ?_
  unfold tumbref2_heatAt_c1 at h
  replace S := S.nf (L' := []) (K' := [(0, .agg (GSlot.enc p_s).toArray), (1, .pointer (some ⟨b_p_a1, 0, none⟩)), (2, .pointer (some ⟨b_p_a2, 0, none⟩))]) [] rfl ⟨rfl, rfl, rfl, trivial⟩
  refine f_seq ?_
  refine f_region ?_
  refine l_box S (S.tm rfl) (cs := [.string p_s.Item, .int .i64 p_s.Heat, .int .i64 p_s.Time.From, .int .i64 p_s.Time.To]) rfl rfl ?_; clear S; intro a w1 b1 hz1 hk1 S
  refine lv S (rn_assign rfl) rfl ?_; clear S; intro a S
  refine l_done ?_
  replace S := S.nf (L' := [.blk b1 [.string p_s.Item, .int .i64 p_s.Heat, .int .i64 p_s.Time.From, .int .i64 p_s.Time.To] 41]) (K' := [(1, .pointer (some ⟨b_p_a1, 0, none⟩)), (2, .pointer (some ⟨b_p_a2, 0, none⟩)), (3, .pointer (some ⟨b1, 0, none⟩))]) [true] rfl ⟨rfl, rfl, rfl, trivial⟩
  refine then_n ?_
  refine f_seq ?_
  refine f_region ?_
  refine lv S (rn_fld fa_41_0 (S.tm rfl)) rfl ?_; clear S; intro a S
  refine lv S (rn_load Tryd.isAgg9 (S.tm rfl) (S.cell (i := 0) rfl rfl)) rfl ?_; clear S; intro a S
  refine lv S (rn_ld Tryd.isAgg9 (off := 0) (o := 0) (S.tm rfl) ((mem_blk hb_b_p_a1).at S.emb0) rfl) rfl ?_; clear S; intro a S
  refine lv S (rn_seql (S.tm rfl) (S.tm rfl)) rfl ?_; clear S; intro a S
  refine lv S (rn_move (S.tm rfl)) rfl ?_; clear S; intro a S
  refine f_cutm 5 (fun a w' => Keep [] w1 w' ∧ Sx w [] nov [.blk b1 [.string p_s.Item, .int .i64 p_s.Heat, .int .i64 p_s.Time.From, .int .i64 p_s.Time.To] 41] [(14, .bool ((decide (p_s.Item = p_a1)) && (decide (p_s.Heat = p_a2))))] 15 a w') ?_ ?_
  · rcases Bool.eq_false_or_eq_true (decide (p_s.Item = p_a1)) with hb1 | hb1
    · refine l_want S rfl rfl rfl hb1 ?_
      refine lv S (rn_fld fa_41_1 (S.tm rfl)) rfl ?_; clear S; intro a S
      refine l_want S rfl rfl rfl hb1 ?_
      refine lv S (rn_load Tryd.isAgg3 (S.tm rfl) (S.cell (i := 0) rfl rfl)) rfl ?_; clear S; intro a S
      refine l_want S rfl rfl rfl hb1 ?_
      refine lv S (rn_ld Tryd.isAgg3 (off := 0) (o := 0) (S.tm rfl) ((mem_blk hb_b_p_a2).at S.emb0) rfl) rfl ?_; clear S; intro a S
      refine l_want S rfl rfl rfl hb1 ?_
      refine lv S (rn_eql (S.tm rfl) (S.tm rfl)) rfl ?_; clear S; intro a S
      refine lv S (rn_and_t hb1 (S.tm rfl) (S.tm rfl)) rfl ?_; clear S; intro a S
      refine l_done ?_
      refine then_n ?_
      exact ⟨Keep.refl _ _, S.nf [true] rfl ⟨rfl, trivial⟩⟩
    · refine l_skip S rfl rfl rfl (neq_f hb1) rfl ?_ rfl; clear S; intro a S
      refine l_skip S rfl rfl rfl (neq_f hb1) rfl ?_ rfl; clear S; intro a S
      refine l_skip S rfl rfl rfl (neq_f hb1) rfl ?_ rfl; clear S; intro a S
      refine l_skip S rfl rfl rfl (neq_f hb1) rfl ?_ rfl; clear S; intro a S
      refine lv S (rn_and_f (decide (p_s.Heat = p_a2)) hb1 (S.tm rfl) rfl) rfl ?_; clear S; intro a S
      refine l_done ?_
      refine then_n ?_
      exact ⟨Keep.refl _ _, S.nf [true] rfl ⟨rfl, trivial⟩⟩
  clear S; rintro a w2 ⟨hk2, S⟩
  refine lv S (rn_assign (S.tm rfl)) rfl ?_; clear S; intro a S
  refine l_done ?_
  replace S := S.nf (L' := []) (K' := [(4, .bool ((decide (p_s.Item = p_a1)) && (decide (p_s.Heat = p_a2))))]) [false] rfl ⟨rfl, trivial⟩
  refine then_n ?_
  refine wp_ret ?_
  subst h
  exact f_ret S Tryd.results51 rfl rfl
theorem slices_IndexFunc_Slot_tumbref2_heatAt_c1_ok (w : World) (v_p_s : Value) (p_s : List GSlot) (hs_p_s : Slc (view w []) 4 v_p_s (p_s.map GSlot.enc)) (b_p_f_0 : Nat) (p_f_0 : ByteArray) (hb_b_p_f_0 : view w [] b_p_f_0 = some (.cells [.string p_f_0].toArray 9 (0, 0))) (b_p_f_1 : Nat) (p_f_1 : Int) (hb_b_p_f_1 : view w [] b_p_f_1 = some (.cells [.int .i64 p_f_1].toArray 3 (0, 0))) (r : Int) (h : slices_IndexFunc_Slot_tumbref2_heatAt_c1 p_s p_f_0 p_f_1 = r) :
    Calls Tryd.prog 50 [v_p_s, .func (.func 51) #[] #[.pointer (some ⟨b_p_f_0, 0, none⟩), .pointer (some ⟨b_p_f_1, 0, none⟩)]].toArray w (Ret w [] fun τ v w' => v = .int .i64 r) := by
  refine f_enter [] [] Tryd.func50 rfl Tryd.ntmps50 rfl (by simp) (by simp [fps]) (by simp [fps]) fun a S => ?_
  unfold slices_IndexFunc_Slot_tumbref2_heatAt_c1 at h
  replace S := S.nf (L' := []) (K' := [(0, v_p_s), (1, .func (.func 51) #[] #[.pointer (some ⟨b_p_f_0, 0, none⟩), .pointer (some ⟨b_p_f_1, 0, none⟩)])]) [] rfl ⟨rfl, rfl, trivial⟩
  refine f_seq ?_
  refine f_region ?_
  refine lv S (rn_assign rfl) rfl ?_; clear S; intro a S
  refine l_done ?_
  replace S := S.nf (L' := []) (K' := [(0, v_p_s), (1, .func (.func 51) #[] #[.pointer (some ⟨b_p_f_0, 0, none⟩), .pointer (some ⟨b_p_f_1, 0, none⟩)])]) [] rfl ⟨rfl, rfl, trivial⟩
  refine then_n ?_
  refine f_seq ?_
  refine f_seq ?_
  refine f_region ?_
  refine lv S (rn_move (S.tm rfl)) rfl ?_; clear S; intro a S
  refine lv S (rn_lenT sl_32 (S.tm rfl) (slc_len hs_p_s)) rfl ?_; clear S; intro a S
  refine lv S (rn_move rfl) rfl ?_; clear S; intro a S
  refine l_done ?_
  replace S := S.nf (L' := []) (K' := [(0, v_p_s), (1, .func (.func 51) #[] #[.pointer (some ⟨b_p_f_0, 0, none⟩), .pointer (some ⟨b_p_f_1, 0, none⟩)]), (7, .int .i64 (p_s.length : Int)), (8, .int .i64 0)]) [] rfl ⟨rfl, rfl, rfl, rfl, trivial⟩
  refine then_n ?_
  obtain ⟨j1, hj1, h⟩ := joinE h
  refine f_join (fun a w' => j1 = r ∧ Sx w [] nov [] [] 19 a w') ?_ ?_
  · refine wp_block ?_
    refine f_loop (fun (ys1 : List GSlot) a w' => ∃ i1 : Nat, (∃ dn, p_s = dn ++ ys1 ∧ dn.length = i1) ∧ slices_IndexFunc_Slot_tumbref2_heatAt_c1_l1 p_f_0 p_f_1 j1 ys1 i1 = r ∧ Sx w [] nov [] [(0, v_p_s), (1, .func (.func 51) #[] #[.pointer (some ⟨b_p_f_0, 0, none⟩), .pointer (some ⟨b_p_f_1, 0, none⟩)]), (7, .int .i64 (p_s.length : Int)), (8, .int .i64 (i1 : Int))] 19 a w') List.length p_s ⟨0, ⟨[], rfl, rfl⟩, h, S.nf [] rfl ⟨rfl, rfl, rfl, rfl, trivial⟩⟩ ?_
    clear S h; rintro ys1 a w1 ⟨i1, ⟨dn, hd1, hi1⟩, h, S⟩
    cases ys1 with
    | nil =>
      rw [slices_IndexFunc_Slot_tumbref2_heatAt_c1_l1.eq_1] at h
      refine f_seq ?_
      refine f_region ?_
      refine lv S (rn_lss (S.tm rfl) (S.tm rfl)) rfl ?_; clear S; intro a S
      refine l_done ?_
      replace S := S.nf (L' := []) (K' := [(0, v_p_s), (1, .func (.func 51) #[] #[.pointer (some ⟨b_p_f_0, 0, none⟩), .pointer (some ⟨b_p_f_1, 0, none⟩)]), (7, .int .i64 (p_s.length : Int)), (8, .int .i64 (i1 : Int)), (9, .bool (decide ((i1 : Int) < (p_s.length : Int))))]) [] rfl ⟨rfl, rfl, rfl, rfl, rfl, trivial⟩
      refine then_n ?_
      refine f_seq ?_
      refine wp_cond_false ((S.tm rfl).trans (congrArg Value.bool (rng_nil hd1 hi1))) ?_
      refine wp_exit ?_
      refine then_x ?_
      refine then_x ?_
      refine x_same ?_
      refine then_n ?_
      exact ⟨h, S.nf [] rfl trivial⟩
    | cons y1 ys1 =>
      rw [slices_IndexFunc_Slot_tumbref2_heatAt_c1_l1.eq_2] at h
      refine f_seq ?_
      refine f_region ?_
      refine lv S (rn_lss (S.tm rfl) (S.tm rfl)) rfl ?_; clear S; intro a S
      refine l_done ?_
      replace S := S.nf (L' := []) (K' := [(0, v_p_s), (1, .func (.func 51) #[] #[.pointer (some ⟨b_p_f_0, 0, none⟩), .pointer (some ⟨b_p_f_1, 0, none⟩)]), (7, .int .i64 (p_s.length : Int)), (8, .int .i64 (i1 : Int)), (9, .bool (decide ((i1 : Int) < (p_s.length : Int))))]) [] rfl ⟨rfl, rfl, rfl, rfl, rfl, trivial⟩
      refine then_n ?_
      refine f_seq ?_
      refine wp_cond_true ((S.tm rfl).trans (congrArg Value.bool (rng_cons hd1 hi1))) ?_
      refine wp_skip ?_
      refine then_n ?_
      refine f_seq ?_
      refine wp_block ?_
      refine f_seq ?_
      refine f_region ?_
      refine lv S (rn_move (S.tm rfl)) rfl ?_; clear S; intro a S
      refine lv S (rn_assign (S.tm rfl)) rfl ?_; clear S; intro a S
      refine l_done ?_
      replace S := S.nf (L' := []) (K' := [(0, v_p_s), (1, .func (.func 51) #[] #[.pointer (some ⟨b_p_f_0, 0, none⟩), .pointer (some ⟨b_p_f_1, 0, none⟩)]), (5, .int .i64 (i1 : Int)), (7, .int .i64 (p_s.length : Int)), (8, .int .i64 (i1 : Int))]) [] rfl ⟨rfl, rfl, rfl, rfl, rfl, trivial⟩
      refine then_n ?_
      refine f_seq ?_
      refine f_region ?_
      refine lv S (rn_move (S.tm rfl)) rfl ?_; clear S; intro a S
      refine lv S (rn_move (S.tm rfl)) rfl ?_; clear S; intro a S
      refine lv S (rn_move (S.tm rfl)) rfl ?_; clear S; intro a S
      obtain ⟨b1, o1, hm1, hr1⟩ := rn_indexT (a := a) (x := .tmp 12) (y := .tmp 13) (ty := 0) sl_32 hs_p_s (get_mid hd1 hi1) rfl (S.tm rfl) (S.tm rfl)
      refine lv S (hr1 _) rfl ?_; clear S; intro a S
      clear hr1
      refine lv S (rn_ldA Tryd.isAgg41 Tryd.sizeOf41 (off := o1) (o := 0) (part := [.string y1.Item, .int .i64 y1.Heat, .int .i64 y1.Time.From, .int .i64 y1.Time.To]) rfl rfl (S.tm rfl) (hm1.at S.emb0)) rfl ?_; clear S; intro a S
      refine l_enter S (fun _ => run_callV (cap := [.pointer (some ⟨b_p_f_0, 0, none⟩), .pointer (some ⟨b_p_f_1, 0, none⟩)]) (S.tm rfl) (vs := [.agg (GSlot.enc y1).toArray]) ⟨(S.tm rfl), trivial⟩ Tryd.call51) (tumbref2_heatAt_c1_ok _ y1 b_p_f_0 p_f_0 (S.le_arg nil_sub _ _ hb_b_p_f_0) b_p_f_1 p_f_1 (S.le_arg nil_sub _ _ hb_b_p_f_1) _ rfl) rfl ?_; clear S; intro v1 a w3 hv1 hk1 hn1 S
      subst hv1
      refine l_done ?_
      replace S := S.nf (L' := []) (K' := [(0, v_p_s), (1, .func (.func 51) #[] #[.pointer (some ⟨b_p_f_0, 0, none⟩), .pointer (some ⟨b_p_f_1, 0, none⟩)]), (5, .int .i64 (i1 : Int)), (7, .int .i64 (p_s.length : Int)), (8, .int .i64 (i1 : Int)), (16, .bool (tumbref2_heatAt_c1 y1 p_f_0 p_f_1))]) [] rfl ⟨rfl, rfl, rfl, rfl, rfl, rfl, trivial⟩
      refine then_n ?_
      refine f_cond (S.tm rfl) (fun hb1 => ?_) (fun hb1 => ?_)
      · replace h := iteT h hb1
        refine f_seq ?_
        refine f_region ?_
        refine lv S (rn_move (S.tm rfl)) rfl ?_; clear S; intro a S
        refine lv S (rn_assign (S.tm rfl)) rfl ?_; clear S; intro a S
        refine l_done ?_
        replace S := S.nf (L' := []) (K' := [(4, .int .i64 (i1 : Int))]) [] rfl ⟨rfl, trivial⟩
        refine then_n ?_
        refine wp_ret ?_
        refine blk_r ?_
        refine then_r ?_
        refine then_r ?_
        refine blk_r ?_
        refine then_r ?_
        refine then_r ?_
        subst h
        exact f_ret S Tryd.results50 rfl rfl
      · replace h := iteF h hb1
        refine wp_skip ?_
        refine blk_n ?_
        refine then_n ?_
        refine f_region ?_
        refine lv S (rn_add (S.tm rfl) rfl) rfl ?_; clear S; intro a S
        refine lv S (rn_move (S.tm rfl)) rfl ?_; clear S; intro a S
        refine l_done ?_
        replace S := S.nf (L' := []) (K' := [(0, v_p_s), (1, .func (.func 51) #[] #[.pointer (some ⟨b_p_f_0, 0, none⟩), .pointer (some ⟨b_p_f_1, 0, none⟩)]), (7, .int .i64 (p_s.length : Int)), (8, .int .i64 (W ((i1 : Int) + 1)))]) [] rfl ⟨rfl, rfl, rfl, rfl, trivial⟩
        refine then_n ?_
        exact ⟨ys1, ⟨i1 + 1, ⟨_, (hd1).trans (List.append_cons _ _ _), by simp [hi1]⟩, h, S.nf [] rfl ⟨rfl, rfl, rfl, (congrArg (fun z => some (Value.int .i64 z)) (rng_next hd1 hi1 (slc_max hs_p_s))), trivial⟩⟩, Nat.lt_succ_self _⟩
  clear S h; rintro a w2 ⟨h, S⟩; rw [hj1] at h; clear hj1 j1
  refine then_n ?_
  refine f_seq ?_
  refine f_region ?_
  refine lv S (rn_assign rfl) rfl ?_; clear S; intro a S
  refine l_done ?_
  replace S := S.nf (L' := []) (K' := [(4, .int .i64 (-1))]) [] rfl ⟨rfl, trivial⟩
  refine then_n ?_
  refine wp_ret ?_
  subst h
  exact f_ret S Tryd.results50 rfl rfl
theorem tumbref2_heatAt_ok (w : World) (v_p_l : Value) (p_l : List GSlot) (hs_p_l : Slc (view w []) 4 v_p_l (p_l.map GSlot.enc)) (p_item : ByteArray) (p_heat : Int) (r : Int) (h : tumbref2_heatAt p_l p_item p_heat = r) :
    Calls Tryd.prog 40 [v_p_l, .string p_item, .int .i64 p_heat].toArray w (Ret w [] fun τ v w' => v = .int .i64 r) := by
  refine f_enter [] [] Tryd.func40 rfl Tryd.ntmps40 rfl (by simp) (by simp [fps]) (by simp [fps]) fun a S => ?_
  unfold tumbref2_heatAt at h
  replace S := S.nf (L' := []) (K' := [(0, v_p_l), (1, .string p_item), (2, .int .i64 p_heat)]) [] rfl ⟨rfl, rfl, rfl, trivial⟩
  refine f_seq ?_
  refine f_region ?_
  refine l_box S (S.tm rfl) (cs := [.string p_item]) rfl rfl ?_; clear S; intro a w1 b1 hz1 hk1 S
  refine l_box S (S.tm rfl) (cs := [.int .i64 p_heat]) rfl rfl ?_; clear S; intro a w2 b2 hz2 hk2 S
  refine lv S (rn_assign rfl) rfl ?_; clear S; intro a S
  refine l_done ?_
  replace S := S.nf (L' := [.blk b2 [.int .i64 p_heat] 3, .blk b1 [.string p_item] 9]) (K' := [(0, v_p_l), (4, .pointer (some ⟨b1, 0, none⟩)), (5, .pointer (some ⟨b2, 0, none⟩))]) [true, true] rfl ⟨rfl, rfl, rfl, trivial⟩
  refine then_n ?_
  refine f_seq ?_
  refine f_region ?_
  refine lv S (rn_move (S.tm rfl)) rfl ?_; clear S; intro a S
  refine lv S (rn_makeFunc (us := #[]) (xs := [].toArray) (ys := [.tmp 4, .tmp 5].toArray) (by simp) (evA ⟨(S.tm rfl), (S.tm rfl), trivial⟩ (vs := [.pointer (some ⟨b1, 0, none⟩), .pointer (some ⟨b2, 0, none⟩)]))) rfl ?_; clear S; intro a S
  refine l_enter S (fun _ => run_call (vs := [v_p_l, .func (.func 51) #[] #[.pointer (some ⟨b1, 0, none⟩), .pointer (some ⟨b2, 0, none⟩)]]) ⟨(S.tm rfl), (S.tm rfl), trivial⟩ Tryd.call50) (slices_IndexFunc_Slot_tumbref2_heatAt_c1_ok _ v_p_l p_l (hs_p_l.mono (S.le_arg nil_sub)) b1 p_item (S.blk_view (i := 1) rfl ((ne_nil (e' := .blk b1 [.string p_item] 9)) _ rfl)) b2 p_heat (S.blk_view (i := 0) rfl ((ne_nil (e' := .blk b2 [.int .i64 p_heat] 3)) _ rfl)) _ rfl) rfl ?_; clear S; intro v1 a w3 hv1 hk3 hn1 S
  subst hv1
  refine lv S (rn_assign (S.tm rfl)) rfl ?_; clear S; intro a S
  refine l_done ?_
  replace S := S.nf (L' := []) (K' := [(6, .int .i64 (slices_IndexFunc_Slot_tumbref2_heatAt_c1 p_l p_item p_heat))]) [false, false] rfl ⟨rfl, trivial⟩
  refine then_n ?_
  refine wp_ret ?_
  subst h
  exact f_ret S Tryd.results40 rfl rfl
set_option maxRecDepth 20000 in
theorem tumbref2_HeldFault_ok (w : World) (v_p_items : Value) (p_items : List GItem) (hs_p_items : Slc (view w []) 5 v_p_items (p_items.map GItem.enc)) (v_p_l : Value) (p_l : List GHeld) (hs_p_l : Slc (view w []) 3 v_p_l (p_l.map GHeld.enc)) (r : Int) (h : tumbref2_HeldFault p_items p_l = some r) :
    Calls Tryd.prog 18 [v_p_items, v_p_l].toArray w (Ret w [] fun τ v w' => v = .int .i64 r) := by
  refine f_enter [] [] Tryd.func18 rfl Tryd.ntmps18 rfl (by simp) (by simp [fps]) (by simp [fps]) fun a S => ?_
  unfold tumbref2_HeldFault at h
  replace S := S.nf (L' := []) (K' := [(0, v_p_items), (1, v_p_l)]) [] rfl ⟨rfl, rfl, trivial⟩
  refine f_seq ?_
  refine f_region ?_
  refine lv S (rn_assign rfl) rfl ?_; clear S; intro a S
  refine l_done ?_
  replace S := S.nf (L' := []) (K' := [(0, v_p_items), (1, v_p_l)]) [] rfl ⟨rfl, rfl, trivial⟩
  refine then_n ?_
  refine f_seq ?_
  refine f_seq ?_
  refine f_region ?_
  refine lv S (rn_move (S.tm rfl)) rfl ?_; clear S; intro a S
  obtain ⟨r1, hr1, h⟩ := bindE h
  refine l_enter S (fun _ => run_call (vs := [v_p_items]) ⟨(S.tm rfl), trivial⟩ Tryd.call37) (tumbref2_ItemsFault_ok _ v_p_items p_items (hs_p_items.mono (S.le_arg nil_sub)) _ hr1) rfl ?_; clear S; intro v1 a w1 hv1 hk1 hn1 S
  subst hv1
  refine lv S (rn_assign (S.tm rfl)) rfl ?_; clear S; intro a S
  refine l_done ?_
  replace S := S.nf (L' := []) (K' := [(0, v_p_items), (1, v_p_l), (5, .int .i64 r1)]) [] rfl ⟨rfl, rfl, rfl, trivial⟩
  refine then_n ?_
  refine f_seq ?_
  refine f_region ?_
  refine lv S (rn_move (S.tm rfl)) rfl ?_; clear S; intro a S
  refine lv S (rn_neq (S.tm rfl) rfl) rfl ?_; clear S; intro a S
  refine l_done ?_
  replace S := S.nf (L' := []) (K' := [(0, v_p_items), (1, v_p_l), (5, .int .i64 r1), (13, .bool (!decide (r1 = 0)))]) [] rfl ⟨rfl, rfl, rfl, rfl, trivial⟩
  refine then_n ?_
  refine f_cond (S.tm rfl) (fun hb1 => ?_) (fun hb1 => ?_)
  · replace h := iteT h hb1
    refine f_seq ?_
    refine f_region ?_
    refine lv S (rn_move (S.tm rfl)) rfl ?_; clear S; intro a S
    refine lv S (rn_assign (S.tm rfl)) rfl ?_; clear S; intro a S
    refine l_done ?_
    replace S := S.nf (L' := []) (K' := [(4, .int .i64 r1)]) [] rfl ⟨rfl, trivial⟩
    refine then_n ?_
    refine wp_ret ?_
    refine then_r ?_
    obtain rfl := Option.some.inj h
    exact f_ret S Tryd.results18 rfl rfl
  · replace h := iteF h hb1
    refine wp_skip ?_
    refine then_n ?_
    refine f_seq ?_
    refine f_seq ?_
    refine f_region ?_
    refine lv S (rn_move (S.tm rfl)) rfl ?_; clear S; intro a S
    refine lv S (rn_lenT sl_30 (S.tm rfl) (slc_len hs_p_l)) rfl ?_; clear S; intro a S
    refine lv S (rn_gtr (S.tm rfl) rfl) rfl ?_; clear S; intro a S
    refine l_done ?_
    replace S := S.nf (L' := []) (K' := [(0, v_p_items), (1, v_p_l), (17, .bool (decide (100 < (p_l.length : Int))))]) [] rfl ⟨rfl, rfl, rfl, trivial⟩
    refine then_n ?_
    refine f_cond (S.tm rfl) (fun hb2 => ?_) (fun hb2 => ?_)
    · replace h := iteT h hb2
      refine f_seq ?_
      refine f_region ?_
      refine lv S (rn_assign rfl) rfl ?_; clear S; intro a S
      refine l_done ?_
      replace S := S.nf (L' := []) (K' := [(4, .int .i64 2)]) [] rfl ⟨rfl, trivial⟩
      refine then_n ?_
      refine wp_ret ?_
      refine then_r ?_
      obtain rfl := Option.some.inj h
      exact f_ret S Tryd.results18 rfl rfl
    · replace h := iteF h hb2
      refine wp_skip ?_
      refine then_n ?_
      refine f_seq ?_
      refine f_region ?_
      refine lv S (rn_move (S.tm rfl)) rfl ?_; clear S; intro a S
      obtain ⟨r2, hr2, h⟩ := bindE h
      have hz1 := S.keep.size
      refine l_enter S (fun _ => run_call (vs := [v_p_items, .int .i64 0]) ⟨(S.tm rfl), rfl, trivial⟩ Tryd.call31) (tumbref2_SlotsOf_ok _ v_p_items p_items (hs_p_items.mono (S.le_arg nil_sub)) 0 _ hr2) rfl ?_; clear S; intro v2 a w2 hv2 hk2 hn2 S
      obtain ⟨φ1, hl1, hm1, S⟩ := S.see' hn2 hz1
      have hs1 := hv2.mono hm1
      refine lv S (rn_assign (S.tm rfl)) rfl ?_; clear S; intro a S
      refine l_done ?_
      replace S := S.nf (L' := []) (K' := [(0, v_p_items), (1, v_p_l), (6, v2)]) [] rfl ⟨rfl, rfl, rfl, trivial⟩
      refine then_n ?_
      refine f_seq ?_
      refine f_seq ?_
      refine f_region ?_
      refine lv S (rn_move (S.tm rfl)) rfl ?_; clear S; intro a S
      refine lv S (rn_lenT sl_30 (S.tm rfl) (slc_len hs_p_l)) rfl ?_; clear S; intro a S
      refine lv S (rn_move rfl) rfl ?_; clear S; intro a S
      refine l_done ?_
      replace S := S.nf (L' := []) (K' := [(0, v_p_items), (1, v_p_l), (6, v2), (20, v_p_l), (21, .int .i64 (p_l.length : Int)), (22, .int .i64 0)]) [] rfl ⟨rfl, rfl, rfl, rfl, rfl, rfl, trivial⟩
      refine then_n ?_
      obtain ⟨j1, hj1, h⟩ := joinE h
      refine f_join (fun a w' => j1 = some r ∧ Sx w [] φ1 [] [] 88 a w') ?_ ?_
      · refine wp_block ?_
        refine f_loop (fun (ys1 : List GHeld) a w' => ∃ i1 : Nat, (∃ dn, p_l = dn ++ ys1 ∧ dn.length = i1) ∧ tumbref2_HeldFault_l1 p_items p_l r2 j1 ys1 i1 = some r ∧ Sx w [] φ1 [] [(0, v_p_items), (1, v_p_l), (6, v2), (20, v_p_l), (21, .int .i64 (p_l.length : Int)), (22, .int .i64 (i1 : Int))] 88 a w') List.length p_l ⟨0, ⟨[], rfl, rfl⟩, h, S.nf [] rfl ⟨rfl, rfl, rfl, rfl, rfl, rfl, trivial⟩⟩ ?_
        clear S h; rintro ys1 a w3 ⟨i1, ⟨dn, hd1, hi1⟩, h, S⟩
        cases ys1 with
        | nil =>
          rw [tumbref2_HeldFault_l1.eq_1] at h
          refine f_seq ?_
          refine f_region ?_
          refine lv S (rn_lss (S.tm rfl) (S.tm rfl)) rfl ?_; clear S; intro a S
          refine l_done ?_
          replace S := S.nf (L' := []) (K' := [(0, v_p_items), (1, v_p_l), (6, v2), (20, v_p_l), (21, .int .i64 (p_l.length : Int)), (22, .int .i64 (i1 : Int)), (23, .bool (decide ((i1 : Int) < (p_l.length : Int))))]) [] rfl ⟨rfl, rfl, rfl, rfl, rfl, rfl, rfl, trivial⟩
          refine then_n ?_
          refine f_seq ?_
          refine wp_cond_false ((S.tm rfl).trans (congrArg Value.bool (rng_nil hd1 hi1))) ?_
          refine wp_exit ?_
          refine then_x ?_
          refine then_x ?_
          refine x_same ?_
          refine then_n ?_
          exact ⟨h, S.nf [] rfl trivial⟩
        | cons y1 ys1 =>
          rw [tumbref2_HeldFault_l1.eq_2] at h
          refine f_seq ?_
          refine f_region ?_
          refine lv S (rn_lss (S.tm rfl) (S.tm rfl)) rfl ?_; clear S; intro a S
          refine l_done ?_
          replace S := S.nf (L' := []) (K' := [(0, v_p_items), (1, v_p_l), (6, v2), (20, v_p_l), (21, .int .i64 (p_l.length : Int)), (22, .int .i64 (i1 : Int)), (23, .bool (decide ((i1 : Int) < (p_l.length : Int))))]) [] rfl ⟨rfl, rfl, rfl, rfl, rfl, rfl, rfl, trivial⟩
          refine then_n ?_
          refine f_seq ?_
          refine wp_cond_true ((S.tm rfl).trans (congrArg Value.bool (rng_cons hd1 hi1))) ?_
          refine wp_skip ?_
          refine then_n ?_
          refine f_seq ?_
          refine wp_block ?_
          refine f_seq ?_
          refine f_region ?_
          refine lv S (rn_move (S.tm rfl)) rfl ?_; clear S; intro a S
          obtain ⟨b1, o1, hm2, hr3⟩ := rn_indexT (a := a) (x := .tmp 20) (y := .tmp 22) (ty := 0) sl_30 hs_p_l (get_mid hd1 hi1) rfl (S.tm rfl) (S.tm rfl)
          refine lv S (hr3 _) rfl ?_; clear S; intro a S
          clear hr3
          refine lv S (rn_ldA Tryd.isAgg63 Tryd.sizeOf63 (off := o1) (o := 0) (part := [.string y1.Item, .int .i64 y1.Heat, .int .i64 y1.At]) rfl rfl (S.tm rfl) (hm2.at S.emb0)) rfl ?_; clear S; intro a S
          refine l_alloc S Tryd.zeroValue63 (cs := [.string k_empty, .int .i64 0, .int .i64 0]) rfl rfl ?_; clear S; intro a w5 b2 hz2 hk3 S
          refine lv S (rn_assign (S.tm rfl)) rfl ?_; clear S; intro a S
          refine l_store S (S.tm rfl) (S.tm rfl) (i := 0) (off := 0) rfl Tryd.sizeOf63 (vs := [.string y1.Item, .int .i64 y1.Heat, .int .i64 y1.At]) rfl rfl rfl rfl ?_; clear S; intro w6 hk4 S
          refine l_done ?_
          replace S := S.nf (L' := [.blk b2 [.string y1.Item, .int .i64 y1.Heat, .int .i64 y1.At] 63]) (K' := [(0, v_p_items), (1, v_p_l), (6, v2), (7, .int .i64 (i1 : Int)), (8, .pointer (some ⟨b2, 0, none⟩)), (20, v_p_l), (21, .int .i64 (p_l.length : Int)), (22, .int .i64 (i1 : Int))]) [true] rfl ⟨rfl, rfl, rfl, rfl, rfl, rfl, rfl, rfl, trivial⟩
          refine then_n ?_
          refine f_seq ?_
          refine f_region ?_
          refine lv S (rn_move (S.tm rfl)) rfl ?_; clear S; intro a S
          refine lv S (rn_fld fa_63_0 (S.tm rfl)) rfl ?_; clear S; intro a S
          refine lv S (rn_load Tryd.isAgg9 (S.tm rfl) (S.cell (i := 0) rfl rfl)) rfl ?_; clear S; intro a S
          refine l_enter S (fun _ => run_call (vs := [v_p_items, .string y1.Item]) ⟨(S.tm rfl), (S.tm rfl), trivial⟩ Tryd.call38) (tumbref2_ItemAt_ok _ v_p_items p_items (hs_p_items.mono (S.le_arg nil_sub)) y1.Item _ rfl) rfl ?_; clear S; intro v3 a w7 hv3 hk5 hn3 S
          subst hv3
          refine lv S (rn_assign (S.tm rfl)) rfl ?_; clear S; intro a S
          refine l_done ?_
          replace S := S.nf (L' := [.blk b2 [.string y1.Item, .int .i64 y1.Heat, .int .i64 y1.At] 63]) (K' := [(0, v_p_items), (1, v_p_l), (6, v2), (7, .int .i64 (i1 : Int)), (8, .pointer (some ⟨b2, 0, none⟩)), (9, .int .i64 (tumbref2_ItemAt p_items y1.Item)), (20, v_p_l), (21, .int .i64 (p_l.length : Int)), (22, .int .i64 (i1 : Int))]) [true] rfl ⟨rfl, rfl, rfl, rfl, rfl, rfl, rfl, rfl, rfl, trivial⟩
          refine then_n ?_
          refine wp_block ?_
          refine f_seq ?_
          refine f_region ?_
          refine lv S (rn_move (S.tm rfl)) rfl ?_; clear S; intro a S
          refine lv S (rn_lss (S.tm rfl) rfl) rfl ?_; clear S; intro a S
          refine lv S (rn_assign (S.tm rfl)) rfl ?_; clear S; intro a S
          refine l_done ?_
          replace S := S.nf (L' := [.blk b2 [.string y1.Item, .int .i64 y1.Heat, .int .i64 y1.At] 63]) (K' := [(0, v_p_items), (1, v_p_l), (6, v2), (7, .int .i64 (i1 : Int)), (8, .pointer (some ⟨b2, 0, none⟩)), (9, .int .i64 (tumbref2_ItemAt p_items y1.Item)), (20, v_p_l), (21, .int .i64 (p_l.length : Int)), (22, .int .i64 (i1 : Int)), (31, .bool (decide ((tumbref2_ItemAt p_items y1.Item) < 0)))]) [true] rfl ⟨rfl, rfl, rfl, rfl, rfl, rfl, rfl, rfl, rfl, rfl, trivial⟩
          refine then_n ?_
          refine f_cond (S.tm rfl) (fun hb3 => ?_) (fun hb3 => ?_)
          · replace h := iteT h hb3
            refine f_seq ?_
            refine f_region ?_
            refine lv S (rn_assign rfl) rfl ?_; clear S; intro a S
            refine l_done ?_
            replace S := S.nf (L' := []) (K' := [(4, .int .i64 8)]) [false] rfl ⟨rfl, trivial⟩
            refine then_n ?_
            refine wp_ret ?_
            refine blk_r ?_
            refine blk_r ?_
            refine then_r ?_
            refine then_r ?_
            refine blk_r ?_
            refine then_r ?_
            refine then_r ?_
            obtain rfl := Option.some.inj h
            exact f_ret S Tryd.results18 rfl rfl
          · replace h := iteF h hb3
            refine f_seq ?_
            obtain ⟨j2, hj2, h⟩ := joinE h
            refine f_join (fun a w' => ∃ x1 : Bool, j2 x1 = some r ∧ Sx w [] φ1 [.blk b2 [.string y1.Item, .int .i64 y1.Heat, .int .i64 y1.At] 63] [(0, v_p_items), (1, v_p_l), (6, v2), (7, .int .i64 (i1 : Int)), (8, .pointer (some ⟨b2, 0, none⟩)), (20, v_p_l), (21, .int .i64 (p_l.length : Int)), (22, .int .i64 (i1 : Int)), (34, .bool x1)] 88 a w') ?_ ?_
            · obtain ⟨hc1, h⟩ := chkE h
              rcases Bool.eq_false_or_eq_true (!(tumbref2_in y1.Heat 1 ((nth p_items (tumbref2_ItemAt p_items y1.Item)).Heats))) with hb4 | hb4
              · replace h := iteT h hb4
                refine d_region [] ([]) Tryd.mixed S rfl (by kernel_rfl) ?_; clear S; intro w11 hk8 hsel S
                refine d_quiet 0 S hsel rfl rfl rfl (by kernel_rfl) (by kernel_rfl) rfl (fun _ hw => (rn_fld fa_63_1 (S.tm rfl))) ?_; clear S; intro a S
                refine d_quiet 1 S hsel rfl rfl rfl (by kernel_rfl) (by kernel_rfl) rfl (fun _ hw => (rn_ld Tryd.isAgg3 (off := 0) (o := 1) (S.tm rfl) ((S.blk_mem (i := 0) (cells := [.string y1.Item, .int .i64 y1.Heat, .int .i64 y1.At]) (b := b2) (T := 63) rfl (ne_nil (e' := .blk b2 [.string y1.Item, .int .i64 y1.Heat, .int .i64 y1.At] 63))).kept hw) rfl)) ?_; clear S; intro a S
                refine d_quiet 2 S hsel rfl rfl rfl (by kernel_rfl) (by kernel_rfl) rfl (fun _ hw => (rn_move (S.tm rfl))) ?_; clear S; intro a S
                refine d_quiet 3 S hsel rfl rfl rfl (by kernel_rfl) (by kernel_rfl) rfl (fun _ hw => (rn_move (S.tm rfl))) ?_; clear S; intro a S
                obtain ⟨b5, o4, hm5, hr6⟩ := rn_indexT (a := a) (x := .tmp 37) (y := .tmp 38) (ty := 0) sl_26 (hs_p_items.mono (S.le_arg nil_sub)) (inB_get hc1).1 (inB_get hc1).2 (S.tm rfl) (S.tm rfl)
                refine d_quiet 4 S hsel rfl rfl rfl (by kernel_rfl) (by kernel_rfl) rfl (fun _ hw => hr6 _) ?_; clear S; intro a S
                clear hr6
                refine d_quiet 5 S hsel rfl rfl rfl (by kernel_rfl) (by kernel_rfl) rfl (fun _ hw => (rn_fld fa_58_1 (S.tm rfl))) ?_; clear S; intro a S
                refine d_quiet 6 S hsel rfl rfl rfl (by kernel_rfl) (by kernel_rfl) rfl (fun _ hw => (rn_ld Tryd.isAgg3 (off := o4) (o := 1) (S.tm rfl) (hm5.kept hw) rfl)) ?_; clear S; intro a S
                refine d_loud1 7 (by kernel_rfl) rfl ?_
                refine l_enter S (fun _ => run_call (vs := [.int .i64 y1.Heat, .int .i64 1, .int .i64 ((nth p_items (tumbref2_ItemAt p_items y1.Item)).Heats)]) ⟨(S.tm rfl), rfl, (S.tm rfl), trivial⟩ Tryd.call39) (tumbref2_in_ok _ y1.Heat 1 ((nth p_items (tumbref2_ItemAt p_items y1.Item)).Heats) _ rfl) rfl ?_; clear S; intro v6 a w12 hv6 hk9 hn6 S
                subst hv6
                refine l_done ?_
                refine d_next hk9 ?_
                refine d_rest [8, 9, 10, 11, 12, 13, 14, 15] hsel (by kernel_rfl) rfl ?_
                clear hsel
                refine s_lv S rfl (rn_not (S.tm rfl)) rfl ?_; clear S; intro a S
                refine s_lv S rfl (rn_move (S.tm rfl)) rfl ?_; clear S; intro a S
                refine s_skip S rfl rfl rfl rfl (neq_t hb4) rfl ?_ rfl; clear S; intro a S
                refine s_skip S rfl rfl rfl rfl (neq_t hb4) rfl ?_ rfl; clear S; intro a S
                refine s_skip S rfl rfl rfl rfl (neq_t hb4) rfl ?_ rfl; clear S; intro a S
                refine s_skip S rfl rfl rfl rfl (neq_t hb4) rfl ?_ rfl; clear S; intro a S
                refine s_lv S rfl (rn_pick_b hb4 (S.tm rfl) rfl) rfl ?_; clear S; intro a S
                refine s_lv S rfl (rn_assign (S.tm rfl)) rfl ?_; clear S; intro a S
                refine s_done ?_
                replace S := S.nf (L' := [.blk b2 [.string y1.Item, .int .i64 y1.Heat, .int .i64 y1.At] 63]) (K' := [(0, v_p_items), (1, v_p_l), (6, v2), (7, .int .i64 (i1 : Int)), (8, .pointer (some ⟨b2, 0, none⟩)), (20, v_p_l), (21, .int .i64 (p_l.length : Int)), (22, .int .i64 (i1 : Int)), (34, .bool true)]) [true] rfl ⟨rfl, rfl, rfl, rfl, rfl, rfl, rfl, rfl, rfl, trivial⟩
                refine then_n ?_
                exact ⟨true, h, S.nf [true] rfl ⟨rfl, rfl, rfl, rfl, rfl, rfl, rfl, rfl, rfl, trivial⟩⟩
              · replace h := iteF h hb4
                refine d_region [] ([]) Tryd.mixed S rfl (by kernel_rfl) ?_; clear S; intro w15 hk12 hsel S
                refine d_quiet 0 S hsel rfl rfl rfl (by kernel_rfl) (by kernel_rfl) rfl (fun _ hw => (rn_fld fa_63_1 (S.tm rfl))) ?_; clear S; intro a S
                refine d_quiet 1 S hsel rfl rfl rfl (by kernel_rfl) (by kernel_rfl) rfl (fun _ hw => (rn_ld Tryd.isAgg3 (off := 0) (o := 1) (S.tm rfl) ((S.blk_mem (i := 0) (cells := [.string y1.Item, .int .i64 y1.Heat, .int .i64 y1.At]) (b := b2) (T := 63) rfl (ne_nil (e' := .blk b2 [.string y1.Item, .int .i64 y1.Heat, .int .i64 y1.At] 63))).kept hw) rfl)) ?_; clear S; intro a S
                refine d_quiet 2 S hsel rfl rfl rfl (by kernel_rfl) (by kernel_rfl) rfl (fun _ hw => (rn_move (S.tm rfl))) ?_; clear S; intro a S
                refine d_quiet 3 S hsel rfl rfl rfl (by kernel_rfl) (by kernel_rfl) rfl (fun _ hw => (rn_move (S.tm rfl))) ?_; clear S; intro a S
                obtain ⟨b7, o6, hm7, hr8⟩ := rn_indexT (a := a) (x := .tmp 37) (y := .tmp 38) (ty := 0) sl_26 (hs_p_items.mono (S.le_arg nil_sub)) (inB_get hc1).1 (inB_get hc1).2 (S.tm rfl) (S.tm rfl)
                refine d_quiet 4 S hsel rfl rfl rfl (by kernel_rfl) (by kernel_rfl) rfl (fun _ hw => hr8 _) ?_; clear S; intro a S
                clear hr8
                refine d_quiet 5 S hsel rfl rfl rfl (by kernel_rfl) (by kernel_rfl) rfl (fun _ hw => (rn_fld fa_58_1 (S.tm rfl))) ?_; clear S; intro a S
                refine d_quiet 6 S hsel rfl rfl rfl (by kernel_rfl) (by kernel_rfl) rfl (fun _ hw => (rn_ld Tryd.isAgg3 (off := o6) (o := 1) (S.tm rfl) (hm7.kept hw) rfl)) ?_; clear S; intro a S
                refine d_loud1 7 (by kernel_rfl) rfl ?_
                refine l_enter S (fun _ => run_call (vs := [.int .i64 y1.Heat, .int .i64 1, .int .i64 ((nth p_items (tumbref2_ItemAt p_items y1.Item)).Heats)]) ⟨(S.tm rfl), rfl, (S.tm rfl), trivial⟩ Tryd.call39) (tumbref2_in_ok _ y1.Heat 1 ((nth p_items (tumbref2_ItemAt p_items y1.Item)).Heats) _ rfl) rfl ?_; clear S; intro v9 a w16 hv9 hk13 hn9 S
                subst hv9
                refine l_done ?_
                refine d_next hk13 ?_
                refine d_quiet 8 S hsel rfl rfl rfl (by kernel_rfl) (by kernel_rfl) rfl (fun _ hw => (rn_not (S.tm rfl))) ?_; clear S; intro a S
                refine d_quiet 9 S hsel rfl rfl rfl (by kernel_rfl) (by kernel_rfl) rfl (fun _ hw => (rn_move (S.tm rfl))) ?_; clear S; intro a S
                refine d_quiet_g 10 S hsel rfl rfl rfl rfl hb4 rfl rfl (by kernel_rfl) (by kernel_rfl) rfl (fun _ hw => (rn_fld fa_63_2 (S.tm rfl))) ?_; clear S; intro a S
                refine d_quiet_g 11 S hsel rfl rfl rfl rfl hb4 rfl rfl (by kernel_rfl) (by kernel_rfl) rfl (fun _ hw => (rn_ld Tryd.isAgg3 (off := 0) (o := 2) (S.tm rfl) ((S.blk_mem (i := 0) (cells := [.string y1.Item, .int .i64 y1.Heat, .int .i64 y1.At]) (b := b2) (T := 63) rfl (ne_nil (e' := .blk b2 [.string y1.Item, .int .i64 y1.Heat, .int .i64 y1.At] 63))).kept hw) rfl)) ?_; clear S; intro a S
                refine d_loud1 12 (by kernel_rfl) rfl ?_
                refine l_want S rfl rfl rfl hb4 ?_
                refine l_enter S (fun _ => run_call (vs := [.int .i64 y1.At]) ⟨(S.tm rfl), trivial⟩ Tryd.call29) (tumbref2_Moment_ok _ y1.At _ rfl) rfl ?_; clear S; intro v10 a w17 hv10 hk14 hn10 S
                subst hv10
                refine l_done ?_
                refine d_next hk14 ?_
                refine d_rest [13, 14, 15] hsel (by kernel_rfl) rfl ?_
                clear hsel
                refine s_want S rfl rfl rfl rfl hb4 ?_
                refine s_lv0 S (rn_not (S.tm rfl)) rfl ?_; clear S; intro a S
                refine s_lv S rfl (rn_pick_c hb4 (S.tm rfl) (S.tm rfl)) rfl ?_; clear S; intro a S
                refine s_lv S rfl (rn_assign (S.tm rfl)) rfl ?_; clear S; intro a S
                refine s_done ?_
                replace S := S.nf (L' := [.blk b2 [.string y1.Item, .int .i64 y1.Heat, .int .i64 y1.At] 63]) (K' := [(0, v_p_items), (1, v_p_l), (6, v2), (7, .int .i64 (i1 : Int)), (8, .pointer (some ⟨b2, 0, none⟩)), (20, v_p_l), (21, .int .i64 (p_l.length : Int)), (22, .int .i64 (i1 : Int)), (34, .bool (!(tumbref2_Moment y1.At))), (45, .pointer (some ⟨b2, 2, none⟩)), (46, .int .i64 y1.At), (47, .bool (tumbref2_Moment y1.At)), (48, .bool (!(tumbref2_Moment y1.At)))]) [true] rfl ⟨rfl, rfl, rfl, rfl, rfl, rfl, rfl, rfl, rfl, rfl, rfl, rfl, rfl, trivial⟩
                refine then_n ?_
                exact ⟨!(tumbref2_Moment y1.At), h, S.nf [true] rfl ⟨rfl, rfl, rfl, rfl, rfl, rfl, rfl, rfl, rfl, trivial⟩⟩
            clear S h; rintro a w8 ⟨x1, h, S⟩; rw [hj2] at h; clear hj2 j2
            refine then_n ?_
            refine f_cond (S.tm rfl) (fun hb5 => ?_) (fun hb5 => ?_)
            · replace h := iteT h hb5
              refine f_seq ?_
              refine f_region ?_
              refine lv S (rn_assign rfl) rfl ?_; clear S; intro a S
              refine l_done ?_
              replace S := S.nf (L' := []) (K' := [(4, .int .i64 1)]) [false] rfl ⟨rfl, trivial⟩
              refine then_n ?_
              refine wp_ret ?_
              refine blk_r ?_
              refine blk_r ?_
              refine then_r ?_
              refine then_r ?_
              refine blk_r ?_
              refine then_r ?_
              refine then_r ?_
              obtain rfl := Option.some.inj h
              exact f_ret S Tryd.results18 rfl rfl
            · replace h := iteF h hb5
              refine f_seq ?_
              obtain ⟨j3, hj3, h⟩ := joinE h
              refine f_join (fun a w' => ∃ x2 : Bool, j3 x2 = some r ∧ Sx w [] φ1 [] [(0, v_p_items), (1, v_p_l), (6, v2), (20, v_p_l), (21, .int .i64 (p_l.length : Int)), (22, .int .i64 (i1 : Int)), (50, .bool x2)] 88 a w') ?_ ?_
              · rcases Bool.eq_false_or_eq_true (decide (0 < (i1 : Int))) with hb6 | hb6
                · replace h := iteT h hb6
                  obtain ⟨hc2, h⟩ := chkE h
                  obtain ⟨hc3, h⟩ := chkE h
                  refine d_region [] ([]) Tryd.mixed S rfl (by kernel_rfl) ?_; clear S; intro w21 hk17 hsel S
                  refine d_quiet 0 S hsel rfl rfl rfl (by kernel_rfl) (by kernel_rfl) rfl (fun _ hw => (rn_move (S.tm rfl))) ?_; clear S; intro a S
                  refine d_quiet 1 S hsel rfl rfl rfl (by kernel_rfl) (by kernel_rfl) rfl (fun _ hw => (rn_gtr (S.tm rfl) rfl)) ?_; clear S; intro a S
                  refine d_quiet 2 S hsel rfl rfl rfl (by kernel_rfl) (by kernel_rfl) rfl (fun _ hw => (rn_move (S.tm rfl))) ?_; clear S; intro a S
                  refine d_quiet_g 3 S hsel rfl rfl rfl rfl hb6 rfl rfl (by kernel_rfl) (by kernel_rfl) rfl (fun _ hw => (rn_move (S.tm rfl))) ?_; clear S; intro a S
                  refine d_quiet_g 4 S hsel rfl rfl rfl rfl hb6 rfl rfl (by kernel_rfl) (by kernel_rfl) rfl (fun _ hw => (rn_fld fa_63_0 (S.tm rfl))) ?_; clear S; intro a S
                  refine d_quiet_g 5 S hsel rfl rfl rfl rfl hb6 rfl rfl (by kernel_rfl) (by kernel_rfl) rfl (fun _ hw => (rn_ld Tryd.isAgg9 (off := 0) (o := 0) (S.tm rfl) ((S.blk_mem (i := 0) (cells := [.string y1.Item, .int .i64 y1.Heat, .int .i64 y1.At]) (b := b2) (T := 63) rfl (ne_nil (e' := .blk b2 [.string y1.Item, .int .i64 y1.Heat, .int .i64 y1.At] 63))).kept hw) rfl)) ?_; clear S; intro a S
                  refine d_quiet_g 6 S hsel rfl rfl rfl rfl hb6 rfl rfl (by kernel_rfl) (by kernel_rfl) rfl (fun _ hw => (rn_fld fa_63_1 (S.tm rfl))) ?_; clear S; intro a S
                  refine d_quiet_g 7 S hsel rfl rfl rfl rfl hb6 rfl rfl (by kernel_rfl) (by kernel_rfl) rfl (fun _ hw => (rn_ld Tryd.isAgg3 (off := 0) (o := 1) (S.tm rfl) ((S.blk_mem (i := 0) (cells := [.string y1.Item, .int .i64 y1.Heat, .int .i64 y1.At]) (b := b2) (T := 63) rfl (ne_nil (e' := .blk b2 [.string y1.Item, .int .i64 y1.Heat, .int .i64 y1.At] 63))).kept hw) rfl)) ?_; clear S; intro a S
                  refine d_quiet_g 9 S hsel rfl rfl rfl rfl hb6 rfl rfl (by kernel_rfl) (by kernel_rfl) rfl (fun _ hw => (rn_move (S.tm rfl))) ?_; clear S; intro a S
                  refine d_quiet_g 10 S hsel rfl rfl rfl rfl hb6 rfl rfl (by kernel_rfl) (by kernel_rfl) rfl (fun _ hw => (rn_move (S.tm rfl))) ?_; clear S; intro a S
                  refine d_quiet_g 11 S hsel rfl rfl rfl rfl hb6 rfl rfl (by kernel_rfl) (by kernel_rfl) rfl (fun _ hw => (rn_move (S.tm rfl))) ?_; clear S; intro a S
                  refine d_quiet_g 12 S hsel rfl rfl rfl rfl hb6 rfl rfl (by kernel_rfl) (by kernel_rfl) rfl (fun _ hw => (rn_sub (S.tm rfl) rfl)) ?_; clear S; intro a S
                  obtain ⟨b10, o9, hm10, hr11⟩ := rn_indexT (a := a) (x := .tmp 61) (y := .tmp 63) (ty := 0) sl_30 (hs_p_l.mono (S.le_arg nil_sub)) (inB_get hc2).1 (inB_get hc2).2 (S.tm rfl) (S.tm rfl)
                  refine d_quiet_g 13 S hsel rfl rfl rfl rfl hb6 rfl rfl (by kernel_rfl) (by kernel_rfl) rfl (fun _ hw => hr11 _) ?_; clear S; intro a S
                  clear hr11
                  refine d_quiet_g 14 S hsel rfl rfl rfl rfl hb6 rfl rfl (by kernel_rfl) (by kernel_rfl) rfl (fun _ hw => (rn_fld fa_63_0 (S.tm rfl))) ?_; clear S; intro a S
                  refine d_quiet_g 15 S hsel rfl rfl rfl rfl hb6 rfl rfl (by kernel_rfl) (by kernel_rfl) rfl (fun _ hw => (rn_ld Tryd.isAgg9 (off := o9) (o := 0) (S.tm rfl) (hm10.kept hw) rfl)) ?_; clear S; intro a S
                  refine d_quiet_g 16 S hsel rfl rfl rfl rfl hb6 rfl rfl (by kernel_rfl) (by kernel_rfl) rfl (fun _ hw => (rn_move (S.tm rfl))) ?_; clear S; intro a S
                  refine d_quiet_g 17 S hsel rfl rfl rfl rfl hb6 rfl rfl (by kernel_rfl) (by kernel_rfl) rfl (fun _ hw => (rn_move (S.tm rfl))) ?_; clear S; intro a S
                  refine d_quiet_g 18 S hsel rfl rfl rfl rfl hb6 rfl rfl (by kernel_rfl) (by kernel_rfl) rfl (fun _ hw => (rn_sub (S.tm rfl) rfl)) ?_; clear S; intro a S
                  obtain ⟨b11, o10, hm11, hr12⟩ := rn_indexT (a := a) (x := .tmp 67) (y := .tmp 69) (ty := 0) sl_30 (hs_p_l.mono (S.le_arg nil_sub)) (inB_get hc3).1 (inB_get hc3).2 (S.tm rfl) (S.tm rfl)
                  refine d_quiet_g 19 S hsel rfl rfl rfl rfl hb6 rfl rfl (by kernel_rfl) (by kernel_rfl) rfl (fun _ hw => hr12 _) ?_; clear S; intro a S
                  clear hr12
                  refine d_quiet_g 20 S hsel rfl rfl rfl rfl hb6 rfl rfl (by kernel_rfl) (by kernel_rfl) rfl (fun _ hw => (rn_fld fa_63_1 (S.tm rfl))) ?_; clear S; intro a S
                  refine d_quiet_g 21 S hsel rfl rfl rfl rfl hb6 rfl rfl (by kernel_rfl) (by kernel_rfl) rfl (fun _ hw => (rn_ld Tryd.isAgg3 (off := o10) (o := 1) (S.tm rfl) (hm11.kept hw) rfl)) ?_; clear S; intro a S
                  refine d_loud1 8 (by kernel_rfl) rfl ?_
                  refine l_want S rfl rfl rfl hb6 ?_
                  refine l_enter S (fun _ => run_call (vs := [v2, .string y1.Item, .int .i64 y1.Heat]) ⟨(S.tm rfl), (S.tm rfl), (S.tm rfl), trivial⟩ Tryd.call40) (tumbref2_heatAt_ok _ v2 r2 (((ownV_slcT GSlot.enc_ok hs1)).mono (S.le_new nil_sub)) y1.Item y1.Heat _ rfl) rfl ?_; clear S; intro v13 a w22 hv13 hk18 hn13 S
                  subst hv13
                  refine l_done ?_
                  refine d_next hk18 ?_
                  refine d_loud1 22 (by kernel_rfl) rfl ?_
                  refine l_want S rfl rfl rfl hb6 ?_
                  refine l_enter S (fun _ => run_call (vs := [v2, .string ((nth p_l (W ((i1 : Int) - 1))).Item), .int .i64 ((nth p_l (W ((i1 : Int) - 1))).Heat)]) ⟨(S.tm rfl), (S.tm rfl), (S.tm rfl), trivial⟩ Tryd.call40) (tumbref2_heatAt_ok _ v2 r2 (((ownV_slcT GSlot.enc_ok hs1)).mono (S.le_new nil_sub)) ((nth p_l (W ((i1 : Int) - 1))).Item) ((nth p_l (W ((i1 : Int) - 1))).Heat) _ rfl) rfl ?_; clear S; intro v14 a w23 hv14 hk19 hn14 S
                  subst hv14
                  refine l_done ?_
                  refine d_next hk19 ?_
                  refine d_rest [23, 24, 25, 26, 27, 28, 29, 30, 31, 32, 33, 34, 35, 36] hsel (by kernel_rfl) rfl ?_
                  clear hsel
                  refine s_want S rfl rfl rfl rfl hb6 ?_
                  refine s_lv0 S (rn_leq (S.tm rfl) (S.tm rfl)) rfl ?_; clear S; intro a S
                  refine s_want S rfl rfl rfl rfl hb6 ?_
                  refine s_lv0 S (rn_move (S.tm rfl)) rfl ?_; clear S; intro a S
                  obtain ⟨j4, hj4, h⟩ := joinE h
                  refine s_cutm 10 (fun a w' => ∃ c1, j4 c1 = some r ∧ Keep [] w23 w' ∧ Sx w [] φ1 [.blk b2 [.string y1.Item, .int .i64 y1.Heat, .int .i64 y1.At] 63] [(0, v_p_items), (1, v_p_l), (6, v2), (20, v_p_l), (21, .int .i64 (p_l.length : Int)), (22, .int .i64 (i1 : Int)), (53, .bool (decide (0 < (i1 : Int)))), (54, v2), (55, .pointer (some ⟨b2, 0, none⟩)), (56, .string y1.Item), (57, .pointer (some ⟨b2, 1, none⟩)), (58, .int .i64 y1.Heat), (59, .int .i64 (tumbref2_heatAt r2 y1.Item y1.Heat)), (60, v2), (61, v_p_l), (62, .int .i64 (i1 : Int)), (63, .int .i64 (W ((i1 : Int) - 1))), (64, .pointer (some ⟨b10, o9, none⟩)), (65, .pointer (some ⟨b10, o9, none⟩)), (66, .string ((nth p_l (W ((i1 : Int) - 1))).Item)), (67, v_p_l), (68, .int .i64 (i1 : Int)), (69, .int .i64 (W ((i1 : Int) - 1))), (70, .pointer (some ⟨b11, o10, none⟩)), (71, .pointer (some ⟨b11, o10 + 1, none⟩)), (72, .int .i64 ((nth p_l (W ((i1 : Int) - 1))).Heat)), (73, .int .i64 (tumbref2_heatAt r2 ((nth p_l (W ((i1 : Int) - 1))).Item) ((nth p_l (W ((i1 : Int) - 1))).Heat))), (74, .bool (decide ((tumbref2_heatAt r2 y1.Item y1.Heat) ≤ (tumbref2_heatAt r2 ((nth p_l (W ((i1 : Int) - 1))).Item) ((nth p_l (W ((i1 : Int) - 1))).Heat))))), (75, .bool (decide ((tumbref2_heatAt r2 y1.Item y1.Heat) ≤ (tumbref2_heatAt r2 ((nth p_l (W ((i1 : Int) - 1))).Item) ((nth p_l (W ((i1 : Int) - 1))).Heat))))), (85, .bool c1)] 88 a w') ?_ ?_
                  · rcases Bool.eq_false_or_eq_true (decide ((tumbref2_heatAt r2 y1.Item y1.Heat) ≤ (tumbref2_heatAt r2 ((nth p_l (W ((i1 : Int) - 1))).Item) ((nth p_l (W ((i1 : Int) - 1))).Heat)))) with hb7 | hb7
                    · replace h := iteT h hb7
                      refine s_skip S rfl rfl rfl rfl (neq_t hb7) rfl ?_ rfl; clear S; intro a S
                      refine s_skip S rfl rfl rfl rfl (neq_t hb7) rfl ?_ rfl; clear S; intro a S
                      refine s_skip S rfl rfl rfl rfl (neq_t hb7) rfl ?_ rfl; clear S; intro a S
                      refine s_skip S rfl rfl rfl rfl (neq_t hb7) rfl ?_ rfl; clear S; intro a S
                      refine s_skip S rfl rfl rfl rfl (neq_t hb7) rfl ?_ rfl; clear S; intro a S
                      refine s_skip S rfl rfl rfl rfl (neq_t hb7) rfl ?_ rfl; clear S; intro a S
                      refine s_skip S rfl rfl rfl rfl (neq_t hb7) rfl ?_ rfl; clear S; intro a S
                      refine s_skip S rfl rfl rfl rfl (neq_t hb7) rfl ?_ rfl; clear S; intro a S
                      refine s_skip S rfl rfl rfl rfl (neq_t hb7) rfl ?_ rfl; clear S; intro a S
                      refine s_want S rfl rfl rfl rfl hb6 ?_
                      refine s_lv0 S (rn_or_t true hb7 (S.tm rfl) rfl) rfl ?_; clear S; intro a S
                      refine s_done ?_
                      exact ⟨_, h, Keep.refl _ _, S.nf [true] rfl ⟨rfl, rfl, rfl, rfl, rfl, rfl, rfl, rfl, rfl, rfl, rfl, rfl, rfl, rfl, rfl, rfl, rfl, rfl, rfl, rfl, rfl, rfl, rfl, rfl, rfl, rfl, rfl, rfl, rfl, rfl, trivial⟩⟩
                    · replace h := iteF h hb7
                      refine s_want S rfl rfl rfl rfl hb7 ?_
                      refine s_lv0 S (rn_fld fa_63_2 (S.tm rfl)) rfl ?_; clear S; intro a S
                      refine s_want S rfl rfl rfl rfl hb7 ?_
                      refine s_lv0 S (rn_load Tryd.isAgg3 (S.tm rfl) (S.cell (i := 0) rfl rfl)) rfl ?_; clear S; intro a S
                      refine s_want S rfl rfl rfl rfl hb7 ?_
                      refine s_lv0 S (rn_move (S.tm rfl)) rfl ?_; clear S; intro a S
                      refine s_want S rfl rfl rfl rfl hb7 ?_
                      refine s_lv0 S (rn_move (S.tm rfl)) rfl ?_; clear S; intro a S
                      refine s_want S rfl rfl rfl rfl hb7 ?_
                      refine s_lv0 S (rn_sub (S.tm rfl) rfl) rfl ?_; clear S; intro a S
                      refine s_want S rfl rfl rfl rfl hb7 ?_
                      obtain ⟨hc4, h⟩ := chkE h
                      obtain ⟨b12, o11, hm12, hr13⟩ := rn_indexT (a := a) (x := .tmp 78) (y := .tmp 80) (ty := 0) sl_30 hs_p_l (inB_get hc4).1 (inB_get hc4).2 (S.tm rfl) (S.tm rfl)
                      refine s_lv0 S (hr13 _) rfl ?_; clear S; intro a S
                      clear hr13
                      refine s_want S rfl rfl rfl rfl hb7 ?_
                      refine s_lv0 S (rn_fld fa_63_2 (S.tm rfl)) rfl ?_; clear S; intro a S
                      refine s_want S rfl rfl rfl rfl hb7 ?_
                      refine s_lv0 S (rn_ld Tryd.isAgg3 (off := o11) (o := 2) (S.tm rfl) (hm12.at S.emb0) rfl) rfl ?_; clear S; intro a S
                      refine s_want S rfl rfl rfl rfl hb7 ?_
                      refine s_lv0 S (rn_lss (S.tm rfl) (S.tm rfl)) rfl ?_; clear S; intro a S
                      refine s_want S rfl rfl rfl rfl hb6 ?_
                      refine s_lv0 S (rn_or_f hb7 (S.tm rfl) (S.tm rfl)) rfl ?_; clear S; intro a S
                      refine s_done ?_
                      exact ⟨_, h, Keep.refl _ _, S.nf [true] rfl ⟨rfl, rfl, rfl, rfl, rfl, rfl, rfl, rfl, rfl, rfl, rfl, rfl, rfl, rfl, rfl, rfl, rfl, rfl, rfl, rfl, rfl, rfl, rfl, rfl, rfl, rfl, rfl, rfl, rfl, rfl, trivial⟩⟩
                  clear S h; rintro a w24 ⟨c1, h, hk20, S⟩; rw [hj4] at h; clear hj4 j4
                  refine s_lv S rfl (rn_pick_b hb6 (S.tm rfl) (S.tm rfl)) rfl ?_; clear S; intro a S
                  refine s_lv S rfl (rn_assign (S.tm rfl)) rfl ?_; clear S; intro a S
                  refine s_done ?_
                  replace S := S.nf (L' := [.blk b2 [.string y1.Item, .int .i64 y1.Heat, .int .i64 y1.At] 63]) (K' := [(0, v_p_items), (1, v_p_l), (6, v2), (20, v_p_l), (21, .int .i64 (p_l.length : Int)), (22, .int .i64 (i1 : Int)), (50, .bool c1), (54, v2), (55, .pointer (some ⟨b2, 0, none⟩)), (56, .string y1.Item), (57, .pointer (some ⟨b2, 1, none⟩)), (58, .int .i64 y1.Heat), (59, .int .i64 (tumbref2_heatAt r2 y1.Item y1.Heat)), (60, v2), (61, v_p_l), (62, .int .i64 (i1 : Int)), (63, .int .i64 (W ((i1 : Int) - 1))), (64, .pointer (some ⟨b10, o9, none⟩)), (65, .pointer (some ⟨b10, o9, none⟩)), (66, .string ((nth p_l (W ((i1 : Int) - 1))).Item)), (67, v_p_l), (68, .int .i64 (i1 : Int)), (69, .int .i64 (W ((i1 : Int) - 1))), (70, .pointer (some ⟨b11, o10, none⟩)), (71, .pointer (some ⟨b11, o10 + 1, none⟩)), (72, .int .i64 ((nth p_l (W ((i1 : Int) - 1))).Heat)), (73, .int .i64 (tumbref2_heatAt r2 ((nth p_l (W ((i1 : Int) - 1))).Item) ((nth p_l (W ((i1 : Int) - 1))).Heat))), (74, .bool (decide ((tumbref2_heatAt r2 y1.Item y1.Heat) ≤ (tumbref2_heatAt r2 ((nth p_l (W ((i1 : Int) - 1))).Item) ((nth p_l (W ((i1 : Int) - 1))).Heat))))), (75, .bool (decide ((tumbref2_heatAt r2 y1.Item y1.Heat) ≤ (tumbref2_heatAt r2 ((nth p_l (W ((i1 : Int) - 1))).Item) ((nth p_l (W ((i1 : Int) - 1))).Heat))))), (85, .bool c1)]) [true] rfl ⟨rfl, rfl, rfl, rfl, rfl, rfl, rfl, rfl, rfl, rfl, rfl, rfl, rfl, rfl, rfl, rfl, rfl, rfl, rfl, rfl, rfl, rfl, rfl, rfl, rfl, rfl, rfl, rfl, rfl, rfl, trivial⟩
                  refine then_n ?_
                  exact ⟨c1, h, S.nf [false] rfl ⟨rfl, rfl, rfl, rfl, rfl, rfl, rfl, trivial⟩⟩
                · replace h := iteF h hb6
                  refine d_region [] ([]) Tryd.mixed S rfl (by kernel_rfl) ?_; clear S; intro w25 hk21 hsel S
                  refine d_rest [0, 1, 2, 3, 4, 5, 6, 7, 8, 9, 10, 11, 12, 13, 14, 15, 16, 17, 18, 19, 20, 21, 22, 23, 24, 25, 26, 27, 28, 29, 30, 31, 32, 33, 34, 35, 36] hsel (by kernel_rfl) rfl ?_
                  clear hsel
                  refine s_lv S rfl (rn_move (S.tm rfl)) rfl ?_; clear S; intro a S
                  refine s_lv S rfl (rn_gtr (S.tm rfl) rfl) rfl ?_; clear S; intro a S
                  refine s_lv S rfl (rn_move (S.tm rfl)) rfl ?_; clear S; intro a S
                  refine s_skip S rfl rfl rfl rfl (neq_f hb6) rfl ?_ rfl; clear S; intro a S
                  refine s_skip S rfl rfl rfl rfl (neq_f hb6) rfl ?_ rfl; clear S; intro a S
                  refine s_skip S rfl rfl rfl rfl (neq_f hb6) rfl ?_ rfl; clear S; intro a S
                  refine s_skip S rfl rfl rfl rfl (neq_f hb6) rfl ?_ rfl; clear S; intro a S
                  refine s_skip S rfl rfl rfl rfl (neq_f hb6) rfl ?_ rfl; clear S; intro a S
                  refine s_skip S rfl rfl rfl rfl (neq_f hb6) rfl ?_ rfl; clear S; intro a S
                  refine s_skip S rfl rfl rfl rfl (neq_f hb6) rfl ?_ rfl; clear S; intro a S
                  refine s_skip S rfl rfl rfl rfl (neq_f hb6) rfl ?_ rfl; clear S; intro a S
                  refine s_skip S rfl rfl rfl rfl (neq_f hb6) rfl ?_ rfl; clear S; intro a S
                  refine s_skip S rfl rfl rfl rfl (neq_f hb6) rfl ?_ rfl; clear S; intro a S
                  refine s_skip S rfl rfl rfl rfl (neq_f hb6) rfl ?_ rfl; clear S; intro a S
                  refine s_skip S rfl rfl rfl rfl (neq_f hb6) rfl ?_ rfl; clear S; intro a S
                  refine s_skip S rfl rfl rfl rfl (neq_f hb6) rfl ?_ rfl; clear S; intro a S
                  refine s_skip S rfl rfl rfl rfl (neq_f hb6) rfl ?_ rfl; clear S; intro a S
                  refine s_skip S rfl rfl rfl rfl (neq_f hb6) rfl ?_ rfl; clear S; intro a S
                  refine s_skip S rfl rfl rfl rfl (neq_f hb6) rfl ?_ rfl; clear S; intro a S
                  refine s_skip S rfl rfl rfl rfl (neq_f hb6) rfl ?_ rfl; clear S; intro a S
                  refine s_skip S rfl rfl rfl rfl (neq_f hb6) rfl ?_ rfl; clear S; intro a S
                  refine s_skip S rfl rfl rfl rfl (neq_f hb6) rfl ?_ rfl; clear S; intro a S
                  refine s_skip S rfl rfl rfl rfl (neq_f hb6) rfl ?_ rfl; clear S; intro a S
                  refine s_skip S rfl rfl rfl rfl (neq_f hb6) rfl ?_ rfl; clear S; intro a S
                  refine s_skip S rfl rfl rfl rfl (neq_f hb6) rfl ?_ rfl; clear S; intro a S
                  refine s_skipU S rfl rfl rfl rfl rfl ?_; clear S; intro a S
                  refine s_skipU S rfl rfl rfl rfl rfl ?_; clear S; intro a S
                  refine s_skipU S rfl rfl rfl rfl rfl ?_; clear S; intro a S
                  refine s_skipU S rfl rfl rfl rfl rfl ?_; clear S; intro a S
                  refine s_skipU S rfl rfl rfl rfl rfl ?_; clear S; intro a S
                  refine s_skipU S rfl rfl rfl rfl rfl ?_; clear S; intro a S
                  refine s_skipU S rfl rfl rfl rfl rfl ?_; clear S; intro a S
                  refine s_skipU S rfl rfl rfl rfl rfl ?_; clear S; intro a S
                  refine s_skipU S rfl rfl rfl rfl rfl ?_; clear S; intro a S
                  refine s_skip S rfl rfl rfl rfl (neq_f hb6) rfl ?_ rfl; clear S; intro a S
                  refine s_lv S rfl (rn_pick_c hb6 (S.tm rfl) rfl) rfl ?_; clear S; intro a S
                  refine s_lv S rfl (rn_assign (S.tm rfl)) rfl ?_; clear S; intro a S
                  refine s_done ?_
                  replace S := S.nf (L' := []) (K' := [(0, v_p_items), (1, v_p_l), (6, v2), (20, v_p_l), (21, .int .i64 (p_l.length : Int)), (22, .int .i64 (i1 : Int)), (50, .bool false)]) [false] rfl ⟨rfl, rfl, rfl, rfl, rfl, rfl, rfl, trivial⟩
                  refine then_n ?_
                  exact ⟨false, h, S.nf [] rfl ⟨rfl, rfl, rfl, rfl, rfl, rfl, rfl, trivial⟩⟩
              clear S h; rintro a w18 ⟨x2, h, S⟩; rw [hj3] at h; clear hj3 j3
              refine then_n ?_
              refine f_cond (S.tm rfl) (fun hb8 => ?_) (fun hb8 => ?_)
              · replace h := iteT h hb8
                refine f_seq ?_
                refine f_region ?_
                refine lv S (rn_assign rfl) rfl ?_; clear S; intro a S
                refine l_done ?_
                replace S := S.nf (L' := []) (K' := [(4, .int .i64 7)]) [] rfl ⟨rfl, trivial⟩
                refine then_n ?_
                refine wp_ret ?_
                refine blk_r ?_
                refine blk_r ?_
                refine then_r ?_
                refine then_r ?_
                refine blk_r ?_
                refine then_r ?_
                refine then_r ?_
                obtain rfl := Option.some.inj h
                exact f_ret S Tryd.results18 rfl rfl
              · replace h := iteF h hb8
                refine wp_skip ?_
                refine blk_n ?_
                refine blk_n ?_
                refine then_n ?_
                refine f_region ?_
                refine lv S (rn_add (S.tm rfl) rfl) rfl ?_; clear S; intro a S
                refine lv S (rn_move (S.tm rfl)) rfl ?_; clear S; intro a S
                refine l_done ?_
                replace S := S.nf (L' := []) (K' := [(0, v_p_items), (1, v_p_l), (6, v2), (20, v_p_l), (21, .int .i64 (p_l.length : Int)), (22, .int .i64 (W ((i1 : Int) + 1)))]) [] rfl ⟨rfl, rfl, rfl, rfl, rfl, rfl, trivial⟩
                refine then_n ?_
                exact ⟨ys1, ⟨i1 + 1, ⟨_, (hd1).trans (List.append_cons _ _ _), by simp [hi1]⟩, h, S.nf [] rfl ⟨rfl, rfl, rfl, rfl, rfl, (congrArg (fun z => some (Value.int .i64 z)) (rng_next hd1 hi1 (slc_max hs_p_l))), trivial⟩⟩, Nat.lt_succ_self _⟩
      clear S h; rintro a w4 ⟨h, S⟩; rw [hj1] at h; clear hj1 j1
      refine then_n ?_
      refine f_seq ?_
      refine f_region ?_
      refine lv S (rn_assign rfl) rfl ?_; clear S; intro a S
      refine l_done ?_
      replace S := S.nf (L' := []) (K' := [(4, .int .i64 0)]) [] rfl ⟨rfl, trivial⟩
      refine then_n ?_
      refine wp_ret ?_
      obtain rfl := Option.some.inj h
      exact f_ret S Tryd.results18 rfl rfl
theorem slices_Clone_Slot_ok (w : World) (v_p_s : Value) (p_s : List GSlot) (hs_p_s : Slc (view w []) 4 v_p_s (p_s.map GSlot.enc)) (r : (List GSlot)) (h : slices_Clone_Slot p_s = some r) :
    Calls Tryd.prog 32 [v_p_s].toArray w (Ret w [] fun τ v w' => OwnV τ 41 4 v r.length (r.flatMap GSlot.enc)) := by
  refine f_enter [] [] Tryd.func32 rfl Tryd.ntmps32 rfl (by simp) (by simp [fps]) (by simp [fps]) fun a S => ?_
  unfold slices_Clone_Slot at h
  replace S := S.nf (L' := []) (K' := [(0, v_p_s)]) [] rfl ⟨rfl, trivial⟩
  refine f_seq ?_
  refine f_region ?_
  refine lv S (rn_assign rfl) rfl ?_; clear S; intro a S
  refine l_done ?_
  replace S := S.nf (L' := []) (K' := [(0, v_p_s)]) [] rfl ⟨rfl, trivial⟩
  refine then_n ?_
  refine f_seq ?_
  refine f_seq ?_
  refine f_region ?_
  refine lv S (rn_move (S.tm rfl)) rfl ?_; clear S; intro a S
  refine lv S (rn_nileq Tryd.underlying32 (slc_len hs_p_s) (S.tm rfl) rfl) rfl ?_; clear S; intro a S
  refine l_done ?_
  replace S := S.nf (L' := []) (K' := [(0, v_p_s), (4, .bool (nilB v_p_s))]) [] rfl ⟨rfl, rfl, trivial⟩
  refine then_n ?_
  refine f_cond (S.tm rfl) (fun hb1 => ?_) (fun hb1 => ?_)
  · have hx1 := slc_nilB hs_p_s hb1
    subst hx1
    replace h : some ([] : List GSlot) = some r := h
    refine f_seq ?_
    refine f_region ?_
    refine lv S (rn_assign rfl) rfl ?_; clear S; intro a S
    refine l_done ?_
    replace S := S.nf (L' := []) (K' := [(2, .slice none 0 0)]) [] rfl ⟨rfl, trivial⟩
    refine then_n ?_
    refine wp_ret ?_
    refine then_r ?_
    obtain rfl := Option.some.inj h
    exact f_ret S Tryd.results32 rfl (ownV_nil _ _ _)
  · refine wp_skip ?_
    refine then_n ?_
    refine f_seq ?_
    refine f_region ?_
    refine l_buildSlice0 S Tryd.underlying32 Tryd.sizeOf41 rfl ?_; clear S; intro a w1 b1 hz1 hk1 S
    refine lv S (rn_move (S.tm rfl)) rfl ?_; clear S; intro a S
    replace S := S.litOwn (i := 0) (xs := ([] : List GSlot)) rfl GSlot.enc_ok rfl rfl rfl
    replace S := S.nf (L' := [.own (.slice (some ⟨b1, 0, none⟩) 0 0) 41 4 (([] : List GSlot) : List GSlot).length ((([] : List GSlot) : List GSlot).flatMap GSlot.enc)]) (K' := [(0, v_p_s), (4, .bool (nilB v_p_s)), (5, (.slice (some ⟨b1, 0, none⟩) 0 0)), (6, v_p_s)]) [] rfl ⟨rfl, rfl, rfl, rfl, trivial⟩
    obtain ⟨hc1, h⟩ := chkE h
    refine l_appendS (Y := []) sl_32 GSlot.enc_ok S (S.tm rfl) (i := 0) rfl (S.tm rfl) (hs_p_s.mono (S.le_arg (fun _ h => by cases h))) rfl rfl (by have := room_lt hc1; omega) rfl ?_; clear S; intro v1 a w2 hk2 S
    refine lv S (rn_assign (S.tm rfl)) rfl ?_; clear S; intro a S
    refine l_done ?_
    replace S := S.nf (L' := [.own v1 41 4 ((([] : List GSlot) : List GSlot) ++ p_s).length (((([] : List GSlot) : List GSlot) ++ p_s).flatMap GSlot.enc)]) (K' := [(2, v1)]) [true] rfl ⟨rfl, trivial⟩
    refine then_n ?_
    refine wp_ret ?_
    obtain rfl := Option.some.inj h
    exact f_ret S Tryd.results32 rfl (own_retT S (i := 0) rfl rfl)
set_option maxRecDepth 20000 in
theorem tumbref2_LiveOf_ok (w : World) (v_p_items : Value) (p_items : List GItem) (hs_p_items : Slc (view w []) 5 v_p_items (p_items.map GItem.enc)) (p_from : Int) (v_p_l : Value) (p_l : List GHeld) (hs_p_l : Slc (view w []) 3 v_p_l (p_l.map GHeld.enc)) (r : (List GSlot)) (h : tumbref2_LiveOf p_items p_from p_l = some r) :
    Calls Tryd.prog 14 [v_p_items, .int .i64 p_from, v_p_l].toArray w (Ret w [] fun τ v w' => OwnV τ 41 4 v r.length (r.flatMap GSlot.enc)) := by
  refine f_enter [] [] Tryd.func14 rfl Tryd.ntmps14 rfl (by simp) (by simp [fps]) (by simp [fps]) fun a S => ?_
  unfold tumbref2_LiveOf at h
  replace S := S.nf (L' := []) (K' := [(0, v_p_items), (1, .int .i64 p_from), (2, v_p_l)]) [] rfl ⟨rfl, rfl, rfl, trivial⟩
  refine f_seq ?_
  refine f_region ?_
  refine lv S (rn_assign rfl) rfl ?_; clear S; intro a S
  refine l_done ?_
  replace S := S.nf (L' := []) (K' := [(0, v_p_items), (1, .int .i64 p_from), (2, v_p_l)]) [] rfl ⟨rfl, rfl, rfl, trivial⟩
  refine then_n ?_
  refine f_seq ?_
  refine f_region ?_
  refine lv S (rn_move (S.tm rfl)) rfl ?_; clear S; intro a S
  refine lv S (rn_move (S.tm rfl)) rfl ?_; clear S; intro a S
  obtain ⟨r1, hr1, h⟩ := bindE h
  have hz1 := S.keep.size
  refine l_enter S (fun _ => run_call (vs := [v_p_items, .int .i64 p_from]) ⟨(S.tm rfl), (S.tm rfl), trivial⟩ Tryd.call31) (tumbref2_SlotsOf_ok _ v_p_items p_items (hs_p_items.mono (S.le_arg nil_sub)) p_from _ hr1) rfl ?_; clear S; intro v1 a w1 hv1 hk1 hn1 S
  obtain ⟨φ1, hl1, hm1, S⟩ := S.see' hn1 hz1
  have hs1 := hv1.mono hm1
  refine lv S (rn_assign (S.tm rfl)) rfl ?_; clear S; intro a S
  refine l_done ?_
  replace S := S.nf (L' := []) (K' := [(2, v_p_l), (7, v1)]) [] rfl ⟨rfl, rfl, trivial⟩
  refine then_n ?_
  refine f_seq ?_
  refine f_region ?_
  refine lv S (rn_move (S.tm rfl)) rfl ?_; clear S; intro a S
  obtain ⟨r2, hr2, h⟩ := bindE h
  have hz2 := S.keep.size
  refine l_enter S (fun _ => run_call (vs := [v1]) ⟨(S.tm rfl), trivial⟩ Tryd.call32) (slices_Clone_Slot_ok _ v1 r1 (((ownV_slcT GSlot.enc_ok hs1)).mono (S.le_new nil_sub)) _ hr2) rfl ?_; clear S; intro v2 a w2 hv2 hk2 hn2 S
  replace S := S.take hn2 hz2 hv2
  refine lv S (rn_assign (S.tm rfl)) rfl ?_; clear S; intro a S
  refine l_done ?_
  replace S := S.nf (L' := [.own v2 41 4 r2.length (r2.flatMap GSlot.enc)]) (K' := [(2, v_p_l), (7, v1), (8, v2)]) [true] rfl ⟨rfl, rfl, rfl, trivial⟩
  refine then_n ?_
  refine f_seq ?_
  refine f_seq ?_
  refine f_region ?_
  refine lv S (rn_move (S.tm rfl)) rfl ?_; clear S; intro a S
  refine lv S (rn_lenT sl_32 (S.tm rfl) (slc_len (ownV_slcT GSlot.enc_ok hs1))) rfl ?_; clear S; intro a S
  refine lv S (rn_move rfl) rfl ?_; clear S; intro a S
  refine l_done ?_
  replace S := S.nf (L' := [.own v2 41 4 r2.length (r2.flatMap GSlot.enc)]) (K' := [(2, v_p_l), (7, v1), (8, v2), (19, v1), (20, .int .i64 (r1.length : Int)), (21, .int .i64 0)]) [true] rfl ⟨rfl, rfl, rfl, rfl, rfl, rfl, trivial⟩
  refine then_n ?_
  obtain ⟨j1, hj1, h⟩ := joinE h
  refine f_join (fun a w' => ∃ x1 : List GSlot, ∃ v3 : Value, j1 x1 = some r ∧ Sx w [] φ1 [.own v3 41 4 x1.length (x1.flatMap GSlot.enc)] [(8, v3)] 101 a w') ?_ ?_
  · refine wp_block ?_
    refine f_loop (fun (ys1 : List GSlot) a w' => ∃ i1 : Nat, ∃ x1 : List GSlot, ∃ v3 : Value, (∃ dn, r1 = dn ++ ys1 ∧ dn.length = i1) ∧ tumbref2_LiveOf_l1 p_l r1 j1 ys1 i1 x1 = some r ∧ Sx w [] φ1 [.own v3 41 4 x1.length (x1.flatMap GSlot.enc)] [(2, v_p_l), (7, v1), (8, v3), (19, v1), (20, .int .i64 (r1.length : Int)), (21, .int .i64 (i1 : Int))] 101 a w') List.length r1 ⟨0, r2, v2, ⟨[], rfl, rfl⟩, h, S.nf [true] rfl ⟨rfl, rfl, rfl, rfl, rfl, rfl, trivial⟩⟩ ?_
    clear S h; rintro ys1 a w3 ⟨i1, x1, v3, ⟨dn, hd1, hi1⟩, h, S⟩
    cases ys1 with
    | nil =>
      rw [tumbref2_LiveOf_l1.eq_1] at h
      refine f_seq ?_
      refine f_region ?_
      refine lv S (rn_lss (S.tm rfl) (S.tm rfl)) rfl ?_; clear S; intro a S
      refine l_done ?_
      replace S := S.nf (L' := [.own v3 41 4 x1.length (x1.flatMap GSlot.enc)]) (K' := [(2, v_p_l), (7, v1), (8, v3), (19, v1), (20, .int .i64 (r1.length : Int)), (21, .int .i64 (i1 : Int)), (22, .bool (decide ((i1 : Int) < (r1.length : Int))))]) [true] rfl ⟨rfl, rfl, rfl, rfl, rfl, rfl, rfl, trivial⟩
      refine then_n ?_
      refine f_seq ?_
      refine wp_cond_false ((S.tm rfl).trans (congrArg Value.bool (rng_nil hd1 hi1))) ?_
      refine wp_exit ?_
      refine then_x ?_
      refine then_x ?_
      refine x_same ?_
      refine then_n ?_
      exact ⟨x1, v3, h, S.nf [true] rfl ⟨rfl, trivial⟩⟩
    | cons y1 ys1 =>
      rw [tumbref2_LiveOf_l1.eq_2] at h
      refine f_seq ?_
      refine f_region ?_
      refine lv S (rn_lss (S.tm rfl) (S.tm rfl)) rfl ?_; clear S; intro a S
      refine l_done ?_
      replace S := S.nf (L' := [.own v3 41 4 x1.length (x1.flatMap GSlot.enc)]) (K' := [(2, v_p_l), (7, v1), (8, v3), (19, v1), (20, .int .i64 (r1.length : Int)), (21, .int .i64 (i1 : Int)), (22, .bool (decide ((i1 : Int) < (r1.length : Int))))]) [true] rfl ⟨rfl, rfl, rfl, rfl, rfl, rfl, rfl, trivial⟩
      refine then_n ?_
      refine f_seq ?_
      refine wp_cond_true ((S.tm rfl).trans (congrArg Value.bool (rng_cons hd1 hi1))) ?_
      refine wp_skip ?_
      refine then_n ?_
      refine f_seq ?_
      refine wp_block ?_
      refine f_seq ?_
      refine f_region ?_
      refine lv S (rn_move (S.tm rfl)) rfl ?_; clear S; intro a S
      obtain ⟨b1, o1, hm2, hr3⟩ := rn_indexT (a := a) (x := .tmp 19) (y := .tmp 21) (ty := 0) sl_32 (ownV_slcT GSlot.enc_ok hs1) (get_mid hd1 hi1) rfl (S.tm rfl) (S.tm rfl)
      refine lv S (hr3 _) rfl ?_; clear S; intro a S
      clear hr3
      refine lv S (rn_ldA Tryd.isAgg41 Tryd.sizeOf41 (off := o1) (o := 0) (part := [.string y1.Item, .int .i64 y1.Heat, .int .i64 y1.Time.From, .int .i64 y1.Time.To]) rfl rfl (S.tm rfl) (hm2.at S.emb)) rfl ?_; clear S; intro a S
      refine l_alloc S Tryd.zeroValue41 (cs := [.string k_empty, .int .i64 0, .int .i64 0, .int .i64 0]) rfl rfl ?_; clear S; intro a w5 b2 hz3 hk3 S
      refine lv S (rn_assign (S.tm rfl)) rfl ?_; clear S; intro a S
      refine l_store S (S.tm rfl) (S.tm rfl) (i := 0) (off := 0) rfl Tryd.sizeOf41 (vs := [.string y1.Item, .int .i64 y1.Heat, .int .i64 y1.Time.From, .int .i64 y1.Time.To]) rfl rfl rfl rfl ?_; clear S; intro w6 hk4 S
      refine l_done ?_
      replace S := S.nf (L' := [.blk b2 [.string y1.Item, .int .i64 y1.Heat, .int .i64 y1.Time.From, .int .i64 y1.Time.To] 41, .own v3 41 4 x1.length (x1.flatMap GSlot.enc)]) (K' := [(2, v_p_l), (7, v1), (8, v3), (9, .int .i64 (i1 : Int)), (10, .pointer (some ⟨b2, 0, none⟩)), (19, v1), (20, .int .i64 (r1.length : Int)), (21, .int .i64 (i1 : Int))]) [true, true] rfl ⟨rfl, rfl, rfl, rfl, rfl, rfl, rfl, rfl, trivial⟩
      refine then_n ?_
      refine f_seq ?_
      refine f_region ?_
      refine lv S (rn_fld fa_41_2 (S.tm rfl)) rfl ?_; clear S; intro a S
      refine lv S (rn_fld fa_39_0 (S.tm rfl)) rfl ?_; clear S; intro a S
      refine lv S (rn_load Tryd.isAgg3 (S.tm rfl) (S.cell (i := 0) rfl rfl)) rfl ?_; clear S; intro a S
      refine lv S (rn_assign (S.tm rfl)) rfl ?_; clear S; intro a S
      refine l_done ?_
      replace S := S.nf (L' := [.blk b2 [.string y1.Item, .int .i64 y1.Heat, .int .i64 y1.Time.From, .int .i64 y1.Time.To] 41, .own v3 41 4 x1.length (x1.flatMap GSlot.enc)]) (K' := [(2, v_p_l), (7, v1), (8, v3), (9, .int .i64 (i1 : Int)), (10, .pointer (some ⟨b2, 0, none⟩)), (11, .int .i64 y1.Time.From), (19, v1), (20, .int .i64 (r1.length : Int)), (21, .int .i64 (i1 : Int))]) [true, true] rfl ⟨rfl, rfl, rfl, rfl, rfl, rfl, rfl, rfl, rfl, trivial⟩
      refine then_n ?_
      refine f_seq ?_
      refine f_seq ?_
      refine f_region ?_
      refine lv S (rn_move (S.tm rfl)) rfl ?_; clear S; intro a S
      refine lv S (rn_gtr (S.tm rfl) rfl) rfl ?_; clear S; intro a S
      refine l_done ?_
      replace S := S.nf (L' := [.blk b2 [.string y1.Item, .int .i64 y1.Heat, .int .i64 y1.Time.From, .int .i64 y1.Time.To] 41, .own v3 41 4 x1.length (x1.flatMap GSlot.enc)]) (K' := [(2, v_p_l), (7, v1), (8, v3), (9, .int .i64 (i1 : Int)), (10, .pointer (some ⟨b2, 0, none⟩)), (11, .int .i64 y1.Time.From), (19, v1), (20, .int .i64 (r1.length : Int)), (21, .int .i64 (i1 : Int)), (30, .bool (decide (0 < (i1 : Int))))]) [true, true] rfl ⟨rfl, rfl, rfl, rfl, rfl, rfl, rfl, rfl, rfl, rfl, trivial⟩
      refine then_n ?_
      obtain ⟨j2, hj2, h⟩ := joinE h
      refine f_join (fun a w' => ∃ x2 : Int, j2 x2 = some r ∧ Sx w [] φ1 [.blk b2 [.string y1.Item, .int .i64 y1.Heat, .int .i64 y1.Time.From, .int .i64 y1.Time.To] 41, .own v3 41 4 x1.length (x1.flatMap GSlot.enc)] [(2, v_p_l), (7, v1), (8, v3), (9, .int .i64 (i1 : Int)), (10, .pointer (some ⟨b2, 0, none⟩)), (11, .int .i64 x2), (19, v1), (20, .int .i64 (r1.length : Int)), (21, .int .i64 (i1 : Int))] 101 a w') ?_ ?_
      · refine f_cond (S.tm rfl) (fun hb1 => ?_) (fun hb1 => ?_)
        · replace h := iteT h hb1
          refine d_region [] ([]) Tryd.mixed S rfl (by kernel_rfl) ?_; clear S; intro w8 hk5 hsel S
          refine d_rest [0, 1, 2, 3, 4, 5, 6, 7, 8, 9, 10, 11, 12, 13, 14, 15, 16, 17, 18, 19, 20, 21] hsel (by kernel_rfl) rfl ?_
          clear hsel
          refine s_lv S rfl (rn_move (S.tm rfl)) rfl ?_; clear S; intro a S
          refine s_lv S rfl (rn_move (S.tm rfl)) rfl ?_; clear S; intro a S
          refine s_lv S rfl (rn_move (S.tm rfl)) rfl ?_; clear S; intro a S
          refine s_lv S rfl (rn_sub (S.tm rfl) rfl) rfl ?_; clear S; intro a S
          obtain ⟨hc1, h⟩ := chkE h
          obtain ⟨b3, hg1, hr4⟩ := rn_indexS (a := a) (x := .tmp 32) (y := .tmp 34) (ty := 0) sl_32 GSlot.enc_ok S (i := 1) rfl (inB_get hc1).1 (inB_get hc1).2 (S.tm rfl) (S.tm rfl)
          refine s_lv S rfl (hr4 _) rfl ?_; clear S; intro a S
          clear hr4
          refine s_lv S rfl (rn_fld fa_41_2 (S.tm rfl)) rfl ?_; clear S; intro a S
          refine s_lv S rfl (rn_fld fa_39_1 (S.tm rfl)) rfl ?_; clear S; intro a S
          refine s_lv S rfl (rn_ld Tryd.isAgg3 (off := ((W ((i1 : Int) - 1)).toNat) * 4) (o := 3) (S.tm rfl) (own_cells GSlot.enc_ok S (i := 1) rfl hg1 (inB_get hc1).1) rfl) rfl ?_; clear S; intro a S
          refine s_lv S rfl (rn_fld fa_41_2 (S.tm rfl)) rfl ?_; clear S; intro a S
          refine s_lv S rfl (rn_fld fa_39_0 (S.tm rfl)) rfl ?_; clear S; intro a S
          refine s_lv S rfl (rn_load Tryd.isAgg3 (S.tm rfl) (S.cell (i := 0) rfl rfl)) rfl ?_; clear S; intro a S
          refine s_lv S rfl (rn_add (S.tm rfl) (S.tm rfl)) rfl ?_; clear S; intro a S
          refine s_lv S rfl (rn_move (S.tm rfl)) rfl ?_; clear S; intro a S
          refine s_lv S rfl (rn_move (S.tm rfl)) rfl ?_; clear S; intro a S
          refine s_lv S rfl (rn_sub (S.tm rfl) rfl) rfl ?_; clear S; intro a S
          obtain ⟨hc2, h⟩ := chkE h
          obtain ⟨b4, o3, hm4, hr5⟩ := rn_indexT (a := a) (x := .tmp 43) (y := .tmp 45) (ty := 0) sl_32 (ownV_slcT GSlot.enc_ok hs1) (inB_get hc2).1 (inB_get hc2).2 (S.tm rfl) (S.tm rfl)
          refine s_lv S rfl (hr5 _) rfl ?_; clear S; intro a S
          clear hr5
          refine s_lv S rfl (rn_fld fa_41_2 (S.tm rfl)) rfl ?_; clear S; intro a S
          refine s_lv S rfl (rn_fld fa_39_1 (S.tm rfl)) rfl ?_; clear S; intro a S
          refine s_lv S rfl (rn_ld Tryd.isAgg3 (off := o3) (o := 3) (S.tm rfl) (hm4.at S.emb) rfl) rfl ?_; clear S; intro a S
          refine s_lv S rfl (rn_sub (S.tm rfl) (S.tm rfl)) rfl ?_; clear S; intro a S
          refine s_lv S rfl (rn_max2 (S.tm rfl) (S.tm rfl)) rfl ?_; clear S; intro a S
          refine s_lv S rfl (rn_assign (S.tm rfl)) rfl ?_; clear S; intro a S
          refine s_done ?_
          replace S := S.nf (L' := [.blk b2 [.string y1.Item, .int .i64 y1.Heat, .int .i64 y1.Time.From, .int .i64 y1.Time.To] 41, .own v3 41 4 x1.length (x1.flatMap GSlot.enc)]) (K' := [(2, v_p_l), (7, v1), (8, v3), (9, .int .i64 (i1 : Int)), (10, .pointer (some ⟨b2, 0, none⟩)), (11, .int .i64 (imax y1.Time.From (W ((W ((((nth x1 (W ((i1 : Int) - 1))).Time).To) + y1.Time.From)) - (((nth r1 (W ((i1 : Int) - 1))).Time).To))))), (19, v1), (20, .int .i64 (r1.length : Int)), (21, .int .i64 (i1 : Int))]) [true, true] rfl ⟨rfl, rfl, rfl, rfl, rfl, rfl, rfl, rfl, rfl, trivial⟩
          refine then_n ?_
          exact ⟨imax y1.Time.From (W ((W ((((nth x1 (W ((i1 : Int) - 1))).Time).To) + y1.Time.From)) - (((nth r1 (W ((i1 : Int) - 1))).Time).To))), h, S.nf [true, true] rfl ⟨rfl, rfl, rfl, rfl, rfl, rfl, rfl, rfl, rfl, trivial⟩⟩
        · replace h := iteF h hb1
          refine wp_skip ?_
          refine then_n ?_
          exact ⟨y1.Time.From, h, S.nf [true, true] rfl ⟨rfl, rfl, rfl, rfl, rfl, rfl, rfl, rfl, rfl, trivial⟩⟩
      clear S h; rintro a w7 ⟨x2, h, S⟩; rw [hj2] at h; clear hj2 j2
      refine then_n ?_
      refine f_seq ?_
      refine f_seq ?_
      refine f_region ?_
      refine lv S (rn_move (S.tm rfl)) rfl ?_; clear S; intro a S
      refine lv S (rn_lenT sl_30 (S.tm rfl) (slc_len hs_p_l)) rfl ?_; clear S; intro a S
      refine lv S (rn_move rfl) rfl ?_; clear S; intro a S
      refine l_done ?_
      replace S := S.nf (L' := [.blk b2 [.string y1.Item, .int .i64 y1.Heat, .int .i64 y1.Time.From, .int .i64 y1.Time.To] 41, .own v3 41 4 x1.length (x1.flatMap GSlot.enc)]) (K' := [(2, v_p_l), (7, v1), (8, v3), (9, .int .i64 (i1 : Int)), (10, .pointer (some ⟨b2, 0, none⟩)), (11, .int .i64 x2), (19, v1), (20, .int .i64 (r1.length : Int)), (21, .int .i64 (i1 : Int)), (52, v_p_l), (53, .int .i64 (p_l.length : Int)), (54, .int .i64 0)]) [true, true] rfl ⟨rfl, rfl, rfl, rfl, rfl, rfl, rfl, rfl, rfl, rfl, rfl, rfl, trivial⟩
      refine then_n ?_
      obtain ⟨j3, hj3, h⟩ := joinE h
      refine f_join (fun a w' => ∃ x3 : Int, j3 x3 = some r ∧ Sx w [] φ1 [.blk b2 [.string y1.Item, .int .i64 y1.Heat, .int .i64 y1.Time.From, .int .i64 y1.Time.To] 41, .own v3 41 4 x1.length (x1.flatMap GSlot.enc)] [(2, v_p_l), (7, v1), (8, v3), (9, .int .i64 (i1 : Int)), (10, .pointer (some ⟨b2, 0, none⟩)), (11, .int .i64 x3), (19, v1), (20, .int .i64 (r1.length : Int)), (21, .int .i64 (i1 : Int))] 101 a w') ?_ ?_
      · refine wp_block ?_
        refine f_loop (fun (ys2 : List GHeld) a w' => ∃ i2 : Nat, ∃ x3 : Int, (∃ dn, p_l = dn ++ ys2 ∧ dn.length = i2) ∧ tumbref2_LiveOf_l2 y1 i1 x1 j3 ys2 i2 x3 = some r ∧ Sx w [] φ1 [.blk b2 [.string y1.Item, .int .i64 y1.Heat, .int .i64 y1.Time.From, .int .i64 y1.Time.To] 41, .own v3 41 4 x1.length (x1.flatMap GSlot.enc)] [(2, v_p_l), (7, v1), (8, v3), (9, .int .i64 (i1 : Int)), (10, .pointer (some ⟨b2, 0, none⟩)), (11, .int .i64 x3), (19, v1), (20, .int .i64 (r1.length : Int)), (21, .int .i64 (i1 : Int)), (52, v_p_l), (53, .int .i64 (p_l.length : Int)), (54, .int .i64 (i2 : Int))] 101 a w') List.length p_l ⟨0, x2, ⟨[], rfl, rfl⟩, h, S.nf [true, true] rfl ⟨rfl, rfl, rfl, rfl, rfl, rfl, rfl, rfl, rfl, rfl, rfl, rfl, trivial⟩⟩ ?_
        clear S h; rintro ys2 a w9 ⟨i2, x3, ⟨dn, hd2, hi2⟩, h, S⟩
        cases ys2 with
        | nil =>
          rw [tumbref2_LiveOf_l2.eq_1] at h
          refine f_seq ?_
          refine f_region ?_
          refine lv S (rn_lss (S.tm rfl) (S.tm rfl)) rfl ?_; clear S; intro a S
          refine l_done ?_
          replace S := S.nf (L' := [.blk b2 [.string y1.Item, .int .i64 y1.Heat, .int .i64 y1.Time.From, .int .i64 y1.Time.To] 41, .own v3 41 4 x1.length (x1.flatMap GSlot.enc)]) (K' := [(2, v_p_l), (7, v1), (8, v3), (9, .int .i64 (i1 : Int)), (10, .pointer (some ⟨b2, 0, none⟩)), (11, .int .i64 x3), (19, v1), (20, .int .i64 (r1.length : Int)), (21, .int .i64 (i1 : Int)), (52, v_p_l), (53, .int .i64 (p_l.length : Int)), (54, .int .i64 (i2 : Int)), (55, .bool (decide ((i2 : Int) < (p_l.length : Int))))]) [true, true] rfl ⟨rfl, rfl, rfl, rfl, rfl, rfl, rfl, rfl, rfl, rfl, rfl, rfl, rfl, trivial⟩
          refine then_n ?_
          refine f_seq ?_
          refine wp_cond_false ((S.tm rfl).trans (congrArg Value.bool (rng_nil hd2 hi2))) ?_
          refine wp_exit ?_
          refine then_x ?_
          refine then_x ?_
          refine x_same ?_
          refine then_n ?_
          exact ⟨x3, h, S.nf [true, true] rfl ⟨rfl, rfl, rfl, rfl, rfl, rfl, rfl, rfl, rfl, trivial⟩⟩
        | cons y2 ys2 =>
          rw [tumbref2_LiveOf_l2.eq_2] at h
          refine f_seq ?_
          refine f_region ?_
          refine lv S (rn_lss (S.tm rfl) (S.tm rfl)) rfl ?_; clear S; intro a S
          refine l_done ?_
          replace S := S.nf (L' := [.blk b2 [.string y1.Item, .int .i64 y1.Heat, .int .i64 y1.Time.From, .int .i64 y1.Time.To] 41, .own v3 41 4 x1.length (x1.flatMap GSlot.enc)]) (K' := [(2, v_p_l), (7, v1), (8, v3), (9, .int .i64 (i1 : Int)), (10, .pointer (some ⟨b2, 0, none⟩)), (11, .int .i64 x3), (19, v1), (20, .int .i64 (r1.length : Int)), (21, .int .i64 (i1 : Int)), (52, v_p_l), (53, .int .i64 (p_l.length : Int)), (54, .int .i64 (i2 : Int)), (55, .bool (decide ((i2 : Int) < (p_l.length : Int))))]) [true, true] rfl ⟨rfl, rfl, rfl, rfl, rfl, rfl, rfl, rfl, rfl, rfl, rfl, rfl, rfl, trivial⟩
          refine then_n ?_
          refine f_seq ?_
          refine wp_cond_true ((S.tm rfl).trans (congrArg Value.bool (rng_cons hd2 hi2))) ?_
          refine wp_skip ?_
          refine then_n ?_
          refine f_seq ?_
          obtain ⟨j4, hj4, h⟩ := joinE h
          refine f_join (fun a w' => ∃ x4 : Int, j4 x4 = some r ∧ Sx w [] φ1 [.blk b2 [.string y1.Item, .int .i64 y1.Heat, .int .i64 y1.Time.From, .int .i64 y1.Time.To] 41, .own v3 41 4 x1.length (x1.flatMap GSlot.enc)] [(2, v_p_l), (7, v1), (8, v3), (9, .int .i64 (i1 : Int)), (10, .pointer (some ⟨b2, 0, none⟩)), (11, .int .i64 x4), (19, v1), (20, .int .i64 (r1.length : Int)), (21, .int .i64 (i1 : Int)), (52, v_p_l), (53, .int .i64 (p_l.length : Int)), (54, .int .i64 (i2 : Int))] 101 a w') ?_ ?_
          · refine wp_block ?_
            refine f_seq ?_
            refine f_region ?_
            obtain ⟨b5, o4, hm5, hr6⟩ := rn_indexT (a := a) (x := .tmp 52) (y := .tmp 54) (ty := 0) sl_30 hs_p_l (get_mid hd2 hi2) rfl (S.tm rfl) (S.tm rfl)
            refine lv S (hr6 _) rfl ?_; clear S; intro a S
            clear hr6
            refine lv S (rn_ldA Tryd.isAgg63 Tryd.sizeOf63 (off := o4) (o := 0) (part := [.string y2.Item, .int .i64 y2.Heat, .int .i64 y2.At]) rfl rfl (S.tm rfl) (hm5.at S.emb0)) rfl ?_; clear S; intro a S
            refine l_alloc S Tryd.zeroValue63 (cs := [.string k_empty, .int .i64 0, .int .i64 0]) rfl rfl ?_; clear S; intro a w12 b6 hz4 hk6 S
            refine l_store S (S.tm rfl) (S.tm rfl) (i := 0) (off := 0) rfl Tryd.sizeOf63 (vs := [.string y2.Item, .int .i64 y2.Heat, .int .i64 y2.At]) rfl rfl rfl rfl ?_; clear S; intro w13 hk7 S
            refine l_done ?_
            replace S := S.nf (L' := [.blk b6 [.string y2.Item, .int .i64 y2.Heat, .int .i64 y2.At] 63, .blk b2 [.string y1.Item, .int .i64 y1.Heat, .int .i64 y1.Time.From, .int .i64 y1.Time.To] 41, .own v3 41 4 x1.length (x1.flatMap GSlot.enc)]) (K' := [(2, v_p_l), (7, v1), (8, v3), (9, .int .i64 (i1 : Int)), (10, .pointer (some ⟨b2, 0, none⟩)), (11, .int .i64 x3), (13, .pointer (some ⟨b6, 0, none⟩)), (19, v1), (20, .int .i64 (r1.length : Int)), (21, .int .i64 (i1 : Int)), (52, v_p_l), (53, .int .i64 (p_l.length : Int)), (54, .int .i64 (i2 : Int))]) [true, true, true] rfl ⟨rfl, rfl, rfl, rfl, rfl, rfl, rfl, rfl, rfl, rfl, rfl, rfl, rfl, trivial⟩
            refine then_n ?_
            refine f_seq ?_
            refine f_region ?_
            refine lv S (rn_fld fa_63_0 (S.tm rfl)) rfl ?_; clear S; intro a S
            refine lv S (rn_load Tryd.isAgg9 (S.tm rfl) (S.cell (i := 0) rfl rfl)) rfl ?_; clear S; intro a S
            refine lv S (rn_fld fa_41_0 (S.tm rfl)) rfl ?_; clear S; intro a S
            refine lv S (rn_load Tryd.isAgg9 (S.tm rfl) (S.cell (i := 1) rfl rfl)) rfl ?_; clear S; intro a S
            refine lv S (rn_seql (S.tm rfl) (S.tm rfl)) rfl ?_; clear S; intro a S
            refine lv S (rn_move (S.tm rfl)) rfl ?_; clear S; intro a S
            refine f_cutm 6 (fun a w' => Keep [] w13 w' ∧ Sx w [] φ1 [.blk b6 [.string y2.Item, .int .i64 y2.Heat, .int .i64 y2.At] 63, .blk b2 [.string y1.Item, .int .i64 y1.Heat, .int .i64 y1.Time.From, .int .i64 y1.Time.To] 41, .own v3 41 4 x1.length (x1.flatMap GSlot.enc)] [(2, v_p_l), (7, v1), (8, v3), (9, .int .i64 (i1 : Int)), (10, .pointer (some ⟨b2, 0, none⟩)), (11, .int .i64 x3), (13, .pointer (some ⟨b6, 0, none⟩)), (19, v1), (20, .int .i64 (r1.length : Int)), (21, .int .i64 (i1 : Int)), (52, v_p_l), (53, .int .i64 (p_l.length : Int)), (54, .int .i64 (i2 : Int)), (69, .bool ((decide (y2.Item = y1.Item)) && (decide (y2.Heat = y1.Heat))))] 101 a w') ?_ ?_
            · rcases Bool.eq_false_or_eq_true (decide (y2.Item = y1.Item)) with hb2 | hb2
              · refine l_want S rfl rfl rfl hb2 ?_
                refine lv S (rn_fld fa_63_1 (S.tm rfl)) rfl ?_; clear S; intro a S
                refine l_want S rfl rfl rfl hb2 ?_
                refine lv S (rn_load Tryd.isAgg3 (S.tm rfl) (S.cell (i := 0) rfl rfl)) rfl ?_; clear S; intro a S
                refine l_want S rfl rfl rfl hb2 ?_
                refine lv S (rn_fld fa_41_1 (S.tm rfl)) rfl ?_; clear S; intro a S
                refine l_want S rfl rfl rfl hb2 ?_
                refine lv S (rn_load Tryd.isAgg3 (S.tm rfl) (S.cell (i := 1) rfl rfl)) rfl ?_; clear S; intro a S
                refine l_want S rfl rfl rfl hb2 ?_
                refine lv S (rn_eql (S.tm rfl) (S.tm rfl)) rfl ?_; clear S; intro a S
                refine lv S (rn_and_t hb2 (S.tm rfl) (S.tm rfl)) rfl ?_; clear S; intro a S
                refine l_done ?_
                refine then_n ?_
                exact ⟨Keep.refl _ _, S.nf [true, true, true] rfl ⟨rfl, rfl, rfl, rfl, rfl, rfl, rfl, rfl, rfl, rfl, rfl, rfl, rfl, rfl, trivial⟩⟩
              · refine l_skip S rfl rfl rfl (neq_f hb2) rfl ?_ rfl; clear S; intro a S
                refine l_skip S rfl rfl rfl (neq_f hb2) rfl ?_ rfl; clear S; intro a S
                refine l_skip S rfl rfl rfl (neq_f hb2) rfl ?_ rfl; clear S; intro a S
                refine l_skip S rfl rfl rfl (neq_f hb2) rfl ?_ rfl; clear S; intro a S
                refine l_skip S rfl rfl rfl (neq_f hb2) rfl ?_ rfl; clear S; intro a S
                refine lv S (rn_and_f (decide (y2.Heat = y1.Heat)) hb2 (S.tm rfl) rfl) rfl ?_; clear S; intro a S
                refine l_done ?_
                refine then_n ?_
                exact ⟨Keep.refl _ _, S.nf [true, true, true] rfl ⟨rfl, rfl, rfl, rfl, rfl, rfl, rfl, rfl, rfl, rfl, rfl, rfl, rfl, rfl, trivial⟩⟩
            clear S; rintro a w14 ⟨hk8, S⟩
            refine l_done ?_
            replace S := S.nf (L' := [.blk b6 [.string y2.Item, .int .i64 y2.Heat, .int .i64 y2.At] 63, .blk b2 [.string y1.Item, .int .i64 y1.Heat, .int .i64 y1.Time.From, .int .i64 y1.Time.To] 41, .own v3 41 4 x1.length (x1.flatMap GSlot.enc)]) (K' := [(2, v_p_l), (7, v1), (8, v3), (9, .int .i64 (i1 : Int)), (10, .pointer (some ⟨b2, 0, none⟩)), (11, .int .i64 x3), (13, .pointer (some ⟨b6, 0, none⟩)), (19, v1), (20, .int .i64 (r1.length : Int)), (21, .int .i64 (i1 : Int)), (52, v_p_l), (53, .int .i64 (p_l.length : Int)), (54, .int .i64 (i2 : Int)), (69, .bool ((decide (y2.Item = y1.Item)) && (decide (y2.Heat = y1.Heat))))]) [true, true, true] rfl ⟨rfl, rfl, rfl, rfl, rfl, rfl, rfl, rfl, rfl, rfl, rfl, rfl, rfl, rfl, trivial⟩
            refine then_n ?_
            obtain ⟨j5, hj5, h⟩ := joinE h
            refine f_join (fun a w' => ∃ x5 : Int, j5 x5 = some r ∧ Sx w [] φ1 [.blk b2 [.string y1.Item, .int .i64 y1.Heat, .int .i64 y1.Time.From, .int .i64 y1.Time.To] 41, .own v3 41 4 x1.length (x1.flatMap GSlot.enc)] [(2, v_p_l), (7, v1), (8, v3), (9, .int .i64 (i1 : Int)), (10, .pointer (some ⟨b2, 0, none⟩)), (11, .int .i64 x5), (19, v1), (20, .int .i64 (r1.length : Int)), (21, .int .i64 (i1 : Int)), (52, v_p_l), (53, .int .i64 (p_l.length : Int)), (54, .int .i64 (i2 : Int))] 101 a w') ?_ ?_
            · refine f_cond (S.tm rfl) (fun hb3 => ?_) (fun hb3 => ?_)
              · replace h := iteT h hb3
                refine f_seq ?_
                refine f_region ?_
                refine lv S (rn_fld fa_63_2 (S.tm rfl)) rfl ?_; clear S; intro a S
                refine lv S (rn_load Tryd.isAgg3 (S.tm rfl) (S.cell (i := 0) rfl rfl)) rfl ?_; clear S; intro a S
                refine lv S (rn_assign (S.tm rfl)) rfl ?_; clear S; intro a S
                refine l_done ?_
                replace S := S.nf (L' := [.blk b2 [.string y1.Item, .int .i64 y1.Heat, .int .i64 y1.Time.From, .int .i64 y1.Time.To] 41, .own v3 41 4 x1.length (x1.flatMap GSlot.enc)]) (K' := [(2, v_p_l), (7, v1), (8, v3), (9, .int .i64 (i1 : Int)), (10, .pointer (some ⟨b2, 0, none⟩)), (11, .int .i64 y2.At), (19, v1), (20, .int .i64 (r1.length : Int)), (21, .int .i64 (i1 : Int)), (52, v_p_l), (53, .int .i64 (p_l.length : Int)), (54, .int .i64 (i2 : Int))]) [false, true, true] rfl ⟨rfl, rfl, rfl, rfl, rfl, rfl, rfl, rfl, rfl, rfl, rfl, rfl, trivial⟩
                refine then_n ?_
                refine f_seq ?_
                refine f_region ?_
                refine lv S (rn_move (S.tm rfl)) rfl ?_; clear S; intro a S
                refine lv S (rn_gtr (S.tm rfl) rfl) rfl ?_; clear S; intro a S
                refine l_done ?_
                replace S := S.nf (L' := [.blk b2 [.string y1.Item, .int .i64 y1.Heat, .int .i64 y1.Time.From, .int .i64 y1.Time.To] 41, .own v3 41 4 x1.length (x1.flatMap GSlot.enc)]) (K' := [(2, v_p_l), (7, v1), (8, v3), (9, .int .i64 (i1 : Int)), (10, .pointer (some ⟨b2, 0, none⟩)), (11, .int .i64 y2.At), (19, v1), (20, .int .i64 (r1.length : Int)), (21, .int .i64 (i1 : Int)), (52, v_p_l), (53, .int .i64 (p_l.length : Int)), (54, .int .i64 (i2 : Int)), (73, .bool (decide (0 < (i1 : Int))))]) [true, true] rfl ⟨rfl, rfl, rfl, rfl, rfl, rfl, rfl, rfl, rfl, rfl, rfl, rfl, rfl, trivial⟩
                refine then_n ?_
                obtain ⟨j6, hj6, h⟩ := joinE h
                refine f_join (fun a w' => ∃ x6 : Int, j6 x6 = some r ∧ Sx w [] φ1 [.blk b2 [.string y1.Item, .int .i64 y1.Heat, .int .i64 y1.Time.From, .int .i64 y1.Time.To] 41, .own v3 41 4 x1.length (x1.flatMap GSlot.enc)] [(2, v_p_l), (7, v1), (8, v3), (9, .int .i64 (i1 : Int)), (10, .pointer (some ⟨b2, 0, none⟩)), (11, .int .i64 x6), (19, v1), (20, .int .i64 (r1.length : Int)), (21, .int .i64 (i1 : Int)), (52, v_p_l), (53, .int .i64 (p_l.length : Int)), (54, .int .i64 (i2 : Int))] 101 a w') ?_ ?_
                · refine f_cond (S.tm rfl) (fun hb4 => ?_) (fun hb4 => ?_)
                  · replace h := iteT h hb4
                    refine f_region ?_
                    refine lv S (rn_move (S.tm rfl)) rfl ?_; clear S; intro a S
                    refine lv S (rn_move (S.tm rfl)) rfl ?_; clear S; intro a S
                    refine lv S (rn_move (S.tm rfl)) rfl ?_; clear S; intro a S
                    refine lv S (rn_sub (S.tm rfl) rfl) rfl ?_; clear S; intro a S
                    obtain ⟨hc3, h⟩ := chkE h
                    obtain ⟨b7, hg2, hr7⟩ := rn_indexS (a := a) (x := .tmp 75) (y := .tmp 77) (ty := 0) sl_32 GSlot.enc_ok S (i := 1) rfl (inB_get hc3).1 (inB_get hc3).2 (S.tm rfl) (S.tm rfl)
                    refine lv S (hr7 _) rfl ?_; clear S; intro a S
                    clear hr7
                    refine lv S (rn_fld fa_41_2 (S.tm rfl)) rfl ?_; clear S; intro a S
                    refine lv S (rn_fld fa_39_1 (S.tm rfl)) rfl ?_; clear S; intro a S
                    refine lv S (rn_ld Tryd.isAgg3 (off := ((W ((i1 : Int) - 1)).toNat) * 4) (o := 3) (S.tm rfl) (own_cells GSlot.enc_ok S (i := 1) rfl hg2 (inB_get hc3).1) rfl) rfl ?_; clear S; intro a S
                    refine lv S (rn_max2 (S.tm rfl) (S.tm rfl)) rfl ?_; clear S; intro a S
                    refine lv S (rn_assign (S.tm rfl)) rfl ?_; clear S; intro a S
                    refine l_done ?_
                    replace S := S.nf (L' := [.blk b2 [.string y1.Item, .int .i64 y1.Heat, .int .i64 y1.Time.From, .int .i64 y1.Time.To] 41, .own v3 41 4 x1.length (x1.flatMap GSlot.enc)]) (K' := [(2, v_p_l), (7, v1), (8, v3), (9, .int .i64 (i1 : Int)), (10, .pointer (some ⟨b2, 0, none⟩)), (11, .int .i64 (imax y2.At (((nth x1 (W ((i1 : Int) - 1))).Time).To))), (19, v1), (20, .int .i64 (r1.length : Int)), (21, .int .i64 (i1 : Int)), (52, v_p_l), (53, .int .i64 (p_l.length : Int)), (54, .int .i64 (i2 : Int))]) [true, true] rfl ⟨rfl, rfl, rfl, rfl, rfl, rfl, rfl, rfl, rfl, rfl, rfl, rfl, trivial⟩
                    refine then_n ?_
                    exact ⟨imax y2.At (((nth x1 (W ((i1 : Int) - 1))).Time).To), h, S.nf [true, true] rfl ⟨rfl, rfl, rfl, rfl, rfl, rfl, rfl, rfl, rfl, rfl, rfl, rfl, trivial⟩⟩
                  · replace h := iteF h hb4
                    refine wp_skip ?_
                    refine then_n ?_
                    exact ⟨y2.At, h, S.nf [true, true] rfl ⟨rfl, rfl, rfl, rfl, rfl, rfl, rfl, rfl, rfl, rfl, rfl, rfl, trivial⟩⟩
                clear S h; rintro a w16 ⟨x6, h, S⟩; rw [hj6] at h; clear hj6 j6
                refine then_n ?_
                exact ⟨x6, h, S.nf [true, true] rfl ⟨rfl, rfl, rfl, rfl, rfl, rfl, rfl, rfl, rfl, rfl, rfl, rfl, trivial⟩⟩
              · replace h := iteF h hb3
                refine wp_skip ?_
                refine then_n ?_
                exact ⟨x3, h, S.nf [false, true, true] rfl ⟨rfl, rfl, rfl, rfl, rfl, rfl, rfl, rfl, rfl, rfl, rfl, rfl, trivial⟩⟩
            clear S h; rintro a w15 ⟨x5, h, S⟩; rw [hj5] at h; clear hj5 j5
            refine blk_n ?_
            refine then_n ?_
            exact ⟨x5, h, S.nf [true, true] rfl ⟨rfl, rfl, rfl, rfl, rfl, rfl, rfl, rfl, rfl, rfl, rfl, rfl, trivial⟩⟩
          clear S h; rintro a w11 ⟨x4, h, S⟩; rw [hj4] at h; clear hj4 j4
          refine then_n ?_
          refine f_region ?_
          refine lv S (rn_add (S.tm rfl) rfl) rfl ?_; clear S; intro a S
          refine lv S (rn_move (S.tm rfl)) rfl ?_; clear S; intro a S
          refine l_done ?_
          replace S := S.nf (L' := [.blk b2 [.string y1.Item, .int .i64 y1.Heat, .int .i64 y1.Time.From, .int .i64 y1.Time.To] 41, .own v3 41 4 x1.length (x1.flatMap GSlot.enc)]) (K' := [(2, v_p_l), (7, v1), (8, v3), (9, .int .i64 (i1 : Int)), (10, .pointer (some ⟨b2, 0, none⟩)), (11, .int .i64 x4), (19, v1), (20, .int .i64 (r1.length : Int)), (21, .int .i64 (i1 : Int)), (52, v_p_l), (53, .int .i64 (p_l.length : Int)), (54, .int .i64 (W ((i2 : Int) + 1)))]) [true, true] rfl ⟨rfl, rfl, rfl, rfl, rfl, rfl, rfl, rfl, rfl, rfl, rfl, rfl, trivial⟩
          refine then_n ?_
          exact ⟨ys2, ⟨i2 + 1, x4, ⟨_, (hd2).trans (List.append_cons _ _ _), by simp [hi2]⟩, h, S.nf [true, true] rfl ⟨rfl, rfl, rfl, rfl, rfl, rfl, rfl, rfl, rfl, rfl, rfl, (congrArg (fun z => some (Value.int .i64 z)) (rng_next hd2 hi2 (slc_max hs_p_l))), trivial⟩⟩, Nat.lt_succ_self _⟩
      clear S h; rintro a w10 ⟨x3, h, S⟩; rw [hj3] at h; clear hj3 j3
      refine then_n ?_
      refine f_region ?_
      refine lv S (rn_move (S.tm rfl)) rfl ?_; clear S; intro a S
      refine lv S (rn_move (S.tm rfl)) rfl ?_; clear S; intro a S
      refine lv S (rn_move (S.tm rfl)) rfl ?_; clear S; intro a S
      refine lv S (rn_move (S.tm rfl)) rfl ?_; clear S; intro a S
      refine lv S (rn_fld fa_41_2 (S.tm rfl)) rfl ?_; clear S; intro a S
      refine lv S (rn_fld fa_39_1 (S.tm rfl)) rfl ?_; clear S; intro a S
      refine lv S (rn_load Tryd.isAgg3 (S.tm rfl) (S.cell (i := 0) rfl rfl)) rfl ?_; clear S; intro a S
      refine lv S (rn_add (S.tm rfl) (S.tm rfl)) rfl ?_; clear S; intro a S
      refine lv S (rn_fld fa_41_2 (S.tm rfl)) rfl ?_; clear S; intro a S
      refine lv S (rn_fld fa_39_0 (S.tm rfl)) rfl ?_; clear S; intro a S
      refine lv S (rn_load Tryd.isAgg3 (S.tm rfl) (S.cell (i := 0) rfl rfl)) rfl ?_; clear S; intro a S
      refine lv S (rn_sub (S.tm rfl) (S.tm rfl)) rfl ?_; clear S; intro a S
      refine lv S (rn_bld bt_39 (pv := [(0, .int .i64 x3), (1, .int .i64 (W ((W (x3 + y1.Time.To)) - y1.Time.From)))]) ⟨rfl, (S.tm rfl), rfl, (S.tm rfl), trivial⟩ (cs := [.int .i64 x3, .int .i64 (W ((W (x3 + y1.Time.To)) - y1.Time.From))]) (by kernel_rfl)) rfl ?_; clear S; intro a S
      obtain ⟨hc4, h⟩ := chkE h
      obtain ⟨b8, hg3, hr8⟩ := rn_indexS (a := a) (x := .tmp 84) (y := .tmp 85) (ty := 0) sl_32 GSlot.enc_ok S (i := 1) rfl (inB_get hc4).1 (inB_get hc4).2 (S.tm rfl) (S.tm rfl)
      refine lv S (hr8 _) rfl ?_; clear S; intro a S
      clear hr8
      refine lv S (rn_fld fa_41_2 (S.tm rfl)) rfl ?_; clear S; intro a S
      refine l_storeO (c := 2) (j := (i1 : Int).toNat) (GSlot.mk ((nth x1 (i1 : Int)).Item) ((nth x1 (i1 : Int)).Heat) (GWindow.mk x3 (W ((W (x3 + y1.Time.To)) - y1.Time.From)))) GSlot.enc_ok S (S.tm rfl) (S.tm rfl) (i := 1) rfl hg3 (inB_get hc4).1 Tryd.sizeOf39 (vs := [.int .i64 x3, .int .i64 (W ((W (x3 + y1.Time.To)) - y1.Time.From))]) rfl rfl rfl rfl rfl ?_; clear S; intro w18 hk10 S
      refine l_done ?_
      replace S := S.nf (L' := [.own v3 41 4 (x1.set ((i1 : Int).toNat) (GSlot.mk ((nth x1 (i1 : Int)).Item) ((nth x1 (i1 : Int)).Heat) (GWindow.mk x3 (W ((W (x3 + y1.Time.To)) - y1.Time.From))))).length ((x1.set ((i1 : Int).toNat) (GSlot.mk ((nth x1 (i1 : Int)).Item) ((nth x1 (i1 : Int)).Heat) (GWindow.mk x3 (W ((W (x3 + y1.Time.To)) - y1.Time.From))))).flatMap GSlot.enc)]) (K' := [(2, v_p_l), (7, v1), (8, v3), (19, v1), (20, .int .i64 (r1.length : Int)), (21, .int .i64 (i1 : Int))]) [false, true] rfl ⟨rfl, rfl, rfl, rfl, rfl, rfl, trivial⟩
      refine blk_n ?_
      refine then_n ?_
      refine f_region ?_
      refine lv S (rn_add (S.tm rfl) rfl) rfl ?_; clear S; intro a S
      refine lv S (rn_move (S.tm rfl)) rfl ?_; clear S; intro a S
      refine l_done ?_
      replace S := S.nf (L' := [.own v3 41 4 (x1.set ((i1 : Int).toNat) (GSlot.mk ((nth x1 (i1 : Int)).Item) ((nth x1 (i1 : Int)).Heat) (GWindow.mk x3 (W ((W (x3 + y1.Time.To)) - y1.Time.From))))).length ((x1.set ((i1 : Int).toNat) (GSlot.mk ((nth x1 (i1 : Int)).Item) ((nth x1 (i1 : Int)).Heat) (GWindow.mk x3 (W ((W (x3 + y1.Time.To)) - y1.Time.From))))).flatMap GSlot.enc)]) (K' := [(2, v_p_l), (7, v1), (8, v3), (19, v1), (20, .int .i64 (r1.length : Int)), (21, .int .i64 (W ((i1 : Int) + 1)))]) [true] rfl ⟨rfl, rfl, rfl, rfl, rfl, rfl, trivial⟩
      refine then_n ?_
      exact ⟨ys1, ⟨i1 + 1, (x1.set ((i1 : Int).toNat) (GSlot.mk ((nth x1 (i1 : Int)).Item) ((nth x1 (i1 : Int)).Heat) (GWindow.mk x3 (W ((W (x3 + y1.Time.To)) - y1.Time.From))))), v3, ⟨_, (hd1).trans (List.append_cons _ _ _), by simp [hi1]⟩, h, S.nf [true] rfl ⟨rfl, rfl, rfl, rfl, rfl, (congrArg (fun z => some (Value.int .i64 z)) (rng_next hd1 hi1 (slc_max (ownV_slcT GSlot.enc_ok hs1)))), trivial⟩⟩, Nat.lt_succ_self _⟩
  clear S h; rintro a w4 ⟨x1, v3, h, S⟩; rw [hj1] at h; clear hj1 j1
  refine then_n ?_
  refine f_seq ?_
  refine f_region ?_
  refine lv S (rn_move (S.tm rfl)) rfl ?_; clear S; intro a S
  refine lv S (rn_assign (S.tm rfl)) rfl ?_; clear S; intro a S
  refine l_done ?_
  replace S := S.nf (L' := [.own v3 41 4 x1.length (x1.flatMap GSlot.enc)]) (K' := [(6, v3)]) [true] rfl ⟨rfl, trivial⟩
  refine then_n ?_
  refine wp_ret ?_
  obtain rfl := Option.some.inj h
  exact f_ret S Tryd.results14 rfl (own_retT S (i := 0) rfl rfl)
theorem tumbref2_LiveFault_ok (w : World) (v_p_items : Value) (p_items : List GItem) (hs_p_items : Slc (view w []) 5 v_p_items (p_items.map GItem.enc)) (p_from : Int) (v_p_l : Value) (p_l : List GHeld) (hs_p_l : Slc (view w []) 3 v_p_l (p_l.map GHeld.enc)) (r : Int) (h : tumbref2_LiveFault p_items p_from p_l = some r) :
    Calls Tryd.prog 11 [v_p_items, .int .i64 p_from, v_p_l].toArray w (Ret w [] fun τ v w' => v = .int .i64 r) := by
  refine f_enter [] [] Tryd.func11 rfl Tryd.ntmps11 rfl (by simp) (by simp [fps]) (by simp [fps]) fun a S => ?_
  unfold tumbref2_LiveFault at h
  replace S := S.nf (L' := []) (K' := [(0, v_p_items), (1, .int .i64 p_from), (2, v_p_l)]) [] rfl ⟨rfl, rfl, rfl, trivial⟩
  refine f_seq ?_
  refine f_region ?_
  refine lv S (rn_assign rfl) rfl ?_; clear S; intro a S
  refine l_done ?_
  replace S := S.nf (L' := []) (K' := [(0, v_p_items), (1, .int .i64 p_from), (2, v_p_l)]) [] rfl ⟨rfl, rfl, rfl, trivial⟩
  refine then_n ?_
  refine f_seq ?_
  refine f_seq ?_
  refine f_region ?_
  refine lv S (rn_move (S.tm rfl)) rfl ?_; clear S; intro a S
  refine lv S (rn_move (S.tm rfl)) rfl ?_; clear S; intro a S
  obtain ⟨r1, hr1, h⟩ := bindE h
  refine l_enter S (fun _ => run_call (vs := [v_p_items, v_p_l]) ⟨(S.tm rfl), (S.tm rfl), trivial⟩ Tryd.call18) (tumbref2_HeldFault_ok _ v_p_items p_items (hs_p_items.mono (S.le_arg nil_sub)) v_p_l p_l (hs_p_l.mono (S.le_arg nil_sub)) _ hr1) rfl ?_; clear S; intro v1 a w1 hv1 hk1 hn1 S
  subst hv1
  refine lv S (rn_assign (S.tm rfl)) rfl ?_; clear S; intro a S
  refine l_done ?_
  replace S := S.nf (L' := []) (K' := [(0, v_p_items), (1, .int .i64 p_from), (2, v_p_l), (7, .int .i64 r1)]) [] rfl ⟨rfl, rfl, rfl, rfl, trivial⟩
  refine then_n ?_
  refine f_seq ?_
  refine f_region ?_
  refine lv S (rn_move (S.tm rfl)) rfl ?_; clear S; intro a S
  refine lv S (rn_neq (S.tm rfl) rfl) rfl ?_; clear S; intro a S
  refine l_done ?_
  replace S := S.nf (L' := []) (K' := [(0, v_p_items), (1, .int .i64 p_from), (2, v_p_l), (7, .int .i64 r1), (14, .bool (!decide (r1 = 0)))]) [] rfl ⟨rfl, rfl, rfl, rfl, rfl, trivial⟩
  refine then_n ?_
  refine f_cond (S.tm rfl) (fun hb1 => ?_) (fun hb1 => ?_)
  · replace h := iteT h hb1
    refine f_seq ?_
    refine f_region ?_
    refine lv S (rn_move (S.tm rfl)) rfl ?_; clear S; intro a S
    refine lv S (rn_assign (S.tm rfl)) rfl ?_; clear S; intro a S
    refine l_done ?_
    replace S := S.nf (L' := []) (K' := [(6, .int .i64 r1)]) [] rfl ⟨rfl, trivial⟩
    refine then_n ?_
    refine wp_ret ?_
    refine then_r ?_
    obtain rfl := Option.some.inj h
    exact f_ret S Tryd.results11 rfl rfl
  · replace h := iteF h hb1
    refine wp_skip ?_
    refine then_n ?_
    refine f_seq ?_
    refine f_seq ?_
    refine f_region ?_
    refine lv S (rn_move (S.tm rfl)) rfl ?_; clear S; intro a S
    refine l_enter S (fun _ => run_call (vs := [.int .i64 p_from]) ⟨(S.tm rfl), trivial⟩ Tryd.call29) (tumbref2_Moment_ok _ p_from _ rfl) rfl ?_; clear S; intro v2 a w2 hv2 hk2 hn2 S
    subst hv2
    refine lv S (rn_not (S.tm rfl)) rfl ?_; clear S; intro a S
    refine l_done ?_
    replace S := S.nf (L' := []) (K' := [(0, v_p_items), (1, .int .i64 p_from), (2, v_p_l), (18, .bool (!(tumbref2_Moment p_from)))]) [] rfl ⟨rfl, rfl, rfl, rfl, trivial⟩
    refine then_n ?_
    refine f_cond (S.tm rfl) (fun hb2 => ?_) (fun hb2 => ?_)
    · replace h := iteT h hb2
      refine f_seq ?_
      refine f_region ?_
      refine lv S (rn_assign rfl) rfl ?_; clear S; intro a S
      refine l_done ?_
      replace S := S.nf (L' := []) (K' := [(6, .int .i64 1)]) [] rfl ⟨rfl, trivial⟩
      refine then_n ?_
      refine wp_ret ?_
      refine then_r ?_
      obtain rfl := Option.some.inj h
      exact f_ret S Tryd.results11 rfl rfl
    · replace h := iteF h hb2
      refine wp_skip ?_
      refine then_n ?_
      refine f_seq ?_
      refine f_seq ?_
      refine f_region ?_
      refine lv S (rn_move (S.tm rfl)) rfl ?_; clear S; intro a S
      refine lv S (rn_move (S.tm rfl)) rfl ?_; clear S; intro a S
      refine lv S (rn_move (S.tm rfl)) rfl ?_; clear S; intro a S
      obtain ⟨r2, hr2, h⟩ := bindE h
      have hz1 := S.keep.size
      refine l_enter S (fun _ => run_call (vs := [v_p_items, .int .i64 p_from, v_p_l]) ⟨(S.tm rfl), (S.tm rfl), (S.tm rfl), trivial⟩ Tryd.call14) (tumbref2_LiveOf_ok _ v_p_items p_items (hs_p_items.mono (S.le_arg nil_sub)) p_from v_p_l p_l (hs_p_l.mono (S.le_arg nil_sub)) _ hr2) rfl ?_; clear S; intro v3 a w3 hv3 hk3 hn3 S
      obtain ⟨φ1, hl1, hm1, S⟩ := S.see' hn3 hz1
      have hs1 := hv3.mono hm1
      refine lv S (rn_lenT sl_32 (S.tm rfl) (slc_len (ownV_slcT GSlot.enc_ok hs1))) rfl ?_; clear S; intro a S
      refine lv S (rn_move rfl) rfl ?_; clear S; intro a S
      refine l_done ?_
      replace S := S.nf (L' := []) (K' := [(22, v3), (23, .int .i64 (r2.length : Int)), (24, .int .i64 0)]) [] rfl ⟨rfl, rfl, rfl, trivial⟩
      refine then_n ?_
      obtain ⟨j1, hj1, h⟩ := joinE h
      refine f_join (fun a w' => j1 = some r ∧ Sx w [] φ1 [] [] 33 a w') ?_ ?_
      · refine wp_block ?_
        refine f_loop (fun (ys1 : List GSlot) a w' => ∃ i1 : Nat, (∃ dn, r2 = dn ++ ys1 ∧ dn.length = i1) ∧ tumbref2_LiveFault_l1 j1 ys1 i1 = some r ∧ Sx w [] φ1 [] [(22, v3), (23, .int .i64 (r2.length : Int)), (24, .int .i64 (i1 : Int))] 33 a w') List.length r2 ⟨0, ⟨[], rfl, rfl⟩, h, S.nf [] rfl ⟨rfl, rfl, rfl, trivial⟩⟩ ?_
        clear S h; rintro ys1 a w4 ⟨i1, ⟨dn, hd1, hi1⟩, h, S⟩
        cases ys1 with
        | nil =>
          rw [tumbref2_LiveFault_l1.eq_1] at h
          refine f_seq ?_
          refine f_region ?_
          refine lv S (rn_lss (S.tm rfl) (S.tm rfl)) rfl ?_; clear S; intro a S
          refine l_done ?_
          replace S := S.nf (L' := []) (K' := [(22, v3), (23, .int .i64 (r2.length : Int)), (24, .int .i64 (i1 : Int)), (25, .bool (decide ((i1 : Int) < (r2.length : Int))))]) [] rfl ⟨rfl, rfl, rfl, rfl, trivial⟩
          refine then_n ?_
          refine f_seq ?_
          refine wp_cond_false ((S.tm rfl).trans (congrArg Value.bool (rng_nil hd1 hi1))) ?_
          refine wp_exit ?_
          refine then_x ?_
          refine then_x ?_
          refine x_same ?_
          refine then_n ?_
          exact ⟨h, S.nf [] rfl trivial⟩
        | cons y1 ys1 =>
          rw [tumbref2_LiveFault_l1.eq_2] at h
          refine f_seq ?_
          refine f_region ?_
          refine lv S (rn_lss (S.tm rfl) (S.tm rfl)) rfl ?_; clear S; intro a S
          refine l_done ?_
          replace S := S.nf (L' := []) (K' := [(22, v3), (23, .int .i64 (r2.length : Int)), (24, .int .i64 (i1 : Int)), (25, .bool (decide ((i1 : Int) < (r2.length : Int))))]) [] rfl ⟨rfl, rfl, rfl, rfl, trivial⟩
          refine then_n ?_
          refine f_seq ?_
          refine wp_cond_true ((S.tm rfl).trans (congrArg Value.bool (rng_cons hd1 hi1))) ?_
          refine wp_skip ?_
          refine then_n ?_
          refine f_seq ?_
          refine wp_block ?_
          refine f_seq ?_
          refine f_region ?_
          obtain ⟨b1, o1, hm2, hr3⟩ := rn_indexT (a := a) (x := .tmp 22) (y := .tmp 24) (ty := 0) sl_32 (ownV_slcT GSlot.enc_ok hs1) (get_mid hd1 hi1) rfl (S.tm rfl) (S.tm rfl)
          refine lv S (hr3 _) rfl ?_; clear S; intro a S
          clear hr3
          refine lv S (rn_ldA Tryd.isAgg41 Tryd.sizeOf41 (off := o1) (o := 0) (part := [.string y1.Item, .int .i64 y1.Heat, .int .i64 y1.Time.From, .int .i64 y1.Time.To]) rfl rfl (S.tm rfl) (hm2.at S.emb)) rfl ?_; clear S; intro a S
          refine l_alloc S Tryd.zeroValue41 (cs := [.string k_empty, .int .i64 0, .int .i64 0, .int .i64 0]) rfl rfl ?_; clear S; intro a w6 b2 hz2 hk4 S
          refine l_store S (S.tm rfl) (S.tm rfl) (i := 0) (off := 0) rfl Tryd.sizeOf41 (vs := [.string y1.Item, .int .i64 y1.Heat, .int .i64 y1.Time.From, .int .i64 y1.Time.To]) rfl rfl rfl rfl ?_; clear S; intro w7 hk5 S
          refine l_done ?_
          replace S := S.nf (L' := [.blk b2 [.string y1.Item, .int .i64 y1.Heat, .int .i64 y1.Time.From, .int .i64 y1.Time.To] 41]) (K' := [(9, .pointer (some ⟨b2, 0, none⟩)), (22, v3), (23, .int .i64 (r2.length : Int)), (24, .int .i64 (i1 : Int))]) [true] rfl ⟨rfl, rfl, rfl, rfl, trivial⟩
          refine then_n ?_
          refine f_seq ?_
          refine f_region ?_
          refine lv S (rn_fld fa_41_2 (S.tm rfl)) rfl ?_; clear S; intro a S
          refine lv S (rn_fld fa_39_1 (S.tm rfl)) rfl ?_; clear S; intro a S
          refine lv S (rn_load Tryd.isAgg3 (S.tm rfl) (S.cell (i := 0) rfl rfl)) rfl ?_; clear S; intro a S
          refine lv S (rn_gtr (S.tm rfl) rfl) rfl ?_; clear S; intro a S
          refine l_done ?_
          replace S := S.nf (L' := []) (K' := [(22, v3), (23, .int .i64 (r2.length : Int)), (24, .int .i64 (i1 : Int)), (31, .bool (decide (345686400000 < y1.Time.To)))]) [false] rfl ⟨rfl, rfl, rfl, rfl, trivial⟩
          refine then_n ?_
          refine f_cond (S.tm rfl) (fun hb3 => ?_) (fun hb3 => ?_)
          · replace h := iteT h hb3
            refine f_seq ?_
            refine f_region ?_
            refine lv S (rn_assign rfl) rfl ?_; clear S; intro a S
            refine l_done ?_
            replace S := S.nf (L' := []) (K' := [(6, .int .i64 1)]) [] rfl ⟨rfl, trivial⟩
            refine then_n ?_
            refine wp_ret ?_
            refine blk_r ?_
            refine then_r ?_
            refine then_r ?_
            refine blk_r ?_
            refine then_r ?_
            refine then_r ?_
            obtain rfl := Option.some.inj h
            exact f_ret S Tryd.results11 rfl rfl
          · replace h := iteF h hb3
            refine wp_skip ?_
            refine blk_n ?_
            refine then_n ?_
            refine f_region ?_
            refine lv S (rn_add (S.tm rfl) rfl) rfl ?_; clear S; intro a S
            refine lv S (rn_move (S.tm rfl)) rfl ?_; clear S; intro a S
            refine l_done ?_
            replace S := S.nf (L' := []) (K' := [(22, v3), (23, .int .i64 (r2.length : Int)), (24, .int .i64 (W ((i1 : Int) + 1)))]) [] rfl ⟨rfl, rfl, rfl, trivial⟩
            refine then_n ?_
            exact ⟨ys1, ⟨i1 + 1, ⟨_, (hd1).trans (List.append_cons _ _ _), by simp [hi1]⟩, h, S.nf [] rfl ⟨rfl, rfl, (congrArg (fun z => some (Value.int .i64 z)) (rng_next hd1 hi1 (slc_max (ownV_slcT GSlot.enc_ok hs1)))), trivial⟩⟩, Nat.lt_succ_self _⟩
      clear S h; rintro a w5 ⟨h, S⟩; rw [hj1] at h; clear hj1 j1
      refine then_n ?_
      refine f_seq ?_
      refine f_region ?_
      refine lv S (rn_assign rfl) rfl ?_; clear S; intro a S
      refine l_done ?_
      replace S := S.nf (L' := []) (K' := [(6, .int .i64 0)]) [] rfl ⟨rfl, trivial⟩
      refine then_n ?_
      refine wp_ret ?_
      obtain rfl := Option.some.inj h
      exact f_ret S Tryd.results11 rfl rfl
theorem tumblaw2_when_ok (w : World) (p_is : Bool) (p_e : Int) (r : Int) (h : tumblaw2_when p_is p_e = r) :
    Calls Tryd.prog 30 [.bool p_is, .int .i64 p_e].toArray w (Ret w [] fun τ v w' => v = .int .i64 r) := by
  refine f_enter [] [] Tryd.func30 rfl Tryd.ntmps30 rfl (by simp) (by simp [fps]) (by simp [fps]) fun a S => ?_
  unfold tumblaw2_when at h
  replace S := S.nf (L' := []) (K' := [(0, .bool p_is), (1, .int .i64 p_e)]) [] rfl ⟨rfl, rfl, trivial⟩
  refine f_seq ?_
  refine f_region ?_
  refine lv S (rn_assign rfl) rfl ?_; clear S; intro a S
  refine l_done ?_
  replace S := S.nf (L' := []) (K' := [(0, .bool p_is), (1, .int .i64 p_e)]) [] rfl ⟨rfl, rfl, trivial⟩
  refine then_n ?_
  refine f_seq ?_
  refine f_seq ?_
  refine f_region ?_
  refine lv S (rn_move (S.tm rfl)) rfl ?_; clear S; intro a S
  refine l_done ?_
  replace S := S.nf (L' := []) (K' := [(1, .int .i64 p_e), (5, .bool p_is)]) [] rfl ⟨rfl, rfl, trivial⟩
  refine then_n ?_
  refine f_cond (S.tm rfl) (fun hb1 => ?_) (fun hb1 => ?_)
  · replace h := iteT h hb1
    refine f_seq ?_
    refine f_region ?_
    refine lv S (rn_move (S.tm rfl)) rfl ?_; clear S; intro a S
    refine lv S (rn_assign (S.tm rfl)) rfl ?_; clear S; intro a S
    refine l_done ?_
    replace S := S.nf (L' := []) (K' := [(4, .int .i64 p_e)]) [] rfl ⟨rfl, trivial⟩
    refine then_n ?_
    refine wp_ret ?_
    refine then_r ?_
    subst h
    exact f_ret S Tryd.results30 rfl rfl
  · replace h := iteF h hb1
    refine wp_skip ?_
    refine then_n ?_
    refine f_seq ?_
    refine f_region ?_
    refine lv S (rn_assign rfl) rfl ?_; clear S; intro a S
    refine l_done ?_
    replace S := S.nf (L' := []) (K' := [(4, .int .i64 0)]) [] rfl ⟨rfl, trivial⟩
    refine then_n ?_
    refine wp_ret ?_
    subst h
    exact f_ret S Tryd.results30 rfl rfl
theorem tumblaw2_momentFault_ok (w : World) (p_at : Int) (r : Int) (h : tumblaw2_momentFault p_at = r) :
    Calls Tryd.prog 13 [.int .i64 p_at].toArray w (Ret w [] fun τ v w' => v = .int .i64 r) := by
  refine f_enter [] [] Tryd.func13 rfl Tryd.ntmps13 rfl (by simp) (by simp [fps]) (by simp [fps]) fun a S => ?_
  unfold tumblaw2_momentFault at h
  replace S := S.nf (L' := []) (K' := [(0, .int .i64 p_at)]) [] rfl ⟨rfl, trivial⟩
  refine f_seq ?_
  refine f_region ?_
  refine lv S (rn_assign rfl) rfl ?_; clear S; intro a S
  refine l_done ?_
  replace S := S.nf (L' := []) (K' := [(0, .int .i64 p_at)]) [] rfl ⟨rfl, trivial⟩
  refine then_n ?_
  refine f_seq ?_
  refine f_region ?_
  refine lv S (rn_move (S.tm rfl)) rfl ?_; clear S; intro a S
  refine l_enter S (fun _ => run_call (vs := [.int .i64 p_at]) ⟨(S.tm rfl), trivial⟩ Tryd.call29) (tumbref2_Moment_ok _ p_at _ rfl) rfl ?_; clear S; intro v1 a w1 hv1 hk1 hn1 S
  subst hv1
  refine lv S (rn_not (S.tm rfl)) rfl ?_; clear S; intro a S
  refine l_enter S (fun _ => run_call (vs := [.bool (!(tumbref2_Moment p_at)), .int .i64 1]) ⟨(S.tm rfl), rfl, trivial⟩ Tryd.call30) (tumblaw2_when_ok _ (!(tumbref2_Moment p_at)) 1 _ rfl) rfl ?_; clear S; intro v2 a w2 hv2 hk2 hn2 S
  subst hv2
  refine lv S (rn_assign (S.tm rfl)) rfl ?_; clear S; intro a S
  refine l_done ?_
  replace S := S.nf (L' := []) (K' := [(2, .int .i64 (tumblaw2_when (!(tumbref2_Moment p_at)) 1))]) [] rfl ⟨rfl, trivial⟩
  refine then_n ?_
  refine wp_ret ?_
  subst h
  exact f_ret S Tryd.results13 rfl rfl
theorem tumblaw2_errs_ok (w : World) (v_p_l : Value) (p_l : List Int) (hs_p_l : Slc (view w []) 1 v_p_l (p_l.map eInt)) (r : Int) (h : tumblaw2_errs p_l = r) :
    Calls Tryd.prog 12 [v_p_l].toArray w (Ret w [] fun τ v w' => v = .int .i64 r) := by
  refine f_enter [] [] Tryd.func12 rfl Tryd.ntmps12 rfl (by simp) (by simp [fps]) (by simp [fps]) fun a S => ?_
  unfold tumblaw2_errs at h
  replace S := S.nf (L' := []) (K' := [(0, v_p_l)]) [] rfl ⟨rfl, trivial⟩
  refine f_seq ?_
  refine f_region ?_
  refine lv S (rn_assign rfl) rfl ?_; clear S; intro a S
  refine l_done ?_
  replace S := S.nf (L' := []) (K' := [(0, v_p_l)]) [] rfl ⟨rfl, trivial⟩
  refine then_n ?_
  refine f_seq ?_
  refine f_seq ?_
  refine f_region ?_
  refine lv S (rn_move (S.tm rfl)) rfl ?_; clear S; intro a S
  refine lv S (rn_lenT sl_68 (S.tm rfl) (slc_len hs_p_l)) rfl ?_; clear S; intro a S
  refine lv S (rn_move rfl) rfl ?_; clear S; intro a S
  refine l_done ?_
  replace S := S.nf (L' := []) (K' := [(5, v_p_l), (6, .int .i64 (p_l.length : Int)), (7, .int .i64 0)]) [] rfl ⟨rfl, rfl, rfl, trivial⟩
  refine then_n ?_
  obtain ⟨j1, hj1, h⟩ := joinE h
  refine f_join (fun a w' => j1 = r ∧ Sx w [] nov [] [] 15 a w') ?_ ?_
  · refine wp_block ?_
    refine f_loop (fun (ys1 : List Int) a w' => ∃ i1 : Nat, (∃ dn, p_l = dn ++ ys1 ∧ dn.length = i1) ∧ tumblaw2_errs_l1 j1 ys1 i1 = r ∧ Sx w [] nov [] [(5, v_p_l), (6, .int .i64 (p_l.length : Int)), (7, .int .i64 (i1 : Int))] 15 a w') List.length p_l ⟨0, ⟨[], rfl, rfl⟩, h, S.nf [] rfl ⟨rfl, rfl, rfl, trivial⟩⟩ ?_
    clear S h; rintro ys1 a w1 ⟨i1, ⟨dn, hd1, hi1⟩, h, S⟩
    cases ys1 with
    | nil =>
      rw [tumblaw2_errs_l1.eq_1] at h
      refine f_seq ?_
      refine f_region ?_
      refine lv S (rn_lss (S.tm rfl) (S.tm rfl)) rfl ?_; clear S; intro a S
      refine l_done ?_
      replace S := S.nf (L' := []) (K' := [(5, v_p_l), (6, .int .i64 (p_l.length : Int)), (7, .int .i64 (i1 : Int)), (8, .bool (decide ((i1 : Int) < (p_l.length : Int))))]) [] rfl ⟨rfl, rfl, rfl, rfl, trivial⟩
      refine then_n ?_
      refine f_seq ?_
      refine wp_cond_false ((S.tm rfl).trans (congrArg Value.bool (rng_nil hd1 hi1))) ?_
      refine wp_exit ?_
      refine then_x ?_
      refine then_x ?_
      refine x_same ?_
      refine then_n ?_
      exact ⟨h, S.nf [] rfl trivial⟩
    | cons y1 ys1 =>
      rw [tumblaw2_errs_l1.eq_2] at h
      refine f_seq ?_
      refine f_region ?_
      refine lv S (rn_lss (S.tm rfl) (S.tm rfl)) rfl ?_; clear S; intro a S
      refine l_done ?_
      replace S := S.nf (L' := []) (K' := [(5, v_p_l), (6, .int .i64 (p_l.length : Int)), (7, .int .i64 (i1 : Int)), (8, .bool (decide ((i1 : Int) < (p_l.length : Int))))]) [] rfl ⟨rfl, rfl, rfl, rfl, trivial⟩
      refine then_n ?_
      refine f_seq ?_
      refine wp_cond_true ((S.tm rfl).trans (congrArg Value.bool (rng_cons hd1 hi1))) ?_
      refine wp_skip ?_
      refine then_n ?_
      refine f_seq ?_
      refine wp_block ?_
      refine f_seq ?_
      refine f_region ?_
      obtain ⟨b1, o1, hm1, hr1⟩ := rn_indexT (a := a) (x := .tmp 5) (y := .tmp 7) (ty := 0) sl_68 hs_p_l (get_mid hd1 hi1) rfl (S.tm rfl) (S.tm rfl)
      refine lv S (hr1 _) rfl ?_; clear S; intro a S
      clear hr1
      refine lv S (rn_ld Tryd.isAgg33 (off := o1) (o := 0) (S.tm rfl) (hm1.at S.emb0) rfl) rfl ?_; clear S; intro a S
      refine lv S (rn_assign (S.tm rfl)) rfl ?_; clear S; intro a S
      refine l_done ?_
      replace S := S.nf (L' := []) (K' := [(4, .int .i64 y1), (5, v_p_l), (6, .int .i64 (p_l.length : Int)), (7, .int .i64 (i1 : Int))]) [] rfl ⟨rfl, rfl, rfl, rfl, trivial⟩
      refine then_n ?_
      refine f_seq ?_
      refine f_region ?_
      refine lv S (rn_move (S.tm rfl)) rfl ?_; clear S; intro a S
      refine lv S (rn_neq (S.tm rfl) rfl) rfl ?_; clear S; intro a S
      refine l_done ?_
      replace S := S.nf (L' := []) (K' := [(4, .int .i64 y1), (5, v_p_l), (6, .int .i64 (p_l.length : Int)), (7, .int .i64 (i1 : Int)), (12, .bool (!decide (y1 = 0)))]) [] rfl ⟨rfl, rfl, rfl, rfl, rfl, trivial⟩
      refine then_n ?_
      refine f_cond (S.tm rfl) (fun hb1 => ?_) (fun hb1 => ?_)
      · replace h := iteT h hb1
        refine f_seq ?_
        refine f_region ?_
        refine lv S (rn_move (S.tm rfl)) rfl ?_; clear S; intro a S
        refine lv S (rn_assign (S.tm rfl)) rfl ?_; clear S; intro a S
        refine l_done ?_
        replace S := S.nf (L' := []) (K' := [(2, .int .i64 y1)]) [] rfl ⟨rfl, trivial⟩
        refine then_n ?_
        refine wp_ret ?_
        refine blk_r ?_
        refine then_r ?_
        refine then_r ?_
        refine blk_r ?_
        refine then_r ?_
        refine then_r ?_
        subst h
        exact f_ret S Tryd.results12 rfl rfl
      · replace h := iteF h hb1
        refine wp_skip ?_
        refine blk_n ?_
        refine then_n ?_
        refine f_region ?_
        refine lv S (rn_add (S.tm rfl) rfl) rfl ?_; clear S; intro a S
        refine lv S (rn_move (S.tm rfl)) rfl ?_; clear S; intro a S
        refine l_done ?_
        replace S := S.nf (L' := []) (K' := [(5, v_p_l), (6, .int .i64 (p_l.length : Int)), (7, .int .i64 (W ((i1 : Int) + 1)))]) [] rfl ⟨rfl, rfl, rfl, trivial⟩
        refine then_n ?_
        exact ⟨ys1, ⟨i1 + 1, ⟨_, (hd1).trans (List.append_cons _ _ _), by simp [hi1]⟩, h, S.nf [] rfl ⟨rfl, rfl, (congrArg (fun z => some (Value.int .i64 z)) (rng_next hd1 hi1 (slc_max hs_p_l))), trivial⟩⟩, Nat.lt_succ_self _⟩
  clear S h; rintro a w2 ⟨h, S⟩; rw [hj1] at h; clear hj1 j1
  refine then_n ?_
  refine f_seq ?_
  refine f_region ?_
  refine lv S (rn_assign rfl) rfl ?_; clear S; intro a S
  refine l_done ?_
  replace S := S.nf (L' := []) (K' := [(2, .int .i64 0)]) [] rfl ⟨rfl, trivial⟩
  refine then_n ?_
  refine wp_ret ?_
  subst h
  exact f_ret S Tryd.results12 rfl rfl
theorem tumbref2_EndOf_ok (w : World) (v_p_l : Value) (p_l : List GItem) (hs_p_l : Slc (view w []) 5 v_p_l (p_l.map GItem.enc)) (p_from : Int) (r : Int) (h : tumbref2_EndOf p_l p_from = some r) :
    Calls Tryd.prog 33 [v_p_l, .int .i64 p_from].toArray w (Ret w [] fun τ v w' => v = .int .i64 r) := by
  refine f_enter [] [] Tryd.func33 rfl Tryd.ntmps33 rfl (by simp) (by simp [fps]) (by simp [fps]) fun a S => ?_
  unfold tumbref2_EndOf at h
  replace S := S.nf (L' := []) (K' := [(0, v_p_l), (1, .int .i64 p_from)]) [] rfl ⟨rfl, rfl, trivial⟩
  refine f_seq ?_
  refine f_region ?_
  refine lv S (rn_assign rfl) rfl ?_; clear S; intro a S
  refine l_done ?_
  replace S := S.nf (L' := []) (K' := [(0, v_p_l), (1, .int .i64 p_from)]) [] rfl ⟨rfl, rfl, trivial⟩
  refine then_n ?_
  refine f_seq ?_
  refine f_seq ?_
  refine f_region ?_
  refine lv S (rn_move (S.tm rfl)) rfl ?_; clear S; intro a S
  refine lv S (rn_move (S.tm rfl)) rfl ?_; clear S; intro a S
  obtain ⟨r1, hr1, h⟩ := bindE h
  have hz1 := S.keep.size
  refine l_enter S (fun _ => run_call (vs := [v_p_l, .int .i64 p_from]) ⟨(S.tm rfl), (S.tm rfl), trivial⟩ Tryd.call31) (tumbref2_SlotsOf_ok _ v_p_l p_l (hs_p_l.mono (S.le_arg nil_sub)) p_from _ hr1) rfl ?_; clear S; intro v1 a w1 hv1 hk1 hn1 S
  obtain ⟨φ1, hl1, hm1, S⟩ := S.see' hn1 hz1
  have hs1 := hv1.mono hm1
  refine lv S (rn_lenT sl_32 (S.tm rfl) (slc_len (ownV_slcT GSlot.enc_ok hs1))) rfl ?_; clear S; intro a S
  refine lv S (rn_move rfl) rfl ?_; clear S; intro a S
  refine l_done ?_
  replace S := S.nf (L' := []) (K' := [(1, .int .i64 p_from), (9, v1), (10, .int .i64 (r1.length : Int)), (11, .int .i64 0)]) [] rfl ⟨rfl, rfl, rfl, rfl, trivial⟩
  refine then_n ?_
  obtain ⟨j1, hj1, h⟩ := joinE h
  refine f_join (fun a w' => ∃ x1 : Int, j1 x1 = some r ∧ Sx w [] φ1 [] [(1, .int .i64 x1)] 20 a w') ?_ ?_
  · refine wp_block ?_
    refine f_loop (fun (ys1 : List GSlot) a w' => ∃ i1 : Nat, ∃ x1 : Int, (∃ dn, r1 = dn ++ ys1 ∧ dn.length = i1) ∧ tumbref2_EndOf_l1 j1 ys1 i1 x1 = some r ∧ Sx w [] φ1 [] [(1, .int .i64 x1), (9, v1), (10, .int .i64 (r1.length : Int)), (11, .int .i64 (i1 : Int))] 20 a w') List.length r1 ⟨0, p_from, ⟨[], rfl, rfl⟩, h, S.nf [] rfl ⟨rfl, rfl, rfl, rfl, trivial⟩⟩ ?_
    clear S h; rintro ys1 a w2 ⟨i1, x1, ⟨dn, hd1, hi1⟩, h, S⟩
    cases ys1 with
    | nil =>
      rw [tumbref2_EndOf_l1.eq_1] at h
      refine f_seq ?_
      refine f_region ?_
      refine lv S (rn_lss (S.tm rfl) (S.tm rfl)) rfl ?_; clear S; intro a S
      refine l_done ?_
      replace S := S.nf (L' := []) (K' := [(1, .int .i64 x1), (9, v1), (10, .int .i64 (r1.length : Int)), (11, .int .i64 (i1 : Int)), (12, .bool (decide ((i1 : Int) < (r1.length : Int))))]) [] rfl ⟨rfl, rfl, rfl, rfl, rfl, trivial⟩
      refine then_n ?_
      refine f_seq ?_
      refine wp_cond_false ((S.tm rfl).trans (congrArg Value.bool (rng_nil hd1 hi1))) ?_
      refine wp_exit ?_
      refine then_x ?_
      refine then_x ?_
      refine x_same ?_
      refine then_n ?_
      exact ⟨x1, h, S.nf [] rfl ⟨rfl, trivial⟩⟩
    | cons y1 ys1 =>
      rw [tumbref2_EndOf_l1.eq_2] at h
      refine f_seq ?_
      refine f_region ?_
      refine lv S (rn_lss (S.tm rfl) (S.tm rfl)) rfl ?_; clear S; intro a S
      refine l_done ?_
      replace S := S.nf (L' := []) (K' := [(1, .int .i64 x1), (9, v1), (10, .int .i64 (r1.length : Int)), (11, .int .i64 (i1 : Int)), (12, .bool (decide ((i1 : Int) < (r1.length : Int))))]) [] rfl ⟨rfl, rfl, rfl, rfl, rfl, trivial⟩
      refine then_n ?_
      refine f_seq ?_
      refine wp_cond_true ((S.tm rfl).trans (congrArg Value.bool (rng_cons hd1 hi1))) ?_
      refine wp_skip ?_
      refine then_n ?_
      refine f_seq ?_
      refine wp_block ?_
      refine f_seq ?_
      refine f_region ?_
      obtain ⟨b1, o1, hm2, hr2⟩ := rn_indexT (a := a) (x := .tmp 9) (y := .tmp 11) (ty := 0) sl_32 (ownV_slcT GSlot.enc_ok hs1) (get_mid hd1 hi1) rfl (S.tm rfl) (S.tm rfl)
      refine lv S (hr2 _) rfl ?_; clear S; intro a S
      clear hr2
      refine lv S (rn_ldA Tryd.isAgg41 Tryd.sizeOf41 (off := o1) (o := 0) (part := [.string y1.Item, .int .i64 y1.Heat, .int .i64 y1.Time.From, .int .i64 y1.Time.To]) rfl rfl (S.tm rfl) (hm2.at S.emb)) rfl ?_; clear S; intro a S
      refine l_alloc S Tryd.zeroValue41 (cs := [.string k_empty, .int .i64 0, .int .i64 0, .int .i64 0]) rfl rfl ?_; clear S; intro a w4 b2 hz2 hk2 S
      refine l_store S (S.tm rfl) (S.tm rfl) (i := 0) (off := 0) rfl Tryd.sizeOf41 (vs := [.string y1.Item, .int .i64 y1.Heat, .int .i64 y1.Time.From, .int .i64 y1.Time.To]) rfl rfl rfl rfl ?_; clear S; intro w5 hk3 S
      refine l_done ?_
      replace S := S.nf (L' := [.blk b2 [.string y1.Item, .int .i64 y1.Heat, .int .i64 y1.Time.From, .int .i64 y1.Time.To] 41]) (K' := [(6, .pointer (some ⟨b2, 0, none⟩)), (9, v1), (10, .int .i64 (r1.length : Int)), (11, .int .i64 (i1 : Int))]) [true] rfl ⟨rfl, rfl, rfl, rfl, trivial⟩
      refine then_n ?_
      refine f_region ?_
      refine lv S (rn_fld fa_41_2 (S.tm rfl)) rfl ?_; clear S; intro a S
      refine lv S (rn_fld fa_39_1 (S.tm rfl)) rfl ?_; clear S; intro a S
      refine lv S (rn_load Tryd.isAgg3 (S.tm rfl) (S.cell (i := 0) rfl rfl)) rfl ?_; clear S; intro a S
      refine lv S (rn_assign (S.tm rfl)) rfl ?_; clear S; intro a S
      refine l_done ?_
      replace S := S.nf (L' := []) (K' := [(1, .int .i64 y1.Time.To), (9, v1), (10, .int .i64 (r1.length : Int)), (11, .int .i64 (i1 : Int))]) [false] rfl ⟨rfl, rfl, rfl, rfl, trivial⟩
      refine blk_n ?_
      refine then_n ?_
      refine f_region ?_
      refine lv S (rn_add (S.tm rfl) rfl) rfl ?_; clear S; intro a S
      refine lv S (rn_move (S.tm rfl)) rfl ?_; clear S; intro a S
      refine l_done ?_
      replace S := S.nf (L' := []) (K' := [(1, .int .i64 y1.Time.To), (9, v1), (10, .int .i64 (r1.length : Int)), (11, .int .i64 (W ((i1 : Int) + 1)))]) [] rfl ⟨rfl, rfl, rfl, rfl, trivial⟩
      refine then_n ?_
      exact ⟨ys1, ⟨i1 + 1, y1.Time.To, ⟨_, (hd1).trans (List.append_cons _ _ _), by simp [hi1]⟩, h, S.nf [] rfl ⟨rfl, rfl, rfl, (congrArg (fun z => some (Value.int .i64 z)) (rng_next hd1 hi1 (slc_max (ownV_slcT GSlot.enc_ok hs1)))), trivial⟩⟩, Nat.lt_succ_self _⟩
  clear S h; rintro a w3 ⟨x1, h, S⟩; rw [hj1] at h; clear hj1 j1
  refine then_n ?_
  refine f_seq ?_
  refine f_region ?_
  refine lv S (rn_move (S.tm rfl)) rfl ?_; clear S; intro a S
  refine lv S (rn_assign (S.tm rfl)) rfl ?_; clear S; intro a S
  refine l_done ?_
  replace S := S.nf (L' := []) (K' := [(4, .int .i64 x1)]) [] rfl ⟨rfl, trivial⟩
  refine then_n ?_
  refine wp_ret ?_
  obtain rfl := Option.some.inj h
  exact f_ret S Tryd.results33 rfl rfl
set_option maxRecDepth 20000 in
theorem tumbref2_BehindOf_ok (w : World) (v_p_items : Value) (p_items : List GItem) (hs_p_items : Slc (view w []) 5 v_p_items (p_items.map GItem.enc)) (p_from : Int) (v_p_l : Value) (p_l : List GHeld) (hs_p_l : Slc (view w []) 3 v_p_l (p_l.map GHeld.enc)) (r : Int) (h : tumbref2_BehindOf p_items p_from p_l = some r) :
    Calls Tryd.prog 15 [v_p_items, .int .i64 p_from, v_p_l].toArray w (Ret w [] fun τ v w' => v = .int .i64 r) := by
  refine f_enter [] [] Tryd.func15 rfl Tryd.ntmps15 rfl (by simp) (by simp [fps]) (by simp [fps]) fun a S => ?_
  unfold tumbref2_BehindOf at h
  replace S := S.nf (L' := []) (K' := [(0, v_p_items), (1, .int .i64 p_from), (2, v_p_l)]) [] rfl ⟨rfl, rfl, rfl, trivial⟩
  refine f_seq ?_
  refine f_region ?_
  refine lv S (rn_assign rfl) rfl ?_; clear S; intro a S
  refine l_done ?_
  replace S := S.nf (L' := []) (K' := [(0, v_p_items), (1, .int .i64 p_from), (2, v_p_l)]) [] rfl ⟨rfl, rfl, rfl, trivial⟩
  refine then_n ?_
  refine f_seq ?_
  refine f_region ?_
  refine lv S (rn_assign rfl) rfl ?_; clear S; intro a S
  refine l_done ?_
  replace S := S.nf (L' := []) (K' := [(0, v_p_items), (1, .int .i64 p_from), (2, v_p_l), (7, .int .i64 0)]) [] rfl ⟨rfl, rfl, rfl, rfl, trivial⟩
  refine then_n ?_
  refine f_seq ?_
  refine f_seq ?_
  refine f_region ?_
  refine lv S (rn_move (S.tm rfl)) rfl ?_; clear S; intro a S
  refine lv S (rn_move (S.tm rfl)) rfl ?_; clear S; intro a S
  refine lv S (rn_move (S.tm rfl)) rfl ?_; clear S; intro a S
  obtain ⟨r1, hr1, h⟩ := bindE h
  have hz1 := S.keep.size
  refine l_enter S (fun _ => run_call (vs := [v_p_items, .int .i64 p_from, v_p_l]) ⟨(S.tm rfl), (S.tm rfl), (S.tm rfl), trivial⟩ Tryd.call14) (tumbref2_LiveOf_ok _ v_p_items p_items (hs_p_items.mono (S.le_arg nil_sub)) p_from v_p_l p_l (hs_p_l.mono (S.le_arg nil_sub)) _ hr1) rfl ?_; clear S; intro v1 a w1 hv1 hk1 hn1 S
  obtain ⟨φ1, hl1, hm1, S⟩ := S.see' hn1 hz1
  have hs1 := hv1.mono hm1
  refine lv S (rn_lenT sl_32 (S.tm rfl) (slc_len (ownV_slcT GSlot.enc_ok hs1))) rfl ?_; clear S; intro a S
  refine lv S (rn_move rfl) rfl ?_; clear S; intro a S
  refine l_done ?_
  replace S := S.nf (L' := []) (K' := [(0, v_p_items), (1, .int .i64 p_from), (7, .int .i64 0), (13, v1), (14, .int .i64 (r1.length : Int)), (15, .int .i64 0)]) [] rfl ⟨rfl, rfl, rfl, rfl, rfl, rfl, trivial⟩
  refine then_n ?_
  obtain ⟨j1, hj1, h⟩ := joinE h
  refine f_join (fun a w' => ∃ x1 : Int, j1 x1 = some r ∧ Sx w [] φ1 [] [(7, .int .i64 x1)] 28 a w') ?_ ?_
  · refine wp_block ?_
    refine f_loop (fun (ys1 : List GSlot) a w' => ∃ i1 : Nat, ∃ x1 : Int, (∃ dn, r1 = dn ++ ys1 ∧ dn.length = i1) ∧ tumbref2_BehindOf_l1 p_items p_from j1 ys1 i1 x1 = some r ∧ Sx w [] φ1 [] [(0, v_p_items), (1, .int .i64 p_from), (7, .int .i64 x1), (13, v1), (14, .int .i64 (r1.length : Int)), (15, .int .i64 (i1 : Int))] 28 a w') List.length r1 ⟨0, 0, ⟨[], rfl, rfl⟩, h, S.nf [] rfl ⟨rfl, rfl, rfl, rfl, rfl, rfl, trivial⟩⟩ ?_
    clear S h; rintro ys1 a w2 ⟨i1, x1, ⟨dn, hd1, hi1⟩, h, S⟩
    cases ys1 with
    | nil =>
      rw [tumbref2_BehindOf_l1.eq_1] at h
      refine f_seq ?_
      refine f_region ?_
      refine lv S (rn_lss (S.tm rfl) (S.tm rfl)) rfl ?_; clear S; intro a S
      refine l_done ?_
      replace S := S.nf (L' := []) (K' := [(0, v_p_items), (1, .int .i64 p_from), (7, .int .i64 x1), (13, v1), (14, .int .i64 (r1.length : Int)), (15, .int .i64 (i1 : Int)), (16, .bool (decide ((i1 : Int) < (r1.length : Int))))]) [] rfl ⟨rfl, rfl, rfl, rfl, rfl, rfl, rfl, trivial⟩
      refine then_n ?_
      refine f_seq ?_
      refine wp_cond_false ((S.tm rfl).trans (congrArg Value.bool (rng_nil hd1 hi1))) ?_
      refine wp_exit ?_
      refine then_x ?_
      refine then_x ?_
      refine x_same ?_
      refine then_n ?_
      exact ⟨x1, h, S.nf [] rfl ⟨rfl, trivial⟩⟩
    | cons y1 ys1 =>
      rw [tumbref2_BehindOf_l1.eq_2] at h
      refine f_seq ?_
      refine f_region ?_
      refine lv S (rn_lss (S.tm rfl) (S.tm rfl)) rfl ?_; clear S; intro a S
      refine l_done ?_
      replace S := S.nf (L' := []) (K' := [(0, v_p_items), (1, .int .i64 p_from), (7, .int .i64 x1), (13, v1), (14, .int .i64 (r1.length : Int)), (15, .int .i64 (i1 : Int)), (16, .bool (decide ((i1 : Int) < (r1.length : Int))))]) [] rfl ⟨rfl, rfl, rfl, rfl, rfl, rfl, rfl, trivial⟩
      refine then_n ?_
      refine f_seq ?_
      refine wp_cond_true ((S.tm rfl).trans (congrArg Value.bool (rng_cons hd1 hi1))) ?_
      refine wp_skip ?_
      refine then_n ?_
      refine f_seq ?_
      refine wp_block ?_
      refine f_seq ?_
      refine f_region ?_
      obtain ⟨b1, o1, hm2, hr2⟩ := rn_indexT (a := a) (x := .tmp 13) (y := .tmp 15) (ty := 0) sl_32 (ownV_slcT GSlot.enc_ok hs1) (get_mid hd1 hi1) rfl (S.tm rfl) (S.tm rfl)
      refine lv S (hr2 _) rfl ?_; clear S; intro a S
      clear hr2
      refine lv S (rn_ldA Tryd.isAgg41 Tryd.sizeOf41 (off := o1) (o := 0) (part := [.string y1.Item, .int .i64 y1.Heat, .int .i64 y1.Time.From, .int .i64 y1.Time.To]) rfl rfl (S.tm rfl) (hm2.at S.emb)) rfl ?_; clear S; intro a S
      refine l_alloc S Tryd.zeroValue41 (cs := [.string k_empty, .int .i64 0, .int .i64 0, .int .i64 0]) rfl rfl ?_; clear S; intro a w4 b2 hz2 hk2 S
      refine l_store S (S.tm rfl) (S.tm rfl) (i := 0) (off := 0) rfl Tryd.sizeOf41 (vs := [.string y1.Item, .int .i64 y1.Heat, .int .i64 y1.Time.From, .int .i64 y1.Time.To]) rfl rfl rfl rfl ?_; clear S; intro w5 hk3 S
      refine l_done ?_
      replace S := S.nf (L' := [.blk b2 [.string y1.Item, .int .i64 y1.Heat, .int .i64 y1.Time.From, .int .i64 y1.Time.To] 41]) (K' := [(0, v_p_items), (1, .int .i64 p_from), (9, .pointer (some ⟨b2, 0, none⟩)), (13, v1), (14, .int .i64 (r1.length : Int)), (15, .int .i64 (i1 : Int))]) [true] rfl ⟨rfl, rfl, rfl, rfl, rfl, rfl, trivial⟩
      refine then_n ?_
      obtain ⟨r2, hr3, h⟩ := bindE h
      refine d_region [] ([]) Tryd.mixed S rfl (by kernel_rfl) ?_; clear S; intro w7 hk5 hsel S
      refine d_quiet 0 S hsel rfl rfl rfl (by kernel_rfl) (by kernel_rfl) rfl (fun _ hw => (rn_fld fa_41_2 (S.tm rfl))) ?_; clear S; intro a S
      refine d_quiet 1 S hsel rfl rfl rfl (by kernel_rfl) (by kernel_rfl) rfl (fun _ hw => (rn_fld fa_39_1 (S.tm rfl))) ?_; clear S; intro a S
      refine d_quiet 2 S hsel rfl rfl rfl (by kernel_rfl) (by kernel_rfl) rfl (fun _ hw => (rn_ld Tryd.isAgg3 (off := 0) (o := 3) (S.tm rfl) ((S.blk_mem (i := 0) (cells := [.string y1.Item, .int .i64 y1.Heat, .int .i64 y1.Time.From, .int .i64 y1.Time.To]) (b := b2) (T := 41) rfl (ne_nil (e' := .blk b2 [.string y1.Item, .int .i64 y1.Heat, .int .i64 y1.Time.From, .int .i64 y1.Time.To] 41))).kept hw) rfl)) ?_; clear S; intro a S
      refine d_quiet 3 S hsel rfl rfl rfl (by kernel_rfl) (by kernel_rfl) rfl (fun _ hw => (rn_move (S.tm rfl))) ?_; clear S; intro a S
      refine d_quiet 4 S hsel rfl rfl rfl (by kernel_rfl) (by kernel_rfl) rfl (fun _ hw => (rn_move (S.tm rfl))) ?_; clear S; intro a S
      refine d_loud1 5 (by kernel_rfl) rfl ?_
      refine l_enter S (fun _ => run_call (vs := [v_p_items, .int .i64 p_from]) ⟨(S.tm rfl), (S.tm rfl), trivial⟩ Tryd.call33) (tumbref2_EndOf_ok _ v_p_items p_items (hs_p_items.mono (S.le_arg nil_sub)) p_from _ hr3) rfl ?_; clear S; intro v3 a w8 hv3 hk6 hn3 S
      subst hv3
      refine l_done ?_
      refine d_next hk6 ?_
      refine d_rest [6, 7] hsel (by kernel_rfl) rfl ?_
      clear hsel
      refine s_lv S rfl (rn_sub (S.tm rfl) (S.tm rfl)) rfl ?_; clear S; intro a S
      refine s_lv S rfl (rn_assign (S.tm rfl)) rfl ?_; clear S; intro a S
      refine s_done ?_
      replace S := S.nf (L' := []) (K' := [(0, v_p_items), (1, .int .i64 p_from), (7, .int .i64 (W (y1.Time.To - r2))), (13, v1), (14, .int .i64 (r1.length : Int)), (15, .int .i64 (i1 : Int))]) [false] rfl ⟨rfl, rfl, rfl, rfl, rfl, rfl, trivial⟩
      refine blk_n ?_
      refine then_n ?_
      refine f_region ?_
      refine lv S (rn_add (S.tm rfl) rfl) rfl ?_; clear S; intro a S
      refine lv S (rn_move (S.tm rfl)) rfl ?_; clear S; intro a S
      refine l_done ?_
      replace S := S.nf (L' := []) (K' := [(0, v_p_items), (1, .int .i64 p_from), (7, .int .i64 (W (y1.Time.To - r2))), (13, v1), (14, .int .i64 (r1.length : Int)), (15, .int .i64 (W ((i1 : Int) + 1)))]) [] rfl ⟨rfl, rfl, rfl, rfl, rfl, rfl, trivial⟩
      refine then_n ?_
      exact ⟨ys1, ⟨i1 + 1, W (y1.Time.To - r2), ⟨_, (hd1).trans (List.append_cons _ _ _), by simp [hi1]⟩, h, S.nf [] rfl ⟨rfl, rfl, rfl, rfl, rfl, (congrArg (fun z => some (Value.int .i64 z)) (rng_next hd1 hi1 (slc_max (ownV_slcT GSlot.enc_ok hs1)))), trivial⟩⟩, Nat.lt_succ_self _⟩
  clear S h; rintro a w3 ⟨x1, h, S⟩; rw [hj1] at h; clear hj1 j1
  refine then_n ?_
  refine f_seq ?_
  refine f_region ?_
  refine lv S (rn_move (S.tm rfl)) rfl ?_; clear S; intro a S
  refine lv S (rn_assign (S.tm rfl)) rfl ?_; clear S; intro a S
  refine l_done ?_
  replace S := S.nf (L' := []) (K' := [(6, .int .i64 x1)]) [] rfl ⟨rfl, trivial⟩
  refine then_n ?_
  refine wp_ret ?_
  obtain rfl := Option.some.inj h
  exact f_ret S Tryd.results15 rfl rfl
theorem tumbref2_NowOf_ok (w : World) (v_p_items : Value) (p_items : List GItem) (hs_p_items : Slc (view w []) 5 v_p_items (p_items.map GItem.enc)) (p_from : Int) (v_p_l : Value) (p_l : List GHeld) (hs_p_l : Slc (view w []) 3 v_p_l (p_l.map GHeld.enc)) (p_at : Int) (r : GSlot × Bool) (h : tumbref2_NowOf p_items p_from p_l p_at = some r) :
    Calls Tryd.prog 16 [v_p_items, .int .i64 p_from, v_p_l, .int .i64 p_at].toArray w (Ret w [] fun τ v w' => v = .tuple #[.agg (GSlot.enc r.1).toArray, .bool r.2]) := by
  refine f_enter [] [] Tryd.func16 rfl Tryd.ntmps16 rfl (by simp) (by simp [fps]) (by simp [fps]) fun a S => ?_
  unfold tumbref2_NowOf at h
  replace S := S.nf (L' := []) (K' := [(0, v_p_items), (1, .int .i64 p_from), (2, v_p_l), (3, .int .i64 p_at)]) [] rfl ⟨rfl, rfl, rfl, rfl, trivial⟩
  refine f_seq ?_
  refine f_region ?_
  refine l_alloc S Tryd.zeroValue41 (cs := [.string k_empty, .int .i64 0, .int .i64 0, .int .i64 0]) rfl rfl ?_; clear S; intro a w1 b1 hz1 hk1 S
  refine lv S (rn_assign rfl) rfl ?_; clear S; intro a S
  refine l_done ?_
  replace S := S.nf (L' := [.blk b1 [.string k_empty, .int .i64 0, .int .i64 0, .int .i64 0] 41]) (K' := [(0, v_p_items), (1, .int .i64 p_from), (2, v_p_l), (3, .int .i64 p_at), (8, .pointer (some ⟨b1, 0, none⟩))]) [true] rfl ⟨rfl, rfl, rfl, rfl, rfl, trivial⟩
  refine then_n ?_
  refine f_seq ?_
  refine f_seq ?_
  refine f_region ?_
  refine lv S (rn_move (S.tm rfl)) rfl ?_; clear S; intro a S
  refine lv S (rn_move (S.tm rfl)) rfl ?_; clear S; intro a S
  refine lv S (rn_move (S.tm rfl)) rfl ?_; clear S; intro a S
  obtain ⟨r1, hr1, h⟩ := bindE h
  have hz2 := S.keep.size
  refine l_enter S (fun _ => run_call (vs := [v_p_items, .int .i64 p_from, v_p_l]) ⟨(S.tm rfl), (S.tm rfl), (S.tm rfl), trivial⟩ Tryd.call14) (tumbref2_LiveOf_ok _ v_p_items p_items (hs_p_items.mono (S.le_arg nil_sub)) p_from v_p_l p_l (hs_p_l.mono (S.le_arg nil_sub)) _ hr1) rfl ?_; clear S; intro v1 a w2 hv1 hk2 hn1 S
  obtain ⟨φ1, hl1, hm1, S⟩ := S.see' hn1 hz2
  have hs1 := hv1.mono hm1
  refine lv S (rn_lenT sl_32 (S.tm rfl) (slc_len (ownV_slcT GSlot.enc_ok hs1))) rfl ?_; clear S; intro a S
  refine lv S (rn_move rfl) rfl ?_; clear S; intro a S
  refine l_done ?_
  replace S := S.nf (L' := [.blk b1 [.string k_empty, .int .i64 0, .int .i64 0, .int .i64 0] 41]) (K' := [(3, .int .i64 p_at), (8, .pointer (some ⟨b1, 0, none⟩)), (15, v1), (16, .int .i64 (r1.length : Int)), (17, .int .i64 0)]) [true] rfl ⟨rfl, rfl, rfl, rfl, rfl, trivial⟩
  refine then_n ?_
  obtain ⟨j1, hj1, h⟩ := joinE h
  refine f_join (fun a w' => j1 = some r ∧ Sx w [] φ1 [.blk b1 [.string k_empty, .int .i64 0, .int .i64 0, .int .i64 0] 41] [(8, .pointer (some ⟨b1, 0, none⟩))] 29 a w') ?_ ?_
  · refine wp_block ?_
    refine f_loop (fun (ys1 : List GSlot) a w' => ∃ i1 : Nat, (∃ dn, r1 = dn ++ ys1 ∧ dn.length = i1) ∧ tumbref2_NowOf_l1 p_at j1 ys1 i1 = some r ∧ Sx w [] φ1 [.blk b1 [.string k_empty, .int .i64 0, .int .i64 0, .int .i64 0] 41] [(3, .int .i64 p_at), (8, .pointer (some ⟨b1, 0, none⟩)), (15, v1), (16, .int .i64 (r1.length : Int)), (17, .int .i64 (i1 : Int))] 29 a w') List.length r1 ⟨0, ⟨[], rfl, rfl⟩, h, S.nf [true] rfl ⟨rfl, rfl, rfl, rfl, rfl, trivial⟩⟩ ?_
    clear S h; rintro ys1 a w3 ⟨i1, ⟨dn, hd1, hi1⟩, h, S⟩
    cases ys1 with
    | nil =>
      rw [tumbref2_NowOf_l1.eq_1] at h
      refine f_seq ?_
      refine f_region ?_
      refine lv S (rn_lss (S.tm rfl) (S.tm rfl)) rfl ?_; clear S; intro a S
      refine l_done ?_
      replace S := S.nf (L' := [.blk b1 [.string k_empty, .int .i64 0, .int .i64 0, .int .i64 0] 41]) (K' := [(3, .int .i64 p_at), (8, .pointer (some ⟨b1, 0, none⟩)), (15, v1), (16, .int .i64 (r1.length : Int)), (17, .int .i64 (i1 : Int)), (18, .bool (decide ((i1 : Int) < (r1.length : Int))))]) [true] rfl ⟨rfl, rfl, rfl, rfl, rfl, rfl, trivial⟩
      refine then_n ?_
      refine f_seq ?_
      refine wp_cond_false ((S.tm rfl).trans (congrArg Value.bool (rng_nil hd1 hi1))) ?_
      refine wp_exit ?_
      refine then_x ?_
      refine then_x ?_
      refine x_same ?_
      refine then_n ?_
      exact ⟨h, S.nf [true] rfl ⟨rfl, trivial⟩⟩
    | cons y1 ys1 =>
      rw [tumbref2_NowOf_l1.eq_2] at h
      refine f_seq ?_
      refine f_region ?_
      refine lv S (rn_lss (S.tm rfl) (S.tm rfl)) rfl ?_; clear S; intro a S
      refine l_done ?_
      replace S := S.nf (L' := [.blk b1 [.string k_empty, .int .i64 0, .int .i64 0, .int .i64 0] 41]) (K' := [(3, .int .i64 p_at), (8, .pointer (some ⟨b1, 0, none⟩)), (15, v1), (16, .int .i64 (r1.length : Int)), (17, .int .i64 (i1 : Int)), (18, .bool (decide ((i1 : Int) < (r1.length : Int))))]) [true] rfl ⟨rfl, rfl, rfl, rfl, rfl, rfl, trivial⟩
      refine then_n ?_
      refine f_seq ?_
      refine wp_cond_true ((S.tm rfl).trans (congrArg Value.bool (rng_cons hd1 hi1))) ?_
      refine wp_skip ?_
      refine then_n ?_
      refine f_seq ?_
      refine wp_block ?_
      refine f_seq ?_
      refine f_region ?_
      obtain ⟨b2, o1, hm2, hr2⟩ := rn_indexT (a := a) (x := .tmp 15) (y := .tmp 17) (ty := 0) sl_32 (ownV_slcT GSlot.enc_ok hs1) (get_mid hd1 hi1) rfl (S.tm rfl) (S.tm rfl)
      refine lv S (hr2 _) rfl ?_; clear S; intro a S
      clear hr2
      refine lv S (rn_ldA Tryd.isAgg41 Tryd.sizeOf41 (off := o1) (o := 0) (part := [.string y1.Item, .int .i64 y1.Heat, .int .i64 y1.Time.From, .int .i64 y1.Time.To]) rfl rfl (S.tm rfl) (hm2.at S.emb)) rfl ?_; clear S; intro a S
      refine l_alloc S Tryd.zeroValue41 (cs := [.string k_empty, .int .i64 0, .int .i64 0, .int .i64 0]) rfl rfl ?_; clear S; intro a w5 b3 hz3 hk3 S
      refine l_store S (S.tm rfl) (S.tm rfl) (i := 0) (off := 0) rfl Tryd.sizeOf41 (vs := [.string y1.Item, .int .i64 y1.Heat, .int .i64 y1.Time.From, .int .i64 y1.Time.To]) rfl rfl rfl rfl ?_; clear S; intro w6 hk4 S
      refine l_done ?_
      replace S := S.nf (L' := [.blk b3 [.string y1.Item, .int .i64 y1.Heat, .int .i64 y1.Time.From, .int .i64 y1.Time.To] 41, .blk b1 [.string k_empty, .int .i64 0, .int .i64 0, .int .i64 0] 41]) (K' := [(3, .int .i64 p_at), (8, .pointer (some ⟨b1, 0, none⟩)), (11, .pointer (some ⟨b3, 0, none⟩)), (15, v1), (16, .int .i64 (r1.length : Int)), (17, .int .i64 (i1 : Int))]) [true, true] rfl ⟨rfl, rfl, rfl, rfl, rfl, rfl, trivial⟩
      refine then_n ?_
      refine f_seq ?_
      refine f_region ?_
      refine lv S (rn_move (S.tm rfl)) rfl ?_; clear S; intro a S
      refine lv S (rn_fld fa_41_2 (S.tm rfl)) rfl ?_; clear S; intro a S
      refine lv S (rn_fld fa_39_1 (S.tm rfl)) rfl ?_; clear S; intro a S
      refine lv S (rn_load Tryd.isAgg3 (S.tm rfl) (S.cell (i := 0) rfl rfl)) rfl ?_; clear S; intro a S
      refine lv S (rn_lss (S.tm rfl) (S.tm rfl)) rfl ?_; clear S; intro a S
      refine l_done ?_
      replace S := S.nf (L' := [.blk b3 [.string y1.Item, .int .i64 y1.Heat, .int .i64 y1.Time.From, .int .i64 y1.Time.To] 41, .blk b1 [.string k_empty, .int .i64 0, .int .i64 0, .int .i64 0] 41]) (K' := [(3, .int .i64 p_at), (8, .pointer (some ⟨b1, 0, none⟩)), (11, .pointer (some ⟨b3, 0, none⟩)), (15, v1), (16, .int .i64 (r1.length : Int)), (17, .int .i64 (i1 : Int)), (25, .bool (decide (p_at < y1.Time.To)))]) [true, true] rfl ⟨rfl, rfl, rfl, rfl, rfl, rfl, rfl, trivial⟩
      refine then_n ?_
      refine f_cond (S.tm rfl) (fun hb1 => ?_) (fun hb1 => ?_)
      · replace h := iteT h hb1
        refine f_seq ?_
        refine f_region ?_
        refine lv S (rn_ldA Tryd.isAgg41 Tryd.sizeOf41 (off := 0) (o := 0) (part := [.string y1.Item, .int .i64 y1.Heat, .int .i64 y1.Time.From, .int .i64 y1.Time.To]) rfl rfl (S.tm rfl) (S.cellsAt (i := 0) rfl)) rfl ?_; clear S; intro a S
        refine l_store S (S.tm rfl) (S.tm rfl) (i := 1) (off := 0) rfl Tryd.sizeOf41 (vs := [.string y1.Item, .int .i64 y1.Heat, .int .i64 y1.Time.From, .int .i64 y1.Time.To]) rfl rfl rfl rfl ?_; clear S; intro w7 hk5 S
        refine lv S (rn_assign rfl) rfl ?_; clear S; intro a S
        refine l_done ?_
        replace S := S.nf (L' := [.blk b1 [.string y1.Item, .int .i64 y1.Heat, .int .i64 y1.Time.From, .int .i64 y1.Time.To] 41]) (K' := [(8, .pointer (some ⟨b1, 0, none⟩)), (9, .bool true)]) [false, true] rfl ⟨rfl, rfl, trivial⟩
        refine then_n ?_
        refine wp_ret ?_
        refine blk_r ?_
        refine then_r ?_
        refine then_r ?_
        refine blk_r ?_
        refine then_r ?_
        refine then_r ?_
        obtain rfl := Option.some.inj h
        exact f_retG S (rs := [.cell 8 41, .tmp 9]) (vs := [.agg #[.string y1.Item, .int .i64 y1.Heat, .int .i64 y1.Time.From, .int .i64 y1.Time.To], .bool true]) Tryd.results16 ⟨(res_cell (off := 0) S rfl Tryd.isAgg41 Tryd.sizeOf41 rfl (S.cellsAt (i := 0) rfl)), (res_tmp S rfl), trivial⟩ rfl rfl
      · replace h := iteF h hb1
        refine wp_skip ?_
        refine blk_n ?_
        refine then_n ?_
        refine f_region ?_
        refine lv S (rn_add (S.tm rfl) rfl) rfl ?_; clear S; intro a S
        refine lv S (rn_move (S.tm rfl)) rfl ?_; clear S; intro a S
        refine l_done ?_
        replace S := S.nf (L' := [.blk b1 [.string k_empty, .int .i64 0, .int .i64 0, .int .i64 0] 41]) (K' := [(3, .int .i64 p_at), (8, .pointer (some ⟨b1, 0, none⟩)), (15, v1), (16, .int .i64 (r1.length : Int)), (17, .int .i64 (W ((i1 : Int) + 1)))]) [false, true] rfl ⟨rfl, rfl, rfl, rfl, rfl, trivial⟩
        refine then_n ?_
        exact ⟨ys1, ⟨i1 + 1, ⟨_, (hd1).trans (List.append_cons _ _ _), by simp [hi1]⟩, h, S.nf [true] rfl ⟨rfl, rfl, rfl, rfl, (congrArg (fun z => some (Value.int .i64 z)) (rng_next hd1 hi1 (slc_max (ownV_slcT GSlot.enc_ok hs1)))), trivial⟩⟩, Nat.lt_succ_self _⟩
  clear S h; rintro a w4 ⟨h, S⟩; rw [hj1] at h; clear hj1 j1
  refine then_n ?_
  refine f_seq ?_
  refine f_region ?_
  refine lv S (rn_bld bt_41 (pv := []) trivial (cs := [.string k_empty, .int .i64 0, .int .i64 0, .int .i64 0]) (by kernel_rfl)) rfl ?_; clear S; intro a S
  refine l_store S (S.tm rfl) (S.tm rfl) (i := 0) (off := 0) rfl Tryd.sizeOf41 (vs := [.string k_empty, .int .i64 0, .int .i64 0, .int .i64 0]) rfl rfl rfl rfl ?_; clear S; intro w8 hk6 S
  refine lv S (rn_assign rfl) rfl ?_; clear S; intro a S
  refine l_done ?_
  replace S := S.nf (L' := [.blk b1 [.string k_empty, .int .i64 0, .int .i64 0, .int .i64 0] 41]) (K' := [(8, .pointer (some ⟨b1, 0, none⟩)), (9, .bool false)]) [true] rfl ⟨rfl, rfl, trivial⟩
  refine then_n ?_
  refine wp_ret ?_
  obtain rfl := Option.some.inj h
  exact f_retG S (rs := [.cell 8 41, .tmp 9]) (vs := [.agg #[.string k_empty, .int .i64 0, .int .i64 0, .int .i64 0], .bool false]) Tryd.results16 ⟨(res_cell (off := 0) S rfl Tryd.isAgg41 Tryd.sizeOf41 rfl (S.cellsAt (i := 0) rfl)), (res_tmp S rfl), trivial⟩ rfl rfl
set_option maxRecDepth 20000 in
theorem slices_Equal_Slot_ok (w : World) (v_p_s1 : Value) (p_s1 : List GSlot) (hs_p_s1 : Slc (view w []) 4 v_p_s1 (p_s1.map GSlot.enc)) (v_p_s2 : Value) (p_s2 : List GSlot) (hs_p_s2 : Slc (view w []) 4 v_p_s2 (p_s2.map GSlot.enc)) (r : Bool) (h : slices_Equal_Slot p_s1 p_s2 = some r) :
    Calls Tryd.prog 19 [v_p_s1, v_p_s2].toArray w (Ret w [] fun τ v w' => v = .bool r) := by
  refine f_enter [] [] Tryd.func19 rfl Tryd.ntmps19 rfl (by simp) (by simp [fps]) (by simp [fps]) fun a S => ?_
  unfold slices_Equal_Slot at h
  replace S := S.nf (L' := []) (K' := [(0, v_p_s1), (1, v_p_s2)]) [] rfl ⟨rfl, rfl, trivial⟩
  refine f_seq ?_
  refine f_region ?_
  refine lv S (rn_assign rfl) rfl ?_; clear S; intro a S
  refine l_done ?_
  replace S := S.nf (L' := []) (K' := [(0, v_p_s1), (1, v_p_s2)]) [] rfl ⟨rfl, rfl, trivial⟩
  refine then_n ?_
  refine f_seq ?_
  refine f_seq ?_
  refine f_region ?_
  refine lv S (rn_move (S.tm rfl)) rfl ?_; clear S; intro a S
  refine lv S (rn_lenT sl_32 (S.tm rfl) (slc_len hs_p_s1)) rfl ?_; clear S; intro a S
  refine lv S (rn_move (S.tm rfl)) rfl ?_; clear S; intro a S
  refine lv S (rn_lenT sl_32 (S.tm rfl) (slc_len hs_p_s2)) rfl ?_; clear S; intro a S
  refine lv S (rn_neq (S.tm rfl) (S.tm rfl)) rfl ?_; clear S; intro a S
  refine l_done ?_
  replace S := S.nf (L' := []) (K' := [(0, v_p_s1), (1, v_p_s2), (10, .bool (!decide ((p_s1.length : Int) = (p_s2.length : Int))))]) [] rfl ⟨rfl, rfl, rfl, trivial⟩
  refine then_n ?_
  refine f_cond (S.tm rfl) (fun hb1 => ?_) (fun hb1 => ?_)
  · replace h := iteT h hb1
    refine f_seq ?_
    refine f_region ?_
    refine lv S (rn_assign rfl) rfl ?_; clear S; intro a S
    refine l_done ?_
    replace S := S.nf (L' := []) (K' := [(4, .bool false)]) [] rfl ⟨rfl, trivial⟩
    refine then_n ?_
    refine wp_ret ?_
    refine then_r ?_
    obtain rfl := Option.some.inj h
    exact f_ret S Tryd.results19 rfl rfl
  · replace h := iteF h hb1
    refine wp_skip ?_
    refine then_n ?_
    refine f_seq ?_
    refine f_seq ?_
    refine f_region ?_
    refine lv S (rn_move (S.tm rfl)) rfl ?_; clear S; intro a S
    refine lv S (rn_lenT sl_32 (S.tm rfl) (slc_len hs_p_s1)) rfl ?_; clear S; intro a S
    refine lv S (rn_move rfl) rfl ?_; clear S; intro a S
    refine l_done ?_
    replace S := S.nf (L' := []) (K' := [(0, v_p_s1), (1, v_p_s2), (12, .int .i64 (p_s1.length : Int)), (13, .int .i64 0)]) [] rfl ⟨rfl, rfl, rfl, rfl, trivial⟩
    refine then_n ?_
    obtain ⟨j1, hj1, h⟩ := joinE h
    refine f_join (fun a w' => j1 = some r ∧ Sx w [] nov [] [] 26 a w') ?_ ?_
    · refine wp_block ?_
      refine f_loop (fun (ys1 : List GSlot) a w' => ∃ i1 : Nat, (∃ dn, p_s1 = dn ++ ys1 ∧ dn.length = i1) ∧ slices_Equal_Slot_l1 p_s2 j1 ys1 i1 = some r ∧ Sx w [] nov [] [(0, v_p_s1), (1, v_p_s2), (12, .int .i64 (p_s1.length : Int)), (13, .int .i64 (i1 : Int))] 26 a w') List.length p_s1 ⟨0, ⟨[], rfl, rfl⟩, h, S.nf [] rfl ⟨rfl, rfl, rfl, rfl, trivial⟩⟩ ?_
      clear S h; rintro ys1 a w1 ⟨i1, ⟨dn, hd1, hi1⟩, h, S⟩
      cases ys1 with
      | nil =>
        rw [slices_Equal_Slot_l1.eq_1] at h
        refine f_seq ?_
        refine f_region ?_
        refine lv S (rn_lss (S.tm rfl) (S.tm rfl)) rfl ?_; clear S; intro a S
        refine l_done ?_
        replace S := S.nf (L' := []) (K' := [(0, v_p_s1), (1, v_p_s2), (12, .int .i64 (p_s1.length : Int)), (13, .int .i64 (i1 : Int)), (14, .bool (decide ((i1 : Int) < (p_s1.length : Int))))]) [] rfl ⟨rfl, rfl, rfl, rfl, rfl, trivial⟩
        refine then_n ?_
        refine f_seq ?_
        refine wp_cond_false ((S.tm rfl).trans (congrArg Value.bool (rng_nil hd1 hi1))) ?_
        refine wp_exit ?_
        refine then_x ?_
        refine then_x ?_
        refine x_same ?_
        refine then_n ?_
        exact ⟨h, S.nf [] rfl trivial⟩
      | cons y1 ys1 =>
        rw [slices_Equal_Slot_l1.eq_2] at h
        refine f_seq ?_
        refine f_region ?_
        refine lv S (rn_lss (S.tm rfl) (S.tm rfl)) rfl ?_; clear S; intro a S
        refine l_done ?_
        replace S := S.nf (L' := []) (K' := [(0, v_p_s1), (1, v_p_s2), (12, .int .i64 (p_s1.length : Int)), (13, .int .i64 (i1 : Int)), (14, .bool (decide ((i1 : Int) < (p_s1.length : Int))))]) [] rfl ⟨rfl, rfl, rfl, rfl, rfl, trivial⟩
        refine then_n ?_
        refine f_seq ?_
        refine wp_cond_true ((S.tm rfl).trans (congrArg Value.bool (rng_cons hd1 hi1))) ?_
        refine wp_skip ?_
        refine then_n ?_
        refine f_seq ?_
        refine wp_block ?_
        refine f_seq ?_
        refine f_region ?_
        refine lv S (rn_move (S.tm rfl)) rfl ?_; clear S; intro a S
        refine lv S (rn_assign (S.tm rfl)) rfl ?_; clear S; intro a S
        refine l_done ?_
        replace S := S.nf (L' := []) (K' := [(0, v_p_s1), (1, v_p_s2), (5, .int .i64 (i1 : Int)), (12, .int .i64 (p_s1.length : Int)), (13, .int .i64 (i1 : Int))]) [] rfl ⟨rfl, rfl, rfl, rfl, rfl, trivial⟩
        refine then_n ?_
        refine f_seq ?_
        refine d_region [] ([]) Tryd.mixed S rfl (by kernel_rfl) ?_; clear S; intro w3 hk1 hsel S
        refine d_rest [0, 1, 2, 3, 4, 5, 6, 7, 8] hsel (by kernel_rfl) rfl ?_
        clear hsel
        refine s_lv S rfl (rn_move (S.tm rfl)) rfl ?_; clear S; intro a S
        refine s_lv S rfl (rn_move (S.tm rfl)) rfl ?_; clear S; intro a S
        obtain ⟨b1, o1, hm1, hr1⟩ := rn_indexT (a := a) (x := .tmp 16) (y := .tmp 17) (ty := 0) sl_32 hs_p_s1 (get_mid hd1 hi1) rfl (S.tm rfl) (S.tm rfl)
        refine s_lv S rfl (hr1 _) rfl ?_; clear S; intro a S
        clear hr1
        refine s_lv S rfl (rn_ldA Tryd.isAgg41 Tryd.sizeOf41 (off := o1) (o := 0) (part := [.string y1.Item, .int .i64 y1.Heat, .int .i64 y1.Time.From, .int .i64 y1.Time.To]) rfl rfl (S.tm rfl) (hm1.at S.emb0)) rfl ?_; clear S; intro a S
        refine s_lv S rfl (rn_move (S.tm rfl)) rfl ?_; clear S; intro a S
        refine s_lv S rfl (rn_move (S.tm rfl)) rfl ?_; clear S; intro a S
        obtain ⟨hc1, h⟩ := chkE h
        obtain ⟨b2, o2, hm2, hr2⟩ := rn_indexT (a := a) (x := .tmp 20) (y := .tmp 21) (ty := 0) sl_32 hs_p_s2 (inB_get hc1).1 (inB_get hc1).2 (S.tm rfl) (S.tm rfl)
        refine s_lv S rfl (hr2 _) rfl ?_; clear S; intro a S
        clear hr2
        refine s_lv S rfl (rn_ldA Tryd.isAgg41 Tryd.sizeOf41 (off := o2) (o := 0) (part := [.string ((nth p_s2 (i1 : Int)).Item), .int .i64 ((nth p_s2 (i1 : Int)).Heat), .int .i64 (((nth p_s2 (i1 : Int)).Time).From), .int .i64 (((nth p_s2 (i1 : Int)).Time).To)]) rfl rfl (S.tm rfl) (hm2.at S.emb0)) rfl ?_; clear S; intro a S
        refine s_lv S rfl (rn_neq_41 (m := y1) (n := (GSlot.mk ((nth p_s2 (i1 : Int)).Item) ((nth p_s2 (i1 : Int)).Heat) ((nth p_s2 (i1 : Int)).Time))) (S.tm rfl) (S.tm rfl)) rfl ?_; clear S; intro a S
        refine s_done ?_
        replace S := S.nf (L' := []) (K' := [(0, v_p_s1), (1, v_p_s2), (12, .int .i64 (p_s1.length : Int)), (13, .int .i64 (i1 : Int)), (24, .bool (!decide (y1 = (GSlot.mk ((nth p_s2 (i1 : Int)).Item) ((nth p_s2 (i1 : Int)).Heat) ((nth p_s2 (i1 : Int)).Time)))))]) [] rfl ⟨rfl, rfl, rfl, rfl, rfl, trivial⟩
        refine then_n ?_
        refine f_cond (S.tm rfl) (fun hb2 => ?_) (fun hb2 => ?_)
        · replace h := iteT h hb2
          refine f_seq ?_
          refine f_region ?_
          refine lv S (rn_assign rfl) rfl ?_; clear S; intro a S
          refine l_done ?_
          replace S := S.nf (L' := []) (K' := [(4, .bool false)]) [] rfl ⟨rfl, trivial⟩
          refine then_n ?_
          refine wp_ret ?_
          refine blk_r ?_
          refine then_r ?_
          refine then_r ?_
          refine blk_r ?_
          refine then_r ?_
          refine then_r ?_
          obtain rfl := Option.some.inj h
          exact f_ret S Tryd.results19 rfl rfl
        · replace h := iteF h hb2
          refine wp_skip ?_
          refine blk_n ?_
          refine then_n ?_
          refine f_region ?_
          refine lv S (rn_add (S.tm rfl) rfl) rfl ?_; clear S; intro a S
          refine lv S (rn_move (S.tm rfl)) rfl ?_; clear S; intro a S
          refine l_done ?_
          replace S := S.nf (L' := []) (K' := [(0, v_p_s1), (1, v_p_s2), (12, .int .i64 (p_s1.length : Int)), (13, .int .i64 (W ((i1 : Int) + 1)))]) [] rfl ⟨rfl, rfl, rfl, rfl, trivial⟩
          refine then_n ?_
          exact ⟨ys1, ⟨i1 + 1, ⟨_, (hd1).trans (List.append_cons _ _ _), by simp [hi1]⟩, h, S.nf [] rfl ⟨rfl, rfl, rfl, (congrArg (fun z => some (Value.int .i64 z)) (rng_next hd1 hi1 (slc_max hs_p_s1))), trivial⟩⟩, Nat.lt_succ_self _⟩
    clear S h; rintro a w2 ⟨h, S⟩; rw [hj1] at h; clear hj1 j1
    refine then_n ?_
    refine f_seq ?_
    refine f_region ?_
    refine lv S (rn_assign rfl) rfl ?_; clear S; intro a S
    refine l_done ?_
    replace S := S.nf (L' := []) (K' := [(4, .bool true)]) [] rfl ⟨rfl, trivial⟩
    refine then_n ?_
    refine wp_ret ?_
    obtain rfl := Option.some.inj h
    exact f_ret S Tryd.results19 rfl rfl
theorem session_begin_ok (w : World) (v_p_l : Value) (p_l : List GItem) (hs_p_l : Slc (view w []) 5 v_p_l (p_l.map GItem.enc)) (p_from : Int) (r : (List GSlot) × Int) (h : session_begin p_l p_from = some r) :
    Calls Tryd.prog 56 [v_p_l, .int .i64 p_from].toArray w (Ret w [] fun τ v w' => ∃ u1 : Value, v = .tuple #[u1, .int .i64 r.2] ∧ OwnV τ 41 4 u1 r.1.length (r.1.flatMap GSlot.enc)) := by
  refine f_enter [] [] Tryd.func56 rfl Tryd.ntmps56 rfl (by simp) (by simp [fps]) (by simp [fps]) fun a S => ?_
  unfold session_begin at h
  replace S := S.nf (L' := []) (K' := [(0, v_p_l), (1, .int .i64 p_from)]) [] rfl ⟨rfl, rfl, trivial⟩
  refine f_seq ?_
  refine f_region ?_
  refine lv S (rn_assign rfl) rfl ?_; clear S; intro a S
  refine lv S (rn_assign rfl) rfl ?_; clear S; intro a S
  refine l_done ?_
  replace S := S.nf (L' := []) (K' := [(0, v_p_l), (1, .int .i64 p_from)]) [] rfl ⟨rfl, rfl, trivial⟩
  refine then_n ?_
  refine f_seq ?_
  refine f_seq ?_
  refine f_region ?_
  refine lv S (rn_move (S.tm rfl)) rfl ?_; clear S; intro a S
  refine l_enter S (fun _ => run_call (vs := [.int .i64 p_from]) ⟨(S.tm rfl), trivial⟩ Tryd.call28) (words_IsMoment_ok _ p_from _ rfl) rfl ?_; clear S; intro v1 a w1 hv1 hk1 hn1 S
  subst hv1
  refine lv S (rn_not (S.tm rfl)) rfl ?_; clear S; intro a S
  refine l_done ?_
  replace S := S.nf (L' := []) (K' := [(0, v_p_l), (1, .int .i64 p_from), (9, .bool (!(words_IsMoment p_from)))]) [] rfl ⟨rfl, rfl, rfl, trivial⟩
  refine then_n ?_
  refine f_cond (S.tm rfl) (fun hb1 => ?_) (fun hb1 => ?_)
  · replace h := iteT h hb1
    refine f_seq ?_
    refine f_region ?_
    refine lv S (rn_assign rfl) rfl ?_; clear S; intro a S
    refine lv S (rn_assign rfl) rfl ?_; clear S; intro a S
    refine l_done ?_
    replace S := S.nf (L' := []) (K' := [(4, .slice none 0 0), (5, .int .i64 1)]) [] rfl ⟨rfl, rfl, trivial⟩
    refine then_n ?_
    refine wp_ret ?_
    refine then_r ?_
    obtain rfl := Option.some.inj h
    exact f_ret2 S Tryd.results56 rfl rfl ⟨_, rfl, (ownV_nil _ _ _)⟩
  · replace h := iteF h hb1
    refine wp_skip ?_
    refine then_n ?_
    refine f_seq ?_
    refine f_region ?_
    refine lv S (rn_move (S.tm rfl)) rfl ?_; clear S; intro a S
    refine lv S (rn_move (S.tm rfl)) rfl ?_; clear S; intro a S
    obtain ⟨r1, hr1, h⟩ := bindE h
    have hz1 := S.keep.size
    refine l_enter S (fun _ => run_call (vs := [v_p_l, .int .i64 p_from]) ⟨(S.tm rfl), (S.tm rfl), trivial⟩ Tryd.call53) (session_timetable_ok _ v_p_l p_l (hs_p_l.mono (S.le_arg nil_sub)) p_from _ hr1) rfl ?_; clear S; intro v2 a w2 hv2 hk2 hn2 S
    obtain ⟨φ1, hl1, hm1, S⟩ := S.see' hn2 hz1
    have hs1 := hv2.mono hm1
    refine lv S (rn_assign (S.tm rfl)) rfl ?_; clear S; intro a S
    refine l_done ?_
    replace S := S.nf (L' := []) (K' := [(1, .int .i64 p_from), (6, v2)]) [] rfl ⟨rfl, rfl, trivial⟩
    refine then_n ?_
    refine f_seq ?_
    refine f_seq ?_
    refine f_region ?_
    refine lv S (rn_move (S.tm rfl)) rfl ?_; clear S; intro a S
    refine lv S (rn_move (S.tm rfl)) rfl ?_; clear S; intro a S
    obtain ⟨r2, hr2, h⟩ := bindE h
    refine l_enter S (fun _ => run_call (vs := [v2, .int .i64 p_from]) ⟨(S.tm rfl), (S.tm rfl), trivial⟩ Tryd.call27) (session_end_ok _ v2 r1 (((ownV_slcT GSlot.enc_ok hs1)).mono (S.le_new nil_sub)) p_from _ hr2) rfl ?_; clear S; intro v3 a w3 hv3 hk3 hn3 S
    subst hv3
    refine lv S (rn_gtr (S.tm rfl) rfl) rfl ?_; clear S; intro a S
    refine l_done ?_
    replace S := S.nf (L' := []) (K' := [(6, v2), (16, .bool (decide (345686400000 < r2)))]) [] rfl ⟨rfl, rfl, trivial⟩
    refine then_n ?_
    refine f_cond (S.tm rfl) (fun hb2 => ?_) (fun hb2 => ?_)
    · replace h := iteT h hb2
      refine f_seq ?_
      refine f_region ?_
      refine lv S (rn_assign rfl) rfl ?_; clear S; intro a S
      refine lv S (rn_assign rfl) rfl ?_; clear S; intro a S
      refine l_done ?_
      replace S := S.nf (L' := []) (K' := [(4, .slice none 0 0), (5, .int .i64 1)]) [] rfl ⟨rfl, rfl, trivial⟩
      refine then_n ?_
      refine wp_ret ?_
      refine then_r ?_
      obtain rfl := Option.some.inj h
      exact f_ret2 S Tryd.results56 rfl rfl ⟨_, rfl, (ownV_nil _ _ _)⟩
    · replace h := iteF h hb2
      refine wp_skip ?_
      refine then_n ?_
      refine f_seq ?_
      refine f_region ?_
      refine lv S (rn_move (S.tm rfl)) rfl ?_; clear S; intro a S
      refine lv S (rn_assign (S.tm rfl)) rfl ?_; clear S; intro a S
      refine lv S (rn_assign rfl) rfl ?_; clear S; intro a S
      refine l_done ?_
      replace S := S.nf (L' := []) (K' := [(4, v2), (5, .int .i64 0)]) [] rfl ⟨rfl, rfl, trivial⟩
      refine then_n ?_
      refine wp_ret ?_
      obtain rfl := Option.some.inj h
      exact f_ret2 S Tryd.results56 rfl rfl ⟨_, rfl, ((hs1).mono S.le_newer)⟩
theorem session_Timetable_ok (w : World) (v_p_l : Value) (p_l : List GItem) (hs_p_l : Slc (view w []) 5 v_p_l (p_l.map GItem.enc)) (p_from : Int) (r : (List GSlot) × Int) (h : session_Timetable p_l p_from = some r) :
    Calls Tryd.prog 52 [v_p_l, .int .i64 p_from].toArray w (Ret w [] fun τ v w' => ∃ u1 : Value, v = .tuple #[u1, .int .i64 r.2] ∧ OwnV τ 41 4 u1 r.1.length (r.1.flatMap GSlot.enc)) := by
  refine f_enter [] [] Tryd.func52 rfl Tryd.ntmps52 rfl (by simp) (by simp [fps]) (by simp [fps]) fun a S => ?_
  unfold session_Timetable at h
  replace S := S.nf (L' := []) (K' := [(0, v_p_l), (1, .int .i64 p_from)]) [] rfl ⟨rfl, rfl, trivial⟩
  refine f_seq ?_
  refine f_region ?_
  refine lv S (rn_assign rfl) rfl ?_; clear S; intro a S
  refine lv S (rn_assign rfl) rfl ?_; clear S; intro a S
  refine l_done ?_
  replace S := S.nf (L' := []) (K' := [(0, v_p_l), (1, .int .i64 p_from)]) [] rfl ⟨rfl, rfl, trivial⟩
  refine then_n ?_
  refine f_seq ?_
  refine f_seq ?_
  refine f_region ?_
  refine lv S (rn_move (S.tm rfl)) rfl ?_; clear S; intro a S
  obtain ⟨r1, hr1, h⟩ := bindE h
  refine l_enter S (fun _ => run_call (vs := [v_p_l]) ⟨(S.tm rfl), trivial⟩ Tryd.call34) (session_CheckItems_ok _ v_p_l p_l (hs_p_l.mono (S.le_arg nil_sub)) _ hr1) rfl ?_; clear S; intro v1 a w1 hv1 hk1 hn1 S
  subst hv1
  refine lv S (rn_assign (S.tm rfl)) rfl ?_; clear S; intro a S
  refine l_done ?_
  replace S := S.nf (L' := []) (K' := [(0, v_p_l), (1, .int .i64 p_from), (6, .int .i64 r1)]) [] rfl ⟨rfl, rfl, rfl, trivial⟩
  refine then_n ?_
  refine f_seq ?_
  refine f_region ?_
  refine lv S (rn_move (S.tm rfl)) rfl ?_; clear S; intro a S
  refine lv S (rn_neq (S.tm rfl) rfl) rfl ?_; clear S; intro a S
  refine l_done ?_
  replace S := S.nf (L' := []) (K' := [(0, v_p_l), (1, .int .i64 p_from), (6, .int .i64 r1), (10, .bool (!decide (r1 = 0)))]) [] rfl ⟨rfl, rfl, rfl, rfl, trivial⟩
  refine then_n ?_
  refine f_cond (S.tm rfl) (fun hb1 => ?_) (fun hb1 => ?_)
  · replace h := iteT h hb1
    refine f_seq ?_
    refine f_region ?_
    refine lv S (rn_move (S.tm rfl)) rfl ?_; clear S; intro a S
    refine lv S (rn_assign rfl) rfl ?_; clear S; intro a S
    refine lv S (rn_assign (S.tm rfl)) rfl ?_; clear S; intro a S
    refine l_done ?_
    replace S := S.nf (L' := []) (K' := [(4, .slice none 0 0), (5, .int .i64 r1)]) [] rfl ⟨rfl, rfl, trivial⟩
    refine then_n ?_
    refine wp_ret ?_
    refine then_r ?_
    obtain rfl := Option.some.inj h
    exact f_ret2 S Tryd.results52 rfl rfl ⟨_, rfl, (ownV_nil _ _ _)⟩
  · replace h := iteF h hb1
    refine wp_skip ?_
    refine then_n ?_
    refine f_seq ?_
    refine f_region ?_
    refine lv S (rn_move (S.tm rfl)) rfl ?_; clear S; intro a S
    refine lv S (rn_move (S.tm rfl)) rfl ?_; clear S; intro a S
    obtain ⟨r2, hr2, h⟩ := bindE h
    have hz1 := S.keep.size
    refine l_enter S (fun _ => run_call (vs := [v_p_l, .int .i64 p_from]) ⟨(S.tm rfl), (S.tm rfl), trivial⟩ Tryd.call56) (session_begin_ok _ v_p_l p_l (hs_p_l.mono (S.le_arg nil_sub)) p_from _ hr2) rfl ?_; clear S; intro v2 a w2 hv2 hk2 hn2 S
    obtain ⟨u1, rfl, ho1⟩ := hv2
    obtain ⟨φ1, hl1, hm1, S⟩ := S.see' hn2 hz1
    have hs1 := ho1.mono hm1
    refine lv S (rn_extract (S.tm rfl) rfl) rfl ?_; clear S; intro a S
    refine lv S (rn_extract (S.tm rfl) rfl) rfl ?_; clear S; intro a S
    refine lv S (rn_assign (S.tm rfl)) rfl ?_; clear S; intro a S
    refine lv S (rn_assign (S.tm rfl)) rfl ?_; clear S; intro a S
    refine l_done ?_
    replace S := S.nf (L' := []) (K' := [(4, u1), (5, .int .i64 r2.2)]) [] rfl ⟨rfl, rfl, trivial⟩
    refine then_n ?_
    refine wp_ret ?_
    obtain rfl := Option.some.inj h
    exact f_ret2 S Tryd.results52 rfl rfl ⟨_, rfl, ((hs1).mono S.le_newer)⟩
theorem session_Ends_ok (w : World) (v_p_l : Value) (p_l : List GItem) (hs_p_l : Slc (view w []) 5 v_p_l (p_l.map GItem.enc)) (p_from : Int) (r : Int × Int) (h : session_Ends p_l p_from = some r) :
    Calls Tryd.prog 41 [v_p_l, .int .i64 p_from].toArray w (Ret w [] fun τ v w' => v = .tuple #[.int .i64 r.1, .int .i64 r.2]) := by
  refine f_enter [] [] Tryd.func41 rfl Tryd.ntmps41 rfl (by simp) (by simp [fps]) (by simp [fps]) fun a S => ?_
  unfold session_Ends at h
  replace S := S.nf (L' := []) (K' := [(0, v_p_l), (1, .int .i64 p_from)]) [] rfl ⟨rfl, rfl, trivial⟩
  refine f_seq ?_
  refine f_region ?_
  refine lv S (rn_assign rfl) rfl ?_; clear S; intro a S
  refine lv S (rn_assign rfl) rfl ?_; clear S; intro a S
  refine l_done ?_
  replace S := S.nf (L' := []) (K' := [(0, v_p_l), (1, .int .i64 p_from)]) [] rfl ⟨rfl, rfl, trivial⟩
  refine then_n ?_
  refine f_seq ?_
  refine f_region ?_
  refine lv S (rn_move (S.tm rfl)) rfl ?_; clear S; intro a S
  refine lv S (rn_move (S.tm rfl)) rfl ?_; clear S; intro a S
  obtain ⟨r1, hr1, h⟩ := bindE h
  have hz1 := S.keep.size
  refine l_enter S (fun _ => run_call (vs := [v_p_l, .int .i64 p_from]) ⟨(S.tm rfl), (S.tm rfl), trivial⟩ Tryd.call52) (session_Timetable_ok _ v_p_l p_l (hs_p_l.mono (S.le_arg nil_sub)) p_from _ hr1) rfl ?_; clear S; intro v1 a w1 hv1 hk1 hn1 S
  obtain ⟨u1, rfl, ho1⟩ := hv1
  obtain ⟨φ1, hl1, hm1, S⟩ := S.see' hn1 hz1
  have hs1 := ho1.mono hm1
  refine lv S (rn_move (S.tm rfl)) rfl ?_; clear S; intro a S
  refine lv S (rn_extract (S.tm rfl) rfl) rfl ?_; clear S; intro a S
  refine lv S (rn_extract (S.tm rfl) rfl) rfl ?_; clear S; intro a S
  refine lv S (rn_assign (S.tm rfl)) rfl ?_; clear S; intro a S
  refine lv S (rn_assign (S.tm rfl)) rfl ?_; clear S; intro a S
  refine l_done ?_
  replace S := S.nf (L' := []) (K' := [(1, .int .i64 p_from), (6, u1), (7, .int .i64 r1.2)]) [] rfl ⟨rfl, rfl, rfl, trivial⟩
  refine then_n ?_
  refine f_seq ?_
  refine f_seq ?_
  refine f_region ?_
  refine lv S (rn_move (S.tm rfl)) rfl ?_; clear S; intro a S
  refine lv S (rn_neq (S.tm rfl) rfl) rfl ?_; clear S; intro a S
  refine l_done ?_
  replace S := S.nf (L' := []) (K' := [(1, .int .i64 p_from), (6, u1), (7, .int .i64 r1.2), (15, .bool (!decide (r1.2 = 0)))]) [] rfl ⟨rfl, rfl, rfl, rfl, trivial⟩
  refine then_n ?_
  refine f_cond (S.tm rfl) (fun hb1 => ?_) (fun hb1 => ?_)
  · replace h := iteT h hb1
    refine f_seq ?_
    refine f_region ?_
    refine lv S (rn_move (S.tm rfl)) rfl ?_; clear S; intro a S
    refine lv S (rn_assign rfl) rfl ?_; clear S; intro a S
    refine lv S (rn_assign (S.tm rfl)) rfl ?_; clear S; intro a S
    refine l_done ?_
    replace S := S.nf (L' := []) (K' := [(4, .int .i64 0), (5, .int .i64 r1.2)]) [] rfl ⟨rfl, rfl, trivial⟩
    refine then_n ?_
    refine wp_ret ?_
    refine then_r ?_
    obtain rfl := Option.some.inj h
    exact f_ret2 S Tryd.results41 rfl rfl rfl
  · replace h := iteF h hb1
    refine wp_skip ?_
    refine then_n ?_
    refine f_seq ?_
    refine f_region ?_
    refine lv S (rn_move (S.tm rfl)) rfl ?_; clear S; intro a S
    refine lv S (rn_move (S.tm rfl)) rfl ?_; clear S; intro a S
    obtain ⟨r2, hr2, h⟩ := bindE h
    refine l_enter S (fun _ => run_call (vs := [u1, .int .i64 p_from]) ⟨(S.tm rfl), (S.tm rfl), trivial⟩ Tryd.call27) (session_end_ok _ u1 r1.1 (((ownV_slcT GSlot.enc_ok hs1)).mono (S.le_new nil_sub)) p_from _ hr2) rfl ?_; clear S; intro v2 a w2 hv2 hk2 hn2 S
    subst hv2
    refine lv S (rn_assign (S.tm rfl)) rfl ?_; clear S; intro a S
    refine lv S (rn_assign rfl) rfl ?_; clear S; intro a S
    refine l_done ?_
    replace S := S.nf (L' := []) (K' := [(4, .int .i64 r2), (5, .int .i64 0)]) [] rfl ⟨rfl, rfl, trivial⟩
    refine then_n ?_
    refine wp_ret ?_
    obtain rfl := Option.some.inj h
    exact f_ret2 S Tryd.results41 rfl rfl rfl
theorem tumblaw2_timed_ok (w : World) (r : Bool) (h : tumblaw2_timed = some r) :
    Calls Tryd.prog 20 [].toArray w (Ret w [] fun τ v w' => v = .bool r) := by
  refine f_enter [] [] Tryd.func20 rfl Tryd.ntmps20 rfl (by simp) (by simp [fps]) (by simp [fps]) fun a S => ?_
  unfold tumblaw2_timed at h
  replace S := S.nf (L' := []) (K' := []) [] rfl trivial
  refine f_seq ?_
  refine f_region ?_
  refine lv S (rn_assign rfl) rfl ?_; clear S; intro a S
  refine l_done ?_
  replace S := S.nf (L' := []) (K' := []) [] rfl trivial
  refine then_n ?_
  refine f_seq ?_
  refine f_region ?_
  refine lv S (rn_bld bt_58 (pv := [(0, .string k_a), (1, .int .i64 2), (2, .int .i64 10), (3, .int .i64 5)]) ⟨rfl, rfl, rfl, rfl, rfl, rfl, rfl, rfl, trivial⟩ (cs := [.string k_a, .int .i64 2, .int .i64 10, .int .i64 5, .int .i64 0]) (by kernel_rfl)) rfl ?_; clear S; intro a S
  refine l_buildSlice S Tryd.underlying26 Tryd.sizeOf58 Tryd.zeroValue58 rfl rfl (pv := [(0, .agg #[.string k_a, .int .i64 2, .int .i64 10, .int .i64 5, .int .i64 0])]) ⟨rfl, (S.tm rfl), trivial⟩ (cs := [.string k_a, .int .i64 2, .int .i64 10, .int .i64 5, .int .i64 0]) (by kernel_rfl) rfl ?_; clear S; intro a w1 b1 hz1 hk1 S
  obtain ⟨r1, hr1, h⟩ := bindE h
  refine l_enter S (fun _ => run_call (vs := [.slice (some ⟨b1, 0, none⟩) 1 1, .int .i64 0]) ⟨(S.tm rfl), rfl, trivial⟩ Tryd.call41) (session_Ends_ok _ (.slice (some ⟨b1, 0, none⟩) 1 1) [(GItem.mk k_a 2 10 5 0)] (lit_slcT GItem.enc_ok S (i := 0) rfl rfl rfl rfl ((ne_nil (e' := .blk b1 [.string k_a, .int .i64 2, .int .i64 10, .int .i64 5, .int .i64 0] 58)) _ rfl)) 0 _ hr1) rfl ?_; clear S; intro v1 a w2 hv1 hk2 hn1 S
  subst hv1
  refine lv S (rn_move (S.tm rfl)) rfl ?_; clear S; intro a S
  refine lv S (rn_extract (S.tm rfl) rfl) rfl ?_; clear S; intro a S
  refine lv S (rn_extract (S.tm rfl) rfl) rfl ?_; clear S; intro a S
  refine lv S (rn_assign (S.tm rfl)) rfl ?_; clear S; intro a S
  refine lv S (rn_assign (S.tm rfl)) rfl ?_; clear S; intro a S
  refine l_done ?_
  replace S := S.nf (L' := []) (K' := [(1, .int .i64 r1.1), (2, .int .i64 r1.2)]) [false] rfl ⟨rfl, rfl, trivial⟩
  refine then_n ?_
  refine f_seq ?_
  refine f_region ?_
  refine lv S (rn_move (S.tm rfl)) rfl ?_; clear S; intro a S
  refine lv S (rn_eql (S.tm rfl) rfl) rfl ?_; clear S; intro a S
  refine lv S (rn_move (S.tm rfl)) rfl ?_; clear S; intro a S
  refine f_cutm 3 (fun a w' => Keep [] w2 w' ∧ Sx w [] nov [] [(14, .bool ((decide (r1.2 = 0)) && (decide (r1.1 = 25))))] 15 a w') ?_ ?_
  · rcases Bool.eq_false_or_eq_true (decide (r1.2 = 0)) with hb1 | hb1
    · refine l_want S rfl rfl rfl hb1 ?_
      refine lv S (rn_move (S.tm rfl)) rfl ?_; clear S; intro a S
      refine l_want S rfl rfl rfl hb1 ?_
      refine lv S (rn_eql (S.tm rfl) rfl) rfl ?_; clear S; intro a S
      refine lv S (rn_and_t hb1 (S.tm rfl) (S.tm rfl)) rfl ?_; clear S; intro a S
      refine l_done ?_
      refine then_n ?_
      exact ⟨Keep.refl _ _, S.nf [] rfl ⟨rfl, trivial⟩⟩
    · refine l_skip S rfl rfl rfl (neq_f hb1) rfl ?_ rfl; clear S; intro a S
      refine l_skip S rfl rfl rfl (neq_f hb1) rfl ?_ rfl; clear S; intro a S
      refine lv S (rn_and_f (decide (r1.1 = 25)) hb1 (S.tm rfl) rfl) rfl ?_; clear S; intro a S
      refine l_done ?_
      refine then_n ?_
      exact ⟨Keep.refl _ _, S.nf [] rfl ⟨rfl, trivial⟩⟩
  clear S; rintro a w3 ⟨hk3, S⟩
  refine lv S (rn_assign (S.tm rfl)) rfl ?_; clear S; intro a S
  refine l_done ?_
  replace S := S.nf (L' := []) (K' := [(0, .bool ((decide (r1.2 = 0)) && (decide (r1.1 = 25))))]) [] rfl ⟨rfl, trivial⟩
  refine then_n ?_
  refine wp_ret ?_
  obtain rfl := Option.some.inj h
  exact f_ret S Tryd.results20 rfl rfl
end Go.Proofs.YthckagkkjdabeaaDoor
