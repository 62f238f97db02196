/- Each Go function computes its plain twin, by program. -/
import Derived.Test.YtoffbgomfcmfmaaGreatDoorWk1
namespace Go.Proofs.YtoffbgomfcmfmaaGreatDoor
open Go
theorem session_calls_ok (w : World) (b_p_at : Nat) (p_at : List (Gsession_heat × GSlot)) (hb_p_at : (view w []) b_p_at = some (.map (ments (fun x => Value.agg (Gsession_heat.enc x).toArray) (fun x => Value.agg (GSlot.enc x).toArray) p_at) p_at.length)) (v_p_l : Value) (p_l : List GCall) (hs_p_l : Slc (view w []) 3 v_p_l (p_l.map GCall.enc)) (p_who : ByteArray) (r : (List GSlot)) (h : session_calls p_at p_l p_who = some r) :
    Calls Tryz.prog 34 [.map (some b_p_at), v_p_l, sV p_who].toArray w (Ret w [] fun τ v _ => OwnV τ 57 4 v r.length (r.flatMap GSlot.enc)) := by
 refine f_enter [] [] Tryz.func34 rfl Tryz.ntmps34 rfl (by simp) (by simp [fps]) (by simp [fps]) fun a S => ?_
 unfold session_calls at h
 replace S := S.nk [] [(0, .map (some b_p_at)), (1, v_p_l), (2, sV p_who)] [] rfl (subR rfl)
 refine f_seq (f_region (lv S (rn_assign rfl) rfl ?_)); clear S; intro a S
 refine l_done (then_n (f_seq (f_region (lv S (rn_assign rfl) rfl ?_)))); clear S; intro a S
 replace S := S.nil 57 4
 refine l_done (then_n (f_seq (f_seq (f_region (lv S (rn_move (S.tm rfl)) rfl ?_))))); clear S; intro a S
 refine lv S (rn_lenT sl_30 (S.tm rfl) (slc_len hs_p_l)) rfl ?_; clear S; intro a S
 refine lv S (rn_move rfl) rfl ?_; clear S; intro a S
 refine l_done (then_n ?_)
 replace S := S.nk [.own (.slice none 0 0) 57 4 ([] : List GSlot).length (([] : List GSlot).flatMap GSlot.enc)] [(0, .map (some b_p_at)), (2, sV p_who), (7, (.slice none 0 0)), (10, v_p_l), (11, iV (p_l.length : Int)), (12, iV 0)] [true] rfl (subR rfl)
 obtain ⟨j1, hj1, h⟩ := joinE h
 refine f_join (fun a w' => ∃ x1 : List GSlot, ∃ v1 : Value, j1 x1 = some r ∧ Sx w [] nov [.own v1 57 4 x1.length (x1.flatMap GSlot.enc)] [(7, v1)] 34 a w') ?_ ?_
 ·refine wp_block (f_loop (fun (ys1 : List GCall) a w' => ∃ i1 : Nat, ∃ x1 : List GSlot, ∃ v1 : Value, (∃ dn, p_l = dn ++ ys1 ∧ dn.length = i1) ∧ session_calls_l1 p_who p_at j1 ys1 i1 x1 = some r ∧ Sx w [] nov [.own v1 57 4 x1.length (x1.flatMap GSlot.enc)] [(0, .map (some b_p_at)), (2, sV p_who), (7, v1), (10, v_p_l), (11, iV (p_l.length : Int)), (12, iV (i1 : Int))] 34 a w') List.length p_l ⟨0, ([] : List GSlot), (.slice none 0 0), ⟨[], rfl, rfl⟩, h, S.nf [true] rfl (subR rfl)⟩ ?_)
  clear S h; rintro ys1 a w1 ⟨i1, x1, v1, ⟨dn, hd1, hi1⟩, h, S⟩
  cases ys1 with
  | nil =>
   rw [session_calls_l1.eq_1] at h
   refine f_seq (f_region (lv S (rn_lss (S.tm rfl) (S.tm rfl)) rfl ?_)); clear S; intro a S
   refine l_done ?_
   replace S := S.nk [.own v1 57 4 x1.length (x1.flatMap GSlot.enc)] [(0, .map (some b_p_at)), (2, sV p_who), (7, v1), (10, v_p_l), (11, iV (p_l.length : Int)), (12, iV (i1 : Int)), (13, bV (decide ((i1 : Int) < (p_l.length : Int))))] [true] rfl (subR rfl)
   refine then_n (f_seq (wp_cond_false ((S.tm rfl).trans (congrArg Value.bool (rng_nil hd1 hi1))) (wp_exit (then_x (then_x (x_same ?_))))))
   refine then_n ?_
   exact ⟨x1, v1, h, S.nf [true] rfl ⟨rfl, trivial⟩⟩
  | cons y1 ys1 =>
   rw [session_calls_l1.eq_2] at h
   refine f_seq (f_region (lv S (rn_lss (S.tm rfl) (S.tm rfl)) rfl ?_)); clear S; intro a S
   refine l_done ?_
   replace S := S.nk [.own v1 57 4 x1.length (x1.flatMap GSlot.enc)] [(0, .map (some b_p_at)), (2, sV p_who), (7, v1), (10, v_p_l), (11, iV (p_l.length : Int)), (12, iV (i1 : Int)), (13, bV (decide ((i1 : Int) < (p_l.length : Int))))] [true] rfl (subR rfl)
   refine then_n (f_seq (wp_cond_true ((S.tm rfl).trans (congrArg Value.bool (rng_cons hd1 hi1))) (wp_skip (then_n (f_seq ?_)))))
   obtain ⟨j2, hj2, h⟩ := joinE h
   refine f_join (fun a w' => ∃ x2 : List GSlot, ∃ v2 : Value, j2 x2 = some r ∧ Sx w [] nov [.own v2 57 4 x2.length (x2.flatMap GSlot.enc)] [(0, .map (some b_p_at)), (2, sV p_who), (7, v2), (10, v_p_l), (11, iV (p_l.length : Int)), (12, iV (i1 : Int))] 34 a w') ?_ ?_
   ·refine wp_block (f_seq (f_region ?_))
    obtain ⟨b1, o1, hm1, hr1⟩ := rn_indexT (a := a) (x := .tmp 10) (y := .tmp 12) (ty := 0) sl_30 hs_p_l (get_mid hd1 hi1) rfl (S.tm rfl) (S.tm rfl)
    refine lv S (hr1 _) rfl ?_; clear S; intro a S
    clear hr1
    refine lv S (rn_ldA Tryz.isAgg74 Tryz.sizeOf74 (off := o1) (o := 0) (part := (GCall.enc y1)) rfl rfl (S.tm rfl) (hm1.at S.emb0)) rfl ?_; clear S; intro a S
    refine l_alloc S Tryz.zeroValue74 (cs := [sV k_empty, sV k_empty, iV 0]) rfl rfl ?_; clear S; intro a w4 b2 hz1 hk1 S
    refine l_store S (S.tm rfl) (S.tm rfl) (i := 0) (off := 0) rfl Tryz.sizeOf74 (vs := (GCall.enc y1)) rfl rfl rfl rfl ?_; clear S; intro w5 hk2 S
    refine l_done (then_n (f_seq (f_region (lv S (rn_fld fa_74_0 (S.tm rfl)) rfl ?_)))); clear S; intro a S
    refine lv S (rn_load Tryz.isAgg9 (S.tm rfl) (S.cell (i := 0) rfl rfl)) rfl ?_; clear S; intro a S
    refine lv S (rn_move (S.tm rfl)) rfl ?_; clear S; intro a S
    refine lv S (rn_seql (S.tm rfl) (S.tm rfl)) rfl ?_; clear S; intro a S
    refine l_done (then_n ?_)
    obtain ⟨j3, hj3, h⟩ := joinE h
    refine f_join (fun a w' => ∃ x3 : List GSlot, ∃ v3 : Value, j3 x3 = some r ∧ Sx w [] nov [.own v3 57 4 x3.length (x3.flatMap GSlot.enc)] [(0, .map (some b_p_at)), (2, sV p_who), (7, v3), (10, v_p_l), (11, iV (p_l.length : Int)), (12, iV (i1 : Int))] 34 a w') ?_ ?_
    ·refine f_cond (S.tm rfl) (fun hb1 => ?_) (fun hb1 => ?_)
     ·replace h := iteT h hb1
      refine f_region (lv S (rn_move (S.tm rfl)) rfl ?_); clear S; intro a S
      refine lv S (rn_move (S.tm rfl)) rfl ?_; clear S; intro a S
      refine lv S (rn_fld fa_74_1 (S.tm rfl)) rfl ?_; clear S; intro a S
      refine lv S (rn_load Tryz.isAgg9 (S.tm rfl) (S.cell (i := 0) rfl rfl)) rfl ?_; clear S; intro a S
      refine lv S (rn_fld fa_74_2 (S.tm rfl)) rfl ?_; clear S; intro a S
      refine lv S (rn_load Tryz.isAgg3 (S.tm rfl) (S.cell (i := 0) rfl rfl)) rfl ?_; clear S; intro a S
      refine lv S (rn_bld bt_109 (pv := [(0, sV y1.Item), (1, iV y1.Heat)]) ⟨rfl, (S.tm rfl), rfl, (S.tm rfl), trivial⟩ (cs := [sV y1.Item, iV y1.Heat]) (by kernel_rfl)) rfl ?_; clear S; intro a S
      refine lv S (rn_lookup (kv := (fun x => Value.agg (Gsession_heat.enc x).toArray)) (vv := (fun x => Value.agg (GSlot.enc x).toArray)) (m := p_at) (key := (Gsession_heat.mk y1.Item y1.Heat)) (z := (GSlot.mk k_empty 0 (GWindow.mk 0 0))) (S.emb0 _ _ hb_p_at) Tryz.underlying79 keyT_109 Tryz.zeroValue57 (S.tm rfl) (S.tm rfl)) rfl ?_; clear S; intro a S
      refine l_buildSlice S Tryz.underlying33 Tryz.sizeOf57 Tryz.zeroValue57 rfl rfl (pv := [(0, .agg (GSlot.enc (mgetD p_at (Gsession_heat.mk y1.Item y1.Heat) (GSlot.mk k_empty 0 (GWindow.mk 0 0)))).toArray)]) ⟨rfl, (S.tm rfl), trivial⟩ (cs := [sV ((mgetD p_at (Gsession_heat.mk y1.Item y1.Heat) (GSlot.mk k_empty 0 (GWindow.mk 0 0))).Item), iV ((mgetD p_at (Gsession_heat.mk y1.Item y1.Heat) (GSlot.mk k_empty 0 (GWindow.mk 0 0))).Heat), iV (((mgetD p_at (Gsession_heat.mk y1.Item y1.Heat) (GSlot.mk k_empty 0 (GWindow.mk 0 0))).Time).From), iV (((mgetD p_at (Gsession_heat.mk y1.Item y1.Heat) (GSlot.mk k_empty 0 (GWindow.mk 0 0))).Time).To)]) (by kernel_rfl) rfl ?_; clear S; intro a w7 b3 hz2 hk3 S
      obtain ⟨hc1, h⟩ := chkE h
      refine l_appendT sl_33 GSlot.enc_ok S (S.tm rfl) (i := 2) rfl (S.tm rfl) (j := 0) rfl (ys := [(GSlot.mk ((mgetD p_at (Gsession_heat.mk y1.Item y1.Heat) (GSlot.mk k_empty 0 (GWindow.mk 0 0))).Item) ((mgetD p_at (Gsession_heat.mk y1.Item y1.Heat) (GSlot.mk k_empty 0 (GWindow.mk 0 0))).Heat) ((mgetD p_at (Gsession_heat.mk y1.Item y1.Heat) (GSlot.mk k_empty 0 (GWindow.mk 0 0))).Time))]) rfl rfl rfl rfl (by have := room_lt hc1; omega) rfl ?_; clear S; intro v4 a w8 hk4 S
      refine lv S (rn_assign (S.tm rfl)) rfl ?_; clear S; intro a S
      refine l_done ?_
      replace S := S.nk [.own v4 57 4 (x1 ++ [(GSlot.mk ((mgetD p_at (Gsession_heat.mk y1.Item y1.Heat) (GSlot.mk k_empty 0 (GWindow.mk 0 0))).Item) ((mgetD p_at (Gsession_heat.mk y1.Item y1.Heat) (GSlot.mk k_empty 0 (GWindow.mk 0 0))).Heat) ((mgetD p_at (Gsession_heat.mk y1.Item y1.Heat) (GSlot.mk k_empty 0 (GWindow.mk 0 0))).Time))]).length ((x1 ++ [(GSlot.mk ((mgetD p_at (Gsession_heat.mk y1.Item y1.Heat) (GSlot.mk k_empty 0 (GWindow.mk 0 0))).Item) ((mgetD p_at (Gsession_heat.mk y1.Item y1.Heat) (GSlot.mk k_empty 0 (GWindow.mk 0 0))).Heat) ((mgetD p_at (Gsession_heat.mk y1.Item y1.Heat) (GSlot.mk k_empty 0 (GWindow.mk 0 0))).Time))]).flatMap GSlot.enc)] [(0, .map (some b_p_at)), (2, sV p_who), (7, v4), (10, v_p_l), (11, iV (p_l.length : Int)), (12, iV (i1 : Int))] [false, false, true] rfl (subR rfl)
      refine then_n ?_
      exact ⟨(x1 ++ [(GSlot.mk ((mgetD p_at (Gsession_heat.mk y1.Item y1.Heat) (GSlot.mk k_empty 0 (GWindow.mk 0 0))).Item) ((mgetD p_at (Gsession_heat.mk y1.Item y1.Heat) (GSlot.mk k_empty 0 (GWindow.mk 0 0))).Heat) ((mgetD p_at (Gsession_heat.mk y1.Item y1.Heat) (GSlot.mk k_empty 0 (GWindow.mk 0 0))).Time))]), v4, h, S.nf [true] rfl (subR rfl)⟩
     ·replace h := iteF h hb1
      refine wp_skip (then_n ?_)
      exact ⟨x1, v1, h, S.nf [false, true] rfl (subR rfl)⟩
    clear S h; rintro a w6 ⟨x3, v3, h, S⟩; rw [hj3] at h; clear hj3 j3
    refine blk_n (then_n ?_)
    exact ⟨x3, v3, h, S.nf [true] rfl (subR rfl)⟩
   clear S h; rintro a w3 ⟨x2, v2, h, S⟩; rw [hj2] at h; clear hj2 j2
   refine then_n (f_region (lv S (rn_add (S.tm rfl) rfl) rfl ?_)); clear S; intro a S
   refine lv S (rn_move (S.tm rfl)) rfl ?_; clear S; intro a S
   refine l_done (then_n ?_)
   exact ⟨ys1, ⟨i1 + 1, x2, v2, ⟨_, (hd1).trans (List.append_cons _ _ _), by simp [hi1]⟩, h, S.nf [true] rfl ⟨rfl, rfl, rfl, rfl, rfl, (congrArg (fun z => some (Value.int .i64 z)) (rng_next hd1 hi1 (slc_max hs_p_l))), trivial⟩⟩, Nat.lt_succ_self _⟩
 clear S h; rintro a w2 ⟨x1, v1, h, S⟩; rw [hj1] at h; clear hj1 j1
 refine then_n (f_seq (f_region (lv S (rn_move (S.tm rfl)) rfl ?_))); clear S; intro a S
 obtain ⟨r1, hr2, h⟩ := bindE h
 refine l_enterO 0 S rfl (fun _ => .own v1 57 4 r1.length (r1.flatMap GSlot.enc)) (fun _ => run_call (vs := [v1, .func (.func 74) #[] #[]]) ⟨(S.tm rfl), rfl, trivial⟩ Tryz.call73) (slices_SortFunc_Slot_session_calls_c1_ok _ v1 x1 (S.holds _ (List.mem_of_getElem? (i := 0) rfl)) _ hr2) rfl (fun _ _ _ h => ⟨h.1, fun _ hc => hc⟩) ?_; clear S; intro v5 a w9 hv1 hk5 hn1 S
 replace hv1 := hv1.2
 subst hv1
 refine l_done (then_n (f_seq (f_region (lv S (rn_move (S.tm rfl)) rfl ?_)))); clear S; intro a S
 refine lv S (rn_assign (S.tm rfl)) rfl ?_; clear S; intro a S
 refine l_done (then_n (wp_ret ?_))
 obtain rfl := Option.some.inj h
 exact f_ret S Tryz.results34 rfl (own_retT S (i := 0) rfl rfl)
theorem session_Calls_ok (w : World) (v_p_items : Value) (p_items : List GItem) (hs_p_items : Slc (view w []) 5 v_p_items (p_items.map GItem.enc)) (v_p_l : Value) (p_l : List GCall) (hs_p_l : Slc (view w []) 3 v_p_l (p_l.map GCall.enc)) (p_who : ByteArray) (p_from : Int) (r : (List GSlot) × Int) (h : session_Calls p_items p_l p_who p_from = some r) :
    Calls Tryz.prog 9 [v_p_items, v_p_l, sV p_who, iV p_from].toArray w (Ret w [] fun τ v _ => ∃ u1 : Value, v = .tuple #[u1, iV r.2] ∧ OwnV τ 57 4 u1 r.1.length (r.1.flatMap GSlot.enc)) := by
 refine f_enter [] [] Tryz.func9 rfl Tryz.ntmps9 rfl (by simp) (by simp [fps]) (by simp [fps]) fun a S => ?_
 unfold session_Calls at h
 replace S := S.nk [] [(0, v_p_items), (1, v_p_l), (2, sV p_who), (3, iV p_from)] [] rfl (subR rfl)
 refine f_seq (f_region (lv S (rn_assign rfl) rfl ?_)); clear S; intro a S
 refine lv S (rn_assign rfl) rfl ?_; clear S; intro a S
 refine l_done (then_n (f_seq (f_seq (f_region (lv S (rn_move (S.tm rfl)) rfl ?_))))); clear S; intro a S
 refine lv S (rn_move (S.tm rfl)) rfl ?_; clear S; intro a S
 obtain ⟨r1, hr1, h⟩ := bindE h
 refine l_enter S (fun _ => run_call (vs := [v_p_items, v_p_l]) ⟨(S.tm rfl), (S.tm rfl), trivial⟩ Tryz.call22) (session_CheckSwims_ok _ v_p_items p_items (hs_p_items.mono (S.le_arg nil_sub)) v_p_l p_l (hs_p_l.mono (S.le_arg nil_sub)) _ hr1) rfl ?_; clear S; intro v1 a w1 hv1 hk1 hn1 S
 subst hv1
 refine lv S (rn_assign (S.tm rfl)) rfl ?_; clear S; intro a S
 refine l_done (then_n (f_seq (f_region (lv S (rn_move (S.tm rfl)) rfl ?_)))); clear S; intro a S
 refine lv S (rn_neq (S.tm rfl) rfl) rfl ?_; clear S; intro a S
 refine l_done (then_n (f_cond (S.tm rfl) (fun hb1 => ?_) (fun hb1 => ?_)))
 ·replace h := iteT h hb1
  refine f_seq (f_region (lv S (rn_move (S.tm rfl)) rfl ?_)); clear S; intro a S
  refine lv S (rn_assign rfl) rfl ?_; clear S; intro a S
  refine lv S (rn_assign (S.tm rfl)) rfl ?_; clear S; intro a S
  refine l_done (then_n (wp_ret (then_r ?_)))
  obtain rfl := Option.some.inj h
  exact f_ret2 S Tryz.results9 rfl rfl ⟨_, rfl, (ownV_nil _ _ _)⟩
 ·replace h := iteF h hb1
  refine wp_skip (then_n (f_seq (f_seq (f_region (lv S (rn_move (S.tm rfl)) rfl ?_))))); clear S; intro a S
  obtain ⟨r2, hr2, h⟩ := bindE h
  refine l_enter S (fun _ => run_call (vs := [sV p_who]) ⟨(S.tm rfl), trivial⟩ Tryz.call32) (words_IsKey_ok _ p_who _ hr2) rfl ?_; clear S; intro v2 a w2 hv2 hk2 hn2 S
  subst hv2
  refine lv S (rn_not (S.tm rfl)) rfl ?_; clear S; intro a S
  refine l_done ?_
  replace S := S.nk [] [(0, v_p_items), (1, v_p_l), (2, sV p_who), (3, iV p_from), (21, bV (!r2))] [] rfl (subR rfl)
  refine then_n (f_cond (S.tm rfl) (fun hb2 => ?_) (fun hb2 => ?_))
  ·replace h := iteT h hb2
   refine f_seq (f_region (lv S (rn_assign rfl) rfl ?_)); clear S; intro a S
   refine lv S (rn_assign rfl) rfl ?_; clear S; intro a S
   refine l_done (then_n (wp_ret (then_r ?_)))
   obtain rfl := Option.some.inj h
   exact f_ret2 S Tryz.results9 rfl rfl ⟨_, rfl, (ownV_nil _ _ _)⟩
  ·replace h := iteF h hb2
   refine wp_skip (then_n (f_seq (f_region (lv S (rn_move (S.tm rfl)) rfl ?_)))); clear S; intro a S
   refine lv S (rn_move (S.tm rfl)) rfl ?_; clear S; intro a S
   obtain ⟨r3, hr3, h⟩ := bindE h
   have hz1 := S.keep.size
   refine l_enter S (fun _ => run_call (vs := [v_p_items, iV p_from]) ⟨(S.tm rfl), (S.tm rfl), trivial⟩ Tryz.call33) (session_begin_ok _ v_p_items p_items (hs_p_items.mono (S.le_arg nil_sub)) p_from _ hr3) rfl ?_; clear S; intro v3 a w3 hv3 hk3 hn3 S
   obtain ⟨u1, rfl, ho1⟩ := hv3
   obtain ⟨φ1, hl1, hm1, S⟩ := S.see' hn3 hz1
   have hs1 := ho1.mono hm1
   refine lv S (rn_move (S.tm rfl)) rfl ?_; clear S; intro a S
   refine lv S (rn_extract (S.tm rfl) rfl) rfl ?_; clear S; intro a S
   refine lv S (rn_extract (S.tm rfl) rfl) rfl ?_; clear S; intro a S
   refine lv S (rn_assign (S.tm rfl)) rfl ?_; clear S; intro a S
   refine lv S (rn_assign (S.tm rfl)) rfl ?_; clear S; intro a S
   refine l_done (then_n (f_seq (f_seq (f_region (lv S (rn_move (S.tm rfl)) rfl ?_))))); clear S; intro a S
   refine lv S (rn_neq (S.tm rfl) rfl) rfl ?_; clear S; intro a S
   refine l_done ?_
   replace S := S.nk [] [(1, v_p_l), (2, sV p_who), (11, u1), (12, iV r3.2), (29, bV (!decide (r3.2 = 0)))] [] rfl (subR rfl)
   refine then_n (f_cond (S.tm rfl) (fun hb3 => ?_) (fun hb3 => ?_))
   ·replace h := iteT h hb3
    refine f_seq (f_region (lv S (rn_move (S.tm rfl)) rfl ?_)); clear S; intro a S
    refine lv S (rn_assign rfl) rfl ?_; clear S; intro a S
    refine lv S (rn_assign (S.tm rfl)) rfl ?_; clear S; intro a S
    refine l_done (then_n (wp_ret (then_r ?_)))
    obtain rfl := Option.some.inj h
    exact f_ret2 S Tryz.results9 rfl rfl ⟨_, rfl, (ownV_nil _ _ _)⟩
   ·replace h := iteF h hb3
    refine wp_skip (then_n (f_seq (f_region (lv S (rn_move (S.tm rfl)) rfl ?_)))); clear S; intro a S
    have hz2 := S.keep.size
    refine l_enter S (fun _ => run_call (vs := [u1]) ⟨(S.tm rfl), trivial⟩ Tryz.call35) (session_slots_ok _ u1 r3.1 ((ownV_slcT GSlot.enc_ok hs1).mono (S.le_new nil_sub)) _ rfl) rfl ?_; clear S; intro v4 a w4 hv4 hk4 hn4 S
    obtain ⟨φ2, hl2, hm2, S⟩ := S.see' hn4 hz2
    obtain ⟨b1, rfl, hq1⟩ := hv4
    replace hq1 := hm2 _ _ hq1
    refine lv S (rn_move (S.tm rfl)) rfl ?_; clear S; intro a S
    refine lv S (rn_move (S.tm rfl)) rfl ?_; clear S; intro a S
    obtain ⟨r4, hr4, h⟩ := bindE h
    have hz3 := S.keep.size
    refine l_enter S (fun _ => run_call (vs := [.map (some b1), v_p_l, sV p_who]) ⟨(S.tm rfl), (S.tm rfl), (S.tm rfl), trivial⟩ Tryz.call34) (session_calls_ok _ b1 (session_slots r3.1) ((S.le_new nil_sub) _ _ hq1) v_p_l p_l (hs_p_l.mono (S.le_arg nil_sub)) p_who _ hr4) rfl ?_; clear S; intro v5 a w5 hv5 hk5 hn5 S
    obtain ⟨φ3, hl3, hm3, S⟩ := S.see' hn5 hz3
    have hs2 := hv5.mono hm3
    refine lv S (rn_assign (S.tm rfl)) rfl ?_; clear S; intro a S
    refine lv S (rn_assign rfl) rfl ?_; clear S; intro a S
    refine l_done (then_n (wp_ret ?_))
    obtain rfl := Option.some.inj h
    exact f_ret2 S Tryz.results9 rfl rfl ⟨_, rfl, ((hs2).mono S.le_newer)⟩
set_option maxRecDepth 20000 in
theorem session_rests_ok (w : World) (v_p_t : Value) (p_t : List GSlot) (hs_p_t : Slc (view w []) 4 v_p_t (p_t.map GSlot.enc)) (v_p_l : Value) (p_l : List GCall) (hs_p_l : Slc (view w []) 3 v_p_l (p_l.map GCall.enc)) (r : (List GRest)) (h : session_rests p_t p_l = some r) :
    Calls Tryz.prog 36 [v_p_t, v_p_l].toArray w (Ret w [] fun τ v _ => OwnV τ 60 10 v r.length (r.flatMap GRest.enc)) := by
 refine f_enter [] [] Tryz.func36 rfl Tryz.ntmps36 rfl (by simp) (by simp [fps]) (by simp [fps]) fun a S => ?_
 unfold session_rests at h
 replace S := S.nk [] [(0, v_p_t), (1, v_p_l)] [] rfl (subR rfl)
 refine f_seq (f_region (lv S (rn_assign rfl) rfl ?_)); clear S; intro a S
 refine l_done (then_n (f_seq (f_region (lv S (rn_move (S.tm rfl)) rfl ?_)))); clear S; intro a S
 have hz1 := S.keep.size
 refine l_enter S (fun _ => run_call (vs := [v_p_t]) ⟨(S.tm rfl), trivial⟩ Tryz.call35) (session_slots_ok _ v_p_t p_t (hs_p_t.mono (S.le_arg nil_sub)) _ rfl) rfl ?_; clear S; intro v1 a w1 hv1 hk1 hn1 S
 obtain ⟨φ1, hl1, hm1, S⟩ := S.see' hn1 hz1
 obtain ⟨b1, rfl, hq1⟩ := hv1
 replace hq1 := hm1 _ _ hq1
 refine lv S (rn_assign (S.tm rfl)) rfl ?_; clear S; intro a S
 refine l_done (then_n (f_seq (f_region (lv S (rn_assign rfl) rfl ?_)))); clear S; intro a S
 replace S := S.nil 60 10
 refine l_done (then_n (f_seq (f_seq (f_region (lv S (rn_move (S.tm rfl)) rfl ?_))))); clear S; intro a S
 refine lv S (rn_lenT sl_30 (S.tm rfl) (slc_len hs_p_l)) rfl ?_; clear S; intro a S
 refine lv S (rn_move rfl) rfl ?_; clear S; intro a S
 refine l_done (then_n ?_)
 replace S := S.nk [.own (.slice none 0 0) 60 10 ([] : List GRest).length (([] : List GRest).flatMap GRest.enc)] [(1, v_p_l), (5, .map (some b1)), (6, (.slice none 0 0)), (13, v_p_l), (14, iV (p_l.length : Int)), (15, iV 0)] [true] rfl (subR rfl)
 obtain ⟨j1, hj1, h⟩ := joinE h
 refine f_join (fun a w' => ∃ x1 : List GRest, ∃ φ2 : View, ∃ v2 : Value, j1 x1 = some r ∧ View.le φ1 φ2 ∧ Sx w [] φ2 [.own v2 60 10 x1.length (x1.flatMap GRest.enc)] [(6, v2)] 75 a w') ?_ ?_
 ·refine wp_block (f_loop (fun (ys1 : List GCall) a w' => ∃ i1 : Nat, ∃ x1 : List GRest, ∃ φ2 : View, ∃ v2 : Value, (∃ dn, p_l = dn ++ ys1 ∧ dn.length = i1) ∧ session_rests_l1 p_t p_l j1 ys1 i1 x1 = some r ∧ View.le φ1 φ2 ∧ Sx w [] φ2 [.own v2 60 10 x1.length (x1.flatMap GRest.enc)] [(1, v_p_l), (5, .map (some b1)), (6, v2), (13, v_p_l), (14, iV (p_l.length : Int)), (15, iV (i1 : Int))] 75 a w') List.length p_l ⟨0, ([] : List GRest), φ1, (.slice none 0 0), ⟨[], rfl, rfl⟩, h, View.le_refl _, S.nf [true] rfl (subR rfl)⟩ ?_)
  clear S h; rintro ys1 a w2 ⟨i1, x1, φ2, v2, ⟨dn, hd1, hi1⟩, h, hl2, S⟩
  cases ys1 with
  | nil =>
   rw [session_rests_l1.eq_1] at h
   refine f_seq (f_region (lv S (rn_lss (S.tm rfl) (S.tm rfl)) rfl ?_)); clear S; intro a S
   refine l_done ?_
   replace S := S.nk [.own v2 60 10 x1.length (x1.flatMap GRest.enc)] [(1, v_p_l), (5, .map (some b1)), (6, v2), (13, v_p_l), (14, iV (p_l.length : Int)), (15, iV (i1 : Int)), (16, bV (decide ((i1 : Int) < (p_l.length : Int))))] [true] rfl (subR rfl)
   refine then_n (f_seq (wp_cond_false ((S.tm rfl).trans (congrArg Value.bool (rng_nil hd1 hi1))) (wp_exit (then_x (then_x (x_same ?_))))))
   refine then_n ?_
   exact ⟨x1, φ2, v2, h, hl2, S.nf [true] rfl ⟨rfl, trivial⟩⟩
  | cons y1 ys1 =>
   rw [session_rests_l1.eq_2] at h
   refine f_seq (f_region (lv S (rn_lss (S.tm rfl) (S.tm rfl)) rfl ?_)); clear S; intro a S
   refine l_done ?_
   replace S := S.nk [.own v2 60 10 x1.length (x1.flatMap GRest.enc)] [(1, v_p_l), (5, .map (some b1)), (6, v2), (13, v_p_l), (14, iV (p_l.length : Int)), (15, iV (i1 : Int)), (16, bV (decide ((i1 : Int) < (p_l.length : Int))))] [true] rfl (subR rfl)
   refine then_n (f_seq (wp_cond_true ((S.tm rfl).trans (congrArg Value.bool (rng_cons hd1 hi1))) (wp_skip (then_n (f_seq ?_)))))
   obtain ⟨j2, hj2, h⟩ := joinE h
   refine f_join (fun a w' => ∃ x2 : List GRest, ∃ φ3 : View, ∃ v3 : Value, j2 x2 = some r ∧ View.le φ2 φ3 ∧ Sx w [] φ3 [.own v3 60 10 x2.length (x2.flatMap GRest.enc)] [(1, v_p_l), (5, .map (some b1)), (6, v3), (13, v_p_l), (14, iV (p_l.length : Int)), (15, iV (i1 : Int))] 75 a w') ?_ ?_
   ·refine wp_block (f_seq (f_region (lv S (rn_move (S.tm rfl)) rfl ?_))); clear S; intro a S
    obtain ⟨b2, o1, hm2, hr1⟩ := rn_indexT (a := a) (x := .tmp 13) (y := .tmp 15) (ty := 0) sl_30 hs_p_l (get_mid hd1 hi1) rfl (S.tm rfl) (S.tm rfl)
    refine lv S (hr1 _) rfl ?_; clear S; intro a S
    clear hr1
    refine lv S (rn_ldA Tryz.isAgg74 Tryz.sizeOf74 (off := o1) (o := 0) (part := (GCall.enc y1)) rfl rfl (S.tm rfl) (hm2.at S.emb0)) rfl ?_; clear S; intro a S
    refine l_alloc S Tryz.zeroValue74 (cs := [sV k_empty, sV k_empty, iV 0]) rfl rfl ?_; clear S; intro a w5 b3 hz2 hk2 S
    refine lv S (rn_assign (S.tm rfl)) rfl ?_; clear S; intro a S
    refine l_store S (S.tm rfl) (S.tm rfl) (i := 0) (off := 0) rfl Tryz.sizeOf74 (vs := (GCall.enc y1)) rfl rfl rfl rfl ?_; clear S; intro w6 hk3 S
    refine l_done (then_n (f_seq (f_seq (d_region [] ([]) Tryz.mixed S rfl (by kernel_rfl) ?_)))); clear S; intro w7 hk4 hsel S
    refine d_rest [0, 1, 2, 3, 4, 5, 6, 7, 8, 9, 10, 11, 12] hsel (by kernel_rfl) rfl ?_
    clear hsel
    refine s_lv S rfl (rn_move (S.tm rfl)) rfl ?_; clear S; intro a S
    refine s_lv S rfl (rn_gtr (S.tm rfl) rfl) rfl ?_; clear S; intro a S
    refine s_lv S rfl (rn_move (S.tm rfl)) rfl ?_; clear S; intro a S
    obtain ⟨j3, hj3, h⟩ := joinE h
    refine s_cutm 10 (fun a w' => ∃ c1, j3 c1 = some r ∧ Keep [] w7 w' ∧ Sx w [] φ2 [.blk b3 (GCall.enc y1) 74, .own v2 60 10 x1.length (x1.flatMap GRest.enc)] [(1, v_p_l), (5, .map (some b1)), (6, v2), (8, .pointer (some ⟨b3, 0, none⟩)), (13, v_p_l), (14, iV (p_l.length : Int)), (15, iV (i1 : Int)), (32, bV c1)] 75 a w') ?_ ?_
    ·rcases Bool.eq_false_or_eq_true (decide (0 < (i1 : Int))) with hb1 | hb1
     ·replace h := iteT h hb1
      refine s_want S rfl rfl rfl rfl hb1 (s_lv0 S (rn_move (S.tm rfl)) rfl ?_); clear S; intro a S
      refine s_want S rfl rfl rfl rfl hb1 (s_lv0 S (rn_move (S.tm rfl)) rfl ?_); clear S; intro a S
      refine s_want S rfl rfl rfl rfl hb1 (s_lv0 S (rn_sub (S.tm rfl) rfl) rfl ?_); clear S; intro a S
      refine s_want S rfl rfl rfl rfl hb1 ?_
      obtain ⟨hc1, h⟩ := chkE h
      obtain ⟨b4, o2, hm3, hr2⟩ := rn_indexT (a := a) (x := .tmp 23) (y := .tmp 25) (ty := 0) sl_30 hs_p_l (inB_get hc1).1 (inB_get hc1).2 (S.tm rfl) (S.tm rfl)
      refine s_lv0 S (hr2 _) rfl ?_; clear S; intro a S
      clear hr2
      refine s_want S rfl rfl rfl rfl hb1 (s_lv0 S (rn_fld fa_74_0 (S.tm rfl)) rfl ?_); clear S; intro a S
      refine s_want S rfl rfl rfl rfl hb1 (s_lv0 S (rn_ld Tryz.isAgg9 (off := o2) (o := 0) (S.tm rfl) (hm3.at S.emb0) rfl) rfl ?_); clear S; intro a S
      refine s_want S rfl rfl rfl rfl hb1 (s_lv0 S (rn_fld fa_74_0 (S.tm rfl)) rfl ?_); clear S; intro a S
      refine s_want S rfl rfl rfl rfl hb1 (s_lv0 S (rn_load Tryz.isAgg9 (S.tm rfl) (S.cell (i := 0) rfl rfl)) rfl ?_); clear S; intro a S
      refine s_want S rfl rfl rfl rfl hb1 (s_lv0 S (rn_seql (S.tm rfl) (S.tm rfl)) rfl ?_); clear S; intro a S
      refine s_lv S rfl (rn_and_t hb1 (S.tm rfl) (S.tm rfl)) rfl ?_; clear S; intro a S
      refine s_done ?_
      exact ⟨_, h, Keep.refl _ _, S.nf [true, true] rfl (subR rfl)⟩
     ·replace h := iteF h hb1
      iterate 9 (refine s_skip S rfl rfl rfl rfl (neq_f hb1) rfl ?_ rfl; clear S; intro a S)
      refine s_lv S rfl (rn_and_f true hb1 (S.tm rfl) rfl) rfl ?_; clear S; intro a S
      refine s_done ?_
      exact ⟨_, h, Keep.refl _ _, S.nf [true, true] rfl (subR rfl)⟩
    clear S h; rintro a w8 ⟨c1, h, hk5, S⟩; rw [hj3] at h; clear hj3 j3
    refine s_done ?_
    replace S := S.nk [.blk b3 (GCall.enc y1) 74, .own v2 60 10 x1.length (x1.flatMap GRest.enc)] [(1, v_p_l), (5, .map (some b1)), (6, v2), (8, .pointer (some ⟨b3, 0, none⟩)), (13, v_p_l), (14, iV (p_l.length : Int)), (15, iV (i1 : Int)), (32, bV c1)] [true, true] rfl (subR rfl)
    refine then_n (f_cond (S.tm rfl) (fun hb2 => ?_) (fun hb2 => ?_))
    ·replace h := iteT h hb2
     refine wp_exit (then_x (x_same (then_n ?_)))
     exact ⟨x1, φ2, v2, h, (View.le_refl _), S.nf [false, true] rfl (subR rfl)⟩
    ·replace h := iteF h hb2
     refine wp_skip (then_n (f_seq (f_region (lv S (rn_move (S.tm rfl)) rfl ?_)))); clear S; intro a S
     refine lv S (rn_move (S.tm rfl)) rfl ?_; clear S; intro a S
     refine lv S (rn_fld fa_74_0 (S.tm rfl)) rfl ?_; clear S; intro a S
     refine lv S (rn_load Tryz.isAgg9 (S.tm rfl) (S.cell (i := 0) rfl rfl)) rfl ?_; clear S; intro a S
     obtain ⟨r1, hr3, h⟩ := bindE h
     have hz3 := S.keep.size
     refine l_enter S (fun _ => run_call (vs := [.map (some b1), v_p_l, sV y1.Who]) ⟨(S.tm rfl), (S.tm rfl), (S.tm rfl), trivial⟩ Tryz.call34) (session_calls_ok _ b1 (session_slots p_t) ((View.le_trans hl2 (S.le_new nil_sub)) _ _ hq1) v_p_l p_l (hs_p_l.mono (S.le_arg nil_sub)) y1.Who _ hr3) rfl ?_; clear S; intro v4 a w9 hv2 hk6 hn2 S
     obtain ⟨φ4, hl4, hm4, S⟩ := S.see' hn2 hz3
     have hs1 := hv2.mono hm4
     refine lv S (rn_assign (S.tm rfl)) rfl ?_; clear S; intro a S
     refine l_done (then_n (f_seq (f_region (lv S (rn_assign rfl) rfl ?_)))); clear S; intro a S
     refine l_done ?_
     replace S := S.nk [.blk b3 (GCall.enc y1) 74, .own v2 60 10 x1.length (x1.flatMap GRest.enc)] [(1, v_p_l), (5, .map (some b1)), (6, v2), (8, .pointer (some ⟨b3, 0, none⟩)), (9, v4), (10, iV 1), (13, v_p_l), (14, iV (p_l.length : Int)), (15, iV (i1 : Int))] [true, true] rfl (subR rfl)
     refine then_n ?_
     obtain ⟨j4, hj4, h⟩ := joinE h
     refine f_join (fun a w' => ∃ x3 : List GRest, ∃ v5 : Value, j4 x3 = some r ∧ Sx w [] φ4 [.blk b3 (GCall.enc y1) 74, .own v5 60 10 x3.length (x3.flatMap GRest.enc)] [(1, v_p_l), (5, .map (some b1)), (6, v5), (13, v_p_l), (14, iV (p_l.length : Int)), (15, iV (i1 : Int))] 75 a w') ?_ ?_
     ·refine wp_block (f_loop (fun (m1 : Nat) a w' => ∃ x3 : List GRest, ∃ x4 : Int, ∃ v5 : Value, session_rests_l2 r1 y1 j4 m1 x3 x4 = some r ∧ Sx w [] φ4 [.blk b3 (GCall.enc y1) 74, .own v5 60 10 x3.length (x3.flatMap GRest.enc)] [(1, v_p_l), (5, .map (some b1)), (6, v5), (8, .pointer (some ⟨b3, 0, none⟩)), (9, v4), (10, iV x4), (13, v_p_l), (14, iV (p_l.length : Int)), (15, iV (i1 : Int))] 75 a w') id (((r1.length : Int) - 1).toNat + 2) ⟨x1, 1, v2, h, S.nf [true, true] rfl (subR rfl)⟩ ?_)
      clear S h; rintro m1 a w10 ⟨x3, x4, v5, h, S⟩
      cases m1 with
      | zero => rw [session_rests_l2.eq_1] at h; cases h
      | succ m1 =>
       rw [session_rests_l2.eq_2] at h
       refine f_seq (f_seq (f_region (lv S (rn_move (S.tm rfl)) rfl ?_))); clear S; intro a S
       refine lv S (rn_move (S.tm rfl)) rfl ?_; clear S; intro a S
       refine lv S (rn_lenT sl_33 (S.tm rfl) (slc_len (ownV_slcT GSlot.enc_ok hs1))) rfl ?_; clear S; intro a S
       refine lv S (rn_lss (S.tm rfl) (S.tm rfl)) rfl ?_; clear S; intro a S
       refine l_done (then_n (f_cond (S.tm rfl) (fun hb3 => ?_) (fun hb3 => ?_)))
       ·replace h := iteT h hb3
        refine wp_skip (then_n (f_seq (wp_block ?_)))
        obtain ⟨hc2, h⟩ := chkE h
        obtain ⟨hc3, h⟩ := chkE h
        obtain ⟨hc4, h⟩ := chkE h
        obtain ⟨hc5, h⟩ := chkE h
        obtain ⟨hc6, h⟩ := chkE h
        refine d_region [] (v5.ownBlock.toList) Tryz.mixed S rfl (by kernel_rfl) ?_; clear S; intro w14 hk9 hsel S
        refine d_quiet 0 S hsel rfl rfl rfl (by kernel_rfl) (by kernel_rfl) rfl (fun _ hw => (rn_move (S.tm rfl))) ?_; clear S; intro a S
        refine d_quiet 1 S hsel rfl rfl rfl (by kernel_rfl) (by kernel_rfl) rfl (fun _ hw => (rn_fld fa_74_0 (S.tm rfl))) ?_; clear S; intro a S
        refine d_quiet 2 S hsel rfl rfl rfl (by kernel_rfl) (by kernel_rfl) rfl (fun _ hw => (rn_ld Tryz.isAgg9 (off := 0) (o := 0) (S.tm rfl) ((S.blk_mem (i := 0) (cells := (GCall.enc y1)) (b := b3) (T := 74) rfl (ne_fp (i := 1) (j := 0) (e := .own v5 60 10 x3.length (x3.flatMap GRest.enc)) (e' := .blk b3 (GCall.enc y1) 74) S rfl rfl rfl)).kept hw) rfl)) ?_; clear S; intro a S
        refine d_quiet 3 S hsel rfl rfl rfl (by kernel_rfl) (by kernel_rfl) rfl (fun _ hw => (rn_move (S.tm rfl))) ?_; clear S; intro a S
        refine d_quiet 4 S hsel rfl rfl rfl (by kernel_rfl) (by kernel_rfl) rfl (fun _ hw => (rn_move (S.tm rfl))) ?_; clear S; intro a S
        refine d_quiet 5 S hsel rfl rfl rfl (by kernel_rfl) (by kernel_rfl) rfl (fun _ hw => (rn_sub (S.tm rfl) rfl)) ?_; clear S; intro a S
        obtain ⟨b10, o7, hm9, hr8⟩ := rn_indexT (a := a) (x := .tmp 47) (y := .tmp 49) (ty := 0) sl_33 ((ownV_slcT GSlot.enc_ok hs1).mono (S.le_new (fp_sub (i := 1) (e := .own v5 60 10 x3.length (x3.flatMap GRest.enc)) rfl))) (inB_get hc2).1 (inB_get hc2).2 (S.tm rfl) (S.tm rfl)
        refine d_quiet 6 S hsel rfl rfl rfl (by kernel_rfl) (by kernel_rfl) rfl (fun _ hw => hr8 _) ?_; clear S; intro a S
        clear hr8
        refine d_quiet 7 S hsel rfl rfl rfl (by kernel_rfl) (by kernel_rfl) rfl (fun _ hw => (rn_ldA Tryz.isAgg57 Tryz.sizeOf57 (off := o7) (o := 0) (part := (GSlot.enc (GSlot.mk ((nth r1 (W (x4 - 1))).Item) ((nth r1 (W (x4 - 1))).Heat) ((nth r1 (W (x4 - 1))).Time)))) rfl rfl (S.tm rfl) (hm9.kept hw))) ?_; clear S; intro a S
        refine d_quiet 8 S hsel rfl rfl rfl (by kernel_rfl) (by kernel_rfl) rfl (fun _ hw => (rn_move (S.tm rfl))) ?_; clear S; intro a S
        refine d_quiet 9 S hsel rfl rfl rfl (by kernel_rfl) (by kernel_rfl) rfl (fun _ hw => (rn_move (S.tm rfl))) ?_; clear S; intro a S
        obtain ⟨b11, o8, hm10, hr9⟩ := rn_indexT (a := a) (x := .tmp 52) (y := .tmp 53) (ty := 0) sl_33 ((ownV_slcT GSlot.enc_ok hs1).mono (S.le_new (fp_sub (i := 1) (e := .own v5 60 10 x3.length (x3.flatMap GRest.enc)) rfl))) (inB_get hc3).1 (inB_get hc3).2 (S.tm rfl) (S.tm rfl)
        refine d_quiet 10 S hsel rfl rfl rfl (by kernel_rfl) (by kernel_rfl) rfl (fun _ hw => hr9 _) ?_; clear S; intro a S
        clear hr9
        refine d_quiet 11 S hsel rfl rfl rfl (by kernel_rfl) (by kernel_rfl) rfl (fun _ hw => (rn_ldA Tryz.isAgg57 Tryz.sizeOf57 (off := o8) (o := 0) (part := (GSlot.enc (GSlot.mk ((nth r1 x4).Item) ((nth r1 x4).Heat) ((nth r1 x4).Time)))) rfl rfl (S.tm rfl) (hm10.kept hw))) ?_; clear S; intro a S
        refine d_quiet 12 S hsel rfl rfl rfl (by kernel_rfl) (by kernel_rfl) rfl (fun _ hw => (rn_move (S.tm rfl))) ?_; clear S; intro a S
        refine d_quiet 13 S hsel rfl rfl rfl (by kernel_rfl) (by kernel_rfl) rfl (fun _ hw => (rn_move (S.tm rfl))) ?_; clear S; intro a S
        obtain ⟨b12, o9, hm11, hr10⟩ := rn_indexT (a := a) (x := .tmp 56) (y := .tmp 57) (ty := 0) sl_33 ((ownV_slcT GSlot.enc_ok hs1).mono (S.le_new (fp_sub (i := 1) (e := .own v5 60 10 x3.length (x3.flatMap GRest.enc)) rfl))) (inB_get hc4).1 (inB_get hc4).2 (S.tm rfl) (S.tm rfl)
        refine d_quiet 14 S hsel rfl rfl rfl (by kernel_rfl) (by kernel_rfl) rfl (fun _ hw => hr10 _) ?_; clear S; intro a S
        clear hr10
        refine d_quiet 15 S hsel rfl rfl rfl (by kernel_rfl) (by kernel_rfl) rfl (fun _ hw => (rn_fld fa_57_2 (S.tm rfl))) ?_; clear S; intro a S
        refine d_quiet 16 S hsel rfl rfl rfl (by kernel_rfl) (by kernel_rfl) rfl (fun _ hw => (rn_fld fa_55_0 (S.tm rfl))) ?_; clear S; intro a S
        refine d_quiet 17 S hsel rfl rfl rfl (by kernel_rfl) (by kernel_rfl) rfl (fun _ hw => (rn_ld Tryz.isAgg3 (off := o9) (o := 2) (S.tm rfl) (hm11.kept hw) rfl)) ?_; clear S; intro a S
        refine d_quiet 18 S hsel rfl rfl rfl (by kernel_rfl) (by kernel_rfl) rfl (fun _ hw => (rn_move (S.tm rfl))) ?_; clear S; intro a S
        refine d_quiet 19 S hsel rfl rfl rfl (by kernel_rfl) (by kernel_rfl) rfl (fun _ hw => (rn_move (S.tm rfl))) ?_; clear S; intro a S
        refine d_quiet 20 S hsel rfl rfl rfl (by kernel_rfl) (by kernel_rfl) rfl (fun _ hw => (rn_sub (S.tm rfl) rfl)) ?_; clear S; intro a S
        obtain ⟨b13, o10, hm12, hr11⟩ := rn_indexT (a := a) (x := .tmp 62) (y := .tmp 64) (ty := 0) sl_33 ((ownV_slcT GSlot.enc_ok hs1).mono (S.le_new (fp_sub (i := 1) (e := .own v5 60 10 x3.length (x3.flatMap GRest.enc)) rfl))) (inB_get hc5).1 (inB_get hc5).2 (S.tm rfl) (S.tm rfl)
        refine d_quiet 21 S hsel rfl rfl rfl (by kernel_rfl) (by kernel_rfl) rfl (fun _ hw => hr11 _) ?_; clear S; intro a S
        clear hr11
        refine d_quiet 22 S hsel rfl rfl rfl (by kernel_rfl) (by kernel_rfl) rfl (fun _ hw => (rn_fld fa_57_2 (S.tm rfl))) ?_; clear S; intro a S
        refine d_quiet 23 S hsel rfl rfl rfl (by kernel_rfl) (by kernel_rfl) rfl (fun _ hw => (rn_fld fa_55_1 (S.tm rfl))) ?_; clear S; intro a S
        refine d_quiet 24 S hsel rfl rfl rfl (by kernel_rfl) (by kernel_rfl) rfl (fun _ hw => (rn_ld Tryz.isAgg3 (off := o10) (o := 3) (S.tm rfl) (hm12.kept hw) rfl)) ?_; clear S; intro a S
        refine d_quiet 25 S hsel rfl rfl rfl (by kernel_rfl) (by kernel_rfl) rfl (fun _ hw => (rn_sub (S.tm rfl) (S.tm rfl))) ?_; clear S; intro a S
        refine d_quiet 26 S hsel rfl rfl rfl (by kernel_rfl) (by kernel_rfl) rfl (fun _ hw => (rn_bld bt_60 (pv := [(0, sV y1.Who), (1, .agg (GSlot.enc (GSlot.mk ((nth r1 (W (x4 - 1))).Item) ((nth r1 (W (x4 - 1))).Heat) ((nth r1 (W (x4 - 1))).Time))).toArray), (2, .agg (GSlot.enc (GSlot.mk ((nth r1 x4).Item) ((nth r1 x4).Heat) ((nth r1 x4).Time))).toArray), (3, iV (W ((((nth r1 x4).Time).From) - (((nth r1 (W (x4 - 1))).Time).To))))]) ⟨rfl, (S.tm rfl), rfl, (S.tm rfl), rfl, (S.tm rfl), rfl, (S.tm rfl), trivial⟩ (cs := [sV y1.Who, sV ((nth r1 (W (x4 - 1))).Item), iV ((nth r1 (W (x4 - 1))).Heat), iV (((nth r1 (W (x4 - 1))).Time).From), iV (((nth r1 (W (x4 - 1))).Time).To), sV ((nth r1 x4).Item), iV ((nth r1 x4).Heat), iV (((nth r1 x4).Time).From), iV (((nth r1 x4).Time).To), iV (W ((((nth r1 x4).Time).From) - (((nth r1 (W (x4 - 1))).Time).To)))]) (by kernel_rfl))) ?_; clear S; intro a S
        refine d_loud1 27 (by kernel_rfl) rfl (l_buildSlice S Tryz.underlying37 Tryz.sizeOf60 Tryz.zeroValue60 rfl rfl (pv := [(0, .agg (GRest.enc (GRest.mk y1.Who (GSlot.mk ((nth r1 (W (x4 - 1))).Item) ((nth r1 (W (x4 - 1))).Heat) ((nth r1 (W (x4 - 1))).Time)) (GSlot.mk ((nth r1 x4).Item) ((nth r1 x4).Heat) ((nth r1 x4).Time)) (W ((((nth r1 x4).Time).From) - (((nth r1 (W (x4 - 1))).Time).To))))).toArray)]) ⟨rfl, (S.tm rfl), trivial⟩ (cs := [sV y1.Who, sV ((nth r1 (W (x4 - 1))).Item), iV ((nth r1 (W (x4 - 1))).Heat), iV (((nth r1 (W (x4 - 1))).Time).From), iV (((nth r1 (W (x4 - 1))).Time).To), sV ((nth r1 x4).Item), iV ((nth r1 x4).Heat), iV (((nth r1 x4).Time).From), iV (((nth r1 x4).Time).To), iV (W ((((nth r1 x4).Time).From) - (((nth r1 (W (x4 - 1))).Time).To)))]) (by kernel_rfl) rfl ?_); clear S; intro a w15 b14 hz5 hk10 S
        refine l_done (d_next (Keep.none hk10) (d_loud1 28 (by kernel_rfl) rfl ?_))
        refine l_appendT sl_37 GRest.enc_ok S (S.tm rfl) (i := 2) rfl (S.tm rfl) (j := 0) rfl (ys := [(GRest.mk y1.Who (GSlot.mk ((nth r1 (W (x4 - 1))).Item) ((nth r1 (W (x4 - 1))).Heat) ((nth r1 (W (x4 - 1))).Time)) (GSlot.mk ((nth r1 x4).Item) ((nth r1 x4).Heat) ((nth r1 x4).Time)) (W ((((nth r1 x4).Time).From) - (((nth r1 (W (x4 - 1))).Time).To))))]) rfl rfl rfl rfl (by have := room_lt hc6; omega) rfl ?_; clear S; intro v7 a w16 hk11 S
        refine l_done (d_next hk11 (d_rest [29] hsel (by kernel_rfl) rfl ?_))
        clear hsel
        refine s_lv S rfl (rn_assign (S.tm rfl)) rfl ?_; clear S; intro a S
        refine s_done ?_
        replace S := S.nk [.blk b3 (GCall.enc y1) 74, .own v7 60 10 (x3 ++ [(GRest.mk y1.Who (GSlot.mk ((nth r1 (W (x4 - 1))).Item) ((nth r1 (W (x4 - 1))).Heat) ((nth r1 (W (x4 - 1))).Time)) (GSlot.mk ((nth r1 x4).Item) ((nth r1 x4).Heat) ((nth r1 x4).Time)) (W ((((nth r1 x4).Time).From) - (((nth r1 (W (x4 - 1))).Time).To))))]).length ((x3 ++ [(GRest.mk y1.Who (GSlot.mk ((nth r1 (W (x4 - 1))).Item) ((nth r1 (W (x4 - 1))).Heat) ((nth r1 (W (x4 - 1))).Time)) (GSlot.mk ((nth r1 x4).Item) ((nth r1 x4).Heat) ((nth r1 x4).Time)) (W ((((nth r1 x4).Time).From) - (((nth r1 (W (x4 - 1))).Time).To))))]).flatMap GRest.enc)] [(1, v_p_l), (5, .map (some b1)), (6, v7), (8, .pointer (some ⟨b3, 0, none⟩)), (9, v4), (10, iV x4), (13, v_p_l), (14, iV (p_l.length : Int)), (15, iV (i1 : Int))] [false, true, true] rfl (subR rfl)
        refine blk_n (then_n (f_region (lv S (rn_move (S.tm rfl)) rfl ?_))); clear S; intro a S
        refine lv S (rn_add (S.tm rfl) rfl) rfl ?_; clear S; intro a S
        refine lv S (rn_assign (S.tm rfl)) rfl ?_; clear S; intro a S
        refine l_done (then_n ?_)
        exact ⟨m1, ⟨(x3 ++ [(GRest.mk y1.Who (GSlot.mk ((nth r1 (W (x4 - 1))).Item) ((nth r1 (W (x4 - 1))).Heat) ((nth r1 (W (x4 - 1))).Time)) (GSlot.mk ((nth r1 x4).Item) ((nth r1 x4).Heat) ((nth r1 x4).Time)) (W ((((nth r1 x4).Time).From) - (((nth r1 (W (x4 - 1))).Time).To))))]), W (x4 + 1), v7, h, S.nf [true, true] rfl ⟨rfl, rfl, rfl, rfl, rfl, rfl, rfl, rfl, rfl, trivial⟩⟩, Nat.lt_succ_self _⟩
       ·replace h := iteF h hb3
        refine wp_exit (then_x (then_x (x_same (then_n ?_))))
        exact ⟨x3, v5, h, S.nf [true, true] rfl (subR rfl)⟩
     clear S h; rintro a w11 ⟨x3, v5, h, S⟩; rw [hj4] at h; clear hj4 j4
     refine blk_n (then_n ?_)
     exact ⟨x3, φ4, v5, h, hl4, S.nf [false, true] rfl (subR rfl)⟩
   clear S h; rintro a w4 ⟨x2, φ3, v3, h, hl3, S⟩; rw [hj2] at h; clear hj2 j2
   refine then_n (f_region (lv S (rn_add (S.tm rfl) rfl) rfl ?_)); clear S; intro a S
   refine lv S (rn_move (S.tm rfl)) rfl ?_; clear S; intro a S
   refine l_done (then_n ?_)
   exact ⟨ys1, ⟨i1 + 1, x2, φ3, v3, ⟨_, (hd1).trans (List.append_cons _ _ _), by simp [hi1]⟩, h, (View.le_trans hl2 hl3), S.nf [true] rfl ⟨rfl, rfl, rfl, rfl, rfl, (congrArg (fun z => some (Value.int .i64 z)) (rng_next hd1 hi1 (slc_max hs_p_l))), trivial⟩⟩, Nat.lt_succ_self _⟩
 clear S h; rintro a w3 ⟨x1, φ2, v2, h, hl2, S⟩; rw [hj1] at h; clear hj1 j1
 refine then_n (f_seq (f_region (lv S (rn_move (S.tm rfl)) rfl ?_))); clear S; intro a S
 refine lv S (rn_assign (S.tm rfl)) rfl ?_; clear S; intro a S
 refine l_done (then_n (wp_ret ?_))
 obtain rfl := Option.some.inj h
 exact f_ret S Tryz.results36 rfl (own_retT S (i := 0) rfl rfl)
theorem session_Rests_ok (w : World) (v_p_items : Value) (p_items : List GItem) (hs_p_items : Slc (view w []) 5 v_p_items (p_items.map GItem.enc)) (v_p_l : Value) (p_l : List GCall) (hs_p_l : Slc (view w []) 3 v_p_l (p_l.map GCall.enc)) (p_from : Int) (r : (List GRest) × Int) (h : session_Rests p_items p_l p_from = some r) :
    Calls Tryz.prog 10 [v_p_items, v_p_l, iV p_from].toArray w (Ret w [] fun τ v _ => ∃ u1 : Value, v = .tuple #[u1, iV r.2] ∧ OwnV τ 60 10 u1 r.1.length (r.1.flatMap GRest.enc)) := by
 refine f_enter [] [] Tryz.func10 rfl Tryz.ntmps10 rfl (by simp) (by simp [fps]) (by simp [fps]) fun a S => ?_
 unfold session_Rests at h
 replace S := S.nk [] [(0, v_p_items), (1, v_p_l), (2, iV p_from)] [] rfl (subR rfl)
 refine f_seq (f_region (lv S (rn_assign rfl) rfl ?_)); clear S; intro a S
 refine lv S (rn_assign rfl) rfl ?_; clear S; intro a S
 refine l_done (then_n (f_seq (f_seq (f_region (lv S (rn_move (S.tm rfl)) rfl ?_))))); clear S; intro a S
 refine lv S (rn_move (S.tm rfl)) rfl ?_; clear S; intro a S
 obtain ⟨r1, hr1, h⟩ := bindE h
 refine l_enter S (fun _ => run_call (vs := [v_p_items, v_p_l]) ⟨(S.tm rfl), (S.tm rfl), trivial⟩ Tryz.call22) (session_CheckSwims_ok _ v_p_items p_items (hs_p_items.mono (S.le_arg nil_sub)) v_p_l p_l (hs_p_l.mono (S.le_arg nil_sub)) _ hr1) rfl ?_; clear S; intro v1 a w1 hv1 hk1 hn1 S
 subst hv1
 refine lv S (rn_assign (S.tm rfl)) rfl ?_; clear S; intro a S
 refine l_done (then_n (f_seq (f_region (lv S (rn_move (S.tm rfl)) rfl ?_)))); clear S; intro a S
 refine lv S (rn_neq (S.tm rfl) rfl) rfl ?_; clear S; intro a S
 refine l_done (then_n (f_cond (S.tm rfl) (fun hb1 => ?_) (fun hb1 => ?_)))
 ·replace h := iteT h hb1
  refine f_seq (f_region (lv S (rn_move (S.tm rfl)) rfl ?_)); clear S; intro a S
  refine lv S (rn_assign rfl) rfl ?_; clear S; intro a S
  refine lv S (rn_assign (S.tm rfl)) rfl ?_; clear S; intro a S
  refine l_done (then_n (wp_ret (then_r ?_)))
  obtain rfl := Option.some.inj h
  exact f_ret2 S Tryz.results10 rfl rfl ⟨_, rfl, (ownV_nil _ _ _)⟩
 ·replace h := iteF h hb1
  refine wp_skip (then_n (f_seq (f_region (lv S (rn_move (S.tm rfl)) rfl ?_)))); clear S; intro a S
  refine lv S (rn_move (S.tm rfl)) rfl ?_; clear S; intro a S
  obtain ⟨r2, hr2, h⟩ := bindE h
  have hz1 := S.keep.size
  refine l_enter S (fun _ => run_call (vs := [v_p_items, iV p_from]) ⟨(S.tm rfl), (S.tm rfl), trivial⟩ Tryz.call33) (session_begin_ok _ v_p_items p_items (hs_p_items.mono (S.le_arg nil_sub)) p_from _ hr2) rfl ?_; clear S; intro v2 a w2 hv2 hk2 hn2 S
  obtain ⟨u1, rfl, ho1⟩ := hv2
  obtain ⟨φ1, hl1, hm1, S⟩ := S.see' hn2 hz1
  have hs1 := ho1.mono hm1
  refine lv S (rn_move (S.tm rfl)) rfl ?_; clear S; intro a S
  refine lv S (rn_extract (S.tm rfl) rfl) rfl ?_; clear S; intro a S
  refine lv S (rn_extract (S.tm rfl) rfl) rfl ?_; clear S; intro a S
  refine lv S (rn_assign (S.tm rfl)) rfl ?_; clear S; intro a S
  refine lv S (rn_assign (S.tm rfl)) rfl ?_; clear S; intro a S
  refine l_done ?_
  replace S := S.nk [] [(1, v_p_l), (9, u1), (10, iV r2.2)] [] rfl (subR rfl)
  refine then_n (f_seq (f_seq (f_region (lv S (rn_move (S.tm rfl)) rfl ?_)))); clear S; intro a S
  refine lv S (rn_neq (S.tm rfl) rfl) rfl ?_; clear S; intro a S
  refine l_done (then_n (f_cond (S.tm rfl) (fun hb2 => ?_) (fun hb2 => ?_)))
  ·replace h := iteT h hb2
   refine f_seq (f_region (lv S (rn_move (S.tm rfl)) rfl ?_)); clear S; intro a S
   refine lv S (rn_assign rfl) rfl ?_; clear S; intro a S
   refine lv S (rn_assign (S.tm rfl)) rfl ?_; clear S; intro a S
   refine l_done (then_n (wp_ret (then_r ?_)))
   obtain rfl := Option.some.inj h
   exact f_ret2 S Tryz.results10 rfl rfl ⟨_, rfl, (ownV_nil _ _ _)⟩
  ·replace h := iteF h hb2
   refine wp_skip (then_n (f_seq (f_region (lv S (rn_move (S.tm rfl)) rfl ?_)))); clear S; intro a S
   refine lv S (rn_move (S.tm rfl)) rfl ?_; clear S; intro a S
   obtain ⟨r3, hr3, h⟩ := bindE h
   have hz2 := S.keep.size
   refine l_enter S (fun _ => run_call (vs := [u1, v_p_l]) ⟨(S.tm rfl), (S.tm rfl), trivial⟩ Tryz.call36) (session_rests_ok _ u1 r2.1 ((ownV_slcT GSlot.enc_ok hs1).mono (S.le_new nil_sub)) v_p_l p_l (hs_p_l.mono (S.le_arg nil_sub)) _ hr3) rfl ?_; clear S; intro v3 a w3 hv3 hk3 hn3 S
   obtain ⟨φ2, hl2, hm2, S⟩ := S.see' hn3 hz2
   have hs2 := hv3.mono hm2
   refine lv S (rn_assign (S.tm rfl)) rfl ?_; clear S; intro a S
   refine lv S (rn_assign rfl) rfl ?_; clear S; intro a S
   refine l_done (then_n (wp_ret ?_))
   obtain rfl := Option.some.inj h
   exact f_ret2 S Tryz.results10 rfl rfl ⟨_, rfl, ((hs2).mono S.le_newer)⟩
theorem session_Short_c1_ok (w : World) (p_x : GRest) (b_p_a1 : Nat) (p_a1 : Int) (hb_b_p_a1 : (view w []) b_p_a1 = some (.cells [iV p_a1].toArray 3 (0, 0))) (r : Bool) (h : session_Short_c1 p_x p_a1 = r) :
    Calls Tryz.prog 39 [.agg (GRest.enc p_x).toArray, .pointer (some ⟨b_p_a1, 0, none⟩)].toArray w (Ret w [] fun _ v _ => v = bV r) := by
 refine f_enter [] [] Tryz.func39 rfl Tryz.ntmps39 rfl (by simp) (by simp [fps]) (by simp [fps]) fun a S => ?_
 unfold session_Short_c1 at h
 replace S := S.nk [] [(0, .agg (GRest.enc p_x).toArray), (1, .pointer (some ⟨b_p_a1, 0, none⟩))] [] rfl (subR rfl)
 refine f_seq (f_region (l_box S (S.tm rfl) (cs := (GRest.enc p_x)) rfl rfl ?_)); clear S; intro a w1 b1 hz1 hk1 S
 refine lv S (rn_assign rfl) rfl ?_; clear S; intro a S
 refine l_done (then_n (f_seq (f_region (lv S (rn_fld fa_60_3 (S.tm rfl)) rfl ?_)))); clear S; intro a S
 refine lv S (rn_load Tryz.isAgg3 (S.tm rfl) (S.cell (i := 0) rfl rfl)) rfl ?_; clear S; intro a S
 refine lv S (rn_ld Tryz.isAgg3 (off := 0) (o := 0) (S.tm rfl) ((mem_blk hb_b_p_a1).at S.emb0) rfl) rfl ?_; clear S; intro a S
 refine lv S (rn_geq (S.tm rfl) (S.tm rfl)) rfl ?_; clear S; intro a S
 refine lv S (rn_assign (S.tm rfl)) rfl ?_; clear S; intro a S
 refine l_done (then_n (wp_ret ?_))
 subst h
 exact f_ret S Tryz.results39 rfl rfl
theorem slices_IndexFunc_Rest_session_Short_c1_ok (w : World) (v_p_s : Value) (p_s : List GRest) (hs_p_s : Slc (view w []) 10 v_p_s (p_s.map GRest.enc)) (b_p_f_0 : Nat) (p_f_0 : Int) (hb_b_p_f_0 : (view w []) b_p_f_0 = some (.cells [iV p_f_0].toArray 3 (0, 0))) (r : Int) (h : slices_IndexFunc_Rest_session_Short_c1 p_s p_f_0 = r) :
    Calls Tryz.prog 76 [v_p_s, .func (.func 39) #[] #[.pointer (some ⟨b_p_f_0, 0, none⟩)]].toArray w (Ret w [] fun _ v _ => v = iV r) := by
 refine f_enter [] [] Tryz.func76 rfl Tryz.ntmps76 rfl (by simp) (by simp [fps]) (by simp [fps]) fun a S => ?_
 unfold slices_IndexFunc_Rest_session_Short_c1 at h
 replace S := S.nk [] [(0, v_p_s), (1, .func (.func 39) #[] #[.pointer (some ⟨b_p_f_0, 0, none⟩)])] [] rfl (subR rfl)
 refine f_seq (f_region (lv S (rn_assign rfl) rfl ?_)); clear S; intro a S
 refine l_done (then_n (f_seq (f_seq (f_region (lv S (rn_move (S.tm rfl)) rfl ?_))))); clear S; intro a S
 refine lv S (rn_lenT sl_37 (S.tm rfl) (slc_len hs_p_s)) rfl ?_; clear S; intro a S
 refine lv S (rn_move rfl) rfl ?_; clear S; intro a S
 refine l_done (then_n ?_)
 replace S := S.nk [] [(0, v_p_s), (1, .func (.func 39) #[] #[.pointer (some ⟨b_p_f_0, 0, none⟩)]), (7, iV (p_s.length : Int)), (8, iV 0)] [] rfl (subR rfl)
 obtain ⟨j1, hj1, h⟩ := joinE h
 refine f_join (fun a w' => j1 = r ∧ Sx w [] nov [] [] 19 a w') ?_ ?_
 ·refine wp_block (f_loop (fun (ys1 : List GRest) a w' => ∃ i1 : Nat, (∃ dn, p_s = dn ++ ys1 ∧ dn.length = i1) ∧ slices_IndexFunc_Rest_session_Short_c1_l1 p_f_0 j1 ys1 i1 = r ∧ Sx w [] nov [] [(0, v_p_s), (1, .func (.func 39) #[] #[.pointer (some ⟨b_p_f_0, 0, none⟩)]), (7, iV (p_s.length : Int)), (8, iV (i1 : Int))] 19 a w') List.length p_s ⟨0, ⟨[], rfl, rfl⟩, h, S.nf [] rfl (subR rfl)⟩ ?_)
  clear S h; rintro ys1 a w1 ⟨i1, ⟨dn, hd1, hi1⟩, h, S⟩
  cases ys1 with
  | nil =>
   rw [slices_IndexFunc_Rest_session_Short_c1_l1.eq_1] at h
   refine f_seq (f_region (lv S (rn_lss (S.tm rfl) (S.tm rfl)) rfl ?_)); clear S; intro a S
   refine l_done ?_
   replace S := S.nk [] [(0, v_p_s), (1, .func (.func 39) #[] #[.pointer (some ⟨b_p_f_0, 0, none⟩)]), (7, iV (p_s.length : Int)), (8, iV (i1 : Int)), (9, bV (decide ((i1 : Int) < (p_s.length : Int))))] [] rfl (subR rfl)
   refine then_n (f_seq (wp_cond_false ((S.tm rfl).trans (congrArg Value.bool (rng_nil hd1 hi1))) (wp_exit (then_x (then_x (x_same ?_))))))
   refine then_n ?_
   exact ⟨h, S.nf [] rfl trivial⟩
  | cons y1 ys1 =>
   rw [slices_IndexFunc_Rest_session_Short_c1_l1.eq_2] at h
   refine f_seq (f_region (lv S (rn_lss (S.tm rfl) (S.tm rfl)) rfl ?_)); clear S; intro a S
   refine l_done ?_
   replace S := S.nk [] [(0, v_p_s), (1, .func (.func 39) #[] #[.pointer (some ⟨b_p_f_0, 0, none⟩)]), (7, iV (p_s.length : Int)), (8, iV (i1 : Int)), (9, bV (decide ((i1 : Int) < (p_s.length : Int))))] [] rfl (subR rfl)
   refine then_n (f_seq (wp_cond_true ((S.tm rfl).trans (congrArg Value.bool (rng_cons hd1 hi1))) (wp_skip (then_n (f_seq (wp_block ?_))))))
   refine f_seq (f_region (lv S (rn_move (S.tm rfl)) rfl ?_)); clear S; intro a S
   refine lv S (rn_assign (S.tm rfl)) rfl ?_; clear S; intro a S
   refine l_done (then_n (f_seq (f_region (lv S (rn_move (S.tm rfl)) rfl ?_)))); clear S; intro a S
   refine lv S (rn_move (S.tm rfl)) rfl ?_; clear S; intro a S
   refine lv S (rn_move (S.tm rfl)) rfl ?_; clear S; intro a S
   obtain ⟨b1, o1, hm1, hr1⟩ := rn_indexT (a := a) (x := .tmp 12) (y := .tmp 13) (ty := 0) sl_37 hs_p_s (get_mid hd1 hi1) rfl (S.tm rfl) (S.tm rfl)
   refine lv S (hr1 _) rfl ?_; clear S; intro a S
   clear hr1
   refine lv S (rn_ldA Tryz.isAgg60 Tryz.sizeOf60 (off := o1) (o := 0) (part := (GRest.enc y1)) rfl rfl (S.tm rfl) (hm1.at S.emb0)) rfl ?_; clear S; intro a S
   refine l_enter S (fun _ => run_callV (cap := [.pointer (some ⟨b_p_f_0, 0, none⟩)]) (S.tm rfl) (vs := [.agg (GRest.enc y1).toArray]) ⟨(S.tm rfl), trivial⟩ Tryz.call39) (session_Short_c1_ok _ y1 b_p_f_0 p_f_0 ((S.le_arg nil_sub) _ _ hb_b_p_f_0) _ rfl) rfl ?_; clear S; intro v1 a w3 hv1 hk1 hn1 S
   subst hv1
   refine l_done (then_n (f_cond (S.tm rfl) (fun hb1 => ?_) (fun hb1 => ?_)))
   ·replace h := iteT h hb1
    refine f_seq (f_region (lv S (rn_move (S.tm rfl)) rfl ?_)); clear S; intro a S
    refine lv S (rn_assign (S.tm rfl)) rfl ?_; clear S; intro a S
    refine l_done ?_
    replace S := S.nk [] [(4, iV (i1 : Int))] [] rfl ⟨rfl, trivial⟩
    refine then_n (wp_ret (blk_r (then_r (then_r (blk_r (then_r ?_))))))
    refine then_r ?_
    subst h
    exact f_ret S Tryz.results76 rfl rfl
   ·replace h := iteF h hb1
    refine wp_skip (blk_n (then_n (f_region (lv S (rn_add (S.tm rfl) rfl) rfl ?_)))); clear S; intro a S
    refine lv S (rn_move (S.tm rfl)) rfl ?_; clear S; intro a S
    refine l_done (then_n ?_)
    exact ⟨ys1, ⟨i1 + 1, ⟨_, (hd1).trans (List.append_cons _ _ _), by simp [hi1]⟩, h, S.nf [] rfl ⟨rfl, rfl, rfl, (congrArg (fun z => some (Value.int .i64 z)) (rng_next hd1 hi1 (slc_max hs_p_s))), trivial⟩⟩, Nat.lt_succ_self _⟩
 clear S h; rintro a w2 ⟨h, S⟩; rw [hj1] at h; clear hj1 j1
 refine then_n (f_seq (f_region (lv S (rn_assign rfl) rfl ?_))); clear S; intro a S
 refine l_done (then_n (wp_ret ?_))
 subst h
 exact f_ret S Tryz.results76 rfl rfl
theorem slices_DeleteFunc_Rest_session_Short_c1_ok (w : World) (v_p_s : Value) (p_s : List GRest) (hb_p_s : (LEnt.own v_p_s 60 10 p_s.length (p_s.flatMap GRest.enc)).holds w) (b_p_del_0 : Nat) (p_del_0 : Int) (hb_b_p_del_0 : (view w (v_p_s.ownBlock.toList)) b_p_del_0 = some (.cells [iV p_del_0].toArray 3 (0, 0))) (r : (List GRest)) (h : slices_DeleteFunc_Rest_session_Short_c1 p_s p_del_0 = some r) :
    Calls Tryz.prog 38 [v_p_s, .func (.func 39) #[] #[.pointer (some ⟨b_p_del_0, 0, none⟩)]].toArray w (Ret w (v_p_s.ownBlock.toList) fun _ v w' => (LEnt.own v 60 10 r.length (r.flatMap GRest.enc)).holds w' ∧ ∀ c, v.ownBlock = some c → v_p_s.ownBlock = some c) := by
 refine f_enter (v_p_s.ownBlock.toList) [.own v_p_s 60 10 p_s.length (p_s.flatMap GRest.enc)] Tryz.func38 rfl Tryz.ntmps38 rfl (fun e he => by simp only [List.mem_singleton] at he; subst he; exact hb_p_s) (fps_one_nodup _) (fps_one_sub _) fun a S => ?_
 unfold slices_DeleteFunc_Rest_session_Short_c1 at h
 replace S := S.nk [.own v_p_s 60 10 p_s.length (p_s.flatMap GRest.enc)] [(0, v_p_s), (1, .func (.func 39) #[] #[.pointer (some ⟨b_p_del_0, 0, none⟩)])] [true] rfl (subR rfl)
 refine f_seq (f_region (lv S (rn_assign rfl) rfl ?_)); clear S; intro a S
 refine l_done (then_n (f_seq (f_region (lv S (rn_move (S.tm rfl)) rfl ?_)))); clear S; intro a S
 refine lv S (rn_move (S.tm rfl)) rfl ?_; clear S; intro a S
 refine l_enter S (fun _ => run_call (vs := [v_p_s, .func (.func 39) #[] #[.pointer (some ⟨b_p_del_0, 0, none⟩)]]) ⟨(S.tm rfl), (S.tm rfl), trivial⟩ Tryz.call76) (slices_IndexFunc_Rest_session_Short_c1_ok _ v_p_s p_s (own_slcT GRest.enc_ok S (i := 0) rfl (ne_nil (e' := .own v_p_s 60 10 p_s.length (p_s.flatMap GRest.enc)))) b_p_del_0 p_del_0 ((S.le_arg nil_sub) _ _ hb_b_p_del_0) _ rfl) rfl ?_; clear S; intro v1 a w1 hv1 hk1 hn1 S
 subst hv1
 refine lv S (rn_assign (S.tm rfl)) rfl ?_; clear S; intro a S
 refine l_done (then_n (f_seq (f_seq (f_region (lv S (rn_move (S.tm rfl)) rfl ?_))))); clear S; intro a S
 refine lv S (rn_eql (S.tm rfl) rfl) rfl ?_; clear S; intro a S
 refine l_done (then_n (f_cond (S.tm rfl) (fun hb1 => ?_) (fun hb1 => ?_)))
 ·replace h := iteT h hb1
  refine f_seq (f_region (lv S (rn_move (S.tm rfl)) rfl ?_)); clear S; intro a S
  refine lv S (rn_assign (S.tm rfl)) rfl ?_; clear S; intro a S
  refine l_done (then_n (wp_ret (then_r ?_)))
  obtain rfl := Option.some.inj h
  exact f_ret S Tryz.results38 rfl ⟨(S.holds _ (List.mem_of_getElem? (i := 0) rfl)), (fun _ h => h)⟩
 ·replace h := iteF h hb1
  refine wp_skip (then_n (f_seq (f_seq (f_region (lv S (rn_move (S.tm rfl)) rfl ?_))))); clear S; intro a S
  refine lv S (rn_add (S.tm rfl) rfl) rfl ?_; clear S; intro a S
  refine lv S (rn_assign (S.tm rfl)) rfl ?_; clear S; intro a S
  refine l_done (then_n ?_)
  replace S := S.nk [.own v_p_s 60 10 p_s.length (p_s.flatMap GRest.enc)] [(0, v_p_s), (1, .func (.func 39) #[] #[.pointer (some ⟨b_p_del_0, 0, none⟩)]), (5, iV (slices_IndexFunc_Rest_session_Short_c1 p_s p_del_0)), (6, iV (W ((slices_IndexFunc_Rest_session_Short_c1 p_s p_del_0) + 1)))] [true] rfl (subR rfl)
  obtain ⟨j1, hj1, h⟩ := joinE h
  refine f_join (fun a w' => ∃ x1 : List GRest, ∃ x2 : Int, j1 x1 x2 = some r ∧ Sx w (v_p_s.ownBlock.toList) nov [.own v_p_s 60 10 x1.length (x1.flatMap GRest.enc)] [(0, v_p_s), (5, iV x2)] 42 a w') ?_ ?_
  ·refine wp_block (f_loop (fun (m1 : Nat) a w' => ∃ x1 : List GRest, ∃ x2 : Int, ∃ x3 : Int, slices_DeleteFunc_Rest_session_Short_c1_l1 p_del_0 j1 m1 x1 x2 x3 = some r ∧ Sx w (v_p_s.ownBlock.toList) nov [.own v_p_s 60 10 x1.length (x1.flatMap GRest.enc)] [(0, v_p_s), (1, .func (.func 39) #[] #[.pointer (some ⟨b_p_del_0, 0, none⟩)]), (5, iV x2), (6, iV x3)] 42 a w') id (((p_s.length : Int) - (W ((slices_IndexFunc_Rest_session_Short_c1 p_s p_del_0) + 1))).toNat + 2) ⟨p_s, (slices_IndexFunc_Rest_session_Short_c1 p_s p_del_0), W ((slices_IndexFunc_Rest_session_Short_c1 p_s p_del_0) + 1), h, S.nf [true] rfl (subR rfl)⟩ ?_)
   clear S h; rintro m1 a w2 ⟨x1, x2, x3, h, S⟩
   cases m1 with
   | zero => rw [slices_DeleteFunc_Rest_session_Short_c1_l1.eq_1] at h; cases h
   | succ m1 =>
    rw [slices_DeleteFunc_Rest_session_Short_c1_l1.eq_2] at h
    refine f_seq (f_seq (f_region (lv S (rn_move (S.tm rfl)) rfl ?_))); clear S; intro a S
    refine lv S (rn_move (S.tm rfl)) rfl ?_; clear S; intro a S
    refine lv S (rn_lenT sl_37 (S.tm rfl) (own_len (S.own_at (i := 0) rfl))) rfl ?_; clear S; intro a S
    refine lv S (rn_lss (S.tm rfl) (S.tm rfl)) rfl ?_; clear S; intro a S
    refine l_done (then_n (f_cond (S.tm rfl) (fun hb2 => ?_) (fun hb2 => ?_)))
    ·replace h := iteT h hb2
     refine wp_skip (then_n (f_seq ?_))
     obtain ⟨j2, hj2, h⟩ := joinE h
     refine f_join (fun a w' => ∃ x4 : List GRest, ∃ x5 : Int, j2 x4 x5 = some r ∧ Sx w (v_p_s.ownBlock.toList) nov [.own v_p_s 60 10 x4.length (x4.flatMap GRest.enc)] [(0, v_p_s), (1, .func (.func 39) #[] #[.pointer (some ⟨b_p_del_0, 0, none⟩)]), (5, iV x5), (6, iV x3)] 42 a w') ?_ ?_
     ·refine wp_block (f_seq (f_region (lv S (rn_move (S.tm rfl)) rfl ?_))); clear S; intro a S
      refine lv S (rn_move (S.tm rfl)) rfl ?_; clear S; intro a S
      obtain ⟨hc1, h⟩ := chkE h
      obtain ⟨b1, hg1, hr1⟩ := rn_indexS (a := a) (x := .tmp 22) (y := .tmp 23) (ty := 0) sl_37 GRest.enc_ok S (i := 0) rfl (inB_get hc1).1 (inB_get hc1).2 (S.tm rfl) (S.tm rfl)
      refine lv S (hr1 _) rfl ?_; clear S; intro a S
      clear hr1
      refine lv S (rn_ldA Tryz.isAgg60 Tryz.sizeOf60 (off := x3.toNat * 10) (o := 0) (part := (GRest.enc (GRest.mk ((nth x1 x3).Who) (GSlot.mk (((nth x1 x3).From).Item) (((nth x1 x3).From).Heat) (((nth x1 x3).From).Time)) (GSlot.mk (((nth x1 x3).To).Item) (((nth x1 x3).To).Heat) (((nth x1 x3).To).Time)) ((nth x1 x3).Long)))) rfl rfl (S.tm rfl) (own_cells GRest.enc_ok S (i := 0) rfl hg1 (inB_get hc1).1)) rfl ?_; clear S; intro a S
      refine l_alloc S Tryz.zeroValue60 (cs := [sV k_empty, sV k_empty, iV 0, iV 0, iV 0, sV k_empty, iV 0, iV 0, iV 0, iV 0]) rfl rfl ?_; clear S; intro a w5 b2 hz1 hk2 S
      refine l_store S (S.tm rfl) (S.tm rfl) (i := 0) (off := 0) rfl Tryz.sizeOf60 (vs := (GRest.enc (GRest.mk ((nth x1 x3).Who) (GSlot.mk (((nth x1 x3).From).Item) (((nth x1 x3).From).Heat) (((nth x1 x3).From).Time)) (GSlot.mk (((nth x1 x3).To).Item) (((nth x1 x3).To).Heat) (((nth x1 x3).To).Time)) ((nth x1 x3).Long)))) rfl rfl rfl rfl ?_; clear S; intro w6 hk3 S
      refine l_done (then_n (f_seq (f_region (lv S (rn_move (S.tm rfl)) rfl ?_)))); clear S; intro a S
      refine lv S (rn_ldA Tryz.isAgg60 Tryz.sizeOf60 (off := 0) (o := 0) (part := (GRest.enc (GRest.mk ((nth x1 x3).Who) (GSlot.mk (((nth x1 x3).From).Item) (((nth x1 x3).From).Heat) (((nth x1 x3).From).Time)) (GSlot.mk (((nth x1 x3).To).Item) (((nth x1 x3).To).Heat) (((nth x1 x3).To).Time)) ((nth x1 x3).Long)))) rfl rfl (S.tm rfl) (S.cellsAt (i := 0) rfl)) rfl ?_; clear S; intro a S
      refine l_enter S (fun _ => run_callV (cap := [.pointer (some ⟨b_p_del_0, 0, none⟩)]) (S.tm rfl) (vs := [.agg (GRest.enc (GRest.mk ((nth x1 x3).Who) (GSlot.mk (((nth x1 x3).From).Item) (((nth x1 x3).From).Heat) (((nth x1 x3).From).Time)) (GSlot.mk (((nth x1 x3).To).Item) (((nth x1 x3).To).Heat) (((nth x1 x3).To).Time)) ((nth x1 x3).Long))).toArray]) ⟨(S.tm rfl), trivial⟩ Tryz.call39) (session_Short_c1_ok _ (GRest.mk ((nth x1 x3).Who) (GSlot.mk (((nth x1 x3).From).Item) (((nth x1 x3).From).Heat) (((nth x1 x3).From).Time)) (GSlot.mk (((nth x1 x3).To).Item) (((nth x1 x3).To).Heat) (((nth x1 x3).To).Time)) ((nth x1 x3).Long)) b_p_del_0 p_del_0 ((S.le_arg nil_sub) _ _ hb_b_p_del_0) _ rfl) rfl ?_; clear S; intro v2 a w7 hv2 hk4 hn2 S
      subst hv2
      refine lv S (rn_not (S.tm rfl)) rfl ?_; clear S; intro a S
      refine l_done ?_
      replace S := S.nk [.blk b2 (GRest.enc (GRest.mk ((nth x1 x3).Who) (GSlot.mk (((nth x1 x3).From).Item) (((nth x1 x3).From).Heat) (((nth x1 x3).From).Time)) (GSlot.mk (((nth x1 x3).To).Item) (((nth x1 x3).To).Heat) (((nth x1 x3).To).Time)) ((nth x1 x3).Long))) 60, .own v_p_s 60 10 x1.length (x1.flatMap GRest.enc)] [(0, v_p_s), (1, .func (.func 39) #[] #[.pointer (some ⟨b_p_del_0, 0, none⟩)]), (5, iV x2), (6, iV x3), (7, .pointer (some ⟨b2, 0, none⟩)), (29, bV (!(session_Short_c1 (GRest.mk ((nth x1 x3).Who) (GSlot.mk (((nth x1 x3).From).Item) (((nth x1 x3).From).Heat) (((nth x1 x3).From).Time)) (GSlot.mk (((nth x1 x3).To).Item) (((nth x1 x3).To).Heat) (((nth x1 x3).To).Time)) ((nth x1 x3).Long)) p_del_0)))] [true, true] rfl (subR rfl)
      refine then_n ?_
      obtain ⟨j3, hj3, h⟩ := joinE h
      refine f_join (fun a w' => ∃ x6 : List GRest, ∃ x7 : Int, j3 x6 x7 = some r ∧ Sx w (v_p_s.ownBlock.toList) nov [.blk b2 (GRest.enc (GRest.mk ((nth x1 x3).Who) (GSlot.mk (((nth x1 x3).From).Item) (((nth x1 x3).From).Heat) (((nth x1 x3).From).Time)) (GSlot.mk (((nth x1 x3).To).Item) (((nth x1 x3).To).Heat) (((nth x1 x3).To).Time)) ((nth x1 x3).Long))) 60, .own v_p_s 60 10 x6.length (x6.flatMap GRest.enc)] [(0, v_p_s), (1, .func (.func 39) #[] #[.pointer (some ⟨b_p_del_0, 0, none⟩)]), (5, iV x7), (6, iV x3)] 42 a w') ?_ ?_
      ·refine f_cond (S.tm rfl) (fun hb3 => ?_) (fun hb3 => ?_)
       ·replace h := iteT h hb3
        refine f_seq (f_region (lv S (rn_move (S.tm rfl)) rfl ?_)); clear S; intro a S
        refine lv S (rn_move (S.tm rfl)) rfl ?_; clear S; intro a S
        refine lv S (rn_ldA Tryz.isAgg60 Tryz.sizeOf60 (off := 0) (o := 0) (part := (GRest.enc (GRest.mk ((nth x1 x3).Who) (GSlot.mk (((nth x1 x3).From).Item) (((nth x1 x3).From).Heat) (((nth x1 x3).From).Time)) (GSlot.mk (((nth x1 x3).To).Item) (((nth x1 x3).To).Heat) (((nth x1 x3).To).Time)) ((nth x1 x3).Long)))) rfl rfl (S.tm rfl) (S.cellsAt (i := 0) rfl)) rfl ?_; clear S; intro a S
        obtain ⟨hc2, h⟩ := chkE h
        obtain ⟨b3, hg2, hr2⟩ := rn_indexS (a := a) (x := .tmp 30) (y := .tmp 31) (ty := 0) sl_37 GRest.enc_ok S (i := 1) rfl (inB_get hc2).1 (inB_get hc2).2 (S.tm rfl) (S.tm rfl)
        refine lv S (hr2 _) rfl ?_; clear S; intro a S
        clear hr2
        refine l_storeO (c := 0) (j := x2.toNat) (GRest.mk ((nth x1 x3).Who) (GSlot.mk (((nth x1 x3).From).Item) (((nth x1 x3).From).Heat) (((nth x1 x3).From).Time)) (GSlot.mk (((nth x1 x3).To).Item) (((nth x1 x3).To).Heat) (((nth x1 x3).To).Time)) ((nth x1 x3).Long)) GRest.enc_ok S (S.tm rfl) (S.tm rfl) (i := 1) rfl hg2 (inB_get hc2).1 Tryz.sizeOf60 (vs := [sV ((nth x1 x3).Who), sV (((nth x1 x3).From).Item), iV (((nth x1 x3).From).Heat), iV ((((nth x1 x3).From).Time).From), iV ((((nth x1 x3).From).Time).To), sV (((nth x1 x3).To).Item), iV (((nth x1 x3).To).Heat), iV ((((nth x1 x3).To).Time).From), iV ((((nth x1 x3).To).Time).To), iV ((nth x1 x3).Long)]) rfl rfl rfl rfl rfl ?_; clear S; intro w10 hk6 S
        refine l_done (then_n (f_region (lv S (rn_move (S.tm rfl)) rfl ?_))); clear S; intro a S
        refine lv S (rn_add (S.tm rfl) rfl) rfl ?_; clear S; intro a S
        refine lv S (rn_assign (S.tm rfl)) rfl ?_; clear S; intro a S
        refine l_done (then_n ?_)
        exact ⟨(x1.set x2.toNat (GRest.mk ((nth x1 x3).Who) (GSlot.mk (((nth x1 x3).From).Item) (((nth x1 x3).From).Heat) (((nth x1 x3).From).Time)) (GSlot.mk (((nth x1 x3).To).Item) (((nth x1 x3).To).Heat) (((nth x1 x3).To).Time)) ((nth x1 x3).Long))), W (x2 + 1), h, S.nf [true, true] rfl (subR rfl)⟩
       ·replace h := iteF h hb3
        refine wp_skip (then_n ?_)
        exact ⟨x1, x2, h, S.nf [true, true] rfl (subR rfl)⟩
      clear S h; rintro a w8 ⟨x6, x7, h, S⟩; rw [hj3] at h; clear hj3 j3
      refine blk_n (then_n ?_)
      exact ⟨x6, x7, h, S.nf [false, true] rfl (subR rfl)⟩
     clear S h; rintro a w4 ⟨x4, x5, h, S⟩; rw [hj2] at h; clear hj2 j2
     refine then_n (f_region (lv S (rn_move (S.tm rfl)) rfl ?_)); clear S; intro a S
     refine lv S (rn_add (S.tm rfl) rfl) rfl ?_; clear S; intro a S
     refine lv S (rn_assign (S.tm rfl)) rfl ?_; clear S; intro a S
     refine l_done (then_n ?_)
     exact ⟨m1, ⟨x4, x5, W (x3 + 1), h, S.nf [true] rfl ⟨rfl, rfl, rfl, rfl, trivial⟩⟩, Nat.lt_succ_self _⟩
    ·replace h := iteF h hb2
     refine wp_exit (then_x (then_x (x_same (then_n ?_))))
     exact ⟨x1, x2, h, S.nf [true] rfl (subR rfl)⟩
  clear S h; rintro a w3 ⟨x1, x2, h, S⟩; rw [hj1] at h; clear hj1 j1
  refine then_n (f_seq (f_region (lv S (rn_move (S.tm rfl)) rfl ?_))); clear S; intro a S
  refine lv S (rn_move (S.tm rfl)) rfl ?_; clear S; intro a S
  obtain ⟨hc3, h⟩ := chkE h
  obtain ⟨u1, hu1, hr3⟩ := rn_subl (a := a) (x := .tmp 36) (y := .tmp 37) (ty := 37) sl_37 S (i := 0) rfl (S.tm rfl) (S.tm rfl) hc3
  refine lv S (hr3 _) rfl ?_; clear S; intro a S
  clear hr3
  refine l_clear (zl := x2) (zh := (x1.length : Int)) (z := (GRest.mk k_empty (GSlot.mk k_empty 0 (GWindow.mk 0 0)) (GSlot.mk k_empty 0 (GWindow.mk 0 0)) 0)) sl_37 rfl GRest.enc_ok S (i := 0) rfl hu1 (S.tm rfl) Tryz.zeroValue60 rfl ?_; clear S; intro w11 hk7 S
  refine l_done (then_n (f_seq (f_region (lv S (rn_move (S.tm rfl)) rfl ?_)))); clear S; intro a S
  refine lv S (rn_move (S.tm rfl)) rfl ?_; clear S; intro a S
  obtain ⟨hc4, h⟩ := chkE h
  obtain ⟨u2, hu2, hr4⟩ := rn_subh (a := a) (x := .tmp 39) (y' := .tmp 40) (ty := 37) sl_37 S (i := 0) rfl (S.tm rfl) (S.tm rfl) hc4
  refine lv S (hr4 _) rfl ?_; clear S; intro a S
  clear hr4
  refine lv S (rn_assign (S.tm rfl)) rfl ?_; clear S; intro a S
  refine l_done (then_n (wp_ret ?_))
  obtain ⟨S, hz2⟩ := S.ownCut (zh := x2) GRest.enc_ok (i := 0) rfl hu2
  obtain rfl := Option.some.inj h
  exact f_ret S Tryz.results38 rfl ⟨(S.holds _ (List.mem_of_getElem? (i := 0) rfl)), hz2⟩
theorem session_Short_ok (w : World) (v_p_items : Value) (p_items : List GItem) (hs_p_items : Slc (view w []) 5 v_p_items (p_items.map GItem.enc)) (v_p_l : Value) (p_l : List GCall) (hs_p_l : Slc (view w []) 3 v_p_l (p_l.map GCall.enc)) (p_from : Int) (p_need : Int) (r : (List GRest) × Int) (h : session_Short p_items p_l p_from p_need = some r) :
    Calls Tryz.prog 11 [v_p_items, v_p_l, iV p_from, iV p_need].toArray w (Ret w [] fun τ v _ => ∃ u1 : Value, v = .tuple #[u1, iV r.2] ∧ OwnV τ 60 10 u1 r.1.length (r.1.flatMap GRest.enc)) := by
 refine f_enter [] [] Tryz.func11 rfl Tryz.ntmps11 rfl (by simp) (by simp [fps]) (by simp [fps]) fun a S => ?_
 unfold session_Short at h
 replace S := S.nk [] [(0, v_p_items), (1, v_p_l), (2, iV p_from), (3, iV p_need)] [] rfl (subR rfl)
 refine f_seq (f_region (l_box S (S.tm rfl) (cs := [iV p_need]) rfl rfl ?_)); clear S; intro a w1 b1 hz1 hk1 S
 refine lv S (rn_assign rfl) rfl ?_; clear S; intro a S
 refine lv S (rn_assign rfl) rfl ?_; clear S; intro a S
 refine l_done (then_n (f_seq (f_region (lv S (rn_move (S.tm rfl)) rfl ?_)))); clear S; intro a S
 refine lv S (rn_move (S.tm rfl)) rfl ?_; clear S; intro a S
 refine lv S (rn_move (S.tm rfl)) rfl ?_; clear S; intro a S
 obtain ⟨r1, hr1, h⟩ := bindE h
 have hz2 := S.keep.size
 refine l_enter S (fun _ => run_call (vs := [v_p_items, v_p_l, iV p_from]) ⟨(S.tm rfl), (S.tm rfl), (S.tm rfl), trivial⟩ Tryz.call10) (session_Rests_ok _ v_p_items p_items (hs_p_items.mono (S.le_arg nil_sub)) v_p_l p_l (hs_p_l.mono (S.le_arg nil_sub)) p_from _ hr1) rfl ?_; clear S; intro v1 a w2 hv1 hk2 hn1 S
 obtain ⟨u1, rfl, ho1⟩ := hv1
 replace S := S.take hn1 hz2 ho1
 refine lv S (rn_move (S.tm rfl)) rfl ?_; clear S; intro a S
 refine lv S (rn_extract (S.tm rfl) rfl) rfl ?_; clear S; intro a S
 refine lv S (rn_extract (S.tm rfl) rfl) rfl ?_; clear S; intro a S
 refine lv S (rn_assign (S.tm rfl)) rfl ?_; clear S; intro a S
 refine lv S (rn_assign (S.tm rfl)) rfl ?_; clear S; intro a S
 refine l_done ?_
 replace S := S.nk [.own u1 60 10 r1.1.length (r1.1.flatMap GRest.enc), .blk b1 [iV p_need] 3] [(7, .pointer (some ⟨b1, 0, none⟩)), (10, u1), (11, iV r1.2)] [true, true] rfl (subR rfl)
 refine then_n (f_seq (f_seq (f_region (lv S (rn_move (S.tm rfl)) rfl ?_)))); clear S; intro a S
 refine lv S (rn_neq (S.tm rfl) rfl) rfl ?_; clear S; intro a S
 refine l_done (then_n (f_cond (S.tm rfl) (fun hb1 => ?_) (fun hb1 => ?_)))
 ·replace h := iteT h hb1
  refine f_seq (f_region (lv S (rn_move (S.tm rfl)) rfl ?_)); clear S; intro a S
  refine lv S (rn_assign rfl) rfl ?_; clear S; intro a S
  refine lv S (rn_assign (S.tm rfl)) rfl ?_; clear S; intro a S
  refine l_done (then_n (wp_ret (then_r ?_)))
  obtain rfl := Option.some.inj h
  exact f_ret2 S Tryz.results11 rfl rfl ⟨_, rfl, (ownV_nil _ _ _)⟩
 ·replace h := iteF h hb1
  refine wp_skip (then_n (f_seq (f_seq (f_region (lv S (rn_load Tryz.isAgg3 (S.tm rfl) (S.cell (i := 1) rfl rfl)) rfl ?_))))); clear S; intro a S
  refine l_enter S (fun _ => run_call (vs := [iV p_need, iV 0, iV 3600000]) ⟨(S.tm rfl), rfl, rfl, trivial⟩ Tryz.call37) (words_Within_ok _ p_need 0 3600000 _ rfl) rfl ?_; clear S; intro v2 a w3 hv2 hk3 hn2 S
  subst hv2
  refine lv S (rn_not (S.tm rfl)) rfl ?_; clear S; intro a S
  refine l_done (then_n (f_cond (S.tm rfl) (fun hb2 => ?_) (fun hb2 => ?_)))
  ·replace h := iteT h hb2
   refine f_seq (f_region (lv S (rn_assign rfl) rfl ?_)); clear S; intro a S
   refine lv S (rn_assign rfl) rfl ?_; clear S; intro a S
   refine l_done (then_n (wp_ret (then_r ?_)))
   obtain rfl := Option.some.inj h
   exact f_ret2 S Tryz.results11 rfl rfl ⟨_, rfl, (ownV_nil _ _ _)⟩
  ·replace h := iteF h hb2
   refine wp_skip (then_n (f_seq (f_region (lv S (rn_move (S.tm rfl)) rfl ?_)))); clear S; intro a S
   refine lv S (rn_makeFunc (us := #[]) (xs := [].toArray) (ys := [.tmp 7].toArray) (by simp) (evA ⟨(S.tm rfl), trivial⟩ (vs := [.pointer (some ⟨b1, 0, none⟩)]))) rfl ?_; clear S; intro a S
   obtain ⟨r2, hr2, h⟩ := bindE h
   have hz3 := S.keep.size
   refine l_enterO 0 S rfl (fun v3 => .own v3 60 10 r2.length (r2.flatMap GRest.enc)) (fun _ => run_call (vs := [u1, .func (.func 39) #[] #[.pointer (some ⟨b1, 0, none⟩)]]) ⟨(S.tm rfl), (S.tm rfl), trivial⟩ Tryz.call38) (slices_DeleteFunc_Rest_session_Short_c1_ok _ u1 r1.1 (S.holds _ (List.mem_of_getElem? (i := 0) rfl)) b1 p_need (S.blk_view (i := 1) rfl ((ne_fp (i := 0) (j := 1) (e := .own u1 60 10 r1.1.length (r1.1.flatMap GRest.enc)) (e' := .blk b1 [iV p_need] 3) S rfl rfl rfl) _ rfl)) _ hr2) rfl (fun _ _ _ h => h) ?_; clear S; intro v3 a w4 hv3 hk4 hn3 S
   clear hv3
   refine lv S (rn_assign (S.tm rfl)) rfl ?_; clear S; intro a S
   refine lv S (rn_assign rfl) rfl ?_; clear S; intro a S
   refine l_done (then_n (wp_ret ?_))
   obtain rfl := Option.some.inj h
   exact f_ret2 S Tryz.results11 rfl rfl ⟨_, rfl, (own_retT S (i := 0) rfl rfl)⟩
set_option maxRecDepth 20000 in
theorem session_Both_c1_ok (w : World) (p_a : GPair) (p_b : GPair) (r : Int) (h : session_Both_c1 p_a p_b = r) :
    Calls Tryz.prog 41 [.agg (GPair.enc p_a).toArray, .agg (GPair.enc p_b).toArray].toArray w (Ret w [] fun _ v _ => v = iV r) := by
 refine f_enter [] [] Tryz.func41 rfl Tryz.ntmps41 rfl (by simp) (by simp [fps]) (by simp [fps]) fun a S => ?_
 unfold session_Both_c1 at h
 replace S := S.nk [] [(0, .agg (GPair.enc p_a).toArray), (1, .agg (GPair.enc p_b).toArray)] [] rfl (subR rfl)
 refine f_seq (f_region (l_box S (S.tm rfl) (cs := (GPair.enc p_a)) rfl rfl ?_)); clear S; intro a w1 b1 hz1 hk1 S
 refine l_box S (S.tm rfl) (cs := (GPair.enc p_b)) rfl rfl ?_; clear S; intro a w2 b2 hz2 hk2 S
 refine lv S (rn_assign rfl) rfl ?_; clear S; intro a S
 refine l_done (then_n (f_seq (d_region [] ([]) Tryz.mixed S rfl (by kernel_rfl) ?_))); clear S; intro w7 hk7 hsel S
 refine d_quiet 0 S hsel rfl rfl rfl (by kernel_rfl) (by kernel_rfl) rfl (fun _ hw => (rn_fld fa_63_0 (S.tm rfl))) ?_; clear S; intro a S
 refine d_quiet 1 S hsel rfl rfl rfl (by kernel_rfl) (by kernel_rfl) rfl (fun _ hw => (rn_ld Tryz.isAgg9 (off := 0) (o := 0) (S.tm rfl) ((S.blk_mem (i := 1) (cells := (GPair.enc p_a)) (b := b1) (T := 63) rfl (ne_nil (e' := .blk b1 (GPair.enc p_a) 63))).kept hw) rfl)) ?_; clear S; intro a S
 refine d_quiet 2 S hsel rfl rfl rfl (by kernel_rfl) (by kernel_rfl) rfl (fun _ hw => (rn_fld fa_63_0 (S.tm rfl))) ?_; clear S; intro a S
 refine d_quiet 3 S hsel rfl rfl rfl (by kernel_rfl) (by kernel_rfl) rfl (fun _ hw => (rn_ld Tryz.isAgg9 (off := 0) (o := 0) (S.tm rfl) ((S.blk_mem (i := 0) (cells := (GPair.enc p_b)) (b := b2) (T := 63) rfl (ne_nil (e' := .blk b2 (GPair.enc p_b) 63))).kept hw) rfl)) ?_; clear S; intro a S
 refine d_quiet 5 S hsel rfl rfl rfl (by kernel_rfl) (by kernel_rfl) rfl (fun _ hw => (rn_fld fa_63_1 (S.tm rfl))) ?_; clear S; intro a S
 refine d_quiet 6 S hsel rfl rfl rfl (by kernel_rfl) (by kernel_rfl) rfl (fun _ hw => (rn_ld Tryz.isAgg9 (off := 0) (o := 1) (S.tm rfl) ((S.blk_mem (i := 1) (cells := (GPair.enc p_a)) (b := b1) (T := 63) rfl (ne_nil (e' := .blk b1 (GPair.enc p_a) 63))).kept hw) rfl)) ?_; clear S; intro a S
 refine d_quiet 7 S hsel rfl rfl rfl (by kernel_rfl) (by kernel_rfl) rfl (fun _ hw => (rn_fld fa_63_1 (S.tm rfl))) ?_; clear S; intro a S
 refine d_quiet 8 S hsel rfl rfl rfl (by kernel_rfl) (by kernel_rfl) rfl (fun _ hw => (rn_ld Tryz.isAgg9 (off := 0) (o := 1) (S.tm rfl) ((S.blk_mem (i := 0) (cells := (GPair.enc p_b)) (b := b2) (T := 63) rfl (ne_nil (e' := .blk b2 (GPair.enc p_b) 63))).kept hw) rfl)) ?_; clear S; intro a S
 refine d_loud1 4 (by kernel_rfl) rfl (l_enter S (fun _ => run_call (vs := [sV p_a.Name, sV p_b.Name]) ⟨(S.tm rfl), (S.tm rfl), trivial⟩ Tryz.call43) (strings_Compare_ok _ p_a.Name p_b.Name _ rfl) rfl ?_); clear S; intro v4 a w8 hv4 hk8 hn4 S
 subst hv4
 refine l_done (d_next hk8 (d_loud1 9 (by kernel_rfl) rfl (l_enter S (fun _ => run_call (vs := [sV p_a.Value, sV p_b.Value]) ⟨(S.tm rfl), (S.tm rfl), trivial⟩ Tryz.call43) (strings_Compare_ok _ p_a.Value p_b.Value _ rfl) rfl ?_))); clear S; intro v5 a w9 hv5 hk9 hn5 S
 subst hv5
 refine l_done (d_next hk9 (d_loud1 10 (by kernel_rfl) rfl (l_buildSlice S Tryz.underlying22 Tryz.sizeOf3 Tryz.zeroValue3 rfl rfl (pv := [(0, iV (strings_Compare p_a.Name p_b.Name)), (1, iV (strings_Compare p_a.Value p_b.Value))]) ⟨rfl, (S.tm rfl), rfl, (S.tm rfl), trivial⟩ (cs := [iV (strings_Compare p_a.Name p_b.Name), iV (strings_Compare p_a.Value p_b.Value)]) (by kernel_rfl) rfl ?_))); clear S; intro a w10 b4 hz4 hk10 S
 refine l_done (d_next hk10 (d_loud1 11 (by kernel_rfl) rfl (l_enter S (fun _ => run_call (vs := [.slice (some ⟨b4, 0, none⟩) 2 2]) ⟨(S.tm rfl), trivial⟩ Tryz.call42) (cmp_Or_int_ok _ (.slice (some ⟨b4, 0, none⟩) 2 2) [(strings_Compare p_a.Name p_b.Name), (strings_Compare p_a.Value p_b.Value)] (lit_slcT enc_int S (i := 0) rfl rfl rfl rfl ((ne_nil (e' := .blk b4 [iV (strings_Compare p_a.Name p_b.Name), iV (strings_Compare p_a.Value p_b.Value)] 3)) _ rfl)) _ rfl) rfl ?_))); clear S; intro v6 a w11 hv6 hk11 hn6 S
 subst hv6
 refine l_done (d_next hk11 (d_rest [12] hsel (by kernel_rfl) rfl ?_))
 clear hsel
 refine s_lv S rfl (rn_assign (S.tm rfl)) rfl ?_; clear S; intro a S
 refine s_done ?_
 replace S := S.nk [] [(4, iV (cmp_Or_int [(strings_Compare p_a.Name p_b.Name), (strings_Compare p_a.Value p_b.Value)]))] [false, false, false] rfl ⟨rfl, trivial⟩
 refine then_n (wp_ret ?_)
 subst h
 exact f_ret S Tryz.results41 rfl rfl
set_option maxRecDepth 20000 in
theorem slices_insertionSortCmpFunc_Pair_session_Both_c1_ok (w : World) (v_p_data : Value) (p_data : List GPair) (hb_p_data : (LEnt.own v_p_data 63 2 p_data.length (p_data.flatMap GPair.enc)).holds w) (p_a : Int) (p_b : Int) (r : (List GPair)) (h : slices_insertionSortCmpFunc_Pair_session_Both_c1 p_data p_a p_b = some r) :
    Calls Tryz.prog 100 [v_p_data, iV p_a, iV p_b, .func (.func 41) #[] #[]].toArray w (Ret w (v_p_data.ownBlock.toList) fun _ v w' => (LEnt.own v_p_data 63 2 r.length (r.flatMap GPair.enc)).holds w' ∧ v = .tuple #[]) := by
 refine f_enter (v_p_data.ownBlock.toList) [.own v_p_data 63 2 p_data.length (p_data.flatMap GPair.enc)] Tryz.func100 rfl Tryz.ntmps100 rfl (fun e he => by simp only [List.mem_singleton] at he; subst he; exact hb_p_data) (fps_one_nodup _) (fps_one_sub _) fun a S => ?_
 unfold slices_insertionSortCmpFunc_Pair_session_Both_c1 at h
 replace S := S.nk [.own v_p_data 63 2 p_data.length (p_data.flatMap GPair.enc)] [(0, v_p_data), (1, iV p_a), (2, iV p_b), (3, .func (.func 41) #[] #[])] [true] rfl (subR rfl)
 refine f_seq (f_region (lv S (rn_move (S.tm rfl)) rfl ?_)); clear S; intro a S
 refine lv S (rn_add (S.tm rfl) rfl) rfl ?_; clear S; intro a S
 refine lv S (rn_assign (S.tm rfl)) rfl ?_; clear S; intro a S
 refine l_done (then_n ?_)
 replace S := S.nk [.own v_p_data 63 2 p_data.length (p_data.flatMap GPair.enc)] [(0, v_p_data), (1, iV p_a), (2, iV p_b), (3, .func (.func 41) #[] #[]), (8, iV (W (p_a + 1)))] [true] rfl (subR rfl)
 obtain ⟨j1, hj1, h⟩ := joinE h
 refine f_join (fun a w' => ∃ x1 : List GPair, j1 x1 = some r ∧ Sx w (v_p_data.ownBlock.toList) nov [.own v_p_data 63 2 x1.length (x1.flatMap GPair.enc)] [] 53 a w') ?_ ?_
 ·refine wp_block (f_loop (fun (m1 : Nat) a w' => ∃ x1 : List GPair, ∃ x2 : Int, slices_insertionSortCmpFunc_Pair_session_Both_c1_l1 p_b p_a j1 m1 x1 x2 = some r ∧ Sx w (v_p_data.ownBlock.toList) nov [.own v_p_data 63 2 x1.length (x1.flatMap GPair.enc)] [(0, v_p_data), (1, iV p_a), (2, iV p_b), (3, .func (.func 41) #[] #[]), (8, iV x2)] 53 a w') id ((p_b - (W (p_a + 1))).toNat + 2) ⟨p_data, W (p_a + 1), h, S.nf [true] rfl (subR rfl)⟩ ?_)
  clear S h; rintro m1 a w1 ⟨x1, x2, h, S⟩
  cases m1 with
  | zero => rw [slices_insertionSortCmpFunc_Pair_session_Both_c1_l1.eq_1] at h; cases h
  | succ m1 =>
   rw [slices_insertionSortCmpFunc_Pair_session_Both_c1_l1.eq_2] at h
   refine f_seq (f_seq (f_region (lv S (rn_move (S.tm rfl)) rfl ?_))); clear S; intro a S
   refine lv S (rn_move (S.tm rfl)) rfl ?_; clear S; intro a S
   refine lv S (rn_lss (S.tm rfl) (S.tm rfl)) rfl ?_; clear S; intro a S
   refine l_done (then_n (f_cond (S.tm rfl) (fun hb1 => ?_) (fun hb1 => ?_)))
   ·replace h := iteT h hb1
    refine wp_skip (then_n (f_seq (wp_block (f_seq (f_region (lv S (rn_move (S.tm rfl)) rfl ?_)))))); clear S; intro a S
    refine lv S (rn_assign (S.tm rfl)) rfl ?_; clear S; intro a S
    refine l_done (then_n ?_)
    replace S := S.nk [.own v_p_data 63 2 x1.length (x1.flatMap GPair.enc)] [(0, v_p_data), (1, iV p_a), (2, iV p_b), (3, .func (.func 41) #[] #[]), (8, iV x2), (9, iV x2)] [true] rfl (subR rfl)
    obtain ⟨j2, hj2, h⟩ := joinE h
    refine f_join (fun a w' => ∃ x3 : List GPair, j2 x3 = some r ∧ Sx w (v_p_data.ownBlock.toList) nov [.own v_p_data 63 2 x3.length (x3.flatMap GPair.enc)] [(0, v_p_data), (1, iV p_a), (2, iV p_b), (3, .func (.func 41) #[] #[]), (8, iV x2)] 53 a w') ?_ ?_
    ·refine wp_block (f_loop (fun (m2 : Nat) a w' => ∃ x3 : List GPair, ∃ x4 : Int, slices_insertionSortCmpFunc_Pair_session_Both_c1_l2 p_a j2 m2 x3 x4 = some r ∧ Sx w (v_p_data.ownBlock.toList) nov [.own v_p_data 63 2 x3.length (x3.flatMap GPair.enc)] [(0, v_p_data), (1, iV p_a), (2, iV p_b), (3, .func (.func 41) #[] #[]), (8, iV x2), (9, iV x4)] 53 a w') id ((x2 - p_a).toNat + 2) ⟨x1, x2, h, S.nf [true] rfl (subR rfl)⟩ ?_)
     clear S h; rintro m2 a w3 ⟨x3, x4, h, S⟩
     cases m2 with
     | zero => rw [slices_insertionSortCmpFunc_Pair_session_Both_c1_l2.eq_1] at h; cases h
     | succ m2 =>
      rw [slices_insertionSortCmpFunc_Pair_session_Both_c1_l2.eq_2] at h
      refine f_seq (f_seq ?_)
      obtain ⟨j3, hj3, h⟩ := joinE h
      refine f_join (fun a w' => ∃ x5 : Bool, j3 x5 = some r ∧ Sx w (v_p_data.ownBlock.toList) nov [.own v_p_data 63 2 x3.length (x3.flatMap GPair.enc)] [(0, v_p_data), (1, iV p_a), (2, iV p_b), (3, .func (.func 41) #[] #[]), (8, iV x2), (9, iV x4), (34, bV x5)] 53 a w') ?_ ?_
      ·rcases Bool.eq_false_or_eq_true (decide (p_a < x4)) with hb2 | hb2
       ·replace h := iteT h hb2
        obtain ⟨hc1, h⟩ := chkE h
        obtain ⟨hc2, h⟩ := chkE h
        refine d_region [] ([]) Tryz.mixed S rfl (by kernel_rfl) ?_; clear S; intro w7 hk2 hsel S
        refine d_quiet 0 S hsel rfl rfl rfl (by kernel_rfl) (by kernel_rfl) rfl (fun _ hw => (rn_move (S.tm rfl))) ?_; clear S; intro a S
        refine d_quiet 1 S hsel rfl rfl rfl (by kernel_rfl) (by kernel_rfl) rfl (fun _ hw => (rn_move (S.tm rfl))) ?_; clear S; intro a S
        refine d_quiet 2 S hsel rfl rfl rfl (by kernel_rfl) (by kernel_rfl) rfl (fun _ hw => (rn_gtr (S.tm rfl) (S.tm rfl))) ?_; clear S; intro a S
        refine d_quiet 3 S hsel rfl rfl rfl (by kernel_rfl) (by kernel_rfl) rfl (fun _ hw => (rn_move (S.tm rfl))) ?_; clear S; intro a S
        refine d_quiet_g 4 S hsel rfl rfl rfl rfl hb2 rfl rfl (by kernel_rfl) (by kernel_rfl) rfl (fun _ hw => (rn_move (S.tm rfl))) ?_; clear S; intro a S
        refine d_quiet_g 5 S hsel rfl rfl rfl rfl hb2 rfl rfl (by kernel_rfl) (by kernel_rfl) rfl (fun _ hw => (rn_move (S.tm rfl))) ?_; clear S; intro a S
        refine d_quiet_g 6 S hsel rfl rfl rfl rfl hb2 rfl rfl (by kernel_rfl) (by kernel_rfl) rfl (fun _ hw => (rn_move (S.tm rfl))) ?_; clear S; intro a S
        obtain ⟨b3, hg3, hr3⟩ := rn_indexS (a := a) (x := .tmp 23) (y := .tmp 24) (ty := 0) sl_41 GPair.enc_ok S (i := 0) rfl (inB_get hc1).1 (inB_get hc1).2 (S.tm rfl) (S.tm rfl)
        refine d_quiet_g 7 S hsel rfl rfl rfl rfl hb2 rfl rfl (by kernel_rfl) (by kernel_rfl) rfl (fun _ hw => (hr3 _)) ?_; clear S; intro a S
        clear hr3
        refine d_quiet_g 8 S hsel rfl rfl rfl rfl hb2 rfl rfl (by kernel_rfl) (by kernel_rfl) rfl (fun _ hw => (rn_ldA Tryz.isAgg63 Tryz.sizeOf63 (off := x4.toNat * 2) (o := 0) (part := (GPair.enc (nth x3 x4))) rfl rfl (S.tm rfl) ((own_mem GPair.enc_ok S (i := 0) rfl hg3 (inB_get hc1).1 (ne_nil (e' := .own v_p_data 63 2 x3.length (x3.flatMap GPair.enc)))).kept hw))) ?_; clear S; intro a S
        refine d_quiet_g 9 S hsel rfl rfl rfl rfl hb2 rfl rfl (by kernel_rfl) (by kernel_rfl) rfl (fun _ hw => (rn_move (S.tm rfl))) ?_; clear S; intro a S
        refine d_quiet_g 10 S hsel rfl rfl rfl rfl hb2 rfl rfl (by kernel_rfl) (by kernel_rfl) rfl (fun _ hw => (rn_move (S.tm rfl))) ?_; clear S; intro a S
        refine d_quiet_g 11 S hsel rfl rfl rfl rfl hb2 rfl rfl (by kernel_rfl) (by kernel_rfl) rfl (fun _ hw => (rn_sub (S.tm rfl) rfl)) ?_; clear S; intro a S
        obtain ⟨b4, hg4, hr4⟩ := rn_indexS (a := a) (x := .tmp 27) (y := .tmp 29) (ty := 0) sl_41 GPair.enc_ok S (i := 0) rfl (inB_get hc2).1 (inB_get hc2).2 (S.tm rfl) (S.tm rfl)
        refine d_quiet_g 12 S hsel rfl rfl rfl rfl hb2 rfl rfl (by kernel_rfl) (by kernel_rfl) rfl (fun _ hw => (hr4 _)) ?_; clear S; intro a S
        clear hr4
        refine d_quiet_g 13 S hsel rfl rfl rfl rfl hb2 rfl rfl (by kernel_rfl) (by kernel_rfl) rfl (fun _ hw => (rn_ldA Tryz.isAgg63 Tryz.sizeOf63 (off := ((W (x4 - 1)).toNat) * 2) (o := 0) (part := (GPair.enc (nth x3 (W (x4 - 1))))) rfl rfl (S.tm rfl) ((own_mem GPair.enc_ok S (i := 0) rfl hg4 (inB_get hc2).1 (ne_nil (e' := .own v_p_data 63 2 x3.length (x3.flatMap GPair.enc)))).kept hw))) ?_; clear S; intro a S
        refine d_loud1 14 (by kernel_rfl) rfl (l_want S rfl rfl rfl hb2 (l_enter S (fun _ => run_callV (cap := []) (S.tm rfl) (vs := [.agg (GPair.enc (nth x3 x4)).toArray, .agg (GPair.enc (nth x3 (W (x4 - 1)))).toArray]) ⟨(S.tm rfl), (S.tm rfl), trivial⟩ Tryz.call41) (session_Both_c1_ok _ (nth x3 x4) (nth x3 (W (x4 - 1))) _ rfl) rfl ?_)); clear S; intro v2 a w8 hv2 hk3 hn2 S
        subst hv2
        refine l_done (d_next hk3 (d_rest [15, 16] hsel (by kernel_rfl) rfl ?_))
        clear hsel
        refine s_want S rfl rfl rfl rfl hb2 (s_lv0 S (rn_lss (S.tm rfl) rfl) rfl ?_); clear S; intro a S
        refine s_lv S rfl (rn_pick_b hb2 (S.tm rfl) (S.tm rfl)) rfl ?_; clear S; intro a S
        refine s_done ?_
        replace S := S.nk [.own v_p_data 63 2 x3.length (x3.flatMap GPair.enc)] [(0, v_p_data), (1, iV p_a), (2, iV p_b), (3, .func (.func 41) #[] #[]), (8, iV x2), (9, iV x4), (22, .func (.func 41) #[] #[]), (23, v_p_data), (24, iV x4), (25, .pointer (some ⟨b3, x4.toNat * 2, none⟩)), (26, .agg (GPair.enc (nth x3 x4)).toArray), (27, v_p_data), (28, iV x4), (29, iV (W (x4 - 1))), (30, .pointer (some ⟨b4, ((W (x4 - 1)).toNat) * 2, none⟩)), (31, .agg (GPair.enc (nth x3 (W (x4 - 1)))).toArray), (32, iV (session_Both_c1 (nth x3 x4) (nth x3 (W (x4 - 1))))), (33, bV (decide ((session_Both_c1 (nth x3 x4) (nth x3 (W (x4 - 1)))) < 0))), (34, bV (decide ((session_Both_c1 (nth x3 x4) (nth x3 (W (x4 - 1)))) < 0)))] [true] rfl (subR rfl)
        refine then_n ?_
        exact ⟨decide ((session_Both_c1 (nth x3 x4) (nth x3 (W (x4 - 1)))) < 0), h, S.nf [true] rfl (subR rfl)⟩
       ·replace h := iteF h hb2
        refine d_region [] ([]) Tryz.mixed S rfl (by kernel_rfl) ?_; clear S; intro w9 hk4 hsel S
        refine d_rest [0, 1, 2, 3, 4, 5, 6, 7, 8, 9, 10, 11, 12, 13, 14, 15, 16] hsel (by kernel_rfl) rfl ?_
        clear hsel
        refine s_lv S rfl (rn_move (S.tm rfl)) rfl ?_; clear S; intro a S
        refine s_lv S rfl (rn_move (S.tm rfl)) rfl ?_; clear S; intro a S
        refine s_lv S rfl (rn_gtr (S.tm rfl) (S.tm rfl)) rfl ?_; clear S; intro a S
        refine s_lv S rfl (rn_move (S.tm rfl)) rfl ?_; clear S; intro a S
        iterate 12 (refine s_skip S rfl rfl rfl rfl (neq_f hb2) rfl ?_ rfl; clear S; intro a S)
        refine s_lv S rfl (rn_pick_c hb2 (S.tm rfl) rfl) rfl ?_; clear S; intro a S
        refine s_done ?_
        replace S := S.nk [.own v_p_data 63 2 x3.length (x3.flatMap GPair.enc)] [(0, v_p_data), (1, iV p_a), (2, iV p_b), (3, .func (.func 41) #[] #[]), (8, iV x2), (9, iV x4), (34, bV false)] [true] rfl (subR rfl)
        refine then_n ?_
        exact ⟨false, h, S.nf [true] rfl (subR rfl)⟩
      clear S h; rintro a w5 ⟨x5, h, S⟩; rw [hj3] at h; clear hj3 j3
      refine then_n (f_cond (S.tm rfl) (fun hb3 => ?_) (fun hb3 => ?_))
      ·replace h := iteT h hb3
       refine wp_skip (then_n (f_seq (wp_block ?_)))
       obtain ⟨hc3, h⟩ := chkE h
       obtain ⟨hc4, h⟩ := chkE h
       obtain ⟨hc5, h⟩ := chkE h
       obtain ⟨hc6, h⟩ := chkE h
       refine d_region [15, 17] ([]) Tryz.mixed S rfl (by kernel_rfl) ?_; clear S; intro w14 hk9 hsel S
       refine d_pure 0 S hsel rfl rfl (by kernel_rfl) (by kernel_rfl) rfl (fun _ => (rn_move (S.tm rfl))) ?_; clear S; intro a S
       refine d_pure 1 S hsel rfl rfl (by kernel_rfl) (by kernel_rfl) rfl (fun _ => (rn_move (S.tm rfl))) ?_; clear S; intro a S
       refine d_pure 2 S hsel rfl rfl (by kernel_rfl) (by kernel_rfl) rfl (fun _ => (rn_move (S.tm rfl))) ?_; clear S; intro a S
       refine d_pure 3 S hsel rfl rfl (by kernel_rfl) (by kernel_rfl) rfl (fun _ => (rn_move (S.tm rfl))) ?_; clear S; intro a S
       refine d_pure 4 S hsel rfl rfl (by kernel_rfl) (by kernel_rfl) rfl (fun _ => (rn_sub (S.tm rfl) rfl)) ?_; clear S; intro a S
       refine d_pure 5 S hsel rfl rfl (by kernel_rfl) (by kernel_rfl) rfl (fun _ => (rn_move (S.tm rfl))) ?_; clear S; intro a S
       refine d_pure 6 S hsel rfl rfl (by kernel_rfl) (by kernel_rfl) rfl (fun _ => (rn_move (S.tm rfl))) ?_; clear S; intro a S
       refine d_pure 7 S hsel rfl rfl (by kernel_rfl) (by kernel_rfl) rfl (fun _ => (rn_sub (S.tm rfl) rfl)) ?_; clear S; intro a S
       obtain ⟨b9, hg9, hr9⟩ := rn_indexS (a := a) (x := .tmp 42) (y := .tmp 44) (ty := 0) sl_41 GPair.enc_ok S (i := 0) rfl (inB_get hc3).1 (inB_get hc3).2 (S.tm rfl) (S.tm rfl)
       refine d_pure 8 S hsel rfl rfl (by kernel_rfl) (by kernel_rfl) rfl (fun _ => (hr9 _)) ?_; clear S; intro a S
       clear hr9
       refine d_quiet 9 S hsel rfl (by kernel_rfl) (by kernel_rfl) (by kernel_rfl) (by kernel_rfl) rfl (fun _ hw => (rn_ldA Tryz.isAgg63 Tryz.sizeOf63 (off := ((W (x4 - 1)).toNat) * 2) (o := 0) (part := (GPair.enc (nth x3 (W (x4 - 1))))) rfl rfl (S.tm rfl) ((own_mem GPair.enc_ok S (i := 0) rfl hg9 (inB_get hc3).1 (ne_nil (e' := .own v_p_data 63 2 x3.length (x3.flatMap GPair.enc)))).kept hw))) ?_; clear S; intro a S
       refine d_pure 10 S hsel rfl rfl (by kernel_rfl) (by kernel_rfl) rfl (fun _ => (rn_move (S.tm rfl))) ?_; clear S; intro a S
       refine d_pure 11 S hsel rfl rfl (by kernel_rfl) (by kernel_rfl) rfl (fun _ => (rn_move (S.tm rfl))) ?_; clear S; intro a S
       obtain ⟨b10, hg10, hr10⟩ := rn_indexS (a := a) (x := .tmp 47) (y := .tmp 48) (ty := 0) sl_41 GPair.enc_ok S (i := 0) rfl (inB_get hc4).1 (inB_get hc4).2 (S.tm rfl) (S.tm rfl)
       refine d_pure 12 S hsel rfl rfl (by kernel_rfl) (by kernel_rfl) rfl (fun _ => (hr10 _)) ?_; clear S; intro a S
       clear hr10
       refine d_quiet 13 S hsel rfl (by kernel_rfl) (by kernel_rfl) (by kernel_rfl) (by kernel_rfl) rfl (fun _ hw => (rn_ldA Tryz.isAgg63 Tryz.sizeOf63 (off := x4.toNat * 2) (o := 0) (part := (GPair.enc (nth x3 x4))) rfl rfl (S.tm rfl) ((own_mem GPair.enc_ok S (i := 0) rfl hg10 (inB_get hc4).1 (ne_nil (e' := .own v_p_data 63 2 x3.length (x3.flatMap GPair.enc)))).kept hw))) ?_; clear S; intro a S
       obtain ⟨b11, hg11, hr11⟩ := rn_indexS (a := a) (x := .tmp 37) (y := .tmp 38) (ty := 0) sl_41 GPair.enc_ok S (i := 0) rfl (inB_get hc5).1 (inB_get hc5).2 (S.tm rfl) (S.tm rfl)
       refine d_pure 14 S hsel rfl rfl (by kernel_rfl) (by kernel_rfl) rfl (fun _ => (hr11 _)) ?_; clear S; intro a S
       clear hr11
       refine d_loudB 15 (v_p_data.ownBlock.toList) rfl (by kernel_rfl) rfl (l_storeO (c := 0) (j := x4.toNat) (nth x3 (W (x4 - 1))) GPair.enc_ok S (S.tm rfl) (S.tm rfl) (i := 0) rfl hg11 (inB_get hc5).1 Tryz.sizeOf63 (vs := [sV ((nth x3 (W (x4 - 1))).Name), sV ((nth x3 (W (x4 - 1))).Value)]) rfl rfl rfl rfl rfl ?_); clear S; intro w16 hk11 S
       refine l_done (d_nextB ?_)
       obtain ⟨b12, hg12, hr12⟩ := rn_indexS (a := a) (x := .tmp 39) (y := .tmp 41) (ty := 0) sl_41 GPair.enc_ok S (i := 0) rfl (inB_get hc6).1 (inB_get hc6).2 (S.tm rfl) (S.tm rfl)
       refine d_quiet 16 S hsel rfl rfl rfl (by kernel_rfl) (by kernel_rfl) rfl (fun _ hw => (hr12 _)) ?_; clear S; intro a S
       clear hr12
       refine d_loud1 17 (by kernel_rfl) rfl (l_storeO (c := 0) (j := (W (x4 - 1)).toNat) (nth x3 x4) GPair.enc_ok S (S.tm rfl) (S.tm rfl) (i := 0) rfl hg12 (inB_get hc6).1 Tryz.sizeOf63 (vs := [sV ((nth x3 x4).Name), sV ((nth x3 x4).Value)]) rfl rfl rfl rfl rfl ?_); clear S; intro w18 hk13 S
       refine l_done (d_next hk13 (d_end (by kernel_rfl) ?_))
       clear hsel
       replace S := S.nk [.own v_p_data 63 2 ((x3.set x4.toNat (nth x3 (W (x4 - 1)))).set ((W (x4 - 1)).toNat) (nth x3 x4)).length (((x3.set x4.toNat (nth x3 (W (x4 - 1)))).set ((W (x4 - 1)).toNat) (nth x3 x4)).flatMap GPair.enc)] [(0, v_p_data), (1, iV p_a), (2, iV p_b), (3, .func (.func 41) #[] #[]), (8, iV x2), (9, iV x4)] [true] rfl (subR rfl)
       refine blk_n (then_n (f_region (lv S (rn_move (S.tm rfl)) rfl ?_))); clear S; intro a S
       refine lv S (rn_sub (S.tm rfl) rfl) rfl ?_; clear S; intro a S
       refine lv S (rn_assign (S.tm rfl)) rfl ?_; clear S; intro a S
       refine l_done (then_n ?_)
       exact ⟨m2, ⟨((x3.set x4.toNat (nth x3 (W (x4 - 1)))).set ((W (x4 - 1)).toNat) (nth x3 x4)), W (x4 - 1), h, S.nf [true] rfl ⟨rfl, rfl, rfl, rfl, rfl, rfl, trivial⟩⟩, Nat.lt_succ_self _⟩
      ·replace h := iteF h hb3
       refine wp_exit (then_x (then_x (x_same (then_n ?_))))
       exact ⟨x3, h, S.nf [true] rfl (subR rfl)⟩
    clear S h; rintro a w4 ⟨x3, h, S⟩; rw [hj2] at h; clear hj2 j2
    refine blk_n (then_n (f_region (lv S (rn_move (S.tm rfl)) rfl ?_))); clear S; intro a S
    refine lv S (rn_add (S.tm rfl) rfl) rfl ?_; clear S; intro a S
    refine lv S (rn_assign (S.tm rfl)) rfl ?_; clear S; intro a S
    refine l_done (then_n ?_)
    exact ⟨m1, ⟨x3, W (x2 + 1), h, S.nf [true] rfl ⟨rfl, rfl, rfl, rfl, rfl, trivial⟩⟩, Nat.lt_succ_self _⟩
   ·replace h := iteF h hb1
    refine wp_exit (then_x (then_x (x_same (then_n ?_))))
    exact ⟨x1, h, S.nf [true] rfl trivial⟩
 clear S h; rintro a w2 ⟨x1, h, S⟩; rw [hj1] at h; clear hj1 j1
 obtain rfl := Option.some.inj h
 exact f_ret0 S Tryz.results100 ⟨(S.holds _ (List.mem_of_getElem? (i := 0) rfl)), rfl⟩
theorem slices_pdqsortCmpFunc_Pair_session_Both_c1_ok (w : World) (v_p_data : Value) (p_data : List GPair) (hb_p_data : (LEnt.own v_p_data 63 2 p_data.length (p_data.flatMap GPair.enc)).holds w) (p_a : Int) (p_b : Int) (p_limit : Int) (r : (List GPair)) (h : slices_pdqsortCmpFunc_Pair_session_Both_c1 p_data p_a p_b p_limit = some r) :
    Calls Tryz.prog 77 [v_p_data, iV p_a, iV p_b, iV p_limit, .func (.func 41) #[] #[]].toArray w (Ret w (v_p_data.ownBlock.toList) fun _ v w' => (LEnt.own v_p_data 63 2 r.length (r.flatMap GPair.enc)).holds w' ∧ v = .tuple #[]) := by
 refine f_enter (v_p_data.ownBlock.toList) [.own v_p_data 63 2 p_data.length (p_data.flatMap GPair.enc)] Tryz.func77 rfl Tryz.ntmps77 rfl (fun e he => by simp only [List.mem_singleton] at he; subst he; exact hb_p_data) (fps_one_nodup _) (fps_one_sub _) fun a S => ?_
 unfold slices_pdqsortCmpFunc_Pair_session_Both_c1 at h
 replace S := S.nk [.own v_p_data 63 2 p_data.length (p_data.flatMap GPair.enc)] [(0, v_p_data), (1, iV p_a), (2, iV p_b), (3, iV p_limit), (4, .func (.func 41) #[] #[])] [true] rfl (subR rfl)
 refine f_seq (f_region (lv S (rn_assign rfl) rfl ?_)); clear S; intro a S
 refine l_done (then_n (f_seq (f_region (lv S (rn_assign rfl) rfl ?_)))); clear S; intro a S
 refine l_done (then_n ?_)
 replace S := S.nk [.own v_p_data 63 2 p_data.length (p_data.flatMap GPair.enc)] [(0, v_p_data), (1, iV p_a), (2, iV p_b), (3, iV p_limit), (4, .func (.func 41) #[] #[]), (10, bV true)] [true] rfl (subR rfl)
 refine f_join (fun a w' => False) ?_ ?_
 ·refine wp_block (f_loop (fun (m1 : Nat) a w' => ∃ x1 : Int, ∃ x2 : Int, ∃ x3 : Int, ∃ x4 : Bool, slices_pdqsortCmpFunc_Pair_session_Both_c1_l1 p_data m1 x1 x2 x3 x4 = some r ∧ Sx w (v_p_data.ownBlock.toList) nov [.own v_p_data 63 2 p_data.length (p_data.flatMap GPair.enc)] [(0, v_p_data), (1, iV x1), (2, iV x2), (3, iV x3), (4, .func (.func 41) #[] #[]), (10, bV x4)] 148 a w') id 4611686018427387904 ⟨p_a, p_b, p_limit, true, h, S.nf [true] rfl (subR rfl)⟩ ?_)
  clear S h; rintro m1 a w1 ⟨x1, x2, x3, x4, h, S⟩
  cases m1 with
  | zero => rw [slices_pdqsortCmpFunc_Pair_session_Both_c1_l1.eq_1] at h; cases h
  | succ m1 =>
   rw [slices_pdqsortCmpFunc_Pair_session_Both_c1_l1.eq_2] at h
   refine wp_block (f_seq (f_region (lv S (rn_move (S.tm rfl)) rfl ?_))); clear S; intro a S
   refine lv S (rn_move (S.tm rfl)) rfl ?_; clear S; intro a S
   refine lv S (rn_sub (S.tm rfl) (S.tm rfl)) rfl ?_; clear S; intro a S
   refine lv S (rn_assign (S.tm rfl)) rfl ?_; clear S; intro a S
   refine l_done (then_n (f_seq (f_seq (f_region (lv S (rn_move (S.tm rfl)) rfl ?_))))); clear S; intro a S
   refine lv S (rn_leq (S.tm rfl) rfl) rfl ?_; clear S; intro a S
   refine l_done (then_n (f_cond (S.tm rfl) (fun hb1 => ?_) (fun hb1 => ?_)))
   ·replace h := iteT h hb1
    refine f_seq (f_region (lv S (rn_move (S.tm rfl)) rfl ?_)); clear S; intro a S
    iterate 3 (refine lv S (rn_move (S.tm rfl)) rfl ?_; clear S; intro a S)
    obtain ⟨r1, hr1, h⟩ := bindE h
    refine l_enterO 0 S rfl (fun _ => .own v_p_data 63 2 r1.length (r1.flatMap GPair.enc)) (fun _ => run_call (vs := [v_p_data, iV x1, iV x2, .func (.func 41) #[] #[]]) ⟨(S.tm rfl), (S.tm rfl), (S.tm rfl), (S.tm rfl), trivial⟩ Tryz.call100) (slices_insertionSortCmpFunc_Pair_session_Both_c1_ok _ v_p_data p_data (S.holds _ (List.mem_of_getElem? (i := 0) rfl)) x1 x2 _ hr1) rfl (fun _ _ _ h => ⟨h.1, fun _ hc => hc⟩) ?_; clear S; intro v1 a w3 hv1 hk1 hn1 S
    replace hv1 := hv1.2
    subst hv1
    refine l_done ?_
    replace S := S.nk [.own v_p_data 63 2 r1.length (r1.flatMap GPair.enc)] [] [true] rfl trivial
    refine then_n (wp_ret (then_r (blk_r (then_r (blk_r (then_r ?_))))))
    obtain rfl := Option.some.inj h
    exact f_ret0 S Tryz.results77 ⟨(S.holds _ (List.mem_of_getElem? (i := 0) rfl)), rfl⟩
   ·replace h := iteF h hb1
    refine wp_skip (then_n (f_seq (f_seq (f_region (lv S (rn_move (S.tm rfl)) rfl ?_))))); clear S; intro a S
    refine lv S (rn_eql (S.tm rfl) rfl) rfl ?_; clear S; intro a S
    refine l_done (then_n (f_cond (S.tm rfl) (fun hb2 => ?_) (fun hb2 => ?_)))
    ·replace h := iteT h hb2
     refine f_seq ?_
     cases h
    ·replace h := iteF h hb2
     refine wp_skip (then_n (f_seq (f_seq (f_region (lv S (rn_move (S.tm rfl)) rfl ?_))))); clear S; intro a S
     refine lv S (rn_not (S.tm rfl)) rfl ?_; clear S; intro a S
     refine l_done ?_
     replace S := S.nk [.own v_p_data 63 2 p_data.length (p_data.flatMap GPair.enc)] [(39, bV (!x4))] [true] rfl ⟨rfl, trivial⟩
     refine then_n (f_cond (S.tm rfl) (fun hb3 => ?_) (fun hb3 => ?_))
     ·replace h := iteT h hb3
      refine f_seq ?_
      cases h
     ·replace h := iteF h hb3
      refine wp_skip (then_n (f_seq ?_))
      cases h
 exact fun _ _ h => h.elim
theorem slices_SortFunc_Pair_session_Both_c1_ok (w : World) (v_p_x : Value) (p_x : List GPair) (hb_p_x : (LEnt.own v_p_x 63 2 p_x.length (p_x.flatMap GPair.enc)).holds w) (r : (List GPair)) (h : slices_SortFunc_Pair_session_Both_c1 p_x = some r) :
    Calls Tryz.prog 40 [v_p_x, .func (.func 41) #[] #[]].toArray w (Ret w (v_p_x.ownBlock.toList) fun _ v w' => (LEnt.own v_p_x 63 2 r.length (r.flatMap GPair.enc)).holds w' ∧ v = .tuple #[]) := by
 refine f_enter (v_p_x.ownBlock.toList) [.own v_p_x 63 2 p_x.length (p_x.flatMap GPair.enc)] Tryz.func40 rfl Tryz.ntmps40 rfl (fun e he => by simp only [List.mem_singleton] at he; subst he; exact hb_p_x) (fps_one_nodup _) (fps_one_sub _) fun a S => ?_
 unfold slices_SortFunc_Pair_session_Both_c1 at h
 replace S := S.nk [.own v_p_x 63 2 p_x.length (p_x.flatMap GPair.enc)] [(0, v_p_x), (1, .func (.func 41) #[] #[])] [true] rfl (subR rfl)
 refine f_seq (f_region (lv S (rn_move (S.tm rfl)) rfl ?_)); clear S; intro a S
 refine lv S (rn_lenT sl_41 (S.tm rfl) (own_len (S.own_at (i := 0) rfl))) rfl ?_; clear S; intro a S
 refine lv S (rn_assign (S.tm rfl)) rfl ?_; clear S; intro a S
 refine l_done (then_n (f_region (lv S (rn_move (S.tm rfl)) rfl ?_))); clear S; intro a S
 refine lv S (rn_move (S.tm rfl)) rfl ?_; clear S; intro a S
 refine lv S (rn_move (S.tm rfl)) rfl ?_; clear S; intro a S
 refine lv S (rn_conv Tryz.underlying3 Tryz.underlying115 (S.tm rfl)) rfl ?_; clear S; intro a S
 obtain ⟨r1, hr1, h⟩ := bindE h
 refine l_enter S (fun _ => run_call (vs := [.int .u64 (IntKind.wrap .u64 (p_x.length : Int))]) ⟨(S.tm rfl), trivial⟩ Tryz.call78) (bits_Len_ok _ (IntKind.wrap .u64 (p_x.length : Int)) _ hr1) rfl ?_; clear S; intro v1 a w1 hv1 hk1 hn1 S
 subst hv1
 refine lv S (rn_move (S.tm rfl)) rfl ?_; clear S; intro a S
 obtain ⟨r2, hr2, h⟩ := bindE h
 refine l_enterO 0 S rfl (fun _ => .own v_p_x 63 2 r2.length (r2.flatMap GPair.enc)) (fun _ => run_call (vs := [v_p_x, iV 0, iV (p_x.length : Int), iV r1, .func (.func 41) #[] #[]]) ⟨(S.tm rfl), rfl, (S.tm rfl), (S.tm rfl), (S.tm rfl), trivial⟩ Tryz.call77) (slices_pdqsortCmpFunc_Pair_session_Both_c1_ok _ v_p_x p_x (S.holds _ (List.mem_of_getElem? (i := 0) rfl)) 0 (p_x.length : Int) r1 _ hr2) rfl (fun _ _ _ h => ⟨h.1, fun _ hc => hc⟩) ?_; clear S; intro v2 a w2 hv2 hk2 hn2 S
 replace hv2 := hv2.2
 subst hv2
 refine l_done ?_
 obtain rfl := Option.some.inj h
 exact f_ret0 S Tryz.results40 ⟨(S.holds _ (List.mem_of_getElem? (i := 0) rfl)), rfl⟩
theorem session_Both_ok (w : World) (v_p_items : Value) (p_items : List GItem) (hs_p_items : Slc (view w []) 5 v_p_items (p_items.map GItem.enc)) (v_p_l : Value) (p_l : List GCall) (hs_p_l : Slc (view w []) 3 v_p_l (p_l.map GCall.enc)) (r : (List GPair) × Int) (h : session_Both p_items p_l = some r) :
    Calls Tryz.prog 12 [v_p_items, v_p_l].toArray w (Ret w [] fun τ v _ => ∃ u1 : Value, v = .tuple #[u1, iV r.2] ∧ OwnV τ 63 2 u1 r.1.length (r.1.flatMap GPair.enc)) := by
 refine f_enter [] [] Tryz.func12 rfl Tryz.ntmps12 rfl (by simp) (by simp [fps]) (by simp [fps]) fun a S => ?_
 unfold session_Both at h
 replace S := S.nk [] [(0, v_p_items), (1, v_p_l)] [] rfl (subR rfl)
 refine f_seq (f_region (lv S (rn_assign rfl) rfl ?_)); clear S; intro a S
 refine lv S (rn_assign rfl) rfl ?_; clear S; intro a S
 refine l_done (then_n (f_seq (f_seq (f_region (lv S (rn_move (S.tm rfl)) rfl ?_))))); clear S; intro a S
 refine lv S (rn_move (S.tm rfl)) rfl ?_; clear S; intro a S
 obtain ⟨r1, hr1, h⟩ := bindE h
 refine l_enter S (fun _ => run_call (vs := [v_p_items, v_p_l]) ⟨(S.tm rfl), (S.tm rfl), trivial⟩ Tryz.call22) (session_CheckSwims_ok _ v_p_items p_items (hs_p_items.mono (S.le_arg nil_sub)) v_p_l p_l (hs_p_l.mono (S.le_arg nil_sub)) _ hr1) rfl ?_; clear S; intro v1 a w1 hv1 hk1 hn1 S
 subst hv1
 refine lv S (rn_assign (S.tm rfl)) rfl ?_; clear S; intro a S
 refine l_done (then_n (f_seq (f_region (lv S (rn_move (S.tm rfl)) rfl ?_)))); clear S; intro a S
 refine lv S (rn_neq (S.tm rfl) rfl) rfl ?_; clear S; intro a S
 refine l_done (then_n (f_cond (S.tm rfl) (fun hb1 => ?_) (fun hb1 => ?_)))
 ·replace h := iteT h hb1
  refine f_seq (f_region (lv S (rn_move (S.tm rfl)) rfl ?_)); clear S; intro a S
  refine lv S (rn_assign rfl) rfl ?_; clear S; intro a S
  refine lv S (rn_assign (S.tm rfl)) rfl ?_; clear S; intro a S
  refine l_done (then_n (wp_ret (then_r ?_)))
  obtain rfl := Option.some.inj h
  exact f_ret2 S Tryz.results12 rfl rfl ⟨_, rfl, (ownV_nil _ _ _)⟩
 ·replace h := iteF h hb1
  refine wp_skip (then_n (f_seq (f_region (l_makeMap (κ := GPair) (ν := Bool) S rfl (fun x => Value.agg (GPair.enc x).toArray) Value.bool ?_)))); clear S; intro a w2 b1 hz1 hk2 S
  refine lv S (rn_assign (S.tm rfl)) rfl ?_; clear S; intro a S
  refine l_done (then_n (f_seq (f_region (lv S (rn_assign rfl) rfl ?_)))); clear S; intro a S
  replace S := S.nil 63 2
  refine l_done (then_n (f_seq (f_seq (f_region (lv S (rn_move (S.tm rfl)) rfl ?_))))); clear S; intro a S
  refine lv S (rn_lenT sl_30 (S.tm rfl) (slc_len hs_p_l)) rfl ?_; clear S; intro a S
  refine lv S (rn_move rfl) rfl ?_; clear S; intro a S
  refine l_done ?_
  replace S := S.nk [.own (.slice none 0 0) 63 2 ([] : List GPair).length (([] : List GPair).flatMap GPair.enc), .map b1 (ments (fun x => Value.agg (GPair.enc x).toArray) Value.bool ([] : List (GPair × Bool))) ([] : List (GPair × Bool)).length] [(1, v_p_l), (7, .map (some b1)), (8, (.slice none 0 0)), (21, v_p_l), (22, iV (p_l.length : Int)), (23, iV 0)] [true, true] rfl (subR rfl)
  refine then_n ?_
  obtain ⟨j1, hj1, h⟩ := joinE h
  refine f_join (fun a w' => ∃ x1 : List GPair, ∃ x2 : List (GPair × Bool), ∃ v2 : Value, j1 x1 x2 = some r ∧ Sx w [] nov [.own v2 63 2 x1.length (x1.flatMap GPair.enc), .map b1 (ments (fun x => Value.agg (GPair.enc x).toArray) Value.bool x2) x2.length] [(8, v2)] 69 a w') ?_ ?_
  ·refine wp_block (f_loop (fun (ys1 : List GCall) a w' => ∃ i1 : Nat, ∃ x1 : List GPair, ∃ x2 : List (GPair × Bool), ∃ v2 : Value, (∃ dn, p_l = dn ++ ys1 ∧ dn.length = i1) ∧ session_Both_l1 p_l j1 ys1 i1 x1 x2 = some r ∧ Sx w [] nov [.own v2 63 2 x1.length (x1.flatMap GPair.enc), .map b1 (ments (fun x => Value.agg (GPair.enc x).toArray) Value.bool x2) x2.length] [(1, v_p_l), (7, .map (some b1)), (8, v2), (21, v_p_l), (22, iV (p_l.length : Int)), (23, iV (i1 : Int))] 69 a w') List.length p_l ⟨0, ([] : List GPair), ([] : List (GPair × Bool)), (.slice none 0 0), ⟨[], rfl, rfl⟩, h, S.nf [true, true] rfl (subR rfl)⟩ ?_)
   clear S h; rintro ys1 a w3 ⟨i1, x1, x2, v2, ⟨dn, hd1, hi1⟩, h, S⟩
   cases ys1 with
   | nil =>
    rw [session_Both_l1.eq_1] at h
    refine f_seq (f_region (lv S (rn_lss (S.tm rfl) (S.tm rfl)) rfl ?_)); clear S; intro a S
    refine l_done ?_
    replace S := S.nk [.own v2 63 2 x1.length (x1.flatMap GPair.enc), .map b1 (ments (fun x => Value.agg (GPair.enc x).toArray) Value.bool x2) x2.length] [(1, v_p_l), (7, .map (some b1)), (8, v2), (21, v_p_l), (22, iV (p_l.length : Int)), (23, iV (i1 : Int)), (24, bV (decide ((i1 : Int) < (p_l.length : Int))))] [true, true] rfl (subR rfl)
    refine then_n (f_seq (wp_cond_false ((S.tm rfl).trans (congrArg Value.bool (rng_nil hd1 hi1))) (wp_exit (then_x (then_x (x_same ?_))))))
    refine then_n ?_
    exact ⟨x1, x2, v2, h, S.nf [true, true] rfl ⟨rfl, trivial⟩⟩
   | cons y1 ys1 =>
    rw [session_Both_l1.eq_2] at h
    refine f_seq (f_region (lv S (rn_lss (S.tm rfl) (S.tm rfl)) rfl ?_)); clear S; intro a S
    refine l_done ?_
    replace S := S.nk [.own v2 63 2 x1.length (x1.flatMap GPair.enc), .map b1 (ments (fun x => Value.agg (GPair.enc x).toArray) Value.bool x2) x2.length] [(1, v_p_l), (7, .map (some b1)), (8, v2), (21, v_p_l), (22, iV (p_l.length : Int)), (23, iV (i1 : Int)), (24, bV (decide ((i1 : Int) < (p_l.length : Int))))] [true, true] rfl (subR rfl)
    refine then_n (f_seq (wp_cond_true ((S.tm rfl).trans (congrArg Value.bool (rng_cons hd1 hi1))) (wp_skip (then_n (f_seq (wp_block ?_))))))
    refine f_seq (f_region (lv S (rn_move (S.tm rfl)) rfl ?_)); clear S; intro a S
    obtain ⟨b2, o1, hm1, hr2⟩ := rn_indexT (a := a) (x := .tmp 21) (y := .tmp 23) (ty := 0) sl_30 hs_p_l (get_mid hd1 hi1) rfl (S.tm rfl) (S.tm rfl)
    refine lv S (hr2 _) rfl ?_; clear S; intro a S
    clear hr2
    refine lv S (rn_ldA Tryz.isAgg74 Tryz.sizeOf74 (off := o1) (o := 0) (part := (GCall.enc y1)) rfl rfl (S.tm rfl) (hm1.at S.emb0)) rfl ?_; clear S; intro a S
    refine l_alloc S Tryz.zeroValue74 (cs := [sV k_empty, sV k_empty, iV 0]) rfl rfl ?_; clear S; intro a w5 b3 hz2 hk3 S
    refine lv S (rn_assign (S.tm rfl)) rfl ?_; clear S; intro a S
    refine l_store S (S.tm rfl) (S.tm rfl) (i := 0) (off := 0) rfl Tryz.sizeOf74 (vs := (GCall.enc y1)) rfl rfl rfl rfl ?_; clear S; intro w6 hk4 S
    refine l_done (then_n (f_seq (f_region (lv S (rn_move (S.tm rfl)) rfl ?_)))); clear S; intro a S
    refine lv S (rn_move (S.tm rfl)) rfl ?_; clear S; intro a S
    refine lv S (rn_add (S.tm rfl) rfl) rfl ?_; clear S; intro a S
    obtain ⟨hc1, h⟩ := chkE h
    obtain ⟨v3, hs1, hr3⟩ := rn_cutTl (a := a) (x := .tmp 28) (y := .tmp 30) (ty := 30) sl_30 hs_p_l (S.tm rfl) (S.tm rfl) hc1
    refine lv S (hr3 _) rfl ?_; clear S; intro a S
    clear hr3
    refine lv S (rn_lenT sl_30 (S.tm rfl) (slc_len hs1)) rfl ?_; clear S; intro a S
    refine lv S (rn_move rfl) rfl ?_; clear S; intro a S
    refine l_done ?_
    replace S := S.nk [.blk b3 (GCall.enc y1) 74, .own v2 63 2 x1.length (x1.flatMap GPair.enc), .map b1 (ments (fun x => Value.agg (GPair.enc x).toArray) Value.bool x2) x2.length] [(1, v_p_l), (7, .map (some b1)), (8, v2), (10, .pointer (some ⟨b3, 0, none⟩)), (21, v_p_l), (22, iV (p_l.length : Int)), (23, iV (i1 : Int)), (31, v3), (32, iV ((cut p_l (W ((i1 : Int) + 1)) p_l.length).length : Int)), (33, iV 0)] [true, true, true] rfl (subR rfl)
    refine then_n ?_
    obtain ⟨j2, hj2, h⟩ := joinE h
    refine f_join (fun a w' => ∃ x3 : List GPair, ∃ x4 : List (GPair × Bool), ∃ v4 : Value, j2 x3 x4 = some r ∧ Sx w [] nov [.blk b3 (GCall.enc y1) 74, .own v4 63 2 x3.length (x3.flatMap GPair.enc), .map b1 (ments (fun x => Value.agg (GPair.enc x).toArray) Value.bool x4) x4.length] [(1, v_p_l), (7, .map (some b1)), (8, v4), (21, v_p_l), (22, iV (p_l.length : Int)), (23, iV (i1 : Int))] 69 a w') ?_ ?_
    ·refine wp_block (f_loop (fun (ys2 : List GCall) a w' => ∃ i2 : Nat, ∃ x3 : List GPair, ∃ x4 : List (GPair × Bool), ∃ v4 : Value, (∃ dn, cut p_l (W ((i1 : Int) + 1)) p_l.length = dn ++ ys2 ∧ dn.length = i2) ∧ session_Both_l2 y1 j2 ys2 i2 x3 x4 = some r ∧ Sx w [] nov [.blk b3 (GCall.enc y1) 74, .own v4 63 2 x3.length (x3.flatMap GPair.enc), .map b1 (ments (fun x => Value.agg (GPair.enc x).toArray) Value.bool x4) x4.length] [(1, v_p_l), (7, .map (some b1)), (8, v4), (10, .pointer (some ⟨b3, 0, none⟩)), (21, v_p_l), (22, iV (p_l.length : Int)), (23, iV (i1 : Int)), (31, v3), (32, iV ((cut p_l (W ((i1 : Int) + 1)) p_l.length).length : Int)), (33, iV (i2 : Int))] 69 a w') List.length (cut p_l (W ((i1 : Int) + 1)) p_l.length) ⟨0, x1, x2, v2, ⟨[], rfl, rfl⟩, h, S.nf [true, true, true] rfl (subR rfl)⟩ ?_)
     clear S h; rintro ys2 a w7 ⟨i2, x3, x4, v4, ⟨dn, hd2, hi2⟩, h, S⟩
     cases ys2 with
     | nil =>
      rw [session_Both_l2.eq_1] at h
      refine f_seq (f_region (lv S (rn_lss (S.tm rfl) (S.tm rfl)) rfl ?_)); clear S; intro a S
      refine l_done ?_
      replace S := S.nk [.blk b3 (GCall.enc y1) 74, .own v4 63 2 x3.length (x3.flatMap GPair.enc), .map b1 (ments (fun x => Value.agg (GPair.enc x).toArray) Value.bool x4) x4.length] [(1, v_p_l), (7, .map (some b1)), (8, v4), (10, .pointer (some ⟨b3, 0, none⟩)), (21, v_p_l), (22, iV (p_l.length : Int)), (23, iV (i1 : Int)), (31, v3), (32, iV ((cut p_l (W ((i1 : Int) + 1)) p_l.length).length : Int)), (33, iV (i2 : Int)), (34, bV (decide ((i2 : Int) < ((cut p_l (W ((i1 : Int) + 1)) p_l.length).length : Int))))] [true, true, true] rfl (subR rfl)
      refine then_n (f_seq (wp_cond_false ((S.tm rfl).trans (congrArg Value.bool (rng_nil hd2 hi2))) (wp_exit (then_x (then_x (x_same ?_))))))
      refine then_n ?_
      exact ⟨x3, x4, v4, h, S.nf [true, true, true] rfl (subR rfl)⟩
     | cons y2 ys2 =>
      rw [session_Both_l2.eq_2] at h
      refine f_seq (f_region (lv S (rn_lss (S.tm rfl) (S.tm rfl)) rfl ?_)); clear S; intro a S
      refine l_done ?_
      replace S := S.nk [.blk b3 (GCall.enc y1) 74, .own v4 63 2 x3.length (x3.flatMap GPair.enc), .map b1 (ments (fun x => Value.agg (GPair.enc x).toArray) Value.bool x4) x4.length] [(1, v_p_l), (7, .map (some b1)), (8, v4), (10, .pointer (some ⟨b3, 0, none⟩)), (21, v_p_l), (22, iV (p_l.length : Int)), (23, iV (i1 : Int)), (31, v3), (32, iV ((cut p_l (W ((i1 : Int) + 1)) p_l.length).length : Int)), (33, iV (i2 : Int)), (34, bV (decide ((i2 : Int) < ((cut p_l (W ((i1 : Int) + 1)) p_l.length).length : Int))))] [true, true, true] rfl (subR rfl)
      refine then_n (f_seq (wp_cond_true ((S.tm rfl).trans (congrArg Value.bool (rng_cons hd2 hi2))) (wp_skip (then_n (f_seq ?_)))))
      obtain ⟨j3, hj3, h⟩ := joinE h
      refine f_join (fun a w' => ∃ x5 : List GPair, ∃ x6 : List (GPair × Bool), ∃ v5 : Value, j3 x5 x6 = some r ∧ Sx w [] nov [.blk b3 (GCall.enc y1) 74, .own v5 63 2 x5.length (x5.flatMap GPair.enc), .map b1 (ments (fun x => Value.agg (GPair.enc x).toArray) Value.bool x6) x6.length] [(1, v_p_l), (7, .map (some b1)), (8, v5), (10, .pointer (some ⟨b3, 0, none⟩)), (21, v_p_l), (22, iV (p_l.length : Int)), (23, iV (i1 : Int)), (31, v3), (32, iV ((cut p_l (W ((i1 : Int) + 1)) p_l.length).length : Int)), (33, iV (i2 : Int))] 69 a w') ?_ ?_
      ·refine wp_block (f_seq (f_region ?_))
       obtain ⟨b4, o2, hm2, hr4⟩ := rn_indexT (a := a) (x := .tmp 31) (y := .tmp 33) (ty := 0) sl_30 hs1 (get_mid hd2 hi2) rfl (S.tm rfl) (S.tm rfl)
       refine lv S (hr4 _) rfl ?_; clear S; intro a S
       clear hr4
       refine lv S (rn_ldA Tryz.isAgg74 Tryz.sizeOf74 (off := o2) (o := 0) (part := (GCall.enc y2)) rfl rfl (S.tm rfl) (hm2.at S.emb0)) rfl ?_; clear S; intro a S
       refine l_alloc S Tryz.zeroValue74 (cs := [sV k_empty, sV k_empty, iV 0]) rfl rfl ?_; clear S; intro a w10 b5 hz3 hk5 S
       refine l_store S (S.tm rfl) (S.tm rfl) (i := 0) (off := 0) rfl Tryz.sizeOf74 (vs := (GCall.enc y2)) rfl rfl rfl rfl ?_; clear S; intro w11 hk6 S
       refine l_done (then_n (f_seq (f_region (lv S (rn_fld fa_74_1 (S.tm rfl)) rfl ?_)))); clear S; intro a S
       refine lv S (rn_load Tryz.isAgg9 (S.tm rfl) (S.cell (i := 1) rfl rfl)) rfl ?_; clear S; intro a S
       refine lv S (rn_fld fa_74_1 (S.tm rfl)) rfl ?_; clear S; intro a S
       refine lv S (rn_load Tryz.isAgg9 (S.tm rfl) (S.cell (i := 0) rfl rfl)) rfl ?_; clear S; intro a S
       refine lv S (rn_bld bt_63 (pv := [(0, sV y1.Item), (1, sV y2.Item)]) ⟨rfl, (S.tm rfl), rfl, (S.tm rfl), trivial⟩ (cs := [sV y1.Item, sV y2.Item]) (by kernel_rfl)) rfl ?_; clear S; intro a S
       refine l_alloc S Tryz.zeroValue63 (cs := [sV k_empty, sV k_empty]) rfl rfl ?_; clear S; intro a w12 b6 hz4 hk7 S
       refine l_store S (S.tm rfl) (S.tm rfl) (i := 0) (off := 0) rfl Tryz.sizeOf63 (vs := [sV y1.Item, sV y2.Item]) rfl rfl rfl rfl ?_; clear S; intro w13 hk8 S
       refine l_done ?_
       replace S := S.nk [.blk b6 [sV y1.Item, sV y2.Item] 63, .blk b5 (GCall.enc y2) 74, .blk b3 (GCall.enc y1) 74, .own v4 63 2 x3.length (x3.flatMap GPair.enc), .map b1 (ments (fun x => Value.agg (GPair.enc x).toArray) Value.bool x4) x4.length] [(1, v_p_l), (7, .map (some b1)), (8, v4), (10, .pointer (some ⟨b3, 0, none⟩)), (12, .pointer (some ⟨b5, 0, none⟩)), (13, .pointer (some ⟨b6, 0, none⟩)), (21, v_p_l), (22, iV (p_l.length : Int)), (23, iV (i1 : Int)), (31, v3), (32, iV ((cut p_l (W ((i1 : Int) + 1)) p_l.length).length : Int)), (33, iV (i2 : Int))] [true, true, true, true, true] rfl (subR rfl)
       refine then_n (f_seq (f_seq (f_region (lv S (rn_fld fa_74_0 (S.tm rfl)) rfl ?_)))); clear S; intro a S
       refine lv S (rn_load Tryz.isAgg9 (S.tm rfl) (S.cell (i := 1) rfl rfl)) rfl ?_; clear S; intro a S
       refine lv S (rn_fld fa_74_0 (S.tm rfl)) rfl ?_; clear S; intro a S
       refine lv S (rn_load Tryz.isAgg9 (S.tm rfl) (S.cell (i := 2) rfl rfl)) rfl ?_; clear S; intro a S
       refine lv S (rn_sneq (S.tm rfl) (S.tm rfl)) rfl ?_; clear S; intro a S
       refine l_done ?_
       replace S := S.nk [.blk b6 [sV y1.Item, sV y2.Item] 63, .blk b5 (GCall.enc y2) 74, .blk b3 (GCall.enc y1) 74, .own v4 63 2 x3.length (x3.flatMap GPair.enc), .map b1 (ments (fun x => Value.agg (GPair.enc x).toArray) Value.bool x4) x4.length] [(1, v_p_l), (7, .map (some b1)), (8, v4), (10, .pointer (some ⟨b3, 0, none⟩)), (12, .pointer (some ⟨b5, 0, none⟩)), (13, .pointer (some ⟨b6, 0, none⟩)), (21, v_p_l), (22, iV (p_l.length : Int)), (23, iV (i1 : Int)), (31, v3), (32, iV ((cut p_l (W ((i1 : Int) + 1)) p_l.length).length : Int)), (33, iV (i2 : Int)), (46, bV (!decide (y2.Who = y1.Who)))] [true, true, true, true, true] rfl (subR rfl)
       refine then_n (f_cond (S.tm rfl) (fun hb2 => ?_) (fun hb2 => ?_))
       ·replace h := iteT h hb2
        refine wp_exit (then_x (x_other rfl (then_x (then_x (then_x (x_same ?_))))))
        refine then_n ?_
        exact ⟨x3, x4, v4, h, S.nf [false, false, true, true, true] rfl (subR rfl)⟩
       ·replace h := iteF h hb2
        refine wp_skip (then_n (f_seq (f_region (lv S (rn_fld fa_74_1 (S.tm rfl)) rfl ?_)))); clear S; intro a S
        refine lv S (rn_load Tryz.isAgg9 (S.tm rfl) (S.cell (i := 2) rfl rfl)) rfl ?_; clear S; intro a S
        refine lv S (rn_fld fa_74_1 (S.tm rfl)) rfl ?_; clear S; intro a S
        refine lv S (rn_load Tryz.isAgg9 (S.tm rfl) (S.cell (i := 1) rfl rfl)) rfl ?_; clear S; intro a S
        refine lv S (rn_sneq (S.tm rfl) (S.tm rfl)) rfl ?_; clear S; intro a S
        refine lv S (rn_move (S.tm rfl)) rfl ?_; clear S; intro a S
        refine f_cutm 5 (fun a w' => Keep [] w13 w' ∧ Sx w [] nov [.blk b6 [sV y1.Item, sV y2.Item] 63, .blk b5 (GCall.enc y2) 74, .blk b3 (GCall.enc y1) 74, .own v4 63 2 x3.length (x3.flatMap GPair.enc), .map b1 (ments (fun x => Value.agg (GPair.enc x).toArray) Value.bool x4) x4.length] [(1, v_p_l), (7, .map (some b1)), (8, v4), (10, .pointer (some ⟨b3, 0, none⟩)), (13, .pointer (some ⟨b6, 0, none⟩)), (21, v_p_l), (22, iV (p_l.length : Int)), (23, iV (i1 : Int)), (31, v3), (32, iV ((cut p_l (W ((i1 : Int) + 1)) p_l.length).length : Int)), (33, iV (i2 : Int)), (57, bV ((!decide (y1.Item = y2.Item)) && (!(mgetD x4 (GPair.mk y1.Item y2.Item) false))))] 69 a w') ?_ ?_
        ·rcases Bool.eq_false_or_eq_true (!decide (y1.Item = y2.Item)) with hb3 | hb3
         ·refine l_want S rfl rfl rfl hb3 (lv S (rn_move (S.tm rfl)) rfl ?_); clear S; intro a S
          refine l_want S rfl rfl rfl hb3 (lv S (rn_ldA Tryz.isAgg63 Tryz.sizeOf63 (off := 0) (o := 0) (part := [sV y1.Item, sV y2.Item]) rfl rfl (S.tm rfl) (S.cellsAt (i := 0) rfl)) rfl ?_); clear S; intro a S
          refine l_want S rfl rfl rfl hb3 (lv S (rn_lookup (kv := (fun x => Value.agg (GPair.enc x).toArray)) (vv := Value.bool) (m := x4) (key := (GPair.mk y1.Item y2.Item)) (z := false) (S.map_at (i := 4) rfl) Tryz.underlying85 keyT_63 Tryz.zeroValue4 (S.tm rfl) (S.tm rfl)) rfl ?_); clear S; intro a S
          refine l_want S rfl rfl rfl hb3 (lv S (rn_not (S.tm rfl)) rfl ?_); clear S; intro a S
          refine lv S (rn_and_t hb3 (S.tm rfl) (S.tm rfl)) rfl ?_; clear S; intro a S
          refine l_done (then_n ?_)
          exact ⟨Keep.refl _ _, S.nf [true, true, true, true, true] rfl (subR rfl)⟩
         ·iterate 4 (refine l_skip S rfl rfl rfl (neq_f hb3) rfl ?_ rfl; clear S; intro a S)
          refine lv S (rn_and_f (!(mgetD x4 (GPair.mk y1.Item y2.Item) false)) hb3 (S.tm rfl) rfl) rfl ?_; clear S; intro a S
          refine l_done (then_n ?_)
          exact ⟨Keep.refl _ _, S.nf [true, true, true, true, true] rfl (subR rfl)⟩
        clear S; rintro a w14 ⟨hk9, S⟩
        refine l_done (then_n ?_)
        obtain ⟨j4, hj4, h⟩ := joinE h
        refine f_join (fun a w' => ∃ x7 : List GPair, ∃ x8 : List (GPair × Bool), ∃ v6 : Value, j4 x7 x8 = some r ∧ Sx w [] nov [.blk b3 (GCall.enc y1) 74, .own v6 63 2 x7.length (x7.flatMap GPair.enc), .map b1 (ments (fun x => Value.agg (GPair.enc x).toArray) Value.bool x8) x8.length] [(1, v_p_l), (7, .map (some b1)), (8, v6), (10, .pointer (some ⟨b3, 0, none⟩)), (21, v_p_l), (22, iV (p_l.length : Int)), (23, iV (i1 : Int)), (31, v3), (32, iV ((cut p_l (W ((i1 : Int) + 1)) p_l.length).length : Int)), (33, iV (i2 : Int))] 69 a w') ?_ ?_
        ·refine f_cond (S.tm rfl) (fun hb4 => ?_) (fun hb4 => ?_)
         ·replace h := iteT h hb4
          refine f_seq (f_region (lv S (rn_move (S.tm rfl)) rfl ?_)); clear S; intro a S
          refine lv S (rn_ldA Tryz.isAgg63 Tryz.sizeOf63 (off := 0) (o := 0) (part := [sV y1.Item, sV y2.Item]) rfl rfl (S.tm rfl) (S.cellsAt (i := 0) rfl)) rfl ?_; clear S; intro a S
          refine l_mapUpdate (kv := (fun x => Value.agg (GPair.enc x).toArray)) (vv := Value.bool) (m := x4) (key := (GPair.mk y1.Item y2.Item)) (val := true) S (i := 4) rfl Tryz.underlying85 keyT_63 (S.tm rfl) (S.tm rfl) rfl ?_; clear S; intro w16 hk10 S
          refine l_done (then_n (f_region (lv S (rn_move (S.tm rfl)) rfl ?_))); clear S; intro a S
          refine lv S (rn_ldA Tryz.isAgg63 Tryz.sizeOf63 (off := 0) (o := 0) (part := [sV y1.Item, sV y2.Item]) rfl rfl (S.tm rfl) (S.cellsAt (i := 0) rfl)) rfl ?_; clear S; intro a S
          refine l_buildSlice S Tryz.underlying41 Tryz.sizeOf63 Tryz.zeroValue63 rfl rfl (pv := [(0, .agg #[sV y1.Item, sV y2.Item])]) ⟨rfl, (S.tm rfl), trivial⟩ (cs := [sV y1.Item, sV y2.Item]) (by kernel_rfl) rfl ?_; clear S; intro a w17 b7 hz5 hk11 S
          obtain ⟨hc2, h⟩ := chkE h
          refine l_appendT sl_41 GPair.enc_ok S (S.tm rfl) (i := 4) rfl (S.tm rfl) (j := 0) rfl (ys := [(GPair.mk y1.Item y2.Item)]) rfl rfl rfl rfl (by have := room_lt hc2; omega) rfl ?_; clear S; intro v7 a w18 hk12 S
          refine lv S (rn_assign (S.tm rfl)) rfl ?_; clear S; intro a S
          refine l_done ?_
          replace S := S.nk [.blk b3 (GCall.enc y1) 74, .own v7 63 2 (x3 ++ [(GPair.mk y1.Item y2.Item)]).length ((x3 ++ [(GPair.mk y1.Item y2.Item)]).flatMap GPair.enc), .map b1 (ments (fun x => Value.agg (GPair.enc x).toArray) Value.bool (mput x4 (GPair.mk y1.Item y2.Item) true)) (mput x4 (GPair.mk y1.Item y2.Item) true).length] [(1, v_p_l), (7, .map (some b1)), (8, v7), (10, .pointer (some ⟨b3, 0, none⟩)), (21, v_p_l), (22, iV (p_l.length : Int)), (23, iV (i1 : Int)), (31, v3), (32, iV ((cut p_l (W ((i1 : Int) + 1)) p_l.length).length : Int)), (33, iV (i2 : Int))] [false, false, false, true, true, true] rfl (subR rfl)
          refine then_n ?_
          exact ⟨(x3 ++ [(GPair.mk y1.Item y2.Item)]), (mput x4 (GPair.mk y1.Item y2.Item) true), v7, h, S.nf [true, true, true] rfl (subR rfl)⟩
         ·replace h := iteF h hb4
          refine wp_skip (then_n ?_)
          exact ⟨x3, x4, v4, h, S.nf [false, false, true, true, true] rfl (subR rfl)⟩
        clear S h; rintro a w15 ⟨x7, x8, v6, h, S⟩; rw [hj4] at h; clear hj4 j4
        refine blk_n (then_n ?_)
        exact ⟨x7, x8, v6, h, S.nf [true, true, true] rfl (subR rfl)⟩
      clear S h; rintro a w9 ⟨x5, x6, v5, h, S⟩; rw [hj3] at h; clear hj3 j3
      refine then_n (f_region (lv S (rn_add (S.tm rfl) rfl) rfl ?_)); clear S; intro a S
      refine lv S (rn_move (S.tm rfl)) rfl ?_; clear S; intro a S
      refine l_done (then_n ?_)
      exact ⟨ys2, ⟨i2 + 1, x5, x6, v5, ⟨_, (hd2).trans (List.append_cons _ _ _), by simp [hi2]⟩, h, S.nf [true, true, true] rfl ⟨rfl, rfl, rfl, rfl, rfl, rfl, rfl, rfl, rfl, (congrArg (fun z => some (Value.int .i64 z)) (rng_next hd2 hi2 (slc_max hs1))), trivial⟩⟩, Nat.lt_succ_self _⟩
    clear S h; rintro a w8 ⟨x3, x4, v4, h, S⟩; rw [hj2] at h; clear hj2 j2
    refine blk_n (then_n (f_region (lv S (rn_add (S.tm rfl) rfl) rfl ?_))); clear S; intro a S
    refine lv S (rn_move (S.tm rfl)) rfl ?_; clear S; intro a S
    refine l_done (then_n ?_)
    exact ⟨ys1, ⟨i1 + 1, x3, x4, v4, ⟨_, (hd1).trans (List.append_cons _ _ _), by simp [hi1]⟩, h, S.nf [false, true, true] rfl ⟨rfl, rfl, rfl, rfl, rfl, (congrArg (fun z => some (Value.int .i64 z)) (rng_next hd1 hi1 (slc_max hs_p_l))), trivial⟩⟩, Nat.lt_succ_self _⟩
  clear S h; rintro a w4 ⟨x1, x2, v2, h, S⟩; rw [hj1] at h; clear hj1 j1
  refine then_n (f_seq (f_region (lv S (rn_move (S.tm rfl)) rfl ?_))); clear S; intro a S
  obtain ⟨r2, hr5, h⟩ := bindE h
  refine l_enterO 0 S rfl (fun _ => .own v2 63 2 r2.length (r2.flatMap GPair.enc)) (fun _ => run_call (vs := [v2, .func (.func 41) #[] #[]]) ⟨(S.tm rfl), rfl, trivial⟩ Tryz.call40) (slices_SortFunc_Pair_session_Both_c1_ok _ v2 x1 (S.holds _ (List.mem_of_getElem? (i := 0) rfl)) _ hr5) rfl (fun _ _ _ h => ⟨h.1, fun _ hc => hc⟩) ?_; clear S; intro v8 a w19 hv2 hk13 hn2 S
  replace hv2 := hv2.2
  subst hv2
  refine l_done (then_n (f_seq (f_region (lv S (rn_move (S.tm rfl)) rfl ?_)))); clear S; intro a S
  refine lv S (rn_assign (S.tm rfl)) rfl ?_; clear S; intro a S
  refine lv S (rn_assign rfl) rfl ?_; clear S; intro a S
  refine l_done (then_n (wp_ret ?_))
  obtain rfl := Option.some.inj h
  exact f_ret2 S Tryz.results12 rfl rfl ⟨_, rfl, (own_retT S (i := 0) rfl rfl)⟩
theorem tumbref2_in_ok (w : World) (p_n : Int) (p_low : Int) (p_high : Int) (r : Bool) (h : tumbref2_in p_n p_low p_high = r) :
    Calls Tryz.prog 47 [iV p_n, iV p_low, iV p_high].toArray w (Ret w [] fun _ v _ => v = bV r) := by
 refine f_enter [] [] Tryz.func47 rfl Tryz.ntmps47 rfl (by simp) (by simp [fps]) (by simp [fps]) fun a S => ?_
 unfold tumbref2_in at h
 replace S := S.nk [] [(0, iV p_n), (1, iV p_low), (2, iV p_high)] [] rfl (subR rfl)
 refine f_seq (f_region (lv S (rn_assign rfl) rfl ?_)); clear S; intro a S
 refine l_done (then_n (f_seq (f_region (lv S (rn_move (S.tm rfl)) rfl ?_)))); clear S; intro a S
 refine lv S (rn_move (S.tm rfl)) rfl ?_; clear S; intro a S
 refine lv S (rn_leq (S.tm rfl) (S.tm rfl)) rfl ?_; clear S; intro a S
 refine lv S (rn_move (S.tm rfl)) rfl ?_; clear S; intro a S
 refine f_cutm 4 (fun a w' => Keep [] w w' ∧ Sx w [] nov [] [(14, bV ((decide (p_low ≤ p_n)) && (decide (p_n ≤ p_high))))] 15 a w') ?_ ?_
 ·rcases Bool.eq_false_or_eq_true (decide (p_low ≤ p_n)) with hb1 | hb1
  ·refine l_want S rfl rfl rfl hb1 (lv S (rn_move (S.tm rfl)) rfl ?_); clear S; intro a S
   refine l_want S rfl rfl rfl hb1 (lv S (rn_move (S.tm rfl)) rfl ?_); clear S; intro a S
   refine l_want S rfl rfl rfl hb1 (lv S (rn_leq (S.tm rfl) (S.tm rfl)) rfl ?_); clear S; intro a S
   refine lv S (rn_and_t hb1 (S.tm rfl) (S.tm rfl)) rfl ?_; clear S; intro a S
   refine l_done (then_n ?_)
   exact ⟨Keep.refl _ _, S.nf [] rfl ⟨rfl, trivial⟩⟩
  ·iterate 3 (refine l_skip S rfl rfl rfl (neq_f hb1) rfl ?_ rfl; clear S; intro a S)
   refine lv S (rn_and_f (decide (p_n ≤ p_high)) hb1 (S.tm rfl) rfl) rfl ?_; clear S; intro a S
   refine l_done (then_n ?_)
   exact ⟨Keep.refl _ _, S.nf [] rfl ⟨rfl, trivial⟩⟩
 clear S; rintro a w1 ⟨hk1, S⟩
 refine lv S (rn_assign (S.tm rfl)) rfl ?_; clear S; intro a S
 refine l_done (then_n (wp_ret ?_))
 subst h
 exact f_ret S Tryz.results47 rfl rfl
theorem strings_IndexByte_ok (w : World) (s : ByteArray) (c : Int) (r : Int) (h : strings_IndexByte s c = r) : Calls Tryz.prog 111 [.string s, .int .u8 c].toArray w (Ret w [] fun _ v _ => v = .int .i64 r) := by
  subst h
  exact ret_of_same (Any.strings_IndexByte Tryz.lays137 s c w)
theorem tumbref2_only_ok (w : World) (p_s : ByteArray) (p_some : ByteArray) (r : Bool) (h : tumbref2_only p_s p_some = some r) :
    Calls Tryz.prog 82 [sV p_s, sV p_some].toArray w (Ret w [] fun _ v _ => v = bV r) := by
 refine f_enter [] [] Tryz.func82 rfl Tryz.ntmps82 rfl (by simp) (by simp [fps]) (by simp [fps]) fun a S => ?_
 unfold tumbref2_only at h
 replace S := S.nk [] [(0, sV p_s), (1, sV p_some)] [] rfl (subR rfl)
 refine f_seq (f_region (lv S (rn_assign rfl) rfl ?_)); clear S; intro a S
 refine l_done (then_n (f_seq (f_seq (f_region (lv S (rn_move (S.tm rfl)) rfl ?_))))); clear S; intro a S
 refine lv S (rn_len_str Tryz.underlying9 (S.tm rfl)) rfl ?_; clear S; intro a S
 refine lv S (rn_move rfl) rfl ?_; clear S; intro a S
 refine l_done (then_n ?_)
 replace S := S.nk [] [(0, sV p_s), (1, sV p_some), (7, iV (p_s.size : Int)), (8, iV 0)] [] rfl (subR rfl)
 obtain ⟨j1, hj1, h⟩ := joinE h
 refine f_join (fun a w' => j1 = some r ∧ Sx w [] nov [] [] 18 a w') ?_ ?_
 ·refine wp_block (f_loop (fun (m1 : Nat) a w' => ∃ x1 : Int, tumbref2_only_l1 p_s p_some j1 m1 x1 = some r ∧ Sx w [] nov [] [(0, sV p_s), (1, sV p_some), (7, iV (p_s.size : Int)), (8, iV x1)] 18 a w') id (((p_s.size : Int) - 0).toNat + 2) ⟨0, h, S.nf [] rfl (subR rfl)⟩ ?_)
  clear S h; rintro m1 a w1 ⟨x1, h, S⟩
  cases m1 with
  | zero => rw [tumbref2_only_l1.eq_1] at h; cases h
  | succ m1 =>
   rw [tumbref2_only_l1.eq_2] at h
   refine f_seq (f_region (lv S (rn_lss (S.tm rfl) (S.tm rfl)) rfl ?_)); clear S; intro a S
   refine l_done (then_n (f_seq (f_cond (S.tm rfl) (fun hb1 => ?_) (fun hb1 => ?_))))
   ·replace h := iteT h hb1
    refine wp_skip (then_n (f_seq (wp_block (f_seq (f_region (lv S (rn_move (S.tm rfl)) rfl ?_)))))); clear S; intro a S
    refine lv S (rn_assign (S.tm rfl)) rfl ?_; clear S; intro a S
    refine l_done (then_n (f_seq (f_region (lv S (rn_move (S.tm rfl)) rfl ?_)))); clear S; intro a S
    refine lv S (rn_move (S.tm rfl)) rfl ?_; clear S; intro a S
    refine lv S (rn_move (S.tm rfl)) rfl ?_; clear S; intro a S
    obtain ⟨hc1, h⟩ := chkE h
    refine lv S (rn_sindexT Tryz.underlying9 (S.tm rfl) (S.tm rfl) hc1) rfl ?_; clear S; intro a S
    refine l_enter S (fun _ => run_call (vs := [sV p_some, .int .u8 (sbyte p_s x1)]) ⟨(S.tm rfl), (S.tm rfl), trivial⟩ Tryz.call111) (strings_IndexByte_ok _ p_some (sbyte p_s x1) _ rfl) rfl ?_; clear S; intro v1 a w3 hv1 hk1 hn1 S
    subst hv1
    refine lv S (rn_lss (S.tm rfl) rfl) rfl ?_; clear S; intro a S
    refine l_done (then_n (f_cond (S.tm rfl) (fun hb2 => ?_) (fun hb2 => ?_)))
    ·replace h := iteT h hb2
     refine f_seq (f_region (lv S (rn_assign rfl) rfl ?_)); clear S; intro a S
     refine l_done (then_n (wp_ret (blk_r (then_r (then_r (blk_r ?_))))))
     refine then_r (then_r ?_)
     obtain rfl := Option.some.inj h
     exact f_ret S Tryz.results82 rfl rfl
    ·replace h := iteF h hb2
     refine wp_skip (blk_n (then_n (f_region (lv S (rn_add (S.tm rfl) rfl) rfl ?_)))); clear S; intro a S
     refine lv S (rn_move (S.tm rfl)) rfl ?_; clear S; intro a S
     refine l_done (then_n ?_)
     exact ⟨m1, ⟨W (x1 + 1), h, S.nf [] rfl ⟨rfl, rfl, rfl, rfl, trivial⟩⟩, Nat.lt_succ_self _⟩
   ·replace h := iteF h hb1
    refine wp_exit (then_x (then_x (x_same (then_n ?_))))
    exact ⟨h, S.nf [] rfl trivial⟩
 clear S h; rintro a w2 ⟨h, S⟩; rw [hj1] at h; clear hj1 j1
 refine then_n (f_seq (f_region (lv S (rn_assign rfl) rfl ?_))); clear S; intro a S
 refine l_done (then_n (wp_ret ?_))
 obtain rfl := Option.some.inj h
 exact f_ret S Tryz.results82 rfl rfl
theorem tumbref2_Key_ok (w : World) (p_s : ByteArray) (r : Bool) (h : tumbref2_Key p_s = some r) :
    Calls Tryz.prog 46 [sV p_s].toArray w (Ret w [] fun _ v _ => v = bV r) := by
 refine f_enter [] [] Tryz.func46 rfl Tryz.ntmps46 rfl (by simp) (by simp [fps]) (by simp [fps]) fun a S => ?_
 unfold tumbref2_Key at h
 replace S := S.nk [] [(0, sV p_s)] [] rfl ⟨rfl, trivial⟩
 refine f_seq (f_region (lv S (rn_assign rfl) rfl ?_)); clear S; intro a S
 refine l_done (then_n (f_seq (f_region (lv S (rn_move (S.tm rfl)) rfl ?_)))); clear S; intro a S
 refine lv S (rn_len_str Tryz.underlying9 (S.tm rfl)) rfl ?_; clear S; intro a S
 refine l_enter S (fun _ => run_call (vs := [iV (p_s.size : Int), iV 1, iV 40]) ⟨(S.tm rfl), rfl, rfl, trivial⟩ Tryz.call47) (tumbref2_in_ok _ (p_s.size : Int) 1 40 _ rfl) rfl ?_; clear S; intro v1 a w1 hv1 hk1 hn1 S
 subst hv1
 refine lv S (rn_move (S.tm rfl)) rfl ?_; clear S; intro a S
 obtain ⟨j1, hj1, h⟩ := joinE h
 refine f_cutm 4 (fun a w' => ∃ c1, j1 c1 = some r ∧ Keep [] w1 w' ∧ Sx w [] nov [] [(0, sV p_s), (10, bV c1)] 15 a w') ?_ ?_
 ·rcases Bool.eq_false_or_eq_true (tumbref2_in (p_s.size : Int) 1 40) with hb1 | hb1
  ·replace h := iteT h hb1
   refine l_want S rfl rfl rfl hb1 (lv S (rn_move (S.tm rfl)) rfl ?_); clear S; intro a S
   refine l_want S rfl rfl rfl hb1 ?_
   obtain ⟨hc1, h⟩ := chkE h
   refine lv S (rn_scutTh Tryz.underlying9 (S.tm rfl) rfl hc1) rfl ?_; clear S; intro a S
   refine l_want S rfl rfl rfl hb1 ?_
   obtain ⟨r1, hr1, h⟩ := bindE h
   refine l_enter S (fun _ => run_call (vs := [sV (scut p_s 0 1), sV k_abcdefghijklmnopqrstuvwxyz]) ⟨(S.tm rfl), rfl, trivial⟩ Tryz.call82) (tumbref2_only_ok _ (scut p_s 0 1) k_abcdefghijklmnopqrstuvwxyz _ hr1) rfl ?_; clear S; intro v2 a w3 hv2 hk2 hn2 S
   subst hv2
   refine lv S (rn_and_t hb1 (S.tm rfl) (S.tm rfl)) rfl ?_; clear S; intro a S
   refine l_done (then_n ?_)
   exact ⟨_, h, hk2, S.nf [] rfl (subR rfl)⟩
  ·replace h := iteF h hb1
   iterate 3 (refine l_skip S rfl rfl rfl (neq_f hb1) rfl ?_ rfl; clear S; intro a S)
   refine lv S (rn_and_f true hb1 (S.tm rfl) rfl) rfl ?_; clear S; intro a S
   refine l_done (then_n ?_)
   exact ⟨_, h, Keep.refl _ _, S.nf [] rfl (subR rfl)⟩
 clear S h; rintro a w2 ⟨c1, h, hk3, S⟩; rw [hj1] at h; clear hj1 j1
 refine lv S (rn_move (S.tm rfl)) rfl ?_; clear S; intro a S
 obtain ⟨j2, hj2, h⟩ := joinE h
 refine f_cutm 3 (fun a w' => ∃ c2, j2 c2 = some r ∧ Keep [] w2 w' ∧ Sx w [] nov [] [(14, bV c2)] 15 a w') ?_ ?_
 ·rcases Bool.eq_false_or_eq_true c1 with hb2 | hb2
  ·replace h := iteT h hb2
   refine l_want S rfl rfl rfl hb2 (lv S (rn_move (S.tm rfl)) rfl ?_); clear S; intro a S
   refine l_want S rfl rfl rfl hb2 ?_
   obtain ⟨r2, hr2, h⟩ := bindE h
   refine l_enter S (fun _ => run_call (vs := [sV p_s, sV k_abcdefghijkl_h0e2e2c]) ⟨(S.tm rfl), rfl, trivial⟩ Tryz.call82) (tumbref2_only_ok _ p_s k_abcdefghijkl_h0e2e2c _ hr2) rfl ?_; clear S; intro v3 a w5 hv3 hk4 hn3 S
   subst hv3
   refine lv S (rn_and_t hb2 (S.tm rfl) (S.tm rfl)) rfl ?_; clear S; intro a S
   refine l_done (then_n ?_)
   exact ⟨_, h, hk4, S.nf [] rfl ⟨rfl, trivial⟩⟩
  ·replace h := iteF h hb2
   refine l_skip S rfl rfl rfl (neq_f hb2) rfl ?_ rfl; clear S; intro a S
   refine l_skip S rfl rfl rfl (neq_f hb2) rfl ?_ rfl; clear S; intro a S
   refine lv S (rn_and_f true hb2 (S.tm rfl) rfl) rfl ?_; clear S; intro a S
   refine l_done (then_n ?_)
   exact ⟨_, h, Keep.refl _ _, S.nf [] rfl ⟨rfl, trivial⟩⟩
 clear S h; rintro a w4 ⟨c2, h, hk5, S⟩; rw [hj2] at h; clear hj2 j2
 refine lv S (rn_assign (S.tm rfl)) rfl ?_; clear S; intro a S
 refine l_done (then_n (wp_ret ?_))
 obtain rfl := Option.some.inj h
 exact f_ret S Tryz.results46 rfl rfl
theorem tumbref2_ItemAt_c1_ok (w : World) (p_x : GItem) (b_p_a1 : Nat) (p_a1 : ByteArray) (hb_b_p_a1 : (view w []) b_p_a1 = some (.cells [sV p_a1].toArray 9 (0, 0))) (r : Bool) (h : tumbref2_ItemAt_c1 p_x p_a1 = r) :
    Calls Tryz.prog 81 [.agg (GItem.enc p_x).toArray, .pointer (some ⟨b_p_a1, 0, none⟩)].toArray w (Ret w [] fun _ v _ => v = bV r) := by
 refine f_enter [] [] Tryz.func81 rfl Tryz.ntmps81 rfl (by simp) (by simp [fps]) (by simp [fps]) fun a S => ?_
 unfold tumbref2_ItemAt_c1 at h
 replace S := S.nk [] [(0, .agg (GItem.enc p_x).toArray), (1, .pointer (some ⟨b_p_a1, 0, none⟩))] [] rfl (subR rfl)
 refine f_seq (f_region (l_box S (S.tm rfl) (cs := (GItem.enc p_x)) rfl rfl ?_)); clear S; intro a w1 b1 hz1 hk1 S
 refine lv S (rn_assign rfl) rfl ?_; clear S; intro a S
 refine l_done (then_n (f_seq (f_region (lv S (rn_fld fa_69_0 (S.tm rfl)) rfl ?_)))); clear S; intro a S
 refine lv S (rn_load Tryz.isAgg9 (S.tm rfl) (S.cell (i := 0) rfl rfl)) rfl ?_; clear S; intro a S
 refine lv S (rn_ld Tryz.isAgg9 (off := 0) (o := 0) (S.tm rfl) ((mem_blk hb_b_p_a1).at S.emb0) rfl) rfl ?_; clear S; intro a S
 refine lv S (rn_seql (S.tm rfl) (S.tm rfl)) rfl ?_; clear S; intro a S
 refine lv S (rn_assign (S.tm rfl)) rfl ?_; clear S; intro a S
 refine l_done (then_n (wp_ret ?_))
 subst h
 exact f_ret S Tryz.results81 rfl rfl
theorem slices_IndexFunc_Item_tumbref2_ItemAt_c1_ok (w : World) (v_p_s : Value) (p_s : List GItem) (hs_p_s : Slc (view w []) 5 v_p_s (p_s.map GItem.enc)) (b_p_f_0 : Nat) (p_f_0 : ByteArray) (hb_b_p_f_0 : (view w []) b_p_f_0 = some (.cells [sV p_f_0].toArray 9 (0, 0))) (r : Int) (h : slices_IndexFunc_Item_tumbref2_ItemAt_c1 p_s p_f_0 = r) :
    Calls Tryz.prog 80 [v_p_s, .func (.func 81) #[] #[.pointer (some ⟨b_p_f_0, 0, none⟩)]].toArray w (Ret w [] fun _ v _ => v = iV r) := by
 refine f_enter [] [] Tryz.func80 rfl Tryz.ntmps80 rfl (by simp) (by simp [fps]) (by simp [fps]) fun a S => ?_
 unfold slices_IndexFunc_Item_tumbref2_ItemAt_c1 at h
 replace S := S.nk [] [(0, v_p_s), (1, .func (.func 81) #[] #[.pointer (some ⟨b_p_f_0, 0, none⟩)])] [] rfl (subR rfl)
 refine f_seq (f_region (lv S (rn_assign rfl) rfl ?_)); clear S; intro a S
 refine l_done (then_n (f_seq (f_seq (f_region (lv S (rn_move (S.tm rfl)) rfl ?_))))); clear S; intro a S
 refine lv S (rn_lenT sl_26 (S.tm rfl) (slc_len hs_p_s)) rfl ?_; clear S; intro a S
 refine lv S (rn_move rfl) rfl ?_; clear S; intro a S
 refine l_done (then_n ?_)
 replace S := S.nk [] [(0, v_p_s), (1, .func (.func 81) #[] #[.pointer (some ⟨b_p_f_0, 0, none⟩)]), (7, iV (p_s.length : Int)), (8, iV 0)] [] rfl (subR rfl)
 obtain ⟨j1, hj1, h⟩ := joinE h
 refine f_join (fun a w' => j1 = r ∧ Sx w [] nov [] [] 19 a w') ?_ ?_
 ·refine wp_block (f_loop (fun (ys1 : List GItem) a w' => ∃ i1 : Nat, (∃ dn, p_s = dn ++ ys1 ∧ dn.length = i1) ∧ slices_IndexFunc_Item_tumbref2_ItemAt_c1_l1 p_f_0 j1 ys1 i1 = r ∧ Sx w [] nov [] [(0, v_p_s), (1, .func (.func 81) #[] #[.pointer (some ⟨b_p_f_0, 0, none⟩)]), (7, iV (p_s.length : Int)), (8, iV (i1 : Int))] 19 a w') List.length p_s ⟨0, ⟨[], rfl, rfl⟩, h, S.nf [] rfl (subR rfl)⟩ ?_)
  clear S h; rintro ys1 a w1 ⟨i1, ⟨dn, hd1, hi1⟩, h, S⟩
  cases ys1 with
  | nil =>
   rw [slices_IndexFunc_Item_tumbref2_ItemAt_c1_l1.eq_1] at h
   refine f_seq (f_region (lv S (rn_lss (S.tm rfl) (S.tm rfl)) rfl ?_)); clear S; intro a S
   refine l_done ?_
   replace S := S.nk [] [(0, v_p_s), (1, .func (.func 81) #[] #[.pointer (some ⟨b_p_f_0, 0, none⟩)]), (7, iV (p_s.length : Int)), (8, iV (i1 : Int)), (9, bV (decide ((i1 : Int) < (p_s.length : Int))))] [] rfl (subR rfl)
   refine then_n (f_seq (wp_cond_false ((S.tm rfl).trans (congrArg Value.bool (rng_nil hd1 hi1))) (wp_exit (then_x (then_x (x_same ?_))))))
   refine then_n ?_
   exact ⟨h, S.nf [] rfl trivial⟩
  | cons y1 ys1 =>
   rw [slices_IndexFunc_Item_tumbref2_ItemAt_c1_l1.eq_2] at h
   refine f_seq (f_region (lv S (rn_lss (S.tm rfl) (S.tm rfl)) rfl ?_)); clear S; intro a S
   refine l_done ?_
   replace S := S.nk [] [(0, v_p_s), (1, .func (.func 81) #[] #[.pointer (some ⟨b_p_f_0, 0, none⟩)]), (7, iV (p_s.length : Int)), (8, iV (i1 : Int)), (9, bV (decide ((i1 : Int) < (p_s.length : Int))))] [] rfl (subR rfl)
   refine then_n (f_seq (wp_cond_true ((S.tm rfl).trans (congrArg Value.bool (rng_cons hd1 hi1))) (wp_skip (then_n (f_seq (wp_block ?_))))))
   refine f_seq (f_region (lv S (rn_move (S.tm rfl)) rfl ?_)); clear S; intro a S
   refine lv S (rn_assign (S.tm rfl)) rfl ?_; clear S; intro a S
   refine l_done (then_n (f_seq (f_region (lv S (rn_move (S.tm rfl)) rfl ?_)))); clear S; intro a S
   refine lv S (rn_move (S.tm rfl)) rfl ?_; clear S; intro a S
   refine lv S (rn_move (S.tm rfl)) rfl ?_; clear S; intro a S
   obtain ⟨b1, o1, hm1, hr1⟩ := rn_indexT (a := a) (x := .tmp 12) (y := .tmp 13) (ty := 0) sl_26 hs_p_s (get_mid hd1 hi1) rfl (S.tm rfl) (S.tm rfl)
   refine lv S (hr1 _) rfl ?_; clear S; intro a S
   clear hr1
   refine lv S (rn_ldA Tryz.isAgg69 Tryz.sizeOf69 (off := o1) (o := 0) (part := (GItem.enc y1)) rfl rfl (S.tm rfl) (hm1.at S.emb0)) rfl ?_; clear S; intro a S
   refine l_enter S (fun _ => run_callV (cap := [.pointer (some ⟨b_p_f_0, 0, none⟩)]) (S.tm rfl) (vs := [.agg (GItem.enc y1).toArray]) ⟨(S.tm rfl), trivial⟩ Tryz.call81) (tumbref2_ItemAt_c1_ok _ y1 b_p_f_0 p_f_0 ((S.le_arg nil_sub) _ _ hb_b_p_f_0) _ rfl) rfl ?_; clear S; intro v1 a w3 hv1 hk1 hn1 S
   subst hv1
   refine l_done (then_n (f_cond (S.tm rfl) (fun hb1 => ?_) (fun hb1 => ?_)))
   ·replace h := iteT h hb1
    refine f_seq (f_region (lv S (rn_move (S.tm rfl)) rfl ?_)); clear S; intro a S
    refine lv S (rn_assign (S.tm rfl)) rfl ?_; clear S; intro a S
    refine l_done ?_
    replace S := S.nk [] [(4, iV (i1 : Int))] [] rfl ⟨rfl, trivial⟩
    refine then_n (wp_ret (blk_r (then_r (then_r (blk_r (then_r ?_))))))
    refine then_r ?_
    subst h
    exact f_ret S Tryz.results80 rfl rfl
   ·replace h := iteF h hb1
    refine wp_skip (blk_n (then_n (f_region (lv S (rn_add (S.tm rfl) rfl) rfl ?_)))); clear S; intro a S
    refine lv S (rn_move (S.tm rfl)) rfl ?_; clear S; intro a S
    refine l_done (then_n ?_)
    exact ⟨ys1, ⟨i1 + 1, ⟨_, (hd1).trans (List.append_cons _ _ _), by simp [hi1]⟩, h, S.nf [] rfl ⟨rfl, rfl, rfl, (congrArg (fun z => some (Value.int .i64 z)) (rng_next hd1 hi1 (slc_max hs_p_s))), trivial⟩⟩, Nat.lt_succ_self _⟩
 clear S h; rintro a w2 ⟨h, S⟩; rw [hj1] at h; clear hj1 j1
 refine then_n (f_seq (f_region (lv S (rn_assign rfl) rfl ?_))); clear S; intro a S
 refine l_done (then_n (wp_ret ?_))
 subst h
 exact f_ret S Tryz.results80 rfl rfl
theorem tumbref2_ItemAt_ok (w : World) (v_p_l : Value) (p_l : List GItem) (hs_p_l : Slc (view w []) 5 v_p_l (p_l.map GItem.enc)) (p_key : ByteArray) (r : Int) (h : tumbref2_ItemAt p_l p_key = r) :
    Calls Tryz.prog 45 [v_p_l, sV p_key].toArray w (Ret w [] fun _ v _ => v = iV r) := by
 refine f_enter [] [] Tryz.func45 rfl Tryz.ntmps45 rfl (by simp) (by simp [fps]) (by simp [fps]) fun a S => ?_
 unfold tumbref2_ItemAt at h
 replace S := S.nk [] [(0, v_p_l), (1, sV p_key)] [] rfl (subR rfl)
 refine f_seq (f_region (l_box S (S.tm rfl) (cs := [sV p_key]) rfl rfl ?_)); clear S; intro a w1 b1 hz1 hk1 S
 refine lv S (rn_assign rfl) rfl ?_; clear S; intro a S
 refine l_done (then_n (f_seq (f_region (lv S (rn_move (S.tm rfl)) rfl ?_)))); clear S; intro a S
 refine lv S (rn_makeFunc (us := #[]) (xs := [].toArray) (ys := [.tmp 3].toArray) (by simp) (evA ⟨(S.tm rfl), trivial⟩ (vs := [.pointer (some ⟨b1, 0, none⟩)]))) rfl ?_; clear S; intro a S
 refine l_enter S (fun _ => run_call (vs := [v_p_l, .func (.func 81) #[] #[.pointer (some ⟨b1, 0, none⟩)]]) ⟨(S.tm rfl), (S.tm rfl), trivial⟩ Tryz.call80) (slices_IndexFunc_Item_tumbref2_ItemAt_c1_ok _ v_p_l p_l (hs_p_l.mono (S.le_arg nil_sub)) b1 p_key (S.blk_view (i := 0) rfl ((ne_nil (e' := .blk b1 [sV p_key] 9)) _ rfl)) _ rfl) rfl ?_; clear S; intro v1 a w2 hv1 hk2 hn1 S
 subst hv1
 refine lv S (rn_assign (S.tm rfl)) rfl ?_; clear S; intro a S
 refine l_done (then_n (wp_ret ?_))
 subst h
 exact f_ret S Tryz.results45 rfl rfl
set_option maxRecDepth 20000 in
theorem tumbref2_ItemsFault_ok (w : World) (v_p_l : Value) (p_l : List GItem) (hs_p_l : Slc (view w []) 5 v_p_l (p_l.map GItem.enc)) (r : Int) (h : tumbref2_ItemsFault p_l = some r) :
    Calls Tryz.prog 44 [v_p_l].toArray w (Ret w [] fun _ v _ => v = iV r) := by
 refine f_enter [] [] Tryz.func44 rfl Tryz.ntmps44 rfl (by simp) (by simp [fps]) (by simp [fps]) fun a S => ?_
 unfold tumbref2_ItemsFault at h
 replace S := S.nk [] [(0, v_p_l)] [] rfl ⟨rfl, trivial⟩
 refine f_seq (f_region (lv S (rn_assign rfl) rfl ?_)); clear S; intro a S
 refine l_done (then_n (f_seq (f_seq (f_region (lv S (rn_move (S.tm rfl)) rfl ?_))))); clear S; intro a S
 refine lv S (rn_lenT sl_26 (S.tm rfl) (slc_len hs_p_l)) rfl ?_; clear S; intro a S
 refine lv S (rn_gtr (S.tm rfl) rfl) rfl ?_; clear S; intro a S
 refine l_done (then_n (f_cond (S.tm rfl) (fun hb1 => ?_) (fun hb1 => ?_)))
 ·replace h := iteT h hb1
  refine f_seq (f_region (lv S (rn_assign rfl) rfl ?_)); clear S; intro a S
  refine l_done (then_n (wp_ret (then_r ?_)))
  obtain rfl := Option.some.inj h
  exact f_ret S Tryz.results44 rfl rfl
 ·replace h := iteF h hb1
  refine wp_skip (then_n (f_seq (f_seq (f_region (lv S (rn_move (S.tm rfl)) rfl ?_))))); clear S; intro a S
  refine lv S (rn_lenT sl_26 (S.tm rfl) (slc_len hs_p_l)) rfl ?_; clear S; intro a S
  refine lv S (rn_move rfl) rfl ?_; clear S; intro a S
  refine l_done (then_n ?_)
  replace S := S.nk [] [(0, v_p_l), (8, v_p_l), (9, iV (p_l.length : Int)), (10, iV 0)] [] rfl (subR rfl)
  obtain ⟨j1, hj1, h⟩ := joinE h
  refine f_join (fun a w' => j1 = some r ∧ Sx w [] nov [] [] 52 a w') ?_ ?_
  ·refine wp_block (f_loop (fun (ys1 : List GItem) a w' => ∃ i1 : Nat, (∃ dn, p_l = dn ++ ys1 ∧ dn.length = i1) ∧ tumbref2_ItemsFault_l1 p_l j1 ys1 i1 = some r ∧ Sx w [] nov [] [(0, v_p_l), (8, v_p_l), (9, iV (p_l.length : Int)), (10, iV (i1 : Int))] 52 a w') List.length p_l ⟨0, ⟨[], rfl, rfl⟩, h, S.nf [] rfl (subR rfl)⟩ ?_)
   clear S h; rintro ys1 a w1 ⟨i1, ⟨dn, hd1, hi1⟩, h, S⟩
   cases ys1 with
   | nil =>
    rw [tumbref2_ItemsFault_l1.eq_1] at h
    refine f_seq (f_region (lv S (rn_lss (S.tm rfl) (S.tm rfl)) rfl ?_)); clear S; intro a S
    refine l_done ?_
    replace S := S.nk [] [(0, v_p_l), (8, v_p_l), (9, iV (p_l.length : Int)), (10, iV (i1 : Int)), (11, bV (decide ((i1 : Int) < (p_l.length : Int))))] [] rfl (subR rfl)
    refine then_n (f_seq (wp_cond_false ((S.tm rfl).trans (congrArg Value.bool (rng_nil hd1 hi1))) (wp_exit (then_x (then_x (x_same ?_))))))
    refine then_n ?_
    exact ⟨h, S.nf [] rfl trivial⟩
   | cons y1 ys1 =>
    rw [tumbref2_ItemsFault_l1.eq_2] at h
    refine f_seq (f_region (lv S (rn_lss (S.tm rfl) (S.tm rfl)) rfl ?_)); clear S; intro a S
    refine l_done ?_
    replace S := S.nk [] [(0, v_p_l), (8, v_p_l), (9, iV (p_l.length : Int)), (10, iV (i1 : Int)), (11, bV (decide ((i1 : Int) < (p_l.length : Int))))] [] rfl (subR rfl)
    refine then_n (f_seq (wp_cond_true ((S.tm rfl).trans (congrArg Value.bool (rng_cons hd1 hi1))) (wp_skip (then_n (f_seq (wp_block ?_))))))
    refine f_seq (f_region (lv S (rn_move (S.tm rfl)) rfl ?_)); clear S; intro a S
    obtain ⟨b1, o1, hm1, hr1⟩ := rn_indexT (a := a) (x := .tmp 8) (y := .tmp 10) (ty := 0) sl_26 hs_p_l (get_mid hd1 hi1) rfl (S.tm rfl) (S.tm rfl)
    refine lv S (hr1 _) rfl ?_; clear S; intro a S
    clear hr1
    refine lv S (rn_ldA Tryz.isAgg69 Tryz.sizeOf69 (off := o1) (o := 0) (part := (GItem.enc y1)) rfl rfl (S.tm rfl) (hm1.at S.emb0)) rfl ?_; clear S; intro a S
    refine l_alloc S Tryz.zeroValue69 (cs := [sV k_empty, iV 0, iV 0, iV 0, iV 0]) rfl rfl ?_; clear S; intro a w3 b2 hz1 hk1 S
    refine lv S (rn_assign (S.tm rfl)) rfl ?_; clear S; intro a S
    refine l_store S (S.tm rfl) (S.tm rfl) (i := 0) (off := 0) rfl Tryz.sizeOf69 (vs := (GItem.enc y1)) rfl rfl rfl rfl ?_; clear S; intro w4 hk2 S
    refine l_done (then_n (wp_block (f_seq (f_region (lv S (rn_fld fa_69_0 (S.tm rfl)) rfl ?_))))); clear S; intro a S
    refine lv S (rn_load Tryz.isAgg9 (S.tm rfl) (S.cell (i := 0) rfl rfl)) rfl ?_; clear S; intro a S
    obtain ⟨r1, hr2, h⟩ := bindE h
    refine l_enter S (fun _ => run_call (vs := [sV y1.Key]) ⟨(S.tm rfl), trivial⟩ Tryz.call46) (tumbref2_Key_ok _ y1.Key _ hr2) rfl ?_; clear S; intro v1 a w5 hv1 hk3 hn1 S
    subst hv1
    refine lv S (rn_not (S.tm rfl)) rfl ?_; clear S; intro a S
    refine lv S (rn_assign (S.tm rfl)) rfl ?_; clear S; intro a S
    refine l_done ?_
    replace S := S.nk [.blk b2 (GItem.enc y1) 69] [(0, v_p_l), (3, iV (i1 : Int)), (4, .pointer (some ⟨b2, 0, none⟩)), (8, v_p_l), (9, iV (p_l.length : Int)), (10, iV (i1 : Int)), (15, bV (!r1))] [true] rfl (subR rfl)
    refine then_n (f_cond (S.tm rfl) (fun hb2 => ?_) (fun hb2 => ?_))
    ·replace h := iteT h hb2
     refine f_seq (f_region (lv S (rn_assign rfl) rfl ?_)); clear S; intro a S
     refine l_done (then_n (wp_ret (blk_r (blk_r (then_r (then_r ?_))))))
     refine blk_r (then_r (then_r ?_))
     obtain rfl := Option.some.inj h
     exact f_ret S Tryz.results44 rfl rfl
    ·replace h := iteF h hb2
     refine f_seq ?_
     obtain ⟨hc1, h⟩ := chkE h
     refine d_region [] ([]) Tryz.mixed S rfl (by kernel_rfl) ?_; clear S; intro w7 hk5 hsel S
     refine d_quiet 0 S hsel rfl rfl rfl (by kernel_rfl) (by kernel_rfl) rfl (fun _ hw => (rn_move (S.tm rfl))) ?_; clear S; intro a S
     refine d_quiet 1 S hsel rfl rfl rfl (by kernel_rfl) (by kernel_rfl) rfl (fun _ hw => (rn_move (S.tm rfl))) ?_; clear S; intro a S
     obtain ⟨v4, hs2, hr4⟩ := rn_cutTh (a := a) (x := .tmp 21) (y' := .tmp 22) (ty := 26) sl_26 hs_p_l (S.tm rfl) (S.tm rfl) hc1
     refine d_quiet 2 S hsel rfl rfl rfl (by kernel_rfl) (by kernel_rfl) rfl (fun _ hw => (hr4 _)) ?_; clear S; intro a S
     clear hr4
     refine d_quiet 3 S hsel rfl rfl rfl (by kernel_rfl) (by kernel_rfl) rfl (fun _ hw => (rn_fld fa_69_0 (S.tm rfl))) ?_; clear S; intro a S
     refine d_quiet 4 S hsel rfl rfl rfl (by kernel_rfl) (by kernel_rfl) rfl (fun _ hw => (rn_ld Tryz.isAgg9 (off := 0) (o := 0) (S.tm rfl) ((S.blk_mem (i := 0) (cells := (GItem.enc y1)) (b := b2) (T := 69) rfl (ne_nil (e' := .blk b2 (GItem.enc y1) 69))).kept hw) rfl)) ?_; clear S; intro a S
     refine d_loud1 5 (by kernel_rfl) rfl (l_enter S (fun _ => run_call (vs := [v4, sV y1.Key]) ⟨(S.tm rfl), (S.tm rfl), trivial⟩ Tryz.call45) (tumbref2_ItemAt_ok _ v4 (cut p_l 0 (i1 : Int)) (hs2.mono (S.le_arg nil_sub)) y1.Key _ rfl) rfl ?_); clear S; intro v5 a w8 hv3 hk6 hn3 S
     subst hv3
     refine l_done (d_next hk6 (d_rest [6, 7] hsel (by kernel_rfl) rfl ?_))
     clear hsel
     refine s_lv S rfl (rn_geq (S.tm rfl) rfl) rfl ?_; clear S; intro a S
     refine s_lv S rfl (rn_assign (S.tm rfl)) rfl ?_; clear S; intro a S
     refine s_done ?_
     replace S := S.nk [.blk b2 (GItem.enc y1) 69] [(0, v_p_l), (4, .pointer (some ⟨b2, 0, none⟩)), (8, v_p_l), (9, iV (p_l.length : Int)), (10, iV (i1 : Int)), (20, bV (decide (0 ≤ (tumbref2_ItemAt (cut p_l 0 (i1 : Int)) y1.Key))))] [true] rfl (subR rfl)
     refine then_n (f_cond (S.tm rfl) (fun hb3 => ?_) (fun hb3 => ?_))
     ·replace h := iteT h hb3
      refine f_seq (f_region (lv S (rn_assign rfl) rfl ?_)); clear S; intro a S
      refine l_done (then_n (wp_ret (blk_r (blk_r (then_r (then_r ?_))))))
      refine blk_r (then_r (then_r ?_))
      obtain rfl := Option.some.inj h
      exact f_ret S Tryz.results44 rfl rfl
     ·replace h := iteF h hb3
      refine f_seq (f_region (lv S (rn_fld fa_69_1 (S.tm rfl)) rfl ?_)); clear S; intro a S
      refine lv S (rn_load Tryz.isAgg3 (S.tm rfl) (S.cell (i := 0) rfl rfl)) rfl ?_; clear S; intro a S
      refine l_enter S (fun _ => run_call (vs := [iV y1.Heats, iV 1, iV 60]) ⟨(S.tm rfl), rfl, rfl, trivial⟩ Tryz.call47) (tumbref2_in_ok _ y1.Heats 1 60 _ rfl) rfl ?_; clear S; intro v6 a w9 hv4 hk7 hn4 S
      subst hv4
      refine lv S (rn_not (S.tm rfl)) rfl ?_; clear S; intro a S
      refine lv S (rn_move (S.tm rfl)) rfl ?_; clear S; intro a S
      refine f_cutm 5 (fun a w' => Keep [] w9 w' ∧ Sx w [] nov [.blk b2 (GItem.enc y1) 69] [(0, v_p_l), (4, .pointer (some ⟨b2, 0, none⟩)), (8, v_p_l), (9, iV (p_l.length : Int)), (10, iV (i1 : Int)), (38, bV ((!(tumbref2_in y1.Heats 1 60)) || (!(tumbref2_in y1.Long 1 3600000))))] 52 a w') ?_ ?_
      ·rcases Bool.eq_false_or_eq_true (!(tumbref2_in y1.Heats 1 60)) with hb4 | hb4
       ·iterate 4 (refine l_skip S rfl rfl rfl (neq_t hb4) rfl ?_ rfl; clear S; intro a S)
        refine lv S (rn_or_t (!(tumbref2_in y1.Long 1 3600000)) hb4 (S.tm rfl) rfl) rfl ?_; clear S; intro a S
        refine l_done (then_n ?_)
        exact ⟨Keep.refl _ _, S.nf [true] rfl (subR rfl)⟩
       ·refine l_want S rfl rfl rfl hb4 (lv S (rn_fld fa_69_2 (S.tm rfl)) rfl ?_); clear S; intro a S
        refine l_want S rfl rfl rfl hb4 (lv S (rn_load Tryz.isAgg3 (S.tm rfl) (S.cell (i := 0) rfl rfl)) rfl ?_); clear S; intro a S
        refine l_want S rfl rfl rfl hb4 (l_enter S (fun _ => run_call (vs := [iV y1.Long, iV 1, iV 3600000]) ⟨(S.tm rfl), rfl, rfl, trivial⟩ Tryz.call47) (tumbref2_in_ok _ y1.Long 1 3600000 _ rfl) rfl ?_); clear S; intro v7 a w11 hv5 hk8 hn5 S
        subst hv5
        refine l_want S rfl rfl rfl hb4 (lv S (rn_not (S.tm rfl)) rfl ?_); clear S; intro a S
        refine lv S (rn_or_f hb4 (S.tm rfl) (S.tm rfl)) rfl ?_; clear S; intro a S
        refine l_done (then_n ?_)
        exact ⟨hk8, S.nf [true] rfl (subR rfl)⟩
      clear S; rintro a w10 ⟨hk9, S⟩
      refine lv S (rn_move (S.tm rfl)) rfl ?_; clear S; intro a S
      refine f_cutm 5 (fun a w' => Keep [] w10 w' ∧ Sx w [] nov [.blk b2 (GItem.enc y1) 69] [(0, v_p_l), (4, .pointer (some ⟨b2, 0, none⟩)), (8, v_p_l), (9, iV (p_l.length : Int)), (10, iV (i1 : Int)), (44, bV (((!(tumbref2_in y1.Heats 1 60)) || (!(tumbref2_in y1.Long 1 3600000))) || (!(tumbref2_in y1.Gap 0 3600000))))] 52 a w') ?_ ?_
      ·rcases Bool.eq_false_or_eq_true ((!(tumbref2_in y1.Heats 1 60)) || (!(tumbref2_in y1.Long 1 3600000))) with hb5 | hb5
       ·iterate 4 (refine l_skip S rfl rfl rfl (neq_t hb5) rfl ?_ rfl; clear S; intro a S)
        refine lv S (rn_or_t (!(tumbref2_in y1.Gap 0 3600000)) hb5 (S.tm rfl) rfl) rfl ?_; clear S; intro a S
        refine l_done (then_n ?_)
        exact ⟨Keep.refl _ _, S.nf [true] rfl (subR rfl)⟩
       ·refine l_want S rfl rfl rfl hb5 (lv S (rn_fld fa_69_3 (S.tm rfl)) rfl ?_); clear S; intro a S
        refine l_want S rfl rfl rfl hb5 (lv S (rn_load Tryz.isAgg3 (S.tm rfl) (S.cell (i := 0) rfl rfl)) rfl ?_); clear S; intro a S
        refine l_want S rfl rfl rfl hb5 (l_enter S (fun _ => run_call (vs := [iV y1.Gap, iV 0, iV 3600000]) ⟨(S.tm rfl), rfl, rfl, trivial⟩ Tryz.call47) (tumbref2_in_ok _ y1.Gap 0 3600000 _ rfl) rfl ?_); clear S; intro v8 a w13 hv6 hk10 hn6 S
        subst hv6
        refine l_want S rfl rfl rfl hb5 (lv S (rn_not (S.tm rfl)) rfl ?_); clear S; intro a S
        refine lv S (rn_or_f hb5 (S.tm rfl) (S.tm rfl)) rfl ?_; clear S; intro a S
        refine l_done (then_n ?_)
        exact ⟨hk10, S.nf [true] rfl (subR rfl)⟩
      clear S; rintro a w12 ⟨hk11, S⟩
      refine lv S (rn_move (S.tm rfl)) rfl ?_; clear S; intro a S
      refine f_cutm 5 (fun a w' => Keep [] w12 w' ∧ Sx w [] nov [.blk b2 (GItem.enc y1) 69] [(0, v_p_l), (8, v_p_l), (9, iV (p_l.length : Int)), (10, iV (i1 : Int)), (50, bV ((((!(tumbref2_in y1.Heats 1 60)) || (!(tumbref2_in y1.Long 1 3600000))) || (!(tumbref2_in y1.Gap 0 3600000))) || (!(tumbref2_in y1.Break 0 3600000))))] 52 a w') ?_ ?_
      ·rcases Bool.eq_false_or_eq_true (((!(tumbref2_in y1.Heats 1 60)) || (!(tumbref2_in y1.Long 1 3600000))) || (!(tumbref2_in y1.Gap 0 3600000))) with hb6 | hb6
       ·iterate 4 (refine l_skip S rfl rfl rfl (neq_t hb6) rfl ?_ rfl; clear S; intro a S)
        refine lv S (rn_or_t (!(tumbref2_in y1.Break 0 3600000)) hb6 (S.tm rfl) rfl) rfl ?_; clear S; intro a S
        refine l_done (then_n ?_)
        exact ⟨Keep.refl _ _, S.nf [true] rfl (subR rfl)⟩
       ·refine l_want S rfl rfl rfl hb6 (lv S (rn_fld fa_69_4 (S.tm rfl)) rfl ?_); clear S; intro a S
        refine l_want S rfl rfl rfl hb6 (lv S (rn_load Tryz.isAgg3 (S.tm rfl) (S.cell (i := 0) rfl rfl)) rfl ?_); clear S; intro a S
        refine l_want S rfl rfl rfl hb6 (l_enter S (fun _ => run_call (vs := [iV y1.Break, iV 0, iV 3600000]) ⟨(S.tm rfl), rfl, rfl, trivial⟩ Tryz.call47) (tumbref2_in_ok _ y1.Break 0 3600000 _ rfl) rfl ?_); clear S; intro v9 a w15 hv7 hk12 hn7 S
        subst hv7
        refine l_want S rfl rfl rfl hb6 (lv S (rn_not (S.tm rfl)) rfl ?_); clear S; intro a S
        refine lv S (rn_or_f hb6 (S.tm rfl) (S.tm rfl)) rfl ?_; clear S; intro a S
        refine l_done (then_n ?_)
        exact ⟨hk12, S.nf [true] rfl (subR rfl)⟩
      clear S; rintro a w14 ⟨hk13, S⟩
      refine lv S (rn_assign (S.tm rfl)) rfl ?_; clear S; intro a S
      refine l_done (then_n (f_cond (S.tm rfl) (fun hb7 => ?_) (fun hb7 => ?_)))
      ·replace h := iteT h hb7
       refine f_seq (f_region (lv S (rn_assign rfl) rfl ?_)); clear S; intro a S
       refine l_done (then_n (wp_ret (blk_r (blk_r (then_r (then_r ?_))))))
       refine blk_r (then_r (then_r ?_))
       obtain rfl := Option.some.inj h
       exact f_ret S Tryz.results44 rfl rfl
      ·replace h := iteF h hb7
       refine wp_skip (blk_n (blk_n (then_n (f_region (lv S (rn_add (S.tm rfl) rfl) rfl ?_))))); clear S; intro a S
       refine lv S (rn_move (S.tm rfl)) rfl ?_; clear S; intro a S
       refine l_done (then_n ?_)
       exact ⟨ys1, ⟨i1 + 1, ⟨_, (hd1).trans (List.append_cons _ _ _), by simp [hi1]⟩, h, S.nf [false] rfl ⟨rfl, rfl, rfl, (congrArg (fun z => some (Value.int .i64 z)) (rng_next hd1 hi1 (slc_max hs_p_l))), trivial⟩⟩, Nat.lt_succ_self _⟩
  clear S h; rintro a w2 ⟨h, S⟩; rw [hj1] at h; clear hj1 j1
  refine then_n (f_seq (f_region (lv S (rn_assign rfl) rfl ?_))); clear S; intro a S
  refine l_done (then_n (wp_ret ?_))
  obtain rfl := Option.some.inj h
  exact f_ret S Tryz.results44 rfl rfl
theorem cmp_isNaN_string_ok (w : World) (p_x : ByteArray) (r : Bool) (h : cmp_isNaN_string p_x = r) :
    Calls Tryz.prog 112 [sV p_x].toArray w (Ret w [] fun _ v _ => v = bV r) := by
 refine f_enter [] [] Tryz.func112 rfl Tryz.ntmps112 rfl (by simp) (by simp [fps]) (by simp [fps]) fun a S => ?_
 unfold cmp_isNaN_string at h
 replace S := S.nk [] [(0, sV p_x)] [] rfl ⟨rfl, trivial⟩
 refine f_seq (f_region (lv S (rn_assign rfl) rfl ?_)); clear S; intro a S
 refine l_done (then_n (f_seq (f_region (lv S (rn_move (S.tm rfl)) rfl ?_)))); clear S; intro a S
 refine lv S (rn_move (S.tm rfl)) rfl ?_; clear S; intro a S
 refine lv S (rn_sneq (S.tm rfl) (S.tm rfl)) rfl ?_; clear S; intro a S
 refine lv S (rn_assign (S.tm rfl)) rfl ?_; clear S; intro a S
 refine l_done (then_n (wp_ret ?_))
 subst h
 exact f_ret S Tryz.results112 rfl rfl
theorem cmp_Compare_string_ok (w : World) (p_x : ByteArray) (p_y : ByteArray) (r : Int) (h : cmp_Compare_string p_x p_y = r) :
    Calls Tryz.prog 87 [sV p_x, sV p_y].toArray w (Ret w [] fun _ v _ => v = iV r) := by
 refine f_enter [] [] Tryz.func87 rfl Tryz.ntmps87 rfl (by simp) (by simp [fps]) (by simp [fps]) fun a S => ?_
 unfold cmp_Compare_string at h
 replace S := S.nk [] [(0, sV p_x), (1, sV p_y)] [] rfl (subR rfl)
 refine f_seq (f_region (lv S (rn_assign rfl) rfl ?_)); clear S; intro a S
 refine l_done (then_n (f_seq (f_region (lv S (rn_move (S.tm rfl)) rfl ?_)))); clear S; intro a S
 refine l_enter S (fun _ => run_call (vs := [sV p_x]) ⟨(S.tm rfl), trivial⟩ Tryz.call112) (cmp_isNaN_string_ok _ p_x _ rfl) rfl ?_; clear S; intro v1 a w1 hv1 hk1 hn1 S
 subst hv1
 refine lv S (rn_assign (S.tm rfl)) rfl ?_; clear S; intro a S
 refine l_done (then_n (f_seq (f_region (lv S (rn_move (S.tm rfl)) rfl ?_)))); clear S; intro a S
 refine l_enter S (fun _ => run_call (vs := [sV p_y]) ⟨(S.tm rfl), trivial⟩ Tryz.call112) (cmp_isNaN_string_ok _ p_y _ rfl) rfl ?_; clear S; intro v2 a w2 hv2 hk2 hn2 S
 subst hv2
 refine lv S (rn_assign (S.tm rfl)) rfl ?_; clear S; intro a S
 refine l_done (then_n (f_seq (f_seq (f_region (lv S (rn_move (S.tm rfl)) rfl ?_))))); clear S; intro a S
 refine l_done (then_n (f_cond (S.tm rfl) (fun hb1 => ?_) (fun hb1 => ?_)))
 ·replace h := iteT h hb1
  refine f_seq (f_seq (f_region (lv S (rn_move (S.tm rfl)) rfl ?_))); clear S; intro a S
  refine l_done (then_n (f_cond (S.tm rfl) (fun hb2 => ?_) (fun hb2 => ?_)))
  ·replace h := iteT h hb2
   refine f_seq (f_region (lv S (rn_assign rfl) rfl ?_)); clear S; intro a S
   refine l_done (then_n (wp_ret (then_r (then_r ?_))))
   subst h
   exact f_ret S Tryz.results87 rfl rfl
  ·replace h := iteF h hb2
   refine wp_skip (then_n (f_seq (f_region (lv S (rn_assign rfl) rfl ?_)))); clear S; intro a S
   refine l_done (then_n (wp_ret (then_r ?_)))
   subst h
   exact f_ret S Tryz.results87 rfl rfl
 ·replace h := iteF h hb1
  refine wp_skip (then_n (f_seq (f_seq (f_region (lv S (rn_move (S.tm rfl)) rfl ?_))))); clear S; intro a S
  refine l_done (then_n (f_cond (S.tm rfl) (fun hb3 => ?_) (fun hb3 => ?_)))
  ·replace h := iteT h hb3
   refine f_seq (f_region (lv S (rn_assign rfl) rfl ?_)); clear S; intro a S
   refine l_done (then_n (wp_ret (then_r ?_)))
   subst h
   exact f_ret S Tryz.results87 rfl rfl
  ·replace h := iteF h hb3
   refine wp_skip (then_n (f_seq (f_seq (f_region (lv S (rn_move (S.tm rfl)) rfl ?_))))); clear S; intro a S
   refine lv S (rn_move (S.tm rfl)) rfl ?_; clear S; intro a S
   refine lv S (rn_slss (S.tm rfl) (S.tm rfl)) rfl ?_; clear S; intro a S
   refine l_done (then_n (f_cond (S.tm rfl) (fun hb4 => ?_) (fun hb4 => ?_)))
   ·replace h := iteT h hb4
    refine f_seq (f_region (lv S (rn_assign rfl) rfl ?_)); clear S; intro a S
    refine l_done (then_n (wp_ret (then_r ?_)))
    subst h
    exact f_ret S Tryz.results87 rfl rfl
   ·replace h := iteF h hb4
    refine wp_skip (then_n (f_seq (f_seq (f_region (lv S (rn_move (S.tm rfl)) rfl ?_))))); clear S; intro a S
    refine lv S (rn_move (S.tm rfl)) rfl ?_; clear S; intro a S
    refine lv S (rn_sgtr (S.tm rfl) (S.tm rfl)) rfl ?_; clear S; intro a S
    refine l_done ?_
    replace S := S.nk [] [(19, bV (!(Sless p_x p_y || decide (p_x = p_y))))] [] rfl ⟨rfl, trivial⟩
    refine then_n (f_cond (S.tm rfl) (fun hb5 => ?_) (fun hb5 => ?_))
    ·replace h := iteT h hb5
     refine f_seq (f_region (lv S (rn_assign rfl) rfl ?_)); clear S; intro a S
     refine l_done (then_n (wp_ret (then_r ?_)))
     subst h
     exact f_ret S Tryz.results87 rfl rfl
    ·replace h := iteF h hb5
     refine wp_skip (then_n (f_seq (f_region (lv S (rn_assign rfl) rfl ?_)))); clear S; intro a S
     refine l_done (then_n (wp_ret ?_))
     subst h
     exact f_ret S Tryz.results87 rfl rfl
theorem slices_Compare_string_ok (w : World) (v_p_s1 : Value) (p_s1 : List ByteArray) (hs_p_s1 : Slc (view w []) 1 v_p_s1 (p_s1.map eStr)) (v_p_s2 : Value) (p_s2 : List ByteArray) (hs_p_s2 : Slc (view w []) 1 v_p_s2 (p_s2.map eStr)) (r : Int) (h : slices_Compare_string p_s1 p_s2 = some r) :
    Calls Tryz.prog 59 [v_p_s1, v_p_s2].toArray w (Ret w [] fun _ v _ => v = iV r) := by
 refine f_enter [] [] Tryz.func59 rfl Tryz.ntmps59 rfl (by simp) (by simp [fps]) (by simp [fps]) fun a S => ?_
 unfold slices_Compare_string at h
 replace S := S.nk [] [(0, v_p_s1), (1, v_p_s2)] [] rfl (subR rfl)
 refine f_seq (f_region (lv S (rn_assign rfl) rfl ?_)); clear S; intro a S
 refine l_done (then_n (f_seq (f_seq (f_region (lv S (rn_move (S.tm rfl)) rfl ?_))))); clear S; intro a S
 refine lv S (rn_lenT sl_75 (S.tm rfl) (slc_len hs_p_s1)) rfl ?_; clear S; intro a S
 refine lv S (rn_move rfl) rfl ?_; clear S; intro a S
 refine l_done (then_n ?_)
 replace S := S.nk [] [(0, v_p_s1), (1, v_p_s2), (9, v_p_s1), (10, iV (p_s1.length : Int)), (11, iV 0)] [] rfl (subR rfl)
 obtain ⟨j1, hj1, h⟩ := joinE h
 refine f_join (fun a w' => j1 = some r ∧ Sx w [] nov [] [(0, v_p_s1), (1, v_p_s2)] 36 a w') ?_ ?_
 ·refine wp_block (f_loop (fun (ys1 : List ByteArray) a w' => ∃ i1 : Nat, (∃ dn, p_s1 = dn ++ ys1 ∧ dn.length = i1) ∧ slices_Compare_string_l1 p_s2 j1 ys1 i1 = some r ∧ Sx w [] nov [] [(0, v_p_s1), (1, v_p_s2), (9, v_p_s1), (10, iV (p_s1.length : Int)), (11, iV (i1 : Int))] 36 a w') List.length p_s1 ⟨0, ⟨[], rfl, rfl⟩, h, S.nf [] rfl (subR rfl)⟩ ?_)
  clear S h; rintro ys1 a w1 ⟨i1, ⟨dn, hd1, hi1⟩, h, S⟩
  cases ys1 with
  | nil =>
   rw [slices_Compare_string_l1.eq_1] at h
   refine f_seq (f_region (lv S (rn_lss (S.tm rfl) (S.tm rfl)) rfl ?_)); clear S; intro a S
   refine l_done ?_
   replace S := S.nk [] [(0, v_p_s1), (1, v_p_s2), (9, v_p_s1), (10, iV (p_s1.length : Int)), (11, iV (i1 : Int)), (12, bV (decide ((i1 : Int) < (p_s1.length : Int))))] [] rfl (subR rfl)
   refine then_n (f_seq (wp_cond_false ((S.tm rfl).trans (congrArg Value.bool (rng_nil hd1 hi1))) (wp_exit (then_x (then_x (x_same ?_))))))
   refine then_n ?_
   exact ⟨h, S.nf [] rfl (subR rfl)⟩
  | cons y1 ys1 =>
   rw [slices_Compare_string_l1.eq_2] at h
   refine f_seq (f_region (lv S (rn_lss (S.tm rfl) (S.tm rfl)) rfl ?_)); clear S; intro a S
   refine l_done ?_
   replace S := S.nk [] [(0, v_p_s1), (1, v_p_s2), (9, v_p_s1), (10, iV (p_s1.length : Int)), (11, iV (i1 : Int)), (12, bV (decide ((i1 : Int) < (p_s1.length : Int))))] [] rfl (subR rfl)
   refine then_n (f_seq (wp_cond_true ((S.tm rfl).trans (congrArg Value.bool (rng_cons hd1 hi1))) (wp_skip (then_n (f_seq (wp_block ?_))))))
   refine f_seq (f_region (lv S (rn_move (S.tm rfl)) rfl ?_)); clear S; intro a S
   obtain ⟨b1, o1, hm1, hr1⟩ := rn_indexT (a := a) (x := .tmp 9) (y := .tmp 11) (ty := 0) sl_75 hs_p_s1 (get_mid hd1 hi1) rfl (S.tm rfl) (S.tm rfl)
   refine lv S (hr1 _) rfl ?_; clear S; intro a S
   clear hr1
   refine lv S (rn_ld Tryz.isAgg9 (off := o1) (o := 0) (S.tm rfl) (hm1.at S.emb0) rfl) rfl ?_; clear S; intro a S
   refine lv S (rn_assign (S.tm rfl)) rfl ?_; clear S; intro a S
   refine lv S (rn_assign (S.tm rfl)) rfl ?_; clear S; intro a S
   refine l_done (then_n (f_seq (f_seq (f_region (lv S (rn_move (S.tm rfl)) rfl ?_))))); clear S; intro a S
   refine lv S (rn_move (S.tm rfl)) rfl ?_; clear S; intro a S
   refine lv S (rn_lenT sl_75 (S.tm rfl) (slc_len hs_p_s2)) rfl ?_; clear S; intro a S
   refine lv S (rn_geq (S.tm rfl) (S.tm rfl)) rfl ?_; clear S; intro a S
   refine l_done ?_
   replace S := S.nk [] [(0, v_p_s1), (1, v_p_s2), (5, iV (i1 : Int)), (6, sV y1), (9, v_p_s1), (10, iV (p_s1.length : Int)), (11, iV (i1 : Int)), (19, bV (decide ((p_s2.length : Int) ≤ (i1 : Int))))] [] rfl (subR rfl)
   refine then_n (f_cond (S.tm rfl) (fun hb1 => ?_) (fun hb1 => ?_))
   ·replace h := iteT h hb1
    refine f_seq (f_region (lv S (rn_assign rfl) rfl ?_)); clear S; intro a S
    refine l_done (then_n (wp_ret (then_r (blk_r (then_r (then_r ?_))))))
    refine blk_r (then_r (then_r ?_))
    obtain rfl := Option.some.inj h
    exact f_ret S Tryz.results59 rfl rfl
   ·replace h := iteF h hb1
    refine wp_skip (then_n (f_seq (f_region (lv S (rn_move (S.tm rfl)) rfl ?_)))); clear S; intro a S
    refine lv S (rn_move (S.tm rfl)) rfl ?_; clear S; intro a S
    obtain ⟨hc1, h⟩ := chkE h
    obtain ⟨b2, o2, hm2, hr2⟩ := rn_indexT (a := a) (x := .tmp 20) (y := .tmp 21) (ty := 0) sl_75 hs_p_s2 (inB_get hc1).1 (inB_get hc1).2 (S.tm rfl) (S.tm rfl)
    refine lv S (hr2 _) rfl ?_; clear S; intro a S
    clear hr2
    refine lv S (rn_ld Tryz.isAgg9 (off := o2) (o := 0) (S.tm rfl) (hm2.at S.emb0) rfl) rfl ?_; clear S; intro a S
    refine lv S (rn_assign (S.tm rfl)) rfl ?_; clear S; intro a S
    refine l_done (then_n (f_seq (f_region (lv S (rn_move (S.tm rfl)) rfl ?_)))); clear S; intro a S
    refine lv S (rn_move (S.tm rfl)) rfl ?_; clear S; intro a S
    refine l_enter S (fun _ => run_call (vs := [sV y1, sV (nth p_s2 (i1 : Int))]) ⟨(S.tm rfl), (S.tm rfl), trivial⟩ Tryz.call87) (cmp_Compare_string_ok _ y1 (nth p_s2 (i1 : Int)) _ rfl) rfl ?_; clear S; intro v1 a w3 hv1 hk1 hn1 S
    subst hv1
    refine lv S (rn_assign (S.tm rfl)) rfl ?_; clear S; intro a S
    refine l_done ?_
    replace S := S.nk [] [(0, v_p_s1), (1, v_p_s2), (8, iV (cmp_Compare_string y1 (nth p_s2 (i1 : Int)))), (9, v_p_s1), (10, iV (p_s1.length : Int)), (11, iV (i1 : Int))] [] rfl (subR rfl)
    refine then_n (f_seq (f_region (lv S (rn_move (S.tm rfl)) rfl ?_))); clear S; intro a S
    refine lv S (rn_neq (S.tm rfl) rfl) rfl ?_; clear S; intro a S
    refine l_done (then_n (f_cond (S.tm rfl) (fun hb2 => ?_) (fun hb2 => ?_)))
    ·replace h := iteT h hb2
     refine f_seq (f_region (lv S (rn_move (S.tm rfl)) rfl ?_)); clear S; intro a S
     refine lv S (rn_assign (S.tm rfl)) rfl ?_; clear S; intro a S
     refine l_done (then_n (wp_ret (blk_r (then_r (then_r (blk_r ?_))))))
     refine then_r (then_r ?_)
     obtain rfl := Option.some.inj h
     exact f_ret S Tryz.results59 rfl rfl
    ·replace h := iteF h hb2
     refine wp_skip (blk_n (then_n (f_region (lv S (rn_add (S.tm rfl) rfl) rfl ?_)))); clear S; intro a S
     refine lv S (rn_move (S.tm rfl)) rfl ?_; clear S; intro a S
     refine l_done (then_n ?_)
     exact ⟨ys1, ⟨i1 + 1, ⟨_, (hd1).trans (List.append_cons _ _ _), by simp [hi1]⟩, h, S.nf [] rfl ⟨rfl, rfl, rfl, rfl, (congrArg (fun z => some (Value.int .i64 z)) (rng_next hd1 hi1 (slc_max hs_p_s1))), trivial⟩⟩, Nat.lt_succ_self _⟩
 clear S h; rintro a w2 ⟨h, S⟩; rw [hj1] at h; clear hj1 j1
 refine then_n (f_seq (f_seq (f_region (lv S (rn_move (S.tm rfl)) rfl ?_)))); clear S; intro a S
 refine lv S (rn_lenT sl_75 (S.tm rfl) (slc_len hs_p_s1)) rfl ?_; clear S; intro a S
 refine lv S (rn_move (S.tm rfl)) rfl ?_; clear S; intro a S
 refine lv S (rn_lenT sl_75 (S.tm rfl) (slc_len hs_p_s2)) rfl ?_; clear S; intro a S
 refine lv S (rn_lss (S.tm rfl) (S.tm rfl)) rfl ?_; clear S; intro a S
 refine l_done (then_n (f_cond (S.tm rfl) (fun hb3 => ?_) (fun hb3 => ?_)))
 ·replace h := iteT h hb3
  refine f_seq (f_region (lv S (rn_assign rfl) rfl ?_)); clear S; intro a S
  refine l_done (then_n (wp_ret (then_r ?_)))
  obtain rfl := Option.some.inj h
  exact f_ret S Tryz.results59 rfl rfl
 ·replace h := iteF h hb3
  refine wp_skip (then_n (f_seq (f_region (lv S (rn_assign rfl) rfl ?_)))); clear S; intro a S
  refine l_done (then_n (wp_ret ?_))
  obtain rfl := Option.some.inj h
  exact f_ret S Tryz.results59 rfl rfl
theorem tumbref2_sign_ok (w : World) (p_n : Int) (r : Int) (h : tumbref2_sign p_n = r) :
    Calls Tryz.prog 83 [iV p_n].toArray w (Ret w [] fun _ v _ => v = iV r) := by
 refine f_enter [] [] Tryz.func83 rfl Tryz.ntmps83 rfl (by simp) (by simp [fps]) (by simp [fps]) fun a S => ?_
 unfold tumbref2_sign at h
 replace S := S.nk [] [(0, iV p_n)] [] rfl ⟨rfl, trivial⟩
 refine f_seq (f_region (lv S (rn_assign rfl) rfl ?_)); clear S; intro a S
 refine l_done (then_n (f_seq (wp_block (f_seq (f_region (lv S (rn_move (S.tm rfl)) rfl ?_)))))); clear S; intro a S
 refine lv S (rn_lss (S.tm rfl) rfl) rfl ?_; clear S; intro a S
 refine lv S (rn_assign (S.tm rfl)) rfl ?_; clear S; intro a S
 refine l_done (then_n (f_cond (S.tm rfl) (fun hb1 => ?_) (fun hb1 => ?_)))
 ·replace h := iteT h hb1
  refine f_seq (f_region (lv S (rn_assign rfl) rfl ?_)); clear S; intro a S
  refine l_done (then_n (wp_ret (blk_r (then_r ?_))))
  subst h
  exact f_ret S Tryz.results83 rfl rfl
 ·replace h := iteF h hb1
  refine f_seq (f_region (lv S (rn_move (S.tm rfl)) rfl ?_)); clear S; intro a S
  refine lv S (rn_gtr (S.tm rfl) rfl) rfl ?_; clear S; intro a S
  refine lv S (rn_assign (S.tm rfl)) rfl ?_; clear S; intro a S
  refine l_done (then_n (f_cond (S.tm rfl) (fun hb2 => ?_) (fun hb2 => ?_)))
  ·replace h := iteT h hb2
   refine f_seq (f_region (lv S (rn_assign rfl) rfl ?_)); clear S; intro a S
   refine l_done (then_n (wp_ret (blk_r (then_r ?_))))
   subst h
   exact f_ret S Tryz.results83 rfl rfl
  ·replace h := iteF h hb2
   refine wp_skip (blk_n (then_n (f_seq (f_region (lv S (rn_assign rfl) rfl ?_))))); clear S; intro a S
   refine l_done (then_n (wp_ret ?_))
   subst h
   exact f_ret S Tryz.results83 rfl rfl
theorem tumbref2_callOrder_ok (w : World) (p_a : GCall) (p_b : GCall) (r : Int) (h : tumbref2_callOrder p_a p_b = some r) :
    Calls Tryz.prog 48 [.agg (GCall.enc p_a).toArray, .agg (GCall.enc p_b).toArray].toArray w (Ret w [] fun _ v _ => v = iV r) := by
 refine f_enter [] [] Tryz.func48 rfl Tryz.ntmps48 rfl (by simp) (by simp [fps]) (by simp [fps]) fun a S => ?_
 unfold tumbref2_callOrder at h
 replace S := S.nk [] [(0, .agg (GCall.enc p_a).toArray), (1, .agg (GCall.enc p_b).toArray)] [] rfl (subR rfl)
 refine f_seq (f_region (l_box S (S.tm rfl) (cs := (GCall.enc p_a)) rfl rfl ?_)); clear S; intro a w1 b1 hz1 hk1 S
 refine l_box S (S.tm rfl) (cs := (GCall.enc p_b)) rfl rfl ?_; clear S; intro a w2 b2 hz2 hk2 S
 refine lv S (rn_assign rfl) rfl ?_; clear S; intro a S
 refine l_done (then_n (f_seq (f_seq (f_region (lv S (rn_fld fa_74_0 (S.tm rfl)) rfl ?_))))); clear S; intro a S
 refine lv S (rn_load Tryz.isAgg9 (S.tm rfl) (S.cell (i := 1) rfl rfl)) rfl ?_; clear S; intro a S
 refine lv S (rn_fld fa_74_1 (S.tm rfl)) rfl ?_; clear S; intro a S
 refine lv S (rn_load Tryz.isAgg9 (S.tm rfl) (S.cell (i := 1) rfl rfl)) rfl ?_; clear S; intro a S
 refine l_buildSlice S Tryz.underlying75 Tryz.sizeOf9 Tryz.zeroValue9 rfl rfl (pv := [(0, sV p_a.Who), (1, sV p_a.Item)]) ⟨rfl, (S.tm rfl), rfl, (S.tm rfl), trivial⟩ (cs := [sV p_a.Who, sV p_a.Item]) (by kernel_rfl) rfl ?_; clear S; intro a w3 b3 hz3 hk3 S
 refine lv S (rn_fld fa_74_0 (S.tm rfl)) rfl ?_; clear S; intro a S
 refine lv S (rn_load Tryz.isAgg9 (S.tm rfl) (S.cell (i := 1) rfl rfl)) rfl ?_; clear S; intro a S
 refine lv S (rn_fld fa_74_1 (S.tm rfl)) rfl ?_; clear S; intro a S
 refine lv S (rn_load Tryz.isAgg9 (S.tm rfl) (S.cell (i := 1) rfl rfl)) rfl ?_; clear S; intro a S
 refine l_buildSlice S Tryz.underlying75 Tryz.sizeOf9 Tryz.zeroValue9 rfl rfl (pv := [(0, sV p_b.Who), (1, sV p_b.Item)]) ⟨rfl, (S.tm rfl), rfl, (S.tm rfl), trivial⟩ (cs := [sV p_b.Who, sV p_b.Item]) (by kernel_rfl) rfl ?_; clear S; intro a w4 b4 hz4 hk4 S
 obtain ⟨r1, hr1, h⟩ := bindE h
 refine l_enter S (fun _ => run_call (vs := [.slice (some ⟨b3, 0, none⟩) 2 2, .slice (some ⟨b4, 0, none⟩) 2 2]) ⟨(S.tm rfl), (S.tm rfl), trivial⟩ Tryz.call59) (slices_Compare_string_ok _ (.slice (some ⟨b3, 0, none⟩) 2 2) [p_a.Who, p_a.Item] (lit_slcT enc_str S (i := 1) rfl rfl rfl rfl ((ne_nil (e' := .blk b3 [sV p_a.Who, sV p_a.Item] 9)) _ rfl)) (.slice (some ⟨b4, 0, none⟩) 2 2) [p_b.Who, p_b.Item] (lit_slcT enc_str S (i := 0) rfl rfl rfl rfl ((ne_nil (e' := .blk b4 [sV p_b.Who, sV p_b.Item] 9)) _ rfl)) _ hr1) rfl ?_; clear S; intro v1 a w5 hv1 hk5 hn1 S
 subst hv1
 refine lv S (rn_assign (S.tm rfl)) rfl ?_; clear S; intro a S
 refine l_done ?_
 replace S := S.nk [.blk b2 (GCall.enc p_b) 74, .blk b1 (GCall.enc p_a) 74] [(2, .pointer (some ⟨b1, 0, none⟩)), (3, .pointer (some ⟨b2, 0, none⟩)), (5, iV r1)] [false, false, true, true] rfl (subR rfl)
 refine then_n (f_seq (f_region (lv S (rn_move (S.tm rfl)) rfl ?_))); clear S; intro a S
 refine lv S (rn_neq (S.tm rfl) rfl) rfl ?_; clear S; intro a S
 refine l_done (then_n (f_cond (S.tm rfl) (fun hb1 => ?_) (fun hb1 => ?_)))
 ·replace h := iteT h hb1
  refine f_seq (f_region (lv S (rn_move (S.tm rfl)) rfl ?_)); clear S; intro a S
  refine lv S (rn_assign (S.tm rfl)) rfl ?_; clear S; intro a S
  refine l_done (then_n (wp_ret (then_r ?_)))
  obtain rfl := Option.some.inj h
  exact f_ret S Tryz.results48 rfl rfl
 ·replace h := iteF h hb1
  refine wp_skip (then_n (f_seq (f_region (lv S (rn_fld fa_74_2 (S.tm rfl)) rfl ?_)))); clear S; intro a S
  refine lv S (rn_load Tryz.isAgg3 (S.tm rfl) (S.cell (i := 1) rfl rfl)) rfl ?_; clear S; intro a S
  refine lv S (rn_fld fa_74_2 (S.tm rfl)) rfl ?_; clear S; intro a S
  refine lv S (rn_load Tryz.isAgg3 (S.tm rfl) (S.cell (i := 0) rfl rfl)) rfl ?_; clear S; intro a S
  refine lv S (rn_sub (S.tm rfl) (S.tm rfl)) rfl ?_; clear S; intro a S
  refine l_enter S (fun _ => run_call (vs := [iV (W (p_a.Heat - p_b.Heat))]) ⟨(S.tm rfl), trivial⟩ Tryz.call83) (tumbref2_sign_ok _ (W (p_a.Heat - p_b.Heat)) _ rfl) rfl ?_; clear S; intro v2 a w6 hv2 hk6 hn2 S
  subst hv2
  refine lv S (rn_assign (S.tm rfl)) rfl ?_; clear S; intro a S
  refine l_done (then_n (wp_ret ?_))
  obtain rfl := Option.some.inj h
  exact f_ret S Tryz.results48 rfl rfl
set_option maxRecDepth 20000 in
theorem tumbref2_CallsFault_ok (w : World) (v_p_items : Value) (p_items : List GItem) (hs_p_items : Slc (view w []) 5 v_p_items (p_items.map GItem.enc)) (v_p_l : Value) (p_l : List GCall) (hs_p_l : Slc (view w []) 3 v_p_l (p_l.map GCall.enc)) (r : Int) (h : tumbref2_CallsFault p_items p_l = some r) :
    Calls Tryz.prog 13 [v_p_items, v_p_l].toArray w (Ret w [] fun _ v _ => v = iV r) := by
 refine f_enter [] [] Tryz.func13 rfl Tryz.ntmps13 rfl (by simp) (by simp [fps]) (by simp [fps]) fun a S => ?_
 unfold tumbref2_CallsFault at h
 replace S := S.nk [] [(0, v_p_items), (1, v_p_l)] [] rfl (subR rfl)
 refine f_seq (f_region (lv S (rn_assign rfl) rfl ?_)); clear S; intro a S
 refine l_done (then_n (f_seq (f_seq (f_region (lv S (rn_move (S.tm rfl)) rfl ?_))))); clear S; intro a S
 obtain ⟨r1, hr1, h⟩ := bindE h
 refine l_enter S (fun _ => run_call (vs := [v_p_items]) ⟨(S.tm rfl), trivial⟩ Tryz.call44) (tumbref2_ItemsFault_ok _ v_p_items p_items (hs_p_items.mono (S.le_arg nil_sub)) _ hr1) rfl ?_; clear S; intro v1 a w1 hv1 hk1 hn1 S
 subst hv1
 refine lv S (rn_assign (S.tm rfl)) rfl ?_; clear S; intro a S
 refine l_done (then_n (f_seq (f_region (lv S (rn_move (S.tm rfl)) rfl ?_)))); clear S; intro a S
 refine lv S (rn_neq (S.tm rfl) rfl) rfl ?_; clear S; intro a S
 refine l_done (then_n (f_cond (S.tm rfl) (fun hb1 => ?_) (fun hb1 => ?_)))
 ·replace h := iteT h hb1
  refine f_seq (f_region (lv S (rn_move (S.tm rfl)) rfl ?_)); clear S; intro a S
  refine lv S (rn_assign (S.tm rfl)) rfl ?_; clear S; intro a S
  refine l_done (then_n (wp_ret (then_r ?_)))
  obtain rfl := Option.some.inj h
  exact f_ret S Tryz.results13 rfl rfl
 ·replace h := iteF h hb1
  refine wp_skip (then_n (f_seq (f_seq (f_region (lv S (rn_move (S.tm rfl)) rfl ?_))))); clear S; intro a S
  refine lv S (rn_lenT sl_30 (S.tm rfl) (slc_len hs_p_l)) rfl ?_; clear S; intro a S
  refine lv S (rn_gtr (S.tm rfl) rfl) rfl ?_; clear S; intro a S
  refine l_done (then_n (f_cond (S.tm rfl) (fun hb2 => ?_) (fun hb2 => ?_)))
  ·replace h := iteT h hb2
   refine f_seq (f_region (lv S (rn_assign rfl) rfl ?_)); clear S; intro a S
   refine l_done (then_n (wp_ret (then_r ?_)))
   obtain rfl := Option.some.inj h
   exact f_ret S Tryz.results13 rfl rfl
  ·replace h := iteF h hb2
   refine wp_skip (then_n (f_seq (f_seq (f_region (lv S (rn_move (S.tm rfl)) rfl ?_))))); clear S; intro a S
   refine lv S (rn_lenT sl_30 (S.tm rfl) (slc_len hs_p_l)) rfl ?_; clear S; intro a S
   refine lv S (rn_move rfl) rfl ?_; clear S; intro a S
   refine l_done (then_n ?_)
   replace S := S.nk [] [(0, v_p_items), (1, v_p_l), (17, v_p_l), (18, iV (p_l.length : Int)), (19, iV 0)] [] rfl (subR rfl)
   obtain ⟨j1, hj1, h⟩ := joinE h
   refine f_join (fun a w' => j1 = some r ∧ Sx w [] nov [] [] 60 a w') ?_ ?_
   ·refine wp_block (f_loop (fun (ys1 : List GCall) a w' => ∃ i1 : Nat, (∃ dn, p_l = dn ++ ys1 ∧ dn.length = i1) ∧ tumbref2_CallsFault_l1 p_items p_l j1 ys1 i1 = some r ∧ Sx w [] nov [] [(0, v_p_items), (1, v_p_l), (17, v_p_l), (18, iV (p_l.length : Int)), (19, iV (i1 : Int))] 60 a w') List.length p_l ⟨0, ⟨[], rfl, rfl⟩, h, S.nf [] rfl (subR rfl)⟩ ?_)
    clear S h; rintro ys1 a w2 ⟨i1, ⟨dn, hd1, hi1⟩, h, S⟩
    cases ys1 with
    | nil =>
     rw [tumbref2_CallsFault_l1.eq_1] at h
     refine f_seq (f_region (lv S (rn_lss (S.tm rfl) (S.tm rfl)) rfl ?_)); clear S; intro a S
     refine l_done ?_
     replace S := S.nk [] [(0, v_p_items), (1, v_p_l), (17, v_p_l), (18, iV (p_l.length : Int)), (19, iV (i1 : Int)), (20, bV (decide ((i1 : Int) < (p_l.length : Int))))] [] rfl (subR rfl)
     refine then_n (f_seq (wp_cond_false ((S.tm rfl).trans (congrArg Value.bool (rng_nil hd1 hi1))) (wp_exit (then_x (then_x (x_same ?_))))))
     refine then_n ?_
     exact ⟨h, S.nf [] rfl trivial⟩
    | cons y1 ys1 =>
     rw [tumbref2_CallsFault_l1.eq_2] at h
     refine f_seq (f_region (lv S (rn_lss (S.tm rfl) (S.tm rfl)) rfl ?_)); clear S; intro a S
     refine l_done ?_
     replace S := S.nk [] [(0, v_p_items), (1, v_p_l), (17, v_p_l), (18, iV (p_l.length : Int)), (19, iV (i1 : Int)), (20, bV (decide ((i1 : Int) < (p_l.length : Int))))] [] rfl (subR rfl)
     refine then_n (f_seq (wp_cond_true ((S.tm rfl).trans (congrArg Value.bool (rng_cons hd1 hi1))) (wp_skip (then_n (f_seq (wp_block ?_))))))
     refine f_seq (f_region (lv S (rn_move (S.tm rfl)) rfl ?_)); clear S; intro a S
     obtain ⟨b1, o1, hm1, hr2⟩ := rn_indexT (a := a) (x := .tmp 17) (y := .tmp 19) (ty := 0) sl_30 hs_p_l (get_mid hd1 hi1) rfl (S.tm rfl) (S.tm rfl)
     refine lv S (hr2 _) rfl ?_; clear S; intro a S
     clear hr2
     refine lv S (rn_ldA Tryz.isAgg74 Tryz.sizeOf74 (off := o1) (o := 0) (part := (GCall.enc y1)) rfl rfl (S.tm rfl) (hm1.at S.emb0)) rfl ?_; clear S; intro a S
     refine l_alloc S Tryz.zeroValue74 (cs := [sV k_empty, sV k_empty, iV 0]) rfl rfl ?_; clear S; intro a w4 b2 hz1 hk2 S
     refine lv S (rn_assign (S.tm rfl)) rfl ?_; clear S; intro a S
     refine l_store S (S.tm rfl) (S.tm rfl) (i := 0) (off := 0) rfl Tryz.sizeOf74 (vs := (GCall.enc y1)) rfl rfl rfl rfl ?_; clear S; intro w5 hk3 S
     refine l_done (then_n (f_seq (f_region (lv S (rn_move (S.tm rfl)) rfl ?_)))); clear S; intro a S
     refine lv S (rn_fld fa_74_1 (S.tm rfl)) rfl ?_; clear S; intro a S
     refine lv S (rn_load Tryz.isAgg9 (S.tm rfl) (S.cell (i := 0) rfl rfl)) rfl ?_; clear S; intro a S
     refine l_enter S (fun _ => run_call (vs := [v_p_items, sV y1.Item]) ⟨(S.tm rfl), (S.tm rfl), trivial⟩ Tryz.call45) (tumbref2_ItemAt_ok _ v_p_items p_items (hs_p_items.mono (S.le_arg nil_sub)) y1.Item _ rfl) rfl ?_; clear S; intro v2 a w6 hv2 hk4 hn2 S
     subst hv2
     refine lv S (rn_assign (S.tm rfl)) rfl ?_; clear S; intro a S
     refine l_done ?_
     replace S := S.nk [.blk b2 (GCall.enc y1) 74] [(0, v_p_items), (1, v_p_l), (6, iV (i1 : Int)), (7, .pointer (some ⟨b2, 0, none⟩)), (8, iV (tumbref2_ItemAt p_items y1.Item)), (17, v_p_l), (18, iV (p_l.length : Int)), (19, iV (i1 : Int))] [true] rfl (subR rfl)
     refine then_n (wp_block (f_seq (f_region (lv S (rn_fld fa_74_0 (S.tm rfl)) rfl ?_)))); clear S; intro a S
     refine lv S (rn_load Tryz.isAgg9 (S.tm rfl) (S.cell (i := 0) rfl rfl)) rfl ?_; clear S; intro a S
     obtain ⟨r2, hr3, h⟩ := bindE h
     refine l_enter S (fun _ => run_call (vs := [sV y1.Who]) ⟨(S.tm rfl), trivial⟩ Tryz.call46) (tumbref2_Key_ok _ y1.Who _ hr3) rfl ?_; clear S; intro v3 a w7 hv3 hk5 hn3 S
     subst hv3
     refine lv S (rn_not (S.tm rfl)) rfl ?_; clear S; intro a S
     refine lv S (rn_assign (S.tm rfl)) rfl ?_; clear S; intro a S
     refine l_done (then_n (f_cond (S.tm rfl) (fun hb3 => ?_) (fun hb3 => ?_)))
     ·replace h := iteT h hb3
      refine f_seq (f_region (lv S (rn_assign rfl) rfl ?_)); clear S; intro a S
      refine l_done (then_n (wp_ret (blk_r (blk_r (then_r (then_r ?_))))))
      refine blk_r (then_r (then_r ?_))
      obtain rfl := Option.some.inj h
      exact f_ret S Tryz.results13 rfl rfl
     ·replace h := iteF h hb3
      refine f_seq (f_region (lv S (rn_move (S.tm rfl)) rfl ?_)); clear S; intro a S
      refine lv S (rn_lss (S.tm rfl) rfl) rfl ?_; clear S; intro a S
      refine lv S (rn_assign (S.tm rfl)) rfl ?_; clear S; intro a S
      refine l_done ?_
      replace S := S.nk [.blk b2 (GCall.enc y1) 74] [(0, v_p_items), (1, v_p_l), (6, iV (i1 : Int)), (7, .pointer (some ⟨b2, 0, none⟩)), (8, iV (tumbref2_ItemAt p_items y1.Item)), (17, v_p_l), (18, iV (p_l.length : Int)), (19, iV (i1 : Int)), (33, bV (decide ((tumbref2_ItemAt p_items y1.Item) < 0)))] [true] rfl (subR rfl)
      refine then_n (f_cond (S.tm rfl) (fun hb4 => ?_) (fun hb4 => ?_))
      ·replace h := iteT h hb4
       refine f_seq (f_region (lv S (rn_assign rfl) rfl ?_)); clear S; intro a S
       refine l_done (then_n (wp_ret (blk_r (blk_r (then_r (then_r ?_))))))
       refine blk_r (then_r (then_r ?_))
       obtain rfl := Option.some.inj h
       exact f_ret S Tryz.results13 rfl rfl
      ·replace h := iteF h hb4
       refine f_seq ?_
       obtain ⟨hc1, h⟩ := chkE h
       refine d_region [] ([]) Tryz.mixed S rfl (by kernel_rfl) ?_; clear S; intro w9 hk7 hsel S
       refine d_quiet 0 S hsel rfl rfl rfl (by kernel_rfl) (by kernel_rfl) rfl (fun _ hw => (rn_fld fa_74_2 (S.tm rfl))) ?_; clear S; intro a S
       refine d_quiet 1 S hsel rfl rfl rfl (by kernel_rfl) (by kernel_rfl) rfl (fun _ hw => (rn_ld Tryz.isAgg3 (off := 0) (o := 2) (S.tm rfl) ((S.blk_mem (i := 0) (cells := (GCall.enc y1)) (b := b2) (T := 74) rfl (ne_nil (e' := .blk b2 (GCall.enc y1) 74))).kept hw) rfl)) ?_; clear S; intro a S
       refine d_quiet 2 S hsel rfl rfl rfl (by kernel_rfl) (by kernel_rfl) rfl (fun _ hw => (rn_move (S.tm rfl))) ?_; clear S; intro a S
       refine d_quiet 3 S hsel rfl rfl rfl (by kernel_rfl) (by kernel_rfl) rfl (fun _ hw => (rn_move (S.tm rfl))) ?_; clear S; intro a S
       obtain ⟨b4, o3, hm3, hr5⟩ := rn_indexT (a := a) (x := .tmp 39) (y := .tmp 40) (ty := 0) sl_26 (hs_p_items.mono (S.le_arg nil_sub)) (inB_get hc1).1 (inB_get hc1).2 (S.tm rfl) (S.tm rfl)
       refine d_quiet 4 S hsel rfl rfl rfl (by kernel_rfl) (by kernel_rfl) rfl (fun _ hw => hr5 _) ?_; clear S; intro a S
       clear hr5
       refine d_quiet 5 S hsel rfl rfl rfl (by kernel_rfl) (by kernel_rfl) rfl (fun _ hw => (rn_fld fa_69_1 (S.tm rfl))) ?_; clear S; intro a S
       refine d_quiet 6 S hsel rfl rfl rfl (by kernel_rfl) (by kernel_rfl) rfl (fun _ hw => (rn_ld Tryz.isAgg3 (off := o3) (o := 1) (S.tm rfl) (hm3.kept hw) rfl)) ?_; clear S; intro a S
       refine d_loud1 7 (by kernel_rfl) rfl (l_enter S (fun _ => run_call (vs := [iV y1.Heat, iV 1, iV ((nth p_items (tumbref2_ItemAt p_items y1.Item)).Heats)]) ⟨(S.tm rfl), rfl, (S.tm rfl), trivial⟩ Tryz.call47) (tumbref2_in_ok _ y1.Heat 1 ((nth p_items (tumbref2_ItemAt p_items y1.Item)).Heats) _ rfl) rfl ?_); clear S; intro v5 a w10 hv5 hk8 hn5 S
       subst hv5
       refine l_done (d_next hk8 (d_rest [8, 9] hsel (by kernel_rfl) rfl ?_))
       clear hsel
       refine s_lv S rfl (rn_not (S.tm rfl)) rfl ?_; clear S; intro a S
       refine s_lv S rfl (rn_assign (S.tm rfl)) rfl ?_; clear S; intro a S
       refine s_done ?_
       replace S := S.nk [.blk b2 (GCall.enc y1) 74] [(0, v_p_items), (1, v_p_l), (6, iV (i1 : Int)), (7, .pointer (some ⟨b2, 0, none⟩)), (17, v_p_l), (18, iV (p_l.length : Int)), (19, iV (i1 : Int)), (36, bV (!(tumbref2_in y1.Heat 1 ((nth p_items (tumbref2_ItemAt p_items y1.Item)).Heats))))] [true] rfl (subR rfl)
       refine then_n (f_cond (S.tm rfl) (fun hb5 => ?_) (fun hb5 => ?_))
       ·replace h := iteT h hb5
        refine f_seq (f_region (lv S (rn_assign rfl) rfl ?_)); clear S; intro a S
        refine l_done (then_n (wp_ret (blk_r (blk_r (then_r (then_r ?_))))))
        refine blk_r (then_r (then_r ?_))
        obtain rfl := Option.some.inj h
        exact f_ret S Tryz.results13 rfl rfl
       ·replace h := iteF h hb5
        refine f_seq ?_
        obtain ⟨j2, hj2, h⟩ := joinE h
        refine f_join (fun a w' => ∃ x1 : Bool, j2 x1 = some r ∧ Sx w [] nov [] [(0, v_p_items), (1, v_p_l), (17, v_p_l), (18, iV (p_l.length : Int)), (19, iV (i1 : Int)), (46, bV x1)] 60 a w') ?_ ?_
        ·rcases Bool.eq_false_or_eq_true (decide (0 < (i1 : Int))) with hb6 | hb6
         ·replace h := iteT h hb6
          obtain ⟨hc2, h⟩ := chkE h
          obtain ⟨r3, hr7, h⟩ := bindE h
          refine d_region [] ([]) Tryz.mixed S rfl (by kernel_rfl) ?_; clear S; intro w13 hk10 hsel S
          refine d_quiet 0 S hsel rfl rfl rfl (by kernel_rfl) (by kernel_rfl) rfl (fun _ hw => (rn_move (S.tm rfl))) ?_; clear S; intro a S
          refine d_quiet 1 S hsel rfl rfl rfl (by kernel_rfl) (by kernel_rfl) rfl (fun _ hw => (rn_gtr (S.tm rfl) rfl)) ?_; clear S; intro a S
          refine d_quiet 2 S hsel rfl rfl rfl (by kernel_rfl) (by kernel_rfl) rfl (fun _ hw => (rn_move (S.tm rfl))) ?_; clear S; intro a S
          refine d_quiet_g 3 S hsel rfl rfl rfl rfl hb6 rfl rfl (by kernel_rfl) (by kernel_rfl) rfl (fun _ hw => (rn_move (S.tm rfl))) ?_; clear S; intro a S
          refine d_quiet_g 4 S hsel rfl rfl rfl rfl hb6 rfl rfl (by kernel_rfl) (by kernel_rfl) rfl (fun _ hw => (rn_move (S.tm rfl))) ?_; clear S; intro a S
          refine d_quiet_g 5 S hsel rfl rfl rfl rfl hb6 rfl rfl (by kernel_rfl) (by kernel_rfl) rfl (fun _ hw => (rn_sub (S.tm rfl) rfl)) ?_; clear S; intro a S
          obtain ⟨b6, o5, hm5, hr8⟩ := rn_indexT (a := a) (x := .tmp 50) (y := .tmp 52) (ty := 0) sl_30 (hs_p_l.mono (S.le_arg nil_sub)) (inB_get hc2).1 (inB_get hc2).2 (S.tm rfl) (S.tm rfl)
          refine d_quiet_g 6 S hsel rfl rfl rfl rfl hb6 rfl rfl (by kernel_rfl) (by kernel_rfl) rfl (fun _ hw => hr8 _) ?_; clear S; intro a S
          clear hr8
          refine d_quiet_g 7 S hsel rfl rfl rfl rfl hb6 rfl rfl (by kernel_rfl) (by kernel_rfl) rfl (fun _ hw => (rn_ldA Tryz.isAgg74 Tryz.sizeOf74 (off := o5) (o := 0) (part := (GCall.enc (nth p_l (W ((i1 : Int) - 1))))) rfl rfl (S.tm rfl) (hm5.kept hw))) ?_; clear S; intro a S
          refine d_quiet_g 8 S hsel rfl rfl rfl rfl hb6 rfl rfl (by kernel_rfl) (by kernel_rfl) rfl (fun _ hw => (rn_ldA Tryz.isAgg74 Tryz.sizeOf74 (off := 0) (o := 0) (part := (GCall.enc y1)) rfl rfl (S.tm rfl) ((S.blk_mem (i := 0) (cells := (GCall.enc y1)) (b := b2) (T := 74) rfl (ne_nil (e' := .blk b2 (GCall.enc y1) 74))).kept hw))) ?_; clear S; intro a S
          refine d_loud1 9 (by kernel_rfl) rfl (l_want S rfl rfl rfl hb6 (l_enter S (fun _ => run_call (vs := [.agg (GCall.enc (nth p_l (W ((i1 : Int) - 1)))).toArray, .agg (GCall.enc y1).toArray]) ⟨(S.tm rfl), (S.tm rfl), trivial⟩ Tryz.call48) (tumbref2_callOrder_ok _ (nth p_l (W ((i1 : Int) - 1))) y1 _ hr7) rfl ?_)); clear S; intro v7 a w14 hv7 hk11 hn7 S
          subst hv7
          refine l_done (d_next hk11 (d_rest [10, 11, 12] hsel (by kernel_rfl) rfl ?_))
          clear hsel
          refine s_want S rfl rfl rfl rfl hb6 (s_lv0 S (rn_geq (S.tm rfl) rfl) rfl ?_); clear S; intro a S
          refine s_lv S rfl (rn_pick_b hb6 (S.tm rfl) (S.tm rfl)) rfl ?_; clear S; intro a S
          refine s_lv S rfl (rn_assign (S.tm rfl)) rfl ?_; clear S; intro a S
          refine s_done ?_
          replace S := S.nk [] [(0, v_p_items), (1, v_p_l), (17, v_p_l), (18, iV (p_l.length : Int)), (19, iV (i1 : Int)), (46, bV (decide (0 ≤ r3))), (50, v_p_l), (51, iV (i1 : Int)), (52, iV (W ((i1 : Int) - 1))), (53, .pointer (some ⟨b6, o5, none⟩)), (54, .agg (GCall.enc (nth p_l (W ((i1 : Int) - 1)))).toArray), (55, .agg (GCall.enc y1).toArray), (56, iV r3), (57, bV (decide (0 ≤ r3)))] [false] rfl (subR rfl)
          refine then_n ?_
          exact ⟨decide (0 ≤ r3), h, S.nf [] rfl (subR rfl)⟩
         ·replace h := iteF h hb6
          refine d_region [] ([]) Tryz.mixed S rfl (by kernel_rfl) ?_; clear S; intro w15 hk12 hsel S
          refine d_rest [0, 1, 2, 3, 4, 5, 6, 7, 8, 9, 10, 11, 12] hsel (by kernel_rfl) rfl ?_
          clear hsel
          refine s_lv S rfl (rn_move (S.tm rfl)) rfl ?_; clear S; intro a S
          refine s_lv S rfl (rn_gtr (S.tm rfl) rfl) rfl ?_; clear S; intro a S
          refine s_lv S rfl (rn_move (S.tm rfl)) rfl ?_; clear S; intro a S
          iterate 8 (refine s_skip S rfl rfl rfl rfl (neq_f hb6) rfl ?_ rfl; clear S; intro a S)
          refine s_lv S rfl (rn_pick_c hb6 (S.tm rfl) rfl) rfl ?_; clear S; intro a S
          refine s_lv S rfl (rn_assign (S.tm rfl)) rfl ?_; clear S; intro a S
          refine s_done ?_
          replace S := S.nk [] [(0, v_p_items), (1, v_p_l), (17, v_p_l), (18, iV (p_l.length : Int)), (19, iV (i1 : Int)), (46, bV false)] [false] rfl (subR rfl)
          refine then_n ?_
          exact ⟨false, h, S.nf [] rfl (subR rfl)⟩
        clear S h; rintro a w11 ⟨x1, h, S⟩; rw [hj2] at h; clear hj2 j2
        refine then_n (f_cond (S.tm rfl) (fun hb7 => ?_) (fun hb7 => ?_))
        ·replace h := iteT h hb7
         refine f_seq (f_region (lv S (rn_assign rfl) rfl ?_)); clear S; intro a S
         refine l_done (then_n (wp_ret (blk_r (blk_r (then_r (then_r ?_))))))
         refine blk_r (then_r (then_r ?_))
         obtain rfl := Option.some.inj h
         exact f_ret S Tryz.results13 rfl rfl
        ·replace h := iteF h hb7
         refine wp_skip (blk_n (blk_n (then_n (f_region (lv S (rn_add (S.tm rfl) rfl) rfl ?_))))); clear S; intro a S
         refine lv S (rn_move (S.tm rfl)) rfl ?_; clear S; intro a S
         refine l_done (then_n ?_)
         exact ⟨ys1, ⟨i1 + 1, ⟨_, (hd1).trans (List.append_cons _ _ _), by simp [hi1]⟩, h, S.nf [] rfl ⟨rfl, rfl, rfl, rfl, (congrArg (fun z => some (Value.int .i64 z)) (rng_next hd1 hi1 (slc_max hs_p_l))), trivial⟩⟩, Nat.lt_succ_self _⟩
   clear S h; rintro a w3 ⟨h, S⟩; rw [hj1] at h; clear hj1 j1
   refine then_n (f_seq (f_region (lv S (rn_assign rfl) rfl ?_))); clear S; intro a S
   refine l_done (then_n (wp_ret ?_))
   obtain rfl := Option.some.inj h
   exact f_ret S Tryz.results13 rfl rfl
theorem tumbref2_Moment_ok (w : World) (p_at : Int) (r : Bool) (h : tumbref2_Moment p_at = r) :
    Calls Tryz.prog 49 [iV p_at].toArray w (Ret w [] fun _ v _ => v = bV r) := by
 refine f_enter [] [] Tryz.func49 rfl Tryz.ntmps49 rfl (by simp) (by simp [fps]) (by simp [fps]) fun a S => ?_
 unfold tumbref2_Moment at h
 replace S := S.nk [] [(0, iV p_at)] [] rfl ⟨rfl, trivial⟩
 refine f_seq (f_region (lv S (rn_assign rfl) rfl ?_)); clear S; intro a S
 refine l_done (then_n (f_seq (f_region (lv S (rn_move (S.tm rfl)) rfl ?_)))); clear S; intro a S
 refine l_enter S (fun _ => run_call (vs := [iV p_at, iV 0, iV 345686399999]) ⟨(S.tm rfl), rfl, rfl, trivial⟩ Tryz.call47) (tumbref2_in_ok _ p_at 0 345686399999 _ rfl) rfl ?_; clear S; intro v1 a w1 hv1 hk1 hn1 S
 subst hv1
 refine lv S (rn_assign (S.tm rfl)) rfl ?_; clear S; intro a S
 refine l_done (then_n (wp_ret ?_))
 subst h
 exact f_ret S Tryz.results49 rfl rfl
set_option maxRecDepth 20000 in
theorem tumbref2_SlotsOf_ok (w : World) (v_p_l : Value) (p_l : List GItem) (hs_p_l : Slc (view w []) 5 v_p_l (p_l.map GItem.enc)) (p_from : Int) (r : (List GSlot)) (h : tumbref2_SlotsOf p_l p_from = some r) :
    Calls Tryz.prog 52 [v_p_l, iV p_from].toArray w (Ret w [] fun τ v _ => OwnV τ 57 4 v r.length (r.flatMap GSlot.enc)) := by
 refine f_enter [] [] Tryz.func52 rfl Tryz.ntmps52 rfl (by simp) (by simp [fps]) (by simp [fps]) fun a S => ?_
 unfold tumbref2_SlotsOf at h
 replace S := S.nk [] [(0, v_p_l), (1, iV p_from)] [] rfl (subR rfl)
 refine f_seq (f_region (lv S (rn_assign rfl) rfl ?_)); clear S; intro a S
 refine l_done (then_n (f_seq (f_region (lv S (rn_assign rfl) rfl ?_)))); clear S; intro a S
 replace S := S.nil 57 4
 refine l_done (then_n (f_seq (f_seq (f_region (lv S (rn_move (S.tm rfl)) rfl ?_))))); clear S; intro a S
 refine lv S (rn_lenT sl_26 (S.tm rfl) (slc_len hs_p_l)) rfl ?_; clear S; intro a S
 refine lv S (rn_move rfl) rfl ?_; clear S; intro a S
 refine l_done (then_n ?_)
 replace S := S.nk [.own (.slice none 0 0) 57 4 ([] : List GSlot).length (([] : List GSlot).flatMap GSlot.enc)] [(0, v_p_l), (1, iV p_from), (5, (.slice none 0 0)), (11, v_p_l), (12, iV (p_l.length : Int)), (13, iV 0)] [true] rfl (subR rfl)
 obtain ⟨j1, hj1, h⟩ := joinE h
 refine f_join (fun a w' => ∃ x1 : List GSlot, ∃ v1 : Value, j1 x1 = some r ∧ Sx w [] nov [.own v1 57 4 x1.length (x1.flatMap GSlot.enc)] [(5, v1)] 70 a w') ?_ ?_
 ·refine wp_block (f_loop (fun (ys1 : List GItem) a w' => ∃ i1 : Nat, ∃ x1 : List GSlot, ∃ v1 : Value, (∃ dn, p_l = dn ++ ys1 ∧ dn.length = i1) ∧ tumbref2_SlotsOf_l1 p_l p_from j1 ys1 i1 x1 = some r ∧ Sx w [] nov [.own v1 57 4 x1.length (x1.flatMap GSlot.enc)] [(0, v_p_l), (1, iV p_from), (5, v1), (11, v_p_l), (12, iV (p_l.length : Int)), (13, iV (i1 : Int))] 70 a w') List.length p_l ⟨0, ([] : List GSlot), (.slice none 0 0), ⟨[], rfl, rfl⟩, h, S.nf [true] rfl (subR rfl)⟩ ?_)
  clear S h; rintro ys1 a w1 ⟨i1, x1, v1, ⟨dn, hd1, hi1⟩, h, S⟩
  cases ys1 with
  | nil =>
   rw [tumbref2_SlotsOf_l1.eq_1] at h
   refine f_seq (f_region (lv S (rn_lss (S.tm rfl) (S.tm rfl)) rfl ?_)); clear S; intro a S
   refine l_done ?_
   replace S := S.nk [.own v1 57 4 x1.length (x1.flatMap GSlot.enc)] [(0, v_p_l), (1, iV p_from), (5, v1), (11, v_p_l), (12, iV (p_l.length : Int)), (13, iV (i1 : Int)), (14, bV (decide ((i1 : Int) < (p_l.length : Int))))] [true] rfl (subR rfl)
   refine then_n (f_seq (wp_cond_false ((S.tm rfl).trans (congrArg Value.bool (rng_nil hd1 hi1))) (wp_exit (then_x (then_x (x_same ?_))))))
   refine then_n ?_
   exact ⟨x1, v1, h, S.nf [true] rfl ⟨rfl, trivial⟩⟩
  | cons y1 ys1 =>
   rw [tumbref2_SlotsOf_l1.eq_2] at h
   refine f_seq (f_region (lv S (rn_lss (S.tm rfl) (S.tm rfl)) rfl ?_)); clear S; intro a S
   refine l_done ?_
   replace S := S.nk [.own v1 57 4 x1.length (x1.flatMap GSlot.enc)] [(0, v_p_l), (1, iV p_from), (5, v1), (11, v_p_l), (12, iV (p_l.length : Int)), (13, iV (i1 : Int)), (14, bV (decide ((i1 : Int) < (p_l.length : Int))))] [true] rfl (subR rfl)
   refine then_n (f_seq (wp_cond_true ((S.tm rfl).trans (congrArg Value.bool (rng_cons hd1 hi1))) (wp_skip (then_n (f_seq (wp_block ?_))))))
   refine f_seq (f_region (lv S (rn_move (S.tm rfl)) rfl ?_)); clear S; intro a S
   obtain ⟨b1, o1, hm1, hr1⟩ := rn_indexT (a := a) (x := .tmp 11) (y := .tmp 13) (ty := 0) sl_26 hs_p_l (get_mid hd1 hi1) rfl (S.tm rfl) (S.tm rfl)
   refine lv S (hr1 _) rfl ?_; clear S; intro a S
   clear hr1
   refine lv S (rn_ldA Tryz.isAgg69 Tryz.sizeOf69 (off := o1) (o := 0) (part := (GItem.enc y1)) rfl rfl (S.tm rfl) (hm1.at S.emb0)) rfl ?_; clear S; intro a S
   refine l_alloc S Tryz.zeroValue69 (cs := [sV k_empty, iV 0, iV 0, iV 0, iV 0]) rfl rfl ?_; clear S; intro a w3 b2 hz1 hk1 S
   refine lv S (rn_assign (S.tm rfl)) rfl ?_; clear S; intro a S
   refine l_store S (S.tm rfl) (S.tm rfl) (i := 0) (off := 0) rfl Tryz.sizeOf69 (vs := (GItem.enc y1)) rfl rfl rfl rfl ?_; clear S; intro w4 hk2 S
   refine l_done (then_n (f_seq (f_region (lv S (rn_assign rfl) rfl ?_)))); clear S; intro a S
   refine l_done (then_n ?_)
   replace S := S.nk [.blk b2 (GItem.enc y1) 69, .own v1 57 4 x1.length (x1.flatMap GSlot.enc)] [(0, v_p_l), (1, iV p_from), (5, v1), (6, iV (i1 : Int)), (7, .pointer (some ⟨b2, 0, none⟩)), (8, iV 1), (11, v_p_l), (12, iV (p_l.length : Int)), (13, iV (i1 : Int))] [true, true] rfl (subR rfl)
   obtain ⟨j2, hj2, h⟩ := joinE h
   refine f_join (fun a w' => ∃ x2 : List GSlot, ∃ v2 : Value, j2 x2 = some r ∧ Sx w [] nov [.blk b2 (GItem.enc y1) 69, .own v2 57 4 x2.length (x2.flatMap GSlot.enc)] [(0, v_p_l), (1, iV p_from), (5, v2), (11, v_p_l), (12, iV (p_l.length : Int)), (13, iV (i1 : Int))] 70 a w') ?_ ?_
   ·refine wp_block (f_loop (fun (m1 : Nat) a w' => ∃ x2 : List GSlot, ∃ x3 : Int, ∃ v2 : Value, tumbref2_SlotsOf_l2 y1 i1 p_l p_from j2 m1 x2 x3 = some r ∧ Sx w [] nov [.blk b2 (GItem.enc y1) 69, .own v2 57 4 x2.length (x2.flatMap GSlot.enc)] [(0, v_p_l), (1, iV p_from), (5, v2), (6, iV (i1 : Int)), (7, .pointer (some ⟨b2, 0, none⟩)), (8, iV x3), (11, v_p_l), (12, iV (p_l.length : Int)), (13, iV (i1 : Int))] 70 a w') id ((y1.Heats - 1).toNat + 2) ⟨x1, 1, v1, h, S.nf [true, true] rfl (subR rfl)⟩ ?_)
    clear S h; rintro m1 a w5 ⟨x2, x3, v2, h, S⟩
    cases m1 with
    | zero => rw [tumbref2_SlotsOf_l2.eq_1] at h; cases h
    | succ m1 =>
     rw [tumbref2_SlotsOf_l2.eq_2] at h
     refine f_seq (f_seq (f_region (lv S (rn_move (S.tm rfl)) rfl ?_))); clear S; intro a S
     refine lv S (rn_fld fa_69_1 (S.tm rfl)) rfl ?_; clear S; intro a S
     refine lv S (rn_load Tryz.isAgg3 (S.tm rfl) (S.cell (i := 0) rfl rfl)) rfl ?_; clear S; intro a S
     refine lv S (rn_leq (S.tm rfl) (S.tm rfl)) rfl ?_; clear S; intro a S
     refine l_done (then_n (f_cond (S.tm rfl) (fun hb1 => ?_) (fun hb1 => ?_)))
     ·replace h := iteT h hb1
      refine wp_skip (then_n (f_seq (wp_block (f_seq (f_region (lv S (rn_move (S.tm rfl)) rfl ?_)))))); clear S; intro a S
      refine lv S (rn_assign (S.tm rfl)) rfl ?_; clear S; intro a S
      refine l_done ?_
      replace S := S.nk [.blk b2 (GItem.enc y1) 69, .own v2 57 4 x2.length (x2.flatMap GSlot.enc)] [(0, v_p_l), (1, iV p_from), (5, v2), (6, iV (i1 : Int)), (7, .pointer (some ⟨b2, 0, none⟩)), (8, iV x3), (9, iV p_from), (11, v_p_l), (12, iV (p_l.length : Int)), (13, iV (i1 : Int))] [true, true] rfl (subR rfl)
      refine then_n (f_seq (f_seq (f_region (lv S (rn_move (S.tm rfl)) rfl ?_)))); clear S; intro a S
      refine lv S (rn_lenT sl_33 (S.tm rfl) (own_len (S.own_at (i := 1) rfl))) rfl ?_; clear S; intro a S
      refine lv S (rn_assign (S.tm rfl)) rfl ?_; clear S; intro a S
      refine l_done (then_n (f_seq (f_region (lv S (rn_move (S.tm rfl)) rfl ?_)))); clear S; intro a S
      refine lv S (rn_gtr (S.tm rfl) rfl) rfl ?_; clear S; intro a S
      refine l_done ?_
      replace S := S.nk [.blk b2 (GItem.enc y1) 69, .own v2 57 4 x2.length (x2.flatMap GSlot.enc)] [(0, v_p_l), (1, iV p_from), (5, v2), (6, iV (i1 : Int)), (7, .pointer (some ⟨b2, 0, none⟩)), (8, iV x3), (9, iV p_from), (10, iV (x2.length : Int)), (11, v_p_l), (12, iV (p_l.length : Int)), (13, iV (i1 : Int)), (28, bV (decide (0 < (x2.length : Int))))] [true, true] rfl (subR rfl)
      refine then_n ?_
      obtain ⟨j3, hj3, h⟩ := joinE h
      refine f_join (fun a w' => ∃ x4 : Int, j3 x4 = some r ∧ Sx w [] nov [.blk b2 (GItem.enc y1) 69, .own v2 57 4 x2.length (x2.flatMap GSlot.enc)] [(0, v_p_l), (1, iV p_from), (5, v2), (6, iV (i1 : Int)), (7, .pointer (some ⟨b2, 0, none⟩)), (8, iV x3), (9, iV x4), (11, v_p_l), (12, iV (p_l.length : Int)), (13, iV (i1 : Int))] 70 a w') ?_ ?_
      ·refine f_cond (S.tm rfl) (fun hb2 => ?_) (fun hb2 => ?_)
       ·replace h := iteT h hb2
        refine f_seq (d_region [] ([]) Tryz.mixed S rfl (by kernel_rfl) ?_); clear S; intro w8 hk3 hsel S
        refine d_rest [0, 1, 2, 3, 4, 5, 6, 7, 8, 9, 10] hsel (by kernel_rfl) rfl ?_
        clear hsel
        refine s_lv S rfl (rn_move (S.tm rfl)) rfl ?_; clear S; intro a S
        refine s_lv S rfl (rn_move (S.tm rfl)) rfl ?_; clear S; intro a S
        refine s_lv S rfl (rn_sub (S.tm rfl) rfl) rfl ?_; clear S; intro a S
        obtain ⟨hc1, h⟩ := chkE h
        obtain ⟨b3, hg1, hr2⟩ := rn_indexS (a := a) (x := .tmp 29) (y := .tmp 31) (ty := 0) sl_33 GSlot.enc_ok S (i := 1) rfl (inB_get hc1).1 (inB_get hc1).2 (S.tm rfl) (S.tm rfl)
        refine s_lv S rfl (hr2 _) rfl ?_; clear S; intro a S
        clear hr2
        refine s_lv S rfl (rn_fld fa_57_2 (S.tm rfl)) rfl ?_; clear S; intro a S
        refine s_lv S rfl (rn_fld fa_55_1 (S.tm rfl)) rfl ?_; clear S; intro a S
        refine s_lv S rfl (rn_ld Tryz.isAgg3 (off := ((W ((x2.length : Int) - 1)).toNat) * 4) (o := 3) (S.tm rfl) (own_cells GSlot.enc_ok S (i := 1) rfl hg1 (inB_get hc1).1) rfl) rfl ?_; clear S; intro a S
        refine s_lv S rfl (rn_fld fa_69_3 (S.tm rfl)) rfl ?_; clear S; intro a S
        refine s_lv S rfl (rn_load Tryz.isAgg3 (S.tm rfl) (S.cell (i := 0) rfl rfl)) rfl ?_; clear S; intro a S
        refine s_lv S rfl (rn_add (S.tm rfl) (S.tm rfl)) rfl ?_; clear S; intro a S
        refine s_lv S rfl (rn_assign (S.tm rfl)) rfl ?_; clear S; intro a S
        refine s_done ?_
        replace S := S.nk [.blk b2 (GItem.enc y1) 69, .own v2 57 4 x2.length (x2.flatMap GSlot.enc)] [(0, v_p_l), (1, iV p_from), (5, v2), (6, iV (i1 : Int)), (7, .pointer (some ⟨b2, 0, none⟩)), (8, iV x3), (9, iV (W ((((nth x2 (W ((x2.length : Int) - 1))).Time).To) + y1.Gap))), (10, iV (x2.length : Int)), (11, v_p_l), (12, iV (p_l.length : Int)), (13, iV (i1 : Int))] [true, true] rfl (subR rfl)
        refine then_n (f_seq (f_region (lv S (rn_move (S.tm rfl)) rfl ?_))); clear S; intro a S
        refine lv S (rn_eql (S.tm rfl) rfl) rfl ?_; clear S; intro a S
        refine l_done (then_n ?_)
        obtain ⟨j4, hj4, h⟩ := joinE h
        refine f_join (fun a w' => ∃ x5 : Int, j4 x5 = some r ∧ Sx w [] nov [.blk b2 (GItem.enc y1) 69, .own v2 57 4 x2.length (x2.flatMap GSlot.enc)] [(0, v_p_l), (1, iV p_from), (5, v2), (6, iV (i1 : Int)), (7, .pointer (some ⟨b2, 0, none⟩)), (8, iV x3), (9, iV x5), (11, v_p_l), (12, iV (p_l.length : Int)), (13, iV (i1 : Int))] 70 a w') ?_ ?_
        ·refine f_cond (S.tm rfl) (fun hb3 => ?_) (fun hb3 => ?_)
         ·replace h := iteT h hb3
          refine d_region [] ([]) Tryz.mixed S rfl (by kernel_rfl) ?_; clear S; intro w10 hk4 hsel S
          refine d_rest [0, 1, 2, 3, 4, 5, 6, 7, 8, 9, 10, 11, 12, 13, 14] hsel (by kernel_rfl) rfl ?_
          clear hsel
          refine s_lv S rfl (rn_move (S.tm rfl)) rfl ?_; clear S; intro a S
          refine s_lv S rfl (rn_move (S.tm rfl)) rfl ?_; clear S; intro a S
          refine s_lv S rfl (rn_sub (S.tm rfl) rfl) rfl ?_; clear S; intro a S
          obtain ⟨hc2, h⟩ := chkE h
          obtain ⟨b4, hg2, hr3⟩ := rn_indexS (a := a) (x := .tmp 41) (y := .tmp 43) (ty := 0) sl_33 GSlot.enc_ok S (i := 1) rfl (inB_get hc2).1 (inB_get hc2).2 (S.tm rfl) (S.tm rfl)
          refine s_lv S rfl (hr3 _) rfl ?_; clear S; intro a S
          clear hr3
          refine s_lv S rfl (rn_fld fa_57_2 (S.tm rfl)) rfl ?_; clear S; intro a S
          refine s_lv S rfl (rn_fld fa_55_1 (S.tm rfl)) rfl ?_; clear S; intro a S
          refine s_lv S rfl (rn_ld Tryz.isAgg3 (off := ((W ((x2.length : Int) - 1)).toNat) * 4) (o := 3) (S.tm rfl) (own_cells GSlot.enc_ok S (i := 1) rfl hg2 (inB_get hc2).1) rfl) rfl ?_; clear S; intro a S
          refine s_lv S rfl (rn_move (S.tm rfl)) rfl ?_; clear S; intro a S
          refine s_lv S rfl (rn_move (S.tm rfl)) rfl ?_; clear S; intro a S
          refine s_lv S rfl (rn_sub (S.tm rfl) rfl) rfl ?_; clear S; intro a S
          obtain ⟨hc3, h⟩ := chkE h
          obtain ⟨b5, o4, hm4, hr4⟩ := rn_indexT (a := a) (x := .tmp 48) (y := .tmp 50) (ty := 0) sl_26 hs_p_l (inB_get hc3).1 (inB_get hc3).2 (S.tm rfl) (S.tm rfl)
          refine s_lv S rfl (hr4 _) rfl ?_; clear S; intro a S
          clear hr4
          refine s_lv S rfl (rn_fld fa_69_4 (S.tm rfl)) rfl ?_; clear S; intro a S
          refine s_lv S rfl (rn_ld Tryz.isAgg3 (off := o4) (o := 4) (S.tm rfl) (hm4.at S.emb0) rfl) rfl ?_; clear S; intro a S
          refine s_lv S rfl (rn_add (S.tm rfl) (S.tm rfl)) rfl ?_; clear S; intro a S
          refine s_lv S rfl (rn_assign (S.tm rfl)) rfl ?_; clear S; intro a S
          refine s_done ?_
          replace S := S.nk [.blk b2 (GItem.enc y1) 69, .own v2 57 4 x2.length (x2.flatMap GSlot.enc)] [(0, v_p_l), (1, iV p_from), (5, v2), (6, iV (i1 : Int)), (7, .pointer (some ⟨b2, 0, none⟩)), (8, iV x3), (9, iV (W ((((nth x2 (W ((x2.length : Int) - 1))).Time).To) + ((nth p_l (W ((i1 : Int) - 1))).Break)))), (11, v_p_l), (12, iV (p_l.length : Int)), (13, iV (i1 : Int))] [true, true] rfl (subR rfl)
          refine then_n ?_
          exact ⟨W ((((nth x2 (W ((x2.length : Int) - 1))).Time).To) + ((nth p_l (W ((i1 : Int) - 1))).Break)), h, S.nf [true, true] rfl (subR rfl)⟩
         ·replace h := iteF h hb3
          refine wp_skip (then_n ?_)
          exact ⟨W ((((nth x2 (W ((x2.length : Int) - 1))).Time).To) + y1.Gap), h, S.nf [true, true] rfl (subR rfl)⟩
        clear S h; rintro a w9 ⟨x5, h, S⟩; rw [hj4] at h; clear hj4 j4
        refine then_n ?_
        exact ⟨x5, h, S.nf [true, true] rfl (subR rfl)⟩
       ·replace h := iteF h hb2
        refine wp_skip (then_n ?_)
        exact ⟨p_from, h, S.nf [true, true] rfl (subR rfl)⟩
      clear S h; rintro a w7 ⟨x4, h, S⟩; rw [hj3] at h; clear hj3 j3
      refine then_n (f_region (lv S (rn_move (S.tm rfl)) rfl ?_)); clear S; intro a S
      refine lv S (rn_fld fa_69_0 (S.tm rfl)) rfl ?_; clear S; intro a S
      refine lv S (rn_load Tryz.isAgg9 (S.tm rfl) (S.cell (i := 0) rfl rfl)) rfl ?_; clear S; intro a S
      iterate 3 (refine lv S (rn_move (S.tm rfl)) rfl ?_; clear S; intro a S)
      refine lv S (rn_fld fa_69_2 (S.tm rfl)) rfl ?_; clear S; intro a S
      refine lv S (rn_load Tryz.isAgg3 (S.tm rfl) (S.cell (i := 0) rfl rfl)) rfl ?_; clear S; intro a S
      refine lv S (rn_add (S.tm rfl) (S.tm rfl)) rfl ?_; clear S; intro a S
      refine lv S (rn_bld bt_55 (pv := [(0, iV x4), (1, iV (W (x4 + y1.Long)))]) ⟨rfl, (S.tm rfl), rfl, (S.tm rfl), trivial⟩ (cs := [iV x4, iV (W (x4 + y1.Long))]) (by kernel_rfl)) rfl ?_; clear S; intro a S
      refine lv S (rn_bld bt_57 (pv := [(0, sV y1.Key), (1, iV x3), (2, .agg #[iV x4, iV (W (x4 + y1.Long))])]) ⟨rfl, (S.tm rfl), rfl, (S.tm rfl), rfl, (S.tm rfl), trivial⟩ (cs := [sV y1.Key, iV x3, iV x4, iV (W (x4 + y1.Long))]) (by kernel_rfl)) rfl ?_; clear S; intro a S
      refine l_buildSlice S Tryz.underlying33 Tryz.sizeOf57 Tryz.zeroValue57 rfl rfl (pv := [(0, .agg #[sV y1.Key, iV x3, iV x4, iV (W (x4 + y1.Long))])]) ⟨rfl, (S.tm rfl), trivial⟩ (cs := [sV y1.Key, iV x3, iV x4, iV (W (x4 + y1.Long))]) (by kernel_rfl) rfl ?_; clear S; intro a w11 b6 hz2 hk5 S
      obtain ⟨hc4, h⟩ := chkE h
      refine l_appendT sl_33 GSlot.enc_ok S (S.tm rfl) (i := 2) rfl (S.tm rfl) (j := 0) rfl (ys := [(GSlot.mk y1.Key x3 (GWindow.mk x4 (W (x4 + y1.Long))))]) rfl rfl rfl rfl (by have := room_lt hc4; omega) rfl ?_; clear S; intro v3 a w12 hk6 S
      refine lv S (rn_assign (S.tm rfl)) rfl ?_; clear S; intro a S
      refine l_done ?_
      replace S := S.nk [.blk b2 (GItem.enc y1) 69, .own v3 57 4 (x2 ++ [(GSlot.mk y1.Key x3 (GWindow.mk x4 (W (x4 + y1.Long))))]).length ((x2 ++ [(GSlot.mk y1.Key x3 (GWindow.mk x4 (W (x4 + y1.Long))))]).flatMap GSlot.enc)] [(0, v_p_l), (1, iV p_from), (5, v3), (6, iV (i1 : Int)), (7, .pointer (some ⟨b2, 0, none⟩)), (8, iV x3), (11, v_p_l), (12, iV (p_l.length : Int)), (13, iV (i1 : Int))] [false, true, true] rfl (subR rfl)
      refine blk_n (then_n (f_region (lv S (rn_move (S.tm rfl)) rfl ?_))); clear S; intro a S
      refine lv S (rn_add (S.tm rfl) rfl) rfl ?_; clear S; intro a S
      refine lv S (rn_assign (S.tm rfl)) rfl ?_; clear S; intro a S
      refine l_done (then_n ?_)
      exact ⟨m1, ⟨(x2 ++ [(GSlot.mk y1.Key x3 (GWindow.mk x4 (W (x4 + y1.Long))))]), W (x3 + 1), v3, h, S.nf [true, true] rfl ⟨rfl, rfl, rfl, rfl, rfl, rfl, rfl, rfl, rfl, trivial⟩⟩, Nat.lt_succ_self _⟩
     ·replace h := iteF h hb1
      refine wp_exit (then_x (then_x (x_same (then_n ?_))))
      exact ⟨x2, v2, h, S.nf [true, true] rfl (subR rfl)⟩
   clear S h; rintro a w6 ⟨x2, v2, h, S⟩; rw [hj2] at h; clear hj2 j2
   refine blk_n (then_n (f_region (lv S (rn_add (S.tm rfl) rfl) rfl ?_))); clear S; intro a S
   refine lv S (rn_move (S.tm rfl)) rfl ?_; clear S; intro a S
   refine l_done (then_n ?_)
   exact ⟨ys1, ⟨i1 + 1, x2, v2, ⟨_, (hd1).trans (List.append_cons _ _ _), by simp [hi1]⟩, h, S.nf [false, true] rfl ⟨rfl, rfl, rfl, rfl, rfl, (congrArg (fun z => some (Value.int .i64 z)) (rng_next hd1 hi1 (slc_max hs_p_l))), trivial⟩⟩, Nat.lt_succ_self _⟩
 clear S h; rintro a w2 ⟨x1, v1, h, S⟩; rw [hj1] at h; clear hj1 j1
 refine then_n (f_seq (f_region (lv S (rn_move (S.tm rfl)) rfl ?_))); clear S; intro a S
 refine lv S (rn_assign (S.tm rfl)) rfl ?_; clear S; intro a S
 refine l_done (then_n (wp_ret ?_))
 obtain rfl := Option.some.inj h
 exact f_ret S Tryz.results52 rfl (own_retT S (i := 0) rfl rfl)
theorem tumbref2_EndOf_ok (w : World) (v_p_l : Value) (p_l : List GItem) (hs_p_l : Slc (view w []) 5 v_p_l (p_l.map GItem.enc)) (p_from : Int) (r : Int) (h : tumbref2_EndOf p_l p_from = some r) :
    Calls Tryz.prog 50 [v_p_l, iV p_from].toArray w (Ret w [] fun _ v _ => v = iV r) := by
 refine f_enter [] [] Tryz.func50 rfl Tryz.ntmps50 rfl (by simp) (by simp [fps]) (by simp [fps]) fun a S => ?_
 unfold tumbref2_EndOf at h
 replace S := S.nk [] [(0, v_p_l), (1, iV p_from)] [] rfl (subR rfl)
 refine f_seq (f_region (lv S (rn_assign rfl) rfl ?_)); clear S; intro a S
 refine l_done (then_n (f_seq (f_seq (f_region (lv S (rn_move (S.tm rfl)) rfl ?_))))); clear S; intro a S
 refine lv S (rn_move (S.tm rfl)) rfl ?_; clear S; intro a S
 obtain ⟨r1, hr1, h⟩ := bindE h
 have hz1 := S.keep.size
 refine l_enter S (fun _ => run_call (vs := [v_p_l, iV p_from]) ⟨(S.tm rfl), (S.tm rfl), trivial⟩ Tryz.call52) (tumbref2_SlotsOf_ok _ v_p_l p_l (hs_p_l.mono (S.le_arg nil_sub)) p_from _ hr1) rfl ?_; clear S; intro v1 a w1 hv1 hk1 hn1 S
 obtain ⟨φ1, hl1, hm1, S⟩ := S.see' hn1 hz1
 have hs1 := hv1.mono hm1
 refine lv S (rn_lenT sl_33 (S.tm rfl) (slc_len (ownV_slcT GSlot.enc_ok hs1))) rfl ?_; clear S; intro a S
 refine lv S (rn_move rfl) rfl ?_; clear S; intro a S
 refine l_done (then_n ?_)
 replace S := S.nk [] [(1, iV p_from), (9, v1), (10, iV (r1.length : Int)), (11, iV 0)] [] rfl (subR rfl)
 obtain ⟨j1, hj1, h⟩ := joinE h
 refine f_join (fun a w' => ∃ x1 : Int, j1 x1 = some r ∧ Sx w [] φ1 [] [(1, iV x1)] 20 a w') ?_ ?_
 ·refine wp_block (f_loop (fun (ys1 : List GSlot) a w' => ∃ i1 : Nat, ∃ x1 : Int, (∃ dn, r1 = dn ++ ys1 ∧ dn.length = i1) ∧ tumbref2_EndOf_l1 j1 ys1 i1 x1 = some r ∧ Sx w [] φ1 [] [(1, iV x1), (9, v1), (10, iV (r1.length : Int)), (11, iV (i1 : Int))] 20 a w') List.length r1 ⟨0, p_from, ⟨[], rfl, rfl⟩, h, S.nf [] rfl (subR rfl)⟩ ?_)
  clear S h; rintro ys1 a w2 ⟨i1, x1, ⟨dn, hd1, hi1⟩, h, S⟩
  cases ys1 with
  | nil =>
   rw [tumbref2_EndOf_l1.eq_1] at h
   refine f_seq (f_region (lv S (rn_lss (S.tm rfl) (S.tm rfl)) rfl ?_)); clear S; intro a S
   refine l_done ?_
   replace S := S.nk [] [(1, iV x1), (9, v1), (10, iV (r1.length : Int)), (11, iV (i1 : Int)), (12, bV (decide ((i1 : Int) < (r1.length : Int))))] [] rfl (subR rfl)
   refine then_n (f_seq (wp_cond_false ((S.tm rfl).trans (congrArg Value.bool (rng_nil hd1 hi1))) (wp_exit (then_x (then_x (x_same ?_))))))
   refine then_n ?_
   exact ⟨x1, h, S.nf [] rfl ⟨rfl, trivial⟩⟩
  | cons y1 ys1 =>
   rw [tumbref2_EndOf_l1.eq_2] at h
   refine f_seq (f_region (lv S (rn_lss (S.tm rfl) (S.tm rfl)) rfl ?_)); clear S; intro a S
   refine l_done ?_
   replace S := S.nk [] [(1, iV x1), (9, v1), (10, iV (r1.length : Int)), (11, iV (i1 : Int)), (12, bV (decide ((i1 : Int) < (r1.length : Int))))] [] rfl (subR rfl)
   refine then_n (f_seq (wp_cond_true ((S.tm rfl).trans (congrArg Value.bool (rng_cons hd1 hi1))) (wp_skip (then_n (f_seq (wp_block ?_))))))
   refine f_seq (f_region ?_)
   obtain ⟨b1, o1, hm2, hr2⟩ := rn_indexT (a := a) (x := .tmp 9) (y := .tmp 11) (ty := 0) sl_33 (ownV_slcT GSlot.enc_ok hs1) (get_mid hd1 hi1) rfl (S.tm rfl) (S.tm rfl)
   refine lv S (hr2 _) rfl ?_; clear S; intro a S
   clear hr2
   refine lv S (rn_ldA Tryz.isAgg57 Tryz.sizeOf57 (off := o1) (o := 0) (part := (GSlot.enc y1)) rfl rfl (S.tm rfl) (hm2.at S.emb)) rfl ?_; clear S; intro a S
   refine l_alloc S Tryz.zeroValue57 (cs := [sV k_empty, iV 0, iV 0, iV 0]) rfl rfl ?_; clear S; intro a w4 b2 hz2 hk2 S
   refine l_store S (S.tm rfl) (S.tm rfl) (i := 0) (off := 0) rfl Tryz.sizeOf57 (vs := (GSlot.enc y1)) rfl rfl rfl rfl ?_; clear S; intro w5 hk3 S
   refine l_done (then_n (f_region (lv S (rn_fld fa_57_2 (S.tm rfl)) rfl ?_))); clear S; intro a S
   refine lv S (rn_fld fa_55_1 (S.tm rfl)) rfl ?_; clear S; intro a S
   refine lv S (rn_load Tryz.isAgg3 (S.tm rfl) (S.cell (i := 0) rfl rfl)) rfl ?_; clear S; intro a S
   refine lv S (rn_assign (S.tm rfl)) rfl ?_; clear S; intro a S
   refine l_done (blk_n (then_n (f_region (lv S (rn_add (S.tm rfl) rfl) rfl ?_)))); clear S; intro a S
   refine lv S (rn_move (S.tm rfl)) rfl ?_; clear S; intro a S
   refine l_done (then_n ?_)
   exact ⟨ys1, ⟨i1 + 1, y1.Time.To, ⟨_, (hd1).trans (List.append_cons _ _ _), by simp [hi1]⟩, h, S.nf [false] rfl ⟨rfl, rfl, rfl, (congrArg (fun z => some (Value.int .i64 z)) (rng_next hd1 hi1 (slc_max (ownV_slcT GSlot.enc_ok hs1)))), trivial⟩⟩, Nat.lt_succ_self _⟩
 clear S h; rintro a w3 ⟨x1, h, S⟩; rw [hj1] at h; clear hj1 j1
 refine then_n (f_seq (f_region (lv S (rn_move (S.tm rfl)) rfl ?_))); clear S; intro a S
 refine lv S (rn_assign (S.tm rfl)) rfl ?_; clear S; intro a S
 refine l_done (then_n (wp_ret ?_))
 obtain rfl := Option.some.inj h
 exact f_ret S Tryz.results50 rfl rfl
theorem tumbref2_FromFault_ok (w : World) (v_p_l : Value) (p_l : List GItem) (hs_p_l : Slc (view w []) 5 v_p_l (p_l.map GItem.enc)) (p_from : Int) (r : Int) (h : tumbref2_FromFault p_l p_from = some r) :
    Calls Tryz.prog 14 [v_p_l, iV p_from].toArray w (Ret w [] fun _ v _ => v = iV r) := by
 refine f_enter [] [] Tryz.func14 rfl Tryz.ntmps14 rfl (by simp) (by simp [fps]) (by simp [fps]) fun a S => ?_
 unfold tumbref2_FromFault at h
 replace S := S.nk [] [(0, v_p_l), (1, iV p_from)] [] rfl (subR rfl)
 refine f_seq (f_region (lv S (rn_assign rfl) rfl ?_)); clear S; intro a S
 refine l_done (then_n (f_seq (f_seq (f_region (lv S (rn_move (S.tm rfl)) rfl ?_))))); clear S; intro a S
 refine l_enter S (fun _ => run_call (vs := [iV p_from]) ⟨(S.tm rfl), trivial⟩ Tryz.call49) (tumbref2_Moment_ok _ p_from _ rfl) rfl ?_; clear S; intro v1 a w1 hv1 hk1 hn1 S
 subst hv1
 refine lv S (rn_not (S.tm rfl)) rfl ?_; clear S; intro a S
 refine lv S (rn_move (S.tm rfl)) rfl ?_; clear S; intro a S
 obtain ⟨j1, hj1, h⟩ := joinE h
 refine f_cutm 5 (fun a w' => ∃ c1, j1 c1 = some r ∧ Keep [] w1 w' ∧ Sx w [] nov [] [(13, bV c1)] 14 a w') ?_ ?_
 ·rcases Bool.eq_false_or_eq_true (!(tumbref2_Moment p_from)) with hb1 | hb1
  ·replace h := iteT h hb1
   iterate 4 (refine l_skip S rfl rfl rfl (neq_t hb1) rfl ?_ rfl; clear S; intro a S)
   refine lv S (rn_or_t true hb1 (S.tm rfl) rfl) rfl ?_; clear S; intro a S
   refine l_done (then_n ?_)
   exact ⟨_, h, Keep.refl _ _, S.nf [] rfl ⟨rfl, trivial⟩⟩
  ·replace h := iteF h hb1
   refine l_want S rfl rfl rfl hb1 (lv S (rn_move (S.tm rfl)) rfl ?_); clear S; intro a S
   refine l_want S rfl rfl rfl hb1 (lv S (rn_move (S.tm rfl)) rfl ?_); clear S; intro a S
   refine l_want S rfl rfl rfl hb1 ?_
   obtain ⟨r1, hr1, h⟩ := bindE h
   refine l_enter S (fun _ => run_call (vs := [v_p_l, iV p_from]) ⟨(S.tm rfl), (S.tm rfl), trivial⟩ Tryz.call50) (tumbref2_EndOf_ok _ v_p_l p_l (hs_p_l.mono (S.le_arg nil_sub)) p_from _ hr1) rfl ?_; clear S; intro v2 a w3 hv2 hk2 hn2 S
   subst hv2
   refine l_want S rfl rfl rfl hb1 (lv S (rn_gtr (S.tm rfl) rfl) rfl ?_); clear S; intro a S
   refine lv S (rn_or_f hb1 (S.tm rfl) (S.tm rfl)) rfl ?_; clear S; intro a S
   refine l_done (then_n ?_)
   exact ⟨_, h, hk2, S.nf [] rfl ⟨rfl, trivial⟩⟩
 clear S h; rintro a w2 ⟨c1, h, hk3, S⟩; rw [hj1] at h; clear hj1 j1
 refine l_done (then_n (f_cond (S.tm rfl) (fun hb2 => ?_) (fun hb2 => ?_)))
 ·replace h := iteT h hb2
  refine f_seq (f_region (lv S (rn_assign rfl) rfl ?_)); clear S; intro a S
  refine l_done (then_n (wp_ret (then_r ?_)))
  obtain rfl := Option.some.inj h
  exact f_ret S Tryz.results14 rfl rfl
 ·replace h := iteF h hb2
  refine wp_skip (then_n (f_seq (f_region (lv S (rn_assign rfl) rfl ?_)))); clear S; intro a S
  refine l_done (then_n (wp_ret ?_))
  obtain rfl := Option.some.inj h
  exact f_ret S Tryz.results14 rfl rfl
theorem tumblaw2_when_ok (w : World) (p_is : Bool) (p_e : Int) (r : Int) (h : tumblaw2_when p_is p_e = r) :
    Calls Tryz.prog 17 [bV p_is, iV p_e].toArray w (Ret w [] fun _ v _ => v = iV r) := by
 refine f_enter [] [] Tryz.func17 rfl Tryz.ntmps17 rfl (by simp) (by simp [fps]) (by simp [fps]) fun a S => ?_
 unfold tumblaw2_when at h
 replace S := S.nk [] [(0, bV p_is), (1, iV p_e)] [] rfl (subR rfl)
 refine f_seq (f_region (lv S (rn_assign rfl) rfl ?_)); clear S; intro a S
 refine l_done (then_n (f_seq (f_seq (f_region (lv S (rn_move (S.tm rfl)) rfl ?_))))); clear S; intro a S
 refine l_done (then_n (f_cond (S.tm rfl) (fun hb1 => ?_) (fun hb1 => ?_)))
 ·replace h := iteT h hb1
  refine f_seq (f_region (lv S (rn_move (S.tm rfl)) rfl ?_)); clear S; intro a S
  refine lv S (rn_assign (S.tm rfl)) rfl ?_; clear S; intro a S
  refine l_done (then_n (wp_ret (then_r ?_)))
  subst h
  exact f_ret S Tryz.results17 rfl rfl
 ·replace h := iteF h hb1
  refine wp_skip (then_n (f_seq (f_region (lv S (rn_assign rfl) rfl ?_)))); clear S; intro a S
  refine l_done (then_n (wp_ret ?_))
  subst h
  exact f_ret S Tryz.results17 rfl rfl
theorem tumblaw2_nameFault_ok (w : World) (p_s : ByteArray) (r : Int) (h : tumblaw2_nameFault p_s = some r) :
    Calls Tryz.prog 16 [sV p_s].toArray w (Ret w [] fun _ v _ => v = iV r) := by
 refine f_enter [] [] Tryz.func16 rfl Tryz.ntmps16 rfl (by simp) (by simp [fps]) (by simp [fps]) fun a S => ?_
 unfold tumblaw2_nameFault at h
 replace S := S.nk [] [(0, sV p_s)] [] rfl ⟨rfl, trivial⟩
 refine f_seq (f_region (lv S (rn_assign rfl) rfl ?_)); clear S; intro a S
 refine l_done (then_n (f_seq (f_region (lv S (rn_move (S.tm rfl)) rfl ?_)))); clear S; intro a S
 obtain ⟨r1, hr1, h⟩ := bindE h
 refine l_enter S (fun _ => run_call (vs := [sV p_s]) ⟨(S.tm rfl), trivial⟩ Tryz.call46) (tumbref2_Key_ok _ p_s _ hr1) rfl ?_; clear S; intro v1 a w1 hv1 hk1 hn1 S
 subst hv1
 refine lv S (rn_not (S.tm rfl)) rfl ?_; clear S; intro a S
 refine l_enter S (fun _ => run_call (vs := [bV (!r1), iV 5]) ⟨(S.tm rfl), rfl, trivial⟩ Tryz.call17) (tumblaw2_when_ok _ (!r1) 5 _ rfl) rfl ?_; clear S; intro v2 a w2 hv2 hk2 hn2 S
 subst hv2
 refine lv S (rn_assign (S.tm rfl)) rfl ?_; clear S; intro a S
 refine l_done (then_n (wp_ret ?_))
 obtain rfl := Option.some.inj h
 exact f_ret S Tryz.results16 rfl rfl
theorem tumblaw2_errs_ok (w : World) (v_p_l : Value) (p_l : List Int) (hs_p_l : Slc (view w []) 1 v_p_l (p_l.map eInt)) (r : Int) (h : tumblaw2_errs p_l = r) :
    Calls Tryz.prog 15 [v_p_l].toArray w (Ret w [] fun _ v _ => v = iV r) := by
 refine f_enter [] [] Tryz.func15 rfl Tryz.ntmps15 rfl (by simp) (by simp [fps]) (by simp [fps]) fun a S => ?_
 unfold tumblaw2_errs at h
 replace S := S.nk [] [(0, v_p_l)] [] rfl ⟨rfl, trivial⟩
 refine f_seq (f_region (lv S (rn_assign rfl) rfl ?_)); clear S; intro a S
 refine l_done (then_n (f_seq (f_seq (f_region (lv S (rn_move (S.tm rfl)) rfl ?_))))); clear S; intro a S
 refine lv S (rn_lenT sl_93 (S.tm rfl) (slc_len hs_p_l)) rfl ?_; clear S; intro a S
 refine lv S (rn_move rfl) rfl ?_; clear S; intro a S
 refine l_done (then_n ?_)
 replace S := S.nk [] [(5, v_p_l), (6, iV (p_l.length : Int)), (7, iV 0)] [] rfl (subR rfl)
 obtain ⟨j1, hj1, h⟩ := joinE h
 refine f_join (fun a w' => j1 = r ∧ Sx w [] nov [] [] 15 a w') ?_ ?_
 ·refine wp_block (f_loop (fun (ys1 : List Int) a w' => ∃ i1 : Nat, (∃ dn, p_l = dn ++ ys1 ∧ dn.length = i1) ∧ tumblaw2_errs_l1 j1 ys1 i1 = r ∧ Sx w [] nov [] [(5, v_p_l), (6, iV (p_l.length : Int)), (7, iV (i1 : Int))] 15 a w') List.length p_l ⟨0, ⟨[], rfl, rfl⟩, h, S.nf [] rfl (subR rfl)⟩ ?_)
  clear S h; rintro ys1 a w1 ⟨i1, ⟨dn, hd1, hi1⟩, h, S⟩
  cases ys1 with
  | nil =>
   rw [tumblaw2_errs_l1.eq_1] at h
   refine f_seq (f_region (lv S (rn_lss (S.tm rfl) (S.tm rfl)) rfl ?_)); clear S; intro a S
   refine l_done ?_
   replace S := S.nk [] [(5, v_p_l), (6, iV (p_l.length : Int)), (7, iV (i1 : Int)), (8, bV (decide ((i1 : Int) < (p_l.length : Int))))] [] rfl (subR rfl)
   refine then_n (f_seq (wp_cond_false ((S.tm rfl).trans (congrArg Value.bool (rng_nil hd1 hi1))) (wp_exit (then_x (then_x (x_same ?_))))))
   refine then_n ?_
   exact ⟨h, S.nf [] rfl trivial⟩
  | cons y1 ys1 =>
   rw [tumblaw2_errs_l1.eq_2] at h
   refine f_seq (f_region (lv S (rn_lss (S.tm rfl) (S.tm rfl)) rfl ?_)); clear S; intro a S
   refine l_done ?_
   replace S := S.nk [] [(5, v_p_l), (6, iV (p_l.length : Int)), (7, iV (i1 : Int)), (8, bV (decide ((i1 : Int) < (p_l.length : Int))))] [] rfl (subR rfl)
   refine then_n (f_seq (wp_cond_true ((S.tm rfl).trans (congrArg Value.bool (rng_cons hd1 hi1))) (wp_skip (then_n (f_seq (wp_block ?_))))))
   refine f_seq (f_region ?_)
   obtain ⟨b1, o1, hm1, hr1⟩ := rn_indexT (a := a) (x := .tmp 5) (y := .tmp 7) (ty := 0) sl_93 hs_p_l (get_mid hd1 hi1) rfl (S.tm rfl) (S.tm rfl)
   refine lv S (hr1 _) rfl ?_; clear S; intro a S
   clear hr1
   refine lv S (rn_ld Tryz.isAgg34 (off := o1) (o := 0) (S.tm rfl) (hm1.at S.emb0) rfl) rfl ?_; clear S; intro a S
   refine lv S (rn_assign (S.tm rfl)) rfl ?_; clear S; intro a S
   refine l_done (then_n (f_seq (f_region (lv S (rn_move (S.tm rfl)) rfl ?_)))); clear S; intro a S
   refine lv S (rn_neq (S.tm rfl) rfl) rfl ?_; clear S; intro a S
   refine l_done (then_n (f_cond (S.tm rfl) (fun hb1 => ?_) (fun hb1 => ?_)))
   ·replace h := iteT h hb1
    refine f_seq (f_region (lv S (rn_move (S.tm rfl)) rfl ?_)); clear S; intro a S
    refine lv S (rn_assign (S.tm rfl)) rfl ?_; clear S; intro a S
    refine l_done (then_n (wp_ret (blk_r (then_r (then_r (blk_r ?_))))))
    refine then_r (then_r ?_)
    subst h
    exact f_ret S Tryz.results15 rfl rfl
   ·replace h := iteF h hb1
    refine wp_skip (blk_n (then_n (f_region (lv S (rn_add (S.tm rfl) rfl) rfl ?_)))); clear S; intro a S
    refine lv S (rn_move (S.tm rfl)) rfl ?_; clear S; intro a S
    refine l_done (then_n ?_)
    exact ⟨ys1, ⟨i1 + 1, ⟨_, (hd1).trans (List.append_cons _ _ _), by simp [hi1]⟩, h, S.nf [] rfl ⟨rfl, rfl, (congrArg (fun z => some (Value.int .i64 z)) (rng_next hd1 hi1 (slc_max hs_p_l))), trivial⟩⟩, Nat.lt_succ_self _⟩
 clear S h; rintro a w2 ⟨h, S⟩; rw [hj1] at h; clear hj1 j1
 refine then_n (f_seq (f_region (lv S (rn_assign rfl) rfl ?_))); clear S; intro a S
 refine l_done (then_n (wp_ret ?_))
 subst h
 exact f_ret S Tryz.results15 rfl rfl
set_option maxRecDepth 20000 in
theorem slices_Index_Call_ok (w : World) (v_p_s : Value) (p_s : List GCall) (hs_p_s : Slc (view w []) 3 v_p_s (p_s.map GCall.enc)) (p_v : GCall) (r : Int) (h : slices_Index_Call p_s p_v = r) :
    Calls Tryz.prog 85 [v_p_s, .agg (GCall.enc p_v).toArray].toArray w (Ret w [] fun _ v _ => v = iV r) := by
 refine f_enter [] [] Tryz.func85 rfl Tryz.ntmps85 rfl (by simp) (by simp [fps]) (by simp [fps]) fun a S => ?_
 unfold slices_Index_Call at h
 replace S := S.nk [] [(0, v_p_s), (1, .agg (GCall.enc p_v).toArray)] [] rfl (subR rfl)
 refine f_seq (f_region (l_box S (S.tm rfl) (cs := (GCall.enc p_v)) rfl rfl ?_)); clear S; intro a w1 b1 hz1 hk1 S
 refine lv S (rn_assign rfl) rfl ?_; clear S; intro a S
 refine l_done (then_n (f_seq (f_seq (f_region (lv S (rn_move (S.tm rfl)) rfl ?_))))); clear S; intro a S
 refine lv S (rn_lenT sl_30 (S.tm rfl) (slc_len hs_p_s)) rfl ?_; clear S; intro a S
 refine lv S (rn_move rfl) rfl ?_; clear S; intro a S
 refine l_done (then_n ?_)
 replace S := S.nk [.blk b1 (GCall.enc p_v) 74] [(0, v_p_s), (3, .pointer (some ⟨b1, 0, none⟩)), (7, iV (p_s.length : Int)), (8, iV 0)] [true] rfl (subR rfl)
 obtain ⟨j1, hj1, h⟩ := joinE h
 refine f_join (fun a w' => j1 = r ∧ Sx w [] nov [.blk b1 (GCall.enc p_v) 74] [] 19 a w') ?_ ?_
 ·refine wp_block (f_loop (fun (ys1 : List GCall) a w' => ∃ i1 : Nat, (∃ dn, p_s = dn ++ ys1 ∧ dn.length = i1) ∧ slices_Index_Call_l1 p_v j1 ys1 i1 = r ∧ Sx w [] nov [.blk b1 (GCall.enc p_v) 74] [(0, v_p_s), (3, .pointer (some ⟨b1, 0, none⟩)), (7, iV (p_s.length : Int)), (8, iV (i1 : Int))] 19 a w') List.length p_s ⟨0, ⟨[], rfl, rfl⟩, h, S.nf [true] rfl (subR rfl)⟩ ?_)
  clear S h; rintro ys1 a w2 ⟨i1, ⟨dn, hd1, hi1⟩, h, S⟩
  cases ys1 with
  | nil =>
   rw [slices_Index_Call_l1.eq_1] at h
   refine f_seq (f_region (lv S (rn_lss (S.tm rfl) (S.tm rfl)) rfl ?_)); clear S; intro a S
   refine l_done ?_
   replace S := S.nk [.blk b1 (GCall.enc p_v) 74] [(0, v_p_s), (3, .pointer (some ⟨b1, 0, none⟩)), (7, iV (p_s.length : Int)), (8, iV (i1 : Int)), (9, bV (decide ((i1 : Int) < (p_s.length : Int))))] [true] rfl (subR rfl)
   refine then_n (f_seq (wp_cond_false ((S.tm rfl).trans (congrArg Value.bool (rng_nil hd1 hi1))) (wp_exit (then_x (then_x (x_same ?_))))))
   refine then_n ?_
   exact ⟨h, S.nf [true] rfl trivial⟩
  | cons y1 ys1 =>
   rw [slices_Index_Call_l1.eq_2] at h
   refine f_seq (f_region (lv S (rn_lss (S.tm rfl) (S.tm rfl)) rfl ?_)); clear S; intro a S
   refine l_done ?_
   replace S := S.nk [.blk b1 (GCall.enc p_v) 74] [(0, v_p_s), (3, .pointer (some ⟨b1, 0, none⟩)), (7, iV (p_s.length : Int)), (8, iV (i1 : Int)), (9, bV (decide ((i1 : Int) < (p_s.length : Int))))] [true] rfl (subR rfl)
   refine then_n (f_seq (wp_cond_true ((S.tm rfl).trans (congrArg Value.bool (rng_cons hd1 hi1))) (wp_skip (then_n (f_seq (wp_block ?_))))))
   refine f_seq (f_region (lv S (rn_move (S.tm rfl)) rfl ?_)); clear S; intro a S
   refine lv S (rn_assign (S.tm rfl)) rfl ?_; clear S; intro a S
   refine l_done (then_n (f_seq (d_region [] ([]) Tryz.mixed S rfl (by kernel_rfl) ?_))); clear S; intro w4 hk2 hsel S
   refine d_rest [0, 1, 2, 3, 4, 5] hsel (by kernel_rfl) rfl ?_
   clear hsel
   refine s_lv S rfl (rn_ldA Tryz.isAgg74 Tryz.sizeOf74 (off := 0) (o := 0) (part := (GCall.enc p_v)) rfl rfl (S.tm rfl) (S.cellsAt (i := 0) rfl)) rfl ?_; clear S; intro a S
   refine s_lv S rfl (rn_move (S.tm rfl)) rfl ?_; clear S; intro a S
   refine s_lv S rfl (rn_move (S.tm rfl)) rfl ?_; clear S; intro a S
   obtain ⟨b2, o1, hm1, hr1⟩ := rn_indexT (a := a) (x := .tmp 12) (y := .tmp 13) (ty := 0) sl_30 hs_p_s (get_mid hd1 hi1) rfl (S.tm rfl) (S.tm rfl)
   refine s_lv S rfl (hr1 _) rfl ?_; clear S; intro a S
   clear hr1
   refine s_lv S rfl (rn_ldA Tryz.isAgg74 Tryz.sizeOf74 (off := o1) (o := 0) (part := (GCall.enc y1)) rfl rfl (S.tm rfl) (hm1.at S.emb0)) rfl ?_; clear S; intro a S
   refine s_lv S rfl (rn_eql_74 (m := p_v) (n := y1) (S.tm rfl) (S.tm rfl)) rfl ?_; clear S; intro a S
   refine s_done ?_
   replace S := S.nk [.blk b1 (GCall.enc p_v) 74] [(0, v_p_s), (3, .pointer (some ⟨b1, 0, none⟩)), (5, iV (i1 : Int)), (7, iV (p_s.length : Int)), (8, iV (i1 : Int)), (16, bV (decide (p_v = y1)))] [true] rfl (subR rfl)
   refine then_n (f_cond (S.tm rfl) (fun hb1 => ?_) (fun hb1 => ?_))
   ·replace h := iteT h hb1
    refine f_seq (f_region (lv S (rn_move (S.tm rfl)) rfl ?_)); clear S; intro a S
    refine lv S (rn_assign (S.tm rfl)) rfl ?_; clear S; intro a S
    refine l_done (then_n (wp_ret (blk_r (then_r (then_r (blk_r ?_))))))
    refine then_r (then_r ?_)
    subst h
    exact f_ret S Tryz.results85 rfl rfl
   ·replace h := iteF h hb1
    refine wp_skip (blk_n (then_n (f_region (lv S (rn_add (S.tm rfl) rfl) rfl ?_)))); clear S; intro a S
    refine lv S (rn_move (S.tm rfl)) rfl ?_; clear S; intro a S
    refine l_done (then_n ?_)
    exact ⟨ys1, ⟨i1 + 1, ⟨_, (hd1).trans (List.append_cons _ _ _), by simp [hi1]⟩, h, S.nf [true] rfl ⟨rfl, rfl, rfl, (congrArg (fun z => some (Value.int .i64 z)) (rng_next hd1 hi1 (slc_max hs_p_s))), trivial⟩⟩, Nat.lt_succ_self _⟩
 clear S h; rintro a w3 ⟨h, S⟩; rw [hj1] at h; clear hj1 j1
 refine then_n (f_seq (f_region (lv S (rn_assign rfl) rfl ?_))); clear S; intro a S
 refine l_done (then_n (wp_ret ?_))
 subst h
 exact f_ret S Tryz.results85 rfl rfl
theorem slices_Contains_Call_ok (w : World) (v_p_s : Value) (p_s : List GCall) (hs_p_s : Slc (view w []) 3 v_p_s (p_s.map GCall.enc)) (p_v : GCall) (r : Bool) (h : slices_Contains_Call p_s p_v = r) :
    Calls Tryz.prog 54 [v_p_s, .agg (GCall.enc p_v).toArray].toArray w (Ret w [] fun _ v _ => v = bV r) := by
 refine f_enter [] [] Tryz.func54 rfl Tryz.ntmps54 rfl (by simp) (by simp [fps]) (by simp [fps]) fun a S => ?_
 unfold slices_Contains_Call at h
 replace S := S.nk [] [(0, v_p_s), (1, .agg (GCall.enc p_v).toArray)] [] rfl (subR rfl)
 refine f_seq (f_region (l_box S (S.tm rfl) (cs := (GCall.enc p_v)) rfl rfl ?_)); clear S; intro a w1 b1 hz1 hk1 S
 refine lv S (rn_assign rfl) rfl ?_; clear S; intro a S
 refine l_done (then_n (f_seq (f_region (lv S (rn_move (S.tm rfl)) rfl ?_)))); clear S; intro a S
 refine lv S (rn_ldA Tryz.isAgg74 Tryz.sizeOf74 (off := 0) (o := 0) (part := (GCall.enc p_v)) rfl rfl (S.tm rfl) (S.cellsAt (i := 0) rfl)) rfl ?_; clear S; intro a S
 refine l_enter S (fun _ => run_call (vs := [v_p_s, .agg (GCall.enc p_v).toArray]) ⟨(S.tm rfl), (S.tm rfl), trivial⟩ Tryz.call85) (slices_Index_Call_ok _ v_p_s p_s (hs_p_s.mono (S.le_arg nil_sub)) p_v _ rfl) rfl ?_; clear S; intro v1 a w2 hv1 hk2 hn1 S
 subst hv1
 refine lv S (rn_geq (S.tm rfl) rfl) rfl ?_; clear S; intro a S
 refine lv S (rn_assign (S.tm rfl)) rfl ?_; clear S; intro a S
 refine l_done (then_n (wp_ret ?_))
 subst h
 exact f_ret S Tryz.results54 rfl rfl
theorem tumbref2_CallsOf_c1_ok (w : World) (p_s : GSlot) (b_p_a1 : Nat) (v_p_a1 : Value) (p_a1 : List GCall) (hs_p_a1 : Slc (view w []) 3 v_p_a1 (p_a1.map GCall.enc)) (hb_b_p_a1 : (view w []) b_p_a1 = some (.cells [v_p_a1].toArray 30 (0, 0))) (b_p_a2 : Nat) (p_a2 : ByteArray) (hb_b_p_a2 : (view w []) b_p_a2 = some (.cells [sV p_a2].toArray 9 (0, 0))) (r : Bool) (h : tumbref2_CallsOf_c1 p_s p_a1 p_a2 = r) :
    Calls Tryz.prog 53 [.agg (GSlot.enc p_s).toArray, .pointer (some ⟨b_p_a1, 0, none⟩), .pointer (some ⟨b_p_a2, 0, none⟩)].toArray w (Ret w [] fun _ v _ => v = bV r) := by
 refine f_enter [] [] Tryz.func53 rfl Tryz.ntmps53 rfl (by simp) (by simp [fps]) (by simp [fps]) fun a S => ?_
 unfold tumbref2_CallsOf_c1 at h
 replace S := S.nk [] [(0, .agg (GSlot.enc p_s).toArray), (1, .pointer (some ⟨b_p_a1, 0, none⟩)), (2, .pointer (some ⟨b_p_a2, 0, none⟩))] [] rfl (subR rfl)
 refine f_seq (f_region (l_box S (S.tm rfl) (cs := (GSlot.enc p_s)) rfl rfl ?_)); clear S; intro a w1 b1 hz1 hk1 S
 refine lv S (rn_assign rfl) rfl ?_; clear S; intro a S
 refine l_done (then_n (f_seq (f_region (lv S (rn_ld Tryz.isAgg30 (off := 0) (o := 0) (S.tm rfl) ((mem_blk hb_b_p_a1).at S.emb0) rfl) rfl ?_)))); clear S; intro a S
 refine lv S (rn_ld Tryz.isAgg9 (off := 0) (o := 0) (S.tm rfl) ((mem_blk hb_b_p_a2).at S.emb0) rfl) rfl ?_; clear S; intro a S
 refine lv S (rn_fld fa_57_0 (S.tm rfl)) rfl ?_; clear S; intro a S
 refine lv S (rn_load Tryz.isAgg9 (S.tm rfl) (S.cell (i := 0) rfl rfl)) rfl ?_; clear S; intro a S
 refine lv S (rn_fld fa_57_1 (S.tm rfl)) rfl ?_; clear S; intro a S
 refine lv S (rn_load Tryz.isAgg3 (S.tm rfl) (S.cell (i := 0) rfl rfl)) rfl ?_; clear S; intro a S
 refine lv S (rn_bld bt_74 (pv := [(0, sV p_a2), (1, sV p_s.Item), (2, iV p_s.Heat)]) ⟨rfl, (S.tm rfl), rfl, (S.tm rfl), rfl, (S.tm rfl), trivial⟩ (cs := [sV p_a2, sV p_s.Item, iV p_s.Heat]) (by kernel_rfl)) rfl ?_; clear S; intro a S
 refine l_enter S (fun _ => run_call (vs := [v_p_a1, .agg (GCall.enc (GCall.mk p_a2 p_s.Item p_s.Heat)).toArray]) ⟨(S.tm rfl), (S.tm rfl), trivial⟩ Tryz.call54) (slices_Contains_Call_ok _ v_p_a1 p_a1 (hs_p_a1.mono (S.le_arg nil_sub)) (GCall.mk p_a2 p_s.Item p_s.Heat) _ rfl) rfl ?_; clear S; intro v1 a w2 hv1 hk2 hn1 S
 subst hv1
 refine lv S (rn_not (S.tm rfl)) rfl ?_; clear S; intro a S
 refine lv S (rn_assign (S.tm rfl)) rfl ?_; clear S; intro a S
 refine l_done (then_n (wp_ret ?_))
 subst h
 exact f_ret S Tryz.results53 rfl rfl
theorem slices_IndexFunc_Slot_tumbref2_CallsOf_c1_ok (w : World) (v_p_s : Value) (p_s : List GSlot) (hs_p_s : Slc (view w []) 4 v_p_s (p_s.map GSlot.enc)) (b_p_f_0 : Nat) (v_p_f_0 : Value) (p_f_0 : List GCall) (hs_p_f_0 : Slc (view w []) 3 v_p_f_0 (p_f_0.map GCall.enc)) (hb_b_p_f_0 : (view w []) b_p_f_0 = some (.cells [v_p_f_0].toArray 30 (0, 0))) (b_p_f_1 : Nat) (p_f_1 : ByteArray) (hb_b_p_f_1 : (view w []) b_p_f_1 = some (.cells [sV p_f_1].toArray 9 (0, 0))) (r : Int) (h : slices_IndexFunc_Slot_tumbref2_CallsOf_c1 p_s p_f_0 p_f_1 = r) :
    Calls Tryz.prog 84 [v_p_s, .func (.func 53) #[] #[.pointer (some ⟨b_p_f_0, 0, none⟩), .pointer (some ⟨b_p_f_1, 0, none⟩)]].toArray w (Ret w [] fun _ v _ => v = iV r) := by
 refine f_enter [] [] Tryz.func84 rfl Tryz.ntmps84 rfl (by simp) (by simp [fps]) (by simp [fps]) fun a S => ?_
 unfold slices_IndexFunc_Slot_tumbref2_CallsOf_c1 at h
 replace S := S.nk [] [(0, v_p_s), (1, .func (.func 53) #[] #[.pointer (some ⟨b_p_f_0, 0, none⟩), .pointer (some ⟨b_p_f_1, 0, none⟩)])] [] rfl (subR rfl)
 refine f_seq (f_region (lv S (rn_assign rfl) rfl ?_)); clear S; intro a S
 refine l_done (then_n (f_seq (f_seq (f_region (lv S (rn_move (S.tm rfl)) rfl ?_))))); clear S; intro a S
 refine lv S (rn_lenT sl_33 (S.tm rfl) (slc_len hs_p_s)) rfl ?_; clear S; intro a S
 refine lv S (rn_move rfl) rfl ?_; clear S; intro a S
 refine l_done (then_n ?_)
 replace S := S.nk [] [(0, v_p_s), (1, .func (.func 53) #[] #[.pointer (some ⟨b_p_f_0, 0, none⟩), .pointer (some ⟨b_p_f_1, 0, none⟩)]), (7, iV (p_s.length : Int)), (8, iV 0)] [] rfl (subR rfl)
 obtain ⟨j1, hj1, h⟩ := joinE h
 refine f_join (fun a w' => j1 = r ∧ Sx w [] nov [] [] 19 a w') ?_ ?_
 ·refine wp_block (f_loop (fun (ys1 : List GSlot) a w' => ∃ i1 : Nat, (∃ dn, p_s = dn ++ ys1 ∧ dn.length = i1) ∧ slices_IndexFunc_Slot_tumbref2_CallsOf_c1_l1 p_f_0 p_f_1 j1 ys1 i1 = r ∧ Sx w [] nov [] [(0, v_p_s), (1, .func (.func 53) #[] #[.pointer (some ⟨b_p_f_0, 0, none⟩), .pointer (some ⟨b_p_f_1, 0, none⟩)]), (7, iV (p_s.length : Int)), (8, iV (i1 : Int))] 19 a w') List.length p_s ⟨0, ⟨[], rfl, rfl⟩, h, S.nf [] rfl (subR rfl)⟩ ?_)
  clear S h; rintro ys1 a w1 ⟨i1, ⟨dn, hd1, hi1⟩, h, S⟩
  cases ys1 with
  | nil =>
   rw [slices_IndexFunc_Slot_tumbref2_CallsOf_c1_l1.eq_1] at h
   refine f_seq (f_region (lv S (rn_lss (S.tm rfl) (S.tm rfl)) rfl ?_)); clear S; intro a S
   refine l_done ?_
   replace S := S.nk [] [(0, v_p_s), (1, .func (.func 53) #[] #[.pointer (some ⟨b_p_f_0, 0, none⟩), .pointer (some ⟨b_p_f_1, 0, none⟩)]), (7, iV (p_s.length : Int)), (8, iV (i1 : Int)), (9, bV (decide ((i1 : Int) < (p_s.length : Int))))] [] rfl (subR rfl)
   refine then_n (f_seq (wp_cond_false ((S.tm rfl).trans (congrArg Value.bool (rng_nil hd1 hi1))) (wp_exit (then_x (then_x (x_same ?_))))))
   refine then_n ?_
   exact ⟨h, S.nf [] rfl trivial⟩
  | cons y1 ys1 =>
   rw [slices_IndexFunc_Slot_tumbref2_CallsOf_c1_l1.eq_2] at h
   refine f_seq (f_region (lv S (rn_lss (S.tm rfl) (S.tm rfl)) rfl ?_)); clear S; intro a S
   refine l_done ?_
   replace S := S.nk [] [(0, v_p_s), (1, .func (.func 53) #[] #[.pointer (some ⟨b_p_f_0, 0, none⟩), .pointer (some ⟨b_p_f_1, 0, none⟩)]), (7, iV (p_s.length : Int)), (8, iV (i1 : Int)), (9, bV (decide ((i1 : Int) < (p_s.length : Int))))] [] rfl (subR rfl)
   refine then_n (f_seq (wp_cond_true ((S.tm rfl).trans (congrArg Value.bool (rng_cons hd1 hi1))) (wp_skip (then_n (f_seq (wp_block ?_))))))
   refine f_seq (f_region (lv S (rn_move (S.tm rfl)) rfl ?_)); clear S; intro a S
   refine lv S (rn_assign (S.tm rfl)) rfl ?_; clear S; intro a S
   refine l_done (then_n (f_seq (f_region (lv S (rn_move (S.tm rfl)) rfl ?_)))); clear S; intro a S
   refine lv S (rn_move (S.tm rfl)) rfl ?_; clear S; intro a S
   refine lv S (rn_move (S.tm rfl)) rfl ?_; clear S; intro a S
   obtain ⟨b1, o1, hm1, hr1⟩ := rn_indexT (a := a) (x := .tmp 12) (y := .tmp 13) (ty := 0) sl_33 hs_p_s (get_mid hd1 hi1) rfl (S.tm rfl) (S.tm rfl)
   refine lv S (hr1 _) rfl ?_; clear S; intro a S
   clear hr1
   refine lv S (rn_ldA Tryz.isAgg57 Tryz.sizeOf57 (off := o1) (o := 0) (part := (GSlot.enc y1)) rfl rfl (S.tm rfl) (hm1.at S.emb0)) rfl ?_; clear S; intro a S
   refine l_enter S (fun _ => run_callV (cap := [.pointer (some ⟨b_p_f_0, 0, none⟩), .pointer (some ⟨b_p_f_1, 0, none⟩)]) (S.tm rfl) (vs := [.agg (GSlot.enc y1).toArray]) ⟨(S.tm rfl), trivial⟩ Tryz.call53) (tumbref2_CallsOf_c1_ok _ y1 b_p_f_0 v_p_f_0 p_f_0 (hs_p_f_0.mono (S.le_arg nil_sub)) ((S.le_arg nil_sub) _ _ hb_b_p_f_0) b_p_f_1 p_f_1 ((S.le_arg nil_sub) _ _ hb_b_p_f_1) _ rfl) rfl ?_; clear S; intro v1 a w3 hv1 hk1 hn1 S
   subst hv1
   refine l_done (then_n (f_cond (S.tm rfl) (fun hb1 => ?_) (fun hb1 => ?_)))
   ·replace h := iteT h hb1
    refine f_seq (f_region (lv S (rn_move (S.tm rfl)) rfl ?_)); clear S; intro a S
    refine lv S (rn_assign (S.tm rfl)) rfl ?_; clear S; intro a S
    refine l_done ?_
    replace S := S.nk [] [(4, iV (i1 : Int))] [] rfl ⟨rfl, trivial⟩
    refine then_n (wp_ret (blk_r (then_r (then_r (blk_r (then_r ?_))))))
    refine then_r ?_
    subst h
    exact f_ret S Tryz.results84 rfl rfl
   ·replace h := iteF h hb1
    refine wp_skip (blk_n (then_n (f_region (lv S (rn_add (S.tm rfl) rfl) rfl ?_)))); clear S; intro a S
    refine lv S (rn_move (S.tm rfl)) rfl ?_; clear S; intro a S
    refine l_done (then_n ?_)
    exact ⟨ys1, ⟨i1 + 1, ⟨_, (hd1).trans (List.append_cons _ _ _), by simp [hi1]⟩, h, S.nf [] rfl ⟨rfl, rfl, rfl, (congrArg (fun z => some (Value.int .i64 z)) (rng_next hd1 hi1 (slc_max hs_p_s))), trivial⟩⟩, Nat.lt_succ_self _⟩
 clear S h; rintro a w2 ⟨h, S⟩; rw [hj1] at h; clear hj1 j1
 refine then_n (f_seq (f_region (lv S (rn_assign rfl) rfl ?_))); clear S; intro a S
 refine l_done (then_n (wp_ret ?_))
 subst h
 exact f_ret S Tryz.results84 rfl rfl
theorem slices_DeleteFunc_Slot_tumbref2_CallsOf_c1_ok (w : World) (v_p_s : Value) (p_s : List GSlot) (hb_p_s : (LEnt.own v_p_s 57 4 p_s.length (p_s.flatMap GSlot.enc)).holds w) (b_p_del_0 : Nat) (v_p_del_0 : Value) (p_del_0 : List GCall) (hs_p_del_0 : Slc (view w (v_p_s.ownBlock.toList)) 3 v_p_del_0 (p_del_0.map GCall.enc)) (hb_b_p_del_0 : (view w (v_p_s.ownBlock.toList)) b_p_del_0 = some (.cells [v_p_del_0].toArray 30 (0, 0))) (b_p_del_1 : Nat) (p_del_1 : ByteArray) (hb_b_p_del_1 : (view w (v_p_s.ownBlock.toList)) b_p_del_1 = some (.cells [sV p_del_1].toArray 9 (0, 0))) (r : (List GSlot)) (h : slices_DeleteFunc_Slot_tumbref2_CallsOf_c1 p_s p_del_0 p_del_1 = some r) :
    Calls Tryz.prog 51 [v_p_s, .func (.func 53) #[] #[.pointer (some ⟨b_p_del_0, 0, none⟩), .pointer (some ⟨b_p_del_1, 0, none⟩)]].toArray w (Ret w (v_p_s.ownBlock.toList) fun _ v w' => (LEnt.own v 57 4 r.length (r.flatMap GSlot.enc)).holds w' ∧ ∀ c, v.ownBlock = some c → v_p_s.ownBlock = some c) := by
 refine f_enter (v_p_s.ownBlock.toList) [.own v_p_s 57 4 p_s.length (p_s.flatMap GSlot.enc)] Tryz.func51 rfl Tryz.ntmps51 rfl (fun e he => by simp only [List.mem_singleton] at he; subst he; exact hb_p_s) (fps_one_nodup _) (fps_one_sub _) fun a S => ?_
 unfold slices_DeleteFunc_Slot_tumbref2_CallsOf_c1 at h
 replace S := S.nk [.own v_p_s 57 4 p_s.length (p_s.flatMap GSlot.enc)] [(0, v_p_s), (1, .func (.func 53) #[] #[.pointer (some ⟨b_p_del_0, 0, none⟩), .pointer (some ⟨b_p_del_1, 0, none⟩)])] [true] rfl (subR rfl)
 refine f_seq (f_region (lv S (rn_assign rfl) rfl ?_)); clear S; intro a S
 refine l_done (then_n (f_seq (f_region (lv S (rn_move (S.tm rfl)) rfl ?_)))); clear S; intro a S
 refine lv S (rn_move (S.tm rfl)) rfl ?_; clear S; intro a S
 refine l_enter S (fun _ => run_call (vs := [v_p_s, .func (.func 53) #[] #[.pointer (some ⟨b_p_del_0, 0, none⟩), .pointer (some ⟨b_p_del_1, 0, none⟩)]]) ⟨(S.tm rfl), (S.tm rfl), trivial⟩ Tryz.call84) (slices_IndexFunc_Slot_tumbref2_CallsOf_c1_ok _ v_p_s p_s (own_slcT GSlot.enc_ok S (i := 0) rfl (ne_nil (e' := .own v_p_s 57 4 p_s.length (p_s.flatMap GSlot.enc)))) b_p_del_0 v_p_del_0 p_del_0 (hs_p_del_0.mono (S.le_arg nil_sub)) ((S.le_arg nil_sub) _ _ hb_b_p_del_0) b_p_del_1 p_del_1 ((S.le_arg nil_sub) _ _ hb_b_p_del_1) _ rfl) rfl ?_; clear S; intro v1 a w1 hv1 hk1 hn1 S
 subst hv1
 refine lv S (rn_assign (S.tm rfl)) rfl ?_; clear S; intro a S
 refine l_done (then_n (f_seq (f_seq (f_region (lv S (rn_move (S.tm rfl)) rfl ?_))))); clear S; intro a S
 refine lv S (rn_eql (S.tm rfl) rfl) rfl ?_; clear S; intro a S
 refine l_done (then_n (f_cond (S.tm rfl) (fun hb1 => ?_) (fun hb1 => ?_)))
 ·replace h := iteT h hb1
  refine f_seq (f_region (lv S (rn_move (S.tm rfl)) rfl ?_)); clear S; intro a S
  refine lv S (rn_assign (S.tm rfl)) rfl ?_; clear S; intro a S
  refine l_done (then_n (wp_ret (then_r ?_)))
  obtain rfl := Option.some.inj h
  exact f_ret S Tryz.results51 rfl ⟨(S.holds _ (List.mem_of_getElem? (i := 0) rfl)), (fun _ h => h)⟩
 ·replace h := iteF h hb1
  refine wp_skip (then_n (f_seq (f_seq (f_region (lv S (rn_move (S.tm rfl)) rfl ?_))))); clear S; intro a S
  refine lv S (rn_add (S.tm rfl) rfl) rfl ?_; clear S; intro a S
  refine lv S (rn_assign (S.tm rfl)) rfl ?_; clear S; intro a S
  refine l_done (then_n ?_)
  replace S := S.nk [.own v_p_s 57 4 p_s.length (p_s.flatMap GSlot.enc)] [(0, v_p_s), (1, .func (.func 53) #[] #[.pointer (some ⟨b_p_del_0, 0, none⟩), .pointer (some ⟨b_p_del_1, 0, none⟩)]), (5, iV (slices_IndexFunc_Slot_tumbref2_CallsOf_c1 p_s p_del_0 p_del_1)), (6, iV (W ((slices_IndexFunc_Slot_tumbref2_CallsOf_c1 p_s p_del_0 p_del_1) + 1)))] [true] rfl (subR rfl)
  obtain ⟨j1, hj1, h⟩ := joinE h
  refine f_join (fun a w' => ∃ x1 : List GSlot, ∃ x2 : Int, j1 x1 x2 = some r ∧ Sx w (v_p_s.ownBlock.toList) nov [.own v_p_s 57 4 x1.length (x1.flatMap GSlot.enc)] [(0, v_p_s), (5, iV x2)] 42 a w') ?_ ?_
  ·refine wp_block (f_loop (fun (m1 : Nat) a w' => ∃ x1 : List GSlot, ∃ x2 : Int, ∃ x3 : Int, slices_DeleteFunc_Slot_tumbref2_CallsOf_c1_l1 p_del_0 p_del_1 j1 m1 x1 x2 x3 = some r ∧ Sx w (v_p_s.ownBlock.toList) nov [.own v_p_s 57 4 x1.length (x1.flatMap GSlot.enc)] [(0, v_p_s), (1, .func (.func 53) #[] #[.pointer (some ⟨b_p_del_0, 0, none⟩), .pointer (some ⟨b_p_del_1, 0, none⟩)]), (5, iV x2), (6, iV x3)] 42 a w') id (((p_s.length : Int) - (W ((slices_IndexFunc_Slot_tumbref2_CallsOf_c1 p_s p_del_0 p_del_1) + 1))).toNat + 2) ⟨p_s, (slices_IndexFunc_Slot_tumbref2_CallsOf_c1 p_s p_del_0 p_del_1), W ((slices_IndexFunc_Slot_tumbref2_CallsOf_c1 p_s p_del_0 p_del_1) + 1), h, S.nf [true] rfl (subR rfl)⟩ ?_)
   clear S h; rintro m1 a w2 ⟨x1, x2, x3, h, S⟩
   cases m1 with
   | zero => rw [slices_DeleteFunc_Slot_tumbref2_CallsOf_c1_l1.eq_1] at h; cases h
   | succ m1 =>
    rw [slices_DeleteFunc_Slot_tumbref2_CallsOf_c1_l1.eq_2] at h
    refine f_seq (f_seq (f_region (lv S (rn_move (S.tm rfl)) rfl ?_))); clear S; intro a S
    refine lv S (rn_move (S.tm rfl)) rfl ?_; clear S; intro a S
    refine lv S (rn_lenT sl_33 (S.tm rfl) (own_len (S.own_at (i := 0) rfl))) rfl ?_; clear S; intro a S
    refine lv S (rn_lss (S.tm rfl) (S.tm rfl)) rfl ?_; clear S; intro a S
    refine l_done (then_n (f_cond (S.tm rfl) (fun hb2 => ?_) (fun hb2 => ?_)))
    ·replace h := iteT h hb2
     refine wp_skip (then_n (f_seq ?_))
     obtain ⟨j2, hj2, h⟩ := joinE h
     refine f_join (fun a w' => ∃ x4 : List GSlot, ∃ x5 : Int, j2 x4 x5 = some r ∧ Sx w (v_p_s.ownBlock.toList) nov [.own v_p_s 57 4 x4.length (x4.flatMap GSlot.enc)] [(0, v_p_s), (1, .func (.func 53) #[] #[.pointer (some ⟨b_p_del_0, 0, none⟩), .pointer (some ⟨b_p_del_1, 0, none⟩)]), (5, iV x5), (6, iV x3)] 42 a w') ?_ ?_
     ·refine wp_block (f_seq (f_region (lv S (rn_move (S.tm rfl)) rfl ?_))); clear S; intro a S
      refine lv S (rn_move (S.tm rfl)) rfl ?_; clear S; intro a S
      obtain ⟨hc1, h⟩ := chkE h
      obtain ⟨b1, hg1, hr1⟩ := rn_indexS (a := a) (x := .tmp 22) (y := .tmp 23) (ty := 0) sl_33 GSlot.enc_ok S (i := 0) rfl (inB_get hc1).1 (inB_get hc1).2 (S.tm rfl) (S.tm rfl)
      refine lv S (hr1 _) rfl ?_; clear S; intro a S
      clear hr1
      refine lv S (rn_ldA Tryz.isAgg57 Tryz.sizeOf57 (off := x3.toNat * 4) (o := 0) (part := (GSlot.enc (GSlot.mk ((nth x1 x3).Item) ((nth x1 x3).Heat) ((nth x1 x3).Time)))) rfl rfl (S.tm rfl) (own_cells GSlot.enc_ok S (i := 0) rfl hg1 (inB_get hc1).1)) rfl ?_; clear S; intro a S
      refine l_alloc S Tryz.zeroValue57 (cs := [sV k_empty, iV 0, iV 0, iV 0]) rfl rfl ?_; clear S; intro a w5 b2 hz1 hk2 S
      refine l_store S (S.tm rfl) (S.tm rfl) (i := 0) (off := 0) rfl Tryz.sizeOf57 (vs := (GSlot.enc (GSlot.mk ((nth x1 x3).Item) ((nth x1 x3).Heat) ((nth x1 x3).Time)))) rfl rfl rfl rfl ?_; clear S; intro w6 hk3 S
      refine l_done (then_n (f_seq (f_region (lv S (rn_move (S.tm rfl)) rfl ?_)))); clear S; intro a S
      refine lv S (rn_ldA Tryz.isAgg57 Tryz.sizeOf57 (off := 0) (o := 0) (part := (GSlot.enc (GSlot.mk ((nth x1 x3).Item) ((nth x1 x3).Heat) ((nth x1 x3).Time)))) rfl rfl (S.tm rfl) (S.cellsAt (i := 0) rfl)) rfl ?_; clear S; intro a S
      refine l_enter S (fun _ => run_callV (cap := [.pointer (some ⟨b_p_del_0, 0, none⟩), .pointer (some ⟨b_p_del_1, 0, none⟩)]) (S.tm rfl) (vs := [.agg (GSlot.enc (GSlot.mk ((nth x1 x3).Item) ((nth x1 x3).Heat) ((nth x1 x3).Time))).toArray]) ⟨(S.tm rfl), trivial⟩ Tryz.call53) (tumbref2_CallsOf_c1_ok _ (GSlot.mk ((nth x1 x3).Item) ((nth x1 x3).Heat) ((nth x1 x3).Time)) b_p_del_0 v_p_del_0 p_del_0 (hs_p_del_0.mono (S.le_arg nil_sub)) ((S.le_arg nil_sub) _ _ hb_b_p_del_0) b_p_del_1 p_del_1 ((S.le_arg nil_sub) _ _ hb_b_p_del_1) _ rfl) rfl ?_; clear S; intro v2 a w7 hv2 hk4 hn2 S
      subst hv2
      refine lv S (rn_not (S.tm rfl)) rfl ?_; clear S; intro a S
      refine l_done ?_
      replace S := S.nk [.blk b2 (GSlot.enc (GSlot.mk ((nth x1 x3).Item) ((nth x1 x3).Heat) ((nth x1 x3).Time))) 57, .own v_p_s 57 4 x1.length (x1.flatMap GSlot.enc)] [(0, v_p_s), (1, .func (.func 53) #[] #[.pointer (some ⟨b_p_del_0, 0, none⟩), .pointer (some ⟨b_p_del_1, 0, none⟩)]), (5, iV x2), (6, iV x3), (7, .pointer (some ⟨b2, 0, none⟩)), (29, bV (!(tumbref2_CallsOf_c1 (GSlot.mk ((nth x1 x3).Item) ((nth x1 x3).Heat) ((nth x1 x3).Time)) p_del_0 p_del_1)))] [true, true] rfl (subR rfl)
      refine then_n ?_
      obtain ⟨j3, hj3, h⟩ := joinE h
      refine f_join (fun a w' => ∃ x6 : List GSlot, ∃ x7 : Int, j3 x6 x7 = some r ∧ Sx w (v_p_s.ownBlock.toList) nov [.blk b2 (GSlot.enc (GSlot.mk ((nth x1 x3).Item) ((nth x1 x3).Heat) ((nth x1 x3).Time))) 57, .own v_p_s 57 4 x6.length (x6.flatMap GSlot.enc)] [(0, v_p_s), (1, .func (.func 53) #[] #[.pointer (some ⟨b_p_del_0, 0, none⟩), .pointer (some ⟨b_p_del_1, 0, none⟩)]), (5, iV x7), (6, iV x3)] 42 a w') ?_ ?_
      ·refine f_cond (S.tm rfl) (fun hb3 => ?_) (fun hb3 => ?_)
       ·replace h := iteT h hb3
        refine f_seq (f_region (lv S (rn_move (S.tm rfl)) rfl ?_)); clear S; intro a S
        refine lv S (rn_move (S.tm rfl)) rfl ?_; clear S; intro a S
        refine lv S (rn_ldA Tryz.isAgg57 Tryz.sizeOf57 (off := 0) (o := 0) (part := (GSlot.enc (GSlot.mk ((nth x1 x3).Item) ((nth x1 x3).Heat) ((nth x1 x3).Time)))) rfl rfl (S.tm rfl) (S.cellsAt (i := 0) rfl)) rfl ?_; clear S; intro a S
        obtain ⟨hc2, h⟩ := chkE h
        obtain ⟨b3, hg2, hr2⟩ := rn_indexS (a := a) (x := .tmp 30) (y := .tmp 31) (ty := 0) sl_33 GSlot.enc_ok S (i := 1) rfl (inB_get hc2).1 (inB_get hc2).2 (S.tm rfl) (S.tm rfl)
        refine lv S (hr2 _) rfl ?_; clear S; intro a S
        clear hr2
        refine l_storeO (c := 0) (j := x2.toNat) (GSlot.mk ((nth x1 x3).Item) ((nth x1 x3).Heat) ((nth x1 x3).Time)) GSlot.enc_ok S (S.tm rfl) (S.tm rfl) (i := 1) rfl hg2 (inB_get hc2).1 Tryz.sizeOf57 (vs := [sV ((nth x1 x3).Item), iV ((nth x1 x3).Heat), iV (((nth x1 x3).Time).From), iV (((nth x1 x3).Time).To)]) rfl rfl rfl rfl rfl ?_; clear S; intro w10 hk6 S
        refine l_done (then_n (f_region (lv S (rn_move (S.tm rfl)) rfl ?_))); clear S; intro a S
        refine lv S (rn_add (S.tm rfl) rfl) rfl ?_; clear S; intro a S
        refine lv S (rn_assign (S.tm rfl)) rfl ?_; clear S; intro a S
        refine l_done (then_n ?_)
        exact ⟨(x1.set x2.toNat (GSlot.mk ((nth x1 x3).Item) ((nth x1 x3).Heat) ((nth x1 x3).Time))), W (x2 + 1), h, S.nf [true, true] rfl (subR rfl)⟩
       ·replace h := iteF h hb3
        refine wp_skip (then_n ?_)
        exact ⟨x1, x2, h, S.nf [true, true] rfl (subR rfl)⟩
      clear S h; rintro a w8 ⟨x6, x7, h, S⟩; rw [hj3] at h; clear hj3 j3
      refine blk_n (then_n ?_)
      exact ⟨x6, x7, h, S.nf [false, true] rfl (subR rfl)⟩
     clear S h; rintro a w4 ⟨x4, x5, h, S⟩; rw [hj2] at h; clear hj2 j2
     refine then_n (f_region (lv S (rn_move (S.tm rfl)) rfl ?_)); clear S; intro a S
     refine lv S (rn_add (S.tm rfl) rfl) rfl ?_; clear S; intro a S
     refine lv S (rn_assign (S.tm rfl)) rfl ?_; clear S; intro a S
     refine l_done (then_n ?_)
     exact ⟨m1, ⟨x4, x5, W (x3 + 1), h, S.nf [true] rfl ⟨rfl, rfl, rfl, rfl, trivial⟩⟩, Nat.lt_succ_self _⟩
    ·replace h := iteF h hb2
     refine wp_exit (then_x (then_x (x_same (then_n ?_))))
     exact ⟨x1, x2, h, S.nf [true] rfl (subR rfl)⟩
  clear S h; rintro a w3 ⟨x1, x2, h, S⟩; rw [hj1] at h; clear hj1 j1
  refine then_n (f_seq (f_region (lv S (rn_move (S.tm rfl)) rfl ?_))); clear S; intro a S
  refine lv S (rn_move (S.tm rfl)) rfl ?_; clear S; intro a S
  obtain ⟨hc3, h⟩ := chkE h
  obtain ⟨u1, hu1, hr3⟩ := rn_subl (a := a) (x := .tmp 36) (y := .tmp 37) (ty := 33) sl_33 S (i := 0) rfl (S.tm rfl) (S.tm rfl) hc3
  refine lv S (hr3 _) rfl ?_; clear S; intro a S
  clear hr3
  refine l_clear (zl := x2) (zh := (x1.length : Int)) (z := (GSlot.mk k_empty 0 (GWindow.mk 0 0))) sl_33 rfl GSlot.enc_ok S (i := 0) rfl hu1 (S.tm rfl) Tryz.zeroValue57 rfl ?_; clear S; intro w11 hk7 S
  refine l_done (then_n (f_seq (f_region (lv S (rn_move (S.tm rfl)) rfl ?_)))); clear S; intro a S
  refine lv S (rn_move (S.tm rfl)) rfl ?_; clear S; intro a S
  obtain ⟨hc4, h⟩ := chkE h
  obtain ⟨u2, hu2, hr4⟩ := rn_subh (a := a) (x := .tmp 39) (y' := .tmp 40) (ty := 33) sl_33 S (i := 0) rfl (S.tm rfl) (S.tm rfl) hc4
  refine lv S (hr4 _) rfl ?_; clear S; intro a S
  clear hr4
  refine lv S (rn_assign (S.tm rfl)) rfl ?_; clear S; intro a S
  refine l_done (then_n (wp_ret ?_))
  obtain ⟨S, hz2⟩ := S.ownCut (zh := x2) GSlot.enc_ok (i := 0) rfl hu2
  obtain rfl := Option.some.inj h
  exact f_ret S Tryz.results51 rfl ⟨(S.holds _ (List.mem_of_getElem? (i := 0) rfl)), hz2⟩
theorem tumbref2_CallsOf_ok (w : World) (v_p_items : Value) (p_items : List GItem) (hs_p_items : Slc (view w []) 5 v_p_items (p_items.map GItem.enc)) (v_p_l : Value) (p_l : List GCall) (hs_p_l : Slc (view w []) 3 v_p_l (p_l.map GCall.enc)) (p_who : ByteArray) (p_from : Int) (r : (List GSlot)) (h : tumbref2_CallsOf p_items p_l p_who p_from = some r) :
    Calls Tryz.prog 18 [v_p_items, v_p_l, sV p_who, iV p_from].toArray w (Ret w [] fun τ v _ => OwnV τ 57 4 v r.length (r.flatMap GSlot.enc)) := by
 refine f_enter [] [] Tryz.func18 rfl Tryz.ntmps18 rfl (by simp) (by simp [fps]) (by simp [fps]) fun a S => ?_
 unfold tumbref2_CallsOf at h
 replace S := S.nk [] [(0, v_p_items), (1, v_p_l), (2, sV p_who), (3, iV p_from)] [] rfl (subR rfl)
 refine f_seq (f_region (l_box S (S.tm rfl) (cs := [v_p_l]) (SlcLen.cells (slc_len hs_p_l)) rfl ?_)); clear S; intro a w1 b1 hz1 hk1 S
 refine l_box S (S.tm rfl) (cs := [sV p_who]) rfl rfl ?_; clear S; intro a w2 b2 hz2 hk2 S
 refine lv S (rn_assign rfl) rfl ?_; clear S; intro a S
 refine l_done (then_n (f_seq (f_region (lv S (rn_move (S.tm rfl)) rfl ?_)))); clear S; intro a S
 refine lv S (rn_move (S.tm rfl)) rfl ?_; clear S; intro a S
 obtain ⟨r1, hr1, h⟩ := bindE h
 have hz3 := S.keep.size
 refine l_enter S (fun _ => run_call (vs := [v_p_items, iV p_from]) ⟨(S.tm rfl), (S.tm rfl), trivial⟩ Tryz.call52) (tumbref2_SlotsOf_ok _ v_p_items p_items (hs_p_items.mono (S.le_arg nil_sub)) p_from _ hr1) rfl ?_; clear S; intro v1 a w3 hv1 hk3 hn1 S
 replace S := S.take hn1 hz3 hv1
 refine lv S (rn_makeFunc (us := #[]) (xs := [].toArray) (ys := [.tmp 5, .tmp 6].toArray) (by simp) (evA ⟨(S.tm rfl), (S.tm rfl), trivial⟩ (vs := [.pointer (some ⟨b1, 0, none⟩), .pointer (some ⟨b2, 0, none⟩)]))) rfl ?_; clear S; intro a S
 obtain ⟨r2, hr2, h⟩ := bindE h
 have hz4 := S.keep.size
 refine l_enterO 0 S rfl (fun v2 => .own v2 57 4 r2.length (r2.flatMap GSlot.enc)) (fun _ => run_call (vs := [v1, .func (.func 53) #[] #[.pointer (some ⟨b1, 0, none⟩), .pointer (some ⟨b2, 0, none⟩)]]) ⟨(S.tm rfl), (S.tm rfl), trivial⟩ Tryz.call51) (slices_DeleteFunc_Slot_tumbref2_CallsOf_c1_ok _ v1 r1 (S.holds _ (List.mem_of_getElem? (i := 0) rfl)) b1 v_p_l p_l (hs_p_l.mono (S.le_arg (fp_sub (i := 0) (e := .own v1 57 4 r1.length (r1.flatMap GSlot.enc)) rfl))) (S.blk_view (i := 2) rfl ((ne_fp (i := 0) (j := 2) (e := .own v1 57 4 r1.length (r1.flatMap GSlot.enc)) (e' := .blk b1 [v_p_l] 30) S rfl rfl rfl) _ rfl)) b2 p_who (S.blk_view (i := 1) rfl ((ne_fp (i := 0) (j := 1) (e := .own v1 57 4 r1.length (r1.flatMap GSlot.enc)) (e' := .blk b2 [sV p_who] 9) S rfl rfl rfl) _ rfl)) _ hr2) rfl (fun _ _ _ h => h) ?_; clear S; intro v2 a w4 hv2 hk4 hn2 S
 clear hv2
 refine lv S (rn_assign (S.tm rfl)) rfl ?_; clear S; intro a S
 refine l_done (then_n (wp_ret ?_))
 obtain rfl := Option.some.inj h
 exact f_ret S Tryz.results18 rfl (own_retT S (i := 0) rfl rfl)
set_option maxRecDepth 20000 in
theorem slices_Compact_string_ok (w : World) (v_p_s : Value) (p_s : List ByteArray) (hb_p_s : (LEnt.own v_p_s 9 1 p_s.length (p_s.flatMap eStr)).holds w) (r : (List ByteArray)) (h : slices_Compact_string p_s = some r) :
    Calls Tryz.prog 55 [v_p_s].toArray w (Ret w (v_p_s.ownBlock.toList) fun _ v w' => (LEnt.own v 9 1 r.length (r.flatMap eStr)).holds w' ∧ ∀ c, v.ownBlock = some c → v_p_s.ownBlock = some c) := by
 refine f_enter (v_p_s.ownBlock.toList) [.own v_p_s 9 1 p_s.length (p_s.flatMap eStr)] Tryz.func55 rfl Tryz.ntmps55 rfl (fun e he => by simp only [List.mem_singleton] at he; subst he; exact hb_p_s) (fps_one_nodup _) (fps_one_sub _) fun a S => ?_
 unfold slices_Compact_string at h
 replace S := S.nk [.own v_p_s 9 1 p_s.length (p_s.flatMap eStr)] [(0, v_p_s)] [true] rfl ⟨rfl, trivial⟩
 refine f_seq (f_region (lv S (rn_assign rfl) rfl ?_)); clear S; intro a S
 refine l_done (then_n (f_seq (f_seq (f_region (lv S (rn_move (S.tm rfl)) rfl ?_))))); clear S; intro a S
 refine lv S (rn_lenT sl_75 (S.tm rfl) (own_len (S.own_at (i := 0) rfl))) rfl ?_; clear S; intro a S
 refine lv S (rn_lss (S.tm rfl) rfl) rfl ?_; clear S; intro a S
 refine l_done (then_n (f_cond (S.tm rfl) (fun hb1 => ?_) (fun hb1 => ?_)))
 ·replace h := iteT h hb1
  refine f_seq (f_region (lv S (rn_move (S.tm rfl)) rfl ?_)); clear S; intro a S
  refine lv S (rn_assign (S.tm rfl)) rfl ?_; clear S; intro a S
  refine l_done (then_n (wp_ret (then_r ?_)))
  obtain rfl := Option.some.inj h
  exact f_ret S Tryz.results55 rfl ⟨(S.holds _ (List.mem_of_getElem? (i := 0) rfl)), (fun _ h => h)⟩
 ·replace h := iteF h hb1
  refine wp_skip (then_n (f_seq (f_seq (f_region (lv S (rn_assign rfl) rfl ?_))))); clear S; intro a S
  refine l_done (then_n ?_)
  replace S := S.nk [.own v_p_s 9 1 p_s.length (p_s.flatMap eStr)] [(0, v_p_s), (3, iV 1)] [true] rfl (subR rfl)
  obtain ⟨j1, hj1, h⟩ := joinE h
  refine f_join (fun a w' => j1 = some r ∧ Sx w (v_p_s.ownBlock.toList) nov [.own v_p_s 9 1 p_s.length (p_s.flatMap eStr)] [(0, v_p_s)] 61 a w') ?_ ?_
  ·refine wp_block (f_loop (fun (m1 : Nat) a w' => ∃ x1 : Int, slices_Compact_string_l1 p_s j1 m1 x1 = some r ∧ Sx w (v_p_s.ownBlock.toList) nov [.own v_p_s 9 1 p_s.length (p_s.flatMap eStr)] [(0, v_p_s), (3, iV x1)] 61 a w') id (((p_s.length : Int) - 1).toNat + 2) ⟨1, h, S.nf [true] rfl (subR rfl)⟩ ?_)
   clear S h; rintro m1 a w1 ⟨x1, h, S⟩
   cases m1 with
   | zero => rw [slices_Compact_string_l1.eq_1] at h; cases h
   | succ m1 =>
    rw [slices_Compact_string_l1.eq_2] at h
    refine f_seq (f_seq (f_region (lv S (rn_move (S.tm rfl)) rfl ?_))); clear S; intro a S
    refine lv S (rn_move (S.tm rfl)) rfl ?_; clear S; intro a S
    refine lv S (rn_lenT sl_75 (S.tm rfl) (own_len (S.own_at (i := 0) rfl))) rfl ?_; clear S; intro a S
    refine lv S (rn_lss (S.tm rfl) (S.tm rfl)) rfl ?_; clear S; intro a S
    refine l_done (then_n (f_cond (S.tm rfl) (fun hb2 => ?_) (fun hb2 => ?_)))
    ·replace h := iteT h hb2
     refine wp_skip (then_n (f_seq (wp_block (f_seq (d_region [] ([]) Tryz.mixed S rfl (by kernel_rfl) ?_))))); clear S; intro w3 hk1 hsel S
     refine d_rest [0, 1, 2, 3, 4, 5, 6, 7, 8, 9] hsel (by kernel_rfl) rfl ?_
     clear hsel
     refine s_lv S rfl (rn_move (S.tm rfl)) rfl ?_; clear S; intro a S
     refine s_lv S rfl (rn_move (S.tm rfl)) rfl ?_; clear S; intro a S
     obtain ⟨hc1, h⟩ := chkE h
     obtain ⟨b1, hg1, hr1⟩ := rn_indexS (a := a) (x := .tmp 16) (y := .tmp 17) (ty := 0) sl_75 enc_str S (i := 0) rfl (inB_get hc1).1 (inB_get hc1).2 (S.tm rfl) (S.tm rfl)
     refine s_lv S rfl (hr1 _) rfl ?_; clear S; intro a S
     clear hr1
     refine s_lv S rfl (rn_ld Tryz.isAgg9 (off := x1.toNat * 1) (o := 0) (S.tm rfl) (own_cells enc_str S (i := 0) rfl hg1 (inB_get hc1).1) rfl) rfl ?_; clear S; intro a S
     refine s_lv S rfl (rn_move (S.tm rfl)) rfl ?_; clear S; intro a S
     refine s_lv S rfl (rn_move (S.tm rfl)) rfl ?_; clear S; intro a S
     refine s_lv S rfl (rn_sub (S.tm rfl) rfl) rfl ?_; clear S; intro a S
     obtain ⟨hc2, h⟩ := chkE h
     obtain ⟨b2, hg2, hr2⟩ := rn_indexS (a := a) (x := .tmp 20) (y := .tmp 22) (ty := 0) sl_75 enc_str S (i := 0) rfl (inB_get hc2).1 (inB_get hc2).2 (S.tm rfl) (S.tm rfl)
     refine s_lv S rfl (hr2 _) rfl ?_; clear S; intro a S
     clear hr2
     refine s_lv S rfl (rn_ld Tryz.isAgg9 (off := ((W (x1 - 1)).toNat) * 1) (o := 0) (S.tm rfl) (own_cells enc_str S (i := 0) rfl hg2 (inB_get hc2).1) rfl) rfl ?_; clear S; intro a S
     refine s_lv S rfl (rn_seql (S.tm rfl) (S.tm rfl)) rfl ?_; clear S; intro a S
     refine s_done ?_
     replace S := S.nk [.own v_p_s 9 1 p_s.length (p_s.flatMap eStr)] [(0, v_p_s), (3, iV x1), (25, bV (decide ((nth p_s x1) = (nth p_s (W (x1 - 1))))))] [true] rfl (subR rfl)
     refine then_n (f_cond (S.tm rfl) (fun hb3 => ?_) (fun hb3 => ?_))
     ·replace h := iteT h hb3
      refine f_seq (f_region (lv S (rn_move (S.tm rfl)) rfl ?_)); clear S; intro a S
      refine lv S (rn_move (S.tm rfl)) rfl ?_; clear S; intro a S
      obtain ⟨hc3, h⟩ := chkE h
      obtain ⟨u1, hu1, hr3⟩ := rn_subl (a := a) (x := .tmp 26) (y := .tmp 27) (ty := 75) sl_75 S (i := 0) rfl (S.tm rfl) (S.tm rfl) hc3
      refine lv S (hr3 _) rfl ?_; clear S; intro a S
      clear hr3
      refine lv S (rn_assign (S.tm rfl)) rfl ?_; clear S; intro a S
      refine l_done (then_n (f_seq (f_seq (f_region (lv S (rn_assign rfl) rfl ?_))))); clear S; intro a S
      refine l_done (then_n ?_)
      replace S := S.nk [.own v_p_s 9 1 p_s.length (p_s.flatMap eStr)] [(0, v_p_s), (3, iV x1), (4, u1), (5, iV 1)] [true] rfl (subR rfl)
      obtain ⟨j2, hj2, h⟩ := joinE h
      refine f_join (fun a w' => ∃ x2 : List ByteArray, ∃ x3 : Int, j2 x2 x3 = some r ∧ Sx w (v_p_s.ownBlock.toList) nov [.own v_p_s 9 1 x2.length (x2.flatMap eStr)] [(0, v_p_s), (3, iV x3)] 61 a w') ?_ ?_
      ·refine wp_block (f_loop (fun (m2 : Nat) a w' => ∃ x2 : List ByteArray, ∃ x3 : Int, ∃ x4 : Int, slices_Compact_string_l2 p_s x1 j2 m2 x2 x3 x4 = some r ∧ Sx w (v_p_s.ownBlock.toList) nov [.own v_p_s 9 1 x2.length (x2.flatMap eStr)] [(0, v_p_s), (3, iV x3), (4, u1), (5, iV x4)] 61 a w') id (((((p_s.length : Int).toNat - x1.toNat : Nat) : Int) - 1).toNat + 2) ⟨p_s, x1, 1, h, S.nf [true] rfl (subR rfl)⟩ ?_)
       clear S h; rintro m2 a w4 ⟨x2, x3, x4, h, S⟩
       cases m2 with
       | zero => rw [slices_Compact_string_l2.eq_1] at h; cases h
       | succ m2 =>
        rw [slices_Compact_string_l2.eq_2] at h
        refine f_seq (f_seq (f_region (lv S (rn_move (S.tm rfl)) rfl ?_))); clear S; intro a S
        refine lv S (rn_move (S.tm rfl)) rfl ?_; clear S; intro a S
        refine lv S (rn_lenT sl_75 (S.tm rfl) (subLen hu1)) rfl ?_; clear S; intro a S
        refine lv S (rn_lss (S.tm rfl) (S.tm rfl)) rfl ?_; clear S; intro a S
        refine l_done (then_n (f_cond (S.tm rfl) (fun hb4 => ?_) (fun hb4 => ?_)))
        ·replace h := iteT h hb4
         refine wp_skip (then_n (f_seq ?_))
         obtain ⟨j3, hj3, h⟩ := joinE h
         refine f_join (fun a w' => ∃ x5 : List ByteArray, ∃ x6 : Int, j3 x5 x6 = some r ∧ Sx w (v_p_s.ownBlock.toList) nov [.own v_p_s 9 1 x5.length (x5.flatMap eStr)] [(0, v_p_s), (3, iV x6), (4, u1), (5, iV x4)] 61 a w') ?_ ?_
         ·refine wp_block (f_seq (d_region [] ([]) Tryz.mixed S rfl (by kernel_rfl) ?_)); clear S; intro w7 hk2 hsel S
          refine d_rest [0, 1, 2, 3, 4, 5, 6, 7, 8, 9] hsel (by kernel_rfl) rfl ?_
          clear hsel
          refine s_lv S rfl (rn_move (S.tm rfl)) rfl ?_; clear S; intro a S
          refine s_lv S rfl (rn_move (S.tm rfl)) rfl ?_; clear S; intro a S
          obtain ⟨hc4, h⟩ := chkE h
          have hj4 := (sub_get (sub_le S (i := 0) rfl hu1) hc4).1
          obtain ⟨b3, hg3, hr4⟩ := rn_indexSub (a := a) (x := .tmp 35) (y := .tmp 36) (ty := 0) sl_75 enc_str S (i := 0) rfl hu1 hc4 (S.tm rfl) (S.tm rfl)
          refine s_lv S rfl (hr4 _) rfl ?_; clear S; intro a S
          clear hr4
          refine s_lv S rfl (rn_ld Tryz.isAgg9 (off := (x1.toNat + x4.toNat) * 1) (o := 0) (S.tm rfl) (own_cells enc_str S (i := 0) rfl hg3 hj4) rfl) rfl ?_; clear S; intro a S
          refine s_lv S rfl (rn_move (S.tm rfl)) rfl ?_; clear S; intro a S
          refine s_lv S rfl (rn_move (S.tm rfl)) rfl ?_; clear S; intro a S
          refine s_lv S rfl (rn_sub (S.tm rfl) rfl) rfl ?_; clear S; intro a S
          obtain ⟨hc5, h⟩ := chkE h
          have hj5 := (sub_get (sub_le S (i := 0) rfl hu1) hc5).1
          obtain ⟨b4, hg4, hr5⟩ := rn_indexSub (a := a) (x := .tmp 39) (y := .tmp 41) (ty := 0) sl_75 enc_str S (i := 0) rfl hu1 hc5 (S.tm rfl) (S.tm rfl)
          refine s_lv S rfl (hr5 _) rfl ?_; clear S; intro a S
          clear hr5
          refine s_lv S rfl (rn_ld Tryz.isAgg9 (off := (x1.toNat + (W (x4 - 1)).toNat) * 1) (o := 0) (S.tm rfl) (own_cells enc_str S (i := 0) rfl hg4 hj5) rfl) rfl ?_; clear S; intro a S
          refine s_lv S rfl (rn_sneq (S.tm rfl) (S.tm rfl)) rfl ?_; clear S; intro a S
          refine s_done ?_
          replace S := S.nk [.own v_p_s 9 1 x2.length (x2.flatMap eStr)] [(0, v_p_s), (3, iV x3), (4, u1), (5, iV x4), (44, bV (!decide ((nth (cut x2 x1 (p_s.length : Int)) x4) = (nth (cut x2 x1 (p_s.length : Int)) (W (x4 - 1))))))] [true] rfl (subR rfl)
          refine then_n ?_
          obtain ⟨j4, hj6, h⟩ := joinE h
          refine f_join (fun a w' => ∃ x7 : List ByteArray, ∃ x8 : Int, j4 x7 x8 = some r ∧ Sx w (v_p_s.ownBlock.toList) nov [.own v_p_s 9 1 x7.length (x7.flatMap eStr)] [(0, v_p_s), (3, iV x8), (4, u1), (5, iV x4)] 61 a w') ?_ ?_
          ·refine f_cond (S.tm rfl) (fun hb5 => ?_) (fun hb5 => ?_)
           ·replace h := iteT h hb5
            refine f_seq (f_region (lv S (rn_move (S.tm rfl)) rfl ?_)); clear S; intro a S
            iterate 3 (refine lv S (rn_move (S.tm rfl)) rfl ?_; clear S; intro a S)
            obtain ⟨hc6, h⟩ := chkE h
            have hj7 := (sub_get (sub_le S (i := 0) rfl hu1) hc6).1
            obtain ⟨b5, hg5, hr6⟩ := rn_indexSub (a := a) (x := .tmp 47) (y := .tmp 48) (ty := 0) sl_75 enc_str S (i := 0) rfl hu1 hc6 (S.tm rfl) (S.tm rfl)
            refine lv S (hr6 _) rfl ?_; clear S; intro a S
            clear hr6
            refine lv S (rn_ld Tryz.isAgg9 (off := (x1.toNat + x4.toNat) * 1) (o := 0) (S.tm rfl) (own_cells enc_str S (i := 0) rfl hg5 hj7) rfl) rfl ?_; clear S; intro a S
            obtain ⟨hc7, h⟩ := chkE h
            obtain ⟨b6, hg6, hr7⟩ := rn_indexS (a := a) (x := .tmp 45) (y := .tmp 46) (ty := 0) sl_75 enc_str S (i := 0) rfl (inB_get hc7).1 (inB_get hc7).2 (S.tm rfl) (S.tm rfl)
            refine lv S (hr7 _) rfl ?_; clear S; intro a S
            clear hr7
            refine l_storeO (c := 0) (j := x3.toNat) (nth (cut x2 x1 (p_s.length : Int)) x4) enc_str S (S.tm rfl) (S.tm rfl) (i := 0) rfl hg6 (inB_get hc7).1 Tryz.sizeOf9 (vs := [sV (nth (cut x2 x1 (p_s.length : Int)) x4)]) rfl rfl rfl rfl rfl ?_; clear S; intro w10 hk4 S
            refine l_done (then_n (f_region (lv S (rn_move (S.tm rfl)) rfl ?_))); clear S; intro a S
            refine lv S (rn_add (S.tm rfl) rfl) rfl ?_; clear S; intro a S
            refine lv S (rn_assign (S.tm rfl)) rfl ?_; clear S; intro a S
            refine l_done (then_n ?_)
            exact ⟨(x2.set x3.toNat (nth (cut x2 x1 (p_s.length : Int)) x4)), W (x3 + 1), h, S.nf [true] rfl (subR rfl)⟩
           ·replace h := iteF h hb5
            refine wp_skip (then_n ?_)
            exact ⟨x2, x3, h, S.nf [true] rfl (subR rfl)⟩
          clear S h; rintro a w8 ⟨x7, x8, h, S⟩; rw [hj6] at h; clear hj6 j4
          refine blk_n (then_n ?_)
          exact ⟨x7, x8, h, S.nf [true] rfl (subR rfl)⟩
         clear S h; rintro a w6 ⟨x5, x6, h, S⟩; rw [hj3] at h; clear hj3 j3
         refine then_n (f_region (lv S (rn_move (S.tm rfl)) rfl ?_)); clear S; intro a S
         refine lv S (rn_add (S.tm rfl) rfl) rfl ?_; clear S; intro a S
         refine lv S (rn_assign (S.tm rfl)) rfl ?_; clear S; intro a S
         refine l_done (then_n ?_)
         exact ⟨m2, ⟨x5, x6, W (x4 + 1), h, S.nf [true] rfl ⟨rfl, rfl, rfl, rfl, trivial⟩⟩, Nat.lt_succ_self _⟩
        ·replace h := iteF h hb4
         refine wp_exit (then_x (then_x (x_same (then_n ?_))))
         exact ⟨x2, x3, h, S.nf [true] rfl (subR rfl)⟩
      clear S h; rintro a w5 ⟨x2, x3, h, S⟩; rw [hj2] at h; clear hj2 j2
      refine then_n (f_seq (f_region (lv S (rn_move (S.tm rfl)) rfl ?_))); clear S; intro a S
      refine lv S (rn_move (S.tm rfl)) rfl ?_; clear S; intro a S
      obtain ⟨hc8, h⟩ := chkE h
      obtain ⟨u2, hu2, hr8⟩ := rn_subl (a := a) (x := .tmp 54) (y := .tmp 55) (ty := 75) sl_75 S (i := 0) rfl (S.tm rfl) (S.tm rfl) hc8
      refine lv S (hr8 _) rfl ?_; clear S; intro a S
      clear hr8
      refine l_clear (zl := x3) (zh := (x2.length : Int)) (z := k_empty) sl_75 rfl enc_str S (i := 0) rfl hu2 (S.tm rfl) Tryz.zeroValue9 rfl ?_; clear S; intro w11 hk5 S
      refine l_done (then_n (f_seq (f_region (lv S (rn_move (S.tm rfl)) rfl ?_)))); clear S; intro a S
      refine lv S (rn_move (S.tm rfl)) rfl ?_; clear S; intro a S
      obtain ⟨hc9, h⟩ := chkE h
      obtain ⟨u3, hu3, hr9⟩ := rn_subh (a := a) (x := .tmp 57) (y' := .tmp 58) (ty := 75) sl_75 S (i := 0) rfl (S.tm rfl) (S.tm rfl) hc9
      refine lv S (hr9 _) rfl ?_; clear S; intro a S
      clear hr9
      refine lv S (rn_assign (S.tm rfl)) rfl ?_; clear S; intro a S
      refine l_done (then_n (wp_ret (blk_r (then_r (then_r (blk_r ?_))))))
      refine then_r (then_r ?_)
      obtain ⟨S, hz1⟩ := S.ownCut (zh := x3) enc_str (i := 0) rfl hu3
      obtain rfl := Option.some.inj h
      exact f_ret S Tryz.results55 rfl ⟨(S.holds _ (List.mem_of_getElem? (i := 0) rfl)), hz1⟩
     ·replace h := iteF h hb3
      refine wp_skip (blk_n (then_n (f_region (lv S (rn_move (S.tm rfl)) rfl ?_)))); clear S; intro a S
      refine lv S (rn_add (S.tm rfl) rfl) rfl ?_; clear S; intro a S
      refine lv S (rn_assign (S.tm rfl)) rfl ?_; clear S; intro a S
      refine l_done (then_n ?_)
      exact ⟨m1, ⟨W (x1 + 1), h, S.nf [true] rfl ⟨rfl, rfl, trivial⟩⟩, Nat.lt_succ_self _⟩
    ·replace h := iteF h hb2
     refine wp_exit (then_x (then_x (x_same (then_n ?_))))
     exact ⟨h, S.nf [true] rfl ⟨rfl, trivial⟩⟩
  clear S h; rintro a w2 ⟨h, S⟩; rw [hj1] at h; clear hj1 j1
  refine then_n (f_seq (f_region (lv S (rn_move (S.tm rfl)) rfl ?_))); clear S; intro a S
  refine lv S (rn_assign (S.tm rfl)) rfl ?_; clear S; intro a S
  refine l_done (then_n (wp_ret ?_))
  obtain rfl := Option.some.inj h
  exact f_ret S Tryz.results55 rfl ⟨(S.holds _ (List.mem_of_getElem? (i := 0) rfl)), (fun _ h => h)⟩
end Go.Proofs.YtoffbgomfcmfmaaGreatDoor
