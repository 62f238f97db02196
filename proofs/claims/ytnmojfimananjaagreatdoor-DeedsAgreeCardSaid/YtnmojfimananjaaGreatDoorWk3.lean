/- Each Go function computes its plain twin, by program. -/
import Derived.Test.YtnmojfimananjaaGreatDoorWk2
namespace Go.Proofs.YtnmojfimananjaaGreatDoor
open Go
theorem meet_Read_ok (w : World) (p_text : ByteArray) (hg_maxlen : GlobI (view w []) 0) (r : (List GDeed) × Int × Int) (h : meet_Read p_text = some r) :
    Calls Tryz.prog 9 [sV p_text].toArray w (Ret w [] fun τ v _ => ∃ u1 : Value, v = .tuple #[u1, iV r.2.1, iV r.2.2] ∧ OwnV τ 32 11 u1 r.1.length (r.1.flatMap GDeed.enc)) := by
 refine f_enter [] [] Tryz.func9 rfl Tryz.ntmps9 rfl (by simp) (by simp [fps]) (by simp [fps]) fun a S => ?_
 unfold meet_Read at h
 replace S := S.nk [] [(0, sV p_text)] [] rfl ⟨rfl, trivial⟩
 refine f_seq (f_region (lv S (rn_assign rfl) rfl ?_)); clear S; intro a S
 refine lv S (rn_assign rfl) rfl ?_; clear S; intro a S
 refine lv S (rn_assign rfl) rfl ?_; clear S; intro a S
 refine l_done (then_n (f_seq (f_seq (f_region (lv S (rn_move (S.tm rfl)) rfl ?_))))); clear S; intro a S
 refine lv S (rn_len_str Tryz.underlying9 (S.tm rfl)) rfl ?_; clear S; intro a S
 refine lv S (rn_gtr (S.tm rfl) rfl) rfl ?_; clear S; intro a S
 refine l_done (then_n (f_cond (S.tm rfl) (fun hb1 => ?_) (fun hb1 => ?_)))
 ·replace h := iteT h hb1
  refine f_seq (f_region (lv S (rn_assign rfl) rfl ?_)); clear S; intro a S
  refine lv S (rn_assign rfl) rfl ?_; clear S; intro a S
  refine lv S (rn_assign rfl) rfl ?_; clear S; intro a S
  refine l_done (then_n (wp_ret (then_r ?_)))
  obtain rfl := Option.some.inj h
  exact f_ret3 S Tryz.results9 rfl rfl rfl ⟨_, rfl, (ownV_nil _ _ _)⟩
 ·replace h := iteF h hb1
  refine wp_skip (then_n (f_seq (f_region (l_alloc S Tryz.zeroValue26 (cs := [.slice none 0 0]) rfl rfl ?_)))); clear S; intro a w1 b1 hz1 hk1 S
  refine l_done (then_n (f_seq (f_seq (f_region (lv S (rn_move (S.tm rfl)) rfl ?_))))); clear S; intro a S
  refine lv S (rn_makeFunc (us := #[]) (xs := [].toArray) (ys := [.tmp 5].toArray) (by simp) (evA ⟨(S.tm rfl), trivial⟩ (vs := [.pointer (some ⟨b1, 0, none⟩)]))) rfl ?_; clear S; intro a S
  replace S := S.nil 32 11
  obtain ⟨r1, hr1, h⟩ := bindE h
  refine l_enterG [1, 0] [] (Ls := [.blk b1 [(.slice none 0 0)] 26, .own (.slice none 0 0) 32 11 ([] : List GDeed).length (([] : List GDeed).flatMap GDeed.enc)]) (Lr := []) (Y := [b1] ++ (Value.ownBlock (.slice none 0 0)).toList) S rfl rfl rfl (by simp [fps_cons, fps_nil, LEnt.fp]) (fun _ => run_call (vs := [sV p_text, .func (.func 30) #[] #[.pointer (some ⟨b1, 0, none⟩)]]) ⟨(S.tm rfl), (S.tm rfl), trivial⟩ Tryz.call29) (words_Lines_meet_Read_c1_ok _ ([b1] ++ (Value.ownBlock (.slice none 0 0)).toList) p_text b1 (.slice none 0 0) ([] : List GDeed) (S.holds _ (List.mem_of_getElem? (i := 0) rfl)) (S.holds _ (List.mem_of_getElem? (i := 1) rfl)) (hg_maxlen.mono (S.le_arg (app_sub (fp_sub (i := 1) (e := .blk b1 [(.slice none 0 0)] 26) rfl) (fp_sub (i := 0) (e := .own (.slice none 0 0) 32 11 ([] : List GDeed).length (([] : List GDeed).flatMap GDeed.enc)) rfl)))) (S.ndg [1, 0] [] rfl rfl rfl (by simp [fps_cons, fps_nil, LEnt.fp])) (by simp [fps_cons, fps_nil, LEnt.fp]) _ hr1) rfl ?_; clear S; intro v1 a w2 hv1 hk2 hn1 S
  obtain ⟨v2, hg1, hv1⟩ := hv1; replace S := S _ hg1; clear hg1
  subst hv1
  refine lv S (rn_move (S.tm rfl)) rfl ?_; clear S; intro a S
  refine lv S (rn_extract (S.tm rfl) rfl) rfl ?_; clear S; intro a S
  refine lv S (rn_extract (S.tm rfl) rfl) rfl ?_; clear S; intro a S
  refine lv S (rn_assign (S.tm rfl)) rfl ?_; clear S; intro a S
  refine lv S (rn_assign (S.tm rfl)) rfl ?_; clear S; intro a S
  refine l_done ?_
  replace S := S.nk [.blk b1 [v2] 26, .own v2 32 11 r1.2.2.length (r1.2.2.flatMap GDeed.enc)] [(5, .pointer (some ⟨b1, 0, none⟩)), (6, iV r1.1), (7, bV r1.2.1)] [true, true] rfl (subR rfl)
  refine then_n (f_seq (f_region (lv S (rn_move (S.tm rfl)) rfl ?_))); clear S; intro a S
  refine lv S (rn_not (S.tm rfl)) rfl ?_; clear S; intro a S
  refine l_done (then_n (f_cond (S.tm rfl) (fun hb2 => ?_) (fun hb2 => ?_)))
  ·replace h := iteT h hb2
   refine f_seq (f_region (lv S (rn_move (S.tm rfl)) rfl ?_)); clear S; intro a S
   refine lv S (rn_assign rfl) rfl ?_; clear S; intro a S
   refine lv S (rn_assign (S.tm rfl)) rfl ?_; clear S; intro a S
   refine lv S (rn_assign rfl) rfl ?_; clear S; intro a S
   refine l_done (then_n (wp_ret (then_r ?_)))
   obtain rfl := Option.some.inj h
   exact f_ret3 S Tryz.results9 rfl rfl rfl ⟨_, rfl, (ownV_nil _ _ _)⟩
  ·replace h := iteF h hb2
   refine wp_skip (then_n (f_seq (f_seq (f_region (lv S (rn_load Tryz.isAgg26 (S.tm rfl) (S.cell (i := 0) rfl rfl)) rfl ?_))))); clear S; intro a S
   obtain ⟨r2, hr2, h⟩ := bindE h
   refine l_enter S (fun _ => run_call (vs := [v2]) ⟨(S.tm rfl), trivial⟩ Tryz.call17) (meet_CheckDeeds_ok _ v2 r1.2.2 (own_slcT GDeed.enc_ok S (i := 1) rfl (ne_nil (e' := .own v2 32 11 r1.2.2.length (r1.2.2.flatMap GDeed.enc)))) _ hr2) rfl ?_; clear S; intro v3 a w3 hv2 hk3 hn2 S
   subst hv2
   refine lv S (rn_assign (S.tm rfl)) rfl ?_; clear S; intro a S
   refine l_done (then_n (f_seq (f_region (lv S (rn_move (S.tm rfl)) rfl ?_)))); clear S; intro a S
   refine lv S (rn_neq (S.tm rfl) rfl) rfl ?_; clear S; intro a S
   refine l_done (then_n (f_cond (S.tm rfl) (fun hb3 => ?_) (fun hb3 => ?_)))
   ·replace h := iteT h hb3
    refine f_seq (f_region (lv S (rn_move (S.tm rfl)) rfl ?_)); clear S; intro a S
    refine lv S (rn_assign rfl) rfl ?_; clear S; intro a S
    refine lv S (rn_assign rfl) rfl ?_; clear S; intro a S
    refine lv S (rn_assign (S.tm rfl)) rfl ?_; clear S; intro a S
    refine l_done (then_n (wp_ret (then_r ?_)))
    obtain rfl := Option.some.inj h
    exact f_ret3 S Tryz.results9 rfl rfl rfl ⟨_, rfl, (ownV_nil _ _ _)⟩
   ·replace h := iteF h hb3
    refine wp_skip (then_n (f_seq (f_region (lv S (rn_load Tryz.isAgg26 (S.tm rfl) (S.cell (i := 0) rfl rfl)) rfl ?_)))); clear S; intro a S
    refine lv S (rn_assign (S.tm rfl)) rfl ?_; clear S; intro a S
    refine lv S (rn_assign rfl) rfl ?_; clear S; intro a S
    refine lv S (rn_assign rfl) rfl ?_; clear S; intro a S
    refine l_done (then_n (wp_ret ?_))
    obtain rfl := Option.some.inj h
    exact f_ret3 S Tryz.results9 rfl rfl rfl ⟨_, rfl, (own_retT S (i := 1) rfl rfl)⟩
theorem tumbkeep2_errs_ok (w : World) (v_p_l : Value) (p_l : List Int) (hs_p_l : Slc (view w []) 1 v_p_l (p_l.map eInt)) (r : Int) (h : tumbkeep2_errs p_l = r) :
    Calls Tryz.prog 10 [v_p_l].toArray w (Ret w [] fun _ v _ => v = iV r) := by
 refine f_enter [] [] Tryz.func10 rfl Tryz.ntmps10 rfl (by simp) (by simp [fps]) (by simp [fps]) fun a S => ?_
 unfold tumbkeep2_errs at h
 replace S := S.nk [] [(0, v_p_l)] [] rfl ⟨rfl, trivial⟩
 refine f_seq (f_region (lv S (rn_assign rfl) rfl ?_)); clear S; intro a S
 refine l_done (then_n (f_seq (f_seq (f_region (lv S (rn_move (S.tm rfl)) rfl ?_))))); clear S; intro a S
 refine lv S (rn_lenT sl_81 (S.tm rfl) (slc_len hs_p_l)) rfl ?_; clear S; intro a S
 refine lv S (rn_move rfl) rfl ?_; clear S; intro a S
 refine l_done (then_n ?_)
 replace S := S.nk [] [(5, v_p_l), (6, iV (p_l.length : Int)), (7, iV 0)] [] rfl (subR rfl)
 obtain ⟨j1, hj1, h⟩ := joinE h
 refine f_join (fun a w' => j1 = r ∧ Sx w [] nov [] [] 15 a w') ?_ ?_
 ·refine wp_block (f_loop (fun (ys1 : List Int) a w' => ∃ i1 : Nat, (∃ dn, p_l = dn ++ ys1 ∧ dn.length = i1) ∧ tumbkeep2_errs_l1 j1 ys1 i1 = r ∧ Sx w [] nov [] [(5, v_p_l), (6, iV (p_l.length : Int)), (7, iV (i1 : Int))] 15 a w') List.length p_l ⟨0, ⟨[], rfl, rfl⟩, h, S.nf [] rfl (subR rfl)⟩ ?_)
  clear S h; rintro ys1 a w1 ⟨i1, ⟨dn, hd1, hi1⟩, h, S⟩
  cases ys1 with
  | nil =>
   rw [tumbkeep2_errs_l1.eq_1] at h
   refine f_seq (f_region (lv S (rn_lss (S.tm rfl) (S.tm rfl)) rfl ?_)); clear S; intro a S
   refine l_done ?_
   replace S := S.nk [] [(5, v_p_l), (6, iV (p_l.length : Int)), (7, iV (i1 : Int)), (8, bV (decide ((i1 : Int) < (p_l.length : Int))))] [] rfl (subR rfl)
   refine then_n (f_seq (wp_cond_false ((S.tm rfl).trans (congrArg Value.bool (rng_nil hd1 hi1))) (wp_exit (then_x (then_x (x_same ?_))))))
   refine then_n ?_
   exact ⟨h, S.nf [] rfl trivial⟩
  | cons y1 ys1 =>
   rw [tumbkeep2_errs_l1.eq_2] at h
   refine f_seq (f_region (lv S (rn_lss (S.tm rfl) (S.tm rfl)) rfl ?_)); clear S; intro a S
   refine l_done ?_
   replace S := S.nk [] [(5, v_p_l), (6, iV (p_l.length : Int)), (7, iV (i1 : Int)), (8, bV (decide ((i1 : Int) < (p_l.length : Int))))] [] rfl (subR rfl)
   refine then_n (f_seq (wp_cond_true ((S.tm rfl).trans (congrArg Value.bool (rng_cons hd1 hi1))) (wp_skip (then_n (f_seq (wp_block ?_))))))
   refine f_seq (f_region ?_)
   obtain ⟨b1, o1, hm1, hr1⟩ := rn_indexT (a := a) (x := .tmp 5) (y := .tmp 7) (ty := 0) sl_81 hs_p_l (get_mid hd1 hi1) rfl (S.tm rfl) (S.tm rfl)
   refine lv S (hr1 _) rfl ?_; clear S; intro a S
   clear hr1
   refine lv S (rn_ld Tryz.isAgg33 (off := o1) (o := 0) (S.tm rfl) (hm1.at S.emb0) rfl) rfl ?_; clear S; intro a S
   refine lv S (rn_assign (S.tm rfl)) rfl ?_; clear S; intro a S
   refine l_done (then_n (f_seq (f_region (lv S (rn_move (S.tm rfl)) rfl ?_)))); clear S; intro a S
   refine lv S (rn_neq (S.tm rfl) rfl) rfl ?_; clear S; intro a S
   refine l_done (then_n (f_cond (S.tm rfl) (fun hb1 => ?_) (fun hb1 => ?_)))
   ·replace h := iteT h hb1
    refine f_seq (f_region (lv S (rn_move (S.tm rfl)) rfl ?_)); clear S; intro a S
    refine lv S (rn_assign (S.tm rfl)) rfl ?_; clear S; intro a S
    refine l_done (then_n (wp_ret (blk_r (then_r (then_r (blk_r ?_))))))
    refine then_r (then_r ?_)
    subst h
    exact f_ret S Tryz.results10 rfl rfl
   ·replace h := iteF h hb1
    refine wp_skip (blk_n (then_n (f_region (lv S (rn_add (S.tm rfl) rfl) rfl ?_)))); clear S; intro a S
    refine lv S (rn_move (S.tm rfl)) rfl ?_; clear S; intro a S
    refine l_done (then_n ?_)
    exact ⟨ys1, ⟨i1 + 1, ⟨_, (hd1).trans (List.append_cons _ _ _), by simp [hi1]⟩, h, S.nf [] rfl ⟨rfl, rfl, (congrArg (fun z => some (Value.int .i64 z)) (rng_next hd1 hi1 (slc_max hs_p_l))), trivial⟩⟩, Nat.lt_succ_self _⟩
 clear S h; rintro a w2 ⟨h, S⟩; rw [hj1] at h; clear hj1 j1
 refine then_n (f_seq (f_region (lv S (rn_assign rfl) rfl ?_))); clear S; intro a S
 refine l_done (then_n (wp_ret ?_))
 subst h
 exact f_ret S Tryz.results10 rfl rfl
set_option maxRecDepth 20000 in
theorem slices_Equal_Deed_ok (w : World) (v_p_s1 : Value) (p_s1 : List GDeed) (hs_p_s1 : Slc (view w []) 11 v_p_s1 (p_s1.map GDeed.enc)) (v_p_s2 : Value) (p_s2 : List GDeed) (hs_p_s2 : Slc (view w []) 11 v_p_s2 (p_s2.map GDeed.enc)) (r : Bool) (h : slices_Equal_Deed p_s1 p_s2 = some r) :
    Calls Tryz.prog 11 [v_p_s1, v_p_s2].toArray w (Ret w [] fun _ v _ => v = bV r) := by
 refine f_enter [] [] Tryz.func11 rfl Tryz.ntmps11 rfl (by simp) (by simp [fps]) (by simp [fps]) fun a S => ?_
 unfold slices_Equal_Deed at h
 replace S := S.nk [] [(0, v_p_s1), (1, v_p_s2)] [] rfl (subR rfl)
 refine f_seq (f_region (lv S (rn_assign rfl) rfl ?_)); clear S; intro a S
 refine l_done (then_n (f_seq (f_seq (f_region (lv S (rn_move (S.tm rfl)) rfl ?_))))); clear S; intro a S
 refine lv S (rn_lenT sl_26 (S.tm rfl) (slc_len hs_p_s1)) rfl ?_; clear S; intro a S
 refine lv S (rn_move (S.tm rfl)) rfl ?_; clear S; intro a S
 refine lv S (rn_lenT sl_26 (S.tm rfl) (slc_len hs_p_s2)) rfl ?_; clear S; intro a S
 refine lv S (rn_neq (S.tm rfl) (S.tm rfl)) rfl ?_; clear S; intro a S
 refine l_done (then_n (f_cond (S.tm rfl) (fun hb1 => ?_) (fun hb1 => ?_)))
 ·replace h := iteT h hb1
  refine f_seq (f_region (lv S (rn_assign rfl) rfl ?_)); clear S; intro a S
  refine l_done (then_n (wp_ret (then_r ?_)))
  obtain rfl := Option.some.inj h
  exact f_ret S Tryz.results11 rfl rfl
 ·replace h := iteF h hb1
  refine wp_skip (then_n (f_seq (f_seq (f_region (lv S (rn_move (S.tm rfl)) rfl ?_))))); clear S; intro a S
  refine lv S (rn_lenT sl_26 (S.tm rfl) (slc_len hs_p_s1)) rfl ?_; clear S; intro a S
  refine lv S (rn_move rfl) rfl ?_; clear S; intro a S
  refine l_done (then_n ?_)
  replace S := S.nk [] [(0, v_p_s1), (1, v_p_s2), (12, iV (p_s1.length : Int)), (13, iV 0)] [] rfl (subR rfl)
  obtain ⟨j1, hj1, h⟩ := joinE h
  refine f_join (fun a w' => j1 = some r ∧ Sx w [] nov [] [] 26 a w') ?_ ?_
  ·refine wp_block (f_loop (fun (ys1 : List GDeed) a w' => ∃ i1 : Nat, (∃ dn, p_s1 = dn ++ ys1 ∧ dn.length = i1) ∧ slices_Equal_Deed_l1 p_s2 j1 ys1 i1 = some r ∧ Sx w [] nov [] [(0, v_p_s1), (1, v_p_s2), (12, iV (p_s1.length : Int)), (13, iV (i1 : Int))] 26 a w') List.length p_s1 ⟨0, ⟨[], rfl, rfl⟩, h, S.nf [] rfl (subR rfl)⟩ ?_)
   clear S h; rintro ys1 a w1 ⟨i1, ⟨dn, hd1, hi1⟩, h, S⟩
   cases ys1 with
   | nil =>
    rw [slices_Equal_Deed_l1.eq_1] at h
    refine f_seq (f_region (lv S (rn_lss (S.tm rfl) (S.tm rfl)) rfl ?_)); clear S; intro a S
    refine l_done ?_
    replace S := S.nk [] [(0, v_p_s1), (1, v_p_s2), (12, iV (p_s1.length : Int)), (13, iV (i1 : Int)), (14, bV (decide ((i1 : Int) < (p_s1.length : Int))))] [] rfl (subR rfl)
    refine then_n (f_seq (wp_cond_false ((S.tm rfl).trans (congrArg Value.bool (rng_nil hd1 hi1))) (wp_exit (then_x (then_x (x_same ?_))))))
    refine then_n ?_
    exact ⟨h, S.nf [] rfl trivial⟩
   | cons y1 ys1 =>
    rw [slices_Equal_Deed_l1.eq_2] at h
    refine f_seq (f_region (lv S (rn_lss (S.tm rfl) (S.tm rfl)) rfl ?_)); clear S; intro a S
    refine l_done ?_
    replace S := S.nk [] [(0, v_p_s1), (1, v_p_s2), (12, iV (p_s1.length : Int)), (13, iV (i1 : Int)), (14, bV (decide ((i1 : Int) < (p_s1.length : Int))))] [] rfl (subR rfl)
    refine then_n (f_seq (wp_cond_true ((S.tm rfl).trans (congrArg Value.bool (rng_cons hd1 hi1))) (wp_skip (then_n (f_seq (wp_block ?_))))))
    refine f_seq (f_region (lv S (rn_move (S.tm rfl)) rfl ?_)); clear S; intro a S
    refine lv S (rn_assign (S.tm rfl)) rfl ?_; clear S; intro a S
    refine l_done (then_n (f_seq (d_region [] ([]) Tryz.mixed S rfl (by kernel_rfl) ?_))); clear S; intro w3 hk1 hsel S
    refine d_rest [0, 1, 2, 3, 4, 5, 6, 7, 8] hsel (by kernel_rfl) rfl ?_
    clear hsel
    refine s_lv S rfl (rn_move (S.tm rfl)) rfl ?_; clear S; intro a S
    refine s_lv S rfl (rn_move (S.tm rfl)) rfl ?_; clear S; intro a S
    obtain ⟨b1, o1, hm1, hr1⟩ := rn_indexT (a := a) (x := .tmp 16) (y := .tmp 17) (ty := 0) sl_26 hs_p_s1 (get_mid hd1 hi1) rfl (S.tm rfl) (S.tm rfl)
    refine s_lv S rfl (hr1 _) rfl ?_; clear S; intro a S
    clear hr1
    refine s_lv S rfl (rn_ldA Tryz.isAgg32 Tryz.sizeOf32 (off := o1) (o := 0) (part := (GDeed.enc y1)) rfl rfl (S.tm rfl) (hm1.at S.emb0)) rfl ?_; clear S; intro a S
    refine s_lv S rfl (rn_move (S.tm rfl)) rfl ?_; clear S; intro a S
    refine s_lv S rfl (rn_move (S.tm rfl)) rfl ?_; clear S; intro a S
    obtain ⟨hc1, h⟩ := chkE h
    obtain ⟨b2, o2, hm2, hr2⟩ := rn_indexT (a := a) (x := .tmp 20) (y := .tmp 21) (ty := 0) sl_26 hs_p_s2 (inB_get hc1).1 (inB_get hc1).2 (S.tm rfl) (S.tm rfl)
    refine s_lv S rfl (hr2 _) rfl ?_; clear S; intro a S
    clear hr2
    refine s_lv S rfl (rn_ldA Tryz.isAgg32 Tryz.sizeOf32 (off := o2) (o := 0) (part := (GDeed.enc (nth p_s2 (i1 : Int)))) rfl rfl (S.tm rfl) (hm2.at S.emb0)) rfl ?_; clear S; intro a S
    refine s_lv S rfl (rn_neq_32 (m := y1) (n := (nth p_s2 (i1 : Int))) (S.tm rfl) (S.tm rfl)) rfl ?_; clear S; intro a S
    refine s_done ?_
    replace S := S.nk [] [(0, v_p_s1), (1, v_p_s2), (12, iV (p_s1.length : Int)), (13, iV (i1 : Int)), (24, bV (!decide (y1 = (nth p_s2 (i1 : Int)))))] [] rfl (subR rfl)
    refine then_n (f_cond (S.tm rfl) (fun hb2 => ?_) (fun hb2 => ?_))
    ·replace h := iteT h hb2
     refine f_seq (f_region (lv S (rn_assign rfl) rfl ?_)); clear S; intro a S
     refine l_done (then_n (wp_ret (blk_r (then_r (then_r (blk_r ?_))))))
     refine then_r (then_r ?_)
     obtain rfl := Option.some.inj h
     exact f_ret S Tryz.results11 rfl rfl
    ·replace h := iteF h hb2
     refine wp_skip (blk_n (then_n (f_region (lv S (rn_add (S.tm rfl) rfl) rfl ?_)))); clear S; intro a S
     refine lv S (rn_move (S.tm rfl)) rfl ?_; clear S; intro a S
     refine l_done (then_n ?_)
     exact ⟨ys1, ⟨i1 + 1, ⟨_, (hd1).trans (List.append_cons _ _ _), by simp [hi1]⟩, h, S.nf [] rfl ⟨rfl, rfl, rfl, (congrArg (fun z => some (Value.int .i64 z)) (rng_next hd1 hi1 (slc_max hs_p_s1))), trivial⟩⟩, Nat.lt_succ_self _⟩
  clear S h; rintro a w2 ⟨h, S⟩; rw [hj1] at h; clear hj1 j1
  refine then_n (f_seq (f_region (lv S (rn_assign rfl) rfl ?_))); clear S; intro a S
  refine l_done (then_n (wp_ret ?_))
  obtain rfl := Option.some.inj h
  exact f_ret S Tryz.results11 rfl rfl
theorem slices_Reverse_int_ok (w : World) (v_p_s : Value) (p_s : List Int) (hb_p_s : (LEnt.own v_p_s 3 1 p_s.length (p_s.flatMap eInt)).holds w) (r : (List Int)) (h : slices_Reverse_int p_s = some r) :
    Calls Tryz.prog 66 [v_p_s].toArray w (Ret w (v_p_s.ownBlock.toList) fun _ v w' => (LEnt.own v_p_s 3 1 r.length (r.flatMap eInt)).holds w' ∧ v = .tuple #[]) := by
 refine f_enter (v_p_s.ownBlock.toList) [.own v_p_s 3 1 p_s.length (p_s.flatMap eInt)] Tryz.func66 rfl Tryz.ntmps66 rfl (fun e he => by simp only [List.mem_singleton] at he; subst he; exact hb_p_s) (fps_one_nodup _) (fps_one_sub _) fun a S => ?_
 unfold slices_Reverse_int at h
 replace S := S.nk [.own v_p_s 3 1 p_s.length (p_s.flatMap eInt)] [(0, v_p_s)] [true] rfl ⟨rfl, trivial⟩
 refine f_seq (f_region (lv S (rn_move (S.tm rfl)) rfl ?_)); clear S; intro a S
 refine lv S (rn_lenT sl_22 (S.tm rfl) (own_len (S.own_at (i := 0) rfl))) rfl ?_; clear S; intro a S
 refine lv S (rn_sub (S.tm rfl) rfl) rfl ?_; clear S; intro a S
 refine lv S (rn_assign rfl) rfl ?_; clear S; intro a S
 refine lv S (rn_assign (S.tm rfl)) rfl ?_; clear S; intro a S
 refine l_done (then_n ?_)
 replace S := S.nk [.own v_p_s 3 1 p_s.length (p_s.flatMap eInt)] [(0, v_p_s), (2, iV 0), (3, iV (W ((p_s.length : Int) - 1)))] [true] rfl (subR rfl)
 obtain ⟨j1, hj1, h⟩ := joinE h
 refine f_join (fun a w' => ∃ x1 : List Int, j1 x1 = some r ∧ Sx w (v_p_s.ownBlock.toList) nov [.own v_p_s 3 1 x1.length (x1.flatMap eInt)] [] 28 a w') ?_ ?_
 ·refine wp_block (f_loop (fun (m1 : Nat) a w' => ∃ x1 : List Int, ∃ x2 : Int, ∃ x3 : Int, slices_Reverse_int_l1 j1 m1 x1 x2 x3 = some r ∧ Sx w (v_p_s.ownBlock.toList) nov [.own v_p_s 3 1 x1.length (x1.flatMap eInt)] [(0, v_p_s), (2, iV x2), (3, iV x3)] 28 a w') id (((W ((p_s.length : Int) - 1)) - 0).toNat + 2) ⟨p_s, 0, W ((p_s.length : Int) - 1), h, S.nf [true] rfl (subR rfl)⟩ ?_)
  clear S h; rintro m1 a w1 ⟨x1, x2, x3, h, S⟩
  cases m1 with
  | zero => rw [slices_Reverse_int_l1.eq_1] at h; cases h
  | succ m1 =>
   rw [slices_Reverse_int_l1.eq_2] at h
   refine f_seq (f_seq (f_region (lv S (rn_move (S.tm rfl)) rfl ?_))); clear S; intro a S
   refine lv S (rn_move (S.tm rfl)) rfl ?_; clear S; intro a S
   refine lv S (rn_lss (S.tm rfl) (S.tm rfl)) rfl ?_; clear S; intro a S
   refine l_done (then_n (f_cond (S.tm rfl) (fun hb1 => ?_) (fun hb1 => ?_)))
   ·replace h := iteT h hb1
    refine wp_skip (then_n (f_seq (wp_block ?_)))
    obtain ⟨hc1, h⟩ := chkE h
    obtain ⟨hc2, h⟩ := chkE h
    obtain ⟨hc3, h⟩ := chkE h
    obtain ⟨hc4, h⟩ := chkE h
    refine d_region [13, 15] ([]) Tryz.mixed S rfl (by kernel_rfl) ?_; clear S; intro w7 hk5 hsel S
    refine d_pure 0 S hsel rfl rfl (by kernel_rfl) (by kernel_rfl) rfl (fun _ => (rn_move (S.tm rfl))) ?_; clear S; intro a S
    refine d_pure 1 S hsel rfl rfl (by kernel_rfl) (by kernel_rfl) rfl (fun _ => (rn_move (S.tm rfl))) ?_; clear S; intro a S
    refine d_pure 2 S hsel rfl rfl (by kernel_rfl) (by kernel_rfl) rfl (fun _ => (rn_move (S.tm rfl))) ?_; clear S; intro a S
    refine d_pure 3 S hsel rfl rfl (by kernel_rfl) (by kernel_rfl) rfl (fun _ => (rn_move (S.tm rfl))) ?_; clear S; intro a S
    refine d_pure 4 S hsel rfl rfl (by kernel_rfl) (by kernel_rfl) rfl (fun _ => (rn_move (S.tm rfl))) ?_; clear S; intro a S
    refine d_pure 5 S hsel rfl rfl (by kernel_rfl) (by kernel_rfl) rfl (fun _ => (rn_move (S.tm rfl))) ?_; clear S; intro a S
    obtain ⟨b5, hg5, hr5⟩ := rn_indexS (a := a) (x := .tmp 18) (y := .tmp 19) (ty := 0) sl_22 enc_int S (i := 0) rfl (inB_get hc1).1 (inB_get hc1).2 (S.tm rfl) (S.tm rfl)
    refine d_pure 6 S hsel rfl rfl (by kernel_rfl) (by kernel_rfl) rfl (fun _ => (hr5 _)) ?_; clear S; intro a S
    clear hr5
    refine d_quiet 7 S hsel rfl (by kernel_rfl) (by kernel_rfl) (by kernel_rfl) (by kernel_rfl) rfl (fun _ hw => (rn_ld Tryz.isAgg3 (off := x3.toNat * 1) (o := 0) (S.tm rfl) ((own_mem enc_int S (i := 0) rfl hg5 (inB_get hc1).1 (ne_nil (e' := .own v_p_s 3 1 x1.length (x1.flatMap eInt)))).kept hw) rfl)) ?_; clear S; intro a S
    refine d_pure 8 S hsel rfl rfl (by kernel_rfl) (by kernel_rfl) rfl (fun _ => (rn_move (S.tm rfl))) ?_; clear S; intro a S
    refine d_pure 9 S hsel rfl rfl (by kernel_rfl) (by kernel_rfl) rfl (fun _ => (rn_move (S.tm rfl))) ?_; clear S; intro a S
    obtain ⟨b6, hg6, hr6⟩ := rn_indexS (a := a) (x := .tmp 22) (y := .tmp 23) (ty := 0) sl_22 enc_int S (i := 0) rfl (inB_get hc2).1 (inB_get hc2).2 (S.tm rfl) (S.tm rfl)
    refine d_pure 10 S hsel rfl rfl (by kernel_rfl) (by kernel_rfl) rfl (fun _ => (hr6 _)) ?_; clear S; intro a S
    clear hr6
    refine d_quiet 11 S hsel rfl (by kernel_rfl) (by kernel_rfl) (by kernel_rfl) (by kernel_rfl) rfl (fun _ hw => (rn_ld Tryz.isAgg3 (off := x2.toNat * 1) (o := 0) (S.tm rfl) ((own_mem enc_int S (i := 0) rfl hg6 (inB_get hc2).1 (ne_nil (e' := .own v_p_s 3 1 x1.length (x1.flatMap eInt)))).kept hw) rfl)) ?_; clear S; intro a S
    obtain ⟨b7, hg7, hr7⟩ := rn_indexS (a := a) (x := .tmp 14) (y := .tmp 15) (ty := 0) sl_22 enc_int S (i := 0) rfl (inB_get hc3).1 (inB_get hc3).2 (S.tm rfl) (S.tm rfl)
    refine d_pure 12 S hsel rfl rfl (by kernel_rfl) (by kernel_rfl) rfl (fun _ => (hr7 _)) ?_; clear S; intro a S
    clear hr7
    refine d_loudB 13 (v_p_s.ownBlock.toList) rfl (by kernel_rfl) rfl (l_storeO (c := 0) (j := x2.toNat) (nth x1 x3) enc_int S (S.tm rfl) (S.tm rfl) (i := 0) rfl hg7 (inB_get hc3).1 Tryz.sizeOf3 (vs := [iV (nth x1 x3)]) rfl rfl rfl rfl rfl ?_); clear S; intro w9 hk7 S
    refine l_done (d_nextB ?_)
    obtain ⟨b8, hg8, hr8⟩ := rn_indexS (a := a) (x := .tmp 16) (y := .tmp 17) (ty := 0) sl_22 enc_int S (i := 0) rfl (inB_get hc4).1 (inB_get hc4).2 (S.tm rfl) (S.tm rfl)
    refine d_quiet 14 S hsel rfl rfl rfl (by kernel_rfl) (by kernel_rfl) rfl (fun _ hw => (hr8 _)) ?_; clear S; intro a S
    clear hr8
    refine d_loud1 15 (by kernel_rfl) rfl (l_storeO (c := 0) (j := x3.toNat) (nth x1 x2) enc_int S (S.tm rfl) (S.tm rfl) (i := 0) rfl hg8 (inB_get hc4).1 Tryz.sizeOf3 (vs := [iV (nth x1 x2)]) rfl rfl rfl rfl rfl ?_); clear S; intro w11 hk9 S
    refine l_done (d_next hk9 (d_end (by kernel_rfl) ?_))
    clear hsel
    replace S := S.nk [.own v_p_s 3 1 ((x1.set x2.toNat (nth x1 x3)).set x3.toNat (nth x1 x2)).length (((x1.set x2.toNat (nth x1 x3)).set x3.toNat (nth x1 x2)).flatMap eInt)] [(0, v_p_s), (2, iV x2), (3, iV x3)] [true] rfl (subR rfl)
    refine blk_n (then_n (f_region (lv S (rn_move (S.tm rfl)) rfl ?_))); clear S; intro a S
    refine lv S (rn_add (S.tm rfl) rfl) rfl ?_; clear S; intro a S
    refine lv S (rn_move (S.tm rfl)) rfl ?_; clear S; intro a S
    refine lv S (rn_sub (S.tm rfl) rfl) rfl ?_; clear S; intro a S
    refine lv S (rn_assign (S.tm rfl)) rfl ?_; clear S; intro a S
    refine lv S (rn_assign (S.tm rfl)) rfl ?_; clear S; intro a S
    refine l_done (then_n ?_)
    exact ⟨m1, ⟨((x1.set x2.toNat (nth x1 x3)).set x3.toNat (nth x1 x2)), W (x2 + 1), W (x3 - 1), h, S.nf [true] rfl ⟨rfl, rfl, rfl, trivial⟩⟩, Nat.lt_succ_self _⟩
   ·replace h := iteF h hb1
    refine wp_exit (then_x (then_x (x_same (then_n ?_))))
    exact ⟨x1, h, S.nf [true] rfl trivial⟩
 clear S h; rintro a w2 ⟨x1, h, S⟩; rw [hj1] at h; clear hj1 j1
 obtain rfl := Option.some.inj h
 exact f_ret0 S Tryz.results66 ⟨(S.holds _ (List.mem_of_getElem? (i := 0) rfl)), rfl⟩
def bkEnc (xs : List GDeed) (j : Nat) : Array Value := #[iV (j : Int), .agg (GDeed.enc (nth xs (j : Int))).toArray]
theorem back_in (φ ξ : View) (n Bs : Nat) (sv : Value) (xs : List GDeed) (hB : φ Bs = some (.cells [sv].toArray 26 (0, 0))) (hs : Slc ξ 11 sv (xs.map GDeed.enc)) (l : Nat) (J : Nat → World → Prop) (w : World) (hJ : ∀ k w, J k w → Emb φ w ∧ Emb ξ w) (h0 : J 0 w)
    (hr : ∀ k x w1, (revI xs.length)[k]? = some x → J k w1 → YieldAt (WF none) (n - 1) Tryz.prog l (bkEnc xs x) w1 fun e w' => e = .returned (.bool true) ∧ J (k + 1) w') :
    CallsIn (WF none) n Tryz.prog 107 (#[.func (.yield l) #[] #[]] ++ #[.pointer (some ⟨Bs, 0, none⟩)]) w fun e w' => (∃ v, e = .returned v) ∧ J (revI xs.length).length w' := by
  refine i_enter (vs := [.func (.yield l) #[] #[], .pointer (some ⟨Bs, 0, none⟩)]) Tryz.func107 rfl Tryz.ntmps107 rfl fun a S => ?_
  have hlen : (revI xs.length).length = xs.length := by simp [revI]
  have hmx := slc_max hs
  have hQ : ∀ fn a w, ¬ bodyPost Tryz.prog fn (fun e w' => (∃ v, e = .returned v) ∧ J (revI xs.length).length w') .outgrown a w := fun _ _ _ ⟨⟨_, e⟩, _⟩ => by cases e
  have hbox : ∀ {k : Nat} {w : World}, J k w → CellsAt w Bs 0 [sv] := fun hj => (mem_blk hB).at (hJ _ _ hj).1
  have hw : ∀ k : Nat, k ≤ xs.length → W ((xs.length : Int) - 1 - (k : Int)) = (xs.length : Int) - 1 - (k : Int) := fun k hk => W_in (by omega) (by omega)
  refine i_seq (i_region (hQ Tryz.f107) rfl (lv S (rn_ld Tryz.isAgg26 (off := 0) (o := 0) (S.tm rfl) (hbox h0) rfl) rfl ?_)); clear S; intro a S
  refine lv S (rn_lenT sl_26 (S.tm rfl) (slc_len hs)) rfl ?_; clear S; intro a S
  refine lv S (rn_sub (S.tm rfl) rfl) rfl ?_; clear S; intro a S
  refine lv S (rn_assign (S.tm rfl)) rfl ?_; clear S; intro a S
  refine l_done (then_n (wpIn_block (i_loop (fun m a w' => ∃ k : Nat, k ≤ xs.length ∧ m = xs.length - k ∧ J k w' ∧ Sx w' [] nov [] [(0, .func (.yield l) #[] #[]), (1, .pointer (some ⟨Bs, 0, none⟩)), (3, iV ((xs.length : Int) - 1 - (k : Int)))] 19 a w') xs.length ⟨0, Nat.zero_le _, rfl, h0, ?_⟩ ?_)))
  · have h1 := (S.rebase (w' := w)).sub (K' := [(0, .func (.yield l) #[] #[]), (1, .pointer (some ⟨Bs, 0, none⟩)), (3, iV (W ((xs.length : Int) - 1)))]) (subR rfl)
    have h2 := hw 0 (Nat.zero_le _)
    rw [show (((0 : Nat) : Int)) = 0 from rfl, Int.sub_zero] at h2 ⊢
    rw [h2] at h1
    exact h1
  · clear S; rintro m a w1 ⟨k, hk, rfl, hj, S⟩
    refine i_seq (i_seq (i_region (hQ Tryz.f107) rfl (lv S (rn_move (S.tm rfl)) rfl ?_))); clear S; intro a S
    refine lv S (rn_geq (S.tm rfl) rfl) rfl ?_; clear S; intro a S
    refine l_done (then_n (i_cond (S.tm rfl) (fun hb => ?_) (fun hb => ?_)))
    · have hb' : (0 : Int) ≤ (xs.length : Int) - 1 - (k : Int) := by simpa using hb
      have hlt : k < xs.length := by omega
      have hx := revI_at hlt
      have hy := hr k _ w1 hx hj
      have hidx : ((xs.length - 1 - k : Nat) : Int) = (xs.length : Int) - 1 - (k : Int) := by omega
      refine wpIn_skip (then_n (i_seq (wpIn_block (i_seq (wpIn_region_lit (n_lv S (rn_move (S.tm rfl)) (fun _ h => by cases h) rfl ?_)))))); clear S; intro a S
      refine n_lv S (rn_move (S.tm rfl)) (fun _ h => by cases h) rfl ?_; clear S; intro a S
      refine n_lv S (rn_ld Tryz.isAgg26 (off := 0) (o := 0) (S.tm rfl) (hbox hj) rfl) (fun _ h => by cases h) rfl ?_; clear S; intro a S
      refine n_lv S (rn_move (S.tm rfl)) (fun _ h => by cases h) rfl ?_; clear S; intro a S
      obtain ⟨b1, o1, hm1, hr1⟩ := rn_indexT (a := a) (x := .tmp 13) (y := .tmp 14) (ty := 0) sl_26 hs (nth_q (show xs.length - 1 - k < xs.length by omega)) rfl (S.tm rfl) (S.tm (by rw [hidx]; rfl))
      refine n_lv S (hr1 _) (fun _ h => by cases h) rfl ?_; clear S; intro a S
      refine n_lv S (rn_ldA Tryz.isAgg32 Tryz.sizeOf32 (off := o1) (o := 0) (part := (GDeed.enc (nth xs ((xs.length - 1 - k : Nat) : Int)))) rfl rfl (S.tm rfl) (hm1.at (hJ _ _ hj).2)) (fun _ h => by cases h) rfl ?_; clear S; intro a S
      have h12 : a.eval (.tmp 12) = iV (((xs.length - 1 - k : Nat)) : Int) := by rw [hidx]; exact S.tm rfl
      have h16 := S.tm (t := 16) rfl
      refine n_yield S (S.tm rfl) (vs := bkEnc xs (xs.length - 1 - k)) (by simp [bkEnc, h12, h16]) rfl hy ?_ (fun e w' h => ⟨_, h.1⟩)
      clear S; rintro v w2 a ⟨hv, hj2⟩ S
      obtain rfl : v = .bool true := by injection hv
      refine n_lv S (rn_not (S.tm rfl)) (fun _ h => by cases h) rfl ?_; clear S; intro a S
      refine n_done (then_n (i_cond (S.tm rfl) (fun h => by cases h) (fun _ => wpIn_skip (blk_n (then_n ?_)))))
      refine i_region (fun a w h => hQ Tryz.f107 a w h) rfl (lv S (rn_move (S.tm rfl)) rfl ?_); clear S; intro a S
      refine lv S (rn_sub (S.tm rfl) rfl) rfl ?_; clear S; intro a S
      refine lv S (rn_assign (S.tm rfl)) rfl ?_; clear S; intro a S
      refine l_done (then_n ⟨xs.length - (k + 1), a, by omega, rfl, k + 1, hlt, rfl, hj2, ?_⟩)
      have h1 := S.sub (K' := [(0, .func (.yield l) #[] #[]), (1, .pointer (some ⟨Bs, 0, none⟩)), (3, iV (W ((xs.length : Int) - 1 - (k : Int) - 1)))]) (subR rfl)
      have h2 := hw (k + 1) hlt
      have h3 : (xs.length : Int) - 1 - ((k + 1 : Nat) : Int) = (xs.length : Int) - 1 - (k : Int) - 1 := by omega
      rw [h3] at h2 ⊢
      rw [h2] at h1
      exact h1
    · have hb' : ¬ (0 : Int) ≤ (xs.length : Int) - 1 - (k : Int) := by simpa using hb
      obtain rfl : k = xs.length := by omega
      refine wpIn_exit (then_x (then_x (x_same ?_)))
      show bodyPost _ _ _ .normal _ _
      rw [addD_nil]
      refine ⟨S.nodefer, .tuple #[], by rw [results_none Tryz.results107], ⟨_, rfl⟩, ?_⟩
      rw [hlen]
      exact hj
theorem back_ok (w : World) (sv : Value) (m : Nat) (hsl : SlcLen sv m) : Calls Tryz.prog 65 [sv].toArray w (Ret w [] fun τ v _ => ∃ Bs, v = .func (.func 107) #[] #[.pointer (some ⟨Bs, 0, none⟩)] ∧ τ Bs = some (.cells [sv].toArray 26 (0, 0))) := by
  refine f_enter [] [] Tryz.func65 rfl Tryz.ntmps65 rfl (by simp) (by simp [fps]) (by simp [fps]) fun a S => (f_seq (f_region (l_box S (S.tm rfl) (cs := [sv]) (SlcLen.cells hsl) rfl ?_))); clear S; intro a w1 b1 hz1 hk1 S
  refine lv S (rn_assign rfl) rfl ?_; clear S; intro a S
  refine l_done (then_n (f_seq (f_region (lv S (rn_makeFunc (us := #[]) (vs := #[.pointer (some ⟨b1, 0, none⟩)]) (by simp) (by simp [S.tm (t := 1) rfl])) rfl ?_)))); clear S; intro a S
  refine lv S (rn_assign (S.tm rfl)) rfl ?_; clear S; intro a S
  refine l_done (then_n (wp_ret ?_))
  exact f_ret S Tryz.results65 rfl ⟨b1, rfl, blk_ret S (i := 0) rfl rfl⟩
abbrev kvP : Gmeet_place → Value := fun x => Value.agg (Gmeet_place.enc x).toArray
abbrev cntL (b1 b2 b3 b4 : Nat) (at_ : Int) (m : List (Gmeet_place × Bool)) (x : List Int) (v : Value) : List LEnt :=
  [.own v 3 1 x.length (x.flatMap eInt), .blk b4 [v] 22, .blk b3 [.map (some b2)] 110, .map b2 (ments kvP Value.bool m) m.length, .blk b1 [iV at_] 3]
set_option maxRecDepth 20000 in
theorem meet_counting_ok (w : World) (v_l : Value) (l : List GDeed) (hs_l : Slc (view w []) 11 v_l (l.map GDeed.enc)) (at_ : Int) (r : List Int) (h : meet_counting l at_ = some r) :
    Calls Tryz.prog 36 [v_l, iV at_].toArray w (Ret w [] fun τ v _ => OwnV τ 3 1 v r.length (r.flatMap eInt)) := by
  have hcons : ∀ {dn is : List Nat} {i : Nat} {k : Nat}, revI l.length = dn ++ i :: is → dn.length = k → (revI l.length)[k]? = some i := fun hd hk => by rw [hd, ← hk]; simp
  have hQ : ∀ fn a w', ¬ bodyPostM (WF none) 3 Tryz.prog fn (Ret w [] fun τ v _ => OwnV τ 3 1 v r.length (r.flatMap eInt)) .outgrown a w' := fun _ _ _ ⟨_, e, _⟩ => by cases e
  refine i_enterM 3 Tryz.func36 rfl Tryz.ntmps36 rfl fun a S => ?_
  replace S := S.nk [] [(0, v_l), (1, iV at_)] [] rfl (subR rfl)
  refine i_seq (i_region (hQ Tryz.f36) rfl (l_box S (S.tm rfl) (cs := [iV at_]) rfl rfl ?_)); clear S; intro a w1 b1 hz1 hk1 S
  refine lv S (rn_assign rfl) rfl ?_; clear S; intro a S
  refine l_done (then_n (i_seq (i_region (hQ Tryz.f36) rfl (l_makeMap (κ := Gmeet_place) (ν := Bool) S rfl kvP Value.bool ?_)))); clear S; intro a w2 b2 hz2 hk2 S
  refine l_alloc S Tryz.zeroValue110 (cs := [.map none]) rfl rfl ?_; clear S; intro a w3 b3 hz3 hk3 S
  refine l_store S (S.tm rfl) (S.tm rfl) (i := 0) (off := 0) rfl Tryz.sizeOf110 (vs := [.map (some b2)]) rfl rfl rfl rfl ?_; clear S; intro w4 hk4 S
  refine l_done (then_n (i_seq (i_region (hQ Tryz.f36) rfl (l_alloc S Tryz.zeroValue22 (cs := [.slice none 0 0]) rfl rfl ?_)))); clear S; intro a w5 b4 hz5 hk5 S
  replace S := S.nil 3 1
  refine l_done (then_n (i_seq (i_seq (i_region (hQ Tryz.f36) rfl (lv S (rn_move (S.tm rfl)) rfl ?_))))); clear S; intro a S
  have hz6 := S.keep.size
  refine l_enter S (fun _ => run_call (vs := [v_l]) ⟨(S.tm rfl), trivial⟩ Tryz.call65) (back_ok _ v_l _ (slc_len hs_l)) rfl ?_; clear S; intro v1 a w6 hv1 hk6 hn1 S
  obtain ⟨φ1, hl1, hm1, S⟩ := S.see' hn1 hz6
  obtain ⟨Bs, rfl, hB⟩ := hv1
  replace hB := hm1 _ _ hB
  refine l_done (then_n (wpIn_block ?_))
  replace S := S.nk (cntL b1 b2 b3 b4 at_ [] [] (.slice none 0 0)) [(3, .pointer (some ⟨b1, 0, none⟩)), (5, .pointer (some ⟨b3, 0, none⟩)), (6, .pointer (some ⟨b4, 0, none⟩)), (11, .func (.func 107) #[] #[.pointer (some ⟨Bs, 0, none⟩)])] [true, true, true, true, true] rfl (subR rfl)
  rw [addD_nil]
  refine i_range (n := 3) (revI l.length) (bkEnc l) S (S.tm rfl) (fun args w => Tryz.call107 args w) (fun _ => rfl)
    (fun ll J W hJ h0 hr => back_in φ1 (view w []) (3 - 1) Bs v_l l hB hs_l ll J W hJ h0 hr)
    (fun k L' => ∃ m x v, (∃ dn is, revI l.length = dn ++ is ∧ dn.length = k ∧ meet_counting_l1 l at_ is m x = some r) ∧ L' = cntL b1 b2 b3 b4 at_ m x v)
    ⟨[], [], .slice none 0 0, ⟨[], _, rfl, rfl, h⟩, rfl⟩ ?_ ?_
  · clear h
    rintro ll D rec k i L' w7 hst hss hx ⟨m, x, v, ⟨dn, is, hd, hk, h⟩, rfl⟩ S0
    have hact := prms2 a 12 13 (iV (i : Int)) (.agg (GDeed.enc (nth l (i : Int))).toArray) S0.nodefer
    obtain ⟨is', rfl⟩ : ∃ is', is = i :: is' := by
      cases is with
      | nil => rw [hd, List.append_nil, ← hk] at hx; simp at hx
      | cons j is' =>
        have := hcons hd hk
        rw [hx] at this
        exact ⟨is', by rw [Option.some.inj this]⟩
    unfold bkEnc
    rw [hact]
    have S := (S0.put (d := 12) (v := iV (i : Int)) (by decide)).put (d := 13) (v := .agg (GDeed.enc (nth l (i : Int))).toArray) (by decide)
    generalize ((a.put (some 12) (iV (i : Int))).put (some 13) (.agg (GDeed.enc (nth l (i : Int))).toArray)) = a' at S
    refine i_seq (i_region (fun _ _ h => h) rfl (lv S (rn_assign (S.tm rfl)) rfl ?_)); clear S; intro a S
    refine l_done (then_n (i_region (fun _ _ h => h) rfl (l_alloc S Tryz.zeroValue32 (cs := [sV k_empty, iV 0, iV 0, iV 0, sV k_empty, sV k_empty, sV k_empty, iV 0, iV 0, sV k_empty, iV 0]) rfl rfl ?_))); clear S; intro a w8 b5 hz8 hk8 S
    refine l_store S (S.tm rfl) (S.tm rfl) (i := 0) (off := 0) rfl Tryz.sizeOf32 (vs := (GDeed.enc (nth l (i : Int)))) rfl rfl rfl rfl ?_; clear S; intro w9 hk9 S
    refine l_done (then_n (i_begin S (i := 1) rfl (hst _) ?_)); clear S; intro w10 S
    rw [hss] at S
    replace S := S.nk (.blk b5 (GDeed.enc (nth l (i : Int))) 32 :: .obj ll (.loop (rec .busy)) :: .obj D (.deferred (some [])) :: cntL b1 b2 b3 b4 at_ m x v) [(3, .pointer (some ⟨b1, 0, none⟩)), (5, .pointer (some ⟨b3, 0, none⟩)), (6, .pointer (some ⟨b4, 0, none⟩)), (7, iV (i : Int)), (8, .pointer (some ⟨b5, 0, none⟩))] [true, true, true, true, true, true, true, true] rfl (subR rfl)
    rw [meet_counting_l1] at h
    refine wpIn_block (i_seq (i_mid (fun b w' => ∃ a, b = addD [] a ∧ Sx w [] φ1 (.blk b5 (GDeed.enc (nth l (i : Int))) 32 :: .obj ll (.loop (rec .busy)) :: .obj D (.deferred (some [])) :: cntL b1 b2 b3 b4 at_ m x v) [(3, .pointer (some ⟨b1, 0, none⟩)), (5, .pointer (some ⟨b3, 0, none⟩)), (6, .pointer (some ⟨b4, 0, none⟩)), (7, iV (i : Int)), (8, .pointer (some ⟨b5, 0, none⟩)), (23, bV (meet_cntQ l at_ i m))] 40 a w') ?_ ?_))
    · rcases Bool.eq_false_or_eq_true (decide (at_ < ((nth l (i : Int)).At))) with hb1 | hb1
      · refine i_d_region [] [] Tryz.mixed rfl S rfl (by kernel_rfl) ?_; clear S; intro w11 hk11 hsel S
        refine d_rest [0, 1, 2, 3, 4, 5, 6, 7, 8, 9] hsel (by kernel_rfl) rfl (s_lv S rfl (rn_fld fa_32_2 (S.tm rfl)) rfl ?_); clear S; intro a S
        refine s_lv S rfl (rn_load Tryz.isAgg3 (S.tm rfl) (S.cell (i := 0) rfl rfl)) rfl ?_; clear S; intro a S
        refine s_lv S rfl (rn_load Tryz.isAgg3 (S.tm rfl) (S.cell (i := 7) rfl rfl)) rfl ?_; clear S; intro a S
        refine s_lv S rfl (rn_gtr (S.tm rfl) (S.tm rfl)) rfl ?_; clear S; intro a S
        refine s_lv S rfl (rn_move (S.tm rfl)) rfl ?_; clear S; intro a S
        iterate 4 (refine s_skip S rfl rfl rfl rfl (neq_t hb1) rfl ?_ rfl; clear S; intro a S)
        refine s_lv S rfl (rn_pick_b hb1 (S.tm rfl) rfl) rfl ?_; clear S; intro a S
        refine s_done ?_
        have hq : meet_cntQ l at_ i m = true := by unfold meet_cntQ; rw [hb1]; rfl
        refine then_n ⟨a, rfl, ?_⟩
        rw [hq]
        exact S.nk (.blk b5 (GDeed.enc (nth l (i : Int))) 32 :: .obj ll (.loop (rec .busy)) :: .obj D (.deferred (some [])) :: cntL b1 b2 b3 b4 at_ m x v) [(3, .pointer (some ⟨b1, 0, none⟩)), (5, .pointer (some ⟨b3, 0, none⟩)), (6, .pointer (some ⟨b4, 0, none⟩)), (7, iV (i : Int)), (8, .pointer (some ⟨b5, 0, none⟩)), (23, bV true)] [true, true, true, true, true, true, true, true] rfl (subR rfl)
      · refine i_d_region [] [] Tryz.mixed rfl S rfl (by kernel_rfl) ?_; clear S; intro w11 hk11 hsel S
        refine d_quiet 0 S hsel rfl rfl rfl (by kernel_rfl) (by kernel_rfl) rfl (fun _ hw => (rn_fld fa_32_2 (S.tm rfl))) ?_; clear S; intro a S
        refine d_quiet 1 S hsel rfl rfl rfl (by kernel_rfl) (by kernel_rfl) rfl (fun _ hw => (rn_ld Tryz.isAgg3 (off := 0) (o := 2) (S.tm rfl) ((S.blk_mem (i := 0) (cells := (GDeed.enc (nth l (i : Int)))) (b := b5) (T := 32) rfl (ne_nil (e' := .blk b5 (GDeed.enc (nth l (i : Int))) 32))).kept hw) rfl)) ?_; clear S; intro a S
        refine d_quiet 2 S hsel rfl rfl rfl (by kernel_rfl) (by kernel_rfl) rfl (fun _ hw => (rn_ld Tryz.isAgg3 (off := 0) (o := 0) (S.tm rfl) ((S.blk_mem (i := 7) (cells := [iV at_]) (b := b1) (T := 3) rfl (ne_nil (e' := .blk b1 [iV at_] 3))).kept hw) rfl)) ?_; clear S; intro a S
        refine d_quiet 3 S hsel rfl rfl rfl (by kernel_rfl) (by kernel_rfl) rfl (fun _ hw => (rn_gtr (S.tm rfl) (S.tm rfl))) ?_; clear S; intro a S
        refine d_quiet 4 S hsel rfl rfl rfl (by kernel_rfl) (by kernel_rfl) rfl (fun _ hw => (rn_move (S.tm rfl))) ?_; clear S; intro a S
        refine d_quiet_g 5 S hsel rfl rfl rfl rfl hb1 rfl rfl (by kernel_rfl) (by kernel_rfl) rfl (fun _ hw => (rn_ld Tryz.isAgg110 (off := 0) (o := 0) (S.tm rfl) ((S.blk_mem (i := 5) (cells := [.map (some b2)]) (b := b3) (T := 110) rfl (ne_nil (e' := .blk b3 [.map (some b2)] 110))).kept hw) rfl)) ?_; clear S; intro a S
        refine d_quiet_g 6 S hsel rfl rfl rfl rfl hb1 rfl rfl (by kernel_rfl) (by kernel_rfl) rfl (fun _ hw => (rn_ldA Tryz.isAgg32 Tryz.sizeOf32 (off := 0) (o := 0) (part := (GDeed.enc (nth l (i : Int)))) rfl rfl (S.tm rfl) ((S.blk_mem (i := 0) (cells := (GDeed.enc (nth l (i : Int)))) (b := b5) (T := 32) rfl (ne_nil (e' := .blk b5 (GDeed.enc (nth l (i : Int))) 32))).kept hw))) ?_; clear S; intro a S
        refine d_loud1 7 (by kernel_rfl) rfl (l_want S rfl rfl rfl hb1 (l_enter S (fun _ => run_call (vs := [.agg (GDeed.enc (nth l (i : Int))).toArray]) ⟨(S.tm rfl), trivial⟩ Tryz.call18) (meet_placeOf_ok _ (nth l (i : Int)) _ rfl) rfl ?_)); clear S; intro v3 a w12 hv2 hk9 hn2 S
        subst hv2
        refine l_done (d_next hk9 (d_rest [8, 9] hsel (by kernel_rfl) rfl ?_))
        refine s_want S rfl rfl rfl rfl hb1 (s_lv0 S (rn_lookup (kv := kvP) (vv := Value.bool) (m := m) (key := (meet_placeOf (nth l (i : Int)))) (z := false) (S.map_at (i := 6) rfl) Tryz.underlying110 keyT_50 Tryz.zeroValue4 (S.tm rfl) (S.tm rfl)) rfl ?_); clear S; intro a S
        refine s_lv S rfl (rn_pick_c hb1 (S.tm rfl) (S.tm rfl)) rfl ?_; clear S; intro a S
        refine s_done ?_
        have hq : meet_cntQ l at_ i m = mgetD m (meet_placeOf (nth l (i : Int))) false := by unfold meet_cntQ; rw [hb1]; rfl
        refine then_n ⟨a, rfl, ?_⟩
        rw [hq]
        exact S.nk (.blk b5 (GDeed.enc (nth l (i : Int))) 32 :: .obj ll (.loop (rec .busy)) :: .obj D (.deferred (some [])) :: cntL b1 b2 b3 b4 at_ m x v) [(3, .pointer (some ⟨b1, 0, none⟩)), (5, .pointer (some ⟨b3, 0, none⟩)), (6, .pointer (some ⟨b4, 0, none⟩)), (7, iV (i : Int)), (8, .pointer (some ⟨b5, 0, none⟩)), (23, bV (mgetD m (meet_placeOf (nth l (i : Int))) false))] [true, true, true, true, true, true, true, true] rfl (subR rfl)
    · clear S; rintro _ w11 ⟨a, rfl, S⟩
      refine i_cond (S.tm rfl) (fun hb2 => ?_) (fun hb2 => ?_)
      · rw [if_pos hb2] at h
        refine wpIn_exit (then_x (x_same ?_))
        exact ⟨_, ⟨m, x, v, ⟨dn ++ [i], is', by rw [hd]; simp, by simp [hk], h⟩, rfl⟩, S0.back (S.nk (.obj ll (.loop (rec .busy)) :: .obj D (.deferred (some [])) :: cntL b1 b2 b3 b4 at_ m x v) [] [false, true, true, true, true, true, true, true] rfl (subR rfl))⟩
      · rw [if_neg (by rw [hb2]; simp)] at h
        obtain ⟨hc2, h⟩ := chkE h
        refine wpIn_skip (then_n (i_mid (fun b w' => ∃ a, b = addD [] a ∧ Sx w [] φ1 (.blk b5 (GDeed.enc (nth l (i : Int))) 32 :: .obj ll (.loop (rec .busy)) :: .obj D (.deferred (some [])) :: cntL b1 b2 b3 b4 at_ (if decide ((nth l (i : Int)).Kind = 4) = true then mput m (Gmeet_place.mk ((nth l (i : Int)).Of) ((nth l (i : Int)).Other)) true else m) x v) [(6, .pointer (some ⟨b4, 0, none⟩)), (7, iV (i : Int)), (8, .pointer (some ⟨b5, 0, none⟩))] 40 a w') ?_ ?_))
        · refine i_seq (i_region (fun _ _ h => h) rfl (lv S (rn_fld fa_32_3 (S.tm rfl)) rfl ?_)); clear S; intro a S
          refine lv S (rn_load Tryz.isAgg3 (S.tm rfl) (S.cell (i := 0) rfl rfl)) rfl ?_; clear S; intro a S
          refine lv S (rn_eql (S.tm rfl) rfl) rfl ?_; clear S; intro a S
          refine l_done (then_n (i_cond (S.tm rfl) (fun hb3 => ?_) (fun hb3 => ?_)))
          · rw [if_pos hb3]
            refine i_region (fun _ _ h => h) rfl (lv S (rn_load Tryz.isAgg110 (S.tm rfl) (S.cell (i := 5) rfl rfl)) rfl ?_); clear S; intro a S
            refine lv S (rn_fld fa_32_9 (S.tm rfl)) rfl ?_; clear S; intro a S
            refine lv S (rn_load Tryz.isAgg9 (S.tm rfl) (S.cell (i := 0) rfl rfl)) rfl ?_; clear S; intro a S
            refine lv S (rn_fld fa_32_10 (S.tm rfl)) rfl ?_; clear S; intro a S
            refine lv S (rn_load Tryz.isAgg3 (S.tm rfl) (S.cell (i := 0) rfl rfl)) rfl ?_; clear S; intro a S
            refine lv S (rn_bld bt_50 (pv := [(0, sV ((nth l (i : Int)).Of)), (1, iV ((nth l (i : Int)).Other))]) ⟨rfl, (S.tm rfl), rfl, (S.tm rfl), trivial⟩ (cs := [sV ((nth l (i : Int)).Of), iV ((nth l (i : Int)).Other)]) (by kernel_rfl)) rfl ?_; clear S; intro a S
            refine l_mapUpdate (kv := kvP) (vv := Value.bool) (m := m) (key := (Gmeet_place.mk ((nth l (i : Int)).Of) ((nth l (i : Int)).Other))) (val := true) S (i := 6) rfl Tryz.underlying110 keyT_50 (S.tm rfl) (S.tm rfl) rfl ?_; clear S; intro w13 hk10 S
            refine l_done (then_n ⟨a, rfl, ?_⟩)
            exact S.nk (.blk b5 (GDeed.enc (nth l (i : Int))) 32 :: .obj ll (.loop (rec .busy)) :: .obj D (.deferred (some [])) :: cntL b1 b2 b3 b4 at_ (mput m (Gmeet_place.mk ((nth l (i : Int)).Of) ((nth l (i : Int)).Other)) true) x v) [(6, .pointer (some ⟨b4, 0, none⟩)), (7, iV (i : Int)), (8, .pointer (some ⟨b5, 0, none⟩))] [true, true, true, true, true, true, true, true] rfl (subR rfl)
          · rw [if_neg (by rw [hb3]; simp)]
            refine wpIn_skip (then_n ⟨a, rfl, ?_⟩)
            exact S.nk (.blk b5 (GDeed.enc (nth l (i : Int))) 32 :: .obj ll (.loop (rec .busy)) :: .obj D (.deferred (some [])) :: cntL b1 b2 b3 b4 at_ m x v) [(6, .pointer (some ⟨b4, 0, none⟩)), (7, iV (i : Int)), (8, .pointer (some ⟨b5, 0, none⟩))] [true, true, true, true, true, true, true, true] rfl (subR rfl)
        · clear S; rintro _ w12 ⟨a, rfl, S⟩
          generalize (if decide ((nth l (i : Int)).Kind = 4) = true then mput m (Gmeet_place.mk ((nth l (i : Int)).Of) ((nth l (i : Int)).Other)) true else m) = m2 at h S
          refine i_region (fun _ _ h => h) rfl (lv S (rn_load Tryz.isAgg22 (S.tm rfl) (S.cell (i := 4) rfl rfl)) rfl ?_); clear S; intro a S
          refine lv S (rn_move (S.tm rfl)) rfl ?_; clear S; intro a S
          refine l_buildSlice S Tryz.underlying22 Tryz.sizeOf3 Tryz.zeroValue3 rfl rfl (pv := [(0, iV (i : Int))]) ⟨rfl, (S.tm rfl), trivial⟩ (cs := [iV (i : Int)]) (by kernel_rfl) rfl ?_; clear S; intro a w14 b6 hz5 hk11 S
          refine l_appendT sl_22 enc_int S (S.tm rfl) (i := 4) rfl (S.tm rfl) (j := 0) rfl (ys := [(i : Int)]) rfl rfl rfl rfl (by have := room_lt hc2; omega) rfl ?_; clear S; intro v4 a w15 hk12 S
          refine l_store S (S.tm rfl) (S.tm rfl) (i := 5) (off := 0) rfl Tryz.sizeOf22 (vs := [v4]) (SlcLen.cells (own_len (S.own_at (i := 4) rfl))) rfl rfl (all1 (SlcLen.one (own_len (S.own_at (i := 4) rfl))) rfl) ?_; clear S; intro w16 hk13 S
          refine l_done (blk_n ?_)
          exact ⟨_, ⟨m2, x ++ [(i : Int)], v4, ⟨dn ++ [i], is', by rw [hd]; simp, by simp [hk], h⟩, rfl⟩, S0.back (S.nk (.obj ll (.loop (rec .busy)) :: .obj D (.deferred (some [])) :: cntL b1 b2 b3 b4 at_ m2 (x ++ [(i : Int)]) v4) [] [false, false, true, true, true, true, true, true, true] rfl (subR rfl))⟩
  · rintro D ll o L' w7 ⟨m, x, v, ⟨dn, is, hd, hk, h⟩, rfl⟩ S
    obtain rfl : is = [] := by
      have h1 := congrArg List.length hd
      rw [List.length_append] at h1
      exact List.length_eq_zero_iff.1 (by omega)
    rw [meet_counting_l1] at h
    refine blk_n (then_n (i_seq (i_region (hQ Tryz.f36) rfl (lv S (rn_load Tryz.isAgg22 (S.tm rfl) (S.cell (i := 3) rfl rfl)) rfl ?_)))); clear S; intro a S
    refine l_enterO 2 S rfl (fun _ => .own v 3 1 r.length (r.flatMap eInt)) (fun _ => run_call (vs := [v]) ⟨(S.tm rfl), trivial⟩ Tryz.call66) (slices_Reverse_int_ok _ v x (S.holds _ (List.mem_of_getElem? (i := 2) rfl)) _ h) rfl (fun _ _ _ h => ⟨h.1, fun _ hc => hc⟩) ?_; clear S; intro v5 a w17 hv3 hk14 hn3 S
    replace hv3 := hv3.2
    subst hv3
    refine l_done (then_n (i_seq (i_region (hQ Tryz.f36) rfl (lv S (rn_load Tryz.isAgg22 (S.tm rfl) (S.cell (i := 3) rfl rfl)) rfl ?_)))); clear S; intro a S
    refine lv S (rn_assign (S.tm rfl)) rfl ?_; clear S; intro a S
    refine l_done (then_n (wpIn_ret ?_))
    exact i_ret S (i := 1) rfl Tryz.results36 rfl (fun w' S => own_retT S (i := 2) rfl rfl)
theorem meet_Counting_ok (w : World) (v_p_l : Value) (p_l : List GDeed) (hs_p_l : Slc (view w []) 11 v_p_l (p_l.map GDeed.enc)) (p_at : Int) (r : (List Int) × Int) (h : meet_Counting p_l p_at = some r) :
    Calls Tryz.prog 12 [v_p_l, iV p_at].toArray w (Ret w [] fun τ v _ => ∃ u1 : Value, v = .tuple #[u1, iV r.2] ∧ OwnV τ 3 1 u1 r.1.length (r.1.flatMap eInt)) := by
 refine f_enter [] [] Tryz.func12 rfl Tryz.ntmps12 rfl (by simp) (by simp [fps]) (by simp [fps]) fun a S => ?_
 unfold meet_Counting at h
 replace S := S.nk [] [(0, v_p_l), (1, iV p_at)] [] rfl (subR rfl)
 refine f_seq (f_region (lv S (rn_assign rfl) rfl ?_)); clear S; intro a S
 refine lv S (rn_assign rfl) rfl ?_; clear S; intro a S
 refine l_done (then_n (f_seq (f_seq (f_region (lv S (rn_move (S.tm rfl)) rfl ?_))))); clear S; intro a S
 obtain ⟨r1, hr1, h⟩ := bindE h
 refine l_enter S (fun _ => run_call (vs := [v_p_l]) ⟨(S.tm rfl), trivial⟩ Tryz.call17) (meet_CheckDeeds_ok _ v_p_l p_l (hs_p_l.mono (S.le_arg nil_sub)) _ hr1) rfl ?_; clear S; intro v1 a w1 hv1 hk1 hn1 S
 subst hv1
 refine lv S (rn_assign (S.tm rfl)) rfl ?_; clear S; intro a S
 refine l_done (then_n (f_seq (f_region (lv S (rn_move (S.tm rfl)) rfl ?_)))); clear S; intro a S
 refine lv S (rn_neq (S.tm rfl) rfl) rfl ?_; clear S; intro a S
 refine l_done (then_n (f_cond (S.tm rfl) (fun hb1 => ?_) (fun hb1 => ?_)))
 ·replace h := iteT h hb1
  refine f_seq (f_region (lv S (rn_move (S.tm rfl)) rfl ?_)); clear S; intro a S
  refine lv S (rn_assign rfl) rfl ?_; clear S; intro a S
  refine lv S (rn_assign (S.tm rfl)) rfl ?_; clear S; intro a S
  refine l_done (then_n (wp_ret (then_r ?_)))
  obtain rfl := Option.some.inj h
  exact f_ret2 S Tryz.results12 rfl rfl ⟨_, rfl, (ownV_nil _ _ _)⟩
 ·replace h := iteF h hb1
  refine wp_skip (then_n (f_seq (f_seq (f_region (lv S (rn_move (S.tm rfl)) rfl ?_))))); clear S; intro a S
  refine l_enter S (fun _ => run_call (vs := [iV p_at]) ⟨(S.tm rfl), trivial⟩ Tryz.call35) (words_IsMoment_ok _ p_at _ rfl) rfl ?_; clear S; intro v2 a w2 hv2 hk2 hn2 S
  subst hv2
  refine lv S (rn_not (S.tm rfl)) rfl ?_; clear S; intro a S
  refine l_done (then_n (f_cond (S.tm rfl) (fun hb2 => ?_) (fun hb2 => ?_)))
  ·replace h := iteT h hb2
   refine f_seq (f_region (lv S (rn_assign rfl) rfl ?_)); clear S; intro a S
   refine lv S (rn_assign rfl) rfl ?_; clear S; intro a S
   refine l_done (then_n (wp_ret (then_r ?_)))
   obtain rfl := Option.some.inj h
   exact f_ret2 S Tryz.results12 rfl rfl ⟨_, rfl, (ownV_nil _ _ _)⟩
  ·replace h := iteF h hb2
   refine wp_skip (then_n (f_seq (f_region (lv S (rn_move (S.tm rfl)) rfl ?_)))); clear S; intro a S
   refine lv S (rn_move (S.tm rfl)) rfl ?_; clear S; intro a S
   obtain ⟨r2, hr2, h⟩ := bindE h
   have hz1 := S.keep.size
   refine l_enter S (fun _ => run_call (vs := [v_p_l, iV p_at]) ⟨(S.tm rfl), (S.tm rfl), trivial⟩ Tryz.call36) (meet_counting_ok _ v_p_l p_l (hs_p_l.mono (S.le_arg nil_sub)) p_at _ hr2) rfl ?_; clear S; intro v3 a w3 hv3 hk3 hn3 S
   obtain ⟨φ1, hl1, hm1, S⟩ := S.see' hn3 hz1
   have hs1 := hv3.mono hm1
   refine lv S (rn_assign (S.tm rfl)) rfl ?_; clear S; intro a S
   refine lv S (rn_assign rfl) rfl ?_; clear S; intro a S
   refine l_done ?_
   replace S := S.nk [] [(4, v3), (5, iV 0)] [] rfl (subR rfl)
   refine then_n (wp_ret ?_)
   obtain rfl := Option.some.inj h
   exact f_ret2 S Tryz.results12 rfl rfl ⟨_, rfl, ((hs1).mono S.le_newer)⟩
theorem swimmer_leap_ok (w : World) (p_year : Int) (r : Bool) (h : swimmer_leap p_year = r) :
    Calls Tryz.prog 108 [iV p_year].toArray w (Ret w [] fun _ v _ => v = bV r) := by
 refine f_enter [] [] Tryz.func108 rfl Tryz.ntmps108 rfl (by simp) (by simp [fps]) (by simp [fps]) fun a S => ?_
 unfold swimmer_leap at h
 replace S := S.nk [] [(0, iV p_year)] [] rfl ⟨rfl, trivial⟩
 refine f_seq (f_region (lv S (rn_assign rfl) rfl ?_)); clear S; intro a S
 refine l_done (then_n (f_seq (f_region (lv S (rn_move (S.tm rfl)) rfl ?_)))); clear S; intro a S
 refine lv S (rn_rem (S.tm rfl) rfl (by decide)) rfl ?_; clear S; intro a S
 refine lv S (rn_eql (S.tm rfl) rfl) rfl ?_; clear S; intro a S
 refine lv S (rn_move (S.tm rfl)) rfl ?_; clear S; intro a S
 refine f_cutm 9 (fun a w' => Keep [] w w' ∧ Sx w [] nov [] [(15, bV ((decide ((Int.tmod p_year 4) = 0)) && ((!decide ((Int.tmod p_year 100) = 0)) || (decide ((Int.tmod p_year 400) = 0)))))] 16 a w') ?_ ?_
 ·rcases Bool.eq_false_or_eq_true (decide ((Int.tmod p_year 4) = 0)) with hb1 | hb1
  ·refine l_want S rfl rfl rfl hb1 (lv S (rn_move (S.tm rfl)) rfl ?_); clear S; intro a S
   refine l_want S rfl rfl rfl hb1 (lv S (rn_rem (S.tm rfl) rfl (by decide)) rfl ?_); clear S; intro a S
   refine l_want S rfl rfl rfl hb1 (lv S (rn_neq (S.tm rfl) rfl) rfl ?_); clear S; intro a S
   refine l_want S rfl rfl rfl hb1 (lv S (rn_move (S.tm rfl)) rfl ?_); clear S; intro a S
   refine f_cutm 4 (fun a w' => Keep [] w w' ∧ Sx w [] nov [] [(6, bV (decide ((Int.tmod p_year 4) = 0))), (14, bV ((!decide ((Int.tmod p_year 100) = 0)) || (decide ((Int.tmod p_year 400) = 0))))] 16 a w') ?_ ?_
   ·rcases Bool.eq_false_or_eq_true (!decide ((Int.tmod p_year 100) = 0)) with hb2 | hb2
    ·iterate 3 (refine l_skip S rfl rfl rfl (neq_t hb2) rfl ?_ rfl; clear S; intro a S)
     refine l_want S rfl rfl rfl hb1 (lv S (rn_or_t (decide ((Int.tmod p_year 400) = 0)) hb2 (S.tm rfl) rfl) rfl ?_); clear S; intro a S
     refine l_done (then_n ?_)
     exact ⟨Keep.refl _ _, S.nf [] rfl (subR rfl)⟩
    ·refine l_want S rfl rfl rfl hb2 (lv S (rn_move (S.tm rfl)) rfl ?_); clear S; intro a S
     refine l_want S rfl rfl rfl hb2 (lv S (rn_rem (S.tm rfl) rfl (by decide)) rfl ?_); clear S; intro a S
     refine l_want S rfl rfl rfl hb2 (lv S (rn_eql (S.tm rfl) rfl) rfl ?_); clear S; intro a S
     refine l_want S rfl rfl rfl hb1 (lv S (rn_or_f hb2 (S.tm rfl) (S.tm rfl)) rfl ?_); clear S; intro a S
     refine l_done (then_n ?_)
     exact ⟨Keep.refl _ _, S.nf [] rfl (subR rfl)⟩
   clear S; rintro a w2 ⟨hk1, S⟩
   refine lv S (rn_and_t hb1 (S.tm rfl) (S.tm rfl)) rfl ?_; clear S; intro a S
   refine l_done (then_n ?_)
   exact ⟨hk1, S.nf [] rfl ⟨rfl, trivial⟩⟩
  ·iterate 4 (refine l_skip S rfl rfl rfl (neq_f hb1) rfl ?_ rfl; clear S; intro a S)
   iterate 3 (refine l_skipU S rfl rfl rfl rfl ?_; clear S; intro a S)
   refine l_skip S rfl rfl rfl (neq_f hb1) rfl ?_ rfl; clear S; intro a S
   refine lv S (rn_and_f ((!decide ((Int.tmod p_year 100) = 0)) || (decide ((Int.tmod p_year 400) = 0))) hb1 (S.tm rfl) rfl) rfl ?_; clear S; intro a S
   refine l_done (then_n ?_)
   exact ⟨Keep.refl _ _, S.nf [] rfl ⟨rfl, trivial⟩⟩
 clear S; rintro a w1 ⟨hk2, S⟩
 refine lv S (rn_assign (S.tm rfl)) rfl ?_; clear S; intro a S
 refine l_done (then_n (wp_ret ?_))
 subst h
 exact f_ret S Tryz.results108 rfl rfl
theorem swimmer_long_ok (w : World) (p_year : Int) (p_month : Int) (r : Int) (h : swimmer_long p_year p_month = r) :
    Calls Tryz.prog 68 [iV p_year, iV p_month].toArray w (Ret w [] fun _ v _ => v = iV r) := by
 refine f_enter [] [] Tryz.func68 rfl Tryz.ntmps68 rfl (by simp) (by simp [fps]) (by simp [fps]) fun a S => ?_
 unfold swimmer_long at h
 replace S := S.nk [] [(0, iV p_year), (1, iV p_month)] [] rfl (subR rfl)
 refine f_seq (f_region (lv S (rn_assign rfl) rfl ?_)); clear S; intro a S
 refine l_done (then_n (f_seq (f_seq (f_region (lv S (rn_move (S.tm rfl)) rfl ?_))))); clear S; intro a S
 refine l_done (then_n (wp_block (f_seq (f_region (lv S (rn_eql (S.tm rfl) rfl) rfl ?_))))); clear S; intro a S
 refine lv S (rn_assign (S.tm rfl)) rfl ?_; clear S; intro a S
 refine l_done (then_n (f_cond (S.tm rfl) (fun hb1 => ?_) (fun hb1 => ?_)))
 ·replace h := iteT h hb1
  refine f_seq (f_seq (f_region (lv S (rn_move (S.tm rfl)) rfl ?_))); clear S; intro a S
  refine l_enter S (fun _ => run_call (vs := [iV p_year]) ⟨(S.tm rfl), trivial⟩ Tryz.call108) (swimmer_leap_ok _ p_year _ rfl) rfl ?_; clear S; intro v1 a w1 hv1 hk1 hn1 S
  subst hv1
  refine l_done (then_n (f_cond (S.tm rfl) (fun hb2 => ?_) (fun hb2 => ?_)))
  ·replace h := iteT h hb2
   refine f_seq (f_region (lv S (rn_assign rfl) rfl ?_)); clear S; intro a S
   refine l_done (then_n (wp_ret (then_r (blk_r (then_r ?_)))))
   subst h
   exact f_ret S Tryz.results68 rfl rfl
  ·replace h := iteF h hb2
   refine wp_skip (then_n (f_seq (f_region (lv S (rn_assign rfl) rfl ?_)))); clear S; intro a S
   refine l_done (then_n (wp_ret (blk_r (then_r ?_))))
   subst h
   exact f_ret S Tryz.results68 rfl rfl
 ·replace h := iteF h hb1
  refine f_seq (f_seq (f_region (lv S (rn_eql (S.tm rfl) rfl) rfl ?_))); clear S; intro a S
  refine lv S (rn_assign (S.tm rfl)) rfl ?_; clear S; intro a S
  refine l_done (then_n ?_)
  obtain ⟨j1, hj1, h⟩ := joinE h
  refine f_join (fun a w' => ∃ x1 : Bool, j1 x1 = r ∧ Sx w [] nov [] [(10, bV x1)] 15 a w') ?_ ?_
  ·refine f_cond (S.tm rfl) (fun hb3 => ?_) (fun hb3 => ?_)
   ·replace h := iteT h hb3
    refine wp_skip (then_n ?_)
    exact ⟨decide (p_month = 4), h, S.nf [] rfl ⟨rfl, trivial⟩⟩
   ·replace h := iteF h hb3
    refine f_seq (f_region (lv S (rn_eql (S.tm rfl) rfl) rfl ?_)); clear S; intro a S
    refine lv S (rn_assign (S.tm rfl)) rfl ?_; clear S; intro a S
    refine l_done (then_n ?_)
    obtain ⟨j2, hj2, h⟩ := joinE h
    refine f_join (fun a w' => ∃ x2 : Bool, j2 x2 = r ∧ Sx w [] nov [] [(10, bV x2)] 15 a w') ?_ ?_
    ·refine f_cond (S.tm rfl) (fun hb4 => ?_) (fun hb4 => ?_)
     ·replace h := iteT h hb4
      refine wp_skip (then_n ?_)
      exact ⟨decide (p_month = 6), h, S.nf [] rfl ⟨rfl, trivial⟩⟩
     ·replace h := iteF h hb4
      refine f_seq (f_region (lv S (rn_eql (S.tm rfl) rfl) rfl ?_)); clear S; intro a S
      refine lv S (rn_assign (S.tm rfl)) rfl ?_; clear S; intro a S
      refine l_done (then_n ?_)
      obtain ⟨j3, hj3, h⟩ := joinE h
      refine f_join (fun a w' => ∃ x3 : Bool, j3 x3 = r ∧ Sx w [] nov [] [(10, bV x3)] 15 a w') ?_ ?_
      ·refine f_cond (S.tm rfl) (fun hb5 => ?_) (fun hb5 => ?_)
       ·replace h := iteT h hb5
        refine wp_skip (then_n ?_)
        exact ⟨decide (p_month = 9), h, S.nf [] rfl ⟨rfl, trivial⟩⟩
       ·replace h := iteF h hb5
        refine f_region (lv S (rn_eql (S.tm rfl) rfl) rfl ?_); clear S; intro a S
        refine lv S (rn_assign (S.tm rfl)) rfl ?_; clear S; intro a S
        refine l_done (then_n ?_)
        exact ⟨decide (p_month = 11), h, S.nf [] rfl ⟨rfl, trivial⟩⟩
      clear S h; rintro a w4 ⟨x3, h, S⟩; rw [hj3] at h; clear hj3 j3
      refine then_n ?_
      exact ⟨x3, h, S.nf [] rfl ⟨rfl, trivial⟩⟩
    clear S h; rintro a w3 ⟨x2, h, S⟩; rw [hj2] at h; clear hj2 j2
    refine then_n ?_
    exact ⟨x2, h, S.nf [] rfl ⟨rfl, trivial⟩⟩
  clear S h; rintro a w2 ⟨x1, h, S⟩; rw [hj1] at h; clear hj1 j1
  refine then_n (f_cond (S.tm rfl) (fun hb6 => ?_) (fun hb6 => ?_))
  ·replace h := iteT h hb6
   refine f_seq (f_region (lv S (rn_assign rfl) rfl ?_)); clear S; intro a S
   refine l_done (then_n (wp_ret (blk_r (then_r ?_))))
   subst h
   exact f_ret S Tryz.results68 rfl rfl
  ·replace h := iteF h hb6
   refine wp_skip (blk_n (then_n (f_seq (f_region (lv S (rn_assign rfl) rfl ?_))))); clear S; intro a S
   refine l_done (then_n (wp_ret ?_))
   subst h
   exact f_ret S Tryz.results68 rfl rfl
theorem swimmer_yearLong_ok (w : World) (p_year : Int) (r : Int) (h : swimmer_yearLong p_year = r) :
    Calls Tryz.prog 69 [iV p_year].toArray w (Ret w [] fun _ v _ => v = iV r) := by
 refine f_enter [] [] Tryz.func69 rfl Tryz.ntmps69 rfl (by simp) (by simp [fps]) (by simp [fps]) fun a S => ?_
 unfold swimmer_yearLong at h
 replace S := S.nk [] [(0, iV p_year)] [] rfl ⟨rfl, trivial⟩
 refine f_seq (f_region (lv S (rn_assign rfl) rfl ?_)); clear S; intro a S
 refine l_done (then_n (f_seq (f_seq (f_region (lv S (rn_move (S.tm rfl)) rfl ?_))))); clear S; intro a S
 refine l_enter S (fun _ => run_call (vs := [iV p_year]) ⟨(S.tm rfl), trivial⟩ Tryz.call108) (swimmer_leap_ok _ p_year _ rfl) rfl ?_; clear S; intro v1 a w1 hv1 hk1 hn1 S
 subst hv1
 refine l_done (then_n (f_cond (S.tm rfl) (fun hb1 => ?_) (fun hb1 => ?_)))
 ·replace h := iteT h hb1
  refine f_seq (f_region (lv S (rn_assign rfl) rfl ?_)); clear S; intro a S
  refine l_done (then_n (wp_ret (then_r ?_)))
  subst h
  exact f_ret S Tryz.results69 rfl rfl
 ·replace h := iteF h hb1
  refine wp_skip (then_n (f_seq (f_region (lv S (rn_assign rfl) rfl ?_)))); clear S; intro a S
  refine l_done (then_n (wp_ret ?_))
  subst h
  exact f_ret S Tryz.results69 rfl rfl
theorem swimmer_isDay_ok (w : World) (p_n : Int) (r : Bool) (h : swimmer_isDay p_n = r) :
    Calls Tryz.prog 70 [iV p_n].toArray w (Ret w [] fun _ v _ => v = bV r) := by
 refine f_enter [] [] Tryz.func70 rfl Tryz.ntmps70 rfl (by simp) (by simp [fps]) (by simp [fps]) fun a S => ?_
 unfold swimmer_isDay at h
 replace S := S.nk [] [(0, iV p_n)] [] rfl ⟨rfl, trivial⟩
 refine f_seq (f_region (lv S (rn_assign rfl) rfl ?_)); clear S; intro a S
 refine l_done (then_n (f_seq (f_region (lv S (rn_move (S.tm rfl)) rfl ?_)))); clear S; intro a S
 refine l_enter S (fun _ => run_call (vs := [iV p_n, iV (-40000), iV 4000]) ⟨(S.tm rfl), rfl, rfl, trivial⟩ Tryz.call67) (words_Within_ok _ p_n (-40000) 4000 _ rfl) rfl ?_; clear S; intro v1 a w1 hv1 hk1 hn1 S
 subst hv1
 refine lv S (rn_assign (S.tm rfl)) rfl ?_; clear S; intro a S
 refine l_done (then_n (wp_ret ?_))
 subst h
 exact f_ret S Tryz.results70 rfl rfl
set_option maxRecDepth 20000 in
theorem swimmer_DayOf_ok (w : World) (p_d : GDate) (r : Int × Int) (h : swimmer_DayOf p_d = some r) :
    Calls Tryz.prog 37 [.agg (GDate.enc p_d).toArray].toArray w (Ret w [] fun _ v _ => v = .tuple #[iV r.1, iV r.2]) := by
 refine f_enter [] [] Tryz.func37 rfl Tryz.ntmps37 rfl (by simp) (by simp [fps]) (by simp [fps]) fun a S => ?_
 unfold swimmer_DayOf at h
 replace S := S.nk [] [(0, .agg (GDate.enc p_d).toArray)] [] rfl ⟨rfl, trivial⟩
 refine f_seq (f_region (l_box S (S.tm rfl) (cs := (GDate.enc p_d)) rfl rfl ?_)); clear S; intro a w1 b1 hz1 hk1 S
 refine lv S (rn_assign rfl) rfl ?_; clear S; intro a S
 refine lv S (rn_assign rfl) rfl ?_; clear S; intro a S
 refine l_done (then_n (f_seq (f_seq ?_)))
 obtain ⟨j1, hj1, h⟩ := joinE h
 refine f_join (fun a w' => ∃ x1 : Bool, j1 x1 = some r ∧ Sx w [] nov [.blk b1 (GDate.enc p_d) 87] [(1, .pointer (some ⟨b1, 0, none⟩)), (28, bV x1)] 68 a w') ?_ ?_
 ·rcases Bool.eq_false_or_eq_true (!(words_Within p_d.Year 1900 2100)) with hb1 | hb1
  ·replace h := iteT h hb1
   rcases Bool.eq_false_or_eq_true true with hb2 | hb2
   ·replace h := iteT h hb2
    refine d_region [] ([]) Tryz.mixed S rfl (by kernel_rfl) ?_; clear S; intro w6 hk5 hsel S
    refine d_quiet 0 S hsel rfl rfl rfl (by kernel_rfl) (by kernel_rfl) rfl (fun _ hw => (rn_fld fa_87_0 (S.tm rfl))) ?_; clear S; intro a S
    refine d_quiet 1 S hsel rfl rfl rfl (by kernel_rfl) (by kernel_rfl) rfl (fun _ hw => (rn_ld Tryz.isAgg3 (off := 0) (o := 0) (S.tm rfl) ((S.blk_mem (i := 0) (cells := (GDate.enc p_d)) (b := b1) (T := 87) rfl (ne_nil (e' := .blk b1 (GDate.enc p_d) 87))).kept hw) rfl)) ?_; clear S; intro a S
    refine d_loud1 2 (by kernel_rfl) rfl (l_enter S (fun _ => run_call (vs := [iV p_d.Year, iV 1900, iV 2100]) ⟨(S.tm rfl), rfl, rfl, trivial⟩ Tryz.call67) (words_Within_ok _ p_d.Year 1900 2100 _ rfl) rfl ?_); clear S; intro v4 a w7 hv4 hk6 hn4 S
    subst hv4
    refine l_done (d_next hk6 (d_rest [3, 4, 5, 6, 7, 8, 9, 10, 11, 12, 13, 14, 15, 16, 17, 18, 19, 20] hsel (by kernel_rfl) rfl ?_))
    clear hsel
    refine s_lv S rfl (rn_not (S.tm rfl)) rfl ?_; clear S; intro a S
    refine s_lv S rfl (rn_move (S.tm rfl)) rfl ?_; clear S; intro a S
    iterate 4 (refine s_skip S rfl rfl rfl rfl (neq_t hb1) rfl ?_ rfl; clear S; intro a S)
    refine s_lv S rfl (rn_pick_b hb1 (S.tm rfl) rfl) rfl ?_; clear S; intro a S
    refine s_lv S rfl (rn_move (S.tm rfl)) rfl ?_; clear S; intro a S
    iterate 9 (refine s_skip S rfl rfl rfl rfl (neq_t hb2) rfl ?_ rfl; clear S; intro a S)
    refine s_lv S rfl (rn_pick_b hb2 (S.tm rfl) rfl) rfl ?_; clear S; intro a S
    refine s_done ?_
    replace S := S.nk [.blk b1 (GDate.enc p_d) 87] [(1, .pointer (some ⟨b1, 0, none⟩)), (28, bV true)] [true] rfl (subR rfl)
    refine then_n ?_
    exact ⟨true, h, S.nf [true] rfl (subR rfl)⟩
   ·replace h := iteF h hb2
    refine d_region [] ([]) Tryz.mixed S rfl (by kernel_rfl) ?_; clear S; intro w11 hk10 hsel S
    refine d_quiet 0 S hsel rfl rfl rfl (by kernel_rfl) (by kernel_rfl) rfl (fun _ hw => (rn_fld fa_87_0 (S.tm rfl))) ?_; clear S; intro a S
    refine d_quiet 1 S hsel rfl rfl rfl (by kernel_rfl) (by kernel_rfl) rfl (fun _ hw => (rn_ld Tryz.isAgg3 (off := 0) (o := 0) (S.tm rfl) ((S.blk_mem (i := 0) (cells := (GDate.enc p_d)) (b := b1) (T := 87) rfl (ne_nil (e' := .blk b1 (GDate.enc p_d) 87))).kept hw) rfl)) ?_; clear S; intro a S
    refine d_loud1 2 (by kernel_rfl) rfl (l_enter S (fun _ => run_call (vs := [iV p_d.Year, iV 1900, iV 2100]) ⟨(S.tm rfl), rfl, rfl, trivial⟩ Tryz.call67) (words_Within_ok _ p_d.Year 1900 2100 _ rfl) rfl ?_); clear S; intro v8 a w12 hv8 hk11 hn8 S
    subst hv8
    refine l_done (d_next hk11 (d_quiet 3 S hsel rfl rfl rfl (by kernel_rfl) (by kernel_rfl) rfl (fun _ hw => (rn_not (S.tm rfl))) ?_)); clear S; intro a S
    refine d_quiet 4 S hsel rfl rfl rfl (by kernel_rfl) (by kernel_rfl) rfl (fun _ hw => (rn_move (S.tm rfl))) ?_; clear S; intro a S
    refine d_skip 5 S hsel rfl rfl rfl rfl (neq_t hb1) rfl (by kernel_rfl) (by kernel_rfl) rfl ?_; clear S; intro a S
    refine d_skip 6 S hsel rfl rfl rfl rfl (neq_t hb1) rfl (by kernel_rfl) (by kernel_rfl) rfl ?_; clear S; intro a S
    refine d_skip 7 S hsel rfl rfl rfl rfl (neq_t hb1) rfl (by kernel_rfl) (by kernel_rfl) rfl ?_; clear S; intro a S
    refine d_skip 8 S hsel rfl rfl rfl rfl (neq_t hb1) rfl (by kernel_rfl) (by kernel_rfl) rfl ?_; clear S; intro a S
    refine d_quiet 9 S hsel rfl rfl rfl (by kernel_rfl) (by kernel_rfl) rfl (fun _ hw => (rn_pick_b hb1 (S.tm rfl) rfl)) ?_; clear S; intro a S
    refine d_quiet 10 S hsel rfl rfl rfl (by kernel_rfl) (by kernel_rfl) rfl (fun _ hw => (rn_move (S.tm rfl))) ?_; clear S; intro a S
    refine d_quiet_g 11 S hsel rfl rfl rfl rfl hb2 rfl rfl (by kernel_rfl) (by kernel_rfl) rfl (fun _ hw => (rn_fld fa_87_2 (S.tm rfl))) ?_; clear S; intro a S
    refine d_quiet_g 12 S hsel rfl rfl rfl rfl hb2 rfl rfl (by kernel_rfl) (by kernel_rfl) rfl (fun _ hw => (rn_ld Tryz.isAgg3 (off := 0) (o := 2) (S.tm rfl) ((S.blk_mem (i := 0) (cells := (GDate.enc p_d)) (b := b1) (T := 87) rfl (ne_nil (e' := .blk b1 (GDate.enc p_d) 87))).kept hw) rfl)) ?_; clear S; intro a S
    refine d_quiet_g 13 S hsel rfl rfl rfl rfl hb2 rfl rfl (by kernel_rfl) (by kernel_rfl) rfl (fun _ hw => (rn_fld fa_87_0 (S.tm rfl))) ?_; clear S; intro a S
    refine d_quiet_g 14 S hsel rfl rfl rfl rfl hb2 rfl rfl (by kernel_rfl) (by kernel_rfl) rfl (fun _ hw => (rn_ld Tryz.isAgg3 (off := 0) (o := 0) (S.tm rfl) ((S.blk_mem (i := 0) (cells := (GDate.enc p_d)) (b := b1) (T := 87) rfl (ne_nil (e' := .blk b1 (GDate.enc p_d) 87))).kept hw) rfl)) ?_; clear S; intro a S
    refine d_quiet_g 15 S hsel rfl rfl rfl rfl hb2 rfl rfl (by kernel_rfl) (by kernel_rfl) rfl (fun _ hw => (rn_fld fa_87_1 (S.tm rfl))) ?_; clear S; intro a S
    refine d_quiet_g 16 S hsel rfl rfl rfl rfl hb2 rfl rfl (by kernel_rfl) (by kernel_rfl) rfl (fun _ hw => (rn_ld Tryz.isAgg3 (off := 0) (o := 1) (S.tm rfl) ((S.blk_mem (i := 0) (cells := (GDate.enc p_d)) (b := b1) (T := 87) rfl (ne_nil (e' := .blk b1 (GDate.enc p_d) 87))).kept hw) rfl)) ?_; clear S; intro a S
    refine d_loud1 17 (by kernel_rfl) rfl (l_want S rfl rfl rfl hb2 (l_enter S (fun _ => run_call (vs := [iV p_d.Year, iV p_d.Month]) ⟨(S.tm rfl), (S.tm rfl), trivial⟩ Tryz.call68) (swimmer_long_ok _ p_d.Year p_d.Month _ rfl) rfl ?_)); clear S; intro v9 a w13 hv9 hk12 hn9 S
    subst hv9
    refine l_done (d_next hk12 (d_loud1 18 (by kernel_rfl) rfl (l_want S rfl rfl rfl hb2 (l_enter S (fun _ => run_call (vs := [iV p_d.Day, iV 1, iV (swimmer_long p_d.Year p_d.Month)]) ⟨(S.tm rfl), rfl, (S.tm rfl), trivial⟩ Tryz.call67) (words_Within_ok _ p_d.Day 1 (swimmer_long p_d.Year p_d.Month) _ rfl) rfl ?_)))); clear S; intro v10 a w14 hv10 hk13 hn10 S
    subst hv10
    refine l_done (d_next hk13 (d_rest [19, 20] hsel (by kernel_rfl) rfl ?_))
    clear hsel
    refine s_want S rfl rfl rfl rfl hb2 (s_lv0 S (rn_not (S.tm rfl)) rfl ?_); clear S; intro a S
    refine s_lv S rfl (rn_pick_c hb2 (S.tm rfl) (S.tm rfl)) rfl ?_; clear S; intro a S
    refine s_done ?_
    replace S := S.nk [.blk b1 (GDate.enc p_d) 87] [(1, .pointer (some ⟨b1, 0, none⟩)), (28, bV (!(words_Within p_d.Day 1 (swimmer_long p_d.Year p_d.Month))))] [true] rfl (subR rfl)
    refine then_n ?_
    exact ⟨!(words_Within p_d.Day 1 (swimmer_long p_d.Year p_d.Month)), h, S.nf [true] rfl (subR rfl)⟩
  ·replace h := iteF h hb1
   rcases Bool.eq_false_or_eq_true (!(words_Within p_d.Month 1 12)) with hb3 | hb3
   ·replace h := iteT h hb3
    refine d_region [] ([]) Tryz.mixed S rfl (by kernel_rfl) ?_; clear S; intro w19 hk18 hsel S
    refine d_quiet 0 S hsel rfl rfl rfl (by kernel_rfl) (by kernel_rfl) rfl (fun _ hw => (rn_fld fa_87_0 (S.tm rfl))) ?_; clear S; intro a S
    refine d_quiet 1 S hsel rfl rfl rfl (by kernel_rfl) (by kernel_rfl) rfl (fun _ hw => (rn_ld Tryz.isAgg3 (off := 0) (o := 0) (S.tm rfl) ((S.blk_mem (i := 0) (cells := (GDate.enc p_d)) (b := b1) (T := 87) rfl (ne_nil (e' := .blk b1 (GDate.enc p_d) 87))).kept hw) rfl)) ?_; clear S; intro a S
    refine d_loud1 2 (by kernel_rfl) rfl (l_enter S (fun _ => run_call (vs := [iV p_d.Year, iV 1900, iV 2100]) ⟨(S.tm rfl), rfl, rfl, trivial⟩ Tryz.call67) (words_Within_ok _ p_d.Year 1900 2100 _ rfl) rfl ?_); clear S; intro v15 a w20 hv15 hk19 hn15 S
    subst hv15
    refine l_done (d_next hk19 (d_quiet 3 S hsel rfl rfl rfl (by kernel_rfl) (by kernel_rfl) rfl (fun _ hw => (rn_not (S.tm rfl))) ?_)); clear S; intro a S
    refine d_quiet 4 S hsel rfl rfl rfl (by kernel_rfl) (by kernel_rfl) rfl (fun _ hw => (rn_move (S.tm rfl))) ?_; clear S; intro a S
    refine d_quiet_g 5 S hsel rfl rfl rfl rfl hb1 rfl rfl (by kernel_rfl) (by kernel_rfl) rfl (fun _ hw => (rn_fld fa_87_1 (S.tm rfl))) ?_; clear S; intro a S
    refine d_quiet_g 6 S hsel rfl rfl rfl rfl hb1 rfl rfl (by kernel_rfl) (by kernel_rfl) rfl (fun _ hw => (rn_ld Tryz.isAgg3 (off := 0) (o := 1) (S.tm rfl) ((S.blk_mem (i := 0) (cells := (GDate.enc p_d)) (b := b1) (T := 87) rfl (ne_nil (e' := .blk b1 (GDate.enc p_d) 87))).kept hw) rfl)) ?_; clear S; intro a S
    refine d_loud1 7 (by kernel_rfl) rfl (l_want S rfl rfl rfl hb1 (l_enter S (fun _ => run_call (vs := [iV p_d.Month, iV 1, iV 12]) ⟨(S.tm rfl), rfl, rfl, trivial⟩ Tryz.call67) (words_Within_ok _ p_d.Month 1 12 _ rfl) rfl ?_)); clear S; intro v16 a w21 hv16 hk20 hn16 S
    subst hv16
    refine l_done (d_next hk20 (d_rest [8, 9, 10, 11, 12, 13, 14, 15, 16, 17, 18, 19, 20] hsel (by kernel_rfl) rfl ?_))
    clear hsel
    refine s_want S rfl rfl rfl rfl hb1 (s_lv0 S (rn_not (S.tm rfl)) rfl ?_); clear S; intro a S
    refine s_lv S rfl (rn_pick_c hb1 (S.tm rfl) (S.tm rfl)) rfl ?_; clear S; intro a S
    refine s_lv S rfl (rn_move (S.tm rfl)) rfl ?_; clear S; intro a S
    iterate 9 (refine s_skip S rfl rfl rfl rfl (neq_t hb3) rfl ?_ rfl; clear S; intro a S)
    refine s_lv S rfl (rn_pick_b hb3 (S.tm rfl) rfl) rfl ?_; clear S; intro a S
    refine s_done ?_
    replace S := S.nk [.blk b1 (GDate.enc p_d) 87] [(1, .pointer (some ⟨b1, 0, none⟩)), (28, bV true)] [true] rfl (subR rfl)
    refine then_n ?_
    exact ⟨true, h, S.nf [true] rfl (subR rfl)⟩
   ·replace h := iteF h hb3
    refine d_region [] ([]) Tryz.mixed S rfl (by kernel_rfl) ?_; clear S; intro w26 hk25 hsel S
    refine d_quiet 0 S hsel rfl rfl rfl (by kernel_rfl) (by kernel_rfl) rfl (fun _ hw => (rn_fld fa_87_0 (S.tm rfl))) ?_; clear S; intro a S
    refine d_quiet 1 S hsel rfl rfl rfl (by kernel_rfl) (by kernel_rfl) rfl (fun _ hw => (rn_ld Tryz.isAgg3 (off := 0) (o := 0) (S.tm rfl) ((S.blk_mem (i := 0) (cells := (GDate.enc p_d)) (b := b1) (T := 87) rfl (ne_nil (e' := .blk b1 (GDate.enc p_d) 87))).kept hw) rfl)) ?_; clear S; intro a S
    refine d_loud1 2 (by kernel_rfl) rfl (l_enter S (fun _ => run_call (vs := [iV p_d.Year, iV 1900, iV 2100]) ⟨(S.tm rfl), rfl, rfl, trivial⟩ Tryz.call67) (words_Within_ok _ p_d.Year 1900 2100 _ rfl) rfl ?_); clear S; intro v21 a w27 hv21 hk26 hn21 S
    subst hv21
    refine l_done (d_next hk26 (d_quiet 3 S hsel rfl rfl rfl (by kernel_rfl) (by kernel_rfl) rfl (fun _ hw => (rn_not (S.tm rfl))) ?_)); clear S; intro a S
    refine d_quiet 4 S hsel rfl rfl rfl (by kernel_rfl) (by kernel_rfl) rfl (fun _ hw => (rn_move (S.tm rfl))) ?_; clear S; intro a S
    refine d_quiet_g 5 S hsel rfl rfl rfl rfl hb1 rfl rfl (by kernel_rfl) (by kernel_rfl) rfl (fun _ hw => (rn_fld fa_87_1 (S.tm rfl))) ?_; clear S; intro a S
    refine d_quiet_g 6 S hsel rfl rfl rfl rfl hb1 rfl rfl (by kernel_rfl) (by kernel_rfl) rfl (fun _ hw => (rn_ld Tryz.isAgg3 (off := 0) (o := 1) (S.tm rfl) ((S.blk_mem (i := 0) (cells := (GDate.enc p_d)) (b := b1) (T := 87) rfl (ne_nil (e' := .blk b1 (GDate.enc p_d) 87))).kept hw) rfl)) ?_; clear S; intro a S
    refine d_loud1 7 (by kernel_rfl) rfl (l_want S rfl rfl rfl hb1 (l_enter S (fun _ => run_call (vs := [iV p_d.Month, iV 1, iV 12]) ⟨(S.tm rfl), rfl, rfl, trivial⟩ Tryz.call67) (words_Within_ok _ p_d.Month 1 12 _ rfl) rfl ?_)); clear S; intro v22 a w28 hv22 hk27 hn22 S
    subst hv22
    refine l_done (d_next hk27 (d_quiet_g 8 S hsel rfl rfl rfl rfl hb1 rfl rfl (by kernel_rfl) (by kernel_rfl) rfl (fun _ hw => (rn_not (S.tm rfl))) ?_)); clear S; intro a S
    refine d_quiet 9 S hsel rfl rfl rfl (by kernel_rfl) (by kernel_rfl) rfl (fun _ hw => (rn_pick_c hb1 (S.tm rfl) (S.tm rfl))) ?_; clear S; intro a S
    refine d_quiet 10 S hsel rfl rfl rfl (by kernel_rfl) (by kernel_rfl) rfl (fun _ hw => (rn_move (S.tm rfl))) ?_; clear S; intro a S
    refine d_quiet_g 11 S hsel rfl rfl rfl rfl hb3 rfl rfl (by kernel_rfl) (by kernel_rfl) rfl (fun _ hw => (rn_fld fa_87_2 (S.tm rfl))) ?_; clear S; intro a S
    refine d_quiet_g 12 S hsel rfl rfl rfl rfl hb3 rfl rfl (by kernel_rfl) (by kernel_rfl) rfl (fun _ hw => (rn_ld Tryz.isAgg3 (off := 0) (o := 2) (S.tm rfl) ((S.blk_mem (i := 0) (cells := (GDate.enc p_d)) (b := b1) (T := 87) rfl (ne_nil (e' := .blk b1 (GDate.enc p_d) 87))).kept hw) rfl)) ?_; clear S; intro a S
    refine d_quiet_g 13 S hsel rfl rfl rfl rfl hb3 rfl rfl (by kernel_rfl) (by kernel_rfl) rfl (fun _ hw => (rn_fld fa_87_0 (S.tm rfl))) ?_; clear S; intro a S
    refine d_quiet_g 14 S hsel rfl rfl rfl rfl hb3 rfl rfl (by kernel_rfl) (by kernel_rfl) rfl (fun _ hw => (rn_ld Tryz.isAgg3 (off := 0) (o := 0) (S.tm rfl) ((S.blk_mem (i := 0) (cells := (GDate.enc p_d)) (b := b1) (T := 87) rfl (ne_nil (e' := .blk b1 (GDate.enc p_d) 87))).kept hw) rfl)) ?_; clear S; intro a S
    refine d_quiet_g 15 S hsel rfl rfl rfl rfl hb3 rfl rfl (by kernel_rfl) (by kernel_rfl) rfl (fun _ hw => (rn_fld fa_87_1 (S.tm rfl))) ?_; clear S; intro a S
    refine d_quiet_g 16 S hsel rfl rfl rfl rfl hb3 rfl rfl (by kernel_rfl) (by kernel_rfl) rfl (fun _ hw => (rn_ld Tryz.isAgg3 (off := 0) (o := 1) (S.tm rfl) ((S.blk_mem (i := 0) (cells := (GDate.enc p_d)) (b := b1) (T := 87) rfl (ne_nil (e' := .blk b1 (GDate.enc p_d) 87))).kept hw) rfl)) ?_; clear S; intro a S
    refine d_loud1 17 (by kernel_rfl) rfl (l_want S rfl rfl rfl hb3 (l_enter S (fun _ => run_call (vs := [iV p_d.Year, iV p_d.Month]) ⟨(S.tm rfl), (S.tm rfl), trivial⟩ Tryz.call68) (swimmer_long_ok _ p_d.Year p_d.Month _ rfl) rfl ?_)); clear S; intro v23 a w29 hv23 hk28 hn23 S
    subst hv23
    refine l_done (d_next hk28 (d_loud1 18 (by kernel_rfl) rfl (l_want S rfl rfl rfl hb3 (l_enter S (fun _ => run_call (vs := [iV p_d.Day, iV 1, iV (swimmer_long p_d.Year p_d.Month)]) ⟨(S.tm rfl), rfl, (S.tm rfl), trivial⟩ Tryz.call67) (words_Within_ok _ p_d.Day 1 (swimmer_long p_d.Year p_d.Month) _ rfl) rfl ?_)))); clear S; intro v24 a w30 hv24 hk29 hn24 S
    subst hv24
    refine l_done (d_next hk29 (d_rest [19, 20] hsel (by kernel_rfl) rfl ?_))
    clear hsel
    refine s_want S rfl rfl rfl rfl hb3 (s_lv0 S (rn_not (S.tm rfl)) rfl ?_); clear S; intro a S
    refine s_lv S rfl (rn_pick_c hb3 (S.tm rfl) (S.tm rfl)) rfl ?_; clear S; intro a S
    refine s_done ?_
    replace S := S.nk [.blk b1 (GDate.enc p_d) 87] [(1, .pointer (some ⟨b1, 0, none⟩)), (28, bV (!(words_Within p_d.Day 1 (swimmer_long p_d.Year p_d.Month))))] [true] rfl (subR rfl)
    refine then_n ?_
    exact ⟨!(words_Within p_d.Day 1 (swimmer_long p_d.Year p_d.Month)), h, S.nf [true] rfl (subR rfl)⟩
 clear S h; rintro a w2 ⟨x1, h, S⟩; rw [hj1] at h; clear hj1 j1
 refine then_n (f_cond (S.tm rfl) (fun hb4 => ?_) (fun hb4 => ?_))
 ·replace h := iteT h hb4
  refine f_seq (f_region (lv S (rn_assign rfl) rfl ?_)); clear S; intro a S
  refine lv S (rn_assign rfl) rfl ?_; clear S; intro a S
  refine l_done (then_n (wp_ret (then_r ?_)))
  obtain rfl := Option.some.inj h
  exact f_ret2 S Tryz.results37 rfl rfl rfl
 ·replace h := iteF h hb4
  refine wp_skip (then_n (f_seq (f_region (lv S (rn_fld fa_87_2 (S.tm rfl)) rfl ?_)))); clear S; intro a S
  refine lv S (rn_load Tryz.isAgg3 (S.tm rfl) (S.cell (i := 0) rfl rfl)) rfl ?_; clear S; intro a S
  refine lv S (rn_sub (S.tm rfl) rfl) rfl ?_; clear S; intro a S
  refine lv S (rn_assign (S.tm rfl)) rfl ?_; clear S; intro a S
  refine l_done (then_n (f_seq (f_seq (f_region (lv S (rn_assign rfl) rfl ?_))))); clear S; intro a S
  refine l_done (then_n ?_)
  replace S := S.nk [.blk b1 (GDate.enc p_d) 87] [(1, .pointer (some ⟨b1, 0, none⟩)), (4, iV (W (p_d.Day - 1))), (5, iV 1)] [true] rfl (subR rfl)
  obtain ⟨j2, hj2, h⟩ := joinE h
  refine f_join (fun a w' => ∃ x2 : Int, j2 x2 = some r ∧ Sx w [] nov [.blk b1 (GDate.enc p_d) 87] [(1, .pointer (some ⟨b1, 0, none⟩)), (4, iV x2)] 68 a w') ?_ ?_
  ·refine wp_block (f_loop (fun (m1 : Nat) a w' => ∃ x2 : Int, ∃ x3 : Int, swimmer_DayOf_l1 p_d j2 m1 x2 x3 = some r ∧ Sx w [] nov [.blk b1 (GDate.enc p_d) 87] [(1, .pointer (some ⟨b1, 0, none⟩)), (4, iV x2), (5, iV x3)] 68 a w') id ((p_d.Month - 1).toNat + 2) ⟨W (p_d.Day - 1), 1, h, S.nf [true] rfl (subR rfl)⟩ ?_)
   clear S h; rintro m1 a w31 ⟨x2, x3, h, S⟩
   cases m1 with
   | zero => rw [swimmer_DayOf_l1.eq_1] at h; cases h
   | succ m1 =>
    rw [swimmer_DayOf_l1.eq_2] at h
    refine f_seq (f_seq (f_region (lv S (rn_move (S.tm rfl)) rfl ?_))); clear S; intro a S
    refine lv S (rn_fld fa_87_1 (S.tm rfl)) rfl ?_; clear S; intro a S
    refine lv S (rn_load Tryz.isAgg3 (S.tm rfl) (S.cell (i := 0) rfl rfl)) rfl ?_; clear S; intro a S
    refine lv S (rn_lss (S.tm rfl) (S.tm rfl)) rfl ?_; clear S; intro a S
    refine l_done (then_n (f_cond (S.tm rfl) (fun hb5 => ?_) (fun hb5 => ?_)))
    ·replace h := iteT h hb5
     refine wp_skip (then_n (f_seq (wp_block (f_region (lv S (rn_move (S.tm rfl)) rfl ?_))))); clear S; intro a S
     refine lv S (rn_fld fa_87_0 (S.tm rfl)) rfl ?_; clear S; intro a S
     refine lv S (rn_load Tryz.isAgg3 (S.tm rfl) (S.cell (i := 0) rfl rfl)) rfl ?_; clear S; intro a S
     refine lv S (rn_move (S.tm rfl)) rfl ?_; clear S; intro a S
     refine l_enter S (fun _ => run_call (vs := [iV p_d.Year, iV x3]) ⟨(S.tm rfl), (S.tm rfl), trivial⟩ Tryz.call68) (swimmer_long_ok _ p_d.Year x3 _ rfl) rfl ?_; clear S; intro v25 a w33 hv25 hk30 hn25 S
     subst hv25
     refine lv S (rn_add (S.tm rfl) (S.tm rfl)) rfl ?_; clear S; intro a S
     refine lv S (rn_assign (S.tm rfl)) rfl ?_; clear S; intro a S
     refine l_done (blk_n (then_n (f_region (lv S (rn_move (S.tm rfl)) rfl ?_)))); clear S; intro a S
     refine lv S (rn_add (S.tm rfl) rfl) rfl ?_; clear S; intro a S
     refine lv S (rn_assign (S.tm rfl)) rfl ?_; clear S; intro a S
     refine l_done ?_
     replace S := S.nk [.blk b1 (GDate.enc p_d) 87] [(1, .pointer (some ⟨b1, 0, none⟩)), (4, iV (W (x2 + (swimmer_long p_d.Year x3)))), (5, iV (W (x3 + 1)))] [true] rfl (subR rfl)
     refine then_n ?_
     exact ⟨m1, ⟨W (x2 + (swimmer_long p_d.Year x3)), W (x3 + 1), h, S.nf [true] rfl ⟨rfl, rfl, rfl, trivial⟩⟩, Nat.lt_succ_self _⟩
    ·replace h := iteF h hb5
     refine wp_exit (then_x (then_x (x_same (then_n ?_))))
     exact ⟨x2, h, S.nf [true] rfl (subR rfl)⟩
  clear S h; rintro a w32 ⟨x2, h, S⟩; rw [hj2] at h; clear hj2 j2
  refine then_n (f_seq (f_seq (f_region (lv S (rn_assign rfl) rfl ?_)))); clear S; intro a S
  refine l_done (then_n ?_)
  replace S := S.nk [.blk b1 (GDate.enc p_d) 87] [(1, .pointer (some ⟨b1, 0, none⟩)), (4, iV x2), (6, iV 2024)] [true] rfl (subR rfl)
  obtain ⟨j3, hj3, h⟩ := joinE h
  refine f_join (fun a w' => ∃ x4 : Int, j3 x4 = some r ∧ Sx w [] nov [.blk b1 (GDate.enc p_d) 87] [(1, .pointer (some ⟨b1, 0, none⟩)), (4, iV x4)] 68 a w') ?_ ?_
  ·refine wp_block (f_loop (fun (m2 : Nat) a w' => ∃ x4 : Int, ∃ x5 : Int, swimmer_DayOf_l2 p_d j3 m2 x4 x5 = some r ∧ Sx w [] nov [.blk b1 (GDate.enc p_d) 87] [(1, .pointer (some ⟨b1, 0, none⟩)), (4, iV x4), (6, iV x5)] 68 a w') id ((p_d.Year - 2024).toNat + 2) ⟨x2, 2024, h, S.nf [true] rfl (subR rfl)⟩ ?_)
   clear S h; rintro m2 a w34 ⟨x4, x5, h, S⟩
   cases m2 with
   | zero => rw [swimmer_DayOf_l2.eq_1] at h; cases h
   | succ m2 =>
    rw [swimmer_DayOf_l2.eq_2] at h
    refine f_seq (f_seq (f_region (lv S (rn_move (S.tm rfl)) rfl ?_))); clear S; intro a S
    refine lv S (rn_fld fa_87_0 (S.tm rfl)) rfl ?_; clear S; intro a S
    refine lv S (rn_load Tryz.isAgg3 (S.tm rfl) (S.cell (i := 0) rfl rfl)) rfl ?_; clear S; intro a S
    refine lv S (rn_lss (S.tm rfl) (S.tm rfl)) rfl ?_; clear S; intro a S
    refine l_done (then_n (f_cond (S.tm rfl) (fun hb6 => ?_) (fun hb6 => ?_)))
    ·replace h := iteT h hb6
     refine wp_skip (then_n (f_seq (wp_block (f_region (lv S (rn_move (S.tm rfl)) rfl ?_))))); clear S; intro a S
     refine lv S (rn_move (S.tm rfl)) rfl ?_; clear S; intro a S
     refine l_enter S (fun _ => run_call (vs := [iV x5]) ⟨(S.tm rfl), trivial⟩ Tryz.call69) (swimmer_yearLong_ok _ x5 _ rfl) rfl ?_; clear S; intro v26 a w36 hv26 hk31 hn26 S
     subst hv26
     refine lv S (rn_add (S.tm rfl) (S.tm rfl)) rfl ?_; clear S; intro a S
     refine lv S (rn_assign (S.tm rfl)) rfl ?_; clear S; intro a S
     refine l_done (blk_n (then_n (f_region (lv S (rn_move (S.tm rfl)) rfl ?_)))); clear S; intro a S
     refine lv S (rn_add (S.tm rfl) rfl) rfl ?_; clear S; intro a S
     refine lv S (rn_assign (S.tm rfl)) rfl ?_; clear S; intro a S
     refine l_done (then_n ?_)
     exact ⟨m2, ⟨W (x4 + (swimmer_yearLong x5)), W (x5 + 1), h, S.nf [true] rfl ⟨rfl, rfl, rfl, trivial⟩⟩, Nat.lt_succ_self _⟩
    ·replace h := iteF h hb6
     refine wp_exit (then_x (then_x (x_same (then_n ?_))))
     exact ⟨x4, h, S.nf [true] rfl (subR rfl)⟩
  clear S h; rintro a w35 ⟨x4, h, S⟩; rw [hj3] at h; clear hj3 j3
  refine then_n (f_seq (f_seq (f_region (lv S (rn_fld fa_87_0 (S.tm rfl)) rfl ?_)))); clear S; intro a S
  refine lv S (rn_load Tryz.isAgg3 (S.tm rfl) (S.cell (i := 0) rfl rfl)) rfl ?_; clear S; intro a S
  refine lv S (rn_assign (S.tm rfl)) rfl ?_; clear S; intro a S
  refine l_done (then_n ?_)
  replace S := S.nk [] [(4, iV x4), (7, iV p_d.Year)] [false] rfl (subR rfl)
  obtain ⟨j4, hj4, h⟩ := joinE h
  refine f_join (fun a w' => ∃ x6 : Int, j4 x6 = some r ∧ Sx w [] nov [] [(4, iV x6)] 68 a w') ?_ ?_
  ·refine wp_block (f_loop (fun (m3 : Nat) a w' => ∃ x6 : Int, ∃ x7 : Int, swimmer_DayOf_l3 j4 m3 x6 x7 = some r ∧ Sx w [] nov [] [(4, iV x6), (7, iV x7)] 68 a w') id ((2024 - p_d.Year).toNat + 2) ⟨x4, p_d.Year, h, S.nf [] rfl (subR rfl)⟩ ?_)
   clear S h; rintro m3 a w37 ⟨x6, x7, h, S⟩
   cases m3 with
   | zero => rw [swimmer_DayOf_l3.eq_1] at h; cases h
   | succ m3 =>
    rw [swimmer_DayOf_l3.eq_2] at h
    refine f_seq (f_seq (f_region (lv S (rn_move (S.tm rfl)) rfl ?_))); clear S; intro a S
    refine lv S (rn_lss (S.tm rfl) rfl) rfl ?_; clear S; intro a S
    refine l_done (then_n (f_cond (S.tm rfl) (fun hb7 => ?_) (fun hb7 => ?_)))
    ·replace h := iteT h hb7
     refine wp_skip (then_n (f_seq (wp_block (f_region (lv S (rn_move (S.tm rfl)) rfl ?_))))); clear S; intro a S
     refine lv S (rn_move (S.tm rfl)) rfl ?_; clear S; intro a S
     refine l_enter S (fun _ => run_call (vs := [iV x7]) ⟨(S.tm rfl), trivial⟩ Tryz.call69) (swimmer_yearLong_ok _ x7 _ rfl) rfl ?_; clear S; intro v27 a w39 hv27 hk32 hn27 S
     subst hv27
     refine lv S (rn_sub (S.tm rfl) (S.tm rfl)) rfl ?_; clear S; intro a S
     refine lv S (rn_assign (S.tm rfl)) rfl ?_; clear S; intro a S
     refine l_done (blk_n (then_n (f_region (lv S (rn_move (S.tm rfl)) rfl ?_)))); clear S; intro a S
     refine lv S (rn_add (S.tm rfl) rfl) rfl ?_; clear S; intro a S
     refine lv S (rn_assign (S.tm rfl)) rfl ?_; clear S; intro a S
     refine l_done (then_n ?_)
     exact ⟨m3, ⟨W (x6 - (swimmer_yearLong x7)), W (x7 + 1), h, S.nf [] rfl ⟨rfl, rfl, trivial⟩⟩, Nat.lt_succ_self _⟩
    ·replace h := iteF h hb7
     refine wp_exit (then_x (then_x (x_same (then_n ?_))))
     exact ⟨x6, h, S.nf [] rfl ⟨rfl, trivial⟩⟩
  clear S h; rintro a w38 ⟨x6, h, S⟩; rw [hj4] at h; clear hj4 j4
  refine then_n (f_seq (f_seq (f_region (lv S (rn_move (S.tm rfl)) rfl ?_)))); clear S; intro a S
  refine l_enter S (fun _ => run_call (vs := [iV x6]) ⟨(S.tm rfl), trivial⟩ Tryz.call70) (swimmer_isDay_ok _ x6 _ rfl) rfl ?_; clear S; intro v28 a w40 hv28 hk33 hn28 S
  subst hv28
  refine lv S (rn_not (S.tm rfl)) rfl ?_; clear S; intro a S
  refine l_done (then_n (f_cond (S.tm rfl) (fun hb8 => ?_) (fun hb8 => ?_)))
  ·replace h := iteT h hb8
   refine f_seq (f_region (lv S (rn_assign rfl) rfl ?_)); clear S; intro a S
   refine lv S (rn_assign rfl) rfl ?_; clear S; intro a S
   refine l_done (then_n (wp_ret (then_r ?_)))
   obtain rfl := Option.some.inj h
   exact f_ret2 S Tryz.results37 rfl rfl rfl
  ·replace h := iteF h hb8
   refine wp_skip (then_n (f_seq (f_region (lv S (rn_move (S.tm rfl)) rfl ?_)))); clear S; intro a S
   refine lv S (rn_assign (S.tm rfl)) rfl ?_; clear S; intro a S
   refine lv S (rn_assign rfl) rfl ?_; clear S; intro a S
   refine l_done (then_n (wp_ret ?_))
   obtain rfl := Option.some.inj h
   exact f_ret2 S Tryz.results37 rfl rfl rfl
theorem session_CheckItems_ok (w : World) (v_p_l : Value) (p_l : List GItem) (hs_p_l : Slc (view w []) 5 v_p_l (p_l.map GItem.enc)) (r : Int) (h : session_CheckItems p_l = some r) :
    Calls Tryz.prog 109 [v_p_l].toArray w (Ret w [] fun _ v _ => v = iV r) := by
 refine f_enter [] [] Tryz.func109 rfl Tryz.ntmps109 rfl (by simp) (by simp [fps]) (by simp [fps]) fun a S => ?_
 unfold session_CheckItems at h
 replace S := S.nk [] [(0, v_p_l)] [] rfl ⟨rfl, trivial⟩
 refine f_seq (f_region (lv S (rn_assign rfl) rfl ?_)); clear S; intro a S
 refine l_done (then_n (f_seq (f_seq (f_region (lv S (rn_move (S.tm rfl)) rfl ?_))))); clear S; intro a S
 refine lv S (rn_lenT sl_91 (S.tm rfl) (slc_len hs_p_l)) rfl ?_; clear S; intro a S
 refine lv S (rn_gtr (S.tm rfl) rfl) rfl ?_; clear S; intro a S
 refine l_done (then_n (f_cond (S.tm rfl) (fun hb1 => ?_) (fun hb1 => ?_)))
 ·replace h := iteT h hb1
  refine f_seq (f_region (lv S (rn_assign rfl) rfl ?_)); clear S; intro a S
  refine l_done (then_n (wp_ret (then_r ?_)))
  obtain rfl := Option.some.inj h
  exact f_ret S Tryz.results109 rfl rfl
 ·replace h := iteF h hb1
  refine wp_skip (then_n (f_seq (f_region (l_makeMap (κ := ByteArray) (ν := Bool) S rfl Value.string Value.bool ?_)))); clear S; intro a w1 b1 hz1 hk1 S
  refine lv S (rn_assign (S.tm rfl)) rfl ?_; clear S; intro a S
  refine l_done (then_n (f_seq (f_seq (f_region (lv S (rn_move (S.tm rfl)) rfl ?_))))); clear S; intro a S
  refine lv S (rn_lenT sl_91 (S.tm rfl) (slc_len hs_p_l)) rfl ?_; clear S; intro a S
  refine lv S (rn_move rfl) rfl ?_; clear S; intro a S
  refine l_done (then_n ?_)
  replace S := S.nk [.map b1 (ments Value.string Value.bool ([] : List (ByteArray × Bool))) ([] : List (ByteArray × Bool)).length] [(3, .map (some b1)), (10, v_p_l), (11, iV (p_l.length : Int)), (12, iV 0)] [true] rfl (subR rfl)
  obtain ⟨j1, hj1, h⟩ := joinE h
  refine f_join (fun a w' => ∃ x1 : List (ByteArray × Bool), j1 x1 = some r ∧ Sx w [] nov [.map b1 (ments Value.string Value.bool x1) x1.length] [] 53 a w') ?_ ?_
  ·refine wp_block (f_loop (fun (ys1 : List GItem) a w' => ∃ i1 : Nat, ∃ x1 : List (ByteArray × Bool), (∃ dn, p_l = dn ++ ys1 ∧ dn.length = i1) ∧ session_CheckItems_l1 j1 ys1 i1 x1 = some r ∧ Sx w [] nov [.map b1 (ments Value.string Value.bool x1) x1.length] [(3, .map (some b1)), (10, v_p_l), (11, iV (p_l.length : Int)), (12, iV (i1 : Int))] 53 a w') List.length p_l ⟨0, ([] : List (ByteArray × Bool)), ⟨[], rfl, rfl⟩, h, S.nf [true] rfl (subR rfl)⟩ ?_)
   clear S h; rintro ys1 a w2 ⟨i1, x1, ⟨dn, hd1, hi1⟩, h, S⟩
   cases ys1 with
   | nil =>
    rw [session_CheckItems_l1.eq_1] at h
    refine f_seq (f_region (lv S (rn_lss (S.tm rfl) (S.tm rfl)) rfl ?_)); clear S; intro a S
    refine l_done ?_
    replace S := S.nk [.map b1 (ments Value.string Value.bool x1) x1.length] [(3, .map (some b1)), (10, v_p_l), (11, iV (p_l.length : Int)), (12, iV (i1 : Int)), (13, bV (decide ((i1 : Int) < (p_l.length : Int))))] [true] rfl (subR rfl)
    refine then_n (f_seq (wp_cond_false ((S.tm rfl).trans (congrArg Value.bool (rng_nil hd1 hi1))) (wp_exit (then_x (then_x (x_same ?_))))))
    refine then_n ?_
    exact ⟨x1, h, S.nf [true] rfl trivial⟩
   | cons y1 ys1 =>
    rw [session_CheckItems_l1.eq_2] at h
    refine f_seq (f_region (lv S (rn_lss (S.tm rfl) (S.tm rfl)) rfl ?_)); clear S; intro a S
    refine l_done ?_
    replace S := S.nk [.map b1 (ments Value.string Value.bool x1) x1.length] [(3, .map (some b1)), (10, v_p_l), (11, iV (p_l.length : Int)), (12, iV (i1 : Int)), (13, bV (decide ((i1 : Int) < (p_l.length : Int))))] [true] rfl (subR rfl)
    refine then_n (f_seq (wp_cond_true ((S.tm rfl).trans (congrArg Value.bool (rng_cons hd1 hi1))) (wp_skip (then_n (f_seq (wp_block ?_))))))
    refine f_seq (f_region ?_)
    obtain ⟨b2, o1, hm1, hr1⟩ := rn_indexT (a := a) (x := .tmp 10) (y := .tmp 12) (ty := 0) sl_91 hs_p_l (get_mid hd1 hi1) rfl (S.tm rfl) (S.tm rfl)
    refine lv S (hr1 _) rfl ?_; clear S; intro a S
    clear hr1
    refine lv S (rn_ldA Tryz.isAgg90 Tryz.sizeOf90 (off := o1) (o := 0) (part := (GItem.enc y1)) rfl rfl (S.tm rfl) (hm1.at S.emb0)) rfl ?_; clear S; intro a S
    refine l_alloc S Tryz.zeroValue90 (cs := [sV k_empty, iV 0, iV 0, iV 0, iV 0]) rfl rfl ?_; clear S; intro a w4 b3 hz2 hk2 S
    refine l_store S (S.tm rfl) (S.tm rfl) (i := 0) (off := 0) rfl Tryz.sizeOf90 (vs := (GItem.enc y1)) rfl rfl rfl rfl ?_; clear S; intro w5 hk3 S
    refine l_done (then_n (f_seq (wp_block (f_seq (f_region (lv S (rn_fld fa_90_0 (S.tm rfl)) rfl ?_)))))); clear S; intro a S
    refine lv S (rn_load Tryz.isAgg9 (S.tm rfl) (S.cell (i := 0) rfl rfl)) rfl ?_; clear S; intro a S
    obtain ⟨r1, hr2, h⟩ := bindE h
    refine l_enter S (fun _ => run_call (vs := [sV y1.Key]) ⟨(S.tm rfl), trivial⟩ Tryz.call86) (words_IsKey_ok _ y1.Key _ hr2) rfl ?_; clear S; intro v1 a w6 hv1 hk4 hn1 S
    subst hv1
    refine lv S (rn_not (S.tm rfl)) rfl ?_; clear S; intro a S
    refine lv S (rn_assign (S.tm rfl)) rfl ?_; clear S; intro a S
    refine l_done (then_n (f_cond (S.tm rfl) (fun hb2 => ?_) (fun hb2 => ?_)))
    ·replace h := iteT h hb2
     refine f_seq (f_region (lv S (rn_assign rfl) rfl ?_)); clear S; intro a S
     refine l_done (then_n (wp_ret (blk_r (then_r (blk_r (then_r ?_))))))
     refine then_r (blk_r (then_r (then_r ?_)))
     obtain rfl := Option.some.inj h
     exact f_ret S Tryz.results109 rfl rfl
    ·replace h := iteF h hb2
     refine f_seq (f_region (lv S (rn_move (S.tm rfl)) rfl ?_)); clear S; intro a S
     refine lv S (rn_fld fa_90_0 (S.tm rfl)) rfl ?_; clear S; intro a S
     refine lv S (rn_load Tryz.isAgg9 (S.tm rfl) (S.cell (i := 0) rfl rfl)) rfl ?_; clear S; intro a S
     refine lv S (rn_lookup (kv := Value.string) (vv := Value.bool) (m := x1) (key := y1.Key) (z := false) (S.map_at (i := 1) rfl) Tryz.underlying186 (keyT_str Tryz.underlying9) Tryz.zeroValue4 (S.tm rfl) (S.tm rfl)) rfl ?_; clear S; intro a S
     refine lv S (rn_assign (S.tm rfl)) rfl ?_; clear S; intro a S
     refine l_done ?_
     replace S := S.nk [.blk b3 (GItem.enc y1) 90, .map b1 (ments Value.string Value.bool x1) x1.length] [(3, .map (some b1)), (5, .pointer (some ⟨b3, 0, none⟩)), (10, v_p_l), (11, iV (p_l.length : Int)), (12, iV (i1 : Int)), (21, bV (mgetD x1 y1.Key false))] [true, true] rfl (subR rfl)
     refine then_n (f_cond (S.tm rfl) (fun hb3 => ?_) (fun hb3 => ?_))
     ·replace h := iteT h hb3
      refine f_seq (f_region (lv S (rn_assign rfl) rfl ?_)); clear S; intro a S
      refine l_done (then_n (wp_ret (blk_r (then_r (blk_r (then_r ?_))))))
      refine then_r (blk_r (then_r (then_r ?_)))
      obtain rfl := Option.some.inj h
      exact f_ret S Tryz.results109 rfl rfl
     ·replace h := iteF h hb3
      refine f_seq (f_region (lv S (rn_fld fa_90_1 (S.tm rfl)) rfl ?_)); clear S; intro a S
      refine lv S (rn_load Tryz.isAgg3 (S.tm rfl) (S.cell (i := 0) rfl rfl)) rfl ?_; clear S; intro a S
      refine l_enter S (fun _ => run_call (vs := [iV y1.Heats, iV 1, iV 60]) ⟨(S.tm rfl), rfl, rfl, trivial⟩ Tryz.call67) (words_Within_ok _ y1.Heats 1 60 _ rfl) rfl ?_; clear S; intro v2 a w7 hv2 hk5 hn2 S
      subst hv2
      refine lv S (rn_not (S.tm rfl)) rfl ?_; clear S; intro a S
      refine lv S (rn_move (S.tm rfl)) rfl ?_; clear S; intro a S
      refine f_cutm 5 (fun a w' => Keep [] w7 w' ∧ Sx w [] nov [.blk b3 (GItem.enc y1) 90, .map b1 (ments Value.string Value.bool x1) x1.length] [(3, .map (some b1)), (5, .pointer (some ⟨b3, 0, none⟩)), (10, v_p_l), (11, iV (p_l.length : Int)), (12, iV (i1 : Int)), (36, bV ((!(words_Within y1.Heats 1 60)) || (!(words_Within y1.Long 1 3600000))))] 53 a w') ?_ ?_
      ·rcases Bool.eq_false_or_eq_true (!(words_Within y1.Heats 1 60)) with hb4 | hb4
       ·iterate 4 (refine l_skip S rfl rfl rfl (neq_t hb4) rfl ?_ rfl; clear S; intro a S)
        refine lv S (rn_or_t (!(words_Within y1.Long 1 3600000)) hb4 (S.tm rfl) rfl) rfl ?_; clear S; intro a S
        refine l_done (then_n ?_)
        exact ⟨Keep.refl _ _, S.nf [true, true] rfl (subR rfl)⟩
       ·refine l_want S rfl rfl rfl hb4 (lv S (rn_fld fa_90_2 (S.tm rfl)) rfl ?_); clear S; intro a S
        refine l_want S rfl rfl rfl hb4 (lv S (rn_load Tryz.isAgg3 (S.tm rfl) (S.cell (i := 0) rfl rfl)) rfl ?_); clear S; intro a S
        refine l_want S rfl rfl rfl hb4 (l_enter S (fun _ => run_call (vs := [iV y1.Long, iV 1, iV 3600000]) ⟨(S.tm rfl), rfl, rfl, trivial⟩ Tryz.call67) (words_Within_ok _ y1.Long 1 3600000 _ rfl) rfl ?_); clear S; intro v3 a w9 hv3 hk6 hn3 S
        subst hv3
        refine l_want S rfl rfl rfl hb4 (lv S (rn_not (S.tm rfl)) rfl ?_); clear S; intro a S
        refine lv S (rn_or_f hb4 (S.tm rfl) (S.tm rfl)) rfl ?_; clear S; intro a S
        refine l_done (then_n ?_)
        exact ⟨hk6, S.nf [true, true] rfl (subR rfl)⟩
      clear S; rintro a w8 ⟨hk7, S⟩
      refine lv S (rn_move (S.tm rfl)) rfl ?_; clear S; intro a S
      refine f_cutm 5 (fun a w' => Keep [] w8 w' ∧ Sx w [] nov [.blk b3 (GItem.enc y1) 90, .map b1 (ments Value.string Value.bool x1) x1.length] [(3, .map (some b1)), (5, .pointer (some ⟨b3, 0, none⟩)), (10, v_p_l), (11, iV (p_l.length : Int)), (12, iV (i1 : Int)), (42, bV (((!(words_Within y1.Heats 1 60)) || (!(words_Within y1.Long 1 3600000))) || (!(words_Within y1.Gap 0 3600000))))] 53 a w') ?_ ?_
      ·rcases Bool.eq_false_or_eq_true ((!(words_Within y1.Heats 1 60)) || (!(words_Within y1.Long 1 3600000))) with hb5 | hb5
       ·iterate 4 (refine l_skip S rfl rfl rfl (neq_t hb5) rfl ?_ rfl; clear S; intro a S)
        refine lv S (rn_or_t (!(words_Within y1.Gap 0 3600000)) hb5 (S.tm rfl) rfl) rfl ?_; clear S; intro a S
        refine l_done (then_n ?_)
        exact ⟨Keep.refl _ _, S.nf [true, true] rfl (subR rfl)⟩
       ·refine l_want S rfl rfl rfl hb5 (lv S (rn_fld fa_90_3 (S.tm rfl)) rfl ?_); clear S; intro a S
        refine l_want S rfl rfl rfl hb5 (lv S (rn_load Tryz.isAgg3 (S.tm rfl) (S.cell (i := 0) rfl rfl)) rfl ?_); clear S; intro a S
        refine l_want S rfl rfl rfl hb5 (l_enter S (fun _ => run_call (vs := [iV y1.Gap, iV 0, iV 3600000]) ⟨(S.tm rfl), rfl, rfl, trivial⟩ Tryz.call67) (words_Within_ok _ y1.Gap 0 3600000 _ rfl) rfl ?_); clear S; intro v4 a w11 hv4 hk8 hn4 S
        subst hv4
        refine l_want S rfl rfl rfl hb5 (lv S (rn_not (S.tm rfl)) rfl ?_); clear S; intro a S
        refine lv S (rn_or_f hb5 (S.tm rfl) (S.tm rfl)) rfl ?_; clear S; intro a S
        refine l_done (then_n ?_)
        exact ⟨hk8, S.nf [true, true] rfl (subR rfl)⟩
      clear S; rintro a w10 ⟨hk9, S⟩
      refine lv S (rn_move (S.tm rfl)) rfl ?_; clear S; intro a S
      refine f_cutm 5 (fun a w' => Keep [] w10 w' ∧ Sx w [] nov [.blk b3 (GItem.enc y1) 90, .map b1 (ments Value.string Value.bool x1) x1.length] [(3, .map (some b1)), (5, .pointer (some ⟨b3, 0, none⟩)), (10, v_p_l), (11, iV (p_l.length : Int)), (12, iV (i1 : Int)), (48, bV ((((!(words_Within y1.Heats 1 60)) || (!(words_Within y1.Long 1 3600000))) || (!(words_Within y1.Gap 0 3600000))) || (!(words_Within y1.Break 0 3600000))))] 53 a w') ?_ ?_
      ·rcases Bool.eq_false_or_eq_true (((!(words_Within y1.Heats 1 60)) || (!(words_Within y1.Long 1 3600000))) || (!(words_Within y1.Gap 0 3600000))) with hb6 | hb6
       ·iterate 4 (refine l_skip S rfl rfl rfl (neq_t hb6) rfl ?_ rfl; clear S; intro a S)
        refine lv S (rn_or_t (!(words_Within y1.Break 0 3600000)) hb6 (S.tm rfl) rfl) rfl ?_; clear S; intro a S
        refine l_done (then_n ?_)
        exact ⟨Keep.refl _ _, S.nf [true, true] rfl (subR rfl)⟩
       ·refine l_want S rfl rfl rfl hb6 (lv S (rn_fld fa_90_4 (S.tm rfl)) rfl ?_); clear S; intro a S
        refine l_want S rfl rfl rfl hb6 (lv S (rn_load Tryz.isAgg3 (S.tm rfl) (S.cell (i := 0) rfl rfl)) rfl ?_); clear S; intro a S
        refine l_want S rfl rfl rfl hb6 (l_enter S (fun _ => run_call (vs := [iV y1.Break, iV 0, iV 3600000]) ⟨(S.tm rfl), rfl, rfl, trivial⟩ Tryz.call67) (words_Within_ok _ y1.Break 0 3600000 _ rfl) rfl ?_); clear S; intro v5 a w13 hv5 hk10 hn5 S
        subst hv5
        refine l_want S rfl rfl rfl hb6 (lv S (rn_not (S.tm rfl)) rfl ?_); clear S; intro a S
        refine lv S (rn_or_f hb6 (S.tm rfl) (S.tm rfl)) rfl ?_; clear S; intro a S
        refine l_done (then_n ?_)
        exact ⟨hk10, S.nf [true, true] rfl (subR rfl)⟩
      clear S; rintro a w12 ⟨hk11, S⟩
      refine lv S (rn_assign (S.tm rfl)) rfl ?_; clear S; intro a S
      refine l_done (then_n (f_cond (S.tm rfl) (fun hb7 => ?_) (fun hb7 => ?_)))
      ·replace h := iteT h hb7
       refine f_seq (f_region (lv S (rn_assign rfl) rfl ?_)); clear S; intro a S
       refine l_done (then_n (wp_ret (blk_r (then_r (blk_r (then_r ?_))))))
       refine then_r (blk_r (then_r (then_r ?_)))
       obtain rfl := Option.some.inj h
       exact f_ret S Tryz.results109 rfl rfl
      ·replace h := iteF h hb7
       refine wp_skip (blk_n (then_n (f_region (lv S (rn_move (S.tm rfl)) rfl ?_)))); clear S; intro a S
       refine lv S (rn_fld fa_90_0 (S.tm rfl)) rfl ?_; clear S; intro a S
       refine lv S (rn_load Tryz.isAgg9 (S.tm rfl) (S.cell (i := 0) rfl rfl)) rfl ?_; clear S; intro a S
       refine l_mapUpdate (kv := Value.string) (vv := Value.bool) (m := x1) (key := y1.Key) (val := true) S (i := 1) rfl Tryz.underlying186 (keyT_str Tryz.underlying9) (S.tm rfl) (S.tm rfl) rfl ?_; clear S; intro w14 hk12 S
       refine l_done (blk_n (then_n (f_region (lv S (rn_add (S.tm rfl) rfl) rfl ?_)))); clear S; intro a S
       refine lv S (rn_move (S.tm rfl)) rfl ?_; clear S; intro a S
       refine l_done (then_n ?_)
       exact ⟨ys1, ⟨i1 + 1, (mput x1 y1.Key true), ⟨_, (hd1).trans (List.append_cons _ _ _), by simp [hi1]⟩, h, S.nf [false, true] rfl ⟨rfl, rfl, rfl, (congrArg (fun z => some (Value.int .i64 z)) (rng_next hd1 hi1 (slc_max hs_p_l))), trivial⟩⟩, Nat.lt_succ_self _⟩
  clear S h; rintro a w3 ⟨x1, h, S⟩; rw [hj1] at h; clear hj1 j1
  refine then_n (f_seq (f_region (lv S (rn_assign rfl) rfl ?_))); clear S; intro a S
  refine l_done (then_n (wp_ret ?_))
  obtain rfl := Option.some.inj h
  exact f_ret S Tryz.results109 rfl rfl
theorem session_timetable_ok (w : World) (v_p_l : Value) (p_l : List GItem) (hs_p_l : Slc (view w []) 5 v_p_l (p_l.map GItem.enc)) (p_from : Int) (r : (List GSlot)) (h : session_timetable p_l p_from = some r) :
    Calls Tryz.prog 142 [v_p_l, iV p_from].toArray w (Ret w [] fun τ v _ => OwnV τ 160 4 v r.length (r.flatMap GSlot.enc)) := by
 refine f_enter [] [] Tryz.func142 rfl Tryz.ntmps142 rfl (by simp) (by simp [fps]) (by simp [fps]) fun a S => ?_
 unfold session_timetable at h
 replace S := S.nk [] [(0, v_p_l), (1, iV p_from)] [] rfl (subR rfl)
 refine f_seq (f_region (lv S (rn_assign rfl) rfl ?_)); clear S; intro a S
 refine l_done (then_n (f_seq (f_region (lv S (rn_assign rfl) rfl ?_)))); clear S; intro a S
 replace S := S.nil 160 4
 refine l_done (then_n (f_seq (f_region (lv S (rn_move (S.tm rfl)) rfl ?_)))); clear S; intro a S
 refine lv S (rn_assign (S.tm rfl)) rfl ?_; clear S; intro a S
 refine l_done (then_n (f_seq (f_seq (f_region (lv S (rn_move (S.tm rfl)) rfl ?_))))); clear S; intro a S
 refine lv S (rn_lenT sl_91 (S.tm rfl) (slc_len hs_p_l)) rfl ?_; clear S; intro a S
 refine lv S (rn_move rfl) rfl ?_; clear S; intro a S
 refine l_done (then_n ?_)
 replace S := S.nk [.own (.slice none 0 0) 160 4 ([] : List GSlot).length (([] : List GSlot).flatMap GSlot.enc)] [(5, (.slice none 0 0)), (6, iV p_from), (11, v_p_l), (12, iV (p_l.length : Int)), (13, iV 0)] [true] rfl (subR rfl)
 obtain ⟨j1, hj1, h⟩ := joinE h
 refine f_join (fun a w' => ∃ x1 : List GSlot, ∃ v1 : Value, j1 x1 = some r ∧ Sx w [] nov [.own v1 160 4 x1.length (x1.flatMap GSlot.enc)] [(5, v1)] 54 a w') ?_ ?_
 ·refine wp_block (f_loop (fun (ys1 : List GItem) a w' => ∃ i1 : Nat, ∃ x1 : List GSlot, ∃ x2 : Int, ∃ v1 : Value, (∃ dn, p_l = dn ++ ys1 ∧ dn.length = i1) ∧ session_timetable_l1 j1 ys1 i1 x1 x2 = some r ∧ Sx w [] nov [.own v1 160 4 x1.length (x1.flatMap GSlot.enc)] [(5, v1), (6, iV x2), (11, v_p_l), (12, iV (p_l.length : Int)), (13, iV (i1 : Int))] 54 a w') List.length p_l ⟨0, ([] : List GSlot), p_from, (.slice none 0 0), ⟨[], rfl, rfl⟩, h, S.nf [true] rfl (subR rfl)⟩ ?_)
  clear S h; rintro ys1 a w1 ⟨i1, x1, x2, v1, ⟨dn, hd1, hi1⟩, h, S⟩
  cases ys1 with
  | nil =>
   rw [session_timetable_l1.eq_1] at h
   refine f_seq (f_region (lv S (rn_lss (S.tm rfl) (S.tm rfl)) rfl ?_)); clear S; intro a S
   refine l_done ?_
   replace S := S.nk [.own v1 160 4 x1.length (x1.flatMap GSlot.enc)] [(5, v1), (6, iV x2), (11, v_p_l), (12, iV (p_l.length : Int)), (13, iV (i1 : Int)), (14, bV (decide ((i1 : Int) < (p_l.length : Int))))] [true] rfl (subR rfl)
   refine then_n (f_seq (wp_cond_false ((S.tm rfl).trans (congrArg Value.bool (rng_nil hd1 hi1))) (wp_exit (then_x (then_x (x_same ?_))))))
   refine then_n ?_
   exact ⟨x1, v1, h, S.nf [true] rfl ⟨rfl, trivial⟩⟩
  | cons y1 ys1 =>
   rw [session_timetable_l1.eq_2] at h
   refine f_seq (f_region (lv S (rn_lss (S.tm rfl) (S.tm rfl)) rfl ?_)); clear S; intro a S
   refine l_done ?_
   replace S := S.nk [.own v1 160 4 x1.length (x1.flatMap GSlot.enc)] [(5, v1), (6, iV x2), (11, v_p_l), (12, iV (p_l.length : Int)), (13, iV (i1 : Int)), (14, bV (decide ((i1 : Int) < (p_l.length : Int))))] [true] rfl (subR rfl)
   refine then_n (f_seq (wp_cond_true ((S.tm rfl).trans (congrArg Value.bool (rng_cons hd1 hi1))) (wp_skip (then_n (f_seq (wp_block ?_))))))
   refine f_seq (f_region ?_)
   obtain ⟨b1, o1, hm1, hr1⟩ := rn_indexT (a := a) (x := .tmp 11) (y := .tmp 13) (ty := 0) sl_91 hs_p_l (get_mid hd1 hi1) rfl (S.tm rfl) (S.tm rfl)
   refine lv S (hr1 _) rfl ?_; clear S; intro a S
   clear hr1
   refine lv S (rn_ldA Tryz.isAgg90 Tryz.sizeOf90 (off := o1) (o := 0) (part := (GItem.enc y1)) rfl rfl (S.tm rfl) (hm1.at S.emb0)) rfl ?_; clear S; intro a S
   refine l_alloc S Tryz.zeroValue90 (cs := [sV k_empty, iV 0, iV 0, iV 0, iV 0]) rfl rfl ?_; clear S; intro a w3 b2 hz1 hk1 S
   refine l_store S (S.tm rfl) (S.tm rfl) (i := 0) (off := 0) rfl Tryz.sizeOf90 (vs := (GItem.enc y1)) rfl rfl rfl rfl ?_; clear S; intro w4 hk2 S
   refine l_done (then_n (f_seq (f_seq (f_region (lv S (rn_assign rfl) rfl ?_))))); clear S; intro a S
   refine l_done (then_n ?_)
   replace S := S.nk [.blk b2 (GItem.enc y1) 90, .own v1 160 4 x1.length (x1.flatMap GSlot.enc)] [(5, v1), (6, iV x2), (8, .pointer (some ⟨b2, 0, none⟩)), (9, iV 1), (11, v_p_l), (12, iV (p_l.length : Int)), (13, iV (i1 : Int))] [true, true] rfl (subR rfl)
   obtain ⟨j2, hj2, h⟩ := joinE h
   refine f_join (fun a w' => ∃ x3 : List GSlot, ∃ x4 : Int, ∃ v2 : Value, j2 x3 x4 = some r ∧ Sx w [] nov [.blk b2 (GItem.enc y1) 90, .own v2 160 4 x3.length (x3.flatMap GSlot.enc)] [(5, v2), (6, iV x4), (8, .pointer (some ⟨b2, 0, none⟩)), (11, v_p_l), (12, iV (p_l.length : Int)), (13, iV (i1 : Int))] 54 a w') ?_ ?_
   ·refine wp_block (f_loop (fun (m1 : Nat) a w' => ∃ x3 : List GSlot, ∃ x4 : Int, ∃ x5 : Int, ∃ v2 : Value, session_timetable_l2 y1 j2 m1 x3 x4 x5 = some r ∧ Sx w [] nov [.blk b2 (GItem.enc y1) 90, .own v2 160 4 x3.length (x3.flatMap GSlot.enc)] [(5, v2), (6, iV x4), (8, .pointer (some ⟨b2, 0, none⟩)), (9, iV x5), (11, v_p_l), (12, iV (p_l.length : Int)), (13, iV (i1 : Int))] 54 a w') id ((y1.Heats - 1).toNat + 2) ⟨x1, x2, 1, v1, h, S.nf [true, true] rfl (subR rfl)⟩ ?_)
    clear S h; rintro m1 a w5 ⟨x3, x4, x5, v2, h, S⟩
    cases m1 with
    | zero => rw [session_timetable_l2.eq_1] at h; cases h
    | succ m1 =>
     rw [session_timetable_l2.eq_2] at h
     refine f_seq (f_seq (f_region (lv S (rn_move (S.tm rfl)) rfl ?_))); clear S; intro a S
     refine lv S (rn_fld fa_90_1 (S.tm rfl)) rfl ?_; clear S; intro a S
     refine lv S (rn_load Tryz.isAgg3 (S.tm rfl) (S.cell (i := 0) rfl rfl)) rfl ?_; clear S; intro a S
     refine lv S (rn_leq (S.tm rfl) (S.tm rfl)) rfl ?_; clear S; intro a S
     refine l_done (then_n (f_cond (S.tm rfl) (fun hb1 => ?_) (fun hb1 => ?_)))
     ·replace h := iteT h hb1
      refine wp_skip (then_n (f_seq ?_))
      obtain ⟨j3, hj3, h⟩ := joinE h
      refine f_join (fun a w' => ∃ x6 : List GSlot, ∃ x7 : Int, ∃ v3 : Value, j3 x6 x7 = some r ∧ Sx w [] nov [.blk b2 (GItem.enc y1) 90, .own v3 160 4 x6.length (x6.flatMap GSlot.enc)] [(5, v3), (6, iV x7), (8, .pointer (some ⟨b2, 0, none⟩)), (9, iV x5), (11, v_p_l), (12, iV (p_l.length : Int)), (13, iV (i1 : Int))] 54 a w') ?_ ?_
      ·refine wp_block (f_seq (f_region (lv S (rn_move (S.tm rfl)) rfl ?_))); clear S; intro a S
       refine lv S (rn_fld fa_90_0 (S.tm rfl)) rfl ?_; clear S; intro a S
       refine lv S (rn_load Tryz.isAgg9 (S.tm rfl) (S.cell (i := 0) rfl rfl)) rfl ?_; clear S; intro a S
       iterate 3 (refine lv S (rn_move (S.tm rfl)) rfl ?_; clear S; intro a S)
       refine lv S (rn_fld fa_90_2 (S.tm rfl)) rfl ?_; clear S; intro a S
       refine lv S (rn_load Tryz.isAgg3 (S.tm rfl) (S.cell (i := 0) rfl rfl)) rfl ?_; clear S; intro a S
       refine lv S (rn_add (S.tm rfl) (S.tm rfl)) rfl ?_; clear S; intro a S
       refine lv S (rn_bld bt_158 (pv := [(0, iV x4), (1, iV (W (x4 + y1.Long)))]) ⟨rfl, (S.tm rfl), rfl, (S.tm rfl), trivial⟩ (cs := [iV x4, iV (W (x4 + y1.Long))]) (by kernel_rfl)) rfl ?_; clear S; intro a S
       refine lv S (rn_bld bt_160 (pv := [(0, sV y1.Key), (1, iV x5), (2, .agg #[iV x4, iV (W (x4 + y1.Long))])]) ⟨rfl, (S.tm rfl), rfl, (S.tm rfl), rfl, (S.tm rfl), trivial⟩ (cs := [sV y1.Key, iV x5, iV x4, iV (W (x4 + y1.Long))]) (by kernel_rfl)) rfl ?_; clear S; intro a S
       refine l_buildSlice S Tryz.underlying126 Tryz.sizeOf160 Tryz.zeroValue160 rfl rfl (pv := [(0, .agg #[sV y1.Key, iV x5, iV x4, iV (W (x4 + y1.Long))])]) ⟨rfl, (S.tm rfl), trivial⟩ (cs := [sV y1.Key, iV x5, iV x4, iV (W (x4 + y1.Long))]) (by kernel_rfl) rfl ?_; clear S; intro a w8 b3 hz2 hk3 S
       obtain ⟨hc1, h⟩ := chkE h
       refine l_appendT sl_126 GSlot.enc_ok S (S.tm rfl) (i := 2) rfl (S.tm rfl) (j := 0) rfl (ys := [(GSlot.mk y1.Key x5 (GWindow.mk x4 (W (x4 + y1.Long))))]) rfl rfl rfl rfl (by have := room_lt hc1; omega) rfl ?_; clear S; intro v4 a w9 hk4 S
       refine lv S (rn_assign (S.tm rfl)) rfl ?_; clear S; intro a S
       refine l_done ?_
       replace S := S.nk [.blk b2 (GItem.enc y1) 90, .own v4 160 4 (x3 ++ [(GSlot.mk y1.Key x5 (GWindow.mk x4 (W (x4 + y1.Long))))]).length ((x3 ++ [(GSlot.mk y1.Key x5 (GWindow.mk x4 (W (x4 + y1.Long))))]).flatMap GSlot.enc)] [(5, v4), (6, iV x4), (8, .pointer (some ⟨b2, 0, none⟩)), (9, iV x5), (11, v_p_l), (12, iV (p_l.length : Int)), (13, iV (i1 : Int))] [false, true, true] rfl (subR rfl)
       refine then_n (f_seq (f_region (lv S (rn_move (S.tm rfl)) rfl ?_))); clear S; intro a S
       refine lv S (rn_fld fa_90_2 (S.tm rfl)) rfl ?_; clear S; intro a S
       refine lv S (rn_load Tryz.isAgg3 (S.tm rfl) (S.cell (i := 0) rfl rfl)) rfl ?_; clear S; intro a S
       refine lv S (rn_add (S.tm rfl) (S.tm rfl)) rfl ?_; clear S; intro a S
       refine lv S (rn_assign (S.tm rfl)) rfl ?_; clear S; intro a S
       refine l_done (then_n (f_seq (f_region (lv S (rn_move (S.tm rfl)) rfl ?_)))); clear S; intro a S
       refine lv S (rn_fld fa_90_1 (S.tm rfl)) rfl ?_; clear S; intro a S
       refine lv S (rn_load Tryz.isAgg3 (S.tm rfl) (S.cell (i := 0) rfl rfl)) rfl ?_; clear S; intro a S
       refine lv S (rn_lss (S.tm rfl) (S.tm rfl)) rfl ?_; clear S; intro a S
       refine l_done ?_
       replace S := S.nk [.blk b2 (GItem.enc y1) 90, .own v4 160 4 (x3 ++ [(GSlot.mk y1.Key x5 (GWindow.mk x4 (W (x4 + y1.Long))))]).length ((x3 ++ [(GSlot.mk y1.Key x5 (GWindow.mk x4 (W (x4 + y1.Long))))]).flatMap GSlot.enc)] [(5, v4), (6, iV (W (x4 + y1.Long))), (8, .pointer (some ⟨b2, 0, none⟩)), (9, iV x5), (11, v_p_l), (12, iV (p_l.length : Int)), (13, iV (i1 : Int)), (43, bV (decide (x5 < y1.Heats)))] [true, true] rfl (subR rfl)
       refine then_n ?_
       obtain ⟨j4, hj4, h⟩ := joinE h
       refine f_join (fun a w' => ∃ x8 : Int, j4 x8 = some r ∧ Sx w [] nov [.blk b2 (GItem.enc y1) 90, .own v4 160 4 (x3 ++ [(GSlot.mk y1.Key x5 (GWindow.mk x4 (W (x4 + y1.Long))))]).length ((x3 ++ [(GSlot.mk y1.Key x5 (GWindow.mk x4 (W (x4 + y1.Long))))]).flatMap GSlot.enc)] [(5, v4), (6, iV x8), (8, .pointer (some ⟨b2, 0, none⟩)), (9, iV x5), (11, v_p_l), (12, iV (p_l.length : Int)), (13, iV (i1 : Int))] 54 a w') ?_ ?_
       ·refine f_cond (S.tm rfl) (fun hb2 => ?_) (fun hb2 => ?_)
        ·replace h := iteT h hb2
         refine f_region (lv S (rn_move (S.tm rfl)) rfl ?_); clear S; intro a S
         refine lv S (rn_fld fa_90_3 (S.tm rfl)) rfl ?_; clear S; intro a S
         refine lv S (rn_load Tryz.isAgg3 (S.tm rfl) (S.cell (i := 0) rfl rfl)) rfl ?_; clear S; intro a S
         refine lv S (rn_add (S.tm rfl) (S.tm rfl)) rfl ?_; clear S; intro a S
         refine lv S (rn_assign (S.tm rfl)) rfl ?_; clear S; intro a S
         refine l_done (then_n ?_)
         exact ⟨W ((W (x4 + y1.Long)) + y1.Gap), h, S.nf [true, true] rfl (subR rfl)⟩
        ·replace h := iteF h hb2
         refine wp_skip (then_n ?_)
         exact ⟨W (x4 + y1.Long), h, S.nf [true, true] rfl (subR rfl)⟩
       clear S h; rintro a w10 ⟨x8, h, S⟩; rw [hj4] at h; clear hj4 j4
       refine blk_n (then_n ?_)
       exact ⟨(x3 ++ [(GSlot.mk y1.Key x5 (GWindow.mk x4 (W (x4 + y1.Long))))]), x8, v4, h, S.nf [true, true] rfl (subR rfl)⟩
      clear S h; rintro a w7 ⟨x6, x7, v3, h, S⟩; rw [hj3] at h; clear hj3 j3
      refine then_n (f_region (lv S (rn_move (S.tm rfl)) rfl ?_)); clear S; intro a S
      refine lv S (rn_add (S.tm rfl) rfl) rfl ?_; clear S; intro a S
      refine lv S (rn_assign (S.tm rfl)) rfl ?_; clear S; intro a S
      refine l_done (then_n ?_)
      exact ⟨m1, ⟨x6, x7, W (x5 + 1), v3, h, S.nf [true, true] rfl ⟨rfl, rfl, rfl, rfl, rfl, rfl, rfl, trivial⟩⟩, Nat.lt_succ_self _⟩
     ·replace h := iteF h hb1
      refine wp_exit (then_x (then_x (x_same (then_n ?_))))
      exact ⟨x3, x4, v2, h, S.nf [true, true] rfl (subR rfl)⟩
   clear S h; rintro a w6 ⟨x3, x4, v2, h, S⟩; rw [hj2] at h; clear hj2 j2
   refine then_n (f_region (lv S (rn_move (S.tm rfl)) rfl ?_)); clear S; intro a S
   refine lv S (rn_fld fa_90_4 (S.tm rfl)) rfl ?_; clear S; intro a S
   refine lv S (rn_load Tryz.isAgg3 (S.tm rfl) (S.cell (i := 0) rfl rfl)) rfl ?_; clear S; intro a S
   refine lv S (rn_add (S.tm rfl) (S.tm rfl)) rfl ?_; clear S; intro a S
   refine lv S (rn_assign (S.tm rfl)) rfl ?_; clear S; intro a S
   refine l_done (blk_n (then_n (f_region (lv S (rn_add (S.tm rfl) rfl) rfl ?_)))); clear S; intro a S
   refine lv S (rn_move (S.tm rfl)) rfl ?_; clear S; intro a S
   refine l_done (then_n ?_)
   exact ⟨ys1, ⟨i1 + 1, x3, W (x4 + y1.Break), v2, ⟨_, (hd1).trans (List.append_cons _ _ _), by simp [hi1]⟩, h, S.nf [false, true] rfl ⟨rfl, rfl, rfl, rfl, (congrArg (fun z => some (Value.int .i64 z)) (rng_next hd1 hi1 (slc_max hs_p_l))), trivial⟩⟩, Nat.lt_succ_self _⟩
 clear S h; rintro a w2 ⟨x1, v1, h, S⟩; rw [hj1] at h; clear hj1 j1
 refine then_n (f_seq (f_region (lv S (rn_move (S.tm rfl)) rfl ?_))); clear S; intro a S
 refine lv S (rn_assign (S.tm rfl)) rfl ?_; clear S; intro a S
 refine l_done (then_n (wp_ret ?_))
 obtain rfl := Option.some.inj h
 exact f_ret S Tryz.results142 rfl (own_retT S (i := 0) rfl rfl)
theorem session_end_ok (w : World) (v_p_l : Value) (p_l : List GSlot) (hs_p_l : Slc (view w []) 4 v_p_l (p_l.map GSlot.enc)) (p_from : Int) (r : Int) (h : session_end p_l p_from = some r) :
    Calls Tryz.prog 72 [v_p_l, iV p_from].toArray w (Ret w [] fun _ v _ => v = iV r) := by
 refine f_enter [] [] Tryz.func72 rfl Tryz.ntmps72 rfl (by simp) (by simp [fps]) (by simp [fps]) fun a S => ?_
 unfold session_end at h
 replace S := S.nk [] [(0, v_p_l), (1, iV p_from)] [] rfl (subR rfl)
 refine f_seq (f_region (lv S (rn_assign rfl) rfl ?_)); clear S; intro a S
 refine l_done (then_n (f_seq (f_seq (f_region (lv S (rn_move (S.tm rfl)) rfl ?_))))); clear S; intro a S
 refine lv S (rn_lenT sl_126 (S.tm rfl) (slc_len hs_p_l)) rfl ?_; clear S; intro a S
 refine lv S (rn_eql (S.tm rfl) rfl) rfl ?_; clear S; intro a S
 refine l_done (then_n (f_cond (S.tm rfl) (fun hb1 => ?_) (fun hb1 => ?_)))
 ·replace h := iteT h hb1
  refine f_seq (f_region (lv S (rn_move (S.tm rfl)) rfl ?_)); clear S; intro a S
  refine lv S (rn_assign (S.tm rfl)) rfl ?_; clear S; intro a S
  refine l_done (then_n (wp_ret (then_r ?_)))
  obtain rfl := Option.some.inj h
  exact f_ret S Tryz.results72 rfl rfl
 ·replace h := iteF h hb1
  refine wp_skip (then_n (f_seq (f_region (lv S (rn_move (S.tm rfl)) rfl ?_)))); clear S; intro a S
  refine lv S (rn_move (S.tm rfl)) rfl ?_; clear S; intro a S
  refine lv S (rn_lenT sl_126 (S.tm rfl) (slc_len hs_p_l)) rfl ?_; clear S; intro a S
  refine lv S (rn_sub (S.tm rfl) rfl) rfl ?_; clear S; intro a S
  obtain ⟨hc1, h⟩ := chkE h
  obtain ⟨b1, o1, hm1, hr1⟩ := rn_indexT (a := a) (x := .tmp 9) (y := .tmp 12) (ty := 0) sl_126 hs_p_l (inB_get hc1).1 (inB_get hc1).2 (S.tm rfl) (S.tm rfl)
  refine lv S (hr1 _) rfl ?_; clear S; intro a S
  clear hr1
  refine lv S (rn_fld fa_160_2 (S.tm rfl)) rfl ?_; clear S; intro a S
  refine lv S (rn_fld fa_158_1 (S.tm rfl)) rfl ?_; clear S; intro a S
  refine lv S (rn_ld Tryz.isAgg3 (off := o1) (o := 3) (S.tm rfl) (hm1.at S.emb0) rfl) rfl ?_; clear S; intro a S
  refine lv S (rn_assign (S.tm rfl)) rfl ?_; clear S; intro a S
  refine l_done (then_n (wp_ret ?_))
  obtain rfl := Option.some.inj h
  exact f_ret S Tryz.results72 rfl rfl
theorem session_begin_ok (w : World) (v_p_l : Value) (p_l : List GItem) (hs_p_l : Slc (view w []) 5 v_p_l (p_l.map GItem.enc)) (p_from : Int) (r : (List GSlot) × Int) (h : session_begin p_l p_from = some r) :
    Calls Tryz.prog 110 [v_p_l, iV p_from].toArray w (Ret w [] fun τ v _ => ∃ u1 : Value, v = .tuple #[u1, iV r.2] ∧ OwnV τ 160 4 u1 r.1.length (r.1.flatMap GSlot.enc)) := by
 refine f_enter [] [] Tryz.func110 rfl Tryz.ntmps110 rfl (by simp) (by simp [fps]) (by simp [fps]) fun a S => ?_
 unfold session_begin at h
 replace S := S.nk [] [(0, v_p_l), (1, iV p_from)] [] rfl (subR rfl)
 refine f_seq (f_region (lv S (rn_assign rfl) rfl ?_)); clear S; intro a S
 refine lv S (rn_assign rfl) rfl ?_; clear S; intro a S
 refine l_done (then_n (f_seq (f_seq (f_region (lv S (rn_move (S.tm rfl)) rfl ?_))))); clear S; intro a S
 refine l_enter S (fun _ => run_call (vs := [iV p_from]) ⟨(S.tm rfl), trivial⟩ Tryz.call35) (words_IsMoment_ok _ p_from _ rfl) rfl ?_; clear S; intro v1 a w1 hv1 hk1 hn1 S
 subst hv1
 refine lv S (rn_not (S.tm rfl)) rfl ?_; clear S; intro a S
 refine l_done (then_n (f_cond (S.tm rfl) (fun hb1 => ?_) (fun hb1 => ?_)))
 ·replace h := iteT h hb1
  refine f_seq (f_region (lv S (rn_assign rfl) rfl ?_)); clear S; intro a S
  refine lv S (rn_assign rfl) rfl ?_; clear S; intro a S
  refine l_done (then_n (wp_ret (then_r ?_)))
  obtain rfl := Option.some.inj h
  exact f_ret2 S Tryz.results110 rfl rfl ⟨_, rfl, (ownV_nil _ _ _)⟩
 ·replace h := iteF h hb1
  refine wp_skip (then_n (f_seq (f_region (lv S (rn_move (S.tm rfl)) rfl ?_)))); clear S; intro a S
  refine lv S (rn_move (S.tm rfl)) rfl ?_; clear S; intro a S
  obtain ⟨r1, hr1, h⟩ := bindE h
  have hz1 := S.keep.size
  refine l_enter S (fun _ => run_call (vs := [v_p_l, iV p_from]) ⟨(S.tm rfl), (S.tm rfl), trivial⟩ Tryz.call142) (session_timetable_ok _ v_p_l p_l (hs_p_l.mono (S.le_arg nil_sub)) p_from _ hr1) rfl ?_; clear S; intro v2 a w2 hv2 hk2 hn2 S
  obtain ⟨φ1, hl1, hm1, S⟩ := S.see' hn2 hz1
  have hs1 := hv2.mono hm1
  refine lv S (rn_assign (S.tm rfl)) rfl ?_; clear S; intro a S
  refine l_done (then_n (f_seq (f_seq (f_region (lv S (rn_move (S.tm rfl)) rfl ?_))))); clear S; intro a S
  refine lv S (rn_move (S.tm rfl)) rfl ?_; clear S; intro a S
  obtain ⟨r2, hr2, h⟩ := bindE h
  refine l_enter S (fun _ => run_call (vs := [v2, iV p_from]) ⟨(S.tm rfl), (S.tm rfl), trivial⟩ Tryz.call72) (session_end_ok _ v2 r1 ((ownV_slcT GSlot.enc_ok hs1).mono (S.le_new nil_sub)) p_from _ hr2) rfl ?_; clear S; intro v3 a w3 hv3 hk3 hn3 S
  subst hv3
  refine lv S (rn_gtr (S.tm rfl) rfl) rfl ?_; clear S; intro a S
  refine l_done ?_
  replace S := S.nk [] [(6, v2), (16, bV (decide (345686400000 < r2)))] [] rfl (subR rfl)
  refine then_n (f_cond (S.tm rfl) (fun hb2 => ?_) (fun hb2 => ?_))
  ·replace h := iteT h hb2
   refine f_seq (f_region (lv S (rn_assign rfl) rfl ?_)); clear S; intro a S
   refine lv S (rn_assign rfl) rfl ?_; clear S; intro a S
   refine l_done (then_n (wp_ret (then_r ?_)))
   obtain rfl := Option.some.inj h
   exact f_ret2 S Tryz.results110 rfl rfl ⟨_, rfl, (ownV_nil _ _ _)⟩
  ·replace h := iteF h hb2
   refine wp_skip (then_n (f_seq (f_region (lv S (rn_move (S.tm rfl)) rfl ?_)))); clear S; intro a S
   refine lv S (rn_assign (S.tm rfl)) rfl ?_; clear S; intro a S
   refine lv S (rn_assign rfl) rfl ?_; clear S; intro a S
   refine l_done (then_n (wp_ret ?_))
   obtain rfl := Option.some.inj h
   exact f_ret2 S Tryz.results110 rfl rfl ⟨_, rfl, ((hs1).mono S.le_newer)⟩
theorem session_Timetable_ok (w : World) (v_p_l : Value) (p_l : List GItem) (hs_p_l : Slc (view w []) 5 v_p_l (p_l.map GItem.enc)) (p_from : Int) (r : (List GSlot) × Int) (h : session_Timetable p_l p_from = some r) :
    Calls Tryz.prog 71 [v_p_l, iV p_from].toArray w (Ret w [] fun τ v _ => ∃ u1 : Value, v = .tuple #[u1, iV r.2] ∧ OwnV τ 160 4 u1 r.1.length (r.1.flatMap GSlot.enc)) := by
 refine f_enter [] [] Tryz.func71 rfl Tryz.ntmps71 rfl (by simp) (by simp [fps]) (by simp [fps]) fun a S => ?_
 unfold session_Timetable at h
 replace S := S.nk [] [(0, v_p_l), (1, iV p_from)] [] rfl (subR rfl)
 refine f_seq (f_region (lv S (rn_assign rfl) rfl ?_)); clear S; intro a S
 refine lv S (rn_assign rfl) rfl ?_; clear S; intro a S
 refine l_done (then_n (f_seq (f_seq (f_region (lv S (rn_move (S.tm rfl)) rfl ?_))))); clear S; intro a S
 obtain ⟨r1, hr1, h⟩ := bindE h
 refine l_enter S (fun _ => run_call (vs := [v_p_l]) ⟨(S.tm rfl), trivial⟩ Tryz.call109) (session_CheckItems_ok _ v_p_l p_l (hs_p_l.mono (S.le_arg nil_sub)) _ hr1) rfl ?_; clear S; intro v1 a w1 hv1 hk1 hn1 S
 subst hv1
 refine lv S (rn_assign (S.tm rfl)) rfl ?_; clear S; intro a S
 refine l_done (then_n (f_seq (f_region (lv S (rn_move (S.tm rfl)) rfl ?_)))); clear S; intro a S
 refine lv S (rn_neq (S.tm rfl) rfl) rfl ?_; clear S; intro a S
 refine l_done (then_n (f_cond (S.tm rfl) (fun hb1 => ?_) (fun hb1 => ?_)))
 ·replace h := iteT h hb1
  refine f_seq (f_region (lv S (rn_move (S.tm rfl)) rfl ?_)); clear S; intro a S
  refine lv S (rn_assign rfl) rfl ?_; clear S; intro a S
  refine lv S (rn_assign (S.tm rfl)) rfl ?_; clear S; intro a S
  refine l_done (then_n (wp_ret (then_r ?_)))
  obtain rfl := Option.some.inj h
  exact f_ret2 S Tryz.results71 rfl rfl ⟨_, rfl, (ownV_nil _ _ _)⟩
 ·replace h := iteF h hb1
  refine wp_skip (then_n (f_seq (f_region (lv S (rn_move (S.tm rfl)) rfl ?_)))); clear S; intro a S
  refine lv S (rn_move (S.tm rfl)) rfl ?_; clear S; intro a S
  obtain ⟨r2, hr2, h⟩ := bindE h
  have hz1 := S.keep.size
  refine l_enter S (fun _ => run_call (vs := [v_p_l, iV p_from]) ⟨(S.tm rfl), (S.tm rfl), trivial⟩ Tryz.call110) (session_begin_ok _ v_p_l p_l (hs_p_l.mono (S.le_arg nil_sub)) p_from _ hr2) rfl ?_; clear S; intro v2 a w2 hv2 hk2 hn2 S
  obtain ⟨u1, rfl, ho1⟩ := hv2
  obtain ⟨φ1, hl1, hm1, S⟩ := S.see' hn2 hz1
  have hs1 := ho1.mono hm1
  refine lv S (rn_extract (S.tm rfl) rfl) rfl ?_; clear S; intro a S
  refine lv S (rn_extract (S.tm rfl) rfl) rfl ?_; clear S; intro a S
  refine lv S (rn_assign (S.tm rfl)) rfl ?_; clear S; intro a S
  refine lv S (rn_assign (S.tm rfl)) rfl ?_; clear S; intro a S
  refine l_done (then_n (wp_ret ?_))
  obtain rfl := Option.some.inj h
  exact f_ret2 S Tryz.results71 rfl rfl ⟨_, rfl, ((hs1).mono S.le_newer)⟩
theorem session_Ends_ok (w : World) (v_p_l : Value) (p_l : List GItem) (hs_p_l : Slc (view w []) 5 v_p_l (p_l.map GItem.enc)) (p_from : Int) (r : Int × Int) (h : session_Ends p_l p_from = some r) :
    Calls Tryz.prog 38 [v_p_l, iV p_from].toArray w (Ret w [] fun _ v _ => v = .tuple #[iV r.1, iV r.2]) := by
 refine f_enter [] [] Tryz.func38 rfl Tryz.ntmps38 rfl (by simp) (by simp [fps]) (by simp [fps]) fun a S => ?_
 unfold session_Ends at h
 replace S := S.nk [] [(0, v_p_l), (1, iV p_from)] [] rfl (subR rfl)
 refine f_seq (f_region (lv S (rn_assign rfl) rfl ?_)); clear S; intro a S
 refine lv S (rn_assign rfl) rfl ?_; clear S; intro a S
 refine l_done (then_n (f_seq (f_region (lv S (rn_move (S.tm rfl)) rfl ?_)))); clear S; intro a S
 refine lv S (rn_move (S.tm rfl)) rfl ?_; clear S; intro a S
 obtain ⟨r1, hr1, h⟩ := bindE h
 have hz1 := S.keep.size
 refine l_enter S (fun _ => run_call (vs := [v_p_l, iV p_from]) ⟨(S.tm rfl), (S.tm rfl), trivial⟩ Tryz.call71) (session_Timetable_ok _ v_p_l p_l (hs_p_l.mono (S.le_arg nil_sub)) p_from _ hr1) rfl ?_; clear S; intro v1 a w1 hv1 hk1 hn1 S
 obtain ⟨u1, rfl, ho1⟩ := hv1
 obtain ⟨φ1, hl1, hm1, S⟩ := S.see' hn1 hz1
 have hs1 := ho1.mono hm1
 refine lv S (rn_move (S.tm rfl)) rfl ?_; clear S; intro a S
 refine lv S (rn_extract (S.tm rfl) rfl) rfl ?_; clear S; intro a S
 refine lv S (rn_extract (S.tm rfl) rfl) rfl ?_; clear S; intro a S
 refine lv S (rn_assign (S.tm rfl)) rfl ?_; clear S; intro a S
 refine lv S (rn_assign (S.tm rfl)) rfl ?_; clear S; intro a S
 refine l_done (then_n (f_seq (f_seq (f_region (lv S (rn_move (S.tm rfl)) rfl ?_))))); clear S; intro a S
 refine lv S (rn_neq (S.tm rfl) rfl) rfl ?_; clear S; intro a S
 refine l_done (then_n (f_cond (S.tm rfl) (fun hb1 => ?_) (fun hb1 => ?_)))
 ·replace h := iteT h hb1
  refine f_seq (f_region (lv S (rn_move (S.tm rfl)) rfl ?_)); clear S; intro a S
  refine lv S (rn_assign rfl) rfl ?_; clear S; intro a S
  refine lv S (rn_assign (S.tm rfl)) rfl ?_; clear S; intro a S
  refine l_done ?_
  replace S := S.nk [] [(4, iV 0), (5, iV r1.2)] [] rfl (subR rfl)
  refine then_n (wp_ret (then_r ?_))
  obtain rfl := Option.some.inj h
  exact f_ret2 S Tryz.results38 rfl rfl rfl
 ·replace h := iteF h hb1
  refine wp_skip (then_n (f_seq (f_region (lv S (rn_move (S.tm rfl)) rfl ?_)))); clear S; intro a S
  refine lv S (rn_move (S.tm rfl)) rfl ?_; clear S; intro a S
  obtain ⟨r2, hr2, h⟩ := bindE h
  refine l_enter S (fun _ => run_call (vs := [u1, iV p_from]) ⟨(S.tm rfl), (S.tm rfl), trivial⟩ Tryz.call72) (session_end_ok _ u1 r1.1 ((ownV_slcT GSlot.enc_ok hs1).mono (S.le_new nil_sub)) p_from _ hr2) rfl ?_; clear S; intro v2 a w2 hv2 hk2 hn2 S
  subst hv2
  refine lv S (rn_assign (S.tm rfl)) rfl ?_; clear S; intro a S
  refine lv S (rn_assign rfl) rfl ?_; clear S; intro a S
  refine l_done ?_
  replace S := S.nk [] [(4, iV r2), (5, iV 0)] [] rfl (subR rfl)
  refine then_n (wp_ret ?_)
  obtain rfl := Option.some.inj h
  exact f_ret2 S Tryz.results38 rfl rfl rfl
theorem timing_IsTime_ok (w : World) (p_n : Int) (r : Bool) (h : timing_IsTime p_n = r) :
    Calls Tryz.prog 75 [iV p_n].toArray w (Ret w [] fun _ v _ => v = bV r) := by
 refine f_enter [] [] Tryz.func75 rfl Tryz.ntmps75 rfl (by simp) (by simp [fps]) (by simp [fps]) fun a S => ?_
 unfold timing_IsTime at h
 replace S := S.nk [] [(0, iV p_n)] [] rfl ⟨rfl, trivial⟩
 refine f_seq (f_region (lv S (rn_assign rfl) rfl ?_)); clear S; intro a S
 refine l_done (then_n (f_seq (f_region (lv S (rn_move (S.tm rfl)) rfl ?_)))); clear S; intro a S
 refine l_enter S (fun _ => run_call (vs := [iV p_n, iV 1, iV 360000]) ⟨(S.tm rfl), rfl, rfl, trivial⟩ Tryz.call67) (words_Within_ok _ p_n 1 360000 _ rfl) rfl ?_; clear S; intro v1 a w1 hv1 hk1 hn1 S
 subst hv1
 refine lv S (rn_assign (S.tm rfl)) rfl ?_; clear S; intro a S
 refine l_done (then_n (wp_ret ?_))
 subst h
 exact f_ret S Tryz.results75 rfl rfl
set_option maxRecDepth 20000 in
theorem points_CheckBase_ok (w : World) (v_p_l : Value) (p_l : List GBase) (hs_p_l : Slc (view w []) 2 v_p_l (p_l.map GBase.enc)) (r : Int) (h : points_CheckBase p_l = some r) :
    Calls Tryz.prog 73 [v_p_l].toArray w (Ret w [] fun _ v _ => v = iV r) := by
 refine f_enter [] [] Tryz.func73 rfl Tryz.ntmps73 rfl (by simp) (by simp [fps]) (by simp [fps]) fun a S => ?_
 unfold points_CheckBase at h
 replace S := S.nk [] [(0, v_p_l)] [] rfl ⟨rfl, trivial⟩
 refine f_seq (f_region (lv S (rn_assign rfl) rfl ?_)); clear S; intro a S
 refine l_done (then_n (f_seq (f_seq (f_region (lv S (rn_move (S.tm rfl)) rfl ?_))))); clear S; intro a S
 refine lv S (rn_lenT sl_95 (S.tm rfl) (slc_len hs_p_l)) rfl ?_; clear S; intro a S
 refine lv S (rn_gtr (S.tm rfl) rfl) rfl ?_; clear S; intro a S
 refine l_done (then_n (f_cond (S.tm rfl) (fun hb1 => ?_) (fun hb1 => ?_)))
 ·replace h := iteT h hb1
  refine f_seq (f_region (lv S (rn_assign rfl) rfl ?_)); clear S; intro a S
  refine l_done (then_n (wp_ret (then_r ?_)))
  obtain rfl := Option.some.inj h
  exact f_ret S Tryz.results73 rfl rfl
 ·replace h := iteF h hb1
  refine wp_skip (then_n (f_seq (f_seq (f_region (lv S (rn_move (S.tm rfl)) rfl ?_))))); clear S; intro a S
  refine lv S (rn_lenT sl_95 (S.tm rfl) (slc_len hs_p_l)) rfl ?_; clear S; intro a S
  refine lv S (rn_move rfl) rfl ?_; clear S; intro a S
  refine l_done (then_n ?_)
  replace S := S.nk [] [(0, v_p_l), (8, v_p_l), (9, iV (p_l.length : Int)), (10, iV 0)] [] rfl (subR rfl)
  obtain ⟨j1, hj1, h⟩ := joinE h
  refine f_join (fun a w' => j1 = some r ∧ Sx w [] nov [] [] 40 a w') ?_ ?_
  ·refine wp_block (f_loop (fun (ys1 : List GBase) a w' => ∃ i1 : Nat, (∃ dn, p_l = dn ++ ys1 ∧ dn.length = i1) ∧ points_CheckBase_l1 p_l j1 ys1 i1 = some r ∧ Sx w [] nov [] [(0, v_p_l), (8, v_p_l), (9, iV (p_l.length : Int)), (10, iV (i1 : Int))] 40 a w') List.length p_l ⟨0, ⟨[], rfl, rfl⟩, h, S.nf [] rfl (subR rfl)⟩ ?_)
   clear S h; rintro ys1 a w1 ⟨i1, ⟨dn, hd1, hi1⟩, h, S⟩
   cases ys1 with
   | nil =>
    rw [points_CheckBase_l1.eq_1] at h
    refine f_seq (f_region (lv S (rn_lss (S.tm rfl) (S.tm rfl)) rfl ?_)); clear S; intro a S
    refine l_done ?_
    replace S := S.nk [] [(0, v_p_l), (8, v_p_l), (9, iV (p_l.length : Int)), (10, iV (i1 : Int)), (11, bV (decide ((i1 : Int) < (p_l.length : Int))))] [] rfl (subR rfl)
    refine then_n (f_seq (wp_cond_false ((S.tm rfl).trans (congrArg Value.bool (rng_nil hd1 hi1))) (wp_exit (then_x (then_x (x_same ?_))))))
    refine then_n ?_
    exact ⟨h, S.nf [] rfl trivial⟩
   | cons y1 ys1 =>
    rw [points_CheckBase_l1.eq_2] at h
    refine f_seq (f_region (lv S (rn_lss (S.tm rfl) (S.tm rfl)) rfl ?_)); clear S; intro a S
    refine l_done ?_
    replace S := S.nk [] [(0, v_p_l), (8, v_p_l), (9, iV (p_l.length : Int)), (10, iV (i1 : Int)), (11, bV (decide ((i1 : Int) < (p_l.length : Int))))] [] rfl (subR rfl)
    refine then_n (f_seq (wp_cond_true ((S.tm rfl).trans (congrArg Value.bool (rng_cons hd1 hi1))) (wp_skip (then_n (f_seq (wp_block ?_))))))
    refine f_seq (f_region (lv S (rn_move (S.tm rfl)) rfl ?_)); clear S; intro a S
    obtain ⟨b1, o1, hm1, hr1⟩ := rn_indexT (a := a) (x := .tmp 8) (y := .tmp 10) (ty := 0) sl_95 hs_p_l (get_mid hd1 hi1) rfl (S.tm rfl) (S.tm rfl)
    refine lv S (hr1 _) rfl ?_; clear S; intro a S
    clear hr1
    refine lv S (rn_ldA Tryz.isAgg94 Tryz.sizeOf94 (off := o1) (o := 0) (part := (GBase.enc y1)) rfl rfl (S.tm rfl) (hm1.at S.emb0)) rfl ?_; clear S; intro a S
    refine l_alloc S Tryz.zeroValue94 (cs := [sV k_empty, iV 0]) rfl rfl ?_; clear S; intro a w3 b2 hz1 hk1 S
    refine lv S (rn_assign (S.tm rfl)) rfl ?_; clear S; intro a S
    refine l_store S (S.tm rfl) (S.tm rfl) (i := 0) (off := 0) rfl Tryz.sizeOf94 (vs := (GBase.enc y1)) rfl rfl rfl rfl ?_; clear S; intro w4 hk2 S
    refine l_done (then_n (wp_block (f_seq (f_region (lv S (rn_fld fa_94_0 (S.tm rfl)) rfl ?_))))); clear S; intro a S
    refine lv S (rn_load Tryz.isAgg9 (S.tm rfl) (S.cell (i := 0) rfl rfl)) rfl ?_; clear S; intro a S
    obtain ⟨r1, hr2, h⟩ := bindE h
    refine l_enter S (fun _ => run_call (vs := [sV y1.Race]) ⟨(S.tm rfl), trivial⟩ Tryz.call86) (words_IsKey_ok _ y1.Race _ hr2) rfl ?_; clear S; intro v1 a w5 hv1 hk3 hn1 S
    subst hv1
    refine lv S (rn_not (S.tm rfl)) rfl ?_; clear S; intro a S
    refine lv S (rn_assign (S.tm rfl)) rfl ?_; clear S; intro a S
    refine l_done ?_
    replace S := S.nk [.blk b2 (GBase.enc y1) 94] [(0, v_p_l), (3, iV (i1 : Int)), (4, .pointer (some ⟨b2, 0, none⟩)), (8, v_p_l), (9, iV (p_l.length : Int)), (10, iV (i1 : Int)), (15, bV (!r1))] [true] rfl (subR rfl)
    refine then_n (f_cond (S.tm rfl) (fun hb2 => ?_) (fun hb2 => ?_))
    ·replace h := iteT h hb2
     refine f_seq (f_region (lv S (rn_assign rfl) rfl ?_)); clear S; intro a S
     refine l_done (then_n (wp_ret (blk_r (blk_r (then_r (then_r ?_))))))
     refine blk_r (then_r (then_r ?_))
     obtain rfl := Option.some.inj h
     exact f_ret S Tryz.results73 rfl rfl
    ·replace h := iteF h hb2
     refine f_seq (d_region [] ([]) Tryz.mixed S rfl (by kernel_rfl) ?_); clear S; intro w6 hk4 hsel S
     refine d_rest [0, 1, 2, 3, 4, 5, 6, 7, 8, 9, 10, 11, 12, 13] hsel (by kernel_rfl) rfl ?_
     clear hsel
     refine s_lv S rfl (rn_move (S.tm rfl)) rfl ?_; clear S; intro a S
     refine s_lv S rfl (rn_gtr (S.tm rfl) rfl) rfl ?_; clear S; intro a S
     refine s_lv S rfl (rn_move (S.tm rfl)) rfl ?_; clear S; intro a S
     obtain ⟨j2, hj2, h⟩ := joinE h
     refine s_cutm 10 (fun a w' => ∃ c1, j2 c1 = some r ∧ Keep [] w6 w' ∧ Sx w [] nov [.blk b2 (GBase.enc y1) 94] [(0, v_p_l), (4, .pointer (some ⟨b2, 0, none⟩)), (8, v_p_l), (9, iV (p_l.length : Int)), (10, iV (i1 : Int)), (33, bV c1)] 40 a w') ?_ ?_
     ·rcases Bool.eq_false_or_eq_true (decide (0 < (i1 : Int))) with hb3 | hb3
      ·replace h := iteT h hb3
       refine s_want S rfl rfl rfl rfl hb3 (s_lv0 S (rn_fld fa_94_0 (S.tm rfl)) rfl ?_); clear S; intro a S
       refine s_want S rfl rfl rfl rfl hb3 (s_lv0 S (rn_load Tryz.isAgg9 (S.tm rfl) (S.cell (i := 0) rfl rfl)) rfl ?_); clear S; intro a S
       refine s_want S rfl rfl rfl rfl hb3 (s_lv0 S (rn_move (S.tm rfl)) rfl ?_); clear S; intro a S
       refine s_want S rfl rfl rfl rfl hb3 (s_lv0 S (rn_move (S.tm rfl)) rfl ?_); clear S; intro a S
       refine s_want S rfl rfl rfl rfl hb3 (s_lv0 S (rn_sub (S.tm rfl) rfl) rfl ?_); clear S; intro a S
       refine s_want S rfl rfl rfl rfl hb3 ?_
       obtain ⟨hc1, h⟩ := chkE h
       obtain ⟨b3, o2, hm2, hr3⟩ := rn_indexT (a := a) (x := .tmp 26) (y := .tmp 28) (ty := 0) sl_95 hs_p_l (inB_get hc1).1 (inB_get hc1).2 (S.tm rfl) (S.tm rfl)
       refine s_lv0 S (hr3 _) rfl ?_; clear S; intro a S
       clear hr3
       refine s_want S rfl rfl rfl rfl hb3 (s_lv0 S (rn_fld fa_94_0 (S.tm rfl)) rfl ?_); clear S; intro a S
       refine s_want S rfl rfl rfl rfl hb3 (s_lv0 S (rn_ld Tryz.isAgg9 (off := o2) (o := 0) (S.tm rfl) (hm2.at S.emb0) rfl) rfl ?_); clear S; intro a S
       refine s_want S rfl rfl rfl rfl hb3 (s_lv0 S (rn_sleq (S.tm rfl) (S.tm rfl)) rfl ?_); clear S; intro a S
       refine s_lv S rfl (rn_and_t hb3 (S.tm rfl) (S.tm rfl)) rfl ?_; clear S; intro a S
       refine s_done ?_
       exact ⟨_, h, Keep.refl _ _, S.nf [true] rfl (subR rfl)⟩
      ·replace h := iteF h hb3
       iterate 9 (refine s_skip S rfl rfl rfl rfl (neq_f hb3) rfl ?_ rfl; clear S; intro a S)
       refine s_lv S rfl (rn_and_f true hb3 (S.tm rfl) rfl) rfl ?_; clear S; intro a S
       refine s_done ?_
       exact ⟨_, h, Keep.refl _ _, S.nf [true] rfl (subR rfl)⟩
     clear S h; rintro a w7 ⟨c1, h, hk5, S⟩; rw [hj2] at h; clear hj2 j2
     refine s_lv S rfl (rn_assign (S.tm rfl)) rfl ?_; clear S; intro a S
     refine s_done ?_
     replace S := S.nk [.blk b2 (GBase.enc y1) 94] [(0, v_p_l), (4, .pointer (some ⟨b2, 0, none⟩)), (8, v_p_l), (9, iV (p_l.length : Int)), (10, iV (i1 : Int)), (20, bV c1)] [true] rfl (subR rfl)
     refine then_n (f_cond (S.tm rfl) (fun hb4 => ?_) (fun hb4 => ?_))
     ·replace h := iteT h hb4
      refine f_seq (f_region (lv S (rn_assign rfl) rfl ?_)); clear S; intro a S
      refine l_done (then_n (wp_ret (blk_r (blk_r (then_r (then_r ?_))))))
      refine blk_r (then_r (then_r ?_))
      obtain rfl := Option.some.inj h
      exact f_ret S Tryz.results73 rfl rfl
     ·replace h := iteF h hb4
      refine f_seq (f_region (lv S (rn_fld fa_94_1 (S.tm rfl)) rfl ?_)); clear S; intro a S
      refine lv S (rn_load Tryz.isAgg3 (S.tm rfl) (S.cell (i := 0) rfl rfl)) rfl ?_; clear S; intro a S
      refine l_enter S (fun _ => run_call (vs := [iV y1.Time]) ⟨(S.tm rfl), trivial⟩ Tryz.call75) (timing_IsTime_ok _ y1.Time _ rfl) rfl ?_; clear S; intro v2 a w8 hv2 hk6 hn2 S
      subst hv2
      refine lv S (rn_not (S.tm rfl)) rfl ?_; clear S; intro a S
      refine lv S (rn_assign (S.tm rfl)) rfl ?_; clear S; intro a S
      refine l_done (then_n (f_cond (S.tm rfl) (fun hb5 => ?_) (fun hb5 => ?_)))
      ·replace h := iteT h hb5
       refine f_seq (f_region (lv S (rn_assign rfl) rfl ?_)); clear S; intro a S
       refine l_done (then_n (wp_ret (blk_r (blk_r (then_r (then_r ?_))))))
       refine blk_r (then_r (then_r ?_))
       obtain rfl := Option.some.inj h
       exact f_ret S Tryz.results73 rfl rfl
      ·replace h := iteF h hb5
       refine wp_skip (blk_n (blk_n (then_n (f_region (lv S (rn_add (S.tm rfl) rfl) rfl ?_))))); clear S; intro a S
       refine lv S (rn_move (S.tm rfl)) rfl ?_; clear S; intro a S
       refine l_done (then_n ?_)
       exact ⟨ys1, ⟨i1 + 1, ⟨_, (hd1).trans (List.append_cons _ _ _), by simp [hi1]⟩, h, S.nf [false] rfl ⟨rfl, rfl, rfl, (congrArg (fun z => some (Value.int .i64 z)) (rng_next hd1 hi1 (slc_max hs_p_l))), trivial⟩⟩, Nat.lt_succ_self _⟩
  clear S h; rintro a w2 ⟨h, S⟩; rw [hj1] at h; clear hj1 j1
  refine then_n (f_seq (f_region (lv S (rn_assign rfl) rfl ?_))); clear S; intro a S
  refine l_done (then_n (wp_ret ?_))
  obtain rfl := Option.some.inj h
  exact f_ret S Tryz.results73 rfl rfl
theorem points_baseOf_ok (w : World) (v_p_l : Value) (p_l : List GBase) (hs_p_l : Slc (view w []) 2 v_p_l (p_l.map GBase.enc)) (p_race : ByteArray) (r : Int) (h : points_baseOf p_l p_race = r) :
    Calls Tryz.prog 74 [v_p_l, sV p_race].toArray w (Ret w [] fun _ v _ => v = iV r) := by
 refine f_enter [] [] Tryz.func74 rfl Tryz.ntmps74 rfl (by simp) (by simp [fps]) (by simp [fps]) fun a S => ?_
 unfold points_baseOf at h
 replace S := S.nk [] [(0, v_p_l), (1, sV p_race)] [] rfl (subR rfl)
 refine f_seq (f_region (lv S (rn_assign rfl) rfl ?_)); clear S; intro a S
 refine l_done (then_n (f_seq (f_seq (f_region (lv S (rn_move (S.tm rfl)) rfl ?_))))); clear S; intro a S
 refine lv S (rn_lenT sl_95 (S.tm rfl) (slc_len hs_p_l)) rfl ?_; clear S; intro a S
 refine lv S (rn_move rfl) rfl ?_; clear S; intro a S
 refine l_done (then_n ?_)
 replace S := S.nk [] [(1, sV p_race), (7, v_p_l), (8, iV (p_l.length : Int)), (9, iV 0)] [] rfl (subR rfl)
 obtain ⟨j1, hj1, h⟩ := joinE h
 refine f_join (fun a w' => j1 = r ∧ Sx w [] nov [] [] 20 a w') ?_ ?_
 ·refine wp_block (f_loop (fun (ys1 : List GBase) a w' => ∃ i1 : Nat, (∃ dn, p_l = dn ++ ys1 ∧ dn.length = i1) ∧ points_baseOf_l1 p_race j1 ys1 i1 = r ∧ Sx w [] nov [] [(1, sV p_race), (7, v_p_l), (8, iV (p_l.length : Int)), (9, iV (i1 : Int))] 20 a w') List.length p_l ⟨0, ⟨[], rfl, rfl⟩, h, S.nf [] rfl (subR rfl)⟩ ?_)
  clear S h; rintro ys1 a w1 ⟨i1, ⟨dn, hd1, hi1⟩, h, S⟩
  cases ys1 with
  | nil =>
   rw [points_baseOf_l1.eq_1] at h
   refine f_seq (f_region (lv S (rn_lss (S.tm rfl) (S.tm rfl)) rfl ?_)); clear S; intro a S
   refine l_done ?_
   replace S := S.nk [] [(1, sV p_race), (7, v_p_l), (8, iV (p_l.length : Int)), (9, iV (i1 : Int)), (10, bV (decide ((i1 : Int) < (p_l.length : Int))))] [] rfl (subR rfl)
   refine then_n (f_seq (wp_cond_false ((S.tm rfl).trans (congrArg Value.bool (rng_nil hd1 hi1))) (wp_exit (then_x (then_x (x_same ?_))))))
   refine then_n ?_
   exact ⟨h, S.nf [] rfl trivial⟩
  | cons y1 ys1 =>
   rw [points_baseOf_l1.eq_2] at h
   refine f_seq (f_region (lv S (rn_lss (S.tm rfl) (S.tm rfl)) rfl ?_)); clear S; intro a S
   refine l_done ?_
   replace S := S.nk [] [(1, sV p_race), (7, v_p_l), (8, iV (p_l.length : Int)), (9, iV (i1 : Int)), (10, bV (decide ((i1 : Int) < (p_l.length : Int))))] [] rfl (subR rfl)
   refine then_n (f_seq (wp_cond_true ((S.tm rfl).trans (congrArg Value.bool (rng_cons hd1 hi1))) (wp_skip (then_n (f_seq (wp_block ?_))))))
   refine f_seq (f_region ?_)
   obtain ⟨b1, o1, hm1, hr1⟩ := rn_indexT (a := a) (x := .tmp 7) (y := .tmp 9) (ty := 0) sl_95 hs_p_l (get_mid hd1 hi1) rfl (S.tm rfl) (S.tm rfl)
   refine lv S (hr1 _) rfl ?_; clear S; intro a S
   clear hr1
   refine lv S (rn_ldA Tryz.isAgg94 Tryz.sizeOf94 (off := o1) (o := 0) (part := (GBase.enc y1)) rfl rfl (S.tm rfl) (hm1.at S.emb0)) rfl ?_; clear S; intro a S
   refine l_alloc S Tryz.zeroValue94 (cs := [sV k_empty, iV 0]) rfl rfl ?_; clear S; intro a w3 b2 hz1 hk1 S
   refine l_store S (S.tm rfl) (S.tm rfl) (i := 0) (off := 0) rfl Tryz.sizeOf94 (vs := (GBase.enc y1)) rfl rfl rfl rfl ?_; clear S; intro w4 hk2 S
   refine l_done (then_n (f_seq (f_region (lv S (rn_fld fa_94_0 (S.tm rfl)) rfl ?_)))); clear S; intro a S
   refine lv S (rn_load Tryz.isAgg9 (S.tm rfl) (S.cell (i := 0) rfl rfl)) rfl ?_; clear S; intro a S
   refine lv S (rn_move (S.tm rfl)) rfl ?_; clear S; intro a S
   refine lv S (rn_seql (S.tm rfl) (S.tm rfl)) rfl ?_; clear S; intro a S
   refine l_done (then_n (f_cond (S.tm rfl) (fun hb1 => ?_) (fun hb1 => ?_)))
   ·replace h := iteT h hb1
    refine f_seq (f_region (lv S (rn_fld fa_94_1 (S.tm rfl)) rfl ?_)); clear S; intro a S
    refine lv S (rn_load Tryz.isAgg3 (S.tm rfl) (S.cell (i := 0) rfl rfl)) rfl ?_; clear S; intro a S
    refine lv S (rn_assign (S.tm rfl)) rfl ?_; clear S; intro a S
    refine l_done ?_
    replace S := S.nk [] [(4, iV y1.Time)] [false] rfl ⟨rfl, trivial⟩
    refine then_n (wp_ret (blk_r (then_r (then_r (blk_r (then_r ?_))))))
    refine then_r ?_
    subst h
    exact f_ret S Tryz.results74 rfl rfl
   ·replace h := iteF h hb1
    refine wp_skip (blk_n (then_n (f_region (lv S (rn_add (S.tm rfl) rfl) rfl ?_)))); clear S; intro a S
    refine lv S (rn_move (S.tm rfl)) rfl ?_; clear S; intro a S
    refine l_done (then_n ?_)
    exact ⟨ys1, ⟨i1 + 1, ⟨_, (hd1).trans (List.append_cons _ _ _), by simp [hi1]⟩, h, S.nf [false] rfl ⟨rfl, rfl, rfl, (congrArg (fun z => some (Value.int .i64 z)) (rng_next hd1 hi1 (slc_max hs_p_l))), trivial⟩⟩, Nat.lt_succ_self _⟩
 clear S h; rintro a w2 ⟨h, S⟩; rw [hj1] at h; clear hj1 j1
 refine then_n (f_seq (f_region (lv S (rn_assign rfl) rfl ?_))); clear S; intro a S
 refine l_done (then_n (wp_ret ?_))
 subst h
 exact f_ret S Tryz.results74 rfl rfl
theorem bits_Mul64_ok (w : World) (p_x : Int) (p_y : Int) (r : Int × Int) (h : bits_Mul64 p_x p_y = r) :
    Calls Tryz.prog 111 [.int .u64 p_x, .int .u64 p_y].toArray w (Ret w [] fun _ v _ => v = .tuple #[.int .u64 r.1, .int .u64 r.2]) := by
 refine f_enter [] [] Tryz.func111 rfl Tryz.ntmps111 rfl (by simp) (by simp [fps]) (by simp [fps]) fun a S => ?_
 unfold bits_Mul64 at h
 replace S := S.nk [] [(0, .int .u64 p_x), (1, .int .u64 p_y)] [] rfl (subR rfl)
 refine f_seq (f_region (lv S (rn_assign rfl) rfl ?_)); clear S; intro a S
 refine lv S (rn_assign rfl) rfl ?_; clear S; intro a S
 refine l_done (then_n (f_seq (f_region (lv S (rn_move (S.tm rfl)) rfl ?_)))); clear S; intro a S
 refine lv S (rn_and_ (S.tm rfl) rfl) rfl ?_; clear S; intro a S
 refine lv S (rn_assign (S.tm rfl)) rfl ?_; clear S; intro a S
 refine l_done (then_n (f_seq (f_region (lv S (rn_move (S.tm rfl)) rfl ?_)))); clear S; intro a S
 refine lv S (rn_shr (S.tm rfl) rfl (by decide)) rfl ?_; clear S; intro a S
 refine lv S (rn_assign (S.tm rfl)) rfl ?_; clear S; intro a S
 refine l_done (then_n (f_seq (f_region (lv S (rn_move (S.tm rfl)) rfl ?_)))); clear S; intro a S
 refine lv S (rn_and_ (S.tm rfl) rfl) rfl ?_; clear S; intro a S
 refine lv S (rn_assign (S.tm rfl)) rfl ?_; clear S; intro a S
 refine l_done (then_n (f_seq (f_region (lv S (rn_move (S.tm rfl)) rfl ?_)))); clear S; intro a S
 refine lv S (rn_shr (S.tm rfl) rfl (by decide)) rfl ?_; clear S; intro a S
 refine lv S (rn_assign (S.tm rfl)) rfl ?_; clear S; intro a S
 refine l_done ?_
 replace S := S.nk [] [(0, .int .u64 p_x), (1, .int .u64 p_y), (6, .int .u64 (bitAnd .u64 p_x 4294967295)), (7, .int .u64 (bitShr .u64 p_x 32)), (8, .int .u64 (bitAnd .u64 p_y 4294967295)), (9, .int .u64 (bitShr .u64 p_y 32))] [] rfl (subR rfl)
 refine then_n (f_seq (f_region (lv S (rn_move (S.tm rfl)) rfl ?_))); clear S; intro a S
 refine lv S (rn_move (S.tm rfl)) rfl ?_; clear S; intro a S
 refine lv S (rn_mulk (S.tm rfl) (S.tm rfl)) rfl ?_; clear S; intro a S
 refine lv S (rn_assign (S.tm rfl)) rfl ?_; clear S; intro a S
 refine l_done (then_n (f_seq (f_region (lv S (rn_move (S.tm rfl)) rfl ?_)))); clear S; intro a S
 refine lv S (rn_move (S.tm rfl)) rfl ?_; clear S; intro a S
 refine lv S (rn_mulk (S.tm rfl) (S.tm rfl)) rfl ?_; clear S; intro a S
 refine lv S (rn_move (S.tm rfl)) rfl ?_; clear S; intro a S
 refine lv S (rn_shr (S.tm rfl) rfl (by decide)) rfl ?_; clear S; intro a S
 refine lv S (rn_addk (S.tm rfl) (S.tm rfl)) rfl ?_; clear S; intro a S
 refine lv S (rn_assign (S.tm rfl)) rfl ?_; clear S; intro a S
 refine l_done ?_
 replace S := S.nk [] [(0, .int .u64 p_x), (1, .int .u64 p_y), (6, .int .u64 (bitAnd .u64 p_x 4294967295)), (7, .int .u64 (bitShr .u64 p_x 32)), (9, .int .u64 (bitShr .u64 p_y 32)), (11, .int .u64 (IntKind.wrap .u64 ((IntKind.wrap .u64 ((bitShr .u64 p_x 32) * (bitAnd .u64 p_y 4294967295))) + (bitShr .u64 (IntKind.wrap .u64 ((bitAnd .u64 p_x 4294967295) * (bitAnd .u64 p_y 4294967295))) 32))))] [] rfl (subR rfl)
 refine then_n (f_seq (f_region (lv S (rn_move (S.tm rfl)) rfl ?_))); clear S; intro a S
 refine lv S (rn_and_ (S.tm rfl) rfl) rfl ?_; clear S; intro a S
 refine lv S (rn_assign (S.tm rfl)) rfl ?_; clear S; intro a S
 refine l_done (then_n (f_seq (f_region (lv S (rn_move (S.tm rfl)) rfl ?_)))); clear S; intro a S
 refine lv S (rn_shr (S.tm rfl) rfl (by decide)) rfl ?_; clear S; intro a S
 refine lv S (rn_assign (S.tm rfl)) rfl ?_; clear S; intro a S
 refine l_done (then_n (f_seq (f_region (lv S (rn_move (S.tm rfl)) rfl ?_)))); clear S; intro a S
 refine lv S (rn_move (S.tm rfl)) rfl ?_; clear S; intro a S
 refine lv S (rn_move (S.tm rfl)) rfl ?_; clear S; intro a S
 refine lv S (rn_mulk (S.tm rfl) (S.tm rfl)) rfl ?_; clear S; intro a S
 refine lv S (rn_addk (S.tm rfl) (S.tm rfl)) rfl ?_; clear S; intro a S
 refine lv S (rn_assign (S.tm rfl)) rfl ?_; clear S; intro a S
 refine l_done ?_
 replace S := S.nk [] [(0, .int .u64 p_x), (1, .int .u64 p_y), (7, .int .u64 (bitShr .u64 p_x 32)), (9, .int .u64 (bitShr .u64 p_y 32)), (12, .int .u64 (IntKind.wrap .u64 ((bitAnd .u64 (IntKind.wrap .u64 ((IntKind.wrap .u64 ((bitShr .u64 p_x 32) * (bitAnd .u64 p_y 4294967295))) + (bitShr .u64 (IntKind.wrap .u64 ((bitAnd .u64 p_x 4294967295) * (bitAnd .u64 p_y 4294967295))) 32))) 4294967295) + (IntKind.wrap .u64 ((bitAnd .u64 p_x 4294967295) * (bitShr .u64 p_y 32)))))), (13, .int .u64 (bitShr .u64 (IntKind.wrap .u64 ((IntKind.wrap .u64 ((bitShr .u64 p_x 32) * (bitAnd .u64 p_y 4294967295))) + (bitShr .u64 (IntKind.wrap .u64 ((bitAnd .u64 p_x 4294967295) * (bitAnd .u64 p_y 4294967295))) 32))) 32))] [] rfl (subR rfl)
 refine then_n (f_seq (f_region (lv S (rn_move (S.tm rfl)) rfl ?_))); clear S; intro a S
 refine lv S (rn_move (S.tm rfl)) rfl ?_; clear S; intro a S
 refine lv S (rn_mulk (S.tm rfl) (S.tm rfl)) rfl ?_; clear S; intro a S
 refine lv S (rn_move (S.tm rfl)) rfl ?_; clear S; intro a S
 refine lv S (rn_addk (S.tm rfl) (S.tm rfl)) rfl ?_; clear S; intro a S
 refine lv S (rn_move (S.tm rfl)) rfl ?_; clear S; intro a S
 refine lv S (rn_shr (S.tm rfl) rfl (by decide)) rfl ?_; clear S; intro a S
 refine lv S (rn_addk (S.tm rfl) (S.tm rfl)) rfl ?_; clear S; intro a S
 refine lv S (rn_assign (S.tm rfl)) rfl ?_; clear S; intro a S
 refine l_done ?_
 replace S := S.nk [] [(0, .int .u64 p_x), (1, .int .u64 p_y), (4, .int .u64 (IntKind.wrap .u64 ((IntKind.wrap .u64 ((IntKind.wrap .u64 ((bitShr .u64 p_x 32) * (bitShr .u64 p_y 32))) + (bitShr .u64 (IntKind.wrap .u64 ((IntKind.wrap .u64 ((bitShr .u64 p_x 32) * (bitAnd .u64 p_y 4294967295))) + (bitShr .u64 (IntKind.wrap .u64 ((bitAnd .u64 p_x 4294967295) * (bitAnd .u64 p_y 4294967295))) 32))) 32))) + (bitShr .u64 (IntKind.wrap .u64 ((bitAnd .u64 (IntKind.wrap .u64 ((IntKind.wrap .u64 ((bitShr .u64 p_x 32) * (bitAnd .u64 p_y 4294967295))) + (bitShr .u64 (IntKind.wrap .u64 ((bitAnd .u64 p_x 4294967295) * (bitAnd .u64 p_y 4294967295))) 32))) 4294967295) + (IntKind.wrap .u64 ((bitAnd .u64 p_x 4294967295) * (bitShr .u64 p_y 32))))) 32))))] [] rfl (subR rfl)
 refine then_n (f_seq (f_region (lv S (rn_move (S.tm rfl)) rfl ?_))); clear S; intro a S
 refine lv S (rn_move (S.tm rfl)) rfl ?_; clear S; intro a S
 refine lv S (rn_mulk (S.tm rfl) (S.tm rfl)) rfl ?_; clear S; intro a S
 refine lv S (rn_assign (S.tm rfl)) rfl ?_; clear S; intro a S
 refine l_done (then_n (wp_ret ?_))
 subst h
 exact f_ret2 S Tryz.results111 rfl rfl rfl
theorem bits_LeadingZeros64_ok (w : World) (p_x : Int) (r : Int) (h : bits_LeadingZeros64 p_x = some r) :
    Calls Tryz.prog 143 [.int .u64 p_x].toArray w (Ret w [] fun _ v _ => v = iV r) := by
 refine f_enter [] [] Tryz.func143 rfl Tryz.ntmps143 rfl (by simp) (by simp [fps]) (by simp [fps]) fun a S => ?_
 unfold bits_LeadingZeros64 at h
 replace S := S.nk [] [(0, .int .u64 p_x)] [] rfl ⟨rfl, trivial⟩
 refine f_seq (f_region (lv S (rn_assign rfl) rfl ?_)); clear S; intro a S
 refine l_done (then_n (f_seq (f_region (lv S (rn_move (S.tm rfl)) rfl ?_)))); clear S; intro a S
 obtain ⟨r1, hr1, h⟩ := bindE h
 refine l_enter S (fun _ => run_call (vs := [.int .u64 p_x]) ⟨(S.tm rfl), trivial⟩ Tryz.call96) (bits_Len64_ok _ p_x _ hr1) rfl ?_; clear S; intro v1 a w1 hv1 hk1 hn1 S
 subst hv1
 refine lv S (rn_sub rfl (S.tm rfl)) rfl ?_; clear S; intro a S
 refine lv S (rn_assign (S.tm rfl)) rfl ?_; clear S; intro a S
 refine l_done (then_n (wp_ret ?_))
 obtain rfl := Option.some.inj h
 exact f_ret S Tryz.results143 rfl rfl
set_option maxRecDepth 20000 in
theorem bits_Div64_ok (w : World) (p_hi : Int) (p_lo : Int) (p_y : Int) (r : Int × Int) (h : bits_Div64 p_hi p_lo p_y = some r) :
    Calls Tryz.prog 112 [.int .u64 p_hi, .int .u64 p_lo, .int .u64 p_y].toArray w (Ret w [] fun _ v _ => v = .tuple #[.int .u64 r.1, .int .u64 r.2]) := by
 refine f_enter [] [] Tryz.func112 rfl Tryz.ntmps112 rfl (by simp) (by simp [fps]) (by simp [fps]) fun a S => ?_
 unfold bits_Div64 at h
 replace S := S.nk [] [(0, .int .u64 p_hi), (1, .int .u64 p_lo), (2, .int .u64 p_y)] [] rfl (subR rfl)
 refine f_seq (f_region (lv S (rn_assign rfl) rfl ?_)); clear S; intro a S
 refine lv S (rn_assign rfl) rfl ?_; clear S; intro a S
 refine l_done (then_n (f_seq (f_seq (f_region (lv S (rn_move (S.tm rfl)) rfl ?_))))); clear S; intro a S
 refine lv S (rn_eql (S.tm rfl) rfl) rfl ?_; clear S; intro a S
 refine l_done (then_n (f_cond (S.tm rfl) (fun hb1 => ?_) (fun hb1 => ?_)))
 ·replace h := iteT h hb1
  cases h
 ·replace h := iteF h hb1
  refine wp_skip (then_n (f_seq (f_seq (f_region (lv S (rn_move (S.tm rfl)) rfl ?_))))); clear S; intro a S
  refine lv S (rn_move (S.tm rfl)) rfl ?_; clear S; intro a S
  refine lv S (rn_leq (S.tm rfl) (S.tm rfl)) rfl ?_; clear S; intro a S
  refine l_done (then_n (f_cond (S.tm rfl) (fun hb2 => ?_) (fun hb2 => ?_)))
  ·replace h := iteT h hb2
   cases h
  ·replace h := iteF h hb2
   refine wp_skip (then_n (f_seq (f_seq (f_region (lv S (rn_move (S.tm rfl)) rfl ?_))))); clear S; intro a S
   refine lv S (rn_eql (S.tm rfl) rfl) rfl ?_; clear S; intro a S
   refine l_done (then_n (f_cond (S.tm rfl) (fun hb3 => ?_) (fun hb3 => ?_)))
   ·replace h := iteT h hb3
    refine f_seq (d_region [] ([]) Tryz.mixed S rfl (by kernel_rfl) ?_); clear S; intro w1 hk1 hsel S
    refine d_rest [0, 1, 2, 3, 4, 5, 6, 7] hsel (by kernel_rfl) rfl ?_
    clear hsel
    refine s_lv S rfl (rn_move (S.tm rfl)) rfl ?_; clear S; intro a S
    refine s_lv S rfl (rn_move (S.tm rfl)) rfl ?_; clear S; intro a S
    obtain ⟨hc1, h⟩ := chkE h
    refine s_lv S rfl (rn_quok (S.tm rfl) (S.tm rfl) (ne0_of hc1)) rfl ?_; clear S; intro a S
    refine s_lv S rfl (rn_move (S.tm rfl)) rfl ?_; clear S; intro a S
    refine s_lv S rfl (rn_move (S.tm rfl)) rfl ?_; clear S; intro a S
    obtain ⟨hc2, h⟩ := chkE h
    refine s_lv S rfl (rn_remk (S.tm rfl) (S.tm rfl) (ne0_of hc2)) rfl ?_; clear S; intro a S
    refine s_lv S rfl (rn_assign (S.tm rfl)) rfl ?_; clear S; intro a S
    refine s_lv S rfl (rn_assign (S.tm rfl)) rfl ?_; clear S; intro a S
    refine s_done ?_
    replace S := S.nk [] [(6, .int .u64 (IntKind.wrap .u64 (Int.tdiv p_lo p_y))), (7, .int .u64 (Int.tmod p_lo p_y))] [] rfl (subR rfl)
    refine then_n (wp_ret (then_r ?_))
    obtain rfl := Option.some.inj h
    exact f_ret2 S Tryz.results112 rfl rfl rfl
   ·replace h := iteF h hb3
    refine wp_skip (then_n (f_seq (f_region (lv S (rn_move (S.tm rfl)) rfl ?_)))); clear S; intro a S
    obtain ⟨r1, hr1, h⟩ := bindE h
    refine l_enter S (fun _ => run_call (vs := [.int .u64 p_y]) ⟨(S.tm rfl), trivial⟩ Tryz.call143) (bits_LeadingZeros64_ok _ p_y _ hr1) rfl ?_; clear S; intro v1 a w2 hv1 hk2 hn1 S
    subst hv1
    refine lv S (rn_conv Tryz.underlying3 Tryz.underlying113 (S.tm rfl)) rfl ?_; clear S; intro a S
    refine lv S (rn_assign (S.tm rfl)) rfl ?_; clear S; intro a S
    refine l_done ?_
    replace S := S.nk [] [(0, .int .u64 p_hi), (1, .int .u64 p_lo), (2, .int .u64 p_y), (8, .int .u64 (IntKind.wrap .u64 r1))] [] rfl (subR rfl)
    refine then_n (f_seq (f_region (lv S (rn_move (S.tm rfl)) rfl ?_))); clear S; intro a S
    refine lv S (rn_move (S.tm rfl)) rfl ?_; clear S; intro a S
    obtain ⟨hc3, h⟩ := chkE h
    refine lv S (rn_shl (S.tm rfl) (S.tm rfl) (of_decide_eq_true hc3)) rfl ?_; clear S; intro a S
    refine lv S (rn_assign (S.tm rfl)) rfl ?_; clear S; intro a S
    refine l_done (then_n (f_seq (f_region (lv S (rn_move (S.tm rfl)) rfl ?_)))); clear S; intro a S
    refine lv S (rn_shr (S.tm rfl) rfl (by decide)) rfl ?_; clear S; intro a S
    refine lv S (rn_assign (S.tm rfl)) rfl ?_; clear S; intro a S
    refine l_done (then_n (f_seq (f_region (lv S (rn_move (S.tm rfl)) rfl ?_)))); clear S; intro a S
    refine lv S (rn_and_ (S.tm rfl) rfl) rfl ?_; clear S; intro a S
    refine lv S (rn_assign (S.tm rfl)) rfl ?_; clear S; intro a S
    refine l_done (then_n (f_seq (f_region (lv S (rn_move (S.tm rfl)) rfl ?_)))); clear S; intro a S
    refine lv S (rn_move (S.tm rfl)) rfl ?_; clear S; intro a S
    obtain ⟨hc4, h⟩ := chkE h
    refine lv S (rn_shl (S.tm rfl) (S.tm rfl) (of_decide_eq_true hc4)) rfl ?_; clear S; intro a S
    refine lv S (rn_move (S.tm rfl)) rfl ?_; clear S; intro a S
    refine lv S (rn_move (S.tm rfl)) rfl ?_; clear S; intro a S
    refine lv S (rn_subk rfl (S.tm rfl)) rfl ?_; clear S; intro a S
    obtain ⟨hc5, h⟩ := chkE h
    refine lv S (rn_shr (S.tm rfl) (S.tm rfl) (of_decide_eq_true hc5)) rfl ?_; clear S; intro a S
    refine lv S (rn_or_ (S.tm rfl) (S.tm rfl)) rfl ?_; clear S; intro a S
    refine lv S (rn_assign (S.tm rfl)) rfl ?_; clear S; intro a S
    refine l_done ?_
    replace S := S.nk [] [(1, .int .u64 p_lo), (2, .int .u64 (bitShl .u64 p_y (IntKind.wrap .u64 r1))), (8, .int .u64 (IntKind.wrap .u64 r1)), (9, .int .u64 (bitShr .u64 (bitShl .u64 p_y (IntKind.wrap .u64 r1)) 32)), (10, .int .u64 (bitAnd .u64 (bitShl .u64 p_y (IntKind.wrap .u64 r1)) 4294967295)), (11, .int .u64 (bitOr .u64 (bitShl .u64 p_hi (IntKind.wrap .u64 r1)) (bitShr .u64 p_lo (IntKind.wrap .u64 (64 - (IntKind.wrap .u64 r1))))))] [] rfl (subR rfl)
    refine then_n (f_seq (f_region (lv S (rn_move (S.tm rfl)) rfl ?_))); clear S; intro a S
    refine lv S (rn_move (S.tm rfl)) rfl ?_; clear S; intro a S
    obtain ⟨hc6, h⟩ := chkE h
    refine lv S (rn_shl (S.tm rfl) (S.tm rfl) (of_decide_eq_true hc6)) rfl ?_; clear S; intro a S
    refine lv S (rn_assign (S.tm rfl)) rfl ?_; clear S; intro a S
    refine l_done (then_n (f_seq (f_region (lv S (rn_move (S.tm rfl)) rfl ?_)))); clear S; intro a S
    refine lv S (rn_shr (S.tm rfl) rfl (by decide)) rfl ?_; clear S; intro a S
    refine lv S (rn_assign (S.tm rfl)) rfl ?_; clear S; intro a S
    refine l_done (then_n (f_seq (f_region (lv S (rn_move (S.tm rfl)) rfl ?_)))); clear S; intro a S
    refine lv S (rn_and_ (S.tm rfl) rfl) rfl ?_; clear S; intro a S
    refine lv S (rn_assign (S.tm rfl)) rfl ?_; clear S; intro a S
    refine l_done ?_
    replace S := S.nk [] [(2, .int .u64 (bitShl .u64 p_y (IntKind.wrap .u64 r1))), (8, .int .u64 (IntKind.wrap .u64 r1)), (9, .int .u64 (bitShr .u64 (bitShl .u64 p_y (IntKind.wrap .u64 r1)) 32)), (10, .int .u64 (bitAnd .u64 (bitShl .u64 p_y (IntKind.wrap .u64 r1)) 4294967295)), (11, .int .u64 (bitOr .u64 (bitShl .u64 p_hi (IntKind.wrap .u64 r1)) (bitShr .u64 p_lo (IntKind.wrap .u64 (64 - (IntKind.wrap .u64 r1)))))), (13, .int .u64 (bitShr .u64 (bitShl .u64 p_lo (IntKind.wrap .u64 r1)) 32)), (14, .int .u64 (bitAnd .u64 (bitShl .u64 p_lo (IntKind.wrap .u64 r1)) 4294967295))] [] rfl (subR rfl)
    refine then_n (f_seq (f_region (lv S (rn_move (S.tm rfl)) rfl ?_))); clear S; intro a S
    refine lv S (rn_move (S.tm rfl)) rfl ?_; clear S; intro a S
    obtain ⟨hc7, h⟩ := chkE h
    refine lv S (rn_quok (S.tm rfl) (S.tm rfl) (ne0_of hc7)) rfl ?_; clear S; intro a S
    refine lv S (rn_assign (S.tm rfl)) rfl ?_; clear S; intro a S
    refine l_done (then_n (f_seq (f_region (lv S (rn_move (S.tm rfl)) rfl ?_)))); clear S; intro a S
    refine lv S (rn_move (S.tm rfl)) rfl ?_; clear S; intro a S
    refine lv S (rn_move (S.tm rfl)) rfl ?_; clear S; intro a S
    refine lv S (rn_mulk (S.tm rfl) (S.tm rfl)) rfl ?_; clear S; intro a S
    refine lv S (rn_subk (S.tm rfl) (S.tm rfl)) rfl ?_; clear S; intro a S
    refine lv S (rn_assign (S.tm rfl)) rfl ?_; clear S; intro a S
    refine l_done ?_
    replace S := S.nk [] [(2, .int .u64 (bitShl .u64 p_y (IntKind.wrap .u64 r1))), (8, .int .u64 (IntKind.wrap .u64 r1)), (9, .int .u64 (bitShr .u64 (bitShl .u64 p_y (IntKind.wrap .u64 r1)) 32)), (10, .int .u64 (bitAnd .u64 (bitShl .u64 p_y (IntKind.wrap .u64 r1)) 4294967295)), (11, .int .u64 (bitOr .u64 (bitShl .u64 p_hi (IntKind.wrap .u64 r1)) (bitShr .u64 p_lo (IntKind.wrap .u64 (64 - (IntKind.wrap .u64 r1)))))), (13, .int .u64 (bitShr .u64 (bitShl .u64 p_lo (IntKind.wrap .u64 r1)) 32)), (14, .int .u64 (bitAnd .u64 (bitShl .u64 p_lo (IntKind.wrap .u64 r1)) 4294967295)), (15, .int .u64 (IntKind.wrap .u64 (Int.tdiv (bitOr .u64 (bitShl .u64 p_hi (IntKind.wrap .u64 r1)) (bitShr .u64 p_lo (IntKind.wrap .u64 (64 - (IntKind.wrap .u64 r1))))) (bitShr .u64 (bitShl .u64 p_y (IntKind.wrap .u64 r1)) 32)))), (16, .int .u64 (IntKind.wrap .u64 ((bitOr .u64 (bitShl .u64 p_hi (IntKind.wrap .u64 r1)) (bitShr .u64 p_lo (IntKind.wrap .u64 (64 - (IntKind.wrap .u64 r1))))) - (IntKind.wrap .u64 ((IntKind.wrap .u64 (Int.tdiv (bitOr .u64 (bitShl .u64 p_hi (IntKind.wrap .u64 r1)) (bitShr .u64 p_lo (IntKind.wrap .u64 (64 - (IntKind.wrap .u64 r1))))) (bitShr .u64 (bitShl .u64 p_y (IntKind.wrap .u64 r1)) 32))) * (bitShr .u64 (bitShl .u64 p_y (IntKind.wrap .u64 r1)) 32))))))] [] rfl (subR rfl)
    refine then_n (f_seq ?_)
    obtain ⟨j1, hj1, h⟩ := joinE h
    refine f_join (fun a w' => ∃ x1 : Int, j1 x1 = some r ∧ Sx w [] nov [] [(2, .int .u64 (bitShl .u64 p_y (IntKind.wrap .u64 r1))), (8, .int .u64 (IntKind.wrap .u64 r1)), (9, .int .u64 (bitShr .u64 (bitShl .u64 p_y (IntKind.wrap .u64 r1)) 32)), (10, .int .u64 (bitAnd .u64 (bitShl .u64 p_y (IntKind.wrap .u64 r1)) 4294967295)), (11, .int .u64 (bitOr .u64 (bitShl .u64 p_hi (IntKind.wrap .u64 r1)) (bitShr .u64 p_lo (IntKind.wrap .u64 (64 - (IntKind.wrap .u64 r1)))))), (13, .int .u64 (bitShr .u64 (bitShl .u64 p_lo (IntKind.wrap .u64 r1)) 32)), (14, .int .u64 (bitAnd .u64 (bitShl .u64 p_lo (IntKind.wrap .u64 r1)) 4294967295)), (15, .int .u64 x1)] 135 a w') ?_ ?_
    ·refine wp_block (f_loop (fun (m1 : Nat) a w' => ∃ x1 : Int, ∃ x2 : Int, bits_Div64_l1 p_lo r1 p_y j1 m1 x1 x2 = some r ∧ Sx w [] nov [] [(2, .int .u64 (bitShl .u64 p_y (IntKind.wrap .u64 r1))), (8, .int .u64 (IntKind.wrap .u64 r1)), (9, .int .u64 (bitShr .u64 (bitShl .u64 p_y (IntKind.wrap .u64 r1)) 32)), (10, .int .u64 (bitAnd .u64 (bitShl .u64 p_y (IntKind.wrap .u64 r1)) 4294967295)), (11, .int .u64 (bitOr .u64 (bitShl .u64 p_hi (IntKind.wrap .u64 r1)) (bitShr .u64 p_lo (IntKind.wrap .u64 (64 - (IntKind.wrap .u64 r1)))))), (13, .int .u64 (bitShr .u64 (bitShl .u64 p_lo (IntKind.wrap .u64 r1)) 32)), (14, .int .u64 (bitAnd .u64 (bitShl .u64 p_lo (IntKind.wrap .u64 r1)) 4294967295)), (15, .int .u64 x1), (16, .int .u64 x2)] 135 a w') id (((IntKind.wrap .u64 (Int.tdiv (bitOr .u64 (bitShl .u64 p_hi (IntKind.wrap .u64 r1)) (bitShr .u64 p_lo (IntKind.wrap .u64 (64 - (IntKind.wrap .u64 r1))))) (bitShr .u64 (bitShl .u64 p_y (IntKind.wrap .u64 r1)) 32))) - 4294967296).toNat + 2) ⟨IntKind.wrap .u64 (Int.tdiv (bitOr .u64 (bitShl .u64 p_hi (IntKind.wrap .u64 r1)) (bitShr .u64 p_lo (IntKind.wrap .u64 (64 - (IntKind.wrap .u64 r1))))) (bitShr .u64 (bitShl .u64 p_y (IntKind.wrap .u64 r1)) 32)), IntKind.wrap .u64 ((bitOr .u64 (bitShl .u64 p_hi (IntKind.wrap .u64 r1)) (bitShr .u64 p_lo (IntKind.wrap .u64 (64 - (IntKind.wrap .u64 r1))))) - (IntKind.wrap .u64 ((IntKind.wrap .u64 (Int.tdiv (bitOr .u64 (bitShl .u64 p_hi (IntKind.wrap .u64 r1)) (bitShr .u64 p_lo (IntKind.wrap .u64 (64 - (IntKind.wrap .u64 r1))))) (bitShr .u64 (bitShl .u64 p_y (IntKind.wrap .u64 r1)) 32))) * (bitShr .u64 (bitShl .u64 p_y (IntKind.wrap .u64 r1)) 32)))), h, S.nf [] rfl (subR rfl)⟩ ?_)
     clear S h; rintro m1 a w3 ⟨x1, x2, h, S⟩
     cases m1 with
     | zero => rw [bits_Div64_l1.eq_1] at h; cases h
     | succ m1 =>
      rw [bits_Div64_l1.eq_2] at h
      refine f_seq (f_seq (f_region (lv S (rn_move (S.tm rfl)) rfl ?_))); clear S; intro a S
      refine lv S (rn_geq (S.tm rfl) rfl) rfl ?_; clear S; intro a S
      refine lv S (rn_move (S.tm rfl)) rfl ?_; clear S; intro a S
      refine f_cutm 9 (fun a w' => Keep [] w3 w' ∧ Sx w [] nov [] [(2, .int .u64 (bitShl .u64 p_y (IntKind.wrap .u64 r1))), (8, .int .u64 (IntKind.wrap .u64 r1)), (9, .int .u64 (bitShr .u64 (bitShl .u64 p_y (IntKind.wrap .u64 r1)) 32)), (10, .int .u64 (bitAnd .u64 (bitShl .u64 p_y (IntKind.wrap .u64 r1)) 4294967295)), (11, .int .u64 (bitOr .u64 (bitShl .u64 p_hi (IntKind.wrap .u64 r1)) (bitShr .u64 p_lo (IntKind.wrap .u64 (64 - (IntKind.wrap .u64 r1)))))), (13, .int .u64 (bitShr .u64 (bitShl .u64 p_lo (IntKind.wrap .u64 r1)) 32)), (14, .int .u64 (bitAnd .u64 (bitShl .u64 p_lo (IntKind.wrap .u64 r1)) 4294967295)), (15, .int .u64 x1), (16, .int .u64 x2), (78, bV ((decide (4294967296 ≤ x1)) || (decide ((IntKind.wrap .u64 ((IntKind.wrap .u64 (4294967296 * x2)) + (bitShr .u64 (bitShl .u64 p_lo (IntKind.wrap .u64 r1)) 32))) < (IntKind.wrap .u64 (x1 * (bitAnd .u64 (bitShl .u64 p_y (IntKind.wrap .u64 r1)) 4294967295)))))))] 135 a w') ?_ ?_
      ·rcases Bool.eq_false_or_eq_true (decide (4294967296 ≤ x1)) with hb4 | hb4
       ·iterate 8 (refine l_skip S rfl rfl rfl (neq_t hb4) rfl ?_ rfl; clear S; intro a S)
        refine lv S (rn_or_t (decide ((IntKind.wrap .u64 ((IntKind.wrap .u64 (4294967296 * x2)) + (bitShr .u64 (bitShl .u64 p_lo (IntKind.wrap .u64 r1)) 32))) < (IntKind.wrap .u64 (x1 * (bitAnd .u64 (bitShl .u64 p_y (IntKind.wrap .u64 r1)) 4294967295))))) hb4 (S.tm rfl) rfl) rfl ?_; clear S; intro a S
        refine l_done (then_n ?_)
        exact ⟨Keep.refl _ _, S.nf [] rfl (subR rfl)⟩
       ·refine l_want S rfl rfl rfl hb4 (lv S (rn_move (S.tm rfl)) rfl ?_); clear S; intro a S
        refine l_want S rfl rfl rfl hb4 (lv S (rn_move (S.tm rfl)) rfl ?_); clear S; intro a S
        refine l_want S rfl rfl rfl hb4 (lv S (rn_mulk (S.tm rfl) (S.tm rfl)) rfl ?_); clear S; intro a S
        refine l_want S rfl rfl rfl hb4 (lv S (rn_move (S.tm rfl)) rfl ?_); clear S; intro a S
        refine l_want S rfl rfl rfl hb4 (lv S (rn_mulk rfl (S.tm rfl)) rfl ?_); clear S; intro a S
        refine l_want S rfl rfl rfl hb4 (lv S (rn_move (S.tm rfl)) rfl ?_); clear S; intro a S
        refine l_want S rfl rfl rfl hb4 (lv S (rn_addk (S.tm rfl) (S.tm rfl)) rfl ?_); clear S; intro a S
        refine l_want S rfl rfl rfl hb4 (lv S (rn_gtr (S.tm rfl) (S.tm rfl)) rfl ?_); clear S; intro a S
        refine lv S (rn_or_f hb4 (S.tm rfl) (S.tm rfl)) rfl ?_; clear S; intro a S
        refine l_done (then_n ?_)
        exact ⟨Keep.refl _ _, S.nf [] rfl (subR rfl)⟩
      clear S; rintro a w5 ⟨hk3, S⟩
      refine l_done (then_n (f_cond (S.tm rfl) (fun hb5 => ?_) (fun hb5 => ?_)))
      ·replace h := iteT h hb5
       refine wp_skip (then_n (wp_block (f_seq (f_region (lv S (rn_move (S.tm rfl)) rfl ?_))))); clear S; intro a S
       refine lv S (rn_subk (S.tm rfl) rfl) rfl ?_; clear S; intro a S
       refine lv S (rn_assign (S.tm rfl)) rfl ?_; clear S; intro a S
       refine l_done (then_n (f_seq (f_region (lv S (rn_move (S.tm rfl)) rfl ?_)))); clear S; intro a S
       refine lv S (rn_move (S.tm rfl)) rfl ?_; clear S; intro a S
       refine lv S (rn_addk (S.tm rfl) (S.tm rfl)) rfl ?_; clear S; intro a S
       refine lv S (rn_assign (S.tm rfl)) rfl ?_; clear S; intro a S
       refine l_done ?_
       replace S := S.nk [] [(2, .int .u64 (bitShl .u64 p_y (IntKind.wrap .u64 r1))), (8, .int .u64 (IntKind.wrap .u64 r1)), (9, .int .u64 (bitShr .u64 (bitShl .u64 p_y (IntKind.wrap .u64 r1)) 32)), (10, .int .u64 (bitAnd .u64 (bitShl .u64 p_y (IntKind.wrap .u64 r1)) 4294967295)), (11, .int .u64 (bitOr .u64 (bitShl .u64 p_hi (IntKind.wrap .u64 r1)) (bitShr .u64 p_lo (IntKind.wrap .u64 (64 - (IntKind.wrap .u64 r1)))))), (13, .int .u64 (bitShr .u64 (bitShl .u64 p_lo (IntKind.wrap .u64 r1)) 32)), (14, .int .u64 (bitAnd .u64 (bitShl .u64 p_lo (IntKind.wrap .u64 r1)) 4294967295)), (15, .int .u64 (IntKind.wrap .u64 (x1 - 1))), (16, .int .u64 (IntKind.wrap .u64 (x2 + (bitShr .u64 (bitShl .u64 p_y (IntKind.wrap .u64 r1)) 32))))] [] rfl (subR rfl)
       refine then_n (f_seq (f_region (lv S (rn_move (S.tm rfl)) rfl ?_))); clear S; intro a S
       refine lv S (rn_geq (S.tm rfl) rfl) rfl ?_; clear S; intro a S
       refine l_done (then_n (f_cond (S.tm rfl) (fun hb6 => ?_) (fun hb6 => ?_)))
       ·replace h := iteT h hb6
        refine wp_exit (x_other rfl (then_x (x_same (then_n ?_))))
        exact ⟨IntKind.wrap .u64 (x1 - 1), h, S.nf [] rfl (subR rfl)⟩
       ·replace h := iteF h hb6
        refine wp_skip (blk_n (then_n ?_))
        exact ⟨m1, ⟨IntKind.wrap .u64 (x1 - 1), IntKind.wrap .u64 (x2 + (bitShr .u64 (bitShl .u64 p_y (IntKind.wrap .u64 r1)) 32)), h, S.nf [] rfl ⟨rfl, rfl, rfl, rfl, rfl, rfl, rfl, rfl, rfl, trivial⟩⟩, Nat.lt_succ_self _⟩
      ·replace h := iteF h hb5
       refine wp_exit (then_x (then_x (x_same (then_n ?_))))
       exact ⟨x1, h, S.nf [] rfl (subR rfl)⟩
    clear S h; rintro a w4 ⟨x1, h, S⟩; rw [hj1] at h; clear hj1 j1
    refine then_n (f_seq (f_region (lv S (rn_move (S.tm rfl)) rfl ?_))); clear S; intro a S
    refine lv S (rn_mulk (S.tm rfl) rfl) rfl ?_; clear S; intro a S
    refine lv S (rn_move (S.tm rfl)) rfl ?_; clear S; intro a S
    refine lv S (rn_addk (S.tm rfl) (S.tm rfl)) rfl ?_; clear S; intro a S
    refine lv S (rn_move (S.tm rfl)) rfl ?_; clear S; intro a S
    refine lv S (rn_move (S.tm rfl)) rfl ?_; clear S; intro a S
    refine lv S (rn_mulk (S.tm rfl) (S.tm rfl)) rfl ?_; clear S; intro a S
    refine lv S (rn_subk (S.tm rfl) (S.tm rfl)) rfl ?_; clear S; intro a S
    refine lv S (rn_assign (S.tm rfl)) rfl ?_; clear S; intro a S
    refine l_done ?_
    replace S := S.nk [] [(2, .int .u64 (bitShl .u64 p_y (IntKind.wrap .u64 r1))), (8, .int .u64 (IntKind.wrap .u64 r1)), (9, .int .u64 (bitShr .u64 (bitShl .u64 p_y (IntKind.wrap .u64 r1)) 32)), (10, .int .u64 (bitAnd .u64 (bitShl .u64 p_y (IntKind.wrap .u64 r1)) 4294967295)), (14, .int .u64 (bitAnd .u64 (bitShl .u64 p_lo (IntKind.wrap .u64 r1)) 4294967295)), (15, .int .u64 x1), (17, .int .u64 (IntKind.wrap .u64 ((IntKind.wrap .u64 ((IntKind.wrap .u64 ((bitOr .u64 (bitShl .u64 p_hi (IntKind.wrap .u64 r1)) (bitShr .u64 p_lo (IntKind.wrap .u64 (64 - (IntKind.wrap .u64 r1))))) * 4294967296)) + (bitShr .u64 (bitShl .u64 p_lo (IntKind.wrap .u64 r1)) 32))) - (IntKind.wrap .u64 (x1 * (bitShl .u64 p_y (IntKind.wrap .u64 r1)))))))] [] rfl (subR rfl)
    refine then_n (f_seq (f_region (lv S (rn_move (S.tm rfl)) rfl ?_))); clear S; intro a S
    refine lv S (rn_move (S.tm rfl)) rfl ?_; clear S; intro a S
    obtain ⟨hc8, h⟩ := chkE h
    refine lv S (rn_quok (S.tm rfl) (S.tm rfl) (ne0_of hc8)) rfl ?_; clear S; intro a S
    refine lv S (rn_assign (S.tm rfl)) rfl ?_; clear S; intro a S
    refine l_done (then_n (f_seq (f_region (lv S (rn_move (S.tm rfl)) rfl ?_)))); clear S; intro a S
    refine lv S (rn_move (S.tm rfl)) rfl ?_; clear S; intro a S
    refine lv S (rn_move (S.tm rfl)) rfl ?_; clear S; intro a S
    refine lv S (rn_mulk (S.tm rfl) (S.tm rfl)) rfl ?_; clear S; intro a S
    refine lv S (rn_subk (S.tm rfl) (S.tm rfl)) rfl ?_; clear S; intro a S
    refine lv S (rn_assign (S.tm rfl)) rfl ?_; clear S; intro a S
    refine l_done ?_
    replace S := S.nk [] [(2, .int .u64 (bitShl .u64 p_y (IntKind.wrap .u64 r1))), (8, .int .u64 (IntKind.wrap .u64 r1)), (9, .int .u64 (bitShr .u64 (bitShl .u64 p_y (IntKind.wrap .u64 r1)) 32)), (10, .int .u64 (bitAnd .u64 (bitShl .u64 p_y (IntKind.wrap .u64 r1)) 4294967295)), (14, .int .u64 (bitAnd .u64 (bitShl .u64 p_lo (IntKind.wrap .u64 r1)) 4294967295)), (15, .int .u64 x1), (16, .int .u64 (IntKind.wrap .u64 ((IntKind.wrap .u64 ((IntKind.wrap .u64 ((IntKind.wrap .u64 ((bitOr .u64 (bitShl .u64 p_hi (IntKind.wrap .u64 r1)) (bitShr .u64 p_lo (IntKind.wrap .u64 (64 - (IntKind.wrap .u64 r1))))) * 4294967296)) + (bitShr .u64 (bitShl .u64 p_lo (IntKind.wrap .u64 r1)) 32))) - (IntKind.wrap .u64 (x1 * (bitShl .u64 p_y (IntKind.wrap .u64 r1)))))) - (IntKind.wrap .u64 ((IntKind.wrap .u64 (Int.tdiv (IntKind.wrap .u64 ((IntKind.wrap .u64 ((IntKind.wrap .u64 ((bitOr .u64 (bitShl .u64 p_hi (IntKind.wrap .u64 r1)) (bitShr .u64 p_lo (IntKind.wrap .u64 (64 - (IntKind.wrap .u64 r1))))) * 4294967296)) + (bitShr .u64 (bitShl .u64 p_lo (IntKind.wrap .u64 r1)) 32))) - (IntKind.wrap .u64 (x1 * (bitShl .u64 p_y (IntKind.wrap .u64 r1)))))) (bitShr .u64 (bitShl .u64 p_y (IntKind.wrap .u64 r1)) 32))) * (bitShr .u64 (bitShl .u64 p_y (IntKind.wrap .u64 r1)) 32)))))), (17, .int .u64 (IntKind.wrap .u64 ((IntKind.wrap .u64 ((IntKind.wrap .u64 ((bitOr .u64 (bitShl .u64 p_hi (IntKind.wrap .u64 r1)) (bitShr .u64 p_lo (IntKind.wrap .u64 (64 - (IntKind.wrap .u64 r1))))) * 4294967296)) + (bitShr .u64 (bitShl .u64 p_lo (IntKind.wrap .u64 r1)) 32))) - (IntKind.wrap .u64 (x1 * (bitShl .u64 p_y (IntKind.wrap .u64 r1))))))), (18, .int .u64 (IntKind.wrap .u64 (Int.tdiv (IntKind.wrap .u64 ((IntKind.wrap .u64 ((IntKind.wrap .u64 ((bitOr .u64 (bitShl .u64 p_hi (IntKind.wrap .u64 r1)) (bitShr .u64 p_lo (IntKind.wrap .u64 (64 - (IntKind.wrap .u64 r1))))) * 4294967296)) + (bitShr .u64 (bitShl .u64 p_lo (IntKind.wrap .u64 r1)) 32))) - (IntKind.wrap .u64 (x1 * (bitShl .u64 p_y (IntKind.wrap .u64 r1)))))) (bitShr .u64 (bitShl .u64 p_y (IntKind.wrap .u64 r1)) 32))))] [] rfl (subR rfl)
    refine then_n (f_seq ?_)
    obtain ⟨j2, hj2, h⟩ := joinE h
    refine f_join (fun a w' => ∃ x4 : Int, j2 x4 = some r ∧ Sx w [] nov [] [(2, .int .u64 (bitShl .u64 p_y (IntKind.wrap .u64 r1))), (8, .int .u64 (IntKind.wrap .u64 r1)), (14, .int .u64 (bitAnd .u64 (bitShl .u64 p_lo (IntKind.wrap .u64 r1)) 4294967295)), (15, .int .u64 x1), (17, .int .u64 (IntKind.wrap .u64 ((IntKind.wrap .u64 ((IntKind.wrap .u64 ((bitOr .u64 (bitShl .u64 p_hi (IntKind.wrap .u64 r1)) (bitShr .u64 p_lo (IntKind.wrap .u64 (64 - (IntKind.wrap .u64 r1))))) * 4294967296)) + (bitShr .u64 (bitShl .u64 p_lo (IntKind.wrap .u64 r1)) 32))) - (IntKind.wrap .u64 (x1 * (bitShl .u64 p_y (IntKind.wrap .u64 r1))))))), (18, .int .u64 x4)] 135 a w') ?_ ?_
    ·refine wp_block (f_loop (fun (m2 : Nat) a w' => ∃ x3 : Int, ∃ x4 : Int, bits_Div64_l2 p_lo r1 p_y j2 m2 x3 x4 = some r ∧ Sx w [] nov [] [(2, .int .u64 (bitShl .u64 p_y (IntKind.wrap .u64 r1))), (8, .int .u64 (IntKind.wrap .u64 r1)), (9, .int .u64 (bitShr .u64 (bitShl .u64 p_y (IntKind.wrap .u64 r1)) 32)), (10, .int .u64 (bitAnd .u64 (bitShl .u64 p_y (IntKind.wrap .u64 r1)) 4294967295)), (14, .int .u64 (bitAnd .u64 (bitShl .u64 p_lo (IntKind.wrap .u64 r1)) 4294967295)), (15, .int .u64 x1), (16, .int .u64 x3), (17, .int .u64 (IntKind.wrap .u64 ((IntKind.wrap .u64 ((IntKind.wrap .u64 ((bitOr .u64 (bitShl .u64 p_hi (IntKind.wrap .u64 r1)) (bitShr .u64 p_lo (IntKind.wrap .u64 (64 - (IntKind.wrap .u64 r1))))) * 4294967296)) + (bitShr .u64 (bitShl .u64 p_lo (IntKind.wrap .u64 r1)) 32))) - (IntKind.wrap .u64 (x1 * (bitShl .u64 p_y (IntKind.wrap .u64 r1))))))), (18, .int .u64 x4)] 135 a w') id (((IntKind.wrap .u64 (Int.tdiv (IntKind.wrap .u64 ((IntKind.wrap .u64 ((IntKind.wrap .u64 ((bitOr .u64 (bitShl .u64 p_hi (IntKind.wrap .u64 r1)) (bitShr .u64 p_lo (IntKind.wrap .u64 (64 - (IntKind.wrap .u64 r1))))) * 4294967296)) + (bitShr .u64 (bitShl .u64 p_lo (IntKind.wrap .u64 r1)) 32))) - (IntKind.wrap .u64 (x1 * (bitShl .u64 p_y (IntKind.wrap .u64 r1)))))) (bitShr .u64 (bitShl .u64 p_y (IntKind.wrap .u64 r1)) 32))) - 4294967296).toNat + 2) ⟨IntKind.wrap .u64 ((IntKind.wrap .u64 ((IntKind.wrap .u64 ((IntKind.wrap .u64 ((bitOr .u64 (bitShl .u64 p_hi (IntKind.wrap .u64 r1)) (bitShr .u64 p_lo (IntKind.wrap .u64 (64 - (IntKind.wrap .u64 r1))))) * 4294967296)) + (bitShr .u64 (bitShl .u64 p_lo (IntKind.wrap .u64 r1)) 32))) - (IntKind.wrap .u64 (x1 * (bitShl .u64 p_y (IntKind.wrap .u64 r1)))))) - (IntKind.wrap .u64 ((IntKind.wrap .u64 (Int.tdiv (IntKind.wrap .u64 ((IntKind.wrap .u64 ((IntKind.wrap .u64 ((bitOr .u64 (bitShl .u64 p_hi (IntKind.wrap .u64 r1)) (bitShr .u64 p_lo (IntKind.wrap .u64 (64 - (IntKind.wrap .u64 r1))))) * 4294967296)) + (bitShr .u64 (bitShl .u64 p_lo (IntKind.wrap .u64 r1)) 32))) - (IntKind.wrap .u64 (x1 * (bitShl .u64 p_y (IntKind.wrap .u64 r1)))))) (bitShr .u64 (bitShl .u64 p_y (IntKind.wrap .u64 r1)) 32))) * (bitShr .u64 (bitShl .u64 p_y (IntKind.wrap .u64 r1)) 32)))), IntKind.wrap .u64 (Int.tdiv (IntKind.wrap .u64 ((IntKind.wrap .u64 ((IntKind.wrap .u64 ((bitOr .u64 (bitShl .u64 p_hi (IntKind.wrap .u64 r1)) (bitShr .u64 p_lo (IntKind.wrap .u64 (64 - (IntKind.wrap .u64 r1))))) * 4294967296)) + (bitShr .u64 (bitShl .u64 p_lo (IntKind.wrap .u64 r1)) 32))) - (IntKind.wrap .u64 (x1 * (bitShl .u64 p_y (IntKind.wrap .u64 r1)))))) (bitShr .u64 (bitShl .u64 p_y (IntKind.wrap .u64 r1)) 32)), h, S.nf [] rfl (subR rfl)⟩ ?_)
     clear S h; rintro m2 a w6 ⟨x3, x4, h, S⟩
     cases m2 with
     | zero => rw [bits_Div64_l2.eq_1] at h; cases h
     | succ m2 =>
      rw [bits_Div64_l2.eq_2] at h
      refine f_seq (f_seq (f_region (lv S (rn_move (S.tm rfl)) rfl ?_))); clear S; intro a S
      refine lv S (rn_geq (S.tm rfl) rfl) rfl ?_; clear S; intro a S
      refine lv S (rn_move (S.tm rfl)) rfl ?_; clear S; intro a S
      refine f_cutm 9 (fun a w' => Keep [] w6 w' ∧ Sx w [] nov [] [(2, .int .u64 (bitShl .u64 p_y (IntKind.wrap .u64 r1))), (8, .int .u64 (IntKind.wrap .u64 r1)), (9, .int .u64 (bitShr .u64 (bitShl .u64 p_y (IntKind.wrap .u64 r1)) 32)), (10, .int .u64 (bitAnd .u64 (bitShl .u64 p_y (IntKind.wrap .u64 r1)) 4294967295)), (14, .int .u64 (bitAnd .u64 (bitShl .u64 p_lo (IntKind.wrap .u64 r1)) 4294967295)), (15, .int .u64 x1), (16, .int .u64 x3), (17, .int .u64 (IntKind.wrap .u64 ((IntKind.wrap .u64 ((IntKind.wrap .u64 ((bitOr .u64 (bitShl .u64 p_hi (IntKind.wrap .u64 r1)) (bitShr .u64 p_lo (IntKind.wrap .u64 (64 - (IntKind.wrap .u64 r1))))) * 4294967296)) + (bitShr .u64 (bitShl .u64 p_lo (IntKind.wrap .u64 r1)) 32))) - (IntKind.wrap .u64 (x1 * (bitShl .u64 p_y (IntKind.wrap .u64 r1))))))), (18, .int .u64 x4), (113, bV ((decide (4294967296 ≤ x4)) || (decide ((IntKind.wrap .u64 ((IntKind.wrap .u64 (4294967296 * x3)) + (bitAnd .u64 (bitShl .u64 p_lo (IntKind.wrap .u64 r1)) 4294967295))) < (IntKind.wrap .u64 (x4 * (bitAnd .u64 (bitShl .u64 p_y (IntKind.wrap .u64 r1)) 4294967295)))))))] 135 a w') ?_ ?_
      ·rcases Bool.eq_false_or_eq_true (decide (4294967296 ≤ x4)) with hb7 | hb7
       ·iterate 8 (refine l_skip S rfl rfl rfl (neq_t hb7) rfl ?_ rfl; clear S; intro a S)
        refine lv S (rn_or_t (decide ((IntKind.wrap .u64 ((IntKind.wrap .u64 (4294967296 * x3)) + (bitAnd .u64 (bitShl .u64 p_lo (IntKind.wrap .u64 r1)) 4294967295))) < (IntKind.wrap .u64 (x4 * (bitAnd .u64 (bitShl .u64 p_y (IntKind.wrap .u64 r1)) 4294967295))))) hb7 (S.tm rfl) rfl) rfl ?_; clear S; intro a S
        refine l_done (then_n ?_)
        exact ⟨Keep.refl _ _, S.nf [] rfl (subR rfl)⟩
       ·refine l_want S rfl rfl rfl hb7 (lv S (rn_move (S.tm rfl)) rfl ?_); clear S; intro a S
        refine l_want S rfl rfl rfl hb7 (lv S (rn_move (S.tm rfl)) rfl ?_); clear S; intro a S
        refine l_want S rfl rfl rfl hb7 (lv S (rn_mulk (S.tm rfl) (S.tm rfl)) rfl ?_); clear S; intro a S
        refine l_want S rfl rfl rfl hb7 (lv S (rn_move (S.tm rfl)) rfl ?_); clear S; intro a S
        refine l_want S rfl rfl rfl hb7 (lv S (rn_mulk rfl (S.tm rfl)) rfl ?_); clear S; intro a S
        refine l_want S rfl rfl rfl hb7 (lv S (rn_move (S.tm rfl)) rfl ?_); clear S; intro a S
        refine l_want S rfl rfl rfl hb7 (lv S (rn_addk (S.tm rfl) (S.tm rfl)) rfl ?_); clear S; intro a S
        refine l_want S rfl rfl rfl hb7 (lv S (rn_gtr (S.tm rfl) (S.tm rfl)) rfl ?_); clear S; intro a S
        refine lv S (rn_or_f hb7 (S.tm rfl) (S.tm rfl)) rfl ?_; clear S; intro a S
        refine l_done (then_n ?_)
        exact ⟨Keep.refl _ _, S.nf [] rfl (subR rfl)⟩
      clear S; rintro a w8 ⟨hk4, S⟩
      refine l_done (then_n (f_cond (S.tm rfl) (fun hb8 => ?_) (fun hb8 => ?_)))
      ·replace h := iteT h hb8
       refine wp_skip (then_n (wp_block (f_seq (f_region (lv S (rn_move (S.tm rfl)) rfl ?_))))); clear S; intro a S
       refine lv S (rn_subk (S.tm rfl) rfl) rfl ?_; clear S; intro a S
       refine lv S (rn_assign (S.tm rfl)) rfl ?_; clear S; intro a S
       refine l_done (then_n (f_seq (f_region (lv S (rn_move (S.tm rfl)) rfl ?_)))); clear S; intro a S
       refine lv S (rn_move (S.tm rfl)) rfl ?_; clear S; intro a S
       refine lv S (rn_addk (S.tm rfl) (S.tm rfl)) rfl ?_; clear S; intro a S
       refine lv S (rn_assign (S.tm rfl)) rfl ?_; clear S; intro a S
       refine l_done ?_
       replace S := S.nk [] [(2, .int .u64 (bitShl .u64 p_y (IntKind.wrap .u64 r1))), (8, .int .u64 (IntKind.wrap .u64 r1)), (9, .int .u64 (bitShr .u64 (bitShl .u64 p_y (IntKind.wrap .u64 r1)) 32)), (10, .int .u64 (bitAnd .u64 (bitShl .u64 p_y (IntKind.wrap .u64 r1)) 4294967295)), (14, .int .u64 (bitAnd .u64 (bitShl .u64 p_lo (IntKind.wrap .u64 r1)) 4294967295)), (15, .int .u64 x1), (16, .int .u64 (IntKind.wrap .u64 (x3 + (bitShr .u64 (bitShl .u64 p_y (IntKind.wrap .u64 r1)) 32)))), (17, .int .u64 (IntKind.wrap .u64 ((IntKind.wrap .u64 ((IntKind.wrap .u64 ((bitOr .u64 (bitShl .u64 p_hi (IntKind.wrap .u64 r1)) (bitShr .u64 p_lo (IntKind.wrap .u64 (64 - (IntKind.wrap .u64 r1))))) * 4294967296)) + (bitShr .u64 (bitShl .u64 p_lo (IntKind.wrap .u64 r1)) 32))) - (IntKind.wrap .u64 (x1 * (bitShl .u64 p_y (IntKind.wrap .u64 r1))))))), (18, .int .u64 (IntKind.wrap .u64 (x4 - 1)))] [] rfl (subR rfl)
       refine then_n (f_seq (f_region (lv S (rn_move (S.tm rfl)) rfl ?_))); clear S; intro a S
       refine lv S (rn_geq (S.tm rfl) rfl) rfl ?_; clear S; intro a S
       refine l_done (then_n (f_cond (S.tm rfl) (fun hb9 => ?_) (fun hb9 => ?_)))
       ·replace h := iteT h hb9
        refine wp_exit (x_other rfl (then_x (x_same (then_n ?_))))
        exact ⟨IntKind.wrap .u64 (x4 - 1), h, S.nf [] rfl (subR rfl)⟩
       ·replace h := iteF h hb9
        refine wp_skip (blk_n (then_n ?_))
        exact ⟨m2, ⟨IntKind.wrap .u64 (x3 + (bitShr .u64 (bitShl .u64 p_y (IntKind.wrap .u64 r1)) 32)), IntKind.wrap .u64 (x4 - 1), h, S.nf [] rfl ⟨rfl, rfl, rfl, rfl, rfl, rfl, rfl, rfl, rfl, trivial⟩⟩, Nat.lt_succ_self _⟩
      ·replace h := iteF h hb8
       refine wp_exit (then_x (then_x (x_same (then_n ?_))))
       exact ⟨x4, h, S.nf [] rfl (subR rfl)⟩
    clear S h; rintro a w7 ⟨x4, h, S⟩; rw [hj2] at h; clear hj2 j2
    refine then_n (f_seq (f_region (lv S (rn_move (S.tm rfl)) rfl ?_))); clear S; intro a S
    refine lv S (rn_mulk (S.tm rfl) rfl) rfl ?_; clear S; intro a S
    refine lv S (rn_move (S.tm rfl)) rfl ?_; clear S; intro a S
    refine lv S (rn_addk (S.tm rfl) (S.tm rfl)) rfl ?_; clear S; intro a S
    refine lv S (rn_move (S.tm rfl)) rfl ?_; clear S; intro a S
    refine lv S (rn_mulk (S.tm rfl) rfl) rfl ?_; clear S; intro a S
    refine lv S (rn_move (S.tm rfl)) rfl ?_; clear S; intro a S
    refine lv S (rn_addk (S.tm rfl) (S.tm rfl)) rfl ?_; clear S; intro a S
    refine lv S (rn_move (S.tm rfl)) rfl ?_; clear S; intro a S
    refine lv S (rn_move (S.tm rfl)) rfl ?_; clear S; intro a S
    refine lv S (rn_mulk (S.tm rfl) (S.tm rfl)) rfl ?_; clear S; intro a S
    refine lv S (rn_subk (S.tm rfl) (S.tm rfl)) rfl ?_; clear S; intro a S
    refine lv S (rn_move (S.tm rfl)) rfl ?_; clear S; intro a S
    obtain ⟨hc9, h⟩ := chkE h
    refine lv S (rn_shr (S.tm rfl) (S.tm rfl) (of_decide_eq_true hc9)) rfl ?_; clear S; intro a S
    refine lv S (rn_assign (S.tm rfl)) rfl ?_; clear S; intro a S
    refine lv S (rn_assign (S.tm rfl)) rfl ?_; clear S; intro a S
    refine l_done ?_
    replace S := S.nk [] [(6, .int .u64 (IntKind.wrap .u64 ((IntKind.wrap .u64 (x1 * 4294967296)) + x4))), (7, .int .u64 (bitShr .u64 (IntKind.wrap .u64 ((IntKind.wrap .u64 ((IntKind.wrap .u64 ((IntKind.wrap .u64 ((IntKind.wrap .u64 ((IntKind.wrap .u64 ((bitOr .u64 (bitShl .u64 p_hi (IntKind.wrap .u64 r1)) (bitShr .u64 p_lo (IntKind.wrap .u64 (64 - (IntKind.wrap .u64 r1))))) * 4294967296)) + (bitShr .u64 (bitShl .u64 p_lo (IntKind.wrap .u64 r1)) 32))) - (IntKind.wrap .u64 (x1 * (bitShl .u64 p_y (IntKind.wrap .u64 r1)))))) * 4294967296)) + (bitAnd .u64 (bitShl .u64 p_lo (IntKind.wrap .u64 r1)) 4294967295))) - (IntKind.wrap .u64 (x4 * (bitShl .u64 p_y (IntKind.wrap .u64 r1)))))) (IntKind.wrap .u64 r1)))] [] rfl (subR rfl)
    refine then_n (wp_ret ?_)
    obtain rfl := Option.some.inj h
    exact f_ret2 S Tryz.results112 rfl rfl rfl
theorem points_byTime_ok (w : World) (p_base : Int) (p_time : Int) (r : Int) (h : points_byTime p_base p_time = some r) :
    Calls Tryz.prog 76 [iV p_base, iV p_time].toArray w (Ret w [] fun _ v _ => v = iV r) := by
 refine f_enter [] [] Tryz.func76 rfl Tryz.ntmps76 rfl (by simp) (by simp [fps]) (by simp [fps]) fun a S => ?_
 unfold points_byTime at h
 replace S := S.nk [] [(0, iV p_base), (1, iV p_time)] [] rfl (subR rfl)
 refine f_seq (f_region (lv S (rn_assign rfl) rfl ?_)); clear S; intro a S
 refine l_done (then_n (f_seq (f_region (lv S (rn_move (S.tm rfl)) rfl ?_)))); clear S; intro a S
 refine lv S (rn_conv Tryz.underlying3 Tryz.underlying147 (S.tm rfl)) rfl ?_; clear S; intro a S
 refine lv S (rn_move (S.tm rfl)) rfl ?_; clear S; intro a S
 refine lv S (rn_conv Tryz.underlying3 Tryz.underlying147 (S.tm rfl)) rfl ?_; clear S; intro a S
 refine lv S (rn_assign (S.tm rfl)) rfl ?_; clear S; intro a S
 refine lv S (rn_assign (S.tm rfl)) rfl ?_; clear S; intro a S
 refine l_done (then_n (f_seq (f_region (lv S (rn_move (S.tm rfl)) rfl ?_)))); clear S; intro a S
 refine lv S (rn_move (S.tm rfl)) rfl ?_; clear S; intro a S
 refine lv S (rn_mulk (S.tm rfl) (S.tm rfl)) rfl ?_; clear S; intro a S
 refine lv S (rn_move (S.tm rfl)) rfl ?_; clear S; intro a S
 refine lv S (rn_mulk (S.tm rfl) (S.tm rfl)) rfl ?_; clear S; intro a S
 refine l_enter S (fun _ => run_call (vs := [.int .u64 (IntKind.wrap .u64 ((IntKind.wrap .u64 ((IntKind.wrap .u64 p_base) * (IntKind.wrap .u64 p_base))) * (IntKind.wrap .u64 p_base))), .int .u64 1000]) ⟨(S.tm rfl), rfl, trivial⟩ Tryz.call111) (bits_Mul64_ok _ (IntKind.wrap .u64 ((IntKind.wrap .u64 ((IntKind.wrap .u64 p_base) * (IntKind.wrap .u64 p_base))) * (IntKind.wrap .u64 p_base))) 1000 _ rfl) rfl ?_; clear S; intro v1 a w1 hv1 hk1 hn1 S
 subst hv1
 refine lv S (rn_move (S.tm rfl)) rfl ?_; clear S; intro a S
 refine lv S (rn_extract (S.tm rfl) rfl) rfl ?_; clear S; intro a S
 refine lv S (rn_extract (S.tm rfl) rfl) rfl ?_; clear S; intro a S
 refine lv S (rn_assign (S.tm rfl)) rfl ?_; clear S; intro a S
 refine lv S (rn_assign (S.tm rfl)) rfl ?_; clear S; intro a S
 refine l_done ?_
 replace S := S.nk [] [(6, .int .u64 (IntKind.wrap .u64 p_time)), (7, .int .u64 ((bits_Mul64 (IntKind.wrap .u64 ((IntKind.wrap .u64 ((IntKind.wrap .u64 p_base) * (IntKind.wrap .u64 p_base))) * (IntKind.wrap .u64 p_base))) 1000).1)), (8, .int .u64 ((bits_Mul64 (IntKind.wrap .u64 ((IntKind.wrap .u64 ((IntKind.wrap .u64 p_base) * (IntKind.wrap .u64 p_base))) * (IntKind.wrap .u64 p_base))) 1000).2))] [] rfl (subR rfl)
 refine then_n (f_seq (f_region (lv S (rn_move (S.tm rfl)) rfl ?_))); clear S; intro a S
 refine lv S (rn_move (S.tm rfl)) rfl ?_; clear S; intro a S
 refine lv S (rn_mulk (S.tm rfl) (S.tm rfl)) rfl ?_; clear S; intro a S
 refine lv S (rn_move (S.tm rfl)) rfl ?_; clear S; intro a S
 refine lv S (rn_mulk (S.tm rfl) (S.tm rfl)) rfl ?_; clear S; intro a S
 refine lv S (rn_assign (S.tm rfl)) rfl ?_; clear S; intro a S
 refine l_done (then_n (f_seq (f_seq (f_region (lv S (rn_move (S.tm rfl)) rfl ?_))))); clear S; intro a S
 refine lv S (rn_move (S.tm rfl)) rfl ?_; clear S; intro a S
 refine lv S (rn_geq (S.tm rfl) (S.tm rfl)) rfl ?_; clear S; intro a S
 refine l_done (then_n (f_cond (S.tm rfl) (fun hb1 => ?_) (fun hb1 => ?_)))
 ·replace h := iteT h hb1
  refine f_seq (f_region (lv S (rn_assign rfl) rfl ?_)); clear S; intro a S
  refine l_done (then_n (wp_ret (then_r ?_)))
  obtain rfl := Option.some.inj h
  exact f_ret S Tryz.results76 rfl rfl
 ·replace h := iteF h hb1
  refine wp_skip (then_n (f_seq (f_region (lv S (rn_move (S.tm rfl)) rfl ?_)))); clear S; intro a S
  refine lv S (rn_move (S.tm rfl)) rfl ?_; clear S; intro a S
  refine lv S (rn_move (S.tm rfl)) rfl ?_; clear S; intro a S
  obtain ⟨r1, hr1, h⟩ := bindE h
  refine l_enter S (fun _ => run_call (vs := [.int .u64 ((bits_Mul64 (IntKind.wrap .u64 ((IntKind.wrap .u64 ((IntKind.wrap .u64 p_base) * (IntKind.wrap .u64 p_base))) * (IntKind.wrap .u64 p_base))) 1000).1), .int .u64 ((bits_Mul64 (IntKind.wrap .u64 ((IntKind.wrap .u64 ((IntKind.wrap .u64 p_base) * (IntKind.wrap .u64 p_base))) * (IntKind.wrap .u64 p_base))) 1000).2), .int .u64 (IntKind.wrap .u64 ((IntKind.wrap .u64 ((IntKind.wrap .u64 p_time) * (IntKind.wrap .u64 p_time))) * (IntKind.wrap .u64 p_time)))]) ⟨(S.tm rfl), (S.tm rfl), (S.tm rfl), trivial⟩ Tryz.call112) (bits_Div64_ok _ ((bits_Mul64 (IntKind.wrap .u64 ((IntKind.wrap .u64 ((IntKind.wrap .u64 p_base) * (IntKind.wrap .u64 p_base))) * (IntKind.wrap .u64 p_base))) 1000).1) ((bits_Mul64 (IntKind.wrap .u64 ((IntKind.wrap .u64 ((IntKind.wrap .u64 p_base) * (IntKind.wrap .u64 p_base))) * (IntKind.wrap .u64 p_base))) 1000).2) (IntKind.wrap .u64 ((IntKind.wrap .u64 ((IntKind.wrap .u64 p_time) * (IntKind.wrap .u64 p_time))) * (IntKind.wrap .u64 p_time))) _ hr1) rfl ?_; clear S; intro v2 a w2 hv2 hk2 hn2 S
  subst hv2
  refine lv S (rn_move (S.tm rfl)) rfl ?_; clear S; intro a S
  refine lv S (rn_extract (S.tm rfl) rfl) rfl ?_; clear S; intro a S
  refine lv S (rn_extract (S.tm rfl) rfl) rfl ?_; clear S; intro a S
  refine lv S (rn_assign (S.tm rfl)) rfl ?_; clear S; intro a S
  refine lv S (rn_assign (S.tm rfl)) rfl ?_; clear S; intro a S
  refine l_done ?_
  replace S := S.nk [] [(9, .int .u64 r1.1)] [] rfl ⟨rfl, trivial⟩
  refine then_n (f_seq (f_region (lv S (rn_move (S.tm rfl)) rfl ?_))); clear S; intro a S
  refine lv S (rn_min2 (S.tm rfl) rfl) rfl ?_; clear S; intro a S
  refine lv S (rn_conv Tryz.underlying147 Tryz.underlying3 (S.tm rfl)) rfl ?_; clear S; intro a S
  refine lv S (rn_assign (S.tm rfl)) rfl ?_; clear S; intro a S
  refine l_done (then_n (wp_ret ?_))
  obtain rfl := Option.some.inj h
  exact f_ret S Tryz.results76 rfl rfl
theorem points_ByTime_ok (w : World) (v_p_l : Value) (p_l : List GBase) (hs_p_l : Slc (view w []) 2 v_p_l (p_l.map GBase.enc)) (p_race : ByteArray) (p_time : Int) (r : Int × Int) (h : points_ByTime p_l p_race p_time = some r) :
    Calls Tryz.prog 39 [v_p_l, sV p_race, iV p_time].toArray w (Ret w [] fun _ v _ => v = .tuple #[iV r.1, iV r.2]) := by
 refine f_enter [] [] Tryz.func39 rfl Tryz.ntmps39 rfl (by simp) (by simp [fps]) (by simp [fps]) fun a S => ?_
 unfold points_ByTime at h
 replace S := S.nk [] [(0, v_p_l), (1, sV p_race), (2, iV p_time)] [] rfl (subR rfl)
 refine f_seq (f_region (lv S (rn_assign rfl) rfl ?_)); clear S; intro a S
 refine lv S (rn_assign rfl) rfl ?_; clear S; intro a S
 refine l_done (then_n (f_seq (f_seq (f_region (lv S (rn_move (S.tm rfl)) rfl ?_))))); clear S; intro a S
 obtain ⟨r1, hr1, h⟩ := bindE h
 refine l_enter S (fun _ => run_call (vs := [v_p_l]) ⟨(S.tm rfl), trivial⟩ Tryz.call73) (points_CheckBase_ok _ v_p_l p_l (hs_p_l.mono (S.le_arg nil_sub)) _ hr1) rfl ?_; clear S; intro v1 a w1 hv1 hk1 hn1 S
 subst hv1
 refine lv S (rn_assign (S.tm rfl)) rfl ?_; clear S; intro a S
 refine l_done (then_n (f_seq (f_region (lv S (rn_move (S.tm rfl)) rfl ?_)))); clear S; intro a S
 refine lv S (rn_neq (S.tm rfl) rfl) rfl ?_; clear S; intro a S
 refine l_done (then_n (f_cond (S.tm rfl) (fun hb1 => ?_) (fun hb1 => ?_)))
 ·replace h := iteT h hb1
  refine f_seq (f_region (lv S (rn_move (S.tm rfl)) rfl ?_)); clear S; intro a S
  refine lv S (rn_assign rfl) rfl ?_; clear S; intro a S
  refine lv S (rn_assign (S.tm rfl)) rfl ?_; clear S; intro a S
  refine l_done (then_n (wp_ret (then_r ?_)))
  obtain rfl := Option.some.inj h
  exact f_ret2 S Tryz.results39 rfl rfl rfl
 ·replace h := iteF h hb1
  refine wp_skip (then_n (f_seq (f_region (lv S (rn_move (S.tm rfl)) rfl ?_)))); clear S; intro a S
  refine lv S (rn_move (S.tm rfl)) rfl ?_; clear S; intro a S
  refine l_enter S (fun _ => run_call (vs := [v_p_l, sV p_race]) ⟨(S.tm rfl), (S.tm rfl), trivial⟩ Tryz.call74) (points_baseOf_ok _ v_p_l p_l (hs_p_l.mono (S.le_arg nil_sub)) p_race _ rfl) rfl ?_; clear S; intro v2 a w2 hv2 hk2 hn2 S
  subst hv2
  refine lv S (rn_assign (S.tm rfl)) rfl ?_; clear S; intro a S
  refine l_done (then_n (f_seq (f_seq (f_region (lv S (rn_move (S.tm rfl)) rfl ?_))))); clear S; intro a S
  refine lv S (rn_eql (S.tm rfl) rfl) rfl ?_; clear S; intro a S
  refine l_done ?_
  replace S := S.nk [] [(2, iV p_time), (9, iV (points_baseOf p_l p_race)), (19, bV (decide ((points_baseOf p_l p_race) = 0)))] [] rfl (subR rfl)
  refine then_n (f_cond (S.tm rfl) (fun hb2 => ?_) (fun hb2 => ?_))
  ·replace h := iteT h hb2
   refine f_seq (f_region (lv S (rn_assign rfl) rfl ?_)); clear S; intro a S
   refine lv S (rn_assign rfl) rfl ?_; clear S; intro a S
   refine l_done (then_n (wp_ret (then_r ?_)))
   obtain rfl := Option.some.inj h
   exact f_ret2 S Tryz.results39 rfl rfl rfl
  ·replace h := iteF h hb2
   refine wp_skip (then_n (f_seq (f_seq (f_region (lv S (rn_move (S.tm rfl)) rfl ?_))))); clear S; intro a S
   refine l_enter S (fun _ => run_call (vs := [iV p_time]) ⟨(S.tm rfl), trivial⟩ Tryz.call75) (timing_IsTime_ok _ p_time _ rfl) rfl ?_; clear S; intro v3 a w3 hv3 hk3 hn3 S
   subst hv3
   refine lv S (rn_not (S.tm rfl)) rfl ?_; clear S; intro a S
   refine l_done (then_n (f_cond (S.tm rfl) (fun hb3 => ?_) (fun hb3 => ?_)))
   ·replace h := iteT h hb3
    refine f_seq (f_region (lv S (rn_assign rfl) rfl ?_)); clear S; intro a S
    refine lv S (rn_assign rfl) rfl ?_; clear S; intro a S
    refine l_done (then_n (wp_ret (then_r ?_)))
    obtain rfl := Option.some.inj h
    exact f_ret2 S Tryz.results39 rfl rfl rfl
   ·replace h := iteF h hb3
    refine wp_skip (then_n (f_seq (f_region (lv S (rn_move (S.tm rfl)) rfl ?_)))); clear S; intro a S
    refine lv S (rn_move (S.tm rfl)) rfl ?_; clear S; intro a S
    obtain ⟨r2, hr2, h⟩ := bindE h
    refine l_enter S (fun _ => run_call (vs := [iV (points_baseOf p_l p_race), iV p_time]) ⟨(S.tm rfl), (S.tm rfl), trivial⟩ Tryz.call76) (points_byTime_ok _ (points_baseOf p_l p_race) p_time _ hr2) rfl ?_; clear S; intro v4 a w4 hv4 hk4 hn4 S
    subst hv4
    refine lv S (rn_assign (S.tm rfl)) rfl ?_; clear S; intro a S
    refine lv S (rn_assign rfl) rfl ?_; clear S; intro a S
    refine l_done (then_n (wp_ret ?_))
    obtain rfl := Option.some.inj h
    exact f_ret2 S Tryz.results39 rfl rfl rfl
set_option maxRecDepth 20000 in
theorem record_CheckKinds_ok (w : World) (v_p_l : Value) (p_l : List GKind) (rs_p_l : List R99) (hs_p_l : Slc (view w []) 5 v_p_l (rs_p_l.map R99.enc)) (hr_p_l : All2 (rel_99 (view w [])) p_l rs_p_l) (r : Int) (h : record_CheckKinds p_l = some r) :
    Calls Tryz.prog 77 [v_p_l].toArray w (Ret w [] fun _ v _ => v = iV r) := by
 refine f_enter [] [] Tryz.func77 rfl Tryz.ntmps77 rfl (by simp) (by simp [fps]) (by simp [fps]) fun a S => ?_
 unfold record_CheckKinds at h
 replace S := S.nk [] [(0, v_p_l)] [] rfl ⟨rfl, trivial⟩
 refine f_seq (f_region (lv S (rn_assign rfl) rfl ?_)); clear S; intro a S
 refine l_done (then_n (f_seq (f_seq (f_region (lv S (rn_move (S.tm rfl)) rfl ?_))))); clear S; intro a S
 refine lv S (rn_lenT sl_100 (S.tm rfl) (slc_lenD hs_p_l hr_p_l)) rfl ?_; clear S; intro a S
 refine lv S (rn_gtr (S.tm rfl) rfl) rfl ?_; clear S; intro a S
 refine l_done (then_n (f_cond (S.tm rfl) (fun hb1 => ?_) (fun hb1 => ?_)))
 ·replace h := iteT h hb1
  refine f_seq (f_region (lv S (rn_assign rfl) rfl ?_)); clear S; intro a S
  refine l_done (then_n (wp_ret (then_r ?_)))
  obtain rfl := Option.some.inj h
  exact f_ret S Tryz.results77 rfl rfl
 ·replace h := iteF h hb1
  refine wp_skip (then_n (f_seq (f_seq (f_region (lv S (rn_move (S.tm rfl)) rfl ?_))))); clear S; intro a S
  refine lv S (rn_lenT sl_100 (S.tm rfl) (slc_lenD hs_p_l hr_p_l)) rfl ?_; clear S; intro a S
  refine lv S (rn_move rfl) rfl ?_; clear S; intro a S
  refine l_done (then_n ?_)
  replace S := S.nk [] [(0, v_p_l), (10, v_p_l), (11, iV (p_l.length : Int)), (12, iV 0)] [] rfl (subR rfl)
  obtain ⟨j1, hj1, h⟩ := joinE h
  refine f_join (fun a w' => j1 = some r ∧ Sx w [] nov [] [] 87 a w') ?_ ?_
  ·refine wp_block (f_loop (fun (ys1 : List GKind) a w' => ∃ i1 : Nat, (∃ dn, p_l = dn ++ ys1 ∧ dn.length = i1) ∧ record_CheckKinds_l1 p_l j1 ys1 i1 = some r ∧ Sx w [] nov [] [(0, v_p_l), (10, v_p_l), (11, iV (p_l.length : Int)), (12, iV (i1 : Int))] 87 a w') List.length p_l ⟨0, ⟨[], rfl, rfl⟩, h, S.nf [] rfl (subR rfl)⟩ ?_)
   clear S h; rintro ys1 a w1 ⟨i1, ⟨dn, hd1, hi1⟩, h, S⟩
   cases ys1 with
   | nil =>
    rw [record_CheckKinds_l1.eq_1] at h
    refine f_seq (f_region (lv S (rn_lss (S.tm rfl) (S.tm rfl)) rfl ?_)); clear S; intro a S
    refine l_done ?_
    replace S := S.nk [] [(0, v_p_l), (10, v_p_l), (11, iV (p_l.length : Int)), (12, iV (i1 : Int)), (13, bV (decide ((i1 : Int) < (p_l.length : Int))))] [] rfl (subR rfl)
    refine then_n (f_seq (wp_cond_false ((S.tm rfl).trans (congrArg Value.bool (rng_nil hd1 hi1))) (wp_exit (then_x (then_x (x_same ?_))))))
    refine then_n ?_
    exact ⟨h, S.nf [] rfl trivial⟩
   | cons y1 ys1 =>
    rw [record_CheckKinds_l1.eq_2] at h
    refine f_seq (f_region (lv S (rn_lss (S.tm rfl) (S.tm rfl)) rfl ?_)); clear S; intro a S
    refine l_done ?_
    replace S := S.nk [] [(0, v_p_l), (10, v_p_l), (11, iV (p_l.length : Int)), (12, iV (i1 : Int)), (13, bV (decide ((i1 : Int) < (p_l.length : Int))))] [] rfl (subR rfl)
    refine then_n (f_seq (wp_cond_true ((S.tm rfl).trans (congrArg Value.bool (rng_cons hd1 hi1))) (wp_skip (then_n (f_seq (wp_block ?_))))))
    refine f_seq (f_region (lv S (rn_move (S.tm rfl)) rfl ?_)); clear S; intro a S
    obtain ⟨r1, hg1, hl1⟩ := All2.at hr_p_l (get_mid hd1 hi1)
    obtain ⟨u1, rfl, hs1⟩ := hl1
    obtain ⟨b1, o1, hm1, hr1⟩ := rn_indexT (a := a) (x := .tmp 10) (y := .tmp 12) (ty := 0) sl_100 hs_p_l hg1 rfl (S.tm rfl) (S.tm rfl)
    refine lv S (hr1 _) rfl ?_; clear S; intro a S
    clear hr1
    refine lv S (rn_ldA Tryz.isAgg99 Tryz.sizeOf99 (off := o1) (o := 0) (part := [sV y1.Key, sV y1.Race, u1.val, iV y1.Young, iV y1.Old]) rfl rfl (S.tm rfl) (hm1.at S.emb0)) rfl ?_; clear S; intro a S
    refine l_alloc S Tryz.zeroValue99 (cs := [sV k_empty, sV k_empty, .slice none 0 0, iV 0, iV 0]) rfl rfl ?_; clear S; intro a w3 b2 hz1 hk1 S
    refine lv S (rn_assign (S.tm rfl)) rfl ?_; clear S; intro a S
    refine l_store S (S.tm rfl) (S.tm rfl) (i := 0) (off := 0) rfl Tryz.sizeOf99 (vs := [sV y1.Key, sV y1.Race, u1.val, iV y1.Young, iV y1.Old]) rfl rfl rfl (all1 rfl (all1 rfl (all1 (SlcLen.one (slc_len hs1)) (all1 rfl (all1 rfl rfl))))) ?_; clear S; intro w4 hk2 S
    refine l_done (then_n (f_seq (wp_block (f_seq (f_region (lv S (rn_fld fa_99_0 (S.tm rfl)) rfl ?_)))))); clear S; intro a S
    refine lv S (rn_load Tryz.isAgg9 (S.tm rfl) (S.cell (i := 0) rfl rfl)) rfl ?_; clear S; intro a S
    obtain ⟨r2, hr2, h⟩ := bindE h
    refine l_enter S (fun _ => run_call (vs := [sV y1.Key]) ⟨(S.tm rfl), trivial⟩ Tryz.call86) (words_IsKey_ok _ y1.Key _ hr2) rfl ?_; clear S; intro v1 a w5 hv1 hk3 hn1 S
    subst hv1
    refine lv S (rn_not (S.tm rfl)) rfl ?_; clear S; intro a S
    refine lv S (rn_move (S.tm rfl)) rfl ?_; clear S; intro a S
    obtain ⟨j2, hj2, h⟩ := joinE h
    refine f_cutm 5 (fun a w' => ∃ c1, j2 c1 = some r ∧ Keep [] w5 w' ∧ Sx w [] nov [.blk b2 [sV y1.Key, sV y1.Race, u1.val, iV y1.Young, iV y1.Old] 99] [(0, v_p_l), (3, iV (i1 : Int)), (4, .pointer (some ⟨b2, 0, none⟩)), (10, v_p_l), (11, iV (p_l.length : Int)), (12, iV (i1 : Int)), (27, bV c1)] 87 a w') ?_ ?_
    ·rcases Bool.eq_false_or_eq_true (!r2) with hb2 | hb2
     ·replace h := iteT h hb2
      iterate 4 (refine l_skip S rfl rfl rfl (neq_t hb2) rfl ?_ rfl; clear S; intro a S)
      refine lv S (rn_or_t true hb2 (S.tm rfl) rfl) rfl ?_; clear S; intro a S
      refine l_done (then_n ?_)
      exact ⟨_, h, Keep.refl _ _, S.nf [true] rfl (subR rfl)⟩
     ·replace h := iteF h hb2
      refine l_want S rfl rfl rfl hb2 (lv S (rn_fld fa_99_1 (S.tm rfl)) rfl ?_); clear S; intro a S
      refine l_want S rfl rfl rfl hb2 (lv S (rn_load Tryz.isAgg9 (S.tm rfl) (S.cell (i := 0) rfl rfl)) rfl ?_); clear S; intro a S
      refine l_want S rfl rfl rfl hb2 ?_
      obtain ⟨r3, hr3, h⟩ := bindE h
      refine l_enter S (fun _ => run_call (vs := [sV y1.Race]) ⟨(S.tm rfl), trivial⟩ Tryz.call86) (words_IsKey_ok _ y1.Race _ hr3) rfl ?_; clear S; intro v2 a w7 hv2 hk4 hn2 S
      subst hv2
      refine l_want S rfl rfl rfl hb2 (lv S (rn_not (S.tm rfl)) rfl ?_); clear S; intro a S
      refine lv S (rn_or_f hb2 (S.tm rfl) (S.tm rfl)) rfl ?_; clear S; intro a S
      refine l_done (then_n ?_)
      exact ⟨_, h, hk4, S.nf [true] rfl (subR rfl)⟩
    clear S h; rintro a w6 ⟨c1, h, hk5, S⟩; rw [hj2] at h; clear hj2 j2
    refine lv S (rn_assign (S.tm rfl)) rfl ?_; clear S; intro a S
    refine l_done (then_n (f_cond (S.tm rfl) (fun hb3 => ?_) (fun hb3 => ?_)))
    ·replace h := iteT h hb3
     refine f_seq (f_region (lv S (rn_assign rfl) rfl ?_)); clear S; intro a S
     refine l_done (then_n (wp_ret (blk_r (then_r (blk_r (then_r ?_))))))
     refine then_r (blk_r (then_r (then_r ?_)))
     obtain rfl := Option.some.inj h
     exact f_ret S Tryz.results77 rfl rfl
    ·replace h := iteF h hb3
     refine f_seq (d_region [] ([]) Tryz.mixed S rfl (by kernel_rfl) ?_); clear S; intro w8 hk6 hsel S
     refine d_rest [0, 1, 2, 3, 4, 5, 6, 7, 8, 9, 10, 11, 12, 13] hsel (by kernel_rfl) rfl ?_
     clear hsel
     refine s_lv S rfl (rn_move (S.tm rfl)) rfl ?_; clear S; intro a S
     refine s_lv S rfl (rn_gtr (S.tm rfl) rfl) rfl ?_; clear S; intro a S
     refine s_lv S rfl (rn_move (S.tm rfl)) rfl ?_; clear S; intro a S
     obtain ⟨j3, hj3, h⟩ := joinE h
     refine s_cutm 10 (fun a w' => ∃ c2, j3 c2 = some r ∧ Keep [] w8 w' ∧ Sx w [] nov [.blk b2 [sV y1.Key, sV y1.Race, u1.val, iV y1.Young, iV y1.Old] 99] [(0, v_p_l), (4, .pointer (some ⟨b2, 0, none⟩)), (10, v_p_l), (11, iV (p_l.length : Int)), (12, iV (i1 : Int)), (41, bV c2)] 87 a w') ?_ ?_
     ·rcases Bool.eq_false_or_eq_true (decide (0 < (i1 : Int))) with hb4 | hb4
      ·replace h := iteT h hb4
       refine s_want S rfl rfl rfl rfl hb4 (s_lv0 S (rn_fld fa_99_0 (S.tm rfl)) rfl ?_); clear S; intro a S
       refine s_want S rfl rfl rfl rfl hb4 (s_lv0 S (rn_load Tryz.isAgg9 (S.tm rfl) (S.cell (i := 0) rfl rfl)) rfl ?_); clear S; intro a S
       refine s_want S rfl rfl rfl rfl hb4 (s_lv0 S (rn_move (S.tm rfl)) rfl ?_); clear S; intro a S
       refine s_want S rfl rfl rfl rfl hb4 (s_lv0 S (rn_move (S.tm rfl)) rfl ?_); clear S; intro a S
       refine s_want S rfl rfl rfl rfl hb4 (s_lv0 S (rn_sub (S.tm rfl) rfl) rfl ?_); clear S; intro a S
       refine s_want S rfl rfl rfl rfl hb4 ?_
       obtain ⟨hc1, h⟩ := chkE h
       obtain ⟨r4, hg2, hl2⟩ := all2_get hr_p_l hc1
       obtain ⟨u2, rfl, hs2⟩ := hl2
       obtain ⟨b3, o2, hm2, hr4⟩ := rn_indexT (a := a) (x := .tmp 34) (y := .tmp 36) (ty := 0) sl_100 hs_p_l hg2 (inB_get hc1).2 (S.tm rfl) (S.tm rfl)
       refine s_lv0 S (hr4 _) rfl ?_; clear S; intro a S
       clear hr4
       refine s_want S rfl rfl rfl rfl hb4 (s_lv0 S (rn_fld fa_99_0 (S.tm rfl)) rfl ?_); clear S; intro a S
       refine s_want S rfl rfl rfl rfl hb4 (s_lv0 S (rn_ld Tryz.isAgg9 (off := o2) (o := 0) (S.tm rfl) (hm2.at S.emb0) rfl) rfl ?_); clear S; intro a S
       refine s_want S rfl rfl rfl rfl hb4 (s_lv0 S (rn_sleq (S.tm rfl) (S.tm rfl)) rfl ?_); clear S; intro a S
       refine s_lv S rfl (rn_and_t hb4 (S.tm rfl) (S.tm rfl)) rfl ?_; clear S; intro a S
       refine s_done ?_
       exact ⟨_, h, Keep.refl _ _, S.nf [true] rfl (subR rfl)⟩
      ·replace h := iteF h hb4
       iterate 9 (refine s_skip S rfl rfl rfl rfl (neq_f hb4) rfl ?_ rfl; clear S; intro a S)
       refine s_lv S rfl (rn_and_f true hb4 (S.tm rfl) rfl) rfl ?_; clear S; intro a S
       refine s_done ?_
       exact ⟨_, h, Keep.refl _ _, S.nf [true] rfl (subR rfl)⟩
     clear S h; rintro a w9 ⟨c2, h, hk7, S⟩; rw [hj3] at h; clear hj3 j3
     refine s_lv S rfl (rn_assign (S.tm rfl)) rfl ?_; clear S; intro a S
     refine s_done ?_
     replace S := S.nk [.blk b2 [sV y1.Key, sV y1.Race, u1.val, iV y1.Young, iV y1.Old] 99] [(0, v_p_l), (4, .pointer (some ⟨b2, 0, none⟩)), (10, v_p_l), (11, iV (p_l.length : Int)), (12, iV (i1 : Int)), (28, bV c2)] [true] rfl (subR rfl)
     refine then_n (f_cond (S.tm rfl) (fun hb5 => ?_) (fun hb5 => ?_))
     ·replace h := iteT h hb5
      refine f_seq (f_region (lv S (rn_assign rfl) rfl ?_)); clear S; intro a S
      refine l_done (then_n (wp_ret (blk_r (then_r (blk_r (then_r ?_))))))
      refine then_r (blk_r (then_r (then_r ?_)))
      obtain rfl := Option.some.inj h
      exact f_ret S Tryz.results77 rfl rfl
     ·replace h := iteF h hb5
      refine f_seq (f_region (lv S (rn_fld fa_99_2 (S.tm rfl)) rfl ?_)); clear S; intro a S
      refine lv S (rn_load Tryz.isAgg61 (S.tm rfl) (S.cell (i := 0) rfl rfl)) rfl ?_; clear S; intro a S
      refine lv S (rn_lenT sl_61 (S.tm rfl) (slc_len hs1)) rfl ?_; clear S; intro a S
      refine lv S (rn_gtr (S.tm rfl) rfl) rfl ?_; clear S; intro a S
      refine lv S (rn_assign (S.tm rfl)) rfl ?_; clear S; intro a S
      refine l_done (then_n (f_cond (S.tm rfl) (fun hb6 => ?_) (fun hb6 => ?_)))
      ·replace h := iteT h hb6
       refine f_seq (f_region (lv S (rn_assign rfl) rfl ?_)); clear S; intro a S
       refine l_done (then_n (wp_ret (blk_r (then_r (blk_r (then_r ?_))))))
       refine then_r (blk_r (then_r (then_r ?_)))
       obtain rfl := Option.some.inj h
       exact f_ret S Tryz.results77 rfl rfl
      ·replace h := iteF h hb6
       refine wp_skip (blk_n (then_n (f_seq (f_seq (f_region (lv S (rn_fld fa_99_2 (S.tm rfl)) rfl ?_)))))); clear S; intro a S
       refine lv S (rn_load Tryz.isAgg61 (S.tm rfl) (S.cell (i := 0) rfl rfl)) rfl ?_; clear S; intro a S
       refine lv S (rn_lenT sl_61 (S.tm rfl) (slc_len hs1)) rfl ?_; clear S; intro a S
       refine lv S (rn_move rfl) rfl ?_; clear S; intro a S
       refine l_done ?_
       replace S := S.nk [.blk b2 [sV y1.Key, sV y1.Race, u1.val, iV y1.Young, iV y1.Old] 99] [(0, v_p_l), (4, .pointer (some ⟨b2, 0, none⟩)), (10, v_p_l), (11, iV (p_l.length : Int)), (12, iV (i1 : Int)), (48, u1.val), (49, iV (y1.Clubs.length : Int)), (50, iV 0)] [true] rfl (subR rfl)
       refine then_n ?_
       obtain ⟨j4, hj4, h⟩ := joinE h
       refine f_join (fun a w' => j4 = some r ∧ Sx w [] nov [.blk b2 [sV y1.Key, sV y1.Race, u1.val, iV y1.Young, iV y1.Old] 99] [(0, v_p_l), (4, .pointer (some ⟨b2, 0, none⟩)), (10, v_p_l), (11, iV (p_l.length : Int)), (12, iV (i1 : Int))] 87 a w') ?_ ?_
       ·refine wp_block (f_loop (fun (ys2 : List ByteArray) a w' => ∃ i2 : Nat, (∃ dn, y1.Clubs = dn ++ ys2 ∧ dn.length = i2) ∧ record_CheckKinds_l2 y1 j4 ys2 i2 = some r ∧ Sx w [] nov [.blk b2 [sV y1.Key, sV y1.Race, u1.val, iV y1.Young, iV y1.Old] 99] [(0, v_p_l), (4, .pointer (some ⟨b2, 0, none⟩)), (10, v_p_l), (11, iV (p_l.length : Int)), (12, iV (i1 : Int)), (48, u1.val), (49, iV (y1.Clubs.length : Int)), (50, iV (i2 : Int))] 87 a w') List.length y1.Clubs ⟨0, ⟨[], rfl, rfl⟩, h, S.nf [true] rfl (subR rfl)⟩ ?_)
        clear S h; rintro ys2 a w10 ⟨i2, ⟨dn, hd2, hi2⟩, h, S⟩
        cases ys2 with
        | nil =>
         rw [record_CheckKinds_l2.eq_1] at h
         refine f_seq (f_region (lv S (rn_lss (S.tm rfl) (S.tm rfl)) rfl ?_)); clear S; intro a S
         refine l_done ?_
         replace S := S.nk [.blk b2 [sV y1.Key, sV y1.Race, u1.val, iV y1.Young, iV y1.Old] 99] [(0, v_p_l), (4, .pointer (some ⟨b2, 0, none⟩)), (10, v_p_l), (11, iV (p_l.length : Int)), (12, iV (i1 : Int)), (48, u1.val), (49, iV (y1.Clubs.length : Int)), (50, iV (i2 : Int)), (51, bV (decide ((i2 : Int) < (y1.Clubs.length : Int))))] [true] rfl (subR rfl)
         refine then_n (f_seq (wp_cond_false ((S.tm rfl).trans (congrArg Value.bool (rng_nil hd2 hi2))) (wp_exit (then_x (then_x (x_same ?_))))))
         refine then_n ?_
         exact ⟨h, S.nf [true] rfl (subR rfl)⟩
        | cons y2 ys2 =>
         rw [record_CheckKinds_l2.eq_2] at h
         refine f_seq (f_region (lv S (rn_lss (S.tm rfl) (S.tm rfl)) rfl ?_)); clear S; intro a S
         refine l_done ?_
         replace S := S.nk [.blk b2 [sV y1.Key, sV y1.Race, u1.val, iV y1.Young, iV y1.Old] 99] [(0, v_p_l), (4, .pointer (some ⟨b2, 0, none⟩)), (10, v_p_l), (11, iV (p_l.length : Int)), (12, iV (i1 : Int)), (48, u1.val), (49, iV (y1.Clubs.length : Int)), (50, iV (i2 : Int)), (51, bV (decide ((i2 : Int) < (y1.Clubs.length : Int))))] [true] rfl (subR rfl)
         refine then_n (f_seq (wp_cond_true ((S.tm rfl).trans (congrArg Value.bool (rng_cons hd2 hi2))) (wp_skip (then_n (f_seq (wp_block ?_))))))
         refine f_seq (f_region (lv S (rn_move (S.tm rfl)) rfl ?_)); clear S; intro a S
         obtain ⟨b4, o3, hm3, hr5⟩ := rn_indexT (a := a) (x := .tmp 48) (y := .tmp 50) (ty := 0) sl_61 hs1 (get_mid hd2 hi2) rfl (S.tm rfl) (S.tm rfl)
         refine lv S (hr5 _) rfl ?_; clear S; intro a S
         clear hr5
         refine lv S (rn_ld Tryz.isAgg9 (off := o3) (o := 0) (S.tm rfl) (hm3.at S.emb0) rfl) rfl ?_; clear S; intro a S
         refine lv S (rn_assign (S.tm rfl)) rfl ?_; clear S; intro a S
         refine lv S (rn_assign (S.tm rfl)) rfl ?_; clear S; intro a S
         refine l_done (then_n (f_seq (f_seq (f_region (lv S (rn_move (S.tm rfl)) rfl ?_))))); clear S; intro a S
         obtain ⟨r5, hr6, h⟩ := bindE h
         refine l_enter S (fun _ => run_call (vs := [sV y2]) ⟨(S.tm rfl), trivial⟩ Tryz.call86) (words_IsKey_ok _ y2 _ hr6) rfl ?_; clear S; intro v3 a w12 hv3 hk8 hn3 S
         subst hv3
         refine lv S (rn_not (S.tm rfl)) rfl ?_; clear S; intro a S
         refine l_done ?_
         replace S := S.nk [.blk b2 [sV y1.Key, sV y1.Race, u1.val, iV y1.Young, iV y1.Old] 99] [(0, v_p_l), (4, .pointer (some ⟨b2, 0, none⟩)), (5, iV (i2 : Int)), (6, sV y2), (10, v_p_l), (11, iV (p_l.length : Int)), (12, iV (i1 : Int)), (48, u1.val), (49, iV (y1.Clubs.length : Int)), (50, iV (i2 : Int)), (57, bV (!r5))] [true] rfl (subR rfl)
         refine then_n (f_cond (S.tm rfl) (fun hb7 => ?_) (fun hb7 => ?_))
         ·replace h := iteT h hb7
          refine f_seq (f_region (lv S (rn_assign rfl) rfl ?_)); clear S; intro a S
          refine l_done (then_n (wp_ret (then_r (blk_r (then_r (then_r ?_))))))
          refine blk_r (then_r (then_r (blk_r (then_r (then_r (blk_r ?_))))))
          refine then_r (then_r ?_)
          obtain rfl := Option.some.inj h
          exact f_ret S Tryz.results77 rfl rfl
         ·replace h := iteF h hb7
          refine wp_skip (then_n (f_seq (f_region (lv S (rn_move (S.tm rfl)) rfl ?_)))); clear S; intro a S
          refine lv S (rn_gtr (S.tm rfl) rfl) rfl ?_; clear S; intro a S
          refine lv S (rn_move (S.tm rfl)) rfl ?_; clear S; intro a S
          obtain ⟨j5, hj5, h⟩ := joinE h
          refine f_cutm 9 (fun a w' => ∃ c3, j5 c3 = some r ∧ Keep [] w12 w' ∧ Sx w [] nov [.blk b2 [sV y1.Key, sV y1.Race, u1.val, iV y1.Young, iV y1.Old] 99] [(0, v_p_l), (4, .pointer (some ⟨b2, 0, none⟩)), (10, v_p_l), (11, iV (p_l.length : Int)), (12, iV (i1 : Int)), (48, u1.val), (49, iV (y1.Clubs.length : Int)), (50, iV (i2 : Int)), (69, bV c3)] 87 a w') ?_ ?_
          ·rcases Bool.eq_false_or_eq_true (decide (0 < (i2 : Int))) with hb8 | hb8
           ·replace h := iteT h hb8
            refine l_want S rfl rfl rfl hb8 (lv S (rn_move (S.tm rfl)) rfl ?_); clear S; intro a S
            refine l_want S rfl rfl rfl hb8 (lv S (rn_fld fa_99_2 (S.tm rfl)) rfl ?_); clear S; intro a S
            refine l_want S rfl rfl rfl hb8 (lv S (rn_load Tryz.isAgg61 (S.tm rfl) (S.cell (i := 0) rfl rfl)) rfl ?_); clear S; intro a S
            refine l_want S rfl rfl rfl hb8 (lv S (rn_move (S.tm rfl)) rfl ?_); clear S; intro a S
            refine l_want S rfl rfl rfl hb8 (lv S (rn_sub (S.tm rfl) rfl) rfl ?_); clear S; intro a S
            refine l_want S rfl rfl rfl hb8 ?_
            obtain ⟨hc2, h⟩ := chkE h
            obtain ⟨b5, o4, hm4, hr7⟩ := rn_indexT (a := a) (x := .tmp 63) (y := .tmp 65) (ty := 0) sl_61 hs1 (inB_get hc2).1 (inB_get hc2).2 (S.tm rfl) (S.tm rfl)
            refine lv S (hr7 _) rfl ?_; clear S; intro a S
            clear hr7
            refine l_want S rfl rfl rfl hb8 (lv S (rn_ld Tryz.isAgg9 (off := o4) (o := 0) (S.tm rfl) (hm4.at S.emb0) rfl) rfl ?_); clear S; intro a S
            refine l_want S rfl rfl rfl hb8 (lv S (rn_sleq (S.tm rfl) (S.tm rfl)) rfl ?_); clear S; intro a S
            refine lv S (rn_and_t hb8 (S.tm rfl) (S.tm rfl)) rfl ?_; clear S; intro a S
            refine l_done (then_n ?_)
            exact ⟨_, h, Keep.refl _ _, S.nf [true] rfl (subR rfl)⟩
           ·replace h := iteF h hb8
            iterate 8 (refine l_skip S rfl rfl rfl (neq_f hb8) rfl ?_ rfl; clear S; intro a S)
            refine lv S (rn_and_f true hb8 (S.tm rfl) rfl) rfl ?_; clear S; intro a S
            refine l_done (then_n ?_)
            exact ⟨_, h, Keep.refl _ _, S.nf [true] rfl (subR rfl)⟩
          clear S h; rintro a w13 ⟨c3, h, hk9, S⟩; rw [hj5] at h; clear hj5 j5
          refine l_done (then_n (f_cond (S.tm rfl) (fun hb9 => ?_) (fun hb9 => ?_)))
          ·replace h := iteT h hb9
           refine f_seq (f_region (lv S (rn_assign rfl) rfl ?_)); clear S; intro a S
           refine l_done (then_n (wp_ret (blk_r (then_r (then_r (blk_r ?_))))))
           refine then_r (then_r (blk_r (then_r (then_r (blk_r (then_r ?_))))))
           refine then_r ?_
           obtain rfl := Option.some.inj h
           exact f_ret S Tryz.results77 rfl rfl
          ·replace h := iteF h hb9
           refine wp_skip (blk_n (then_n (f_region (lv S (rn_add (S.tm rfl) rfl) rfl ?_)))); clear S; intro a S
           refine lv S (rn_move (S.tm rfl)) rfl ?_; clear S; intro a S
           refine l_done (then_n ?_)
           exact ⟨ys2, ⟨i2 + 1, ⟨_, (hd2).trans (List.append_cons _ _ _), by simp [hi2]⟩, h, S.nf [true] rfl ⟨rfl, rfl, rfl, rfl, rfl, rfl, rfl, (congrArg (fun z => some (Value.int .i64 z)) (rng_next hd2 hi2 (slc_max hs1))), trivial⟩⟩, Nat.lt_succ_self _⟩
       clear S h; rintro a w11 ⟨h, S⟩; rw [hj4] at h; clear hj4 j4
       refine then_n (f_seq (f_region (lv S (rn_fld fa_99_3 (S.tm rfl)) rfl ?_))); clear S; intro a S
       refine lv S (rn_load Tryz.isAgg3 (S.tm rfl) (S.cell (i := 0) rfl rfl)) rfl ?_; clear S; intro a S
       refine lv S (rn_lss (S.tm rfl) rfl) rfl ?_; clear S; intro a S
       refine lv S (rn_move (S.tm rfl)) rfl ?_; clear S; intro a S
       refine f_cutm 6 (fun a w' => Keep [] w11 w' ∧ Sx w [] nov [.blk b2 [sV y1.Key, sV y1.Race, u1.val, iV y1.Young, iV y1.Old] 99] [(0, v_p_l), (4, .pointer (some ⟨b2, 0, none⟩)), (10, v_p_l), (11, iV (p_l.length : Int)), (12, iV (i1 : Int)), (80, bV ((decide (y1.Young < 0)) || (decide (y1.Old < y1.Young))))] 87 a w') ?_ ?_
       ·rcases Bool.eq_false_or_eq_true (decide (y1.Young < 0)) with hb10 | hb10
        ·iterate 5 (refine l_skip S rfl rfl rfl (neq_t hb10) rfl ?_ rfl; clear S; intro a S)
         refine lv S (rn_or_t (decide (y1.Old < y1.Young)) hb10 (S.tm rfl) rfl) rfl ?_; clear S; intro a S
         refine l_done (then_n ?_)
         exact ⟨Keep.refl _ _, S.nf [true] rfl (subR rfl)⟩
        ·refine l_want S rfl rfl rfl hb10 (lv S (rn_fld fa_99_3 (S.tm rfl)) rfl ?_); clear S; intro a S
         refine l_want S rfl rfl rfl hb10 (lv S (rn_load Tryz.isAgg3 (S.tm rfl) (S.cell (i := 0) rfl rfl)) rfl ?_); clear S; intro a S
         refine l_want S rfl rfl rfl hb10 (lv S (rn_fld fa_99_4 (S.tm rfl)) rfl ?_); clear S; intro a S
         refine l_want S rfl rfl rfl hb10 (lv S (rn_load Tryz.isAgg3 (S.tm rfl) (S.cell (i := 0) rfl rfl)) rfl ?_); clear S; intro a S
         refine l_want S rfl rfl rfl hb10 (lv S (rn_gtr (S.tm rfl) (S.tm rfl)) rfl ?_); clear S; intro a S
         refine lv S (rn_or_f hb10 (S.tm rfl) (S.tm rfl)) rfl ?_; clear S; intro a S
         refine l_done (then_n ?_)
         exact ⟨Keep.refl _ _, S.nf [true] rfl (subR rfl)⟩
       clear S; rintro a w14 ⟨hk10, S⟩
       refine lv S (rn_move (S.tm rfl)) rfl ?_; clear S; intro a S
       refine f_cutm 4 (fun a w' => Keep [] w14 w' ∧ Sx w [] nov [.blk b2 [sV y1.Key, sV y1.Race, u1.val, iV y1.Young, iV y1.Old] 99] [(0, v_p_l), (10, v_p_l), (11, iV (p_l.length : Int)), (12, iV (i1 : Int)), (85, bV (((decide (y1.Young < 0)) || (decide (y1.Old < y1.Young))) || (decide (150 < y1.Old))))] 87 a w') ?_ ?_
       ·rcases Bool.eq_false_or_eq_true ((decide (y1.Young < 0)) || (decide (y1.Old < y1.Young))) with hb11 | hb11
        ·iterate 3 (refine l_skip S rfl rfl rfl (neq_t hb11) rfl ?_ rfl; clear S; intro a S)
         refine lv S (rn_or_t (decide (150 < y1.Old)) hb11 (S.tm rfl) rfl) rfl ?_; clear S; intro a S
         refine l_done (then_n ?_)
         exact ⟨Keep.refl _ _, S.nf [true] rfl (subR rfl)⟩
        ·refine l_want S rfl rfl rfl hb11 (lv S (rn_fld fa_99_4 (S.tm rfl)) rfl ?_); clear S; intro a S
         refine l_want S rfl rfl rfl hb11 (lv S (rn_load Tryz.isAgg3 (S.tm rfl) (S.cell (i := 0) rfl rfl)) rfl ?_); clear S; intro a S
         refine l_want S rfl rfl rfl hb11 (lv S (rn_gtr (S.tm rfl) rfl) rfl ?_); clear S; intro a S
         refine lv S (rn_or_f hb11 (S.tm rfl) (S.tm rfl)) rfl ?_; clear S; intro a S
         refine l_done (then_n ?_)
         exact ⟨Keep.refl _ _, S.nf [true] rfl (subR rfl)⟩
       clear S; rintro a w15 ⟨hk11, S⟩
       refine l_done (then_n (f_cond (S.tm rfl) (fun hb12 => ?_) (fun hb12 => ?_)))
       ·replace h := iteT h hb12
        refine f_seq (f_region (lv S (rn_assign rfl) rfl ?_)); clear S; intro a S
        refine l_done (then_n (wp_ret (blk_r (then_r (then_r (blk_r ?_))))))
        refine then_r (then_r ?_)
        obtain rfl := Option.some.inj h
        exact f_ret S Tryz.results77 rfl rfl
       ·replace h := iteF h hb12
        refine wp_skip (blk_n (then_n (f_region (lv S (rn_add (S.tm rfl) rfl) rfl ?_)))); clear S; intro a S
        refine lv S (rn_move (S.tm rfl)) rfl ?_; clear S; intro a S
        refine l_done (then_n ?_)
        exact ⟨ys1, ⟨i1 + 1, ⟨_, (hd1).trans (List.append_cons _ _ _), by simp [hi1]⟩, h, S.nf [false] rfl ⟨rfl, rfl, rfl, (congrArg (fun z => some (Value.int .i64 z)) (rng_next hd1 hi1 (slc_maxD hs_p_l hr_p_l))), trivial⟩⟩, Nat.lt_succ_self _⟩
  clear S h; rintro a w2 ⟨h, S⟩; rw [hj1] at h; clear hj1 j1
  refine then_n (f_seq (f_region (lv S (rn_assign rfl) rfl ?_))); clear S; intro a S
  refine l_done (then_n (wp_ret ?_))
  obtain rfl := Option.some.inj h
  exact f_ret S Tryz.results77 rfl rfl
theorem record_checkStep_ok (w : World) (p_x : GStep) (r : Int) (h : record_checkStep p_x = some r) :
    Calls Tryz.prog 113 [.agg (GStep.enc p_x).toArray].toArray w (Ret w [] fun _ v _ => v = iV r) := by
 refine f_enter [] [] Tryz.func113 rfl Tryz.ntmps113 rfl (by simp) (by simp [fps]) (by simp [fps]) fun a S => ?_
 unfold record_checkStep at h
 replace S := S.nk [] [(0, .agg (GStep.enc p_x).toArray)] [] rfl ⟨rfl, trivial⟩
 refine f_seq (f_region (l_box S (S.tm rfl) (cs := (GStep.enc p_x)) rfl rfl ?_)); clear S; intro a w1 b1 hz1 hk1 S
 refine lv S (rn_assign rfl) rfl ?_; clear S; intro a S
 refine l_done (then_n (f_seq ?_))
 obtain ⟨j1, hj1, h⟩ := joinE h
 refine f_join (fun a w' => j1 = some r ∧ Sx w [] nov [] [] 64 a w') ?_ ?_
 ·refine wp_block (f_seq (f_region (lv S (rn_fld fa_102_0 (S.tm rfl)) rfl ?_))); clear S; intro a S
  refine lv S (rn_load Tryz.isAgg3 (S.tm rfl) (S.cell (i := 0) rfl rfl)) rfl ?_; clear S; intro a S
  refine l_enter S (fun _ => run_call (vs := [iV p_x.At]) ⟨(S.tm rfl), trivial⟩ Tryz.call35) (words_IsMoment_ok _ p_x.At _ rfl) rfl ?_; clear S; intro v1 a w3 hv1 hk2 hn1 S
  subst hv1
  refine lv S (rn_not (S.tm rfl)) rfl ?_; clear S; intro a S
  refine lv S (rn_assign (S.tm rfl)) rfl ?_; clear S; intro a S
  refine l_done (then_n (f_cond (S.tm rfl) (fun hb1 => ?_) (fun hb1 => ?_)))
  ·replace h := iteT h hb1
   refine f_seq (f_region (lv S (rn_assign rfl) rfl ?_)); clear S; intro a S
   refine l_done (then_n (wp_ret (blk_r (then_r (then_r ?_)))))
   obtain rfl := Option.some.inj h
   exact f_ret S Tryz.results113 rfl rfl
  ·replace h := iteF h hb1
   refine f_seq (f_region (lv S (rn_fld fa_102_1 (S.tm rfl)) rfl ?_)); clear S; intro a S
   refine lv S (rn_load Tryz.isAgg3 (S.tm rfl) (S.cell (i := 0) rfl rfl)) rfl ?_; clear S; intro a S
   refine l_enter S (fun _ => run_call (vs := [iV p_x.Kind, iV 1, iV 3]) ⟨(S.tm rfl), rfl, rfl, trivial⟩ Tryz.call67) (words_Within_ok _ p_x.Kind 1 3 _ rfl) rfl ?_; clear S; intro v2 a w4 hv2 hk3 hn2 S
   subst hv2
   refine lv S (rn_not (S.tm rfl)) rfl ?_; clear S; intro a S
   refine lv S (rn_assign (S.tm rfl)) rfl ?_; clear S; intro a S
   refine l_done (then_n (f_cond (S.tm rfl) (fun hb2 => ?_) (fun hb2 => ?_)))
   ·replace h := iteT h hb2
    refine f_seq (f_region (lv S (rn_assign rfl) rfl ?_)); clear S; intro a S
    refine l_done (then_n (wp_ret (blk_r (then_r (then_r ?_)))))
    obtain rfl := Option.some.inj h
    exact f_ret S Tryz.results113 rfl rfl
   ·replace h := iteF h hb2
    refine f_seq (f_region (lv S (rn_fld fa_102_2 (S.tm rfl)) rfl ?_)); clear S; intro a S
    refine lv S (rn_load Tryz.isAgg9 (S.tm rfl) (S.cell (i := 0) rfl rfl)) rfl ?_; clear S; intro a S
    obtain ⟨r1, hr1, h⟩ := bindE h
    refine l_enter S (fun _ => run_call (vs := [sV p_x.Id]) ⟨(S.tm rfl), trivial⟩ Tryz.call86) (words_IsKey_ok _ p_x.Id _ hr1) rfl ?_; clear S; intro v3 a w5 hv3 hk4 hn3 S
    subst hv3
    refine lv S (rn_not (S.tm rfl)) rfl ?_; clear S; intro a S
    refine lv S (rn_assign (S.tm rfl)) rfl ?_; clear S; intro a S
    refine l_done ?_
    replace S := S.nk [.blk b1 (GStep.enc p_x) 102] [(1, .pointer (some ⟨b1, 0, none⟩)), (13, bV (!r1))] [true] rfl (subR rfl)
    refine then_n (f_cond (S.tm rfl) (fun hb3 => ?_) (fun hb3 => ?_))
    ·replace h := iteT h hb3
     refine f_seq (f_region (lv S (rn_assign rfl) rfl ?_)); clear S; intro a S
     refine l_done (then_n (wp_ret (blk_r (then_r (then_r ?_)))))
     obtain rfl := Option.some.inj h
     exact f_ret S Tryz.results113 rfl rfl
    ·replace h := iteF h hb3
     refine f_seq (f_region (lv S (rn_fld fa_102_1 (S.tm rfl)) rfl ?_)); clear S; intro a S
     refine lv S (rn_load Tryz.isAgg3 (S.tm rfl) (S.cell (i := 0) rfl rfl)) rfl ?_; clear S; intro a S
     refine lv S (rn_neq (S.tm rfl) rfl) rfl ?_; clear S; intro a S
     refine lv S (rn_assign (S.tm rfl)) rfl ?_; clear S; intro a S
     refine l_done (then_n ?_)
     obtain ⟨j2, hj2, h⟩ := joinE h
     refine f_join (fun a w' => j2 = some r ∧ Sx w [] nov [] [] 64 a w') ?_ ?_
     ·refine f_cond (S.tm rfl) (fun hb4 => ?_) (fun hb4 => ?_)
      ·replace h := iteT h hb4
       refine f_seq (f_region (lv S (rn_ldA Tryz.isAgg102 Tryz.sizeOf102 (off := 0) (o := 0) (part := (GStep.enc p_x)) rfl rfl (S.tm rfl) (S.cellsAt (i := 0) rfl)) rfl ?_)); clear S; intro a S
       refine lv S (rn_fld fa_102_0 (S.tm rfl)) rfl ?_; clear S; intro a S
       refine lv S (rn_load Tryz.isAgg3 (S.tm rfl) (S.cell (i := 0) rfl rfl)) rfl ?_; clear S; intro a S
       refine lv S (rn_fld fa_102_1 (S.tm rfl)) rfl ?_; clear S; intro a S
       refine lv S (rn_load Tryz.isAgg3 (S.tm rfl) (S.cell (i := 0) rfl rfl)) rfl ?_; clear S; intro a S
       refine lv S (rn_fld fa_102_2 (S.tm rfl)) rfl ?_; clear S; intro a S
       refine lv S (rn_load Tryz.isAgg9 (S.tm rfl) (S.cell (i := 0) rfl rfl)) rfl ?_; clear S; intro a S
       refine lv S (rn_bld bt_102 (pv := [(0, iV p_x.At), (1, iV p_x.Kind), (2, sV p_x.Id)]) ⟨rfl, (S.tm rfl), rfl, (S.tm rfl), rfl, (S.tm rfl), trivial⟩ (cs := [iV p_x.At, iV p_x.Kind, sV p_x.Id, sV k_empty, sV k_empty, sV k_empty, iV 0, iV 0]) (by kernel_rfl)) rfl ?_; clear S; intro a S
       refine lv S (rn_neq_102 (m := p_x) (n := (GStep.mk p_x.At p_x.Kind p_x.Id k_empty k_empty k_empty 0 0)) (S.tm rfl) (S.tm rfl)) rfl ?_; clear S; intro a S
       refine l_done ?_
       replace S := S.nk [] [(30, bV (!decide (p_x = (GStep.mk p_x.At p_x.Kind p_x.Id k_empty k_empty k_empty 0 0))))] [false] rfl ⟨rfl, trivial⟩
       refine then_n (f_cond (S.tm rfl) (fun hb5 => ?_) (fun hb5 => ?_))
       ·replace h := iteT h hb5
        refine f_seq (f_region (lv S (rn_assign rfl) rfl ?_)); clear S; intro a S
        refine l_done (then_n (wp_ret (then_r (blk_r (then_r (then_r ?_))))))
        obtain rfl := Option.some.inj h
        exact f_ret S Tryz.results113 rfl rfl
       ·replace h := iteF h hb5
        refine wp_skip (then_n ?_)
        exact ⟨h, S.nf [] rfl trivial⟩
      ·replace h := iteF h hb4
       refine f_seq (f_region (lv S (rn_fld fa_102_3 (S.tm rfl)) rfl ?_)); clear S; intro a S
       refine lv S (rn_load Tryz.isAgg9 (S.tm rfl) (S.cell (i := 0) rfl rfl)) rfl ?_; clear S; intro a S
       obtain ⟨r2, hr2, h⟩ := bindE h
       refine l_enter S (fun _ => run_call (vs := [sV p_x.Who]) ⟨(S.tm rfl), trivial⟩ Tryz.call86) (words_IsKey_ok _ p_x.Who _ hr2) rfl ?_; clear S; intro v4 a w7 hv4 hk5 hn4 S
       subst hv4
       refine lv S (rn_not (S.tm rfl)) rfl ?_; clear S; intro a S
       refine lv S (rn_move (S.tm rfl)) rfl ?_; clear S; intro a S
       obtain ⟨j3, hj3, h⟩ := joinE h
       refine f_cutm 5 (fun a w' => ∃ c1, j3 c1 = some r ∧ Keep [] w7 w' ∧ Sx w [] nov [.blk b1 (GStep.enc p_x) 102] [(1, .pointer (some ⟨b1, 0, none⟩)), (41, bV c1)] 64 a w') ?_ ?_
       ·rcases Bool.eq_false_or_eq_true (!r2) with hb6 | hb6
        ·replace h := iteT h hb6
         iterate 4 (refine l_skip S rfl rfl rfl (neq_t hb6) rfl ?_ rfl; clear S; intro a S)
         refine lv S (rn_or_t true hb6 (S.tm rfl) rfl) rfl ?_; clear S; intro a S
         refine l_done (then_n ?_)
         exact ⟨_, h, Keep.refl _ _, S.nf [true] rfl (subR rfl)⟩
        ·replace h := iteF h hb6
         refine l_want S rfl rfl rfl hb6 (lv S (rn_fld fa_102_5 (S.tm rfl)) rfl ?_); clear S; intro a S
         refine l_want S rfl rfl rfl hb6 (lv S (rn_load Tryz.isAgg9 (S.tm rfl) (S.cell (i := 0) rfl rfl)) rfl ?_); clear S; intro a S
         refine l_want S rfl rfl rfl hb6 ?_
         obtain ⟨r3, hr3, h⟩ := bindE h
         refine l_enter S (fun _ => run_call (vs := [sV p_x.Race]) ⟨(S.tm rfl), trivial⟩ Tryz.call86) (words_IsKey_ok _ p_x.Race _ hr3) rfl ?_; clear S; intro v5 a w9 hv5 hk6 hn5 S
         subst hv5
         refine l_want S rfl rfl rfl hb6 (lv S (rn_not (S.tm rfl)) rfl ?_); clear S; intro a S
         refine lv S (rn_or_f hb6 (S.tm rfl) (S.tm rfl)) rfl ?_; clear S; intro a S
         refine l_done (then_n ?_)
         exact ⟨_, h, hk6, S.nf [true] rfl (subR rfl)⟩
       clear S h; rintro a w8 ⟨c1, h, hk7, S⟩; rw [hj3] at h; clear hj3 j3
       refine lv S (rn_move (S.tm rfl)) rfl ?_; clear S; intro a S
       obtain ⟨j4, hj4, h⟩ := joinE h
       refine f_cutm 10 (fun a w' => ∃ c2, j4 c2 = some r ∧ Keep [] w8 w' ∧ Sx w [] nov [.blk b1 (GStep.enc p_x) 102] [(1, .pointer (some ⟨b1, 0, none⟩)), (52, bV c2)] 64 a w') ?_ ?_
       ·rcases Bool.eq_false_or_eq_true c1 with hb7 | hb7
        ·replace h := iteT h hb7
         iterate 4 (refine l_skip S rfl rfl rfl (neq_t hb7) rfl ?_ rfl; clear S; intro a S)
         iterate 4 (refine l_skipU S rfl rfl rfl rfl ?_; clear S; intro a S)
         refine l_skip S rfl rfl rfl (neq_t hb7) rfl ?_ rfl; clear S; intro a S
         refine lv S (rn_or_t true hb7 (S.tm rfl) rfl) rfl ?_; clear S; intro a S
         refine l_done (then_n ?_)
         exact ⟨_, h, Keep.refl _ _, S.nf [true] rfl (subR rfl)⟩
        ·replace h := iteF h hb7
         refine l_want S rfl rfl rfl hb7 (lv S (rn_fld fa_102_4 (S.tm rfl)) rfl ?_); clear S; intro a S
         refine l_want S rfl rfl rfl hb7 (lv S (rn_load Tryz.isAgg9 (S.tm rfl) (S.cell (i := 0) rfl rfl)) rfl ?_); clear S; intro a S
         refine l_want S rfl rfl rfl hb7 (lv S (rn_sneq (S.tm rfl) rfl) rfl ?_); clear S; intro a S
         refine l_want S rfl rfl rfl hb7 (lv S (rn_move (S.tm rfl)) rfl ?_); clear S; intro a S
         obtain ⟨j5, hj5, h⟩ := joinE h
         refine f_cutm 5 (fun a w' => ∃ c3, j5 c3 = some r ∧ Keep [] w8 w' ∧ Sx w [] nov [.blk b1 (GStep.enc p_x) 102] [(1, .pointer (some ⟨b1, 0, none⟩)), (42, bV c1), (51, bV c3)] 64 a w') ?_ ?_
         ·rcases Bool.eq_false_or_eq_true (!decide (p_x.Club = k_empty)) with hb8 | hb8
          ·replace h := iteT h hb8
           refine l_want S rfl rfl rfl hb8 (lv S (rn_fld fa_102_4 (S.tm rfl)) rfl ?_); clear S; intro a S
           refine l_want S rfl rfl rfl hb8 (lv S (rn_load Tryz.isAgg9 (S.tm rfl) (S.cell (i := 0) rfl rfl)) rfl ?_); clear S; intro a S
           refine l_want S rfl rfl rfl hb8 ?_
           obtain ⟨r4, hr4, h⟩ := bindE h
           refine l_enter S (fun _ => run_call (vs := [sV p_x.Club]) ⟨(S.tm rfl), trivial⟩ Tryz.call86) (words_IsKey_ok _ p_x.Club _ hr4) rfl ?_; clear S; intro v6 a w12 hv6 hk8 hn6 S
           subst hv6
           refine l_want S rfl rfl rfl hb8 (lv S (rn_not (S.tm rfl)) rfl ?_); clear S; intro a S
           refine l_want S rfl rfl rfl hb7 (lv S (rn_and_t hb8 (S.tm rfl) (S.tm rfl)) rfl ?_); clear S; intro a S
           refine l_done (then_n ?_)
           exact ⟨_, h, hk8, S.nf [true] rfl (subR rfl)⟩
          ·replace h := iteF h hb8
           iterate 4 (refine l_skip S rfl rfl rfl (neq_f hb8) rfl ?_ rfl; clear S; intro a S)
           refine l_want S rfl rfl rfl hb7 (lv S (rn_and_f true hb8 (S.tm rfl) rfl) rfl ?_); clear S; intro a S
           refine l_done (then_n ?_)
           exact ⟨_, h, Keep.refl _ _, S.nf [true] rfl (subR rfl)⟩
         clear S h; rintro a w11 ⟨c3, h, hk9, S⟩; rw [hj5] at h; clear hj5 j5
         refine lv S (rn_or_f hb7 (S.tm rfl) (S.tm rfl)) rfl ?_; clear S; intro a S
         refine l_done (then_n ?_)
         exact ⟨_, h, hk9, S.nf [true] rfl (subR rfl)⟩
       clear S h; rintro a w10 ⟨c2, h, hk10, S⟩; rw [hj4] at h; clear hj4 j4
       refine lv S (rn_assign (S.tm rfl)) rfl ?_; clear S; intro a S
       refine l_done (then_n (f_cond (S.tm rfl) (fun hb9 => ?_) (fun hb9 => ?_)))
       ·replace h := iteT h hb9
        refine f_seq (f_region (lv S (rn_assign rfl) rfl ?_)); clear S; intro a S
        refine l_done (then_n (wp_ret (then_r (blk_r (then_r (then_r ?_))))))
        obtain rfl := Option.some.inj h
        exact f_ret S Tryz.results113 rfl rfl
       ·replace h := iteF h hb9
        refine f_seq (f_region (lv S (rn_fld fa_102_6 (S.tm rfl)) rfl ?_)); clear S; intro a S
        refine lv S (rn_load Tryz.isAgg3 (S.tm rfl) (S.cell (i := 0) rfl rfl)) rfl ?_; clear S; intro a S
        refine l_enter S (fun _ => run_call (vs := [iV p_x.Age, iV 0, iV 150]) ⟨(S.tm rfl), rfl, rfl, trivial⟩ Tryz.call67) (words_Within_ok _ p_x.Age 0 150 _ rfl) rfl ?_; clear S; intro v7 a w13 hv7 hk11 hn7 S
        subst hv7
        refine lv S (rn_not (S.tm rfl)) rfl ?_; clear S; intro a S
        refine lv S (rn_move (S.tm rfl)) rfl ?_; clear S; intro a S
        refine f_cutm 5 (fun a w' => Keep [] w13 w' ∧ Sx w [] nov [.blk b1 (GStep.enc p_x) 102] [(63, bV ((!(words_Within p_x.Age 0 150)) || (!(timing_IsTime p_x.Time))))] 64 a w') ?_ ?_
        ·rcases Bool.eq_false_or_eq_true (!(words_Within p_x.Age 0 150)) with hb10 | hb10
         ·iterate 4 (refine l_skip S rfl rfl rfl (neq_t hb10) rfl ?_ rfl; clear S; intro a S)
          refine lv S (rn_or_t (!(timing_IsTime p_x.Time)) hb10 (S.tm rfl) rfl) rfl ?_; clear S; intro a S
          refine l_done (then_n ?_)
          exact ⟨Keep.refl _ _, S.nf [true] rfl ⟨rfl, trivial⟩⟩
         ·refine l_want S rfl rfl rfl hb10 (lv S (rn_fld fa_102_7 (S.tm rfl)) rfl ?_); clear S; intro a S
          refine l_want S rfl rfl rfl hb10 (lv S (rn_load Tryz.isAgg3 (S.tm rfl) (S.cell (i := 0) rfl rfl)) rfl ?_); clear S; intro a S
          refine l_want S rfl rfl rfl hb10 (l_enter S (fun _ => run_call (vs := [iV p_x.Time]) ⟨(S.tm rfl), trivial⟩ Tryz.call75) (timing_IsTime_ok _ p_x.Time _ rfl) rfl ?_); clear S; intro v8 a w15 hv8 hk12 hn8 S
          subst hv8
          refine l_want S rfl rfl rfl hb10 (lv S (rn_not (S.tm rfl)) rfl ?_); clear S; intro a S
          refine lv S (rn_or_f hb10 (S.tm rfl) (S.tm rfl)) rfl ?_; clear S; intro a S
          refine l_done (then_n ?_)
          exact ⟨hk12, S.nf [true] rfl ⟨rfl, trivial⟩⟩
        clear S; rintro a w14 ⟨hk13, S⟩
        refine lv S (rn_assign (S.tm rfl)) rfl ?_; clear S; intro a S
        refine l_done (then_n (f_cond (S.tm rfl) (fun hb11 => ?_) (fun hb11 => ?_)))
        ·replace h := iteT h hb11
         refine f_seq (f_region (lv S (rn_assign rfl) rfl ?_)); clear S; intro a S
         refine l_done (then_n (wp_ret (then_r (blk_r (then_r (then_r ?_))))))
         obtain rfl := Option.some.inj h
         exact f_ret S Tryz.results113 rfl rfl
        ·replace h := iteF h hb11
         refine wp_skip (then_n ?_)
         exact ⟨h, S.nf [false] rfl trivial⟩
     clear S h; rintro a w6 ⟨h, S⟩; rw [hj2] at h; clear hj2 j2
     refine blk_n (then_n ?_)
     exact ⟨h, S.nf [] rfl trivial⟩
 clear S h; rintro a w2 ⟨h, S⟩; rw [hj1] at h; clear hj1 j1
 refine then_n (f_seq (f_region (lv S (rn_assign rfl) rfl ?_))); clear S; intro a S
 refine l_done (then_n (wp_ret ?_))
 obtain rfl := Option.some.inj h
 exact f_ret S Tryz.results113 rfl rfl
theorem record_checkSwum_ok (w : World) (p_s : GStep) (r : Int) (h : record_checkSwum p_s = some r) :
    Calls Tryz.prog 78 [.agg (GStep.enc p_s).toArray].toArray w (Ret w [] fun _ v _ => v = iV r) := by
 refine f_enter [] [] Tryz.func78 rfl Tryz.ntmps78 rfl (by simp) (by simp [fps]) (by simp [fps]) fun a S => ?_
 unfold record_checkSwum at h
 replace S := S.nk [] [(0, .agg (GStep.enc p_s).toArray)] [] rfl ⟨rfl, trivial⟩
 refine f_seq (f_region (l_box S (S.tm rfl) (cs := (GStep.enc p_s)) rfl rfl ?_)); clear S; intro a w1 b1 hz1 hk1 S
 refine lv S (rn_assign rfl) rfl ?_; clear S; intro a S
 refine l_done (then_n (f_seq (f_seq (f_region (lv S (rn_ldA Tryz.isAgg102 Tryz.sizeOf102 (off := 0) (o := 0) (part := (GStep.enc p_s)) rfl rfl (S.tm rfl) (S.cellsAt (i := 0) rfl)) rfl ?_))))); clear S; intro a S
 obtain ⟨r1, hr1, h⟩ := bindE h
 refine l_enter S (fun _ => run_call (vs := [.agg (GStep.enc p_s).toArray]) ⟨(S.tm rfl), trivial⟩ Tryz.call113) (record_checkStep_ok _ p_s _ hr1) rfl ?_; clear S; intro v1 a w2 hv1 hk2 hn1 S
 subst hv1
 refine lv S (rn_assign (S.tm rfl)) rfl ?_; clear S; intro a S
 refine l_done (then_n (f_seq (f_region (lv S (rn_move (S.tm rfl)) rfl ?_)))); clear S; intro a S
 refine lv S (rn_neq (S.tm rfl) rfl) rfl ?_; clear S; intro a S
 refine l_done (then_n (f_cond (S.tm rfl) (fun hb1 => ?_) (fun hb1 => ?_)))
 ·replace h := iteT h hb1
  refine f_seq (f_region (lv S (rn_move (S.tm rfl)) rfl ?_)); clear S; intro a S
  refine lv S (rn_assign (S.tm rfl)) rfl ?_; clear S; intro a S
  refine l_done (then_n (wp_ret (then_r ?_)))
  obtain rfl := Option.some.inj h
  exact f_ret S Tryz.results78 rfl rfl
 ·replace h := iteF h hb1
  refine wp_skip (then_n (f_seq (f_seq (f_region (lv S (rn_fld fa_102_1 (S.tm rfl)) rfl ?_))))); clear S; intro a S
  refine lv S (rn_load Tryz.isAgg3 (S.tm rfl) (S.cell (i := 0) rfl rfl)) rfl ?_; clear S; intro a S
  refine lv S (rn_neq (S.tm rfl) rfl) rfl ?_; clear S; intro a S
  refine l_done (then_n (f_cond (S.tm rfl) (fun hb2 => ?_) (fun hb2 => ?_)))
  ·replace h := iteT h hb2
   refine f_seq (f_region (lv S (rn_assign rfl) rfl ?_)); clear S; intro a S
   refine l_done (then_n (wp_ret (then_r ?_)))
   obtain rfl := Option.some.inj h
   exact f_ret S Tryz.results78 rfl rfl
  ·replace h := iteF h hb2
   refine wp_skip (then_n (f_seq (f_region (lv S (rn_assign rfl) rfl ?_)))); clear S; intro a S
   refine l_done (then_n (wp_ret ?_))
   obtain rfl := Option.some.inj h
   exact f_ret S Tryz.results78 rfl rfl
theorem slices_Contains_string_ok (w : World) (v_p_s : Value) (p_s : List ByteArray) (hs_p_s : Slc (view w []) 1 v_p_s (p_s.map eStr)) (p_v : ByteArray) (r : Bool) (h : slices_Contains_string p_s p_v = r) :
    Calls Tryz.prog 114 [v_p_s, sV p_v].toArray w (Ret w [] fun _ v _ => v = bV r) := by
 refine f_enter [] [] Tryz.func114 rfl Tryz.ntmps114 rfl (by simp) (by simp [fps]) (by simp [fps]) fun a S => ?_
 unfold slices_Contains_string at h
 replace S := S.nk [] [(0, v_p_s), (1, sV p_v)] [] rfl (subR rfl)
 refine f_seq (f_region (lv S (rn_assign rfl) rfl ?_)); clear S; intro a S
 refine l_done (then_n (f_seq (f_region (lv S (rn_move (S.tm rfl)) rfl ?_)))); clear S; intro a S
 refine lv S (rn_move (S.tm rfl)) rfl ?_; clear S; intro a S
 refine l_enter S (fun _ => run_call (vs := [v_p_s, sV p_v]) ⟨(S.tm rfl), (S.tm rfl), trivial⟩ Tryz.call33) (slices_Index_string_ok _ v_p_s p_s (hs_p_s.mono (S.le_arg nil_sub)) p_v _ rfl) rfl ?_; clear S; intro v1 a w1 hv1 hk1 hn1 S
 subst hv1
 refine lv S (rn_geq (S.tm rfl) rfl) rfl ?_; clear S; intro a S
 refine lv S (rn_assign (S.tm rfl)) rfl ?_; clear S; intro a S
 refine l_done (then_n (wp_ret ?_))
 subst h
 exact f_ret S Tryz.results114 rfl rfl
theorem record_isFor_ok (w : World) (p_k : GKind) (q_p_k : R99) (hq_p_k : rel_99 (view w []) p_k q_p_k) (p_s : GStep) (r : Bool) (h : record_isFor p_k p_s = r) :
    Calls Tryz.prog 79 [.agg (R99.enc q_p_k).toArray, .agg (GStep.enc p_s).toArray].toArray w (Ret w [] fun _ v _ => v = bV r) := by
 obtain ⟨u1, rfl, hs1⟩ := hq_p_k
 refine f_enter [] [] Tryz.func79 rfl Tryz.ntmps79 rfl (by simp) (by simp [fps]) (by simp [fps]) fun a S => ?_
 unfold record_isFor at h
 replace S := S.nk [] [(0, .agg #[sV p_k.Key, sV p_k.Race, u1.val, iV p_k.Young, iV p_k.Old]), (1, .agg (GStep.enc p_s).toArray)] [] rfl (subR rfl)
 refine f_seq (f_region (l_box S (S.tm rfl) (cs := [sV p_k.Key, sV p_k.Race, u1.val, iV p_k.Young, iV p_k.Old]) rfl rfl ?_)); clear S; intro a w1 b1 hz1 hk1 S
 refine l_box S (S.tm rfl) (cs := (GStep.enc p_s)) rfl rfl ?_; clear S; intro a w2 b2 hz2 hk2 S
 refine lv S (rn_assign rfl) rfl ?_; clear S; intro a S
 refine l_done (then_n (f_seq (f_region (lv S (rn_fld fa_102_5 (S.tm rfl)) rfl ?_)))); clear S; intro a S
 refine lv S (rn_load Tryz.isAgg9 (S.tm rfl) (S.cell (i := 0) rfl rfl)) rfl ?_; clear S; intro a S
 refine lv S (rn_fld fa_99_1 (S.tm rfl)) rfl ?_; clear S; intro a S
 refine lv S (rn_load Tryz.isAgg9 (S.tm rfl) (S.cell (i := 1) rfl rfl)) rfl ?_; clear S; intro a S
 refine lv S (rn_seql (S.tm rfl) (S.tm rfl)) rfl ?_; clear S; intro a S
 refine lv S (rn_move (S.tm rfl)) rfl ?_; clear S; intro a S
 refine f_cutm 12 (fun a w' => Keep [] w2 w' ∧ Sx w [] nov [.blk b2 (GStep.enc p_s) 102, .blk b1 [sV p_k.Key, sV p_k.Race, u1.val, iV p_k.Young, iV p_k.Old] 99] [(2, .pointer (some ⟨b1, 0, none⟩)), (3, .pointer (some ⟨b2, 0, none⟩)), (22, bV ((decide (p_s.Race = p_k.Race)) && ((decide ((p_k.Clubs.length : Int) = 0)) || (slices_Contains_string p_k.Clubs p_s.Club))))] 32 a w') ?_ ?_
 ·rcases Bool.eq_false_or_eq_true (decide (p_s.Race = p_k.Race)) with hb1 | hb1
  ·refine l_want S rfl rfl rfl hb1 (lv S (rn_fld fa_99_2 (S.tm rfl)) rfl ?_); clear S; intro a S
   refine l_want S rfl rfl rfl hb1 (lv S (rn_load Tryz.isAgg61 (S.tm rfl) (S.cell (i := 1) rfl rfl)) rfl ?_); clear S; intro a S
   refine l_want S rfl rfl rfl hb1 (lv S (rn_lenT sl_61 (S.tm rfl) (slc_len hs1)) rfl ?_); clear S; intro a S
   refine l_want S rfl rfl rfl hb1 (lv S (rn_eql (S.tm rfl) rfl) rfl ?_); clear S; intro a S
   refine l_want S rfl rfl rfl hb1 (lv S (rn_move (S.tm rfl)) rfl ?_); clear S; intro a S
   refine f_cutm 6 (fun a w' => Keep [] w2 w' ∧ Sx w [] nov [.blk b2 (GStep.enc p_s) 102, .blk b1 [sV p_k.Key, sV p_k.Race, u1.val, iV p_k.Young, iV p_k.Old] 99] [(2, .pointer (some ⟨b1, 0, none⟩)), (3, .pointer (some ⟨b2, 0, none⟩)), (10, bV (decide (p_s.Race = p_k.Race))), (21, bV ((decide ((p_k.Clubs.length : Int) = 0)) || (slices_Contains_string p_k.Clubs p_s.Club)))] 32 a w') ?_ ?_
   ·rcases Bool.eq_false_or_eq_true (decide ((p_k.Clubs.length : Int) = 0)) with hb2 | hb2
    ·iterate 5 (refine l_skip S rfl rfl rfl (neq_t hb2) rfl ?_ rfl; clear S; intro a S)
     refine l_want S rfl rfl rfl hb1 (lv S (rn_or_t (slices_Contains_string p_k.Clubs p_s.Club) hb2 (S.tm rfl) rfl) rfl ?_); clear S; intro a S
     refine l_done (then_n ?_)
     exact ⟨Keep.refl _ _, S.nf [true, true] rfl (subR rfl)⟩
    ·refine l_want S rfl rfl rfl hb2 (lv S (rn_fld fa_99_2 (S.tm rfl)) rfl ?_); clear S; intro a S
     refine l_want S rfl rfl rfl hb2 (lv S (rn_load Tryz.isAgg61 (S.tm rfl) (S.cell (i := 1) rfl rfl)) rfl ?_); clear S; intro a S
     refine l_want S rfl rfl rfl hb2 (lv S (rn_fld fa_102_4 (S.tm rfl)) rfl ?_); clear S; intro a S
     refine l_want S rfl rfl rfl hb2 (lv S (rn_load Tryz.isAgg9 (S.tm rfl) (S.cell (i := 0) rfl rfl)) rfl ?_); clear S; intro a S
     refine l_want S rfl rfl rfl hb2 (l_enter S (fun _ => run_call (vs := [u1.val, sV p_s.Club]) ⟨(S.tm rfl), (S.tm rfl), trivial⟩ Tryz.call114) (slices_Contains_string_ok _ u1.val p_k.Clubs (hs1.mono (S.le_arg nil_sub)) p_s.Club _ rfl) rfl ?_); clear S; intro v1 a w5 hv1 hk3 hn1 S
     subst hv1
     refine l_want S rfl rfl rfl hb1 (lv S (rn_or_f hb2 (S.tm rfl) (S.tm rfl)) rfl ?_); clear S; intro a S
     refine l_done (then_n ?_)
     exact ⟨hk3, S.nf [true, true] rfl (subR rfl)⟩
   clear S; rintro a w4 ⟨hk4, S⟩
   refine lv S (rn_and_t hb1 (S.tm rfl) (S.tm rfl)) rfl ?_; clear S; intro a S
   refine l_done (then_n ?_)
   exact ⟨hk4, S.nf [true, true] rfl (subR rfl)⟩
  ·iterate 5 (refine l_skip S rfl rfl rfl (neq_f hb1) rfl ?_ rfl; clear S; intro a S)
   iterate 5 (refine l_skipU S rfl rfl rfl rfl ?_; clear S; intro a S)
   refine l_skip S rfl rfl rfl (neq_f hb1) rfl ?_ rfl; clear S; intro a S
   refine lv S (rn_and_f ((decide ((p_k.Clubs.length : Int) = 0)) || (slices_Contains_string p_k.Clubs p_s.Club)) hb1 (S.tm rfl) rfl) rfl ?_; clear S; intro a S
   refine l_done (then_n ?_)
   exact ⟨Keep.refl _ _, S.nf [true, true] rfl (subR rfl)⟩
 clear S; rintro a w3 ⟨hk5, S⟩
 refine lv S (rn_move (S.tm rfl)) rfl ?_; clear S; intro a S
 refine f_cutm 8 (fun a w' => Keep [] w3 w' ∧ Sx w [] nov [.blk b2 (GStep.enc p_s) 102, .blk b1 [sV p_k.Key, sV p_k.Race, u1.val, iV p_k.Young, iV p_k.Old] 99] [(31, bV (((decide (p_s.Race = p_k.Race)) && ((decide ((p_k.Clubs.length : Int) = 0)) || (slices_Contains_string p_k.Clubs p_s.Club))) && (words_Within p_s.Age p_k.Young p_k.Old)))] 32 a w') ?_ ?_
 ·rcases Bool.eq_false_or_eq_true ((decide (p_s.Race = p_k.Race)) && ((decide ((p_k.Clubs.length : Int) = 0)) || (slices_Contains_string p_k.Clubs p_s.Club))) with hb3 | hb3
  ·refine l_want S rfl rfl rfl hb3 (lv S (rn_fld fa_102_6 (S.tm rfl)) rfl ?_); clear S; intro a S
   refine l_want S rfl rfl rfl hb3 (lv S (rn_load Tryz.isAgg3 (S.tm rfl) (S.cell (i := 0) rfl rfl)) rfl ?_); clear S; intro a S
   refine l_want S rfl rfl rfl hb3 (lv S (rn_fld fa_99_3 (S.tm rfl)) rfl ?_); clear S; intro a S
   refine l_want S rfl rfl rfl hb3 (lv S (rn_load Tryz.isAgg3 (S.tm rfl) (S.cell (i := 1) rfl rfl)) rfl ?_); clear S; intro a S
   refine l_want S rfl rfl rfl hb3 (lv S (rn_fld fa_99_4 (S.tm rfl)) rfl ?_); clear S; intro a S
   refine l_want S rfl rfl rfl hb3 (lv S (rn_load Tryz.isAgg3 (S.tm rfl) (S.cell (i := 1) rfl rfl)) rfl ?_); clear S; intro a S
   refine l_want S rfl rfl rfl hb3 (l_enter S (fun _ => run_call (vs := [iV p_s.Age, iV p_k.Young, iV p_k.Old]) ⟨(S.tm rfl), (S.tm rfl), (S.tm rfl), trivial⟩ Tryz.call67) (words_Within_ok _ p_s.Age p_k.Young p_k.Old _ rfl) rfl ?_); clear S; intro v2 a w7 hv2 hk6 hn2 S
   subst hv2
   refine lv S (rn_and_t hb3 (S.tm rfl) (S.tm rfl)) rfl ?_; clear S; intro a S
   refine l_done (then_n ?_)
   exact ⟨hk6, S.nf [true, true] rfl ⟨rfl, trivial⟩⟩
  ·iterate 7 (refine l_skip S rfl rfl rfl (neq_f hb3) rfl ?_ rfl; clear S; intro a S)
   refine lv S (rn_and_f (words_Within p_s.Age p_k.Young p_k.Old) hb3 (S.tm rfl) rfl) rfl ?_; clear S; intro a S
   refine l_done (then_n ?_)
   exact ⟨Keep.refl _ _, S.nf [true, true] rfl ⟨rfl, trivial⟩⟩
 clear S; rintro a w6 ⟨hk7, S⟩
 refine lv S (rn_assign (S.tm rfl)) rfl ?_; clear S; intro a S
 refine l_done (then_n (wp_ret ?_))
 subst h
 exact f_ret S Tryz.results79 rfl rfl
theorem record_For_ok (w : World) (v_p_l : Value) (p_l : List GKind) (rs_p_l : List R99) (hs_p_l : Slc (view w []) 5 v_p_l (rs_p_l.map R99.enc)) (hr_p_l : All2 (rel_99 (view w [])) p_l rs_p_l) (p_s : GStep) (r : (List ByteArray) × Int) (h : record_For p_l p_s = some r) :
    Calls Tryz.prog 40 [v_p_l, .agg (GStep.enc p_s).toArray].toArray w (Ret w [] fun τ v _ => ∃ u1 : Value, v = .tuple #[u1, iV r.2] ∧ OwnV τ 9 1 u1 r.1.length (r.1.flatMap eStr)) := by
 refine f_enter [] [] Tryz.func40 rfl Tryz.ntmps40 rfl (by simp) (by simp [fps]) (by simp [fps]) fun a S => ?_
 unfold record_For at h
 replace S := S.nk [] [(0, v_p_l), (1, .agg (GStep.enc p_s).toArray)] [] rfl (subR rfl)
 refine f_seq (f_region (l_box S (S.tm rfl) (cs := (GStep.enc p_s)) rfl rfl ?_)); clear S; intro a w1 b1 hz1 hk1 S
 refine lv S (rn_assign rfl) rfl ?_; clear S; intro a S
 refine lv S (rn_assign rfl) rfl ?_; clear S; intro a S
 refine l_done (then_n (f_seq (f_seq (f_region (lv S (rn_move (S.tm rfl)) rfl ?_))))); clear S; intro a S
 obtain ⟨r1, hr1, h⟩ := bindE h
 refine l_enter S (fun _ => run_call (vs := [v_p_l]) ⟨(S.tm rfl), trivial⟩ Tryz.call77) (record_CheckKinds_ok _ v_p_l p_l rs_p_l (hs_p_l.mono (S.le_arg nil_sub)) (rels_99 (S.le_arg nil_sub) hr_p_l) _ hr1) rfl ?_; clear S; intro v1 a w2 hv1 hk2 hn1 S
 subst hv1
 refine lv S (rn_assign (S.tm rfl)) rfl ?_; clear S; intro a S
 refine l_done (then_n (f_seq (f_region (lv S (rn_move (S.tm rfl)) rfl ?_)))); clear S; intro a S
 refine lv S (rn_neq (S.tm rfl) rfl) rfl ?_; clear S; intro a S
 refine l_done (then_n (f_cond (S.tm rfl) (fun hb1 => ?_) (fun hb1 => ?_)))
 ·replace h := iteT h hb1
  refine f_seq (f_region (lv S (rn_move (S.tm rfl)) rfl ?_)); clear S; intro a S
  refine lv S (rn_assign rfl) rfl ?_; clear S; intro a S
  refine lv S (rn_assign (S.tm rfl)) rfl ?_; clear S; intro a S
  refine l_done (then_n (wp_ret (then_r ?_)))
  obtain rfl := Option.some.inj h
  exact f_ret2 S Tryz.results40 rfl rfl ⟨_, rfl, (ownV_nil _ _ _)⟩
 ·replace h := iteF h hb1
  refine wp_skip (then_n (f_seq (f_seq (f_region (lv S (rn_ldA Tryz.isAgg102 Tryz.sizeOf102 (off := 0) (o := 0) (part := (GStep.enc p_s)) rfl rfl (S.tm rfl) (S.cellsAt (i := 0) rfl)) rfl ?_))))); clear S; intro a S
  obtain ⟨r2, hr2, h⟩ := bindE h
  refine l_enter S (fun _ => run_call (vs := [.agg (GStep.enc p_s).toArray]) ⟨(S.tm rfl), trivial⟩ Tryz.call78) (record_checkSwum_ok _ p_s _ hr2) rfl ?_; clear S; intro v2 a w3 hv2 hk3 hn2 S
  subst hv2
  refine lv S (rn_assign (S.tm rfl)) rfl ?_; clear S; intro a S
  refine l_done (then_n (f_seq (f_region (lv S (rn_move (S.tm rfl)) rfl ?_)))); clear S; intro a S
  refine lv S (rn_neq (S.tm rfl) rfl) rfl ?_; clear S; intro a S
  refine l_done ?_
  replace S := S.nk [.blk b1 (GStep.enc p_s) 102] [(0, v_p_l), (3, .pointer (some ⟨b1, 0, none⟩)), (7, iV r2), (19, bV (!decide (r2 = 0)))] [true] rfl (subR rfl)
  refine then_n (f_cond (S.tm rfl) (fun hb2 => ?_) (fun hb2 => ?_))
  ·replace h := iteT h hb2
   refine f_seq (f_region (lv S (rn_move (S.tm rfl)) rfl ?_)); clear S; intro a S
   refine lv S (rn_assign rfl) rfl ?_; clear S; intro a S
   refine lv S (rn_assign (S.tm rfl)) rfl ?_; clear S; intro a S
   refine l_done (then_n (wp_ret (then_r ?_)))
   obtain rfl := Option.some.inj h
   exact f_ret2 S Tryz.results40 rfl rfl ⟨_, rfl, (ownV_nil _ _ _)⟩
  ·replace h := iteF h hb2
   refine wp_skip (then_n (f_seq (f_region (lv S (rn_assign rfl) rfl ?_)))); clear S; intro a S
   replace S := S.nil 9 1
   refine l_done (then_n (f_seq (f_seq (f_region (lv S (rn_move (S.tm rfl)) rfl ?_))))); clear S; intro a S
   refine lv S (rn_lenT sl_100 (S.tm rfl) (slc_lenD hs_p_l hr_p_l)) rfl ?_; clear S; intro a S
   refine lv S (rn_move rfl) rfl ?_; clear S; intro a S
   refine l_done (then_n ?_)
   replace S := S.nk [.own (.slice none 0 0) 9 1 ([] : List ByteArray).length (([] : List ByteArray).flatMap eStr), .blk b1 (GStep.enc p_s) 102] [(3, .pointer (some ⟨b1, 0, none⟩)), (8, (.slice none 0 0)), (21, v_p_l), (22, iV (p_l.length : Int)), (23, iV 0)] [true, true] rfl (subR rfl)
   obtain ⟨j1, hj1, h⟩ := joinE h
   refine f_join (fun a w' => ∃ x1 : List ByteArray, ∃ v3 : Value, j1 x1 = some r ∧ Sx w [] nov [.own v3 9 1 x1.length (x1.flatMap eStr), .blk b1 (GStep.enc p_s) 102] [(8, v3)] 37 a w') ?_ ?_
   ·refine wp_block (f_loop (fun (ys1 : List GKind) a w' => ∃ i1 : Nat, ∃ x1 : List ByteArray, ∃ v3 : Value, (∃ dn, p_l = dn ++ ys1 ∧ dn.length = i1) ∧ record_For_l1 p_s j1 ys1 i1 x1 = some r ∧ Sx w [] nov [.own v3 9 1 x1.length (x1.flatMap eStr), .blk b1 (GStep.enc p_s) 102] [(3, .pointer (some ⟨b1, 0, none⟩)), (8, v3), (21, v_p_l), (22, iV (p_l.length : Int)), (23, iV (i1 : Int))] 37 a w') List.length p_l ⟨0, ([] : List ByteArray), (.slice none 0 0), ⟨[], rfl, rfl⟩, h, S.nf [true, true] rfl (subR rfl)⟩ ?_)
    clear S h; rintro ys1 a w4 ⟨i1, x1, v3, ⟨dn, hd1, hi1⟩, h, S⟩
    cases ys1 with
    | nil =>
     rw [record_For_l1.eq_1] at h
     refine f_seq (f_region (lv S (rn_lss (S.tm rfl) (S.tm rfl)) rfl ?_)); clear S; intro a S
     refine l_done ?_
     replace S := S.nk [.own v3 9 1 x1.length (x1.flatMap eStr), .blk b1 (GStep.enc p_s) 102] [(3, .pointer (some ⟨b1, 0, none⟩)), (8, v3), (21, v_p_l), (22, iV (p_l.length : Int)), (23, iV (i1 : Int)), (24, bV (decide ((i1 : Int) < (p_l.length : Int))))] [true, true] rfl (subR rfl)
     refine then_n (f_seq (wp_cond_false ((S.tm rfl).trans (congrArg Value.bool (rng_nil hd1 hi1))) (wp_exit (then_x (then_x (x_same ?_))))))
     refine then_n ?_
     exact ⟨x1, v3, h, S.nf [true, true] rfl ⟨rfl, trivial⟩⟩
    | cons y1 ys1 =>
     rw [record_For_l1.eq_2] at h
     refine f_seq (f_region (lv S (rn_lss (S.tm rfl) (S.tm rfl)) rfl ?_)); clear S; intro a S
     refine l_done ?_
     replace S := S.nk [.own v3 9 1 x1.length (x1.flatMap eStr), .blk b1 (GStep.enc p_s) 102] [(3, .pointer (some ⟨b1, 0, none⟩)), (8, v3), (21, v_p_l), (22, iV (p_l.length : Int)), (23, iV (i1 : Int)), (24, bV (decide ((i1 : Int) < (p_l.length : Int))))] [true, true] rfl (subR rfl)
     refine then_n (f_seq (wp_cond_true ((S.tm rfl).trans (congrArg Value.bool (rng_cons hd1 hi1))) (wp_skip (then_n (f_seq ?_)))))
     obtain ⟨j2, hj2, h⟩ := joinE h
     refine f_join (fun a w' => ∃ x2 : List ByteArray, ∃ v4 : Value, j2 x2 = some r ∧ Sx w [] nov [.own v4 9 1 x2.length (x2.flatMap eStr), .blk b1 (GStep.enc p_s) 102] [(3, .pointer (some ⟨b1, 0, none⟩)), (8, v4), (21, v_p_l), (22, iV (p_l.length : Int)), (23, iV (i1 : Int))] 37 a w') ?_ ?_
     ·refine wp_block (f_seq (f_region ?_))
      obtain ⟨r3, hg1, hl1⟩ := All2.at hr_p_l (get_mid hd1 hi1)
      obtain ⟨u1, rfl, hs1⟩ := hl1
      obtain ⟨b2, o1, hm1, hr3⟩ := rn_indexT (a := a) (x := .tmp 21) (y := .tmp 23) (ty := 0) sl_100 hs_p_l hg1 rfl (S.tm rfl) (S.tm rfl)
      refine lv S (hr3 _) rfl ?_; clear S; intro a S
      clear hr3
      refine lv S (rn_ldA Tryz.isAgg99 Tryz.sizeOf99 (off := o1) (o := 0) (part := [sV y1.Key, sV y1.Race, u1.val, iV y1.Young, iV y1.Old]) rfl rfl (S.tm rfl) (hm1.at S.emb0)) rfl ?_; clear S; intro a S
      refine l_alloc S Tryz.zeroValue99 (cs := [sV k_empty, sV k_empty, .slice none 0 0, iV 0, iV 0]) rfl rfl ?_; clear S; intro a w7 b3 hz2 hk4 S
      refine l_store S (S.tm rfl) (S.tm rfl) (i := 0) (off := 0) rfl Tryz.sizeOf99 (vs := [sV y1.Key, sV y1.Race, u1.val, iV y1.Young, iV y1.Old]) rfl rfl rfl (all1 rfl (all1 rfl (all1 (SlcLen.one (slc_len hs1)) (all1 rfl (all1 rfl rfl))))) ?_; clear S; intro w8 hk5 S
      refine l_done (then_n (f_seq (f_region (lv S (rn_ldA Tryz.isAgg99 Tryz.sizeOf99 (off := 0) (o := 0) (part := [sV y1.Key, sV y1.Race, u1.val, iV y1.Young, iV y1.Old]) rfl rfl (S.tm rfl) (S.cellsAt (i := 0) rfl)) rfl ?_)))); clear S; intro a S
      refine lv S (rn_ldA Tryz.isAgg102 Tryz.sizeOf102 (off := 0) (o := 0) (part := (GStep.enc p_s)) rfl rfl (S.tm rfl) (S.cellsAt (i := 2) rfl)) rfl ?_; clear S; intro a S
      refine l_enter S (fun _ => run_call (vs := [.agg (R99.enc (R99.mk y1.Key y1.Race u1 y1.Young y1.Old)).toArray, .agg (GStep.enc p_s).toArray]) ⟨(S.tm rfl), (S.tm rfl), trivial⟩ Tryz.call79) (record_isFor_ok _ y1 (R99.mk y1.Key y1.Race u1 y1.Young y1.Old) ⟨u1, rfl, (hs1.mono (S.le_arg nil_sub))⟩ p_s _ rfl) rfl ?_; clear S; intro v5 a w9 hv3 hk6 hn3 S
      subst hv3
      refine l_done (then_n ?_)
      obtain ⟨j3, hj3, h⟩ := joinE h
      refine f_join (fun a w' => ∃ x3 : List ByteArray, ∃ v6 : Value, j3 x3 = some r ∧ Sx w [] nov [.own v6 9 1 x3.length (x3.flatMap eStr), .blk b1 (GStep.enc p_s) 102] [(3, .pointer (some ⟨b1, 0, none⟩)), (8, v6), (21, v_p_l), (22, iV (p_l.length : Int)), (23, iV (i1 : Int))] 37 a w') ?_ ?_
      ·refine f_cond (S.tm rfl) (fun hb3 => ?_) (fun hb3 => ?_)
       ·replace h := iteT h hb3
        refine f_region (lv S (rn_move (S.tm rfl)) rfl ?_); clear S; intro a S
        refine lv S (rn_fld fa_99_0 (S.tm rfl)) rfl ?_; clear S; intro a S
        refine lv S (rn_load Tryz.isAgg9 (S.tm rfl) (S.cell (i := 0) rfl rfl)) rfl ?_; clear S; intro a S
        refine l_buildSlice S Tryz.underlying61 Tryz.sizeOf9 Tryz.zeroValue9 rfl rfl (pv := [(0, sV y1.Key)]) ⟨rfl, (S.tm rfl), trivial⟩ (cs := [sV y1.Key]) (by kernel_rfl) rfl ?_; clear S; intro a w11 b4 hz3 hk7 S
        obtain ⟨hc1, h⟩ := chkE h
        refine l_appendT sl_61 enc_str S (S.tm rfl) (i := 2) rfl (S.tm rfl) (j := 0) rfl (ys := [y1.Key]) rfl rfl rfl rfl (by have := room_lt hc1; omega) rfl ?_; clear S; intro v7 a w12 hk8 S
        refine lv S (rn_assign (S.tm rfl)) rfl ?_; clear S; intro a S
        refine l_done ?_
        replace S := S.nk [.own v7 9 1 (x1 ++ [y1.Key]).length ((x1 ++ [y1.Key]).flatMap eStr), .blk b1 (GStep.enc p_s) 102] [(3, .pointer (some ⟨b1, 0, none⟩)), (8, v7), (21, v_p_l), (22, iV (p_l.length : Int)), (23, iV (i1 : Int))] [false, false, true, true] rfl (subR rfl)
        refine then_n ?_
        exact ⟨(x1 ++ [y1.Key]), v7, h, S.nf [true, true] rfl (subR rfl)⟩
       ·replace h := iteF h hb3
        refine wp_skip (then_n ?_)
        exact ⟨x1, v3, h, S.nf [false, true, true] rfl (subR rfl)⟩
      clear S h; rintro a w10 ⟨x3, v6, h, S⟩; rw [hj3] at h; clear hj3 j3
      refine blk_n (then_n ?_)
      exact ⟨x3, v6, h, S.nf [true, true] rfl (subR rfl)⟩
     clear S h; rintro a w6 ⟨x2, v4, h, S⟩; rw [hj2] at h; clear hj2 j2
     refine then_n (f_region (lv S (rn_add (S.tm rfl) rfl) rfl ?_)); clear S; intro a S
     refine lv S (rn_move (S.tm rfl)) rfl ?_; clear S; intro a S
     refine l_done (then_n ?_)
     exact ⟨ys1, ⟨i1 + 1, x2, v4, ⟨_, (hd1).trans (List.append_cons _ _ _), by simp [hi1]⟩, h, S.nf [true, true] rfl ⟨rfl, rfl, rfl, rfl, (congrArg (fun z => some (Value.int .i64 z)) (rng_next hd1 hi1 (slc_maxD hs_p_l hr_p_l))), trivial⟩⟩, Nat.lt_succ_self _⟩
   clear S h; rintro a w5 ⟨x1, v3, h, S⟩; rw [hj1] at h; clear hj1 j1
   refine then_n (f_seq (f_region (lv S (rn_move (S.tm rfl)) rfl ?_))); clear S; intro a S
   refine lv S (rn_assign (S.tm rfl)) rfl ?_; clear S; intro a S
   refine lv S (rn_assign rfl) rfl ?_; clear S; intro a S
   refine l_done (then_n (wp_ret ?_))
   obtain rfl := Option.some.inj h
   exact f_ret2 S Tryz.results40 rfl rfl ⟨_, rfl, (own_retT S (i := 0) rfl rfl)⟩
theorem tumbkeep2_ready_ok (w : World) (r : Bool) (h : tumbkeep2_ready = some r) :
    Calls Tryz.prog 13 [].toArray w (Ret w [] fun _ v _ => v = bV r) := by
 refine f_enter [] [] Tryz.func13 rfl Tryz.ntmps13 rfl (by simp) (by simp [fps]) (by simp [fps]) fun a S => ?_
 unfold tumbkeep2_ready at h
 replace S := S.nk [] [] [] rfl trivial
 refine f_seq (f_region (lv S (rn_assign rfl) rfl ?_)); clear S; intro a S
 refine l_done (then_n (f_seq (f_region (lv S (rn_bld bt_87 (pv := [(0, iV 2024), (1, iV 3), (2, iV 1)]) ⟨rfl, rfl, rfl, rfl, rfl, rfl, trivial⟩ (cs := [iV 2024, iV 3, iV 1]) (by kernel_rfl)) rfl ?_)))); clear S; intro a S
 obtain ⟨r1, hr1, h⟩ := bindE h
 refine l_enter S (fun _ => run_call (vs := [.agg (GDate.enc (GDate.mk 2024 3 1)).toArray]) ⟨(S.tm rfl), trivial⟩ Tryz.call37) (swimmer_DayOf_ok _ (GDate.mk 2024 3 1) _ hr1) rfl ?_; clear S; intro v1 a w1 hv1 hk1 hn1 S
 subst hv1
 refine lv S (rn_move (S.tm rfl)) rfl ?_; clear S; intro a S
 refine lv S (rn_extract (S.tm rfl) rfl) rfl ?_; clear S; intro a S
 refine lv S (rn_extract (S.tm rfl) rfl) rfl ?_; clear S; intro a S
 refine lv S (rn_assign (S.tm rfl)) rfl ?_; clear S; intro a S
 refine lv S (rn_assign (S.tm rfl)) rfl ?_; clear S; intro a S
 refine l_done (then_n (f_seq (f_region (lv S (rn_bld bt_90 (pv := [(0, sV k_a), (1, iV 2), (2, iV 10), (3, iV 5)]) ⟨rfl, rfl, rfl, rfl, rfl, rfl, rfl, rfl, trivial⟩ (cs := [sV k_a, iV 2, iV 10, iV 5, iV 0]) (by kernel_rfl)) rfl ?_)))); clear S; intro a S
 refine l_buildSlice S Tryz.underlying91 Tryz.sizeOf90 Tryz.zeroValue90 rfl rfl (pv := [(0, .agg #[sV k_a, iV 2, iV 10, iV 5, iV 0])]) ⟨rfl, (S.tm rfl), trivial⟩ (cs := [sV k_a, iV 2, iV 10, iV 5, iV 0]) (by kernel_rfl) rfl ?_; clear S; intro a w2 b1 hz1 hk2 S
 obtain ⟨r2, hr2, h⟩ := bindE h
 refine l_enter S (fun _ => run_call (vs := [.slice (some ⟨b1, 0, none⟩) 1 1, iV 0]) ⟨(S.tm rfl), rfl, trivial⟩ Tryz.call38) (session_Ends_ok _ (.slice (some ⟨b1, 0, none⟩) 1 1) [(GItem.mk k_a 2 10 5 0)] (lit_slcT GItem.enc_ok S (i := 0) rfl rfl rfl rfl ((ne_nil (e' := .blk b1 [sV k_a, iV 2, iV 10, iV 5, iV 0] 90)) _ rfl)) 0 _ hr2) rfl ?_; clear S; intro v2 a w3 hv2 hk3 hn2 S
 subst hv2
 refine lv S (rn_move (S.tm rfl)) rfl ?_; clear S; intro a S
 refine lv S (rn_extract (S.tm rfl) rfl) rfl ?_; clear S; intro a S
 refine lv S (rn_extract (S.tm rfl) rfl) rfl ?_; clear S; intro a S
 refine lv S (rn_assign (S.tm rfl)) rfl ?_; clear S; intro a S
 refine lv S (rn_assign (S.tm rfl)) rfl ?_; clear S; intro a S
 refine l_done ?_
 replace S := S.nk [] [(1, iV r1.1), (2, iV r1.2), (3, iV r2.1), (4, iV r2.2)] [false] rfl (subR rfl)
 refine then_n (f_seq (f_region (lv S (rn_bld bt_94 (pv := [(0, sV k_r), (1, iV 3000)]) ⟨rfl, rfl, rfl, rfl, trivial⟩ (cs := [sV k_r, iV 3000]) (by kernel_rfl)) rfl ?_))); clear S; intro a S
 refine l_buildSlice S Tryz.underlying95 Tryz.sizeOf94 Tryz.zeroValue94 rfl rfl (pv := [(0, .agg #[sV k_r, iV 3000])]) ⟨rfl, (S.tm rfl), trivial⟩ (cs := [sV k_r, iV 3000]) (by kernel_rfl) rfl ?_; clear S; intro a w4 b2 hz2 hk4 S
 obtain ⟨r3, hr3, h⟩ := bindE h
 refine l_enter S (fun _ => run_call (vs := [.slice (some ⟨b2, 0, none⟩) 1 1, sV k_r, iV 6000]) ⟨(S.tm rfl), rfl, rfl, trivial⟩ Tryz.call39) (points_ByTime_ok _ (.slice (some ⟨b2, 0, none⟩) 1 1) [(GBase.mk k_r 3000)] (lit_slcT GBase.enc_ok S (i := 0) rfl rfl rfl rfl ((ne_nil (e' := .blk b2 [sV k_r, iV 3000] 94)) _ rfl)) k_r 6000 _ hr3) rfl ?_; clear S; intro v3 a w5 hv3 hk5 hn3 S
 subst hv3
 refine lv S (rn_move (S.tm rfl)) rfl ?_; clear S; intro a S
 refine lv S (rn_extract (S.tm rfl) rfl) rfl ?_; clear S; intro a S
 refine lv S (rn_extract (S.tm rfl) rfl) rfl ?_; clear S; intro a S
 refine lv S (rn_assign (S.tm rfl)) rfl ?_; clear S; intro a S
 refine lv S (rn_assign (S.tm rfl)) rfl ?_; clear S; intro a S
 refine l_done (then_n (f_seq (f_region (lv S (rn_bld bt_99 (pv := [(0, sV k_k), (1, sV k_r), (4, iV 9)]) ⟨rfl, rfl, rfl, rfl, rfl, rfl, trivial⟩ (cs := [sV k_k, sV k_r, .slice none 0 0, iV 0, iV 9]) (by kernel_rfl)) rfl ?_)))); clear S; intro a S
 refine l_buildSlice S Tryz.underlying100 Tryz.sizeOf99 Tryz.zeroValue99 rfl rfl (pv := [(0, .agg #[sV k_k, sV k_r, .slice none 0 0, iV 0, iV 9])]) ⟨rfl, (S.tm rfl), trivial⟩ (cs := [sV k_k, sV k_r, .slice none 0 0, iV 0, iV 9]) (by kernel_rfl) rfl ?_; clear S; intro a w6 b3 hz3 hk6 S
 refine lv S (rn_bld bt_102 (pv := [(1, iV 1), (2, sV k_i), (3, sV k_a), (5, sV k_r), (7, iV 5)]) ⟨rfl, rfl, rfl, rfl, rfl, rfl, rfl, rfl, rfl, rfl, trivial⟩ (cs := [iV 0, iV 1, sV k_i, sV k_a, sV k_empty, sV k_r, iV 0, iV 5]) (by kernel_rfl)) rfl ?_; clear S; intro a S
 have hr4 : All2 (rel_99 nov) ([(GKind.mk k_k k_r ([] : List ByteArray) 0 9)] : List GKind) ([(R99.mk k_k k_r ⟨.slice none 0 0, rfl⟩ 0 9)] : List R99) := (All2.cons ⟨⟨.slice none 0 0, rfl⟩, rfl, (slc_nil _ _)⟩ All2.nil)
 replace S := S.litOwn (i := 0) (xs := ([(R99.mk k_k k_r ⟨.slice none 0 0, rfl⟩ 0 9)] : List R99)) rfl R99.enc_ok rfl rfl rfl
 replace S := S.nk [.own (.slice (some ⟨b3, 0, none⟩) 1 1) 99 5 ([(R99.mk k_k k_r ⟨.slice none 0 0, rfl⟩ 0 9)] : List R99).length (([(R99.mk k_k k_r ⟨.slice none 0 0, rfl⟩ 0 9)] : List R99).flatMap R99.enc), .blk b2 [sV k_r, iV 3000] 94] [(1, iV r1.1), (2, iV r1.2), (3, iV r2.1), (4, iV r2.2), (5, iV r3.1), (6, iV r3.2), (20, .tuple #[iV r3.1, iV r3.2]), (21, .agg #[sV k_r, iV 3000]), (22, .slice (some ⟨b2, 0, none⟩) 1 1), (23, .tuple #[iV r3.1, iV r3.2]), (24, iV r3.1), (25, iV r3.2), (27, .agg #[sV k_k, sV k_r, .slice none 0 0, iV 0, iV 9]), (28, (.slice (some ⟨b3, 0, none⟩) 1 1)), (29, .agg (GStep.enc (GStep.mk 0 1 k_i k_a k_empty k_r 0 5)).toArray)] [] rfl (subR rfl)
 obtain ⟨r4, hr5, h⟩ := bindE h
 have hz4 := S.keep.size
 refine l_enter S (fun _ => run_call (vs := [(.slice (some ⟨b3, 0, none⟩) 1 1), .agg (GStep.enc (GStep.mk 0 1 k_i k_a k_empty k_r 0 5)).toArray]) ⟨(S.tm rfl), (S.tm rfl), trivial⟩ Tryz.call40) (record_For_ok _ (.slice (some ⟨b3, 0, none⟩) 1 1) ([(GKind.mk k_k k_r ([] : List ByteArray) 0 9)] : List GKind) ([(R99.mk k_k k_r ⟨.slice none 0 0, rfl⟩ 0 9)] : List R99) (own_slcT R99.enc_ok S (i := 0) rfl (ne_nil (e' := .own (.slice (some ⟨b3, 0, none⟩) 1 1) 99 5 ([(R99.mk k_k k_r ⟨.slice none 0 0, rfl⟩ 0 9)] : List R99).length (([(R99.mk k_k k_r ⟨.slice none 0 0, rfl⟩ 0 9)] : List R99).flatMap R99.enc)))) (rels_99 (S.le_new nil_sub) hr4) (GStep.mk 0 1 k_i k_a k_empty k_r 0 5) _ hr5) rfl ?_; clear S; intro v4 a w7 hv4 hk7 hn4 S
 obtain ⟨u1, rfl, ho1⟩ := hv4
 obtain ⟨φ1, hl1, hm1, S⟩ := S.see' hn4 hz4
 have hs1 := ho1.mono hm1
 refine lv S (rn_move (S.tm rfl)) rfl ?_; clear S; intro a S
 refine lv S (rn_extract (S.tm rfl) rfl) rfl ?_; clear S; intro a S
 refine lv S (rn_extract (S.tm rfl) rfl) rfl ?_; clear S; intro a S
 refine lv S (rn_assign (S.tm rfl)) rfl ?_; clear S; intro a S
 refine lv S (rn_assign (S.tm rfl)) rfl ?_; clear S; intro a S
 refine l_done ?_
 replace S := S.nk [] [(1, iV r1.1), (2, iV r1.2), (3, iV r2.1), (4, iV r2.2), (5, iV r3.1), (6, iV r3.2), (7, u1), (8, iV r4.2)] [false, false] rfl (subR rfl)
 refine then_n (f_seq (f_region (lv S (rn_move (S.tm rfl)) rfl ?_))); clear S; intro a S
 iterate 3 (refine lv S (rn_move (S.tm rfl)) rfl ?_; clear S; intro a S)
 refine l_buildSlice S Tryz.underlying81 Tryz.sizeOf33 Tryz.zeroValue33 rfl rfl (pv := [(0, iV r1.2), (1, iV r2.2), (2, iV r3.2), (3, iV r4.2)]) ⟨rfl, (S.tm rfl), rfl, (S.tm rfl), rfl, (S.tm rfl), rfl, (S.tm rfl), trivial⟩ (cs := [iV r1.2, iV r2.2, iV r3.2, iV r4.2]) (by kernel_rfl) rfl ?_; clear S; intro a w8 b4 hz5 hk8 S
 refine l_enter S (fun _ => run_call (vs := [.slice (some ⟨b4, 0, none⟩) 4 4]) ⟨(S.tm rfl), trivial⟩ Tryz.call10) (tumbkeep2_errs_ok _ (.slice (some ⟨b4, 0, none⟩) 4 4) [r1.2, r2.2, r3.2, r4.2] (lit_slcT enc_int S (i := 0) rfl rfl rfl rfl ((ne_nil (e' := .blk b4 [iV r1.2, iV r2.2, iV r3.2, iV r4.2] 33)) _ rfl)) _ rfl) rfl ?_; clear S; intro v5 a w9 hv5 hk9 hn5 S
 subst hv5
 refine lv S (rn_eql (S.tm rfl) rfl) rfl ?_; clear S; intro a S
 refine lv S (rn_move (S.tm rfl)) rfl ?_; clear S; intro a S
 refine f_cutm 3 (fun a w' => Keep [] w9 w' ∧ Sx w [] φ1 [.blk b4 [iV r1.2, iV r2.2, iV r3.2, iV r4.2] 33] [(3, iV r2.1), (5, iV r3.1), (7, u1), (43, bV ((decide ((tumbkeep2_errs [r1.2, r2.2, r3.2, r4.2]) = 0)) && (decide (r1.1 = 60))))] 57 a w') ?_ ?_
 ·rcases Bool.eq_false_or_eq_true (decide ((tumbkeep2_errs [r1.2, r2.2, r3.2, r4.2]) = 0)) with hb1 | hb1
  ·refine l_want S rfl rfl rfl hb1 (lv S (rn_move (S.tm rfl)) rfl ?_); clear S; intro a S
   refine l_want S rfl rfl rfl hb1 (lv S (rn_eql (S.tm rfl) rfl) rfl ?_); clear S; intro a S
   refine lv S (rn_and_t hb1 (S.tm rfl) (S.tm rfl)) rfl ?_; clear S; intro a S
   refine l_done (then_n ?_)
   exact ⟨Keep.refl _ _, S.nf [true] rfl (subR rfl)⟩
  ·refine l_skip S rfl rfl rfl (neq_f hb1) rfl ?_ rfl; clear S; intro a S
   refine l_skip S rfl rfl rfl (neq_f hb1) rfl ?_ rfl; clear S; intro a S
   refine lv S (rn_and_f (decide (r1.1 = 60)) hb1 (S.tm rfl) rfl) rfl ?_; clear S; intro a S
   refine l_done (then_n ?_)
   exact ⟨Keep.refl _ _, S.nf [true] rfl (subR rfl)⟩
 clear S; rintro a w10 ⟨hk10, S⟩
 refine lv S (rn_move (S.tm rfl)) rfl ?_; clear S; intro a S
 refine f_cutm 3 (fun a w' => Keep [] w10 w' ∧ Sx w [] φ1 [.blk b4 [iV r1.2, iV r2.2, iV r3.2, iV r4.2] 33] [(5, iV r3.1), (7, u1), (47, bV (((decide ((tumbkeep2_errs [r1.2, r2.2, r3.2, r4.2]) = 0)) && (decide (r1.1 = 60))) && (decide (r2.1 = 25))))] 57 a w') ?_ ?_
 ·rcases Bool.eq_false_or_eq_true ((decide ((tumbkeep2_errs [r1.2, r2.2, r3.2, r4.2]) = 0)) && (decide (r1.1 = 60))) with hb2 | hb2
  ·refine l_want S rfl rfl rfl hb2 (lv S (rn_move (S.tm rfl)) rfl ?_); clear S; intro a S
   refine l_want S rfl rfl rfl hb2 (lv S (rn_eql (S.tm rfl) rfl) rfl ?_); clear S; intro a S
   refine lv S (rn_and_t hb2 (S.tm rfl) (S.tm rfl)) rfl ?_; clear S; intro a S
   refine l_done (then_n ?_)
   exact ⟨Keep.refl _ _, S.nf [true] rfl (subR rfl)⟩
  ·refine l_skip S rfl rfl rfl (neq_f hb2) rfl ?_ rfl; clear S; intro a S
   refine l_skip S rfl rfl rfl (neq_f hb2) rfl ?_ rfl; clear S; intro a S
   refine lv S (rn_and_f (decide (r2.1 = 25)) hb2 (S.tm rfl) rfl) rfl ?_; clear S; intro a S
   refine l_done (then_n ?_)
   exact ⟨Keep.refl _ _, S.nf [true] rfl (subR rfl)⟩
 clear S; rintro a w11 ⟨hk11, S⟩
 refine lv S (rn_move (S.tm rfl)) rfl ?_; clear S; intro a S
 refine f_cutm 3 (fun a w' => Keep [] w11 w' ∧ Sx w [] φ1 [.blk b4 [iV r1.2, iV r2.2, iV r3.2, iV r4.2] 33] [(7, u1), (51, bV ((((decide ((tumbkeep2_errs [r1.2, r2.2, r3.2, r4.2]) = 0)) && (decide (r1.1 = 60))) && (decide (r2.1 = 25))) && (decide (r3.1 = 125))))] 57 a w') ?_ ?_
 ·rcases Bool.eq_false_or_eq_true (((decide ((tumbkeep2_errs [r1.2, r2.2, r3.2, r4.2]) = 0)) && (decide (r1.1 = 60))) && (decide (r2.1 = 25))) with hb3 | hb3
  ·refine l_want S rfl rfl rfl hb3 (lv S (rn_move (S.tm rfl)) rfl ?_); clear S; intro a S
   refine l_want S rfl rfl rfl hb3 (lv S (rn_eql (S.tm rfl) rfl) rfl ?_); clear S; intro a S
   refine lv S (rn_and_t hb3 (S.tm rfl) (S.tm rfl)) rfl ?_; clear S; intro a S
   refine l_done (then_n ?_)
   exact ⟨Keep.refl _ _, S.nf [true] rfl (subR rfl)⟩
  ·refine l_skip S rfl rfl rfl (neq_f hb3) rfl ?_ rfl; clear S; intro a S
   refine l_skip S rfl rfl rfl (neq_f hb3) rfl ?_ rfl; clear S; intro a S
   refine lv S (rn_and_f (decide (r3.1 = 125)) hb3 (S.tm rfl) rfl) rfl ?_; clear S; intro a S
   refine l_done (then_n ?_)
   exact ⟨Keep.refl _ _, S.nf [true] rfl (subR rfl)⟩
 clear S; rintro a w12 ⟨hk12, S⟩
 refine lv S (rn_move (S.tm rfl)) rfl ?_; clear S; intro a S
 refine f_cutm 4 (fun a w' => Keep [] w12 w' ∧ Sx w [] φ1 [.blk b4 [iV r1.2, iV r2.2, iV r3.2, iV r4.2] 33] [(56, bV (((((decide ((tumbkeep2_errs [r1.2, r2.2, r3.2, r4.2]) = 0)) && (decide (r1.1 = 60))) && (decide (r2.1 = 25))) && (decide (r3.1 = 125))) && (decide ((r4.1.length : Int) = 1))))] 57 a w') ?_ ?_
 ·rcases Bool.eq_false_or_eq_true ((((decide ((tumbkeep2_errs [r1.2, r2.2, r3.2, r4.2]) = 0)) && (decide (r1.1 = 60))) && (decide (r2.1 = 25))) && (decide (r3.1 = 125))) with hb4 | hb4
  ·refine l_want S rfl rfl rfl hb4 (lv S (rn_move (S.tm rfl)) rfl ?_); clear S; intro a S
   refine l_want S rfl rfl rfl hb4 (lv S (rn_lenT sl_61 (S.tm rfl) (slc_len (ownV_slcT enc_str hs1))) rfl ?_); clear S; intro a S
   refine l_want S rfl rfl rfl hb4 (lv S (rn_eql (S.tm rfl) rfl) rfl ?_); clear S; intro a S
   refine lv S (rn_and_t hb4 (S.tm rfl) (S.tm rfl)) rfl ?_; clear S; intro a S
   refine l_done (then_n ?_)
   exact ⟨Keep.refl _ _, S.nf [true] rfl ⟨rfl, trivial⟩⟩
  ·iterate 3 (refine l_skip S rfl rfl rfl (neq_f hb4) rfl ?_ rfl; clear S; intro a S)
   refine lv S (rn_and_f (decide ((r4.1.length : Int) = 1)) hb4 (S.tm rfl) rfl) rfl ?_; clear S; intro a S
   refine l_done (then_n ?_)
   exact ⟨Keep.refl _ _, S.nf [true] rfl ⟨rfl, trivial⟩⟩
 clear S; rintro a w13 ⟨hk13, S⟩
 refine lv S (rn_assign (S.tm rfl)) rfl ?_; clear S; intro a S
 refine l_done (then_n (wp_ret ?_))
 obtain rfl := Option.some.inj h
 exact f_ret S Tryz.results13 rfl rfl
end Go.Proofs.YtnmojfimananjaaGreatDoor
