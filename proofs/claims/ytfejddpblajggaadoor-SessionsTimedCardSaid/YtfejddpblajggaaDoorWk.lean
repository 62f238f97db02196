/- Each Go function computes its plain twin, by program. -/
import Derived.Test.YtfejddpblajggaaDoorWk1
namespace Go.Proofs.YtfejddpblajggaaDoor
open Go
theorem tumbref2_WindowFault_ok (w : World) (p_w : GWindow) (r : Int) (h : tumbref2_WindowFault p_w = r) :
    Calls Tryd.prog 14 [.agg (GWindow.enc p_w).toArray].toArray w (Ret w [] fun τ v w' => v = .int .i64 r) := by
  refine f_enter [] [] Tryd.func14 rfl Tryd.ntmps14 rfl (by simp) (by simp [fps]) (by simp [fps]) fun a S => ?_
  unfold tumbref2_WindowFault at h
  replace S := S.nf (L' := []) (K' := [(0, .agg (GWindow.enc p_w).toArray)]) [] rfl ⟨rfl, trivial⟩
  refine f_seq ?_
  refine f_region ?_
  refine l_box S (S.tm rfl) (cs := [.int .i64 p_w.From, .int .i64 p_w.To]) rfl rfl ?_; clear S; intro a w1 b1 hz1 hk1 S
  refine lv S (rn_assign rfl) rfl ?_; clear S; intro a S
  refine l_done ?_
  replace S := S.nf (L' := [.blk b1 [.int .i64 p_w.From, .int .i64 p_w.To] 31]) (K' := [(1, .pointer (some ⟨b1, 0, none⟩))]) [true] rfl ⟨rfl, trivial⟩
  refine then_n ?_
  refine f_seq ?_
  refine f_seq ?_
  refine f_region ?_
  refine lv S (rn_fld fa_31_0 (S.tm rfl)) rfl ?_; clear S; intro a S
  refine lv S (rn_load Tryd.isAgg3 (S.tm rfl) (S.cell (i := 0) rfl rfl)) rfl ?_; clear S; intro a S
  refine lv S (rn_fld fa_31_1 (S.tm rfl)) rfl ?_; clear S; intro a S
  refine lv S (rn_load Tryd.isAgg3 (S.tm rfl) (S.cell (i := 0) rfl rfl)) rfl ?_; clear S; intro a S
  refine l_enter S (fun _ => run_call (vs := [.int .i64 p_w.From, .int .i64 0, .int .i64 p_w.To]) ⟨(S.tm rfl), rfl, (S.tm rfl), trivial⟩ Tryd.call35) (tumbref2_in_ok _ p_w.From 0 p_w.To _ rfl) rfl ?_; clear S; intro v1 a w2 hv1 hk2 hn1 S
  subst hv1
  refine lv S (rn_not (S.tm rfl)) rfl ?_; clear S; intro a S
  refine lv S (rn_move (S.tm rfl)) rfl ?_; clear S; intro a S
  refine f_cutm 4 (fun a w' => Keep [] w2 w' ∧ Sx w [] nov [.blk b1 [.int .i64 p_w.From, .int .i64 p_w.To] 31] [(13, .bool ((!(tumbref2_in p_w.From 0 p_w.To)) || (decide (345686400000 < p_w.To))))] 14 a w') ?_ ?_
  · rcases Bool.eq_false_or_eq_true (!(tumbref2_in p_w.From 0 p_w.To)) with hb1 | hb1
    · refine l_skip S rfl rfl rfl (by rw [hb1]; rfl) rfl ?_ rfl; clear S; intro a S
      refine l_skip S rfl rfl rfl (by rw [hb1]; rfl) rfl ?_ rfl; clear S; intro a S
      refine l_skip S rfl rfl rfl (by rw [hb1]; rfl) rfl ?_ rfl; clear S; intro a S
      refine lv S (rn_or_t (decide (345686400000 < p_w.To)) hb1 (S.tm rfl) rfl) rfl ?_; clear S; intro a S
      refine l_done ?_
      refine then_n ?_
      exact ⟨Keep.refl _ _, S.nf [true] rfl ⟨rfl, trivial⟩⟩
    · refine l_want S rfl rfl rfl hb1 ?_
      refine lv S (rn_fld fa_31_1 (S.tm rfl)) rfl ?_; clear S; intro a S
      refine l_want S rfl rfl rfl hb1 ?_
      refine lv S (rn_load Tryd.isAgg3 (S.tm rfl) (S.cell (i := 0) rfl rfl)) rfl ?_; clear S; intro a S
      refine l_want S rfl rfl rfl hb1 ?_
      refine lv S (rn_gtr (S.tm rfl) rfl) rfl ?_; clear S; intro a S
      refine lv S (rn_or_f hb1 (S.tm rfl) (S.tm rfl)) rfl ?_; clear S; intro a S
      refine l_done ?_
      refine then_n ?_
      exact ⟨Keep.refl _ _, S.nf [true] rfl ⟨rfl, trivial⟩⟩
  clear S; rintro a w3 ⟨hk3, S⟩
  refine l_done ?_
  replace S := S.nf (L' := []) (K' := [(13, .bool ((!(tumbref2_in p_w.From 0 p_w.To)) || (decide (345686400000 < p_w.To))))]) [false] rfl ⟨rfl, trivial⟩
  refine then_n ?_
  refine f_cond (S.tm rfl) (fun hb2 => ?_) (fun hb2 => ?_)
  · replace h := iteT h hb2
    refine f_seq ?_
    refine f_region ?_
    refine lv S (rn_assign rfl) rfl ?_; clear S; intro a S
    refine l_done ?_
    replace S := S.nf (L' := []) (K' := [(2, .int .i64 1)]) [] rfl ⟨rfl, trivial⟩
    refine then_n ?_
    refine wp_ret ?_
    refine then_r ?_
    subst h
    exact f_ret S Tryd.results14 rfl rfl
  · replace h := iteF h hb2
    refine wp_skip ?_
    refine then_n ?_
    refine f_seq ?_
    refine f_region ?_
    refine lv S (rn_assign rfl) rfl ?_; clear S; intro a S
    refine l_done ?_
    replace S := S.nf (L' := []) (K' := [(2, .int .i64 0)]) [] rfl ⟨rfl, trivial⟩
    refine then_n ?_
    refine wp_ret ?_
    subst h
    exact f_ret S Tryd.results14 rfl rfl
theorem tumblaw2_errs_ok (w : World) (v_p_l : Value) (p_l : List Int) (hs_p_l : Slc (view w []) 1 v_p_l (p_l.map eInt)) (r : Int) (h : tumblaw2_errs p_l = r) :
    Calls Tryd.prog 13 [v_p_l].toArray w (Ret w [] fun τ v w' => v = .int .i64 r) := by
  refine f_enter [] [] Tryd.func13 rfl Tryd.ntmps13 rfl (by simp) (by simp [fps]) (by simp [fps]) fun a S => ?_
  unfold tumblaw2_errs at h
  replace S := S.nf (L' := []) (K' := [(0, v_p_l)]) [] rfl ⟨rfl, trivial⟩
  refine f_seq ?_
  refine f_region ?_
  refine lv S (rn_assign rfl) rfl ?_; clear S; intro a S
  refine l_done ?_
  replace S := S.nf (L' := []) (K' := [(0, v_p_l)]) [] rfl ⟨rfl, trivial⟩
  refine then_n ?_
  refine f_seq ?_
  refine f_seq ?_
  refine f_region ?_
  refine lv S (rn_move (S.tm rfl)) rfl ?_; clear S; intro a S
  refine lv S (rn_lenT sl_68 (S.tm rfl) (slc_len hs_p_l)) rfl ?_; clear S; intro a S
  refine lv S (rn_move rfl) rfl ?_; clear S; intro a S
  refine l_done ?_
  replace S := S.nf (L' := []) (K' := [(5, v_p_l), (6, .int .i64 (p_l.length : Int)), (7, .int .i64 0)]) [] rfl ⟨rfl, rfl, rfl, trivial⟩
  refine then_n ?_
  obtain ⟨j1, hj1, h⟩ := joinE h
  refine f_join (fun a w' => j1 = r ∧ Sx w [] nov [] [] 15 a w') ?_ ?_
  · refine wp_block ?_
    refine f_loop (fun (ys1 : List Int) a w' => ∃ i1 : Nat, (∃ dn, p_l = dn ++ ys1 ∧ dn.length = i1) ∧ tumblaw2_errs_l1 j1 ys1 i1 = r ∧ Sx w [] nov [] [(5, v_p_l), (6, .int .i64 (p_l.length : Int)), (7, .int .i64 (i1 : Int))] 15 a w') List.length p_l ⟨0, ⟨[], rfl, rfl⟩, h, S.nf [] rfl ⟨rfl, rfl, rfl, trivial⟩⟩ ?_
    clear S h; rintro ys1 a w1 ⟨i1, ⟨dn, hd1, hi1⟩, h, S⟩
    cases ys1 with
    | nil =>
      rw [tumblaw2_errs_l1.eq_1] at h
      refine f_seq ?_
      refine f_region ?_
      refine lv S (rn_lss (S.tm rfl) (S.tm rfl)) rfl ?_; clear S; intro a S
      refine l_done ?_
      replace S := S.nf (L' := []) (K' := [(5, v_p_l), (6, .int .i64 (p_l.length : Int)), (7, .int .i64 (i1 : Int)), (8, .bool (decide ((i1 : Int) < (p_l.length : Int))))]) [] rfl ⟨rfl, rfl, rfl, rfl, trivial⟩
      refine then_n ?_
      refine f_seq ?_
      refine wp_cond_false ((S.tm rfl).trans (congrArg Value.bool (rng_nil hd1 hi1))) ?_
      refine wp_exit ?_
      refine then_x ?_
      refine then_x ?_
      refine x_same ?_
      refine then_n ?_
      exact ⟨h, S.nf [] rfl trivial⟩
    | cons y1 ys1 =>
      rw [tumblaw2_errs_l1.eq_2] at h
      refine f_seq ?_
      refine f_region ?_
      refine lv S (rn_lss (S.tm rfl) (S.tm rfl)) rfl ?_; clear S; intro a S
      refine l_done ?_
      replace S := S.nf (L' := []) (K' := [(5, v_p_l), (6, .int .i64 (p_l.length : Int)), (7, .int .i64 (i1 : Int)), (8, .bool (decide ((i1 : Int) < (p_l.length : Int))))]) [] rfl ⟨rfl, rfl, rfl, rfl, trivial⟩
      refine then_n ?_
      refine f_seq ?_
      refine wp_cond_true ((S.tm rfl).trans (congrArg Value.bool (rng_cons hd1 hi1))) ?_
      refine wp_skip ?_
      refine then_n ?_
      refine f_seq ?_
      refine wp_block ?_
      refine f_seq ?_
      refine f_region ?_
      obtain ⟨b1, o1, hm1, hr1⟩ := rn_indexT (a := a) (x := .tmp 5) (y := .tmp 7) (ty := 0) sl_68 hs_p_l (get_mid hd1 hi1) rfl (S.tm rfl) (S.tm rfl)
      refine lv S (hr1 _) rfl ?_; clear S; intro a S
      clear hr1
      refine lv S (rn_ld Tryd.isAgg33 (off := o1) (o := 0) (S.tm rfl) (hm1.at S.emb0) rfl) rfl ?_; clear S; intro a S
      refine lv S (rn_assign (S.tm rfl)) rfl ?_; clear S; intro a S
      refine l_done ?_
      replace S := S.nf (L' := []) (K' := [(4, .int .i64 y1), (5, v_p_l), (6, .int .i64 (p_l.length : Int)), (7, .int .i64 (i1 : Int))]) [] rfl ⟨rfl, rfl, rfl, rfl, trivial⟩
      refine then_n ?_
      refine f_seq ?_
      refine f_region ?_
      refine lv S (rn_move (S.tm rfl)) rfl ?_; clear S; intro a S
      refine lv S (rn_neq (S.tm rfl) rfl) rfl ?_; clear S; intro a S
      refine l_done ?_
      replace S := S.nf (L' := []) (K' := [(4, .int .i64 y1), (5, v_p_l), (6, .int .i64 (p_l.length : Int)), (7, .int .i64 (i1 : Int)), (12, .bool (!decide (y1 = 0)))]) [] rfl ⟨rfl, rfl, rfl, rfl, rfl, trivial⟩
      refine then_n ?_
      refine f_cond (S.tm rfl) (fun hb1 => ?_) (fun hb1 => ?_)
      · replace h := iteT h hb1
        refine f_seq ?_
        refine f_region ?_
        refine lv S (rn_move (S.tm rfl)) rfl ?_; clear S; intro a S
        refine lv S (rn_assign (S.tm rfl)) rfl ?_; clear S; intro a S
        refine l_done ?_
        replace S := S.nf (L' := []) (K' := [(2, .int .i64 y1)]) [] rfl ⟨rfl, trivial⟩
        refine then_n ?_
        refine wp_ret ?_
        refine blk_r ?_
        refine then_r ?_
        refine then_r ?_
        refine blk_r ?_
        refine then_r ?_
        refine then_r ?_
        subst h
        exact f_ret S Tryd.results13 rfl rfl
      · replace h := iteF h hb1
        refine wp_skip ?_
        refine blk_n ?_
        refine then_n ?_
        refine f_region ?_
        refine lv S (rn_add (S.tm rfl) rfl) rfl ?_; clear S; intro a S
        refine lv S (rn_move (S.tm rfl)) rfl ?_; clear S; intro a S
        refine l_done ?_
        replace S := S.nf (L' := []) (K' := [(5, v_p_l), (6, .int .i64 (p_l.length : Int)), (7, .int .i64 (W ((i1 : Int) + 1)))]) [] rfl ⟨rfl, rfl, rfl, trivial⟩
        refine then_n ?_
        exact ⟨ys1, ⟨i1 + 1, ⟨_, (hd1).trans (List.append_cons _ _ _), by simp [hi1]⟩, h, S.nf [] rfl ⟨rfl, rfl, (congrArg (fun z => some (Value.int .i64 z)) (rng_next hd1 hi1 (slc_max hs_p_l))), trivial⟩⟩, Nat.lt_succ_self _⟩
  clear S h; rintro a w2 ⟨h, S⟩; rw [hj1] at h; clear hj1 j1
  refine then_n ?_
  refine f_seq ?_
  refine f_region ?_
  refine lv S (rn_assign rfl) rfl ?_; clear S; intro a S
  refine l_done ?_
  replace S := S.nf (L' := []) (K' := [(2, .int .i64 0)]) [] rfl ⟨rfl, trivial⟩
  refine then_n ?_
  refine wp_ret ?_
  subst h
  exact f_ret S Tryd.results13 rfl rfl
theorem tumblaw2_when_ok (w : World) (p_is : Bool) (p_e : Int) (r : Int) (h : tumblaw2_when p_is p_e = r) :
    Calls Tryd.prog 15 [.bool p_is, .int .i64 p_e].toArray w (Ret w [] fun τ v w' => v = .int .i64 r) := by
  refine f_enter [] [] Tryd.func15 rfl Tryd.ntmps15 rfl (by simp) (by simp [fps]) (by simp [fps]) fun a S => ?_
  unfold tumblaw2_when at h
  replace S := S.nf (L' := []) (K' := [(0, .bool p_is), (1, .int .i64 p_e)]) [] rfl ⟨rfl, rfl, trivial⟩
  refine f_seq ?_
  refine f_region ?_
  refine lv S (rn_assign rfl) rfl ?_; clear S; intro a S
  refine l_done ?_
  replace S := S.nf (L' := []) (K' := [(0, .bool p_is), (1, .int .i64 p_e)]) [] rfl ⟨rfl, rfl, trivial⟩
  refine then_n ?_
  refine f_seq ?_
  refine f_seq ?_
  refine f_region ?_
  refine lv S (rn_move (S.tm rfl)) rfl ?_; clear S; intro a S
  refine l_done ?_
  replace S := S.nf (L' := []) (K' := [(1, .int .i64 p_e), (5, .bool p_is)]) [] rfl ⟨rfl, rfl, trivial⟩
  refine then_n ?_
  refine f_cond (S.tm rfl) (fun hb1 => ?_) (fun hb1 => ?_)
  · replace h := iteT h hb1
    refine f_seq ?_
    refine f_region ?_
    refine lv S (rn_move (S.tm rfl)) rfl ?_; clear S; intro a S
    refine lv S (rn_assign (S.tm rfl)) rfl ?_; clear S; intro a S
    refine l_done ?_
    replace S := S.nf (L' := []) (K' := [(4, .int .i64 p_e)]) [] rfl ⟨rfl, trivial⟩
    refine then_n ?_
    refine wp_ret ?_
    refine then_r ?_
    subst h
    exact f_ret S Tryd.results15 rfl rfl
  · replace h := iteF h hb1
    refine wp_skip ?_
    refine then_n ?_
    refine f_seq ?_
    refine f_region ?_
    refine lv S (rn_assign rfl) rfl ?_; clear S; intro a S
    refine l_done ?_
    replace S := S.nf (L' := []) (K' := [(4, .int .i64 0)]) [] rfl ⟨rfl, trivial⟩
    refine then_n ?_
    refine wp_ret ?_
    subst h
    exact f_ret S Tryd.results15 rfl rfl
theorem tumbref2_FitsOf_ok (w : World) (v_p_l : Value) (p_l : List GItem) (hs_p_l : Slc (view w []) 5 v_p_l (p_l.map GItem.enc)) (p_w : GWindow) (r : Int) (h : tumbref2_FitsOf p_l p_w = some r) :
    Calls Tryd.prog 18 [v_p_l, .agg (GWindow.enc p_w).toArray].toArray w (Ret w [] fun τ v w' => v = .int .i64 r) := by
  refine f_enter [] [] Tryd.func18 rfl Tryd.ntmps18 rfl (by simp) (by simp [fps]) (by simp [fps]) fun a S => ?_
  unfold tumbref2_FitsOf at h
  replace S := S.nf (L' := []) (K' := [(0, v_p_l), (1, .agg (GWindow.enc p_w).toArray)]) [] rfl ⟨rfl, rfl, trivial⟩
  refine f_seq ?_
  refine f_region ?_
  refine l_box S (S.tm rfl) (cs := [.int .i64 p_w.From, .int .i64 p_w.To]) rfl rfl ?_; clear S; intro a w1 b1 hz1 hk1 S
  refine lv S (rn_assign rfl) rfl ?_; clear S; intro a S
  refine l_done ?_
  replace S := S.nf (L' := [.blk b1 [.int .i64 p_w.From, .int .i64 p_w.To] 31]) (K' := [(0, v_p_l), (3, .pointer (some ⟨b1, 0, none⟩))]) [true] rfl ⟨rfl, rfl, trivial⟩
  refine then_n ?_
  refine f_seq ?_
  refine f_region ?_
  refine lv S (rn_assign rfl) rfl ?_; clear S; intro a S
  refine l_done ?_
  replace S := S.nf (L' := [.blk b1 [.int .i64 p_w.From, .int .i64 p_w.To] 31]) (K' := [(0, v_p_l), (3, .pointer (some ⟨b1, 0, none⟩)), (5, .int .i64 0)]) [true] rfl ⟨rfl, rfl, rfl, trivial⟩
  refine then_n ?_
  refine f_seq ?_
  refine f_seq ?_
  refine f_region ?_
  refine lv S (rn_move (S.tm rfl)) rfl ?_; clear S; intro a S
  refine lv S (rn_lenT sl_26 (S.tm rfl) (slc_len hs_p_l)) rfl ?_; clear S; intro a S
  refine lv S (rn_move rfl) rfl ?_; clear S; intro a S
  refine l_done ?_
  replace S := S.nf (L' := [.blk b1 [.int .i64 p_w.From, .int .i64 p_w.To] 31]) (K' := [(0, v_p_l), (3, .pointer (some ⟨b1, 0, none⟩)), (5, .int .i64 0), (8, .int .i64 (p_l.length : Int)), (9, .int .i64 0)]) [true] rfl ⟨rfl, rfl, rfl, rfl, rfl, trivial⟩
  refine then_n ?_
  obtain ⟨j1, hj1, h⟩ := joinE h
  refine f_join (fun a w' => ∃ x1 : Int, j1 x1 = some r ∧ Sx w [] nov [.blk b1 [.int .i64 p_w.From, .int .i64 p_w.To] 31] [(5, .int .i64 x1)] 26 a w') ?_ ?_
  · refine wp_block ?_
    refine f_loop (fun (ys1 : List GItem) a w' => ∃ i1 : Nat, ∃ x1 : Int, (∃ dn, p_l = dn ++ ys1 ∧ dn.length = i1) ∧ tumbref2_FitsOf_l1 p_l p_w j1 ys1 i1 x1 = some r ∧ Sx w [] nov [.blk b1 [.int .i64 p_w.From, .int .i64 p_w.To] 31] [(0, v_p_l), (3, .pointer (some ⟨b1, 0, none⟩)), (5, .int .i64 x1), (8, .int .i64 (p_l.length : Int)), (9, .int .i64 (i1 : Int))] 26 a w') List.length p_l ⟨0, 0, ⟨[], rfl, rfl⟩, h, S.nf [true] rfl ⟨rfl, rfl, rfl, rfl, rfl, trivial⟩⟩ ?_
    clear S h; rintro ys1 a w2 ⟨i1, x1, ⟨dn, hd1, hi1⟩, h, S⟩
    cases ys1 with
    | nil =>
      rw [tumbref2_FitsOf_l1.eq_1] at h
      refine f_seq ?_
      refine f_region ?_
      refine lv S (rn_lss (S.tm rfl) (S.tm rfl)) rfl ?_; clear S; intro a S
      refine l_done ?_
      replace S := S.nf (L' := [.blk b1 [.int .i64 p_w.From, .int .i64 p_w.To] 31]) (K' := [(0, v_p_l), (3, .pointer (some ⟨b1, 0, none⟩)), (5, .int .i64 x1), (8, .int .i64 (p_l.length : Int)), (9, .int .i64 (i1 : Int)), (10, .bool (decide ((i1 : Int) < (p_l.length : Int))))]) [true] rfl ⟨rfl, rfl, rfl, rfl, rfl, rfl, trivial⟩
      refine then_n ?_
      refine f_seq ?_
      refine wp_cond_false ((S.tm rfl).trans (congrArg Value.bool (rng_nil hd1 hi1))) ?_
      refine wp_exit ?_
      refine then_x ?_
      refine then_x ?_
      refine x_same ?_
      refine then_n ?_
      exact ⟨x1, h, S.nf [true] rfl ⟨rfl, trivial⟩⟩
    | cons y1 ys1 =>
      rw [tumbref2_FitsOf_l1.eq_2] at h
      refine f_seq ?_
      refine f_region ?_
      refine lv S (rn_lss (S.tm rfl) (S.tm rfl)) rfl ?_; clear S; intro a S
      refine l_done ?_
      replace S := S.nf (L' := [.blk b1 [.int .i64 p_w.From, .int .i64 p_w.To] 31]) (K' := [(0, v_p_l), (3, .pointer (some ⟨b1, 0, none⟩)), (5, .int .i64 x1), (8, .int .i64 (p_l.length : Int)), (9, .int .i64 (i1 : Int)), (10, .bool (decide ((i1 : Int) < (p_l.length : Int))))]) [true] rfl ⟨rfl, rfl, rfl, rfl, rfl, rfl, trivial⟩
      refine then_n ?_
      refine f_seq ?_
      refine wp_cond_true ((S.tm rfl).trans (congrArg Value.bool (rng_cons hd1 hi1))) ?_
      refine wp_skip ?_
      refine then_n ?_
      refine f_seq ?_
      obtain ⟨j2, hj2, h⟩ := joinE h
      refine f_join (fun a w' => ∃ x2 : Int, j2 x2 = some r ∧ Sx w [] nov [.blk b1 [.int .i64 p_w.From, .int .i64 p_w.To] 31] [(0, v_p_l), (3, .pointer (some ⟨b1, 0, none⟩)), (5, .int .i64 x2), (8, .int .i64 (p_l.length : Int)), (9, .int .i64 (i1 : Int))] 26 a w') ?_ ?_
      · refine wp_block ?_
        refine f_seq ?_
        refine f_region ?_
        refine lv S (rn_move (S.tm rfl)) rfl ?_; clear S; intro a S
        refine lv S (rn_assign (S.tm rfl)) rfl ?_; clear S; intro a S
        refine l_done ?_
        replace S := S.nf (L' := [.blk b1 [.int .i64 p_w.From, .int .i64 p_w.To] 31]) (K' := [(0, v_p_l), (3, .pointer (some ⟨b1, 0, none⟩)), (5, .int .i64 x1), (6, .int .i64 (i1 : Int)), (8, .int .i64 (p_l.length : Int)), (9, .int .i64 (i1 : Int))]) [true] rfl ⟨rfl, rfl, rfl, rfl, rfl, rfl, trivial⟩
        refine then_n ?_
        refine f_seq ?_
        obtain ⟨hc1, h⟩ := chkE h
        obtain ⟨r1, hr2, h⟩ := bindE h
        refine d_region ([]) Tryd.mixed S rfl (by kernel_rfl) ?_; clear S; intro w6 hk3 hsel S
        refine d_quiet 0 S hsel rfl (by kernel_rfl) (by kernel_rfl) rfl (fun _ hw => (rn_move (S.tm rfl))) ?_; clear S; intro a S
        refine d_quiet 1 S hsel rfl (by kernel_rfl) (by kernel_rfl) rfl (fun _ hw => (rn_move (S.tm rfl))) ?_; clear S; intro a S
        refine d_quiet 2 S hsel rfl (by kernel_rfl) (by kernel_rfl) rfl (fun _ hw => (rn_add (S.tm rfl) rfl)) ?_; clear S; intro a S
        obtain ⟨v3, hs2, hr3⟩ := rn_cutTh (a := a) (x := .tmp 12) (y' := .tmp 14) (ty := 26) sl_26 hs_p_l (S.tm rfl) (S.tm rfl) hc1
        refine d_quiet 3 S hsel rfl (by kernel_rfl) (by kernel_rfl) rfl (fun _ hw => (hr3 _)) ?_; clear S; intro a S
        clear hr3
        refine d_quiet 4 S hsel rfl (by kernel_rfl) (by kernel_rfl) rfl (fun _ hw => (rn_fld fa_31_0 (S.tm rfl))) ?_; clear S; intro a S
        refine d_quiet 5 S hsel rfl (by kernel_rfl) (by kernel_rfl) rfl (fun _ hw => (rn_ld Tryd.isAgg3 (off := 0) (o := 0) (S.tm rfl) ((S.blk_mem (i := 0) (cells := [.int .i64 p_w.From, .int .i64 p_w.To]) (b := b1) (T := 31) rfl (ne_nil (e' := .blk b1 [.int .i64 p_w.From, .int .i64 p_w.To] 31))).kept hw) rfl)) ?_; clear S; intro a S
        refine d_quiet 7 S hsel rfl (by kernel_rfl) (by kernel_rfl) rfl (fun _ hw => (rn_fld fa_31_1 (S.tm rfl))) ?_; clear S; intro a S
        refine d_quiet 8 S hsel rfl (by kernel_rfl) (by kernel_rfl) rfl (fun _ hw => (rn_ld Tryd.isAgg3 (off := 0) (o := 1) (S.tm rfl) ((S.blk_mem (i := 0) (cells := [.int .i64 p_w.From, .int .i64 p_w.To]) (b := b1) (T := 31) rfl (ne_nil (e' := .blk b1 [.int .i64 p_w.From, .int .i64 p_w.To] 31))).kept hw) rfl)) ?_; clear S; intro a S
        refine d_loud1 6 (by kernel_rfl) rfl ?_
        refine l_enter S (fun _ => run_call (vs := [v3, .int .i64 p_w.From]) ⟨(S.tm rfl), (S.tm rfl), trivial⟩ Tryd.call17) (tumbref2_EndOf_ok _ v3 (cut p_l 0 (W ((i1 : Int) + 1))) (hs2.mono (S.le_arg nil_sub)) p_w.From _ hr2) rfl ?_; clear S; intro v4 a w7 hv2 hk4 hn2 S
        subst hv2
        refine l_done ?_
        refine d_next hk4 ?_
        refine d_quiet 9 S hsel rfl (by kernel_rfl) (by kernel_rfl) rfl (fun _ hw => (rn_leq (S.tm rfl) (S.tm rfl))) ?_; clear S; intro a S
        refine d_end (by kernel_rfl) ?_
        clear hsel
        replace S := S.nf (L' := [.blk b1 [.int .i64 p_w.From, .int .i64 p_w.To] 31]) (K' := [(0, v_p_l), (3, .pointer (some ⟨b1, 0, none⟩)), (5, .int .i64 x1), (6, .int .i64 (i1 : Int)), (8, .int .i64 (p_l.length : Int)), (9, .int .i64 (i1 : Int)), (21, .bool (decide (r1 ≤ p_w.To)))]) [true] rfl ⟨rfl, rfl, rfl, rfl, rfl, rfl, rfl, trivial⟩
        refine then_n ?_
        obtain ⟨j3, hj3, h⟩ := joinE h
        refine f_join (fun a w' => ∃ x3 : Int, j3 x3 = some r ∧ Sx w [] nov [.blk b1 [.int .i64 p_w.From, .int .i64 p_w.To] 31] [(0, v_p_l), (3, .pointer (some ⟨b1, 0, none⟩)), (5, .int .i64 x3), (8, .int .i64 (p_l.length : Int)), (9, .int .i64 (i1 : Int))] 26 a w') ?_ ?_
        · refine f_cond (S.tm rfl) (fun hb1 => ?_) (fun hb1 => ?_)
          · replace h := iteT h hb1
            refine f_region ?_
            refine lv S (rn_move (S.tm rfl)) rfl ?_; clear S; intro a S
            refine lv S (rn_add (S.tm rfl) rfl) rfl ?_; clear S; intro a S
            refine lv S (rn_assign (S.tm rfl)) rfl ?_; clear S; intro a S
            refine l_done ?_
            replace S := S.nf (L' := [.blk b1 [.int .i64 p_w.From, .int .i64 p_w.To] 31]) (K' := [(0, v_p_l), (3, .pointer (some ⟨b1, 0, none⟩)), (5, .int .i64 (W ((i1 : Int) + 1))), (8, .int .i64 (p_l.length : Int)), (9, .int .i64 (i1 : Int))]) [true] rfl ⟨rfl, rfl, rfl, rfl, rfl, trivial⟩
            refine then_n ?_
            exact ⟨W ((i1 : Int) + 1), h, S.nf [true] rfl ⟨rfl, rfl, rfl, rfl, rfl, trivial⟩⟩
          · replace h := iteF h hb1
            refine wp_skip ?_
            refine then_n ?_
            exact ⟨x1, h, S.nf [true] rfl ⟨rfl, rfl, rfl, rfl, rfl, trivial⟩⟩
        clear S h; rintro a w8 ⟨x3, h, S⟩; rw [hj3] at h; clear hj3 j3
        refine blk_n ?_
        refine then_n ?_
        exact ⟨x3, h, S.nf [true] rfl ⟨rfl, rfl, rfl, rfl, rfl, trivial⟩⟩
      clear S h; rintro a w4 ⟨x2, h, S⟩; rw [hj2] at h; clear hj2 j2
      refine then_n ?_
      refine f_region ?_
      refine lv S (rn_add (S.tm rfl) rfl) rfl ?_; clear S; intro a S
      refine lv S (rn_move (S.tm rfl)) rfl ?_; clear S; intro a S
      refine l_done ?_
      replace S := S.nf (L' := [.blk b1 [.int .i64 p_w.From, .int .i64 p_w.To] 31]) (K' := [(0, v_p_l), (3, .pointer (some ⟨b1, 0, none⟩)), (5, .int .i64 x2), (8, .int .i64 (p_l.length : Int)), (9, .int .i64 (W ((i1 : Int) + 1)))]) [true] rfl ⟨rfl, rfl, rfl, rfl, rfl, trivial⟩
      refine then_n ?_
      exact ⟨ys1, ⟨i1 + 1, x2, ⟨_, (hd1).trans (List.append_cons _ _ _), by simp [hi1]⟩, h, S.nf [true] rfl ⟨rfl, rfl, rfl, rfl, (congrArg (fun z => some (Value.int .i64 z)) (rng_next hd1 hi1 (slc_max hs_p_l))), trivial⟩⟩, Nat.lt_succ_self _⟩
  clear S h; rintro a w3 ⟨x1, h, S⟩; rw [hj1] at h; clear hj1 j1
  refine then_n ?_
  refine f_seq ?_
  refine f_region ?_
  refine lv S (rn_move (S.tm rfl)) rfl ?_; clear S; intro a S
  refine lv S (rn_assign (S.tm rfl)) rfl ?_; clear S; intro a S
  refine l_done ?_
  replace S := S.nf (L' := []) (K' := [(4, .int .i64 x1)]) [false] rfl ⟨rfl, trivial⟩
  refine then_n ?_
  refine wp_ret ?_
  obtain rfl := Option.some.inj h
  exact f_ret S Tryd.results18 rfl rfl
theorem tumbref2_PausesOf_ok (w : World) (v_p_l : Value) (p_l : List GItem) (hs_p_l : Slc (view w []) 5 v_p_l (p_l.map GItem.enc)) (p_from : Int) (p_least : Int) (r : (List GWindow)) (h : tumbref2_PausesOf p_l p_from p_least = some r) :
    Calls Tryd.prog 19 [v_p_l, .int .i64 p_from, .int .i64 p_least].toArray w (Ret w [] fun τ v w' => OwnV τ 31 2 v r.length (r.flatMap GWindow.enc)) := by
  refine f_enter [] [] Tryd.func19 rfl Tryd.ntmps19 rfl (by simp) (by simp [fps]) (by simp [fps]) fun a S => ?_
  unfold tumbref2_PausesOf at h
  replace S := S.nf (L' := []) (K' := [(0, v_p_l), (1, .int .i64 p_from), (2, .int .i64 p_least)]) [] rfl ⟨rfl, rfl, rfl, trivial⟩
  refine f_seq ?_
  refine f_region ?_
  refine lv S (rn_assign rfl) rfl ?_; clear S; intro a S
  refine l_done ?_
  replace S := S.nf (L' := []) (K' := [(0, v_p_l), (1, .int .i64 p_from), (2, .int .i64 p_least)]) [] rfl ⟨rfl, rfl, rfl, trivial⟩
  refine then_n ?_
  refine f_seq ?_
  refine f_region ?_
  refine lv S (rn_assign rfl) rfl ?_; clear S; intro a S
  replace S := S.nil 31 2
  refine l_done ?_
  replace S := S.nf (L' := [.own (.slice none 0 0) 31 2 ([] : List GWindow).length (([] : List GWindow).flatMap GWindow.enc)]) (K' := [(0, v_p_l), (1, .int .i64 p_from), (2, .int .i64 p_least), (7, (.slice none 0 0))]) [true] rfl ⟨rfl, rfl, rfl, rfl, trivial⟩
  refine then_n ?_
  refine f_seq ?_
  refine f_region ?_
  refine lv S (rn_move (S.tm rfl)) rfl ?_; clear S; intro a S
  refine lv S (rn_move (S.tm rfl)) rfl ?_; clear S; intro a S
  obtain ⟨r1, hr1, h⟩ := bindE h
  have hz1 := S.keep.size
  refine l_enter S (fun _ => run_call (vs := [v_p_l, .int .i64 p_from]) ⟨(S.tm rfl), (S.tm rfl), trivial⟩ Tryd.call16) (tumbref2_SlotsOf_ok _ v_p_l p_l (hs_p_l.mono (S.le_arg nil_sub)) p_from _ hr1) rfl ?_; clear S; intro v1 a w1 hv1 hk1 hn1 S
  obtain ⟨φ1, hl1, hm1, S⟩ := S.see' hn1 hz1
  have hs1 := hv1.mono hm1
  refine lv S (rn_assign (S.tm rfl)) rfl ?_; clear S; intro a S
  refine l_done ?_
  replace S := S.nf (L' := [.own (.slice none 0 0) 31 2 ([] : List GWindow).length (([] : List GWindow).flatMap GWindow.enc)]) (K' := [(2, .int .i64 p_least), (7, (.slice none 0 0)), (8, v1)]) [true] rfl ⟨rfl, rfl, rfl, trivial⟩
  refine then_n ?_
  refine f_seq ?_
  refine f_seq ?_
  refine f_region ?_
  refine lv S (rn_move (S.tm rfl)) rfl ?_; clear S; intro a S
  refine lv S (rn_lenT sl_32 (S.tm rfl) (slc_len (ownV_slcT GSlot.enc_ok hs1))) rfl ?_; clear S; intro a S
  refine lv S (rn_move rfl) rfl ?_; clear S; intro a S
  refine l_done ?_
  replace S := S.nf (L' := [.own (.slice none 0 0) 31 2 ([] : List GWindow).length (([] : List GWindow).flatMap GWindow.enc)]) (K' := [(2, .int .i64 p_least), (7, (.slice none 0 0)), (8, v1), (14, .int .i64 (r1.length : Int)), (15, .int .i64 0)]) [true] rfl ⟨rfl, rfl, rfl, rfl, rfl, trivial⟩
  refine then_n ?_
  obtain ⟨j1, hj1, h⟩ := joinE h
  refine f_join (fun a w' => ∃ x1 : List GWindow, ∃ v2 : Value, j1 x1 = some r ∧ Sx w [] φ1 [.own v2 31 2 x1.length (x1.flatMap GWindow.enc)] [(7, v2)] 57 a w') ?_ ?_
  · refine wp_block ?_
    refine f_loop (fun (ys1 : List GSlot) a w' => ∃ i1 : Nat, ∃ x1 : List GWindow, ∃ v2 : Value, (∃ dn, r1 = dn ++ ys1 ∧ dn.length = i1) ∧ tumbref2_PausesOf_l1 r1 p_least j1 ys1 i1 x1 = some r ∧ Sx w [] φ1 [.own v2 31 2 x1.length (x1.flatMap GWindow.enc)] [(2, .int .i64 p_least), (7, v2), (8, v1), (14, .int .i64 (r1.length : Int)), (15, .int .i64 (i1 : Int))] 57 a w') List.length r1 ⟨0, ([] : List GWindow), (.slice none 0 0), ⟨[], rfl, rfl⟩, h, S.nf [true] rfl ⟨rfl, rfl, rfl, rfl, rfl, trivial⟩⟩ ?_
    clear S h; rintro ys1 a w2 ⟨i1, x1, v2, ⟨dn, hd1, hi1⟩, h, S⟩
    cases ys1 with
    | nil =>
      rw [tumbref2_PausesOf_l1.eq_1] at h
      refine f_seq ?_
      refine f_region ?_
      refine lv S (rn_lss (S.tm rfl) (S.tm rfl)) rfl ?_; clear S; intro a S
      refine l_done ?_
      replace S := S.nf (L' := [.own v2 31 2 x1.length (x1.flatMap GWindow.enc)]) (K' := [(2, .int .i64 p_least), (7, v2), (8, v1), (14, .int .i64 (r1.length : Int)), (15, .int .i64 (i1 : Int)), (16, .bool (decide ((i1 : Int) < (r1.length : Int))))]) [true] rfl ⟨rfl, rfl, rfl, rfl, rfl, rfl, trivial⟩
      refine then_n ?_
      refine f_seq ?_
      refine wp_cond_false ((S.tm rfl).trans (congrArg Value.bool (rng_nil hd1 hi1))) ?_
      refine wp_exit ?_
      refine then_x ?_
      refine then_x ?_
      refine x_same ?_
      refine then_n ?_
      exact ⟨x1, v2, h, S.nf [true] rfl ⟨rfl, trivial⟩⟩
    | cons y1 ys1 =>
      rw [tumbref2_PausesOf_l1.eq_2] at h
      refine f_seq ?_
      refine f_region ?_
      refine lv S (rn_lss (S.tm rfl) (S.tm rfl)) rfl ?_; clear S; intro a S
      refine l_done ?_
      replace S := S.nf (L' := [.own v2 31 2 x1.length (x1.flatMap GWindow.enc)]) (K' := [(2, .int .i64 p_least), (7, v2), (8, v1), (14, .int .i64 (r1.length : Int)), (15, .int .i64 (i1 : Int)), (16, .bool (decide ((i1 : Int) < (r1.length : Int))))]) [true] rfl ⟨rfl, rfl, rfl, rfl, rfl, rfl, trivial⟩
      refine then_n ?_
      refine f_seq ?_
      refine wp_cond_true ((S.tm rfl).trans (congrArg Value.bool (rng_cons hd1 hi1))) ?_
      refine wp_skip ?_
      refine then_n ?_
      refine f_seq ?_
      obtain ⟨j2, hj2, h⟩ := joinE h
      refine f_join (fun a w' => ∃ x2 : List GWindow, ∃ v3 : Value, j2 x2 = some r ∧ Sx w [] φ1 [.own v3 31 2 x2.length (x2.flatMap GWindow.enc)] [(2, .int .i64 p_least), (7, v3), (8, v1), (14, .int .i64 (r1.length : Int)), (15, .int .i64 (i1 : Int))] 57 a w') ?_ ?_
      · refine wp_block ?_
        refine f_seq ?_
        refine f_region ?_
        refine lv S (rn_move (S.tm rfl)) rfl ?_; clear S; intro a S
        refine lv S (rn_assign (S.tm rfl)) rfl ?_; clear S; intro a S
        refine l_done ?_
        replace S := S.nf (L' := [.own v2 31 2 x1.length (x1.flatMap GWindow.enc)]) (K' := [(2, .int .i64 p_least), (7, v2), (8, v1), (9, .int .i64 (i1 : Int)), (14, .int .i64 (r1.length : Int)), (15, .int .i64 (i1 : Int))]) [true] rfl ⟨rfl, rfl, rfl, rfl, rfl, rfl, trivial⟩
        refine then_n ?_
        refine f_seq ?_
        obtain ⟨j3, hj3, h⟩ := joinE h
        refine f_join (fun a w' => ∃ x3 : Bool, j3 x3 = some r ∧ Sx w [] φ1 [.own v2 31 2 x1.length (x1.flatMap GWindow.enc)] [(2, .int .i64 p_least), (7, v2), (8, v1), (9, .int .i64 (i1 : Int)), (14, .int .i64 (r1.length : Int)), (15, .int .i64 (i1 : Int)), (37, .bool x3)] 57 a w') ?_ ?_
        · rcases Bool.eq_false_or_eq_true (decide (0 < (i1 : Int))) with hb1 | hb1
          · replace h := iteT h hb1
            obtain ⟨hc1, h⟩ := chkE h
            refine d_region ([]) Tryd.mixed S rfl (by kernel_rfl) ?_; clear S; intro w6 hk2 hsel S
            refine d_quiet 0 S hsel rfl (by kernel_rfl) (by kernel_rfl) rfl (fun _ hw => (rn_move (S.tm rfl))) ?_; clear S; intro a S
            refine d_quiet 1 S hsel rfl (by kernel_rfl) (by kernel_rfl) rfl (fun _ hw => (rn_gtr (S.tm rfl) rfl)) ?_; clear S; intro a S
            refine d_quiet 2 S hsel rfl (by kernel_rfl) (by kernel_rfl) rfl (fun _ hw => (rn_move (S.tm rfl))) ?_; clear S; intro a S
            refine d_quiet_g 3 S hsel rfl rfl rfl rfl hb1 (by kernel_rfl) (by kernel_rfl) rfl (fun _ hw => (rn_move (S.tm rfl))) ?_; clear S; intro a S
            refine d_quiet_g 4 S hsel rfl rfl rfl rfl hb1 (by kernel_rfl) (by kernel_rfl) rfl (fun _ hw => (rn_move (S.tm rfl))) ?_; clear S; intro a S
            obtain ⟨b3, o3, hm4, hr4⟩ := rn_indexT (a := a) (x := .tmp 21) (y := .tmp 22) (ty := 0) sl_32 (((ownV_slcT GSlot.enc_ok hs1)).mono (S.le_new nil_sub)) (get_mid hd1 hi1) rfl (S.tm rfl) (S.tm rfl)
            refine d_quiet_g 5 S hsel rfl rfl rfl rfl hb1 (by kernel_rfl) (by kernel_rfl) rfl (fun _ hw => hr4 _) ?_; clear S; intro a S
            clear hr4
            refine d_quiet_g 6 S hsel rfl rfl rfl rfl hb1 (by kernel_rfl) (by kernel_rfl) rfl (fun _ hw => (rn_fld fa_53_2 (S.tm rfl))) ?_; clear S; intro a S
            refine d_quiet_g 7 S hsel rfl rfl rfl rfl hb1 (by kernel_rfl) (by kernel_rfl) rfl (fun _ hw => (rn_fld fa_31_0 (S.tm rfl))) ?_; clear S; intro a S
            refine d_quiet_g 8 S hsel rfl rfl rfl rfl hb1 (by kernel_rfl) (by kernel_rfl) rfl (fun _ hw => (rn_ld Tryd.isAgg3 (off := o3) (o := 2) (S.tm rfl) (hm4.kept hw) rfl)) ?_; clear S; intro a S
            refine d_quiet_g 9 S hsel rfl rfl rfl rfl hb1 (by kernel_rfl) (by kernel_rfl) rfl (fun _ hw => (rn_move (S.tm rfl))) ?_; clear S; intro a S
            refine d_quiet_g 10 S hsel rfl rfl rfl rfl hb1 (by kernel_rfl) (by kernel_rfl) rfl (fun _ hw => (rn_move (S.tm rfl))) ?_; clear S; intro a S
            refine d_quiet_g 11 S hsel rfl rfl rfl rfl hb1 (by kernel_rfl) (by kernel_rfl) rfl (fun _ hw => (rn_sub (S.tm rfl) rfl)) ?_; clear S; intro a S
            obtain ⟨b4, o4, hm5, hr5⟩ := rn_indexT (a := a) (x := .tmp 27) (y := .tmp 29) (ty := 0) sl_32 (((ownV_slcT GSlot.enc_ok hs1)).mono (S.le_new nil_sub)) (inB_get hc1).1 (inB_get hc1).2 (S.tm rfl) (S.tm rfl)
            refine d_quiet_g 12 S hsel rfl rfl rfl rfl hb1 (by kernel_rfl) (by kernel_rfl) rfl (fun _ hw => hr5 _) ?_; clear S; intro a S
            clear hr5
            refine d_quiet_g 13 S hsel rfl rfl rfl rfl hb1 (by kernel_rfl) (by kernel_rfl) rfl (fun _ hw => (rn_fld fa_53_2 (S.tm rfl))) ?_; clear S; intro a S
            refine d_quiet_g 14 S hsel rfl rfl rfl rfl hb1 (by kernel_rfl) (by kernel_rfl) rfl (fun _ hw => (rn_fld fa_31_1 (S.tm rfl))) ?_; clear S; intro a S
            refine d_quiet_g 15 S hsel rfl rfl rfl rfl hb1 (by kernel_rfl) (by kernel_rfl) rfl (fun _ hw => (rn_ld Tryd.isAgg3 (off := o4) (o := 3) (S.tm rfl) (hm5.kept hw) rfl)) ?_; clear S; intro a S
            refine d_quiet_g 16 S hsel rfl rfl rfl rfl hb1 (by kernel_rfl) (by kernel_rfl) rfl (fun _ hw => (rn_sub (S.tm rfl) (S.tm rfl))) ?_; clear S; intro a S
            refine d_quiet_g 17 S hsel rfl rfl rfl rfl hb1 (by kernel_rfl) (by kernel_rfl) rfl (fun _ hw => (rn_move (S.tm rfl))) ?_; clear S; intro a S
            refine d_quiet_g 18 S hsel rfl rfl rfl rfl hb1 (by kernel_rfl) (by kernel_rfl) rfl (fun _ hw => (rn_geq (S.tm rfl) (S.tm rfl))) ?_; clear S; intro a S
            refine d_quiet 19 S hsel rfl (by kernel_rfl) (by kernel_rfl) rfl (fun _ hw => (rn_pick_b hb1 (S.tm rfl) (S.tm rfl))) ?_; clear S; intro a S
            refine d_end (by kernel_rfl) ?_
            clear hsel
            replace S := S.nf (L' := [.own v2 31 2 x1.length (x1.flatMap GWindow.enc)]) (K' := [(2, .int .i64 p_least), (7, v2), (8, v1), (9, .int .i64 (i1 : Int)), (14, .int .i64 (r1.length : Int)), (15, .int .i64 (i1 : Int)), (21, v1), (22, .int .i64 (i1 : Int)), (23, .pointer (some ⟨b3, o3, none⟩)), (24, .pointer (some ⟨b3, o3 + 2, none⟩)), (25, .pointer (some ⟨b3, o3 + 2, none⟩)), (26, .int .i64 y1.Time.From), (27, v1), (28, .int .i64 (i1 : Int)), (29, .int .i64 (W ((i1 : Int) - 1))), (30, .pointer (some ⟨b4, o4, none⟩)), (31, .pointer (some ⟨b4, o4 + 2, none⟩)), (32, .pointer (some ⟨b4, o4 + 3, none⟩)), (33, .int .i64 (((nth r1 (W ((i1 : Int) - 1))).Time).To)), (34, .int .i64 (W (y1.Time.From - (((nth r1 (W ((i1 : Int) - 1))).Time).To)))), (35, .int .i64 p_least), (36, .bool (decide (p_least ≤ (W (y1.Time.From - (((nth r1 (W ((i1 : Int) - 1))).Time).To)))))), (37, .bool (decide (p_least ≤ (W (y1.Time.From - (((nth r1 (W ((i1 : Int) - 1))).Time).To))))))]) [true] rfl ⟨rfl, rfl, rfl, rfl, rfl, rfl, rfl, rfl, rfl, rfl, rfl, rfl, rfl, rfl, rfl, rfl, rfl, rfl, rfl, rfl, rfl, rfl, rfl, trivial⟩
            refine then_n ?_
            exact ⟨decide (p_least ≤ (W (y1.Time.From - (((nth r1 (W ((i1 : Int) - 1))).Time).To)))), h, S.nf [true] rfl ⟨rfl, rfl, rfl, rfl, rfl, rfl, rfl, trivial⟩⟩
          · replace h := iteF h hb1
            refine d_region ([]) Tryd.mixed S rfl (by kernel_rfl) ?_; clear S; intro w7 hk3 hsel S
            refine d_quiet 0 S hsel rfl (by kernel_rfl) (by kernel_rfl) rfl (fun _ hw => (rn_move (S.tm rfl))) ?_; clear S; intro a S
            refine d_quiet 1 S hsel rfl (by kernel_rfl) (by kernel_rfl) rfl (fun _ hw => (rn_gtr (S.tm rfl) rfl)) ?_; clear S; intro a S
            refine d_quiet 2 S hsel rfl (by kernel_rfl) (by kernel_rfl) rfl (fun _ hw => (rn_move (S.tm rfl))) ?_; clear S; intro a S
            refine d_skip 3 S hsel rfl rfl rfl rfl (by rw [hb1]; rfl) (by kernel_rfl) (by kernel_rfl) rfl ?_; clear S; intro a S
            refine d_skip 4 S hsel rfl rfl rfl rfl (by rw [hb1]; rfl) (by kernel_rfl) (by kernel_rfl) rfl ?_; clear S; intro a S
            refine d_skip 5 S hsel rfl rfl rfl rfl (by rw [hb1]; rfl) (by kernel_rfl) (by kernel_rfl) rfl ?_; clear S; intro a S
            refine d_skip 6 S hsel rfl rfl rfl rfl (by rw [hb1]; rfl) (by kernel_rfl) (by kernel_rfl) rfl ?_; clear S; intro a S
            refine d_skip 7 S hsel rfl rfl rfl rfl (by rw [hb1]; rfl) (by kernel_rfl) (by kernel_rfl) rfl ?_; clear S; intro a S
            refine d_skip 8 S hsel rfl rfl rfl rfl (by rw [hb1]; rfl) (by kernel_rfl) (by kernel_rfl) rfl ?_; clear S; intro a S
            refine d_skip 9 S hsel rfl rfl rfl rfl (by rw [hb1]; rfl) (by kernel_rfl) (by kernel_rfl) rfl ?_; clear S; intro a S
            refine d_skip 10 S hsel rfl rfl rfl rfl (by rw [hb1]; rfl) (by kernel_rfl) (by kernel_rfl) rfl ?_; clear S; intro a S
            refine d_skip 11 S hsel rfl rfl rfl rfl (by rw [hb1]; rfl) (by kernel_rfl) (by kernel_rfl) rfl ?_; clear S; intro a S
            refine d_skip 12 S hsel rfl rfl rfl rfl (by rw [hb1]; rfl) (by kernel_rfl) (by kernel_rfl) rfl ?_; clear S; intro a S
            refine d_skip 13 S hsel rfl rfl rfl rfl (by rw [hb1]; rfl) (by kernel_rfl) (by kernel_rfl) rfl ?_; clear S; intro a S
            refine d_skip 14 S hsel rfl rfl rfl rfl (by rw [hb1]; rfl) (by kernel_rfl) (by kernel_rfl) rfl ?_; clear S; intro a S
            refine d_skip 15 S hsel rfl rfl rfl rfl (by rw [hb1]; rfl) (by kernel_rfl) (by kernel_rfl) rfl ?_; clear S; intro a S
            refine d_skip 16 S hsel rfl rfl rfl rfl (by rw [hb1]; rfl) (by kernel_rfl) (by kernel_rfl) rfl ?_; clear S; intro a S
            refine d_skip 17 S hsel rfl rfl rfl rfl (by rw [hb1]; rfl) (by kernel_rfl) (by kernel_rfl) rfl ?_; clear S; intro a S
            refine d_skip 18 S hsel rfl rfl rfl rfl (by rw [hb1]; rfl) (by kernel_rfl) (by kernel_rfl) rfl ?_; clear S; intro a S
            refine d_quiet 19 S hsel rfl (by kernel_rfl) (by kernel_rfl) rfl (fun _ hw => (rn_pick_c hb1 (S.tm rfl) rfl)) ?_; clear S; intro a S
            refine d_end (by kernel_rfl) ?_
            clear hsel
            replace S := S.nf (L' := [.own v2 31 2 x1.length (x1.flatMap GWindow.enc)]) (K' := [(2, .int .i64 p_least), (7, v2), (8, v1), (9, .int .i64 (i1 : Int)), (14, .int .i64 (r1.length : Int)), (15, .int .i64 (i1 : Int)), (37, .bool false)]) [true] rfl ⟨rfl, rfl, rfl, rfl, rfl, rfl, rfl, trivial⟩
            refine then_n ?_
            exact ⟨false, h, S.nf [true] rfl ⟨rfl, rfl, rfl, rfl, rfl, rfl, rfl, trivial⟩⟩
        clear S h; rintro a w5 ⟨x3, h, S⟩; rw [hj3] at h; clear hj3 j3
        refine then_n ?_
        obtain ⟨j4, hj4, h⟩ := joinE h
        refine f_join (fun a w' => ∃ x4 : List GWindow, ∃ v4 : Value, j4 x4 = some r ∧ Sx w [] φ1 [.own v4 31 2 x4.length (x4.flatMap GWindow.enc)] [(2, .int .i64 p_least), (7, v4), (8, v1), (14, .int .i64 (r1.length : Int)), (15, .int .i64 (i1 : Int))] 57 a w') ?_ ?_
        · refine f_cond (S.tm rfl) (fun hb2 => ?_) (fun hb2 => ?_)
          · replace h := iteT h hb2
            obtain ⟨hc2, h⟩ := chkE h
            obtain ⟨hc3, h⟩ := chkE h
            refine d_region (v2.ownBlock.toList) Tryd.mixed S rfl (by kernel_rfl) ?_; clear S; intro w11 hk6 hsel S
            refine d_quiet 0 S hsel rfl (by kernel_rfl) (by kernel_rfl) rfl (fun _ hw => (rn_move (S.tm rfl))) ?_; clear S; intro a S
            refine d_quiet 1 S hsel rfl (by kernel_rfl) (by kernel_rfl) rfl (fun _ hw => (rn_move (S.tm rfl))) ?_; clear S; intro a S
            refine d_quiet 2 S hsel rfl (by kernel_rfl) (by kernel_rfl) rfl (fun _ hw => (rn_move (S.tm rfl))) ?_; clear S; intro a S
            refine d_quiet 3 S hsel rfl (by kernel_rfl) (by kernel_rfl) rfl (fun _ hw => (rn_sub (S.tm rfl) rfl)) ?_; clear S; intro a S
            obtain ⟨b8, o7, hm8, hr8⟩ := rn_indexT (a := a) (x := .tmp 39) (y := .tmp 41) (ty := 0) sl_32 (((ownV_slcT GSlot.enc_ok hs1)).mono (S.le_new (fp_sub (i := 0) (e := .own v2 31 2 x1.length (x1.flatMap GWindow.enc)) rfl))) (inB_get hc2).1 (inB_get hc2).2 (S.tm rfl) (S.tm rfl)
            refine d_quiet 4 S hsel rfl (by kernel_rfl) (by kernel_rfl) rfl (fun _ hw => hr8 _) ?_; clear S; intro a S
            clear hr8
            refine d_quiet 5 S hsel rfl (by kernel_rfl) (by kernel_rfl) rfl (fun _ hw => (rn_fld fa_53_2 (S.tm rfl))) ?_; clear S; intro a S
            refine d_quiet 6 S hsel rfl (by kernel_rfl) (by kernel_rfl) rfl (fun _ hw => (rn_fld fa_31_1 (S.tm rfl))) ?_; clear S; intro a S
            refine d_quiet 7 S hsel rfl (by kernel_rfl) (by kernel_rfl) rfl (fun _ hw => (rn_ld Tryd.isAgg3 (off := o7) (o := 3) (S.tm rfl) (hm8.kept hw) rfl)) ?_; clear S; intro a S
            refine d_quiet 8 S hsel rfl (by kernel_rfl) (by kernel_rfl) rfl (fun _ hw => (rn_move (S.tm rfl))) ?_; clear S; intro a S
            refine d_quiet 9 S hsel rfl (by kernel_rfl) (by kernel_rfl) rfl (fun _ hw => (rn_move (S.tm rfl))) ?_; clear S; intro a S
            obtain ⟨b9, o8, hm9, hr9⟩ := rn_indexT (a := a) (x := .tmp 46) (y := .tmp 47) (ty := 0) sl_32 (((ownV_slcT GSlot.enc_ok hs1)).mono (S.le_new (fp_sub (i := 0) (e := .own v2 31 2 x1.length (x1.flatMap GWindow.enc)) rfl))) (get_mid hd1 hi1) rfl (S.tm rfl) (S.tm rfl)
            refine d_quiet 10 S hsel rfl (by kernel_rfl) (by kernel_rfl) rfl (fun _ hw => hr9 _) ?_; clear S; intro a S
            clear hr9
            refine d_quiet 11 S hsel rfl (by kernel_rfl) (by kernel_rfl) rfl (fun _ hw => (rn_fld fa_53_2 (S.tm rfl))) ?_; clear S; intro a S
            refine d_quiet 12 S hsel rfl (by kernel_rfl) (by kernel_rfl) rfl (fun _ hw => (rn_fld fa_31_0 (S.tm rfl))) ?_; clear S; intro a S
            refine d_quiet 13 S hsel rfl (by kernel_rfl) (by kernel_rfl) rfl (fun _ hw => (rn_ld Tryd.isAgg3 (off := o8) (o := 2) (S.tm rfl) (hm9.kept hw) rfl)) ?_; clear S; intro a S
            refine d_quiet 14 S hsel rfl (by kernel_rfl) (by kernel_rfl) rfl (fun _ hw => (rn_bld bt_31 (pv := [(0, .int .i64 (((nth r1 (W ((i1 : Int) - 1))).Time).To)), (1, .int .i64 y1.Time.From)]) ⟨rfl, (S.tm rfl), rfl, (S.tm rfl), trivial⟩ (cs := [.int .i64 (((nth r1 (W ((i1 : Int) - 1))).Time).To), .int .i64 y1.Time.From]) (by kernel_rfl))) ?_; clear S; intro a S
            refine d_loud1 15 (by kernel_rfl) rfl ?_
            refine l_buildSlice S Tryd.underlying39 Tryd.sizeOf31 Tryd.zeroValue31 rfl rfl (pv := [(0, .agg #[.int .i64 (((nth r1 (W ((i1 : Int) - 1))).Time).To), .int .i64 y1.Time.From])]) ⟨rfl, (S.tm rfl), trivial⟩ (cs := [.int .i64 (((nth r1 (W ((i1 : Int) - 1))).Time).To), .int .i64 y1.Time.From]) (by kernel_rfl) rfl ?_; clear S; intro a w12 b10 hz3 hk7 S
            refine l_done ?_
            refine d_next (Keep.none hk7) ?_
            refine d_loud1 16 (by kernel_rfl) rfl ?_
            refine l_appendT sl_39 GWindow.enc_ok S (S.tm rfl) (i := 1) rfl (S.tm rfl) (j := 0) rfl (ys := [(GWindow.mk (((nth r1 (W ((i1 : Int) - 1))).Time).To) y1.Time.From)]) rfl rfl rfl rfl (by have := room_lt hc3; omega) rfl ?_; clear S; intro v6 a w13 hk8 S
            refine l_done ?_
            refine d_next hk8 ?_
            refine d_quiet 17 S hsel rfl (by kernel_rfl) (by kernel_rfl) rfl (fun _ hw => (rn_assign (S.tm rfl))) ?_; clear S; intro a S
            refine d_end (by kernel_rfl) ?_
            clear hsel
            replace S := S.nf (L' := [.own v6 31 2 (x1 ++ [(GWindow.mk (((nth r1 (W ((i1 : Int) - 1))).Time).To) y1.Time.From)]).length ((x1 ++ [(GWindow.mk (((nth r1 (W ((i1 : Int) - 1))).Time).To) y1.Time.From)]).flatMap GWindow.enc)]) (K' := [(2, .int .i64 p_least), (7, v6), (8, v1), (14, .int .i64 (r1.length : Int)), (15, .int .i64 (i1 : Int))]) [false, true] rfl ⟨rfl, rfl, rfl, rfl, rfl, trivial⟩
            refine then_n ?_
            exact ⟨(x1 ++ [(GWindow.mk (((nth r1 (W ((i1 : Int) - 1))).Time).To) y1.Time.From)]), v6, h, S.nf [true] rfl ⟨rfl, rfl, rfl, rfl, rfl, trivial⟩⟩
          · replace h := iteF h hb2
            refine wp_skip ?_
            refine then_n ?_
            exact ⟨x1, v2, h, S.nf [true] rfl ⟨rfl, rfl, rfl, rfl, rfl, trivial⟩⟩
        clear S h; rintro a w8 ⟨x4, v4, h, S⟩; rw [hj4] at h; clear hj4 j4
        refine blk_n ?_
        refine then_n ?_
        exact ⟨x4, v4, h, S.nf [true] rfl ⟨rfl, rfl, rfl, rfl, rfl, trivial⟩⟩
      clear S h; rintro a w4 ⟨x2, v3, h, S⟩; rw [hj2] at h; clear hj2 j2
      refine then_n ?_
      refine f_region ?_
      refine lv S (rn_add (S.tm rfl) rfl) rfl ?_; clear S; intro a S
      refine lv S (rn_move (S.tm rfl)) rfl ?_; clear S; intro a S
      refine l_done ?_
      replace S := S.nf (L' := [.own v3 31 2 x2.length (x2.flatMap GWindow.enc)]) (K' := [(2, .int .i64 p_least), (7, v3), (8, v1), (14, .int .i64 (r1.length : Int)), (15, .int .i64 (W ((i1 : Int) + 1)))]) [true] rfl ⟨rfl, rfl, rfl, rfl, rfl, trivial⟩
      refine then_n ?_
      exact ⟨ys1, ⟨i1 + 1, x2, v3, ⟨_, (hd1).trans (List.append_cons _ _ _), by simp [hi1]⟩, h, S.nf [true] rfl ⟨rfl, rfl, rfl, rfl, (congrArg (fun z => some (Value.int .i64 z)) (rng_next hd1 hi1 (slc_max (ownV_slcT GSlot.enc_ok hs1)))), trivial⟩⟩, Nat.lt_succ_self _⟩
  clear S h; rintro a w3 ⟨x1, v2, h, S⟩; rw [hj1] at h; clear hj1 j1
  refine then_n ?_
  refine f_seq ?_
  refine f_region ?_
  refine lv S (rn_move (S.tm rfl)) rfl ?_; clear S; intro a S
  refine lv S (rn_assign (S.tm rfl)) rfl ?_; clear S; intro a S
  refine l_done ?_
  replace S := S.nf (L' := [.own v2 31 2 x1.length (x1.flatMap GWindow.enc)]) (K' := [(6, v2)]) [true] rfl ⟨rfl, trivial⟩
  refine then_n ?_
  refine wp_ret ?_
  obtain rfl := Option.some.inj h
  exact f_ret S Tryd.results19 rfl (own_retT S (i := 0) rfl rfl)
theorem slices_Equal_Slot_ok (w : World) (v_p_s1 : Value) (p_s1 : List GSlot) (hs_p_s1 : Slc (view w []) 4 v_p_s1 (p_s1.map GSlot.enc)) (v_p_s2 : Value) (p_s2 : List GSlot) (hs_p_s2 : Slc (view w []) 4 v_p_s2 (p_s2.map GSlot.enc)) (r : Bool) (h : slices_Equal_Slot p_s1 p_s2 = some r) :
    Calls Tryd.prog 21 [v_p_s1, v_p_s2].toArray w (Ret w [] fun τ v w' => v = .bool r) := by
  refine f_enter [] [] Tryd.func21 rfl Tryd.ntmps21 rfl (by simp) (by simp [fps]) (by simp [fps]) fun a S => ?_
  unfold slices_Equal_Slot at h
  replace S := S.nf (L' := []) (K' := [(0, v_p_s1), (1, v_p_s2)]) [] rfl ⟨rfl, rfl, trivial⟩
  refine f_seq ?_
  refine f_region ?_
  refine lv S (rn_assign rfl) rfl ?_; clear S; intro a S
  refine l_done ?_
  replace S := S.nf (L' := []) (K' := [(0, v_p_s1), (1, v_p_s2)]) [] rfl ⟨rfl, rfl, trivial⟩
  refine then_n ?_
  refine f_seq ?_
  refine f_seq ?_
  refine f_region ?_
  refine lv S (rn_move (S.tm rfl)) rfl ?_; clear S; intro a S
  refine lv S (rn_lenT sl_32 (S.tm rfl) (slc_len hs_p_s1)) rfl ?_; clear S; intro a S
  refine lv S (rn_move (S.tm rfl)) rfl ?_; clear S; intro a S
  refine lv S (rn_lenT sl_32 (S.tm rfl) (slc_len hs_p_s2)) rfl ?_; clear S; intro a S
  refine lv S (rn_neq (S.tm rfl) (S.tm rfl)) rfl ?_; clear S; intro a S
  refine l_done ?_
  replace S := S.nf (L' := []) (K' := [(0, v_p_s1), (1, v_p_s2), (10, .bool (!decide ((p_s1.length : Int) = (p_s2.length : Int))))]) [] rfl ⟨rfl, rfl, rfl, trivial⟩
  refine then_n ?_
  refine f_cond (S.tm rfl) (fun hb1 => ?_) (fun hb1 => ?_)
  · replace h := iteT h hb1
    refine f_seq ?_
    refine f_region ?_
    refine lv S (rn_assign rfl) rfl ?_; clear S; intro a S
    refine l_done ?_
    replace S := S.nf (L' := []) (K' := [(4, .bool false)]) [] rfl ⟨rfl, trivial⟩
    refine then_n ?_
    refine wp_ret ?_
    refine then_r ?_
    obtain rfl := Option.some.inj h
    exact f_ret S Tryd.results21 rfl rfl
  · replace h := iteF h hb1
    refine wp_skip ?_
    refine then_n ?_
    refine f_seq ?_
    refine f_seq ?_
    refine f_region ?_
    refine lv S (rn_move (S.tm rfl)) rfl ?_; clear S; intro a S
    refine lv S (rn_lenT sl_32 (S.tm rfl) (slc_len hs_p_s1)) rfl ?_; clear S; intro a S
    refine lv S (rn_move rfl) rfl ?_; clear S; intro a S
    refine l_done ?_
    replace S := S.nf (L' := []) (K' := [(0, v_p_s1), (1, v_p_s2), (12, .int .i64 (p_s1.length : Int)), (13, .int .i64 0)]) [] rfl ⟨rfl, rfl, rfl, rfl, trivial⟩
    refine then_n ?_
    obtain ⟨j1, hj1, h⟩ := joinE h
    refine f_join (fun a w' => j1 = some r ∧ Sx w [] nov [] [] 26 a w') ?_ ?_
    · refine wp_block ?_
      refine f_loop (fun (ys1 : List GSlot) a w' => ∃ i1 : Nat, (∃ dn, p_s1 = dn ++ ys1 ∧ dn.length = i1) ∧ slices_Equal_Slot_l1 p_s2 j1 ys1 i1 = some r ∧ Sx w [] nov [] [(0, v_p_s1), (1, v_p_s2), (12, .int .i64 (p_s1.length : Int)), (13, .int .i64 (i1 : Int))] 26 a w') List.length p_s1 ⟨0, ⟨[], rfl, rfl⟩, h, S.nf [] rfl ⟨rfl, rfl, rfl, rfl, trivial⟩⟩ ?_
      clear S h; rintro ys1 a w1 ⟨i1, ⟨dn, hd1, hi1⟩, h, S⟩
      cases ys1 with
      | nil =>
        rw [slices_Equal_Slot_l1.eq_1] at h
        refine f_seq ?_
        refine f_region ?_
        refine lv S (rn_lss (S.tm rfl) (S.tm rfl)) rfl ?_; clear S; intro a S
        refine l_done ?_
        replace S := S.nf (L' := []) (K' := [(0, v_p_s1), (1, v_p_s2), (12, .int .i64 (p_s1.length : Int)), (13, .int .i64 (i1 : Int)), (14, .bool (decide ((i1 : Int) < (p_s1.length : Int))))]) [] rfl ⟨rfl, rfl, rfl, rfl, rfl, trivial⟩
        refine then_n ?_
        refine f_seq ?_
        refine wp_cond_false ((S.tm rfl).trans (congrArg Value.bool (rng_nil hd1 hi1))) ?_
        refine wp_exit ?_
        refine then_x ?_
        refine then_x ?_
        refine x_same ?_
        refine then_n ?_
        exact ⟨h, S.nf [] rfl trivial⟩
      | cons y1 ys1 =>
        rw [slices_Equal_Slot_l1.eq_2] at h
        refine f_seq ?_
        refine f_region ?_
        refine lv S (rn_lss (S.tm rfl) (S.tm rfl)) rfl ?_; clear S; intro a S
        refine l_done ?_
        replace S := S.nf (L' := []) (K' := [(0, v_p_s1), (1, v_p_s2), (12, .int .i64 (p_s1.length : Int)), (13, .int .i64 (i1 : Int)), (14, .bool (decide ((i1 : Int) < (p_s1.length : Int))))]) [] rfl ⟨rfl, rfl, rfl, rfl, rfl, trivial⟩
        refine then_n ?_
        refine f_seq ?_
        refine wp_cond_true ((S.tm rfl).trans (congrArg Value.bool (rng_cons hd1 hi1))) ?_
        refine wp_skip ?_
        refine then_n ?_
        refine f_seq ?_
        refine wp_block ?_
        refine f_seq ?_
        refine f_region ?_
        refine lv S (rn_move (S.tm rfl)) rfl ?_; clear S; intro a S
        refine lv S (rn_assign (S.tm rfl)) rfl ?_; clear S; intro a S
        refine l_done ?_
        replace S := S.nf (L' := []) (K' := [(0, v_p_s1), (1, v_p_s2), (5, .int .i64 (i1 : Int)), (12, .int .i64 (p_s1.length : Int)), (13, .int .i64 (i1 : Int))]) [] rfl ⟨rfl, rfl, rfl, rfl, rfl, trivial⟩
        refine then_n ?_
        refine f_seq ?_
        obtain ⟨hc1, h⟩ := chkE h
        refine d_region ([]) Tryd.mixed S rfl (by kernel_rfl) ?_; clear S; intro w3 hk1 hsel S
        refine d_quiet 0 S hsel rfl (by kernel_rfl) (by kernel_rfl) rfl (fun _ hw => (rn_move (S.tm rfl))) ?_; clear S; intro a S
        refine d_quiet 1 S hsel rfl (by kernel_rfl) (by kernel_rfl) rfl (fun _ hw => (rn_move (S.tm rfl))) ?_; clear S; intro a S
        obtain ⟨b3, o3, hm3, hr3⟩ := rn_indexT (a := a) (x := .tmp 16) (y := .tmp 17) (ty := 0) sl_32 (hs_p_s1.mono (S.le_arg nil_sub)) (get_mid hd1 hi1) rfl (S.tm rfl) (S.tm rfl)
        refine d_quiet 2 S hsel rfl (by kernel_rfl) (by kernel_rfl) rfl (fun _ hw => hr3 _) ?_; clear S; intro a S
        clear hr3
        refine d_quiet 3 S hsel rfl (by kernel_rfl) (by kernel_rfl) rfl (fun _ hw => (rn_ldA Tryd.isAgg53 Tryd.sizeOf53 (off := o3) (o := 0) (part := [.string y1.Item, .int .i64 y1.Heat, .int .i64 y1.Time.From, .int .i64 y1.Time.To]) rfl rfl (S.tm rfl) (hm3.kept hw))) ?_; clear S; intro a S
        refine d_quiet 4 S hsel rfl (by kernel_rfl) (by kernel_rfl) rfl (fun _ hw => (rn_move (S.tm rfl))) ?_; clear S; intro a S
        refine d_quiet 5 S hsel rfl (by kernel_rfl) (by kernel_rfl) rfl (fun _ hw => (rn_move (S.tm rfl))) ?_; clear S; intro a S
        obtain ⟨b4, o4, hm4, hr4⟩ := rn_indexT (a := a) (x := .tmp 20) (y := .tmp 21) (ty := 0) sl_32 (hs_p_s2.mono (S.le_arg nil_sub)) (inB_get hc1).1 (inB_get hc1).2 (S.tm rfl) (S.tm rfl)
        refine d_quiet 6 S hsel rfl (by kernel_rfl) (by kernel_rfl) rfl (fun _ hw => hr4 _) ?_; clear S; intro a S
        clear hr4
        refine d_quiet 7 S hsel rfl (by kernel_rfl) (by kernel_rfl) rfl (fun _ hw => (rn_ldA Tryd.isAgg53 Tryd.sizeOf53 (off := o4) (o := 0) (part := [.string ((nth p_s2 (i1 : Int)).Item), .int .i64 ((nth p_s2 (i1 : Int)).Heat), .int .i64 (((nth p_s2 (i1 : Int)).Time).From), .int .i64 (((nth p_s2 (i1 : Int)).Time).To)]) rfl rfl (S.tm rfl) (hm4.kept hw))) ?_; clear S; intro a S
        refine d_quiet 8 S hsel rfl (by kernel_rfl) (by kernel_rfl) rfl (fun _ hw => (rn_neq_53 (m := y1) (n := (GSlot.mk ((nth p_s2 (i1 : Int)).Item) ((nth p_s2 (i1 : Int)).Heat) ((nth p_s2 (i1 : Int)).Time))) (S.tm rfl) (S.tm rfl))) ?_; clear S; intro a S
        refine d_end (by kernel_rfl) ?_
        clear hsel
        replace S := S.nf (L' := []) (K' := [(0, v_p_s1), (1, v_p_s2), (12, .int .i64 (p_s1.length : Int)), (13, .int .i64 (i1 : Int)), (24, .bool (!decide (y1 = (GSlot.mk ((nth p_s2 (i1 : Int)).Item) ((nth p_s2 (i1 : Int)).Heat) ((nth p_s2 (i1 : Int)).Time)))))]) [] rfl ⟨rfl, rfl, rfl, rfl, rfl, trivial⟩
        refine then_n ?_
        refine f_cond (S.tm rfl) (fun hb2 => ?_) (fun hb2 => ?_)
        · replace h := iteT h hb2
          refine f_seq ?_
          refine f_region ?_
          refine lv S (rn_assign rfl) rfl ?_; clear S; intro a S
          refine l_done ?_
          replace S := S.nf (L' := []) (K' := [(4, .bool false)]) [] rfl ⟨rfl, trivial⟩
          refine then_n ?_
          refine wp_ret ?_
          refine blk_r ?_
          refine then_r ?_
          refine then_r ?_
          refine blk_r ?_
          refine then_r ?_
          refine then_r ?_
          obtain rfl := Option.some.inj h
          exact f_ret S Tryd.results21 rfl rfl
        · replace h := iteF h hb2
          refine wp_skip ?_
          refine blk_n ?_
          refine then_n ?_
          refine f_region ?_
          refine lv S (rn_add (S.tm rfl) rfl) rfl ?_; clear S; intro a S
          refine lv S (rn_move (S.tm rfl)) rfl ?_; clear S; intro a S
          refine l_done ?_
          replace S := S.nf (L' := []) (K' := [(0, v_p_s1), (1, v_p_s2), (12, .int .i64 (p_s1.length : Int)), (13, .int .i64 (W ((i1 : Int) + 1)))]) [] rfl ⟨rfl, rfl, rfl, rfl, trivial⟩
          refine then_n ?_
          exact ⟨ys1, ⟨i1 + 1, ⟨_, (hd1).trans (List.append_cons _ _ _), by simp [hi1]⟩, h, S.nf [] rfl ⟨rfl, rfl, rfl, (congrArg (fun z => some (Value.int .i64 z)) (rng_next hd1 hi1 (slc_max hs_p_s1))), trivial⟩⟩, Nat.lt_succ_self _⟩
    clear S h; rintro a w2 ⟨h, S⟩; rw [hj1] at h; clear hj1 j1
    refine then_n ?_
    refine f_seq ?_
    refine f_region ?_
    refine lv S (rn_assign rfl) rfl ?_; clear S; intro a S
    refine l_done ?_
    replace S := S.nf (L' := []) (K' := [(4, .bool true)]) [] rfl ⟨rfl, trivial⟩
    refine then_n ?_
    refine wp_ret ?_
    obtain rfl := Option.some.inj h
    exact f_ret S Tryd.results21 rfl rfl
theorem slices_Equal_Window_ok (w : World) (v_p_s1 : Value) (p_s1 : List GWindow) (hs_p_s1 : Slc (view w []) 2 v_p_s1 (p_s1.map GWindow.enc)) (v_p_s2 : Value) (p_s2 : List GWindow) (hs_p_s2 : Slc (view w []) 2 v_p_s2 (p_s2.map GWindow.enc)) (r : Bool) (h : slices_Equal_Window p_s1 p_s2 = some r) :
    Calls Tryd.prog 22 [v_p_s1, v_p_s2].toArray w (Ret w [] fun τ v w' => v = .bool r) := by
  refine f_enter [] [] Tryd.func22 rfl Tryd.ntmps22 rfl (by simp) (by simp [fps]) (by simp [fps]) fun a S => ?_
  unfold slices_Equal_Window at h
  replace S := S.nf (L' := []) (K' := [(0, v_p_s1), (1, v_p_s2)]) [] rfl ⟨rfl, rfl, trivial⟩
  refine f_seq ?_
  refine f_region ?_
  refine lv S (rn_assign rfl) rfl ?_; clear S; intro a S
  refine l_done ?_
  replace S := S.nf (L' := []) (K' := [(0, v_p_s1), (1, v_p_s2)]) [] rfl ⟨rfl, rfl, trivial⟩
  refine then_n ?_
  refine f_seq ?_
  refine f_seq ?_
  refine f_region ?_
  refine lv S (rn_move (S.tm rfl)) rfl ?_; clear S; intro a S
  refine lv S (rn_lenT sl_39 (S.tm rfl) (slc_len hs_p_s1)) rfl ?_; clear S; intro a S
  refine lv S (rn_move (S.tm rfl)) rfl ?_; clear S; intro a S
  refine lv S (rn_lenT sl_39 (S.tm rfl) (slc_len hs_p_s2)) rfl ?_; clear S; intro a S
  refine lv S (rn_neq (S.tm rfl) (S.tm rfl)) rfl ?_; clear S; intro a S
  refine l_done ?_
  replace S := S.nf (L' := []) (K' := [(0, v_p_s1), (1, v_p_s2), (10, .bool (!decide ((p_s1.length : Int) = (p_s2.length : Int))))]) [] rfl ⟨rfl, rfl, rfl, trivial⟩
  refine then_n ?_
  refine f_cond (S.tm rfl) (fun hb1 => ?_) (fun hb1 => ?_)
  · replace h := iteT h hb1
    refine f_seq ?_
    refine f_region ?_
    refine lv S (rn_assign rfl) rfl ?_; clear S; intro a S
    refine l_done ?_
    replace S := S.nf (L' := []) (K' := [(4, .bool false)]) [] rfl ⟨rfl, trivial⟩
    refine then_n ?_
    refine wp_ret ?_
    refine then_r ?_
    obtain rfl := Option.some.inj h
    exact f_ret S Tryd.results22 rfl rfl
  · replace h := iteF h hb1
    refine wp_skip ?_
    refine then_n ?_
    refine f_seq ?_
    refine f_seq ?_
    refine f_region ?_
    refine lv S (rn_move (S.tm rfl)) rfl ?_; clear S; intro a S
    refine lv S (rn_lenT sl_39 (S.tm rfl) (slc_len hs_p_s1)) rfl ?_; clear S; intro a S
    refine lv S (rn_move rfl) rfl ?_; clear S; intro a S
    refine l_done ?_
    replace S := S.nf (L' := []) (K' := [(0, v_p_s1), (1, v_p_s2), (12, .int .i64 (p_s1.length : Int)), (13, .int .i64 0)]) [] rfl ⟨rfl, rfl, rfl, rfl, trivial⟩
    refine then_n ?_
    obtain ⟨j1, hj1, h⟩ := joinE h
    refine f_join (fun a w' => j1 = some r ∧ Sx w [] nov [] [] 26 a w') ?_ ?_
    · refine wp_block ?_
      refine f_loop (fun (ys1 : List GWindow) a w' => ∃ i1 : Nat, (∃ dn, p_s1 = dn ++ ys1 ∧ dn.length = i1) ∧ slices_Equal_Window_l1 p_s2 j1 ys1 i1 = some r ∧ Sx w [] nov [] [(0, v_p_s1), (1, v_p_s2), (12, .int .i64 (p_s1.length : Int)), (13, .int .i64 (i1 : Int))] 26 a w') List.length p_s1 ⟨0, ⟨[], rfl, rfl⟩, h, S.nf [] rfl ⟨rfl, rfl, rfl, rfl, trivial⟩⟩ ?_
      clear S h; rintro ys1 a w1 ⟨i1, ⟨dn, hd1, hi1⟩, h, S⟩
      cases ys1 with
      | nil =>
        rw [slices_Equal_Window_l1.eq_1] at h
        refine f_seq ?_
        refine f_region ?_
        refine lv S (rn_lss (S.tm rfl) (S.tm rfl)) rfl ?_; clear S; intro a S
        refine l_done ?_
        replace S := S.nf (L' := []) (K' := [(0, v_p_s1), (1, v_p_s2), (12, .int .i64 (p_s1.length : Int)), (13, .int .i64 (i1 : Int)), (14, .bool (decide ((i1 : Int) < (p_s1.length : Int))))]) [] rfl ⟨rfl, rfl, rfl, rfl, rfl, trivial⟩
        refine then_n ?_
        refine f_seq ?_
        refine wp_cond_false ((S.tm rfl).trans (congrArg Value.bool (rng_nil hd1 hi1))) ?_
        refine wp_exit ?_
        refine then_x ?_
        refine then_x ?_
        refine x_same ?_
        refine then_n ?_
        exact ⟨h, S.nf [] rfl trivial⟩
      | cons y1 ys1 =>
        rw [slices_Equal_Window_l1.eq_2] at h
        refine f_seq ?_
        refine f_region ?_
        refine lv S (rn_lss (S.tm rfl) (S.tm rfl)) rfl ?_; clear S; intro a S
        refine l_done ?_
        replace S := S.nf (L' := []) (K' := [(0, v_p_s1), (1, v_p_s2), (12, .int .i64 (p_s1.length : Int)), (13, .int .i64 (i1 : Int)), (14, .bool (decide ((i1 : Int) < (p_s1.length : Int))))]) [] rfl ⟨rfl, rfl, rfl, rfl, rfl, trivial⟩
        refine then_n ?_
        refine f_seq ?_
        refine wp_cond_true ((S.tm rfl).trans (congrArg Value.bool (rng_cons hd1 hi1))) ?_
        refine wp_skip ?_
        refine then_n ?_
        refine f_seq ?_
        refine wp_block ?_
        refine f_seq ?_
        refine f_region ?_
        refine lv S (rn_move (S.tm rfl)) rfl ?_; clear S; intro a S
        refine lv S (rn_assign (S.tm rfl)) rfl ?_; clear S; intro a S
        refine l_done ?_
        replace S := S.nf (L' := []) (K' := [(0, v_p_s1), (1, v_p_s2), (5, .int .i64 (i1 : Int)), (12, .int .i64 (p_s1.length : Int)), (13, .int .i64 (i1 : Int))]) [] rfl ⟨rfl, rfl, rfl, rfl, rfl, trivial⟩
        refine then_n ?_
        refine f_seq ?_
        obtain ⟨hc1, h⟩ := chkE h
        refine d_region ([]) Tryd.mixed S rfl (by kernel_rfl) ?_; clear S; intro w3 hk1 hsel S
        refine d_quiet 0 S hsel rfl (by kernel_rfl) (by kernel_rfl) rfl (fun _ hw => (rn_move (S.tm rfl))) ?_; clear S; intro a S
        refine d_quiet 1 S hsel rfl (by kernel_rfl) (by kernel_rfl) rfl (fun _ hw => (rn_move (S.tm rfl))) ?_; clear S; intro a S
        obtain ⟨b3, o3, hm3, hr3⟩ := rn_indexT (a := a) (x := .tmp 16) (y := .tmp 17) (ty := 0) sl_39 (hs_p_s1.mono (S.le_arg nil_sub)) (get_mid hd1 hi1) rfl (S.tm rfl) (S.tm rfl)
        refine d_quiet 2 S hsel rfl (by kernel_rfl) (by kernel_rfl) rfl (fun _ hw => hr3 _) ?_; clear S; intro a S
        clear hr3
        refine d_quiet 3 S hsel rfl (by kernel_rfl) (by kernel_rfl) rfl (fun _ hw => (rn_ldA Tryd.isAgg31 Tryd.sizeOf31 (off := o3) (o := 0) (part := [.int .i64 y1.From, .int .i64 y1.To]) rfl rfl (S.tm rfl) (hm3.kept hw))) ?_; clear S; intro a S
        refine d_quiet 4 S hsel rfl (by kernel_rfl) (by kernel_rfl) rfl (fun _ hw => (rn_move (S.tm rfl))) ?_; clear S; intro a S
        refine d_quiet 5 S hsel rfl (by kernel_rfl) (by kernel_rfl) rfl (fun _ hw => (rn_move (S.tm rfl))) ?_; clear S; intro a S
        obtain ⟨b4, o4, hm4, hr4⟩ := rn_indexT (a := a) (x := .tmp 20) (y := .tmp 21) (ty := 0) sl_39 (hs_p_s2.mono (S.le_arg nil_sub)) (inB_get hc1).1 (inB_get hc1).2 (S.tm rfl) (S.tm rfl)
        refine d_quiet 6 S hsel rfl (by kernel_rfl) (by kernel_rfl) rfl (fun _ hw => hr4 _) ?_; clear S; intro a S
        clear hr4
        refine d_quiet 7 S hsel rfl (by kernel_rfl) (by kernel_rfl) rfl (fun _ hw => (rn_ldA Tryd.isAgg31 Tryd.sizeOf31 (off := o4) (o := 0) (part := [.int .i64 ((nth p_s2 (i1 : Int)).From), .int .i64 ((nth p_s2 (i1 : Int)).To)]) rfl rfl (S.tm rfl) (hm4.kept hw))) ?_; clear S; intro a S
        refine d_quiet 8 S hsel rfl (by kernel_rfl) (by kernel_rfl) rfl (fun _ hw => (rn_neq_31 (m := y1) (n := (nth p_s2 (i1 : Int))) (S.tm rfl) (S.tm rfl))) ?_; clear S; intro a S
        refine d_end (by kernel_rfl) ?_
        clear hsel
        replace S := S.nf (L' := []) (K' := [(0, v_p_s1), (1, v_p_s2), (12, .int .i64 (p_s1.length : Int)), (13, .int .i64 (i1 : Int)), (24, .bool (!decide (y1 = (nth p_s2 (i1 : Int)))))]) [] rfl ⟨rfl, rfl, rfl, rfl, rfl, trivial⟩
        refine then_n ?_
        refine f_cond (S.tm rfl) (fun hb2 => ?_) (fun hb2 => ?_)
        · replace h := iteT h hb2
          refine f_seq ?_
          refine f_region ?_
          refine lv S (rn_assign rfl) rfl ?_; clear S; intro a S
          refine l_done ?_
          replace S := S.nf (L' := []) (K' := [(4, .bool false)]) [] rfl ⟨rfl, trivial⟩
          refine then_n ?_
          refine wp_ret ?_
          refine blk_r ?_
          refine then_r ?_
          refine then_r ?_
          refine blk_r ?_
          refine then_r ?_
          refine then_r ?_
          obtain rfl := Option.some.inj h
          exact f_ret S Tryd.results22 rfl rfl
        · replace h := iteF h hb2
          refine wp_skip ?_
          refine blk_n ?_
          refine then_n ?_
          refine f_region ?_
          refine lv S (rn_add (S.tm rfl) rfl) rfl ?_; clear S; intro a S
          refine lv S (rn_move (S.tm rfl)) rfl ?_; clear S; intro a S
          refine l_done ?_
          replace S := S.nf (L' := []) (K' := [(0, v_p_s1), (1, v_p_s2), (12, .int .i64 (p_s1.length : Int)), (13, .int .i64 (W ((i1 : Int) + 1)))]) [] rfl ⟨rfl, rfl, rfl, rfl, trivial⟩
          refine then_n ?_
          exact ⟨ys1, ⟨i1 + 1, ⟨_, (hd1).trans (List.append_cons _ _ _), by simp [hi1]⟩, h, S.nf [] rfl ⟨rfl, rfl, rfl, (congrArg (fun z => some (Value.int .i64 z)) (rng_next hd1 hi1 (slc_max hs_p_s1))), trivial⟩⟩, Nat.lt_succ_self _⟩
    clear S h; rintro a w2 ⟨h, S⟩; rw [hj1] at h; clear hj1 j1
    refine then_n ?_
    refine f_seq ?_
    refine f_region ?_
    refine lv S (rn_assign rfl) rfl ?_; clear S; intro a S
    refine l_done ?_
    replace S := S.nf (L' := []) (K' := [(4, .bool true)]) [] rfl ⟨rfl, trivial⟩
    refine then_n ?_
    refine wp_ret ?_
    obtain rfl := Option.some.inj h
    exact f_ret S Tryd.results22 rfl rfl
theorem tumblaw2_timed_ok (w : World) (r : Bool) (h : tumblaw2_timed = some r) :
    Calls Tryd.prog 23 [].toArray w (Ret w [] fun τ v w' => v = .bool r) := by
  refine f_enter [] [] Tryd.func23 rfl Tryd.ntmps23 rfl (by simp) (by simp [fps]) (by simp [fps]) fun a S => ?_
  unfold tumblaw2_timed at h
  replace S := S.nf (L' := []) (K' := []) [] rfl trivial
  refine f_seq ?_
  refine f_region ?_
  refine lv S (rn_assign rfl) rfl ?_; clear S; intro a S
  refine l_done ?_
  replace S := S.nf (L' := []) (K' := []) [] rfl trivial
  refine then_n ?_
  refine f_seq ?_
  refine f_region ?_
  refine lv S (rn_bld bt_60 (pv := [(0, .string k_a), (1, .int .i64 2), (2, .int .i64 10), (3, .int .i64 5)]) ⟨rfl, rfl, rfl, rfl, rfl, rfl, rfl, rfl, trivial⟩ (cs := [.string k_a, .int .i64 2, .int .i64 10, .int .i64 5, .int .i64 0]) (by kernel_rfl)) rfl ?_; clear S; intro a S
  refine l_buildSlice S Tryd.underlying26 Tryd.sizeOf60 Tryd.zeroValue60 rfl rfl (pv := [(0, .agg #[.string k_a, .int .i64 2, .int .i64 10, .int .i64 5, .int .i64 0])]) ⟨rfl, (S.tm rfl), trivial⟩ (cs := [.string k_a, .int .i64 2, .int .i64 10, .int .i64 5, .int .i64 0]) (by kernel_rfl) rfl ?_; clear S; intro a w1 b1 hz1 hk1 S
  obtain ⟨r1, hr1, h⟩ := bindE h
  refine l_enter S (fun _ => run_call (vs := [.slice (some ⟨b1, 0, none⟩) 1 1, .int .i64 0]) ⟨(S.tm rfl), rfl, trivial⟩ Tryd.call8) (session_Ends_ok _ (.slice (some ⟨b1, 0, none⟩) 1 1) [(GItem.mk k_a 2 10 5 0)] (lit_slcT GItem.enc_ok S (i := 0) rfl rfl rfl rfl ((ne_nil (e' := .blk b1 [.string k_a, .int .i64 2, .int .i64 10, .int .i64 5, .int .i64 0] 60)) _ rfl)) 0 _ hr1) rfl ?_; clear S; intro v1 a w2 hv1 hk2 hn1 S
  subst hv1
  refine lv S (rn_move (S.tm rfl)) rfl ?_; clear S; intro a S
  refine lv S (rn_extract (S.tm rfl) rfl) rfl ?_; clear S; intro a S
  refine lv S (rn_extract (S.tm rfl) rfl) rfl ?_; clear S; intro a S
  refine lv S (rn_assign (S.tm rfl)) rfl ?_; clear S; intro a S
  refine lv S (rn_assign (S.tm rfl)) rfl ?_; clear S; intro a S
  refine l_done ?_
  replace S := S.nf (L' := []) (K' := [(1, .int .i64 r1.1), (2, .int .i64 r1.2)]) [false] rfl ⟨rfl, rfl, trivial⟩
  refine then_n ?_
  refine f_seq ?_
  refine f_region ?_
  refine lv S (rn_move (S.tm rfl)) rfl ?_; clear S; intro a S
  refine lv S (rn_eql (S.tm rfl) rfl) rfl ?_; clear S; intro a S
  refine lv S (rn_move (S.tm rfl)) rfl ?_; clear S; intro a S
  refine f_cutm 3 (fun a w' => Keep [] w2 w' ∧ Sx w [] nov [] [(14, .bool ((decide (r1.2 = 0)) && (decide (r1.1 = 25))))] 15 a w') ?_ ?_
  · rcases Bool.eq_false_or_eq_true (decide (r1.2 = 0)) with hb1 | hb1
    · refine l_want S rfl rfl rfl hb1 ?_
      refine lv S (rn_move (S.tm rfl)) rfl ?_; clear S; intro a S
      refine l_want S rfl rfl rfl hb1 ?_
      refine lv S (rn_eql (S.tm rfl) rfl) rfl ?_; clear S; intro a S
      refine lv S (rn_and_t hb1 (S.tm rfl) (S.tm rfl)) rfl ?_; clear S; intro a S
      refine l_done ?_
      refine then_n ?_
      exact ⟨Keep.refl _ _, S.nf [] rfl ⟨rfl, trivial⟩⟩
    · refine l_skip S rfl rfl rfl (by rw [hb1]; rfl) rfl ?_ rfl; clear S; intro a S
      refine l_skip S rfl rfl rfl (by rw [hb1]; rfl) rfl ?_ rfl; clear S; intro a S
      refine lv S (rn_and_f (decide (r1.1 = 25)) hb1 (S.tm rfl) rfl) rfl ?_; clear S; intro a S
      refine l_done ?_
      refine then_n ?_
      exact ⟨Keep.refl _ _, S.nf [] rfl ⟨rfl, trivial⟩⟩
  clear S; rintro a w3 ⟨hk3, S⟩
  refine lv S (rn_assign (S.tm rfl)) rfl ?_; clear S; intro a S
  refine l_done ?_
  replace S := S.nf (L' := []) (K' := [(0, .bool ((decide (r1.2 = 0)) && (decide (r1.1 = 25))))]) [] rfl ⟨rfl, trivial⟩
  refine then_n ?_
  refine wp_ret ?_
  obtain rfl := Option.some.inj h
  exact f_ret S Tryd.results23 rfl rfl
theorem tumblaw2_SessionsTimed_ok (w : World) (v_p_l : Value) (p_l : List Int) (hs_p_l : Slc (view w []) 1 v_p_l (p_l.map eInt)) (r : Bool) (h : tumblaw2_SessionsTimed p_l = some r) :
    Calls Tryd.prog 3 [v_p_l].toArray w (Ret w [] fun τ v w' => v = .bool r) := by
  refine f_enter [] [] Tryd.func3 rfl Tryd.ntmps3 rfl (by simp) (by simp [fps]) (by simp [fps]) fun a S => ?_
  unfold tumblaw2_SessionsTimed at h
  replace S := S.nf (L' := []) (K' := [(0, v_p_l)]) [] rfl ⟨rfl, trivial⟩
  refine f_seq ?_
  refine f_region ?_
  refine lv S (rn_assign rfl) rfl ?_; clear S; intro a S
  refine l_done ?_
  replace S := S.nf (L' := []) (K' := [(0, v_p_l)]) [] rfl ⟨rfl, trivial⟩
  refine then_n ?_
  refine f_seq ?_
  refine f_region ?_
  refine lv S (rn_move (S.tm rfl)) rfl ?_; clear S; intro a S
  refine lv S (rn_bld bt_25 (pv := [(0, v_p_l)]) ⟨rfl, (S.tm rfl), trivial⟩ (cs := [v_p_l, .int .i64 0]) (by obtain ⟨_, _, hv⟩ := (slc_len hs_p_l); rw [hv]; clear hv; kernel_rfl)) rfl ?_; clear S; intro a S
  refine l_box S (S.tm rfl) (cs := [v_p_l, .int .i64 0]) rfl rfl ?_; clear S; intro a w1 b1 hz1 hk1 S
  refine lv S (rn_assign (S.tm rfl)) rfl ?_; clear S; intro a S
  refine l_done ?_
  replace S := S.nf (L' := [.blk b1 [v_p_l, .int .i64 0] 25]) (K' := [(3, .pointer (some ⟨b1, 0, none⟩))]) [true] rfl ⟨rfl, trivial⟩
  refine then_n ?_
  refine f_seq ?_
  refine f_region ?_
  refine lv S (rn_move (S.tm rfl)) rfl ?_; clear S; intro a S
  obtain ⟨r1, hr1, h⟩ := bindE h
  have hz2 := S.keep.size
  refine l_enter1 0 S (b := b1) rfl rfl (fun _ => .blk b1 [v_p_l, .int .i64 r1.2] 25) (fun _ => run_call (vs := [.pointer (some ⟨b1, 0, none⟩), .int .i64 5]) ⟨(S.tm rfl), rfl, trivial⟩ Tryd.call4) (Stream_Items_ok _ b1 v_p_l p_l (hs_p_l.mono (S.le_arg (fp_sub (i := 0) (e := .blk b1 [v_p_l, .int .i64 0] 25) rfl))) 0 (S.holds _ (List.mem_of_getElem? (i := 0) rfl)) 5 _ hr1) rfl (fun _ _ _ h => ⟨h.1, fun _ hc => by cases hc; rfl⟩) ?_; clear S; intro v1 a w2 hv1 hk2 hn1 S
  replace hv1 := hv1.2
  obtain ⟨φ1, hl1, hm1, S⟩ := S.see' hn1 hz2
  have hs1 := hv1.mono hm1
  refine lv S (rn_move (S.tm rfl)) rfl ?_; clear S; intro a S
  obtain ⟨r2, hr2, h⟩ := bindE h
  refine l_enter1 0 S (b := b1) rfl rfl (fun _ => .blk b1 [v_p_l, .int .i64 r2.2] 25) (fun _ => run_call (vs := [.pointer (some ⟨b1, 0, none⟩)]) ⟨(S.tm rfl), trivial⟩ Tryd.call5) (Stream_SessionStart_ok _ b1 v_p_l p_l (hs_p_l.mono (S.le_arg (fp_sub (i := 0) (e := .blk b1 [v_p_l, .int .i64 r1.2] 25) rfl))) r1.2 (S.holds _ (List.mem_of_getElem? (i := 0) rfl)) _ hr2) rfl (fun _ _ _ h => ⟨h.1, fun _ hc => by cases hc; rfl⟩) ?_; clear S; intro v2 a w3 hv2 hk3 hn2 S
  replace hv2 := hv2.2
  subst hv2
  refine lv S (rn_move (S.tm rfl)) rfl ?_; clear S; intro a S
  refine l_buildSlice S Tryd.underlying22 Tryd.sizeOf3 Tryd.zeroValue3 rfl rfl (pv := [(0, .int .i64 1), (1, .int .i64 10), (2, .int .i64 50), (3, .int .i64 100), (4, .int .i64 0), (5, .int .i64 3600001)]) ⟨rfl, rfl, rfl, rfl, rfl, rfl, rfl, rfl, rfl, rfl, rfl, rfl, trivial⟩ (cs := [.int .i64 1, .int .i64 10, .int .i64 50, .int .i64 100, .int .i64 0, .int .i64 3600001]) (by kernel_rfl) rfl ?_; clear S; intro a w4 b2 hz3 hk4 S
  obtain ⟨r3, hr3, h⟩ := bindE h
  refine l_enter1 1 S (b := b1) rfl rfl (fun _ => .blk b1 [v_p_l, .int .i64 r3.2] 25) (fun _ => run_call (vs := [.pointer (some ⟨b1, 0, none⟩), .slice (some ⟨b2, 0, none⟩) 6 6]) ⟨(S.tm rfl), (S.tm rfl), trivial⟩ Tryd.call6) (Stream_Pick_ok _ b1 v_p_l p_l (hs_p_l.mono (S.le_arg (fp_sub (i := 1) (e := .blk b1 [v_p_l, .int .i64 r2.2] 25) rfl))) r2.2 (S.holds _ (List.mem_of_getElem? (i := 1) rfl)) (.slice (some ⟨b2, 0, none⟩) 6 6) [1, 10, 50, 100, 0, 3600001] (lit_slcT enc_int S (i := 0) rfl rfl rfl rfl ((ne_fp (i := 1) (j := 0) (e := .blk b1 [v_p_l, .int .i64 r2.2] 25) (e' := .blk b2 [.int .i64 1, .int .i64 10, .int .i64 50, .int .i64 100, .int .i64 0, .int .i64 3600001] 3) S rfl rfl rfl) _ rfl)) _ hr3) rfl (fun _ _ _ h => ⟨h.1, fun _ hc => by cases hc; rfl⟩) ?_; clear S; intro v3 a w5 hv3 hk5 hn3 S
  replace hv3 := hv3.2
  subst hv3
  refine lv S (rn_assign (S.tm rfl)) rfl ?_; clear S; intro a S
  refine lv S (rn_assign (S.tm rfl)) rfl ?_; clear S; intro a S
  refine lv S (rn_assign (S.tm rfl)) rfl ?_; clear S; intro a S
  refine l_done ?_
  replace S := S.nf (L' := [.blk b1 [v_p_l, .int .i64 r3.2] 25]) (K' := [(3, .pointer (some ⟨b1, 0, none⟩)), (4, v1), (5, .int .i64 r2.1), (6, .int .i64 r3.1)]) [false, true] rfl ⟨rfl, rfl, rfl, rfl, trivial⟩
  refine then_n ?_
  refine f_seq ?_
  refine f_region ?_
  refine lv S (rn_move (S.tm rfl)) rfl ?_; clear S; intro a S
  refine l_buildSlice S Tryd.underlying22 Tryd.sizeOf3 Tryd.zeroValue3 rfl rfl (pv := [(0, .int .i64 0), (1, .int .i64 100), (2, .int .i64 500), (3, .int .i64 (-1))]) ⟨rfl, rfl, rfl, rfl, rfl, rfl, rfl, rfl, trivial⟩ (cs := [.int .i64 0, .int .i64 100, .int .i64 500, .int .i64 (-1)]) (by kernel_rfl) rfl ?_; clear S; intro a w6 b3 hz4 hk6 S
  obtain ⟨r4, hr4, h⟩ := bindE h
  refine l_enter1 1 S (b := b1) rfl rfl (fun _ => .blk b1 [v_p_l, .int .i64 r4.2] 25) (fun _ => run_call (vs := [.pointer (some ⟨b1, 0, none⟩), .slice (some ⟨b3, 0, none⟩) 4 4]) ⟨(S.tm rfl), (S.tm rfl), trivial⟩ Tryd.call6) (Stream_Pick_ok _ b1 v_p_l p_l (hs_p_l.mono (S.le_arg (fp_sub (i := 1) (e := .blk b1 [v_p_l, .int .i64 r3.2] 25) rfl))) r3.2 (S.holds _ (List.mem_of_getElem? (i := 1) rfl)) (.slice (some ⟨b3, 0, none⟩) 4 4) [0, 100, 500, (-1)] (lit_slcT enc_int S (i := 0) rfl rfl rfl rfl ((ne_fp (i := 1) (j := 0) (e := .blk b1 [v_p_l, .int .i64 r3.2] 25) (e' := .blk b3 [.int .i64 0, .int .i64 100, .int .i64 500, .int .i64 (-1)] 3) S rfl rfl rfl) _ rfl)) _ hr4) rfl (fun _ _ _ h => ⟨h.1, fun _ hc => by cases hc; rfl⟩) ?_; clear S; intro v4 a w7 hv4 hk7 hn4 S
  replace hv4 := hv4.2
  subst hv4
  refine lv S (rn_move (S.tm rfl)) rfl ?_; clear S; intro a S
  refine l_buildSlice S Tryd.underlying22 Tryd.sizeOf3 Tryd.zeroValue3 rfl rfl (pv := [(0, .int .i64 0), (1, .int .i64 300), (2, .int .i64 700), (3, .int .i64 2000), (4, .int .i64 345686400000), (5, .int .i64 345686400001)]) ⟨rfl, rfl, rfl, rfl, rfl, rfl, rfl, rfl, rfl, rfl, rfl, rfl, trivial⟩ (cs := [.int .i64 0, .int .i64 300, .int .i64 700, .int .i64 2000, .int .i64 345686400000, .int .i64 345686400001]) (by kernel_rfl) rfl ?_; clear S; intro a w8 b4 hz5 hk8 S
  obtain ⟨r5, hr5, h⟩ := bindE h
  refine l_enter1 2 S (b := b1) rfl rfl (fun _ => .blk b1 [v_p_l, .int .i64 r5.2] 25) (fun _ => run_call (vs := [.pointer (some ⟨b1, 0, none⟩), .slice (some ⟨b4, 0, none⟩) 6 6]) ⟨(S.tm rfl), (S.tm rfl), trivial⟩ Tryd.call6) (Stream_Pick_ok _ b1 v_p_l p_l (hs_p_l.mono (S.le_arg (fp_sub (i := 2) (e := .blk b1 [v_p_l, .int .i64 r4.2] 25) rfl))) r4.2 (S.holds _ (List.mem_of_getElem? (i := 2) rfl)) (.slice (some ⟨b4, 0, none⟩) 6 6) [0, 300, 700, 2000, 345686400000, 345686400001] (lit_slcT enc_int S (i := 0) rfl rfl rfl rfl ((ne_fp (i := 2) (j := 0) (e := .blk b1 [v_p_l, .int .i64 r4.2] 25) (e' := .blk b4 [.int .i64 0, .int .i64 300, .int .i64 700, .int .i64 2000, .int .i64 345686400000, .int .i64 345686400001] 3) S rfl rfl rfl) _ rfl)) _ hr5) rfl (fun _ _ _ h => ⟨h.1, fun _ hc => by cases hc; rfl⟩) ?_; clear S; intro v5 a w9 hv5 hk9 hn5 S
  replace hv5 := hv5.2
  subst hv5
  refine lv S (rn_bld bt_31 (pv := [(0, .int .i64 r4.1), (1, .int .i64 r5.1)]) ⟨rfl, (S.tm rfl), rfl, (S.tm rfl), trivial⟩ (cs := [.int .i64 r4.1, .int .i64 r5.1]) (by kernel_rfl)) rfl ?_; clear S; intro a S
  refine l_alloc S Tryd.zeroValue31 (cs := [.int .i64 0, .int .i64 0]) rfl rfl ?_; clear S; intro a w10 b5 hz6 hk10 S
  refine l_store S (S.tm rfl) (S.tm rfl) (i := 0) (off := 0) rfl Tryd.sizeOf31 (vs := [.int .i64 r4.1, .int .i64 r5.1]) rfl rfl rfl rfl ?_; clear S; intro w11 hk11 S
  refine l_done ?_
  replace S := S.nf (L' := [.blk b5 [.int .i64 r4.1, .int .i64 r5.1] 31]) (K' := [(4, v1), (5, .int .i64 r2.1), (6, .int .i64 r3.1), (7, .pointer (some ⟨b5, 0, none⟩))]) [true, false, false, false] rfl ⟨rfl, rfl, rfl, rfl, trivial⟩
  refine then_n ?_
  refine f_seq ?_
  refine f_region ?_
  refine lv S (rn_move (S.tm rfl)) rfl ?_; clear S; intro a S
  refine lv S (rn_move (S.tm rfl)) rfl ?_; clear S; intro a S
  obtain ⟨r6, hr6, h⟩ := bindE h
  have hz7 := S.keep.size
  refine l_enter S (fun _ => run_call (vs := [v1, .int .i64 r2.1]) ⟨(S.tm rfl), (S.tm rfl), trivial⟩ Tryd.call7) (session_Timetable_ok _ v1 r1.1 (((ownV_slcT GItem.enc_ok hs1)).mono (S.le_new nil_sub)) r2.1 _ hr6) rfl ?_; clear S; intro v6 a w12 hv6 hk12 hn6 S
  obtain ⟨u2, rfl, ho2⟩ := hv6
  obtain ⟨φ2, hl2, hm2, S⟩ := S.see' hn6 hz7
  have hs2 := ho2.mono hm2
  refine lv S (rn_move (S.tm rfl)) rfl ?_; clear S; intro a S
  refine lv S (rn_extract (S.tm rfl) rfl) rfl ?_; clear S; intro a S
  refine lv S (rn_extract (S.tm rfl) rfl) rfl ?_; clear S; intro a S
  refine lv S (rn_assign (S.tm rfl)) rfl ?_; clear S; intro a S
  refine lv S (rn_assign (S.tm rfl)) rfl ?_; clear S; intro a S
  refine l_done ?_
  replace S := S.nf (L' := [.blk b5 [.int .i64 r4.1, .int .i64 r5.1] 31]) (K' := [(4, v1), (5, .int .i64 r2.1), (6, .int .i64 r3.1), (7, .pointer (some ⟨b5, 0, none⟩)), (8, u2), (9, .int .i64 r6.2)]) [true] rfl ⟨rfl, rfl, rfl, rfl, rfl, rfl, trivial⟩
  refine then_n ?_
  refine f_seq ?_
  refine f_region ?_
  refine lv S (rn_move (S.tm rfl)) rfl ?_; clear S; intro a S
  refine lv S (rn_move (S.tm rfl)) rfl ?_; clear S; intro a S
  obtain ⟨r7, hr7, h⟩ := bindE h
  refine l_enter S (fun _ => run_call (vs := [v1, .int .i64 r2.1]) ⟨(S.tm rfl), (S.tm rfl), trivial⟩ Tryd.call8) (session_Ends_ok _ v1 r1.1 (((ownV_slcT GItem.enc_ok hs1).mono hl2).mono (S.le_new nil_sub)) r2.1 _ hr7) rfl ?_; clear S; intro v7 a w13 hv7 hk13 hn7 S
  subst hv7
  refine lv S (rn_move (S.tm rfl)) rfl ?_; clear S; intro a S
  refine lv S (rn_extract (S.tm rfl) rfl) rfl ?_; clear S; intro a S
  refine lv S (rn_extract (S.tm rfl) rfl) rfl ?_; clear S; intro a S
  refine lv S (rn_assign (S.tm rfl)) rfl ?_; clear S; intro a S
  refine lv S (rn_assign (S.tm rfl)) rfl ?_; clear S; intro a S
  refine l_done ?_
  replace S := S.nf (L' := [.blk b5 [.int .i64 r4.1, .int .i64 r5.1] 31]) (K' := [(4, v1), (5, .int .i64 r2.1), (6, .int .i64 r3.1), (7, .pointer (some ⟨b5, 0, none⟩)), (8, u2), (9, .int .i64 r6.2), (10, .int .i64 r7.1), (11, .int .i64 r7.2)]) [true] rfl ⟨rfl, rfl, rfl, rfl, rfl, rfl, rfl, rfl, trivial⟩
  refine then_n ?_
  refine f_seq ?_
  refine f_region ?_
  refine lv S (rn_move (S.tm rfl)) rfl ?_; clear S; intro a S
  refine lv S (rn_ldA Tryd.isAgg31 Tryd.sizeOf31 (off := 0) (o := 0) (part := [.int .i64 r4.1, .int .i64 r5.1]) rfl rfl (S.tm rfl) (S.cellsAt (i := 0) rfl)) rfl ?_; clear S; intro a S
  obtain ⟨r8, hr8, h⟩ := bindE h
  refine l_enter S (fun _ => run_call (vs := [v1, .agg (GWindow.enc (GWindow.mk r4.1 r5.1)).toArray]) ⟨(S.tm rfl), (S.tm rfl), trivial⟩ Tryd.call9) (session_Fits_ok _ v1 r1.1 (((ownV_slcT GItem.enc_ok hs1).mono hl2).mono (S.le_new nil_sub)) (GWindow.mk r4.1 r5.1) _ hr8) rfl ?_; clear S; intro v8 a w14 hv8 hk14 hn8 S
  subst hv8
  refine lv S (rn_move (S.tm rfl)) rfl ?_; clear S; intro a S
  refine lv S (rn_extract (S.tm rfl) rfl) rfl ?_; clear S; intro a S
  refine lv S (rn_extract (S.tm rfl) rfl) rfl ?_; clear S; intro a S
  refine lv S (rn_assign (S.tm rfl)) rfl ?_; clear S; intro a S
  refine lv S (rn_assign (S.tm rfl)) rfl ?_; clear S; intro a S
  refine l_done ?_
  replace S := S.nf (L' := [.blk b5 [.int .i64 r4.1, .int .i64 r5.1] 31]) (K' := [(4, v1), (5, .int .i64 r2.1), (6, .int .i64 r3.1), (7, .pointer (some ⟨b5, 0, none⟩)), (8, u2), (9, .int .i64 r6.2), (10, .int .i64 r7.1), (11, .int .i64 r7.2), (12, .int .i64 r8.1), (13, .int .i64 r8.2)]) [true] rfl ⟨rfl, rfl, rfl, rfl, rfl, rfl, rfl, rfl, rfl, rfl, trivial⟩
  refine then_n ?_
  refine f_seq ?_
  refine f_region ?_
  refine lv S (rn_move (S.tm rfl)) rfl ?_; clear S; intro a S
  refine lv S (rn_move (S.tm rfl)) rfl ?_; clear S; intro a S
  refine lv S (rn_move (S.tm rfl)) rfl ?_; clear S; intro a S
  obtain ⟨r9, hr9, h⟩ := bindE h
  have hz8 := S.keep.size
  refine l_enter S (fun _ => run_call (vs := [v1, .int .i64 r2.1, .int .i64 r3.1]) ⟨(S.tm rfl), (S.tm rfl), (S.tm rfl), trivial⟩ Tryd.call10) (session_Pauses_ok _ v1 r1.1 (((ownV_slcT GItem.enc_ok hs1).mono hl2).mono (S.le_new nil_sub)) r2.1 r3.1 _ hr9) rfl ?_; clear S; intro v9 a w15 hv9 hk15 hn9 S
  obtain ⟨u3, rfl, ho3⟩ := hv9
  obtain ⟨φ3, hl3, hm3, S⟩ := S.see' hn9 hz8
  have hs3 := ho3.mono hm3
  refine lv S (rn_move (S.tm rfl)) rfl ?_; clear S; intro a S
  refine lv S (rn_extract (S.tm rfl) rfl) rfl ?_; clear S; intro a S
  refine lv S (rn_extract (S.tm rfl) rfl) rfl ?_; clear S; intro a S
  refine lv S (rn_assign (S.tm rfl)) rfl ?_; clear S; intro a S
  refine lv S (rn_assign (S.tm rfl)) rfl ?_; clear S; intro a S
  refine l_done ?_
  replace S := S.nf (L' := [.blk b5 [.int .i64 r4.1, .int .i64 r5.1] 31]) (K' := [(4, v1), (5, .int .i64 r2.1), (6, .int .i64 r3.1), (7, .pointer (some ⟨b5, 0, none⟩)), (8, u2), (9, .int .i64 r6.2), (10, .int .i64 r7.1), (11, .int .i64 r7.2), (12, .int .i64 r8.1), (13, .int .i64 r8.2), (14, u3), (15, .int .i64 r9.2)]) [true] rfl ⟨rfl, rfl, rfl, rfl, rfl, rfl, rfl, rfl, rfl, rfl, rfl, rfl, trivial⟩
  refine then_n ?_
  refine f_seq ?_
  refine f_region ?_
  refine lv S (rn_move (S.tm rfl)) rfl ?_; clear S; intro a S
  obtain ⟨r10, hr10, h⟩ := bindE h
  refine l_enter S (fun _ => run_call (vs := [v1]) ⟨(S.tm rfl), trivial⟩ Tryd.call11) (tumbref2_ItemsFault_ok _ v1 r1.1 (((ownV_slcT GItem.enc_ok hs1).mono (View.le_trans hl2 hl3)).mono (S.le_new nil_sub)) _ hr10) rfl ?_; clear S; intro v10 a w16 hv10 hk16 hn10 S
  subst hv10
  refine lv S (rn_assign (S.tm rfl)) rfl ?_; clear S; intro a S
  refine l_done ?_
  replace S := S.nf (L' := [.blk b5 [.int .i64 r4.1, .int .i64 r5.1] 31]) (K' := [(4, v1), (5, .int .i64 r2.1), (6, .int .i64 r3.1), (7, .pointer (some ⟨b5, 0, none⟩)), (8, u2), (9, .int .i64 r6.2), (10, .int .i64 r7.1), (11, .int .i64 r7.2), (12, .int .i64 r8.1), (13, .int .i64 r8.2), (14, u3), (15, .int .i64 r9.2), (16, .int .i64 r10)]) [true] rfl ⟨rfl, rfl, rfl, rfl, rfl, rfl, rfl, rfl, rfl, rfl, rfl, rfl, rfl, trivial⟩
  refine then_n ?_
  refine f_seq ?_
  refine f_region ?_
  refine lv S (rn_move (S.tm rfl)) rfl ?_; clear S; intro a S
  refine lv S (rn_assign (S.tm rfl)) rfl ?_; clear S; intro a S
  refine l_done ?_
  replace S := S.nf (L' := [.blk b5 [.int .i64 r4.1, .int .i64 r5.1] 31]) (K' := [(4, v1), (5, .int .i64 r2.1), (6, .int .i64 r3.1), (7, .pointer (some ⟨b5, 0, none⟩)), (8, u2), (9, .int .i64 r6.2), (10, .int .i64 r7.1), (11, .int .i64 r7.2), (12, .int .i64 r8.1), (13, .int .i64 r8.2), (14, u3), (15, .int .i64 r9.2), (16, .int .i64 r10), (17, .int .i64 r10)]) [true] rfl ⟨rfl, rfl, rfl, rfl, rfl, rfl, rfl, rfl, rfl, rfl, rfl, rfl, rfl, rfl, trivial⟩
  refine then_n ?_
  refine f_seq ?_
  refine f_seq ?_
  refine f_region ?_
  refine lv S (rn_move (S.tm rfl)) rfl ?_; clear S; intro a S
  refine lv S (rn_eql (S.tm rfl) rfl) rfl ?_; clear S; intro a S
  refine l_done ?_
  replace S := S.nf (L' := [.blk b5 [.int .i64 r4.1, .int .i64 r5.1] 31]) (K' := [(4, v1), (5, .int .i64 r2.1), (6, .int .i64 r3.1), (7, .pointer (some ⟨b5, 0, none⟩)), (8, u2), (9, .int .i64 r6.2), (10, .int .i64 r7.1), (11, .int .i64 r7.2), (12, .int .i64 r8.1), (13, .int .i64 r8.2), (14, u3), (15, .int .i64 r9.2), (16, .int .i64 r10), (17, .int .i64 r10), (70, .bool (decide (r10 = 0)))]) [true] rfl ⟨rfl, rfl, rfl, rfl, rfl, rfl, rfl, rfl, rfl, rfl, rfl, rfl, rfl, rfl, rfl, trivial⟩
  refine then_n ?_
  obtain ⟨j1, hj1, h⟩ := joinE h
  refine f_join (fun a w' => ∃ x1 : Int, j1 x1 = some r ∧ Sx w [] φ3 [.blk b5 [.int .i64 r4.1, .int .i64 r5.1] 31] [(4, v1), (5, .int .i64 r2.1), (6, .int .i64 r3.1), (7, .pointer (some ⟨b5, 0, none⟩)), (8, u2), (9, .int .i64 r6.2), (10, .int .i64 r7.1), (11, .int .i64 r7.2), (12, .int .i64 r8.1), (13, .int .i64 r8.2), (14, u3), (15, .int .i64 r9.2), (16, .int .i64 r10), (17, .int .i64 x1)] 155 a w') ?_ ?_
  · refine f_cond (S.tm rfl) (fun hb1 => ?_) (fun hb1 => ?_)
    · replace h := iteT h hb1
      refine f_region ?_
      refine lv S (rn_move (S.tm rfl)) rfl ?_; clear S; intro a S
      refine lv S (rn_move (S.tm rfl)) rfl ?_; clear S; intro a S
      obtain ⟨r11, hr11, h⟩ := bindE h
      refine l_enter S (fun _ => run_call (vs := [v1, .int .i64 r2.1]) ⟨(S.tm rfl), (S.tm rfl), trivial⟩ Tryd.call12) (tumbref2_FromFault_ok _ v1 r1.1 (((ownV_slcT GItem.enc_ok hs1).mono (View.le_trans hl2 hl3)).mono (S.le_new nil_sub)) r2.1 _ hr11) rfl ?_; clear S; intro v11 a w18 hv11 hk17 hn11 S
      subst hv11
      refine lv S (rn_assign (S.tm rfl)) rfl ?_; clear S; intro a S
      refine l_done ?_
      replace S := S.nf (L' := [.blk b5 [.int .i64 r4.1, .int .i64 r5.1] 31]) (K' := [(4, v1), (5, .int .i64 r2.1), (6, .int .i64 r3.1), (7, .pointer (some ⟨b5, 0, none⟩)), (8, u2), (9, .int .i64 r6.2), (10, .int .i64 r7.1), (11, .int .i64 r7.2), (12, .int .i64 r8.1), (13, .int .i64 r8.2), (14, u3), (15, .int .i64 r9.2), (16, .int .i64 r10), (17, .int .i64 r11)]) [true] rfl ⟨rfl, rfl, rfl, rfl, rfl, rfl, rfl, rfl, rfl, rfl, rfl, rfl, rfl, rfl, trivial⟩
      refine then_n ?_
      exact ⟨r11, h, S.nf [true] rfl ⟨rfl, rfl, rfl, rfl, rfl, rfl, rfl, rfl, rfl, rfl, rfl, rfl, rfl, rfl, trivial⟩⟩
    · replace h := iteF h hb1
      refine wp_skip ?_
      refine then_n ?_
      exact ⟨r10, h, S.nf [true] rfl ⟨rfl, rfl, rfl, rfl, rfl, rfl, rfl, rfl, rfl, rfl, rfl, rfl, rfl, rfl, trivial⟩⟩
  clear S h; rintro a w17 ⟨x1, h, S⟩; rw [hj1] at h; clear hj1 j1
  refine then_n ?_
  refine f_seq ?_
  refine f_region ?_
  refine lv S (rn_move (S.tm rfl)) rfl ?_; clear S; intro a S
  refine lv S (rn_ldA Tryd.isAgg31 Tryd.sizeOf31 (off := 0) (o := 0) (part := [.int .i64 r4.1, .int .i64 r5.1]) rfl rfl (S.tm rfl) (S.cellsAt (i := 0) rfl)) rfl ?_; clear S; intro a S
  refine l_enter S (fun _ => run_call (vs := [.agg (GWindow.enc (GWindow.mk r4.1 r5.1)).toArray]) ⟨(S.tm rfl), trivial⟩ Tryd.call14) (tumbref2_WindowFault_ok _ (GWindow.mk r4.1 r5.1) _ rfl) rfl ?_; clear S; intro v12 a w19 hv12 hk18 hn12 S
  subst hv12
  refine l_buildSlice S Tryd.underlying68 Tryd.sizeOf33 Tryd.zeroValue33 rfl rfl (pv := [(0, .int .i64 r10), (1, .int .i64 (tumbref2_WindowFault (GWindow.mk r4.1 r5.1)))]) ⟨rfl, (S.tm rfl), rfl, (S.tm rfl), trivial⟩ (cs := [.int .i64 r10, .int .i64 (tumbref2_WindowFault (GWindow.mk r4.1 r5.1))]) (by kernel_rfl) rfl ?_; clear S; intro a w20 b6 hz9 hk19 S
  refine l_enter S (fun _ => run_call (vs := [.slice (some ⟨b6, 0, none⟩) 2 2]) ⟨(S.tm rfl), trivial⟩ Tryd.call13) (tumblaw2_errs_ok _ (.slice (some ⟨b6, 0, none⟩) 2 2) [r10, (tumbref2_WindowFault (GWindow.mk r4.1 r5.1))] (lit_slcT enc_int S (i := 0) rfl rfl rfl rfl ((ne_nil (e' := .blk b6 [.int .i64 r10, .int .i64 (tumbref2_WindowFault (GWindow.mk r4.1 r5.1))] 33)) _ rfl)) _ rfl) rfl ?_; clear S; intro v13 a w21 hv13 hk20 hn13 S
  subst hv13
  refine lv S (rn_move (S.tm rfl)) rfl ?_; clear S; intro a S
  refine lv S (rn_move (S.tm rfl)) rfl ?_; clear S; intro a S
  refine lv S (rn_lss (S.tm rfl) rfl) rfl ?_; clear S; intro a S
  refine lv S (rn_move (S.tm rfl)) rfl ?_; clear S; intro a S
  refine f_cutm 3 (fun a w' => Keep [] w21 w' ∧ Sx w [] φ3 [.blk b6 [.int .i64 r10, .int .i64 (tumbref2_WindowFault (GWindow.mk r4.1 r5.1))] 33, .blk b5 [.int .i64 r4.1, .int .i64 r5.1] 31] [(4, v1), (5, .int .i64 r2.1), (6, .int .i64 r3.1), (7, .pointer (some ⟨b5, 0, none⟩)), (8, u2), (9, .int .i64 r6.2), (10, .int .i64 r7.1), (11, .int .i64 r7.2), (12, .int .i64 r8.1), (13, .int .i64 r8.2), (14, u3), (15, .int .i64 r9.2), (16, .int .i64 r10), (17, .int .i64 x1), (78, .int .i64 (tumblaw2_errs [r10, (tumbref2_WindowFault (GWindow.mk r4.1 r5.1))])), (79, .int .i64 x1), (85, .bool ((decide (r3.1 < 1)) || (decide (3600000 < r3.1))))] 155 a w') ?_ ?_
  · rcases Bool.eq_false_or_eq_true (decide (r3.1 < 1)) with hb2 | hb2
    · refine l_skip S rfl rfl rfl (by rw [hb2]; rfl) rfl ?_ rfl; clear S; intro a S
      refine l_skip S rfl rfl rfl (by rw [hb2]; rfl) rfl ?_ rfl; clear S; intro a S
      refine lv S (rn_or_t (decide (3600000 < r3.1)) hb2 (S.tm rfl) rfl) rfl ?_; clear S; intro a S
      refine l_done ?_
      refine then_n ?_
      exact ⟨Keep.refl _ _, S.nf [true, true] rfl ⟨rfl, rfl, rfl, rfl, rfl, rfl, rfl, rfl, rfl, rfl, rfl, rfl, rfl, rfl, rfl, rfl, rfl, trivial⟩⟩
    · refine l_want S rfl rfl rfl hb2 ?_
      refine lv S (rn_move (S.tm rfl)) rfl ?_; clear S; intro a S
      refine l_want S rfl rfl rfl hb2 ?_
      refine lv S (rn_gtr (S.tm rfl) rfl) rfl ?_; clear S; intro a S
      refine lv S (rn_or_f hb2 (S.tm rfl) (S.tm rfl)) rfl ?_; clear S; intro a S
      refine l_done ?_
      refine then_n ?_
      exact ⟨Keep.refl _ _, S.nf [true, true] rfl ⟨rfl, rfl, rfl, rfl, rfl, rfl, rfl, rfl, rfl, rfl, rfl, rfl, rfl, rfl, rfl, rfl, rfl, trivial⟩⟩
  clear S; rintro a w22 ⟨hk21, S⟩
  refine l_enter S (fun _ => run_call (vs := [.bool ((decide (r3.1 < 1)) || (decide (3600000 < r3.1))), .int .i64 1]) ⟨(S.tm rfl), rfl, trivial⟩ Tryd.call15) (tumblaw2_when_ok _ ((decide (r3.1 < 1)) || (decide (3600000 < r3.1))) 1 _ rfl) rfl ?_; clear S; intro v14 a w23 hv14 hk22 hn14 S
  subst hv14
  refine l_buildSlice S Tryd.underlying68 Tryd.sizeOf33 Tryd.zeroValue33 rfl rfl (pv := [(0, .int .i64 x1), (1, .int .i64 (tumblaw2_when ((decide (r3.1 < 1)) || (decide (3600000 < r3.1))) 1))]) ⟨rfl, (S.tm rfl), rfl, (S.tm rfl), trivial⟩ (cs := [.int .i64 x1, .int .i64 (tumblaw2_when ((decide (r3.1 < 1)) || (decide (3600000 < r3.1))) 1)]) (by kernel_rfl) rfl ?_; clear S; intro a w24 b7 hz10 hk23 S
  refine l_enter S (fun _ => run_call (vs := [.slice (some ⟨b7, 0, none⟩) 2 2]) ⟨(S.tm rfl), trivial⟩ Tryd.call13) (tumblaw2_errs_ok _ (.slice (some ⟨b7, 0, none⟩) 2 2) [x1, (tumblaw2_when ((decide (r3.1 < 1)) || (decide (3600000 < r3.1))) 1)] (lit_slcT enc_int S (i := 0) rfl rfl rfl rfl ((ne_nil (e' := .blk b7 [.int .i64 x1, .int .i64 (tumblaw2_when ((decide (r3.1 < 1)) || (decide (3600000 < r3.1))) 1)] 33)) _ rfl)) _ rfl) rfl ?_; clear S; intro v15 a w25 hv15 hk24 hn15 S
  subst hv15
  refine lv S (rn_assign (S.tm rfl)) rfl ?_; clear S; intro a S
  refine lv S (rn_assign (S.tm rfl)) rfl ?_; clear S; intro a S
  refine l_done ?_
  replace S := S.nf (L' := [.blk b5 [.int .i64 r4.1, .int .i64 r5.1] 31]) (K' := [(4, v1), (5, .int .i64 r2.1), (6, .int .i64 r3.1), (7, .pointer (some ⟨b5, 0, none⟩)), (8, u2), (9, .int .i64 r6.2), (10, .int .i64 r7.1), (11, .int .i64 r7.2), (12, .int .i64 r8.1), (13, .int .i64 r8.2), (14, u3), (15, .int .i64 r9.2), (16, .int .i64 r10), (17, .int .i64 x1), (18, .int .i64 (tumblaw2_errs [r10, (tumbref2_WindowFault (GWindow.mk r4.1 r5.1))])), (19, .int .i64 (tumblaw2_errs [x1, (tumblaw2_when ((decide (r3.1 < 1)) || (decide (3600000 < r3.1))) 1)]))]) [false, false, true] rfl ⟨rfl, rfl, rfl, rfl, rfl, rfl, rfl, rfl, rfl, rfl, rfl, rfl, rfl, rfl, rfl, rfl, trivial⟩
  refine then_n ?_
  refine f_seq ?_
  refine f_region ?_
  refine lv S (rn_assign rfl) rfl ?_; clear S; intro a S
  refine lv S (rn_assign rfl) rfl ?_; clear S; intro a S
  refine l_done ?_
  replace S := S.nf (L' := [.blk b5 [.int .i64 r4.1, .int .i64 r5.1] 31]) (K' := [(4, v1), (5, .int .i64 r2.1), (6, .int .i64 r3.1), (7, .pointer (some ⟨b5, 0, none⟩)), (8, u2), (9, .int .i64 r6.2), (10, .int .i64 r7.1), (11, .int .i64 r7.2), (12, .int .i64 r8.1), (13, .int .i64 r8.2), (14, u3), (15, .int .i64 r9.2), (16, .int .i64 r10), (17, .int .i64 x1), (18, .int .i64 (tumblaw2_errs [r10, (tumbref2_WindowFault (GWindow.mk r4.1 r5.1))])), (19, .int .i64 (tumblaw2_errs [x1, (tumblaw2_when ((decide (r3.1 < 1)) || (decide (3600000 < r3.1))) 1)])), (20, .int .i64 0), (21, .int .i64 0)]) [true] rfl ⟨rfl, rfl, rfl, rfl, rfl, rfl, rfl, rfl, rfl, rfl, rfl, rfl, rfl, rfl, rfl, rfl, rfl, rfl, trivial⟩
  refine then_n ?_
  refine f_seq ?_
  refine f_region ?_
  refine lv S (rn_assign rfl) rfl ?_; clear S; intro a S
  refine l_done ?_
  replace S := S.nf (L' := [.blk b5 [.int .i64 r4.1, .int .i64 r5.1] 31]) (K' := [(4, v1), (5, .int .i64 r2.1), (6, .int .i64 r3.1), (7, .pointer (some ⟨b5, 0, none⟩)), (8, u2), (9, .int .i64 r6.2), (10, .int .i64 r7.1), (11, .int .i64 r7.2), (12, .int .i64 r8.1), (13, .int .i64 r8.2), (14, u3), (15, .int .i64 r9.2), (16, .int .i64 r10), (17, .int .i64 x1), (18, .int .i64 (tumblaw2_errs [r10, (tumbref2_WindowFault (GWindow.mk r4.1 r5.1))])), (19, .int .i64 (tumblaw2_errs [x1, (tumblaw2_when ((decide (r3.1 < 1)) || (decide (3600000 < r3.1))) 1)])), (20, .int .i64 0), (21, .int .i64 0), (22, .slice none 0 0)]) [true] rfl ⟨rfl, rfl, rfl, rfl, rfl, rfl, rfl, rfl, rfl, rfl, rfl, rfl, rfl, rfl, rfl, rfl, rfl, rfl, rfl, trivial⟩
  refine then_n ?_
  refine f_seq ?_
  refine f_region ?_
  refine lv S (rn_assign rfl) rfl ?_; clear S; intro a S
  refine l_done ?_
  replace S := S.nf (L' := [.blk b5 [.int .i64 r4.1, .int .i64 r5.1] 31]) (K' := [(4, v1), (5, .int .i64 r2.1), (6, .int .i64 r3.1), (7, .pointer (some ⟨b5, 0, none⟩)), (8, u2), (9, .int .i64 r6.2), (10, .int .i64 r7.1), (11, .int .i64 r7.2), (12, .int .i64 r8.1), (13, .int .i64 r8.2), (14, u3), (15, .int .i64 r9.2), (16, .int .i64 r10), (17, .int .i64 x1), (18, .int .i64 (tumblaw2_errs [r10, (tumbref2_WindowFault (GWindow.mk r4.1 r5.1))])), (19, .int .i64 (tumblaw2_errs [x1, (tumblaw2_when ((decide (r3.1 < 1)) || (decide (3600000 < r3.1))) 1)])), (20, .int .i64 0), (21, .int .i64 0), (22, .slice none 0 0), (23, .slice none 0 0)]) [true] rfl ⟨rfl, rfl, rfl, rfl, rfl, rfl, rfl, rfl, rfl, rfl, rfl, rfl, rfl, rfl, rfl, rfl, rfl, rfl, rfl, rfl, trivial⟩
  refine then_n ?_
  refine f_seq ?_
  refine f_seq ?_
  refine f_region ?_
  refine lv S (rn_move (S.tm rfl)) rfl ?_; clear S; intro a S
  refine lv S (rn_eql (S.tm rfl) rfl) rfl ?_; clear S; intro a S
  refine l_done ?_
  replace S := S.nf (L' := [.blk b5 [.int .i64 r4.1, .int .i64 r5.1] 31]) (K' := [(4, v1), (5, .int .i64 r2.1), (6, .int .i64 r3.1), (7, .pointer (some ⟨b5, 0, none⟩)), (8, u2), (9, .int .i64 r6.2), (10, .int .i64 r7.1), (11, .int .i64 r7.2), (12, .int .i64 r8.1), (13, .int .i64 r8.2), (14, u3), (15, .int .i64 r9.2), (16, .int .i64 r10), (17, .int .i64 x1), (18, .int .i64 (tumblaw2_errs [r10, (tumbref2_WindowFault (GWindow.mk r4.1 r5.1))])), (19, .int .i64 (tumblaw2_errs [x1, (tumblaw2_when ((decide (r3.1 < 1)) || (decide (3600000 < r3.1))) 1)])), (20, .int .i64 0), (21, .int .i64 0), (22, .slice none 0 0), (23, .slice none 0 0), (90, .bool (decide (x1 = 0)))]) [true] rfl ⟨rfl, rfl, rfl, rfl, rfl, rfl, rfl, rfl, rfl, rfl, rfl, rfl, rfl, rfl, rfl, rfl, rfl, rfl, rfl, rfl, rfl, trivial⟩
  refine then_n ?_
  obtain ⟨j2, hj2, h⟩ := joinE h
  refine f_join (fun a w' => ∃ x2 : Int, ∃ x3 : List GSlot, ∃ φ4 : View, ∃ v16 : Value, j2 x2 x3 = some r ∧ View.le φ3 φ4 ∧ OwnV φ4 53 4 v16 x3.length (x3.flatMap GSlot.enc) ∧ Sx w [] φ4 [.blk b5 [.int .i64 r4.1, .int .i64 r5.1] 31] [(4, v1), (5, .int .i64 r2.1), (6, .int .i64 r3.1), (7, .pointer (some ⟨b5, 0, none⟩)), (8, u2), (9, .int .i64 r6.2), (10, .int .i64 r7.1), (11, .int .i64 r7.2), (12, .int .i64 r8.1), (13, .int .i64 r8.2), (14, u3), (15, .int .i64 r9.2), (16, .int .i64 r10), (17, .int .i64 x1), (18, .int .i64 (tumblaw2_errs [r10, (tumbref2_WindowFault (GWindow.mk r4.1 r5.1))])), (19, .int .i64 (tumblaw2_errs [x1, (tumblaw2_when ((decide (r3.1 < 1)) || (decide (3600000 < r3.1))) 1)])), (20, .int .i64 x2), (21, .int .i64 0), (22, v16), (23, .slice none 0 0)] 155 a w') ?_ ?_
  · refine f_cond (S.tm rfl) (fun hb3 => ?_) (fun hb3 => ?_)
    · replace h := iteT h hb3
      refine f_region ?_
      refine lv S (rn_move (S.tm rfl)) rfl ?_; clear S; intro a S
      refine lv S (rn_move (S.tm rfl)) rfl ?_; clear S; intro a S
      obtain ⟨r12, hr12, h⟩ := bindE h
      have hz11 := S.keep.size
      refine l_enter S (fun _ => run_call (vs := [v1, .int .i64 r2.1]) ⟨(S.tm rfl), (S.tm rfl), trivial⟩ Tryd.call16) (tumbref2_SlotsOf_ok _ v1 r1.1 (((ownV_slcT GItem.enc_ok hs1).mono (View.le_trans hl2 hl3)).mono (S.le_new nil_sub)) r2.1 _ hr12) rfl ?_; clear S; intro v17 a w27 hv16 hk25 hn16 S
      obtain ⟨φ5, hl5, hm4, S⟩ := S.see' hn16 hz11
      have hs5 := hv16.mono hm4
      refine lv S (rn_move (S.tm rfl)) rfl ?_; clear S; intro a S
      refine lv S (rn_move (S.tm rfl)) rfl ?_; clear S; intro a S
      obtain ⟨r13, hr13, h⟩ := bindE h
      refine l_enter S (fun _ => run_call (vs := [v1, .int .i64 r2.1]) ⟨(S.tm rfl), (S.tm rfl), trivial⟩ Tryd.call17) (tumbref2_EndOf_ok _ v1 r1.1 (((ownV_slcT GItem.enc_ok hs1).mono (View.le_trans (View.le_trans hl2 hl3) hl5)).mono (S.le_new nil_sub)) r2.1 _ hr13) rfl ?_; clear S; intro v18 a w28 hv17 hk26 hn17 S
      subst hv17
      refine lv S (rn_assign (S.tm rfl)) rfl ?_; clear S; intro a S
      refine lv S (rn_assign (S.tm rfl)) rfl ?_; clear S; intro a S
      refine l_done ?_
      replace S := S.nf (L' := [.blk b5 [.int .i64 r4.1, .int .i64 r5.1] 31]) (K' := [(4, v1), (5, .int .i64 r2.1), (6, .int .i64 r3.1), (7, .pointer (some ⟨b5, 0, none⟩)), (8, u2), (9, .int .i64 r6.2), (10, .int .i64 r7.1), (11, .int .i64 r7.2), (12, .int .i64 r8.1), (13, .int .i64 r8.2), (14, u3), (15, .int .i64 r9.2), (16, .int .i64 r10), (17, .int .i64 x1), (18, .int .i64 (tumblaw2_errs [r10, (tumbref2_WindowFault (GWindow.mk r4.1 r5.1))])), (19, .int .i64 (tumblaw2_errs [x1, (tumblaw2_when ((decide (r3.1 < 1)) || (decide (3600000 < r3.1))) 1)])), (20, .int .i64 r13), (21, .int .i64 0), (22, v17), (23, .slice none 0 0)]) [true] rfl ⟨rfl, rfl, rfl, rfl, rfl, rfl, rfl, rfl, rfl, rfl, rfl, rfl, rfl, rfl, rfl, rfl, rfl, rfl, rfl, rfl, trivial⟩
      refine then_n ?_
      exact ⟨r13, r12, φ5, v17, h, hl5, hs5, S.nf [true] rfl ⟨rfl, rfl, rfl, rfl, rfl, rfl, rfl, rfl, rfl, rfl, rfl, rfl, rfl, rfl, rfl, rfl, rfl, rfl, rfl, rfl, trivial⟩⟩
    · replace h := iteF h hb3
      refine wp_skip ?_
      refine then_n ?_
      exact ⟨0, ([] : List GSlot), φ3, .slice none 0 0, h, (View.le_refl _), (ownV_nil _ _ _), S.nf [true] rfl ⟨rfl, rfl, rfl, rfl, rfl, rfl, rfl, rfl, rfl, rfl, rfl, rfl, rfl, rfl, rfl, rfl, rfl, rfl, rfl, rfl, trivial⟩⟩
  clear S h; rintro a w26 ⟨x2, x3, φ4, v16, h, hl4, hs4, S⟩; rw [hj2] at h; clear hj2 j2
  refine then_n ?_
  refine f_seq ?_
  refine f_seq ?_
  refine f_region ?_
  refine lv S (rn_move (S.tm rfl)) rfl ?_; clear S; intro a S
  refine lv S (rn_eql (S.tm rfl) rfl) rfl ?_; clear S; intro a S
  refine l_done ?_
  replace S := S.nf (L' := [.blk b5 [.int .i64 r4.1, .int .i64 r5.1] 31]) (K' := [(4, v1), (5, .int .i64 r2.1), (6, .int .i64 r3.1), (7, .pointer (some ⟨b5, 0, none⟩)), (8, u2), (9, .int .i64 r6.2), (10, .int .i64 r7.1), (11, .int .i64 r7.2), (12, .int .i64 r8.1), (13, .int .i64 r8.2), (14, u3), (15, .int .i64 r9.2), (16, .int .i64 r10), (17, .int .i64 x1), (18, .int .i64 (tumblaw2_errs [r10, (tumbref2_WindowFault (GWindow.mk r4.1 r5.1))])), (19, .int .i64 (tumblaw2_errs [x1, (tumblaw2_when ((decide (r3.1 < 1)) || (decide (3600000 < r3.1))) 1)])), (20, .int .i64 x2), (21, .int .i64 0), (22, v16), (23, .slice none 0 0), (98, .bool (decide ((tumblaw2_errs [r10, (tumbref2_WindowFault (GWindow.mk r4.1 r5.1))]) = 0)))]) [true] rfl ⟨rfl, rfl, rfl, rfl, rfl, rfl, rfl, rfl, rfl, rfl, rfl, rfl, rfl, rfl, rfl, rfl, rfl, rfl, rfl, rfl, rfl, trivial⟩
  refine then_n ?_
  obtain ⟨j3, hj3, h⟩ := joinE h
  refine f_join (fun a w' => ∃ x4 : Int, j3 x4 = some r ∧ Sx w [] φ4 [] [(4, v1), (5, .int .i64 r2.1), (6, .int .i64 r3.1), (8, u2), (9, .int .i64 r6.2), (10, .int .i64 r7.1), (11, .int .i64 r7.2), (12, .int .i64 r8.1), (13, .int .i64 r8.2), (14, u3), (15, .int .i64 r9.2), (16, .int .i64 r10), (17, .int .i64 x1), (18, .int .i64 (tumblaw2_errs [r10, (tumbref2_WindowFault (GWindow.mk r4.1 r5.1))])), (19, .int .i64 (tumblaw2_errs [x1, (tumblaw2_when ((decide (r3.1 < 1)) || (decide (3600000 < r3.1))) 1)])), (20, .int .i64 x2), (21, .int .i64 x4), (22, v16), (23, .slice none 0 0)] 155 a w') ?_ ?_
  · refine f_cond (S.tm rfl) (fun hb4 => ?_) (fun hb4 => ?_)
    · replace h := iteT h hb4
      refine f_region ?_
      refine lv S (rn_move (S.tm rfl)) rfl ?_; clear S; intro a S
      refine lv S (rn_ldA Tryd.isAgg31 Tryd.sizeOf31 (off := 0) (o := 0) (part := [.int .i64 r4.1, .int .i64 r5.1]) rfl rfl (S.tm rfl) (S.cellsAt (i := 0) rfl)) rfl ?_; clear S; intro a S
      obtain ⟨r14, hr14, h⟩ := bindE h
      refine l_enter S (fun _ => run_call (vs := [v1, .agg (GWindow.enc (GWindow.mk r4.1 r5.1)).toArray]) ⟨(S.tm rfl), (S.tm rfl), trivial⟩ Tryd.call18) (tumbref2_FitsOf_ok _ v1 r1.1 (((ownV_slcT GItem.enc_ok hs1).mono (View.le_trans (View.le_trans hl2 hl3) hl4)).mono (S.le_new nil_sub)) (GWindow.mk r4.1 r5.1) _ hr14) rfl ?_; clear S; intro v19 a w30 hv18 hk27 hn18 S
      subst hv18
      refine lv S (rn_assign (S.tm rfl)) rfl ?_; clear S; intro a S
      refine l_done ?_
      replace S := S.nf (L' := []) (K' := [(4, v1), (5, .int .i64 r2.1), (6, .int .i64 r3.1), (8, u2), (9, .int .i64 r6.2), (10, .int .i64 r7.1), (11, .int .i64 r7.2), (12, .int .i64 r8.1), (13, .int .i64 r8.2), (14, u3), (15, .int .i64 r9.2), (16, .int .i64 r10), (17, .int .i64 x1), (18, .int .i64 (tumblaw2_errs [r10, (tumbref2_WindowFault (GWindow.mk r4.1 r5.1))])), (19, .int .i64 (tumblaw2_errs [x1, (tumblaw2_when ((decide (r3.1 < 1)) || (decide (3600000 < r3.1))) 1)])), (20, .int .i64 x2), (21, .int .i64 r14), (22, v16), (23, .slice none 0 0)]) [false] rfl ⟨rfl, rfl, rfl, rfl, rfl, rfl, rfl, rfl, rfl, rfl, rfl, rfl, rfl, rfl, rfl, rfl, rfl, rfl, rfl, trivial⟩
      refine then_n ?_
      exact ⟨r14, h, S.nf [] rfl ⟨rfl, rfl, rfl, rfl, rfl, rfl, rfl, rfl, rfl, rfl, rfl, rfl, rfl, rfl, rfl, rfl, rfl, rfl, rfl, trivial⟩⟩
    · replace h := iteF h hb4
      refine wp_skip ?_
      refine then_n ?_
      exact ⟨0, h, S.nf [false] rfl ⟨rfl, rfl, rfl, rfl, rfl, rfl, rfl, rfl, rfl, rfl, rfl, rfl, rfl, rfl, rfl, rfl, rfl, rfl, rfl, trivial⟩⟩
  clear S h; rintro a w29 ⟨x4, h, S⟩; rw [hj3] at h; clear hj3 j3
  refine then_n ?_
  refine f_seq ?_
  refine f_seq ?_
  refine f_region ?_
  refine lv S (rn_move (S.tm rfl)) rfl ?_; clear S; intro a S
  refine lv S (rn_eql (S.tm rfl) rfl) rfl ?_; clear S; intro a S
  refine l_done ?_
  replace S := S.nf (L' := []) (K' := [(4, v1), (5, .int .i64 r2.1), (6, .int .i64 r3.1), (8, u2), (9, .int .i64 r6.2), (10, .int .i64 r7.1), (11, .int .i64 r7.2), (12, .int .i64 r8.1), (13, .int .i64 r8.2), (14, u3), (15, .int .i64 r9.2), (16, .int .i64 r10), (17, .int .i64 x1), (18, .int .i64 (tumblaw2_errs [r10, (tumbref2_WindowFault (GWindow.mk r4.1 r5.1))])), (19, .int .i64 (tumblaw2_errs [x1, (tumblaw2_when ((decide (r3.1 < 1)) || (decide (3600000 < r3.1))) 1)])), (20, .int .i64 x2), (21, .int .i64 x4), (22, v16), (23, .slice none 0 0), (103, .bool (decide ((tumblaw2_errs [x1, (tumblaw2_when ((decide (r3.1 < 1)) || (decide (3600000 < r3.1))) 1)]) = 0)))]) [] rfl ⟨rfl, rfl, rfl, rfl, rfl, rfl, rfl, rfl, rfl, rfl, rfl, rfl, rfl, rfl, rfl, rfl, rfl, rfl, rfl, rfl, trivial⟩
  refine then_n ?_
  obtain ⟨j4, hj4, h⟩ := joinE h
  refine f_join (fun a w' => ∃ x5 : List GWindow, ∃ φ6 : View, ∃ v20 : Value, j4 x5 = some r ∧ View.le φ4 φ6 ∧ OwnV φ6 31 2 v20 x5.length (x5.flatMap GWindow.enc) ∧ Sx w [] φ6 [] [(4, v1), (8, u2), (9, .int .i64 r6.2), (10, .int .i64 r7.1), (11, .int .i64 r7.2), (12, .int .i64 r8.1), (13, .int .i64 r8.2), (14, u3), (15, .int .i64 r9.2), (16, .int .i64 r10), (17, .int .i64 x1), (18, .int .i64 (tumblaw2_errs [r10, (tumbref2_WindowFault (GWindow.mk r4.1 r5.1))])), (19, .int .i64 (tumblaw2_errs [x1, (tumblaw2_when ((decide (r3.1 < 1)) || (decide (3600000 < r3.1))) 1)])), (20, .int .i64 x2), (21, .int .i64 x4), (22, v16), (23, v20)] 155 a w') ?_ ?_
  · refine f_cond (S.tm rfl) (fun hb5 => ?_) (fun hb5 => ?_)
    · replace h := iteT h hb5
      refine f_region ?_
      refine lv S (rn_move (S.tm rfl)) rfl ?_; clear S; intro a S
      refine lv S (rn_move (S.tm rfl)) rfl ?_; clear S; intro a S
      refine lv S (rn_move (S.tm rfl)) rfl ?_; clear S; intro a S
      obtain ⟨r15, hr15, h⟩ := bindE h
      have hz12 := S.keep.size
      refine l_enter S (fun _ => run_call (vs := [v1, .int .i64 r2.1, .int .i64 r3.1]) ⟨(S.tm rfl), (S.tm rfl), (S.tm rfl), trivial⟩ Tryd.call19) (tumbref2_PausesOf_ok _ v1 r1.1 (((ownV_slcT GItem.enc_ok hs1).mono (View.le_trans (View.le_trans hl2 hl3) hl4)).mono (S.le_new nil_sub)) r2.1 r3.1 _ hr15) rfl ?_; clear S; intro v21 a w32 hv19 hk28 hn19 S
      obtain ⟨φ7, hl7, hm5, S⟩ := S.see' hn19 hz12
      have hs7 := hv19.mono hm5
      refine lv S (rn_assign (S.tm rfl)) rfl ?_; clear S; intro a S
      refine l_done ?_
      replace S := S.nf (L' := []) (K' := [(4, v1), (8, u2), (9, .int .i64 r6.2), (10, .int .i64 r7.1), (11, .int .i64 r7.2), (12, .int .i64 r8.1), (13, .int .i64 r8.2), (14, u3), (15, .int .i64 r9.2), (16, .int .i64 r10), (17, .int .i64 x1), (18, .int .i64 (tumblaw2_errs [r10, (tumbref2_WindowFault (GWindow.mk r4.1 r5.1))])), (19, .int .i64 (tumblaw2_errs [x1, (tumblaw2_when ((decide (r3.1 < 1)) || (decide (3600000 < r3.1))) 1)])), (20, .int .i64 x2), (21, .int .i64 x4), (22, v16), (23, v21)]) [] rfl ⟨rfl, rfl, rfl, rfl, rfl, rfl, rfl, rfl, rfl, rfl, rfl, rfl, rfl, rfl, rfl, rfl, rfl, trivial⟩
      refine then_n ?_
      exact ⟨r15, φ7, v21, h, hl7, hs7, S.nf [] rfl ⟨rfl, rfl, rfl, rfl, rfl, rfl, rfl, rfl, rfl, rfl, rfl, rfl, rfl, rfl, rfl, rfl, rfl, trivial⟩⟩
    · replace h := iteF h hb5
      refine wp_skip ?_
      refine then_n ?_
      exact ⟨([] : List GWindow), φ4, .slice none 0 0, h, (View.le_refl _), (ownV_nil _ _ _), S.nf [] rfl ⟨rfl, rfl, rfl, rfl, rfl, rfl, rfl, rfl, rfl, rfl, rfl, rfl, rfl, rfl, rfl, rfl, rfl, trivial⟩⟩
  clear S h; rintro a w31 ⟨x5, φ6, v20, h, hl6, hs6, S⟩; rw [hj4] at h; clear hj4 j4
  refine then_n ?_
  refine f_seq ?_
  refine f_region ?_
  refine lv S (rn_move (S.tm rfl)) rfl ?_; clear S; intro a S
  obtain ⟨r16, hr16, h⟩ := bindE h
  refine l_enter S (fun _ => run_call (vs := [v1]) ⟨(S.tm rfl), trivial⟩ Tryd.call20) (session_CheckItems_ok _ v1 r1.1 (((ownV_slcT GItem.enc_ok hs1).mono (View.le_trans (View.le_trans (View.le_trans hl2 hl3) hl4) hl6)).mono (S.le_new nil_sub)) _ hr16) rfl ?_; clear S; intro v22 a w33 hv20 hk29 hn20 S
  subst hv20
  refine lv S (rn_move (S.tm rfl)) rfl ?_; clear S; intro a S
  refine lv S (rn_eql (S.tm rfl) (S.tm rfl)) rfl ?_; clear S; intro a S
  refine lv S (rn_move (S.tm rfl)) rfl ?_; clear S; intro a S
  refine f_cutm 4 (fun a w' => Keep [] w33 w' ∧ Sx w [] φ6 [] [(8, u2), (10, .int .i64 r7.1), (11, .int .i64 r7.2), (12, .int .i64 r8.1), (13, .int .i64 r8.2), (14, u3), (15, .int .i64 r9.2), (17, .int .i64 x1), (18, .int .i64 (tumblaw2_errs [r10, (tumbref2_WindowFault (GWindow.mk r4.1 r5.1))])), (19, .int .i64 (tumblaw2_errs [x1, (tumblaw2_when ((decide (r3.1 < 1)) || (decide (3600000 < r3.1))) 1)])), (20, .int .i64 x2), (21, .int .i64 x4), (22, v16), (23, v20), (116, .bool ((decide (r16 = r10)) && (decide (r6.2 = x1))))] 155 a w') ?_ ?_
  · rcases Bool.eq_false_or_eq_true (decide (r16 = r10)) with hb6 | hb6
    · refine l_want S rfl rfl rfl hb6 ?_
      refine lv S (rn_move (S.tm rfl)) rfl ?_; clear S; intro a S
      refine l_want S rfl rfl rfl hb6 ?_
      refine lv S (rn_move (S.tm rfl)) rfl ?_; clear S; intro a S
      refine l_want S rfl rfl rfl hb6 ?_
      refine lv S (rn_eql (S.tm rfl) (S.tm rfl)) rfl ?_; clear S; intro a S
      refine lv S (rn_and_t hb6 (S.tm rfl) (S.tm rfl)) rfl ?_; clear S; intro a S
      refine l_done ?_
      refine then_n ?_
      exact ⟨Keep.refl _ _, S.nf [] rfl ⟨rfl, rfl, rfl, rfl, rfl, rfl, rfl, rfl, rfl, rfl, rfl, rfl, rfl, rfl, rfl, trivial⟩⟩
    · refine l_skip S rfl rfl rfl (by rw [hb6]; rfl) rfl ?_ rfl; clear S; intro a S
      refine l_skip S rfl rfl rfl (by rw [hb6]; rfl) rfl ?_ rfl; clear S; intro a S
      refine l_skip S rfl rfl rfl (by rw [hb6]; rfl) rfl ?_ rfl; clear S; intro a S
      refine lv S (rn_and_f (decide (r6.2 = x1)) hb6 (S.tm rfl) rfl) rfl ?_; clear S; intro a S
      refine l_done ?_
      refine then_n ?_
      exact ⟨Keep.refl _ _, S.nf [] rfl ⟨rfl, rfl, rfl, rfl, rfl, rfl, rfl, rfl, rfl, rfl, rfl, rfl, rfl, rfl, rfl, trivial⟩⟩
  clear S; rintro a w34 ⟨hk30, S⟩
  refine lv S (rn_move (S.tm rfl)) rfl ?_; clear S; intro a S
  obtain ⟨j5, hj5, h⟩ := joinE h
  refine f_cutm 4 (fun a w' => ∃ c1, j5 c1 = some r ∧ Keep [] w34 w' ∧ Sx w [] φ6 [] [(10, .int .i64 r7.1), (11, .int .i64 r7.2), (12, .int .i64 r8.1), (13, .int .i64 r8.2), (14, u3), (15, .int .i64 r9.2), (17, .int .i64 x1), (18, .int .i64 (tumblaw2_errs [r10, (tumbref2_WindowFault (GWindow.mk r4.1 r5.1))])), (19, .int .i64 (tumblaw2_errs [x1, (tumblaw2_when ((decide (r3.1 < 1)) || (decide (3600000 < r3.1))) 1)])), (20, .int .i64 x2), (21, .int .i64 x4), (23, v20), (121, .bool c1)] 155 a w') ?_ ?_
  · rcases Bool.eq_false_or_eq_true ((decide (r16 = r10)) && (decide (r6.2 = x1))) with hb7 | hb7
    · replace h := iteT h hb7
      refine l_want S rfl rfl rfl hb7 ?_
      refine lv S (rn_move (S.tm rfl)) rfl ?_; clear S; intro a S
      refine l_want S rfl rfl rfl hb7 ?_
      refine lv S (rn_move (S.tm rfl)) rfl ?_; clear S; intro a S
      refine l_want S rfl rfl rfl hb7 ?_
      obtain ⟨r17, hr17, h⟩ := bindE h
      refine l_enter S (fun _ => run_call (vs := [u2, v16]) ⟨(S.tm rfl), (S.tm rfl), trivial⟩ Tryd.call21) (slices_Equal_Slot_ok _ u2 r6.1 (((ownV_slcT GSlot.enc_ok hs2).mono (View.le_trans (View.le_trans hl3 hl4) hl6)).mono (S.le_new nil_sub)) v16 x3 (((ownV_slcT GSlot.enc_ok hs4).mono hl6).mono (S.le_new nil_sub)) _ hr17) rfl ?_; clear S; intro v23 a w36 hv21 hk31 hn21 S
      subst hv21
      refine lv S (rn_and_t hb7 (S.tm rfl) (S.tm rfl)) rfl ?_; clear S; intro a S
      refine l_done ?_
      refine then_n ?_
      exact ⟨_, h, hk31, S.nf [] rfl ⟨rfl, rfl, rfl, rfl, rfl, rfl, rfl, rfl, rfl, rfl, rfl, rfl, rfl, trivial⟩⟩
    · replace h := iteF h hb7
      refine l_skip S rfl rfl rfl (by rw [hb7]; rfl) rfl ?_ rfl; clear S; intro a S
      refine l_skip S rfl rfl rfl (by rw [hb7]; rfl) rfl ?_ rfl; clear S; intro a S
      refine l_skip S rfl rfl rfl (by rw [hb7]; rfl) rfl ?_ rfl; clear S; intro a S
      refine lv S (rn_and_f true hb7 (S.tm rfl) rfl) rfl ?_; clear S; intro a S
      refine l_done ?_
      refine then_n ?_
      exact ⟨_, h, Keep.refl _ _, S.nf [] rfl ⟨rfl, rfl, rfl, rfl, rfl, rfl, rfl, rfl, rfl, rfl, rfl, rfl, rfl, trivial⟩⟩
  clear S h; rintro a w35 ⟨c1, h, hk32, S⟩; rw [hj5] at h; clear hj5 j5
  refine lv S (rn_move (S.tm rfl)) rfl ?_; clear S; intro a S
  refine f_cutm 4 (fun a w' => Keep [] w35 w' ∧ Sx w [] φ6 [] [(10, .int .i64 r7.1), (12, .int .i64 r8.1), (13, .int .i64 r8.2), (14, u3), (15, .int .i64 r9.2), (18, .int .i64 (tumblaw2_errs [r10, (tumbref2_WindowFault (GWindow.mk r4.1 r5.1))])), (19, .int .i64 (tumblaw2_errs [x1, (tumblaw2_when ((decide (r3.1 < 1)) || (decide (3600000 < r3.1))) 1)])), (20, .int .i64 x2), (21, .int .i64 x4), (23, v20), (126, .bool (c1 && (decide (r7.2 = x1))))] 155 a w') ?_ ?_
  · rcases Bool.eq_false_or_eq_true c1 with hb8 | hb8
    · refine l_want S rfl rfl rfl hb8 ?_
      refine lv S (rn_move (S.tm rfl)) rfl ?_; clear S; intro a S
      refine l_want S rfl rfl rfl hb8 ?_
      refine lv S (rn_move (S.tm rfl)) rfl ?_; clear S; intro a S
      refine l_want S rfl rfl rfl hb8 ?_
      refine lv S (rn_eql (S.tm rfl) (S.tm rfl)) rfl ?_; clear S; intro a S
      refine lv S (rn_and_t hb8 (S.tm rfl) (S.tm rfl)) rfl ?_; clear S; intro a S
      refine l_done ?_
      refine then_n ?_
      exact ⟨Keep.refl _ _, S.nf [] rfl ⟨rfl, rfl, rfl, rfl, rfl, rfl, rfl, rfl, rfl, rfl, rfl, trivial⟩⟩
    · refine l_skip S rfl rfl rfl (by rw [hb8]; rfl) rfl ?_ rfl; clear S; intro a S
      refine l_skip S rfl rfl rfl (by rw [hb8]; rfl) rfl ?_ rfl; clear S; intro a S
      refine l_skip S rfl rfl rfl (by rw [hb8]; rfl) rfl ?_ rfl; clear S; intro a S
      refine lv S (rn_and_f (decide (r7.2 = x1)) hb8 (S.tm rfl) rfl) rfl ?_; clear S; intro a S
      refine l_done ?_
      refine then_n ?_
      exact ⟨Keep.refl _ _, S.nf [] rfl ⟨rfl, rfl, rfl, rfl, rfl, rfl, rfl, rfl, rfl, rfl, rfl, trivial⟩⟩
  clear S; rintro a w37 ⟨hk33, S⟩
  refine lv S (rn_move (S.tm rfl)) rfl ?_; clear S; intro a S
  refine f_cutm 4 (fun a w' => Keep [] w37 w' ∧ Sx w [] φ6 [] [(12, .int .i64 r8.1), (13, .int .i64 r8.2), (14, u3), (15, .int .i64 r9.2), (18, .int .i64 (tumblaw2_errs [r10, (tumbref2_WindowFault (GWindow.mk r4.1 r5.1))])), (19, .int .i64 (tumblaw2_errs [x1, (tumblaw2_when ((decide (r3.1 < 1)) || (decide (3600000 < r3.1))) 1)])), (21, .int .i64 x4), (23, v20), (131, .bool ((c1 && (decide (r7.2 = x1))) && (decide (r7.1 = x2))))] 155 a w') ?_ ?_
  · rcases Bool.eq_false_or_eq_true (c1 && (decide (r7.2 = x1))) with hb9 | hb9
    · refine l_want S rfl rfl rfl hb9 ?_
      refine lv S (rn_move (S.tm rfl)) rfl ?_; clear S; intro a S
      refine l_want S rfl rfl rfl hb9 ?_
      refine lv S (rn_move (S.tm rfl)) rfl ?_; clear S; intro a S
      refine l_want S rfl rfl rfl hb9 ?_
      refine lv S (rn_eql (S.tm rfl) (S.tm rfl)) rfl ?_; clear S; intro a S
      refine lv S (rn_and_t hb9 (S.tm rfl) (S.tm rfl)) rfl ?_; clear S; intro a S
      refine l_done ?_
      refine then_n ?_
      exact ⟨Keep.refl _ _, S.nf [] rfl ⟨rfl, rfl, rfl, rfl, rfl, rfl, rfl, rfl, rfl, trivial⟩⟩
    · refine l_skip S rfl rfl rfl (by rw [hb9]; rfl) rfl ?_ rfl; clear S; intro a S
      refine l_skip S rfl rfl rfl (by rw [hb9]; rfl) rfl ?_ rfl; clear S; intro a S
      refine l_skip S rfl rfl rfl (by rw [hb9]; rfl) rfl ?_ rfl; clear S; intro a S
      refine lv S (rn_and_f (decide (r7.1 = x2)) hb9 (S.tm rfl) rfl) rfl ?_; clear S; intro a S
      refine l_done ?_
      refine then_n ?_
      exact ⟨Keep.refl _ _, S.nf [] rfl ⟨rfl, rfl, rfl, rfl, rfl, rfl, rfl, rfl, rfl, trivial⟩⟩
  clear S; rintro a w38 ⟨hk34, S⟩
  refine lv S (rn_move (S.tm rfl)) rfl ?_; clear S; intro a S
  refine f_cutm 4 (fun a w' => Keep [] w38 w' ∧ Sx w [] φ6 [] [(12, .int .i64 r8.1), (14, u3), (15, .int .i64 r9.2), (19, .int .i64 (tumblaw2_errs [x1, (tumblaw2_when ((decide (r3.1 < 1)) || (decide (3600000 < r3.1))) 1)])), (21, .int .i64 x4), (23, v20), (136, .bool (((c1 && (decide (r7.2 = x1))) && (decide (r7.1 = x2))) && (decide (r8.2 = (tumblaw2_errs [r10, (tumbref2_WindowFault (GWindow.mk r4.1 r5.1))])))))] 155 a w') ?_ ?_
  · rcases Bool.eq_false_or_eq_true ((c1 && (decide (r7.2 = x1))) && (decide (r7.1 = x2))) with hb10 | hb10
    · refine l_want S rfl rfl rfl hb10 ?_
      refine lv S (rn_move (S.tm rfl)) rfl ?_; clear S; intro a S
      refine l_want S rfl rfl rfl hb10 ?_
      refine lv S (rn_move (S.tm rfl)) rfl ?_; clear S; intro a S
      refine l_want S rfl rfl rfl hb10 ?_
      refine lv S (rn_eql (S.tm rfl) (S.tm rfl)) rfl ?_; clear S; intro a S
      refine lv S (rn_and_t hb10 (S.tm rfl) (S.tm rfl)) rfl ?_; clear S; intro a S
      refine l_done ?_
      refine then_n ?_
      exact ⟨Keep.refl _ _, S.nf [] rfl ⟨rfl, rfl, rfl, rfl, rfl, rfl, rfl, trivial⟩⟩
    · refine l_skip S rfl rfl rfl (by rw [hb10]; rfl) rfl ?_ rfl; clear S; intro a S
      refine l_skip S rfl rfl rfl (by rw [hb10]; rfl) rfl ?_ rfl; clear S; intro a S
      refine l_skip S rfl rfl rfl (by rw [hb10]; rfl) rfl ?_ rfl; clear S; intro a S
      refine lv S (rn_and_f (decide (r8.2 = (tumblaw2_errs [r10, (tumbref2_WindowFault (GWindow.mk r4.1 r5.1))]))) hb10 (S.tm rfl) rfl) rfl ?_; clear S; intro a S
      refine l_done ?_
      refine then_n ?_
      exact ⟨Keep.refl _ _, S.nf [] rfl ⟨rfl, rfl, rfl, rfl, rfl, rfl, rfl, trivial⟩⟩
  clear S; rintro a w39 ⟨hk35, S⟩
  refine lv S (rn_move (S.tm rfl)) rfl ?_; clear S; intro a S
  refine f_cutm 4 (fun a w' => Keep [] w39 w' ∧ Sx w [] φ6 [] [(14, u3), (15, .int .i64 r9.2), (19, .int .i64 (tumblaw2_errs [x1, (tumblaw2_when ((decide (r3.1 < 1)) || (decide (3600000 < r3.1))) 1)])), (23, v20), (141, .bool ((((c1 && (decide (r7.2 = x1))) && (decide (r7.1 = x2))) && (decide (r8.2 = (tumblaw2_errs [r10, (tumbref2_WindowFault (GWindow.mk r4.1 r5.1))])))) && (decide (r8.1 = x4))))] 155 a w') ?_ ?_
  · rcases Bool.eq_false_or_eq_true (((c1 && (decide (r7.2 = x1))) && (decide (r7.1 = x2))) && (decide (r8.2 = (tumblaw2_errs [r10, (tumbref2_WindowFault (GWindow.mk r4.1 r5.1))])))) with hb11 | hb11
    · refine l_want S rfl rfl rfl hb11 ?_
      refine lv S (rn_move (S.tm rfl)) rfl ?_; clear S; intro a S
      refine l_want S rfl rfl rfl hb11 ?_
      refine lv S (rn_move (S.tm rfl)) rfl ?_; clear S; intro a S
      refine l_want S rfl rfl rfl hb11 ?_
      refine lv S (rn_eql (S.tm rfl) (S.tm rfl)) rfl ?_; clear S; intro a S
      refine lv S (rn_and_t hb11 (S.tm rfl) (S.tm rfl)) rfl ?_; clear S; intro a S
      refine l_done ?_
      refine then_n ?_
      exact ⟨Keep.refl _ _, S.nf [] rfl ⟨rfl, rfl, rfl, rfl, rfl, trivial⟩⟩
    · refine l_skip S rfl rfl rfl (by rw [hb11]; rfl) rfl ?_ rfl; clear S; intro a S
      refine l_skip S rfl rfl rfl (by rw [hb11]; rfl) rfl ?_ rfl; clear S; intro a S
      refine l_skip S rfl rfl rfl (by rw [hb11]; rfl) rfl ?_ rfl; clear S; intro a S
      refine lv S (rn_and_f (decide (r8.1 = x4)) hb11 (S.tm rfl) rfl) rfl ?_; clear S; intro a S
      refine l_done ?_
      refine then_n ?_
      exact ⟨Keep.refl _ _, S.nf [] rfl ⟨rfl, rfl, rfl, rfl, rfl, trivial⟩⟩
  clear S; rintro a w40 ⟨hk36, S⟩
  refine lv S (rn_move (S.tm rfl)) rfl ?_; clear S; intro a S
  refine f_cutm 4 (fun a w' => Keep [] w40 w' ∧ Sx w [] φ6 [] [(14, u3), (23, v20), (146, .bool (((((c1 && (decide (r7.2 = x1))) && (decide (r7.1 = x2))) && (decide (r8.2 = (tumblaw2_errs [r10, (tumbref2_WindowFault (GWindow.mk r4.1 r5.1))])))) && (decide (r8.1 = x4))) && (decide (r9.2 = (tumblaw2_errs [x1, (tumblaw2_when ((decide (r3.1 < 1)) || (decide (3600000 < r3.1))) 1)])))))] 155 a w') ?_ ?_
  · rcases Bool.eq_false_or_eq_true ((((c1 && (decide (r7.2 = x1))) && (decide (r7.1 = x2))) && (decide (r8.2 = (tumblaw2_errs [r10, (tumbref2_WindowFault (GWindow.mk r4.1 r5.1))])))) && (decide (r8.1 = x4))) with hb12 | hb12
    · refine l_want S rfl rfl rfl hb12 ?_
      refine lv S (rn_move (S.tm rfl)) rfl ?_; clear S; intro a S
      refine l_want S rfl rfl rfl hb12 ?_
      refine lv S (rn_move (S.tm rfl)) rfl ?_; clear S; intro a S
      refine l_want S rfl rfl rfl hb12 ?_
      refine lv S (rn_eql (S.tm rfl) (S.tm rfl)) rfl ?_; clear S; intro a S
      refine lv S (rn_and_t hb12 (S.tm rfl) (S.tm rfl)) rfl ?_; clear S; intro a S
      refine l_done ?_
      refine then_n ?_
      exact ⟨Keep.refl _ _, S.nf [] rfl ⟨rfl, rfl, rfl, trivial⟩⟩
    · refine l_skip S rfl rfl rfl (by rw [hb12]; rfl) rfl ?_ rfl; clear S; intro a S
      refine l_skip S rfl rfl rfl (by rw [hb12]; rfl) rfl ?_ rfl; clear S; intro a S
      refine l_skip S rfl rfl rfl (by rw [hb12]; rfl) rfl ?_ rfl; clear S; intro a S
      refine lv S (rn_and_f (decide (r9.2 = (tumblaw2_errs [x1, (tumblaw2_when ((decide (r3.1 < 1)) || (decide (3600000 < r3.1))) 1)]))) hb12 (S.tm rfl) rfl) rfl ?_; clear S; intro a S
      refine l_done ?_
      refine then_n ?_
      exact ⟨Keep.refl _ _, S.nf [] rfl ⟨rfl, rfl, rfl, trivial⟩⟩
  clear S; rintro a w41 ⟨hk37, S⟩
  refine lv S (rn_move (S.tm rfl)) rfl ?_; clear S; intro a S
  obtain ⟨j6, hj6, h⟩ := joinE h
  refine f_cutm 4 (fun a w' => ∃ c2, j6 c2 = some r ∧ Keep [] w41 w' ∧ Sx w [] φ6 [] [(151, .bool c2)] 155 a w') ?_ ?_
  · rcases Bool.eq_false_or_eq_true (((((c1 && (decide (r7.2 = x1))) && (decide (r7.1 = x2))) && (decide (r8.2 = (tumblaw2_errs [r10, (tumbref2_WindowFault (GWindow.mk r4.1 r5.1))])))) && (decide (r8.1 = x4))) && (decide (r9.2 = (tumblaw2_errs [x1, (tumblaw2_when ((decide (r3.1 < 1)) || (decide (3600000 < r3.1))) 1)])))) with hb13 | hb13
    · replace h := iteT h hb13
      refine l_want S rfl rfl rfl hb13 ?_
      refine lv S (rn_move (S.tm rfl)) rfl ?_; clear S; intro a S
      refine l_want S rfl rfl rfl hb13 ?_
      refine lv S (rn_move (S.tm rfl)) rfl ?_; clear S; intro a S
      refine l_want S rfl rfl rfl hb13 ?_
      obtain ⟨r18, hr18, h⟩ := bindE h
      refine l_enter S (fun _ => run_call (vs := [u3, v20]) ⟨(S.tm rfl), (S.tm rfl), trivial⟩ Tryd.call22) (slices_Equal_Window_ok _ u3 r9.1 (((ownV_slcT GWindow.enc_ok hs3).mono (View.le_trans hl4 hl6)).mono (S.le_new nil_sub)) v20 x5 (((ownV_slcT GWindow.enc_ok hs6)).mono (S.le_new nil_sub)) _ hr18) rfl ?_; clear S; intro v24 a w43 hv22 hk38 hn22 S
      subst hv22
      refine lv S (rn_and_t hb13 (S.tm rfl) (S.tm rfl)) rfl ?_; clear S; intro a S
      refine l_done ?_
      refine then_n ?_
      exact ⟨_, h, hk38, S.nf [] rfl ⟨rfl, trivial⟩⟩
    · replace h := iteF h hb13
      refine l_skip S rfl rfl rfl (by rw [hb13]; rfl) rfl ?_ rfl; clear S; intro a S
      refine l_skip S rfl rfl rfl (by rw [hb13]; rfl) rfl ?_ rfl; clear S; intro a S
      refine l_skip S rfl rfl rfl (by rw [hb13]; rfl) rfl ?_ rfl; clear S; intro a S
      refine lv S (rn_and_f true hb13 (S.tm rfl) rfl) rfl ?_; clear S; intro a S
      refine l_done ?_
      refine then_n ?_
      exact ⟨_, h, Keep.refl _ _, S.nf [] rfl ⟨rfl, trivial⟩⟩
  clear S h; rintro a w42 ⟨c2, h, hk39, S⟩; rw [hj6] at h; clear hj6 j6
  refine lv S (rn_move (S.tm rfl)) rfl ?_; clear S; intro a S
  obtain ⟨j7, hj7, h⟩ := joinE h
  refine f_cutm 2 (fun a w' => ∃ c3, j7 c3 = some r ∧ Keep [] w42 w' ∧ Sx w [] φ6 [] [(154, .bool c3)] 155 a w') ?_ ?_
  · rcases Bool.eq_false_or_eq_true c2 with hb14 | hb14
    · replace h := iteT h hb14
      refine l_want S rfl rfl rfl hb14 ?_
      obtain ⟨r19, hr19, h⟩ := bindE h
      refine l_enter S (fun _ => run_call (vs := []) trivial Tryd.call23) (tumblaw2_timed_ok _ _ hr19) rfl ?_; clear S; intro v25 a w45 hv23 hk40 hn23 S
      subst hv23
      refine lv S (rn_and_t hb14 (S.tm rfl) (S.tm rfl)) rfl ?_; clear S; intro a S
      refine l_done ?_
      refine then_n ?_
      exact ⟨_, h, hk40, S.nf [] rfl ⟨rfl, trivial⟩⟩
    · replace h := iteF h hb14
      refine l_skip S rfl rfl rfl (by rw [hb14]; rfl) rfl ?_ rfl; clear S; intro a S
      refine lv S (rn_and_f true hb14 (S.tm rfl) rfl) rfl ?_; clear S; intro a S
      refine l_done ?_
      refine then_n ?_
      exact ⟨_, h, Keep.refl _ _, S.nf [] rfl ⟨rfl, trivial⟩⟩
  clear S h; rintro a w44 ⟨c3, h, hk41, S⟩; rw [hj7] at h; clear hj7 j7
  refine lv S (rn_assign (S.tm rfl)) rfl ?_; clear S; intro a S
  refine l_done ?_
  replace S := S.nf (L' := []) (K' := [(2, .bool c3)]) [] rfl ⟨rfl, trivial⟩
  refine then_n ?_
  refine wp_ret ?_
  obtain rfl := Option.some.inj h
  exact f_ret S Tryd.results3 rfl rfl
end Go.Proofs.YtfejddpblajggaaDoor
