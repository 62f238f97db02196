/- Each Go function computes its plain twin, by program. -/
import Derived.Test.YtmoigiaomdkfiaaDoorTab
import Derived.Test.YtmoigiaomdkfiaaDoorLay
namespace Go.Proofs.YtmoigiaomdkfiaaDoor
open Go
theorem tumbmake_Below_ok (w : World) (p_x : Int) (p_n : Int) (r : Int) (h : tumbmake_Below p_x p_n = some r) :
    Calls Tryd.prog 55 [iV p_x, iV p_n].toArray w (Ret w [] fun _ v _ => v = iV r) := by
 refine f_enter [] [] Tryd.func55 rfl Tryd.ntmps55 rfl (by simp) (by simp [fps]) (by simp [fps]) fun a S => ?_
 unfold tumbmake_Below at h
 replace S := S.nk [] [(0, iV p_x), (1, iV p_n)] [] rfl (subR rfl)
 refine f_seq (f_region (lv S (rn_assign rfl) rfl ?_)); clear S; intro a S
 refine l_done (then_n (f_seq (f_seq (f_region (lv S (rn_move (S.tm rfl)) rfl ?_))))); clear S; intro a S
 refine lv S (rn_lss (S.tm rfl) rfl) rfl ?_; clear S; intro a S
 refine l_done (then_n (f_cond (S.tm rfl) (fun hb1 => ?_) (fun hb1 => ?_)))
 ·replace h := iteT h hb1
  refine f_seq (f_region (lv S (rn_assign rfl) rfl ?_)); clear S; intro a S
  refine l_done (then_n (wp_ret (then_r ?_)))
  obtain rfl := Option.some.inj h
  exact f_ret S Tryd.results55 rfl rfl
 ·replace h := iteF h hb1
  refine wp_skip (then_n (f_seq (f_region (lv S (rn_move (S.tm rfl)) rfl ?_)))); clear S; intro a S
  refine lv S (rn_move (S.tm rfl)) rfl ?_; clear S; intro a S
  obtain ⟨hc1, h⟩ := chkE h
  refine lv S (rn_rem (S.tm rfl) (S.tm rfl) (ne0_of hc1)) rfl ?_; clear S; intro a S
  refine lv S (rn_assign (S.tm rfl)) rfl ?_; clear S; intro a S
  refine l_done (then_n (f_seq (f_seq (f_region (lv S (rn_move (S.tm rfl)) rfl ?_))))); clear S; intro a S
  refine lv S (rn_lss (S.tm rfl) rfl) rfl ?_; clear S; intro a S
  refine l_done (then_n ?_)
  obtain ⟨j1, hj1, h⟩ := joinE h
  refine f_join (fun a w' => ∃ x1 : Int, j1 x1 = some r ∧ Sx w [] nov [] [(0, iV x1)] 16 a w') ?_ ?_
  ·refine f_cond (S.tm rfl) (fun hb2 => ?_) (fun hb2 => ?_)
   ·replace h := iteT h hb2
    refine f_region (lv S (rn_move (S.tm rfl)) rfl ?_); clear S; intro a S
    refine lv S (rn_move (S.tm rfl)) rfl ?_; clear S; intro a S
    refine lv S (rn_add (S.tm rfl) (S.tm rfl)) rfl ?_; clear S; intro a S
    refine lv S (rn_assign (S.tm rfl)) rfl ?_; clear S; intro a S
    refine l_done (then_n ?_)
    exact ⟨W ((Int.tmod p_x p_n) + p_n), h, S.nf [] rfl ⟨rfl, trivial⟩⟩
   ·replace h := iteF h hb2
    refine wp_skip (then_n ?_)
    exact ⟨Int.tmod p_x p_n, h, S.nf [] rfl ⟨rfl, trivial⟩⟩
  clear S h; rintro a w1 ⟨x1, h, S⟩; rw [hj1] at h; clear hj1 j1
  refine then_n (f_seq (f_region (lv S (rn_move (S.tm rfl)) rfl ?_))); clear S; intro a S
  refine lv S (rn_assign (S.tm rfl)) rfl ?_; clear S; intro a S
  refine l_done (then_n (wp_ret ?_))
  obtain rfl := Option.some.inj h
  exact f_ret S Tryd.results55 rfl rfl
set_option maxRecDepth 20000 in
theorem Stream_Next_ok (w : World) (b_p_s : Nat) (v_p_s_L : Value) (p_s_L : List Int) (hs_p_s_L : Slc (view w [b_p_s]) 1 v_p_s_L (p_s_L.map eInt)) (p_s_at : Int) (hb_b_p_s : (LEnt.blk b_p_s [v_p_s_L, iV p_s_at] 25).holds w) (p_n : Int) (r : Int × Int) (h : Stream_Next p_s_L p_s_at p_n = some r) :
    Calls Tryd.prog 35 [.pointer (some ⟨b_p_s, 0, none⟩), iV p_n].toArray w (Ret w [b_p_s] fun _ v w' => (LEnt.blk b_p_s [v_p_s_L, iV r.2] 25).holds w' ∧ v = iV r.1) := by
 refine f_enter [b_p_s] [.blk b_p_s [v_p_s_L, iV p_s_at] 25] Tryd.func35 rfl Tryd.ntmps35 rfl (fun e he => by simp only [List.mem_singleton] at he; subst he; exact hb_b_p_s) (by simp [fps, LEnt.fp]) (by simp [fps, LEnt.fp]) fun a S => ?_
 unfold Stream_Next at h
 replace S := S.nk [.blk b_p_s [v_p_s_L, iV p_s_at] 25] [(0, .pointer (some ⟨b_p_s, 0, none⟩)), (1, iV p_n)] [true] rfl (subR rfl)
 refine f_seq (f_region (lv S (rn_assign rfl) rfl ?_)); clear S; intro a S
 refine l_done (then_n (f_seq (f_region (lv S (rn_move (S.tm rfl)) rfl ?_)))); clear S; intro a S
 refine lv S (rn_nilCheck (S.tm rfl)) rfl ?_; clear S; intro a S
 refine lv S (rn_fld fa_25_1 (S.tm rfl)) rfl ?_; clear S; intro a S
 refine lv S (rn_load Tryd.isAgg3 (S.tm rfl) (S.cell (i := 0) rfl rfl)) rfl ?_; clear S; intro a S
 refine lv S (rn_add (S.tm rfl) rfl) rfl ?_; clear S; intro a S
 refine lv S (rn_nilCheck (S.tm rfl)) rfl ?_; clear S; intro a S
 refine lv S (rn_fld fa_25_1 (S.tm rfl)) rfl ?_; clear S; intro a S
 refine l_store S (S.tm rfl) (S.tm rfl) (i := 0) (off := 1) rfl Tryd.sizeOf3 (vs := [iV (W (p_s_at + 1))]) rfl rfl rfl rfl ?_; clear S; intro w1 hk1 S
 refine l_done (then_n (f_seq (f_seq (f_region (lv S (rn_move (S.tm rfl)) rfl ?_))))); clear S; intro a S
 refine lv S (rn_nilCheck (S.tm rfl)) rfl ?_; clear S; intro a S
 refine lv S (rn_fld fa_25_0 (S.tm rfl)) rfl ?_; clear S; intro a S
 refine lv S (rn_load Tryd.isAgg22 (S.tm rfl) (S.cell (i := 0) rfl rfl)) rfl ?_; clear S; intro a S
 refine lv S (rn_lenT sl_22 (S.tm rfl) (slc_len hs_p_s_L)) rfl ?_; clear S; intro a S
 refine lv S (rn_eql (S.tm rfl) rfl) rfl ?_; clear S; intro a S
 refine l_done ?_
 replace S := S.nk [.blk b_p_s [v_p_s_L, iV (W (p_s_at + 1))] 25] [(0, .pointer (some ⟨b_p_s, 0, none⟩)), (1, iV p_n), (19, bV (decide ((p_s_L.length : Int) = 0)))] [true] rfl (subR rfl)
 refine then_n (f_cond (S.tm rfl) (fun hb1 => ?_) (fun hb1 => ?_))
 ·replace h := iteT h hb1
  refine f_seq (f_region (lv S (rn_move (S.tm rfl)) rfl ?_)); clear S; intro a S
  refine lv S (rn_nilCheck (S.tm rfl)) rfl ?_; clear S; intro a S
  refine lv S (rn_fld fa_25_1 (S.tm rfl)) rfl ?_; clear S; intro a S
  refine lv S (rn_load Tryd.isAgg3 (S.tm rfl) (S.cell (i := 0) rfl rfl)) rfl ?_; clear S; intro a S
  refine lv S (rn_mul (S.tm rfl) rfl) rfl ?_; clear S; intro a S
  refine lv S (rn_move (S.tm rfl)) rfl ?_; clear S; intro a S
  obtain ⟨r1, hr1, h⟩ := bindE h
  refine l_enter S (fun _ => run_call (vs := [iV (W ((W (p_s_at + 1)) * 7919)), iV p_n]) ⟨(S.tm rfl), (S.tm rfl), trivial⟩ Tryd.call55) (tumbmake_Below_ok _ (W ((W (p_s_at + 1)) * 7919)) p_n _ hr1) rfl ?_; clear S; intro v1 a w2 hv1 hk2 hn1 S
  subst hv1
  refine lv S (rn_assign (S.tm rfl)) rfl ?_; clear S; intro a S
  refine l_done (then_n (wp_ret (then_r ?_)))
  obtain rfl := Option.some.inj h
  exact f_ret S Tryd.results35 rfl ⟨(S.holds _ (List.mem_of_getElem? (i := 0) rfl)), rfl⟩
 ·replace h := iteF h hb1
  refine wp_skip (then_n (f_seq (d_region [] ([]) Tryd.mixed S rfl (by kernel_rfl) ?_))); clear S; intro w3 hk3 hsel S
  refine d_rest [0, 1, 2, 3, 4, 5, 6, 7, 8, 9, 10, 11] hsel (by kernel_rfl) rfl ?_
  clear hsel
  refine s_lv S rfl (rn_move (S.tm rfl)) rfl ?_; clear S; intro a S
  refine s_lv S rfl (rn_nilCheck (S.tm rfl)) rfl ?_; clear S; intro a S
  refine s_lv S rfl (rn_fld fa_25_1 (S.tm rfl)) rfl ?_; clear S; intro a S
  refine s_lv S rfl (rn_load Tryd.isAgg3 (S.tm rfl) (S.cell (i := 0) rfl rfl)) rfl ?_; clear S; intro a S
  refine s_lv S rfl (rn_sub (S.tm rfl) rfl) rfl ?_; clear S; intro a S
  refine s_lv S rfl (rn_move (S.tm rfl)) rfl ?_; clear S; intro a S
  refine s_lv S rfl (rn_nilCheck (S.tm rfl)) rfl ?_; clear S; intro a S
  refine s_lv S rfl (rn_fld fa_25_0 (S.tm rfl)) rfl ?_; clear S; intro a S
  refine s_lv S rfl (rn_load Tryd.isAgg22 (S.tm rfl) (S.cell (i := 0) rfl rfl)) rfl ?_; clear S; intro a S
  refine s_lv S rfl (rn_lenT sl_22 (S.tm rfl) (slc_len hs_p_s_L)) rfl ?_; clear S; intro a S
  obtain ⟨hc1, h⟩ := chkE h
  refine s_lv S rfl (rn_rem (S.tm rfl) (S.tm rfl) (ne0_of hc1)) rfl ?_; clear S; intro a S
  refine s_lv S rfl (rn_assign (S.tm rfl)) rfl ?_; clear S; intro a S
  refine s_done ?_
  replace S := S.nk [.blk b_p_s [v_p_s_L, iV (W (p_s_at + 1))] 25] [(0, .pointer (some ⟨b_p_s, 0, none⟩)), (1, iV p_n), (5, iV (Int.tmod (W ((W (p_s_at + 1)) - 1)) (p_s_L.length : Int)))] [true] rfl (subR rfl)
  refine then_n (f_seq (d_region [] ([]) Tryd.mixed S rfl (by kernel_rfl) ?_)); clear S; intro w4 hk4 hsel S
  refine d_rest [0, 1, 2, 3, 4, 5, 6, 7, 8, 9, 10, 11] hsel (by kernel_rfl) rfl ?_
  clear hsel
  refine s_lv S rfl (rn_move (S.tm rfl)) rfl ?_; clear S; intro a S
  refine s_lv S rfl (rn_nilCheck (S.tm rfl)) rfl ?_; clear S; intro a S
  refine s_lv S rfl (rn_fld fa_25_1 (S.tm rfl)) rfl ?_; clear S; intro a S
  refine s_lv S rfl (rn_load Tryd.isAgg3 (S.tm rfl) (S.cell (i := 0) rfl rfl)) rfl ?_; clear S; intro a S
  refine s_lv S rfl (rn_sub (S.tm rfl) rfl) rfl ?_; clear S; intro a S
  refine s_lv S rfl (rn_move (S.tm rfl)) rfl ?_; clear S; intro a S
  refine s_lv S rfl (rn_nilCheck (S.tm rfl)) rfl ?_; clear S; intro a S
  refine s_lv S rfl (rn_fld fa_25_0 (S.tm rfl)) rfl ?_; clear S; intro a S
  refine s_lv S rfl (rn_load Tryd.isAgg22 (S.tm rfl) (S.cell (i := 0) rfl rfl)) rfl ?_; clear S; intro a S
  refine s_lv S rfl (rn_lenT sl_22 (S.tm rfl) (slc_len hs_p_s_L)) rfl ?_; clear S; intro a S
  obtain ⟨hc2, h⟩ := chkE h
  refine s_lv S rfl (rn_quo (S.tm rfl) (S.tm rfl) (ne0_of hc2)) rfl ?_; clear S; intro a S
  refine s_lv S rfl (rn_assign (S.tm rfl)) rfl ?_; clear S; intro a S
  refine s_done ?_
  replace S := S.nk [.blk b_p_s [v_p_s_L, iV (W (p_s_at + 1))] 25] [(0, .pointer (some ⟨b_p_s, 0, none⟩)), (1, iV p_n), (5, iV (Int.tmod (W ((W (p_s_at + 1)) - 1)) (p_s_L.length : Int))), (6, iV (W (Int.tdiv (W ((W (p_s_at + 1)) - 1)) (p_s_L.length : Int))))] [true] rfl (subR rfl)
  refine then_n (f_seq (f_region (lv S (rn_move (S.tm rfl)) rfl ?_))); clear S; intro a S
  refine lv S (rn_nilCheck (S.tm rfl)) rfl ?_; clear S; intro a S
  refine lv S (rn_fld fa_25_0 (S.tm rfl)) rfl ?_; clear S; intro a S
  refine lv S (rn_load Tryd.isAgg22 (S.tm rfl) (S.cell (i := 0) rfl rfl)) rfl ?_; clear S; intro a S
  refine lv S (rn_move (S.tm rfl)) rfl ?_; clear S; intro a S
  obtain ⟨hc3, h⟩ := chkE h
  obtain ⟨b1, o1, hm1, hr2⟩ := rn_indexT (a := a) (x := .tmp 52) (y := .tmp 53) (ty := 0) sl_22 hs_p_s_L (inB_get hc3).1 (inB_get hc3).2 (S.tm rfl) (S.tm rfl)
  refine lv S (hr2 _) rfl ?_; clear S; intro a S
  clear hr2
  refine lv S (rn_ld Tryd.isAgg3 (off := o1) (o := 0) (S.tm rfl) (hm1.at S.emb0) rfl) rfl ?_; clear S; intro a S
  obtain ⟨r2, hr3, h⟩ := bindE h
  refine l_enter S (fun _ => run_call (vs := [iV (nth p_s_L (Int.tmod (W ((W (p_s_at + 1)) - 1)) (p_s_L.length : Int))), iV 1073741824]) ⟨(S.tm rfl), rfl, trivial⟩ Tryd.call55) (tumbmake_Below_ok _ (nth p_s_L (Int.tmod (W ((W (p_s_at + 1)) - 1)) (p_s_L.length : Int))) 1073741824 _ hr3) rfl ?_; clear S; intro v2 a w5 hv2 hk5 hn2 S
  subst hv2
  refine lv S (rn_move (S.tm rfl)) rfl ?_; clear S; intro a S
  refine lv S (rn_move (S.tm rfl)) rfl ?_; clear S; intro a S
  refine lv S (rn_add rfl (S.tm rfl)) rfl ?_; clear S; intro a S
  refine lv S (rn_mul (S.tm rfl) (S.tm rfl)) rfl ?_; clear S; intro a S
  refine lv S (rn_add (S.tm rfl) (S.tm rfl)) rfl ?_; clear S; intro a S
  refine lv S (rn_move (S.tm rfl)) rfl ?_; clear S; intro a S
  obtain ⟨r3, hr4, h⟩ := bindE h
  refine l_enter S (fun _ => run_call (vs := [iV (W (r2 + (W ((W (Int.tdiv (W ((W (p_s_at + 1)) - 1)) (p_s_L.length : Int))) * (W (7919 + (Int.tmod (W ((W (p_s_at + 1)) - 1)) (p_s_L.length : Int)))))))), iV p_n]) ⟨(S.tm rfl), (S.tm rfl), trivial⟩ Tryd.call55) (tumbmake_Below_ok _ (W (r2 + (W ((W (Int.tdiv (W ((W (p_s_at + 1)) - 1)) (p_s_L.length : Int))) * (W (7919 + (Int.tmod (W ((W (p_s_at + 1)) - 1)) (p_s_L.length : Int)))))))) p_n _ hr4) rfl ?_; clear S; intro v3 a w6 hv3 hk6 hn3 S
  subst hv3
  refine lv S (rn_assign (S.tm rfl)) rfl ?_; clear S; intro a S
  refine l_done ?_
  replace S := S.nk [.blk b_p_s [v_p_s_L, iV (W (p_s_at + 1))] 25] [(4, iV r3)] [true] rfl ⟨rfl, trivial⟩
  refine then_n (wp_ret ?_)
  obtain rfl := Option.some.inj h
  exact f_ret S Tryd.results35 rfl ⟨(S.holds _ (List.mem_of_getElem? (i := 0) rfl)), rfl⟩
theorem Stream_Pick_ok (w : World) (b_p_s : Nat) (v_p_s_L : Value) (p_s_L : List Int) (hs_p_s_L : Slc (view w [b_p_s]) 1 v_p_s_L (p_s_L.map eInt)) (p_s_at : Int) (hb_b_p_s : (LEnt.blk b_p_s [v_p_s_L, iV p_s_at] 25).holds w) (v_p_l : Value) (p_l : List Int) (hs_p_l : Slc (view w [b_p_s]) 1 v_p_l (p_l.map eInt)) (r : Int × Int) (h : Stream_Pick p_s_L p_s_at p_l = some r) :
    Calls Tryd.prog 17 [.pointer (some ⟨b_p_s, 0, none⟩), v_p_l].toArray w (Ret w [b_p_s] fun _ v w' => (LEnt.blk b_p_s [v_p_s_L, iV r.2] 25).holds w' ∧ v = iV r.1) := by
 refine f_enter [b_p_s] [.blk b_p_s [v_p_s_L, iV p_s_at] 25] Tryd.func17 rfl Tryd.ntmps17 rfl (fun e he => by simp only [List.mem_singleton] at he; subst he; exact hb_b_p_s) (by simp [fps, LEnt.fp]) (by simp [fps, LEnt.fp]) fun a S => ?_
 unfold Stream_Pick at h
 replace S := S.nk [.blk b_p_s [v_p_s_L, iV p_s_at] 25] [(0, .pointer (some ⟨b_p_s, 0, none⟩)), (1, v_p_l)] [true] rfl (subR rfl)
 refine f_seq (f_region (lv S (rn_assign rfl) rfl ?_)); clear S; intro a S
 refine l_done (then_n (f_seq (f_region (lv S (rn_move (S.tm rfl)) rfl ?_)))); clear S; intro a S
 refine lv S (rn_move (S.tm rfl)) rfl ?_; clear S; intro a S
 refine lv S (rn_move (S.tm rfl)) rfl ?_; clear S; intro a S
 refine lv S (rn_lenT sl_22 (S.tm rfl) (slc_len hs_p_l)) rfl ?_; clear S; intro a S
 obtain ⟨r1, hr1, h⟩ := bindE h
 refine l_enter1 0 S (b := b_p_s) rfl rfl (fun _ => .blk b_p_s [v_p_s_L, iV r1.2] 25) (fun _ => run_call (vs := [.pointer (some ⟨b_p_s, 0, none⟩), iV (p_l.length : Int)]) ⟨(S.tm rfl), (S.tm rfl), trivial⟩ Tryd.call35) (Stream_Next_ok _ b_p_s v_p_s_L p_s_L (hs_p_s_L.mono (S.le_arg (fp_sub (i := 0) (e := .blk b_p_s [v_p_s_L, iV p_s_at] 25) rfl))) p_s_at (S.holds _ (List.mem_of_getElem? (i := 0) rfl)) (p_l.length : Int) _ hr1) rfl (fun _ _ _ h => ⟨h.1, fun _ hc => by cases hc; rfl⟩) ?_; clear S; intro v1 a w1 hv1 hk1 hn1 S
 replace hv1 := hv1.2
 subst hv1
 obtain ⟨hc1, h⟩ := chkE h
 obtain ⟨b1, o1, hm1, hr2⟩ := rn_indexT (a := a) (x := .tmp 5) (y := .tmp 9) (ty := 0) sl_22 hs_p_l (inB_get hc1).1 (inB_get hc1).2 (S.tm rfl) (S.tm rfl)
 refine lv S (hr2 _) rfl ?_; clear S; intro a S
 clear hr2
 refine lv S (rn_ld Tryd.isAgg3 (off := o1) (o := 0) (S.tm rfl) (hm1.at S.emb0) rfl) rfl ?_; clear S; intro a S
 refine lv S (rn_assign (S.tm rfl)) rfl ?_; clear S; intro a S
 refine l_done (then_n (wp_ret ?_))
 obtain rfl := Option.some.inj h
 exact f_ret S Tryd.results17 rfl ⟨(S.holds _ (List.mem_of_getElem? (i := 0) rfl)), rfl⟩
theorem Stream_Range_ok (w : World) (b_p_s : Nat) (v_p_s_L : Value) (p_s_L : List Int) (hs_p_s_L : Slc (view w [b_p_s]) 1 v_p_s_L (p_s_L.map eInt)) (p_s_at : Int) (hb_b_p_s : (LEnt.blk b_p_s [v_p_s_L, iV p_s_at] 25).holds w) (p_low : Int) (p_high : Int) (r : Int × Int) (h : Stream_Range p_s_L p_s_at p_low p_high = some r) :
    Calls Tryd.prog 18 [.pointer (some ⟨b_p_s, 0, none⟩), iV p_low, iV p_high].toArray w (Ret w [b_p_s] fun _ v w' => (LEnt.blk b_p_s [v_p_s_L, iV r.2] 25).holds w' ∧ v = iV r.1) := by
 refine f_enter [b_p_s] [.blk b_p_s [v_p_s_L, iV p_s_at] 25] Tryd.func18 rfl Tryd.ntmps18 rfl (fun e he => by simp only [List.mem_singleton] at he; subst he; exact hb_b_p_s) (by simp [fps, LEnt.fp]) (by simp [fps, LEnt.fp]) fun a S => ?_
 unfold Stream_Range at h
 replace S := S.nk [.blk b_p_s [v_p_s_L, iV p_s_at] 25] [(0, .pointer (some ⟨b_p_s, 0, none⟩)), (1, iV p_low), (2, iV p_high)] [true] rfl (subR rfl)
 refine f_seq (f_region (lv S (rn_assign rfl) rfl ?_)); clear S; intro a S
 refine l_done (then_n (f_seq (f_seq (f_region (lv S (rn_move (S.tm rfl)) rfl ?_))))); clear S; intro a S
 refine lv S (rn_move (S.tm rfl)) rfl ?_; clear S; intro a S
 refine lv S (rn_lss (S.tm rfl) (S.tm rfl)) rfl ?_; clear S; intro a S
 refine l_done (then_n (f_cond (S.tm rfl) (fun hb1 => ?_) (fun hb1 => ?_)))
 ·replace h := iteT h hb1
  refine f_seq (f_region (lv S (rn_move (S.tm rfl)) rfl ?_)); clear S; intro a S
  refine lv S (rn_assign (S.tm rfl)) rfl ?_; clear S; intro a S
  refine l_done (then_n (wp_ret (then_r ?_)))
  obtain rfl := Option.some.inj h
  exact f_ret S Tryd.results18 rfl ⟨(S.holds _ (List.mem_of_getElem? (i := 0) rfl)), rfl⟩
 ·replace h := iteF h hb1
  refine wp_skip (then_n (f_seq (f_region (lv S (rn_move (S.tm rfl)) rfl ?_)))); clear S; intro a S
  iterate 3 (refine lv S (rn_move (S.tm rfl)) rfl ?_; clear S; intro a S)
  refine lv S (rn_sub (S.tm rfl) (S.tm rfl)) rfl ?_; clear S; intro a S
  refine lv S (rn_add (S.tm rfl) rfl) rfl ?_; clear S; intro a S
  obtain ⟨r1, hr1, h⟩ := bindE h
  refine l_enter1 0 S (b := b_p_s) rfl rfl (fun _ => .blk b_p_s [v_p_s_L, iV r1.2] 25) (fun _ => run_call (vs := [.pointer (some ⟨b_p_s, 0, none⟩), iV (W ((W (p_high - p_low)) + 1))]) ⟨(S.tm rfl), (S.tm rfl), trivial⟩ Tryd.call35) (Stream_Next_ok _ b_p_s v_p_s_L p_s_L (hs_p_s_L.mono (S.le_arg (fp_sub (i := 0) (e := .blk b_p_s [v_p_s_L, iV p_s_at] 25) rfl))) p_s_at (S.holds _ (List.mem_of_getElem? (i := 0) rfl)) (W ((W (p_high - p_low)) + 1)) _ hr1) rfl (fun _ _ _ h => ⟨h.1, fun _ hc => by cases hc; rfl⟩) ?_; clear S; intro v1 a w1 hv1 hk1 hn1 S
  replace hv1 := hv1.2
  subst hv1
  refine lv S (rn_add (S.tm rfl) (S.tm rfl)) rfl ?_; clear S; intro a S
  refine lv S (rn_assign (S.tm rfl)) rfl ?_; clear S; intro a S
  refine l_done ?_
  replace S := S.nk [.blk b_p_s [v_p_s_L, iV r1.2] 25] [(6, iV (W (p_low + r1.1)))] [true] rfl ⟨rfl, trivial⟩
  refine then_n (wp_ret ?_)
  obtain rfl := Option.some.inj h
  exact f_ret S Tryd.results18 rfl ⟨(S.holds _ (List.mem_of_getElem? (i := 0) rfl)), rfl⟩
theorem Stream_Some_ok (w : World) (b_p_s : Nat) (v_p_s_L : Value) (p_s_L : List Int) (hs_p_s_L : Slc (view w [b_p_s]) 1 v_p_s_L (p_s_L.map eInt)) (p_s_at : Int) (hb_b_p_s : (LEnt.blk b_p_s [v_p_s_L, iV p_s_at] 25).holds w) (v_p_l : Value) (p_l : List ByteArray) (hs_p_l : Slc (view w [b_p_s]) 1 v_p_l (p_l.map eStr)) (r : ByteArray × Int) (h : Stream_Some p_s_L p_s_at p_l = some r) :
    Calls Tryd.prog 19 [.pointer (some ⟨b_p_s, 0, none⟩), v_p_l].toArray w (Ret w [b_p_s] fun _ v w' => (LEnt.blk b_p_s [v_p_s_L, iV r.2] 25).holds w' ∧ v = sV r.1) := by
 refine f_enter [b_p_s] [.blk b_p_s [v_p_s_L, iV p_s_at] 25] Tryd.func19 rfl Tryd.ntmps19 rfl (fun e he => by simp only [List.mem_singleton] at he; subst he; exact hb_b_p_s) (by simp [fps, LEnt.fp]) (by simp [fps, LEnt.fp]) fun a S => ?_
 unfold Stream_Some at h
 replace S := S.nk [.blk b_p_s [v_p_s_L, iV p_s_at] 25] [(0, .pointer (some ⟨b_p_s, 0, none⟩)), (1, v_p_l)] [true] rfl (subR rfl)
 refine f_seq (f_region (lv S (rn_assign rfl) rfl ?_)); clear S; intro a S
 refine l_done (then_n (f_seq (f_region (lv S (rn_move (S.tm rfl)) rfl ?_)))); clear S; intro a S
 refine lv S (rn_move (S.tm rfl)) rfl ?_; clear S; intro a S
 refine lv S (rn_move (S.tm rfl)) rfl ?_; clear S; intro a S
 refine lv S (rn_lenT sl_32 (S.tm rfl) (slc_len hs_p_l)) rfl ?_; clear S; intro a S
 obtain ⟨r1, hr1, h⟩ := bindE h
 refine l_enter1 0 S (b := b_p_s) rfl rfl (fun _ => .blk b_p_s [v_p_s_L, iV r1.2] 25) (fun _ => run_call (vs := [.pointer (some ⟨b_p_s, 0, none⟩), iV (p_l.length : Int)]) ⟨(S.tm rfl), (S.tm rfl), trivial⟩ Tryd.call35) (Stream_Next_ok _ b_p_s v_p_s_L p_s_L (hs_p_s_L.mono (S.le_arg (fp_sub (i := 0) (e := .blk b_p_s [v_p_s_L, iV p_s_at] 25) rfl))) p_s_at (S.holds _ (List.mem_of_getElem? (i := 0) rfl)) (p_l.length : Int) _ hr1) rfl (fun _ _ _ h => ⟨h.1, fun _ hc => by cases hc; rfl⟩) ?_; clear S; intro v1 a w1 hv1 hk1 hn1 S
 replace hv1 := hv1.2
 subst hv1
 obtain ⟨hc1, h⟩ := chkE h
 obtain ⟨b1, o1, hm1, hr2⟩ := rn_indexT (a := a) (x := .tmp 5) (y := .tmp 9) (ty := 0) sl_32 hs_p_l (inB_get hc1).1 (inB_get hc1).2 (S.tm rfl) (S.tm rfl)
 refine lv S (hr2 _) rfl ?_; clear S; intro a S
 clear hr2
 refine lv S (rn_ld Tryd.isAgg9 (off := o1) (o := 0) (S.tm rfl) (hm1.at S.emb0) rfl) rfl ?_; clear S; intro a S
 refine lv S (rn_assign (S.tm rfl)) rfl ?_; clear S; intro a S
 refine l_done (then_n (wp_ret ?_))
 obtain rfl := Option.some.inj h
 exact f_ret S Tryd.results19 rfl ⟨(S.holds _ (List.mem_of_getElem? (i := 0) rfl)), rfl⟩
theorem Stream_RightMoves_ok (w : World) (b_p_s : Nat) (v_p_s_L : Value) (p_s_L : List Int) (hs_p_s_L : Slc (view w [b_p_s]) 1 v_p_s_L (p_s_L.map eInt)) (p_s_at : Int) (hb_b_p_s : (LEnt.blk b_p_s [v_p_s_L, iV p_s_at] 25).holds w) (r : (List GMove) × Int) (h : Stream_RightMoves p_s_L p_s_at = some r) :
    Calls Tryd.prog 4 [.pointer (some ⟨b_p_s, 0, none⟩)].toArray w (Ret w [b_p_s] fun τ v w' => (LEnt.blk b_p_s [v_p_s_L, iV r.2] 25).holds w' ∧ OwnV τ 45 3 v r.1.length (r.1.flatMap GMove.enc)) := by
 refine f_enter [b_p_s] [.blk b_p_s [v_p_s_L, iV p_s_at] 25] Tryd.func4 rfl Tryd.ntmps4 rfl (fun e he => by simp only [List.mem_singleton] at he; subst he; exact hb_b_p_s) (by simp [fps, LEnt.fp]) (by simp [fps, LEnt.fp]) fun a S => ?_
 unfold Stream_RightMoves at h
 replace S := S.nk [.blk b_p_s [v_p_s_L, iV p_s_at] 25] [(0, .pointer (some ⟨b_p_s, 0, none⟩))] [true] rfl ⟨rfl, trivial⟩
 refine f_seq (f_region (lv S (rn_assign rfl) rfl ?_)); clear S; intro a S
 refine l_done (then_n (f_seq (f_region (lv S (rn_assign rfl) rfl ?_)))); clear S; intro a S
 replace S := S.nil 45 3
 refine l_done (then_n (f_seq (f_seq (f_region (l_buildSlice S Tryd.underlying32 Tryd.sizeOf9 Tryd.zeroValue9 rfl rfl (pv := [(0, sV k_ann), (1, sV k_bea), (2, sV k_cid), (3, sV k_dan), (4, sV k_eve)]) ⟨rfl, rfl, rfl, rfl, rfl, rfl, rfl, rfl, rfl, rfl, trivial⟩ (cs := [sV k_ann, sV k_bea, sV k_cid, sV k_dan, sV k_eve]) (by kernel_rfl) rfl ?_))))); clear S; intro a w1 b1 hz1 hk1 S
 refine lv S (rn_lenT sl_32 (S.tm rfl) ⟨_, _, rfl⟩) rfl ?_; clear S; intro a S
 refine lv S (rn_move rfl) rfl ?_; clear S; intro a S
 refine l_done (then_n ?_)
 replace S := S.nk [.blk b1 [sV k_ann, sV k_bea, sV k_cid, sV k_dan, sV k_eve] 9, .own (.slice none 0 0) 45 3 ([] : List GMove).length (([] : List GMove).flatMap GMove.enc), .blk b_p_s [v_p_s_L, iV p_s_at] 25] [(0, .pointer (some ⟨b_p_s, 0, none⟩)), (3, (.slice none 0 0)), (9, .slice (some ⟨b1, 0, none⟩) 5 5), (10, iV (([k_ann, k_bea, k_cid, k_dan, k_eve] : List ByteArray).length : Int)), (11, iV 0)] [true, true, true] rfl (subR rfl)
 replace S := S.litOwn (i := 0) (xs := [k_ann, k_bea, k_cid, k_dan, k_eve]) rfl enc_str rfl rfl rfl
 replace S := S.nk [.own (.slice (some ⟨b1, 0, none⟩) 5 5) 9 1 ([k_ann, k_bea, k_cid, k_dan, k_eve] : List ByteArray).length (([k_ann, k_bea, k_cid, k_dan, k_eve] : List ByteArray).flatMap eStr), .own (.slice none 0 0) 45 3 ([] : List GMove).length (([] : List GMove).flatMap GMove.enc), .blk b_p_s [v_p_s_L, iV p_s_at] 25] [(0, .pointer (some ⟨b_p_s, 0, none⟩)), (3, (.slice none 0 0)), (9, (.slice (some ⟨b1, 0, none⟩) 5 5)), (10, iV (([k_ann, k_bea, k_cid, k_dan, k_eve] : List ByteArray).length : Int)), (11, iV 0)] [] rfl (subR rfl)
 obtain ⟨φ1, hl1, hs1, S⟩ := S.freezeT (xs := ([k_ann, k_bea, k_cid, k_dan, k_eve] : List ByteArray)) (enc := eStr) (i := 0) rfl (fun c hc hh => not_fps S (i := 2) rfl rfl (j := 0) rfl rfl (by simp at hc; subst hc; exact hh))
 replace S := S.nk [.own (.slice none 0 0) 45 3 ([] : List GMove).length (([] : List GMove).flatMap GMove.enc), .blk b_p_s [v_p_s_L, iV p_s_at] 25] [(0, .pointer (some ⟨b_p_s, 0, none⟩)), (3, (.slice none 0 0)), (9, (.slice (some ⟨b1, 0, none⟩) 5 5)), (10, iV (([k_ann, k_bea, k_cid, k_dan, k_eve] : List ByteArray).length : Int)), (11, iV 0)] [] rfl (subR rfl)
 obtain ⟨j1, hj1, h⟩ := joinE h
 refine f_join (fun a w' => ∃ x1 : List GMove, ∃ x2 : Int, ∃ v1 : Value, j1 x1 x2 = some r ∧ Sx w [b_p_s] φ1 [.own v1 45 3 x1.length (x1.flatMap GMove.enc), .blk b_p_s [v_p_s_L, iV x2] 25] [(3, v1)] 44 a w') ?_ ?_
 ·refine wp_block (f_loop (fun (ys1 : List ByteArray) a w' => ∃ i1 : Nat, ∃ x1 : List GMove, ∃ x2 : Int, ∃ v1 : Value, (∃ dn, ([k_ann, k_bea, k_cid, k_dan, k_eve] : List ByteArray) = dn ++ ys1 ∧ dn.length = i1) ∧ Stream_RightMoves_l1 p_s_L j1 ys1 i1 x1 x2 = some r ∧ Sx w [b_p_s] φ1 [.own v1 45 3 x1.length (x1.flatMap GMove.enc), .blk b_p_s [v_p_s_L, iV x2] 25] [(0, .pointer (some ⟨b_p_s, 0, none⟩)), (3, v1), (9, (.slice (some ⟨b1, 0, none⟩) 5 5)), (10, iV (([k_ann, k_bea, k_cid, k_dan, k_eve] : List ByteArray).length : Int)), (11, iV (i1 : Int))] 44 a w') List.length ([k_ann, k_bea, k_cid, k_dan, k_eve] : List ByteArray) ⟨0, ([] : List GMove), p_s_at, (.slice none 0 0), ⟨[], rfl, rfl⟩, h, S.nf [true, true] rfl (subR rfl)⟩ ?_)
  clear S h; rintro ys1 a w2 ⟨i1, x1, x2, v1, ⟨dn, hd1, hi1⟩, h, S⟩
  cases ys1 with
  | nil =>
   rw [Stream_RightMoves_l1.eq_1] at h
   refine f_seq (f_region (lv S (rn_lss (S.tm rfl) (S.tm rfl)) rfl ?_)); clear S; intro a S
   refine l_done ?_
   replace S := S.nk [.own v1 45 3 x1.length (x1.flatMap GMove.enc), .blk b_p_s [v_p_s_L, iV x2] 25] [(0, .pointer (some ⟨b_p_s, 0, none⟩)), (3, v1), (9, (.slice (some ⟨b1, 0, none⟩) 5 5)), (10, iV (([k_ann, k_bea, k_cid, k_dan, k_eve] : List ByteArray).length : Int)), (11, iV (i1 : Int)), (12, bV (decide ((i1 : Int) < (([k_ann, k_bea, k_cid, k_dan, k_eve] : List ByteArray).length : Int))))] [true, true] rfl (subR rfl)
   refine then_n (f_seq (wp_cond_false ((S.tm rfl).trans (congrArg Value.bool (rng_nil hd1 hi1))) (wp_exit (then_x (then_x (x_same ?_))))))
   refine then_n ?_
   exact ⟨x1, x2, v1, h, S.nf [true, true] rfl ⟨rfl, trivial⟩⟩
  | cons y1 ys1 =>
   rw [Stream_RightMoves_l1.eq_2] at h
   refine f_seq (f_region (lv S (rn_lss (S.tm rfl) (S.tm rfl)) rfl ?_)); clear S; intro a S
   refine l_done ?_
   replace S := S.nk [.own v1 45 3 x1.length (x1.flatMap GMove.enc), .blk b_p_s [v_p_s_L, iV x2] 25] [(0, .pointer (some ⟨b_p_s, 0, none⟩)), (3, v1), (9, (.slice (some ⟨b1, 0, none⟩) 5 5)), (10, iV (([k_ann, k_bea, k_cid, k_dan, k_eve] : List ByteArray).length : Int)), (11, iV (i1 : Int)), (12, bV (decide ((i1 : Int) < (([k_ann, k_bea, k_cid, k_dan, k_eve] : List ByteArray).length : Int))))] [true, true] rfl (subR rfl)
   refine then_n (f_seq (wp_cond_true ((S.tm rfl).trans (congrArg Value.bool (rng_cons hd1 hi1))) (wp_skip (then_n (f_seq (wp_block ?_))))))
   refine f_seq (f_region ?_)
   obtain ⟨b2, o1, hm1, hr1⟩ := rn_indexT (a := a) (x := .tmp 9) (y := .tmp 11) (ty := 0) sl_32 (ownV_slcT enc_str hs1) (get_mid hd1 hi1) rfl (S.tm rfl) (S.tm rfl)
   refine lv S (hr1 _) rfl ?_; clear S; intro a S
   clear hr1
   refine lv S (rn_ld Tryd.isAgg9 (off := o1) (o := 0) (S.tm rfl) (hm1.at S.emb) rfl) rfl ?_; clear S; intro a S
   refine lv S (rn_assign (S.tm rfl)) rfl ?_; clear S; intro a S
   refine l_done (then_n (f_seq (f_region (lv S (rn_move (S.tm rfl)) rfl ?_)))); clear S; intro a S
   refine l_buildSlice S Tryd.underlying22 Tryd.sizeOf3 Tryd.zeroValue3 rfl rfl (pv := [(0, iV (-100)), (1, iV 0), (2, iV 50)]) ⟨rfl, rfl, rfl, rfl, rfl, rfl, trivial⟩ (cs := [iV (-100), iV 0, iV 50]) (by kernel_rfl) rfl ?_; clear S; intro a w4 b3 hz2 hk2 S
   obtain ⟨r1, hr2, h⟩ := bindE h
   refine l_enter1 2 S (b := b_p_s) rfl rfl (fun _ => .blk b_p_s [v_p_s_L, iV r1.2] 25) (fun _ => run_call (vs := [.pointer (some ⟨b_p_s, 0, none⟩), .slice (some ⟨b3, 0, none⟩) 3 3]) ⟨(S.tm rfl), (S.tm rfl), trivial⟩ Tryd.call17) (Stream_Pick_ok _ b_p_s v_p_s_L p_s_L (hs_p_s_L.mono (S.le_arg (fp_sub (i := 2) (e := .blk b_p_s [v_p_s_L, iV x2] 25) rfl))) x2 (S.holds _ (List.mem_of_getElem? (i := 2) rfl)) (.slice (some ⟨b3, 0, none⟩) 3 3) [(-100), 0, 50] (lit_slcT enc_int S (i := 0) rfl rfl rfl rfl ((ne_fp (i := 2) (j := 0) (e := .blk b_p_s [v_p_s_L, iV x2] 25) (e' := .blk b3 [iV (-100), iV 0, iV 50] 3) S rfl rfl rfl) _ rfl)) _ hr2) rfl (fun _ _ _ h => ⟨h.1, fun _ hc => by cases hc; rfl⟩) ?_; clear S; intro v2 a w5 hv1 hk3 hn1 S
   replace hv1 := hv1.2
   subst hv1
   refine lv S (rn_assign (S.tm rfl)) rfl ?_; clear S; intro a S
   refine lv S (rn_assign rfl) rfl ?_; clear S; intro a S
   refine l_done (then_n (f_seq (f_region (lv S (rn_move (S.tm rfl)) rfl ?_)))); clear S; intro a S
   obtain ⟨r2, hr3, h⟩ := bindE h
   refine l_enter1 2 S (b := b_p_s) rfl rfl (fun _ => .blk b_p_s [v_p_s_L, iV r2.2] 25) (fun _ => run_call (vs := [.pointer (some ⟨b_p_s, 0, none⟩), iV 0, iV 3]) ⟨(S.tm rfl), rfl, rfl, trivial⟩ Tryd.call18) (Stream_Range_ok _ b_p_s v_p_s_L p_s_L (hs_p_s_L.mono (S.le_arg (fp_sub (i := 2) (e := .blk b_p_s [v_p_s_L, iV r1.2] 25) rfl))) r1.2 (S.holds _ (List.mem_of_getElem? (i := 2) rfl)) 0 3 _ hr3) rfl (fun _ _ _ h => ⟨h.1, fun _ hc => by cases hc; rfl⟩) ?_; clear S; intro v3 a w6 hv2 hk4 hn2 S
   replace hv2 := hv2.2
   subst hv2
   refine lv S (rn_move rfl) rfl ?_; clear S; intro a S
   refine l_done ?_
   replace S := S.nk [.own v1 45 3 x1.length (x1.flatMap GMove.enc), .blk b_p_s [v_p_s_L, iV r2.2] 25] [(0, .pointer (some ⟨b_p_s, 0, none⟩)), (3, v1), (5, sV y1), (6, iV r1.1), (7, sV k_empty), (9, (.slice (some ⟨b1, 0, none⟩) 5 5)), (10, iV (([k_ann, k_bea, k_cid, k_dan, k_eve] : List ByteArray).length : Int)), (11, iV (i1 : Int)), (19, iV r2.1), (20, iV 0)] [false, true, true] rfl (subR rfl)
   refine then_n ?_
   obtain ⟨j2, hj2, h⟩ := joinE h
   refine f_join (fun a w' => ∃ x3 : List GMove, ∃ x4 : Int, ∃ v4 : Value, j2 x3 x4 = some r ∧ Sx w [b_p_s] φ1 [.own v4 45 3 x3.length (x3.flatMap GMove.enc), .blk b_p_s [v_p_s_L, iV x4] 25] [(0, .pointer (some ⟨b_p_s, 0, none⟩)), (3, v4), (9, (.slice (some ⟨b1, 0, none⟩) 5 5)), (10, iV (([k_ann, k_bea, k_cid, k_dan, k_eve] : List ByteArray).length : Int)), (11, iV (i1 : Int))] 44 a w') ?_ ?_
   ·refine wp_block (f_loop (fun (m1 : Nat) a w' => ∃ x3 : List GMove, ∃ x4 : Int, ∃ x5 : Int, ∃ x6 : ByteArray, ∃ x7 : Int, ∃ v4 : Value, Stream_RightMoves_l2 r2 p_s_L y1 j2 m1 x3 x4 x5 x6 x7 = some r ∧ Sx w [b_p_s] φ1 [.own v4 45 3 x3.length (x3.flatMap GMove.enc), .blk b_p_s [v_p_s_L, iV x4] 25] [(0, .pointer (some ⟨b_p_s, 0, none⟩)), (3, v4), (5, sV y1), (6, iV x5), (7, sV x6), (9, (.slice (some ⟨b1, 0, none⟩) 5 5)), (10, iV (([k_ann, k_bea, k_cid, k_dan, k_eve] : List ByteArray).length : Int)), (11, iV (i1 : Int)), (19, iV r2.1), (20, iV x7)] 44 a w') id ((r2.1 - 0).toNat + 2) ⟨x1, r2.2, r1.1, k_empty, 0, v1, h, S.nf [true, true] rfl (subR rfl)⟩ ?_)
    clear S h; rintro m1 a w7 ⟨x3, x4, x5, x6, x7, v4, h, S⟩
    cases m1 with
    | zero => rw [Stream_RightMoves_l2.eq_1] at h; cases h
    | succ m1 =>
     rw [Stream_RightMoves_l2.eq_2] at h
     refine f_seq (f_region (lv S (rn_lss (S.tm rfl) (S.tm rfl)) rfl ?_)); clear S; intro a S
     refine l_done (then_n (f_seq (f_cond (S.tm rfl) (fun hb1 => ?_) (fun hb1 => ?_))))
     ·replace h := iteT h hb1
      refine wp_skip (then_n (f_seq ?_))
      obtain ⟨j3, hj3, h⟩ := joinE h
      refine f_join (fun a w' => ∃ x8 : List GMove, ∃ x9 : Int, ∃ x10 : Int, ∃ x11 : ByteArray, ∃ v5 : Value, j3 x8 x9 x10 x11 = some r ∧ Sx w [b_p_s] φ1 [.own v5 45 3 x8.length (x8.flatMap GMove.enc), .blk b_p_s [v_p_s_L, iV x9] 25] [(0, .pointer (some ⟨b_p_s, 0, none⟩)), (3, v5), (5, sV y1), (6, iV x10), (7, sV x11), (9, (.slice (some ⟨b1, 0, none⟩) 5 5)), (10, iV (([k_ann, k_bea, k_cid, k_dan, k_eve] : List ByteArray).length : Int)), (11, iV (i1 : Int)), (19, iV r2.1), (20, iV x7)] 44 a w') ?_ ?_
      ·refine wp_block (f_seq (f_region (lv S (rn_move (S.tm rfl)) rfl ?_))); clear S; intro a S
       refine l_buildSlice S Tryd.underlying32 Tryd.sizeOf9 Tryd.zeroValue9 rfl rfl (pv := [(0, sV k_blue), (1, sV k_blue), (2, sV k_red), (3, sV k_empty)]) ⟨rfl, rfl, rfl, rfl, rfl, rfl, rfl, rfl, trivial⟩ (cs := [sV k_blue, sV k_blue, sV k_red, sV k_empty]) (by kernel_rfl) rfl ?_; clear S; intro a w10 b4 hz3 hk5 S
       obtain ⟨r3, hr4, h⟩ := bindE h
       refine l_enter1 2 S (b := b_p_s) rfl rfl (fun _ => .blk b_p_s [v_p_s_L, iV r3.2] 25) (fun _ => run_call (vs := [.pointer (some ⟨b_p_s, 0, none⟩), .slice (some ⟨b4, 0, none⟩) 4 4]) ⟨(S.tm rfl), (S.tm rfl), trivial⟩ Tryd.call19) (Stream_Some_ok _ b_p_s v_p_s_L p_s_L (hs_p_s_L.mono (S.le_arg (fp_sub (i := 2) (e := .blk b_p_s [v_p_s_L, iV x4] 25) rfl))) x4 (S.holds _ (List.mem_of_getElem? (i := 2) rfl)) (.slice (some ⟨b4, 0, none⟩) 4 4) [k_blue, k_blue, k_red, k_empty] (lit_slcT enc_str S (i := 0) rfl rfl rfl rfl ((ne_fp (i := 2) (j := 0) (e := .blk b_p_s [v_p_s_L, iV x4] 25) (e' := .blk b4 [sV k_blue, sV k_blue, sV k_red, sV k_empty] 9) S rfl rfl rfl) _ rfl)) _ hr4) rfl (fun _ _ _ h => ⟨h.1, fun _ hc => by cases hc; rfl⟩) ?_; clear S; intro v6 a w11 hv3 hk6 hn3 S
       replace hv3 := hv3.2
       subst hv3
       refine lv S (rn_assign (S.tm rfl)) rfl ?_; clear S; intro a S
       refine l_done ?_
       replace S := S.nk [.own v4 45 3 x3.length (x3.flatMap GMove.enc), .blk b_p_s [v_p_s_L, iV r3.2] 25] [(0, .pointer (some ⟨b_p_s, 0, none⟩)), (3, v4), (5, sV y1), (6, iV x5), (7, sV x6), (8, sV r3.1), (9, (.slice (some ⟨b1, 0, none⟩) 5 5)), (10, iV (([k_ann, k_bea, k_cid, k_dan, k_eve] : List ByteArray).length : Int)), (11, iV (i1 : Int)), (19, iV r2.1), (20, iV x7)] [false, true, true] rfl (subR rfl)
       refine then_n (f_seq (f_seq (f_region (lv S (rn_move (S.tm rfl)) rfl ?_)))); clear S; intro a S
       refine lv S (rn_move (S.tm rfl)) rfl ?_; clear S; intro a S
       refine lv S (rn_seql (S.tm rfl) (S.tm rfl)) rfl ?_; clear S; intro a S
       refine l_done (then_n (f_cond (S.tm rfl) (fun hb2 => ?_) (fun hb2 => ?_)))
       ·replace h := iteT h hb2
        refine wp_exit (then_x (x_same (then_n ?_)))
        exact ⟨x3, r3.2, x5, x6, v4, h, S.nf [true, true] rfl (subR rfl)⟩
       ·replace h := iteF h hb2
        refine wp_skip (then_n (f_seq (f_region (lv S (rn_move (S.tm rfl)) rfl ?_)))); clear S; intro a S
        iterate 3 (refine lv S (rn_move (S.tm rfl)) rfl ?_; clear S; intro a S)
        refine lv S (rn_bld bt_45 (pv := [(0, sV y1), (1, sV r3.1), (2, iV x5)]) ⟨rfl, (S.tm rfl), rfl, (S.tm rfl), rfl, (S.tm rfl), trivial⟩ (cs := [sV y1, sV r3.1, iV x5]) (by kernel_rfl)) rfl ?_; clear S; intro a S
        refine l_buildSlice S Tryd.underlying26 Tryd.sizeOf45 Tryd.zeroValue45 rfl rfl (pv := [(0, .agg #[sV y1, sV r3.1, iV x5])]) ⟨rfl, (S.tm rfl), trivial⟩ (cs := [sV y1, sV r3.1, iV x5]) (by kernel_rfl) rfl ?_; clear S; intro a w12 b5 hz4 hk7 S
        obtain ⟨hc1, h⟩ := chkE h
        refine l_appendT sl_26 GMove.enc_ok S (S.tm rfl) (i := 1) rfl (S.tm rfl) (j := 0) rfl (ys := [(GMove.mk y1 r3.1 x5)]) rfl rfl rfl rfl (by have := room_lt hc1; omega) rfl ?_; clear S; intro v7 a w13 hk8 S
        refine lv S (rn_assign (S.tm rfl)) rfl ?_; clear S; intro a S
        refine l_done ?_
        replace S := S.nk [.own v7 45 3 (x3 ++ [(GMove.mk y1 r3.1 x5)]).length ((x3 ++ [(GMove.mk y1 r3.1 x5)]).flatMap GMove.enc), .blk b_p_s [v_p_s_L, iV r3.2] 25] [(0, .pointer (some ⟨b_p_s, 0, none⟩)), (3, v7), (5, sV y1), (6, iV x5), (8, sV r3.1), (9, (.slice (some ⟨b1, 0, none⟩) 5 5)), (10, iV (([k_ann, k_bea, k_cid, k_dan, k_eve] : List ByteArray).length : Int)), (11, iV (i1 : Int)), (19, iV r2.1), (20, iV x7)] [false, true, true] rfl (subR rfl)
        refine then_n (f_seq (f_region (lv S (rn_move (S.tm rfl)) rfl ?_))); clear S; intro a S
        refine lv S (rn_assign (S.tm rfl)) rfl ?_; clear S; intro a S
        refine l_done (then_n (f_region (lv S (rn_move (S.tm rfl)) rfl ?_))); clear S; intro a S
        refine lv S (rn_move (S.tm rfl)) rfl ?_; clear S; intro a S
        refine l_buildSlice S Tryd.underlying22 Tryd.sizeOf3 Tryd.zeroValue3 rfl rfl (pv := [(0, iV 1), (1, iV 30), (2, iV 365)]) ⟨rfl, rfl, rfl, rfl, rfl, rfl, trivial⟩ (cs := [iV 1, iV 30, iV 365]) (by kernel_rfl) rfl ?_; clear S; intro a w14 b6 hz5 hk9 S
        obtain ⟨r4, hr5, h⟩ := bindE h
        refine l_enter1 2 S (b := b_p_s) rfl rfl (fun _ => .blk b_p_s [v_p_s_L, iV r4.2] 25) (fun _ => run_call (vs := [.pointer (some ⟨b_p_s, 0, none⟩), .slice (some ⟨b6, 0, none⟩) 3 3]) ⟨(S.tm rfl), (S.tm rfl), trivial⟩ Tryd.call17) (Stream_Pick_ok _ b_p_s v_p_s_L p_s_L (hs_p_s_L.mono (S.le_arg (fp_sub (i := 2) (e := .blk b_p_s [v_p_s_L, iV r3.2] 25) rfl))) r3.2 (S.holds _ (List.mem_of_getElem? (i := 2) rfl)) (.slice (some ⟨b6, 0, none⟩) 3 3) [1, 30, 365] (lit_slcT enc_int S (i := 0) rfl rfl rfl rfl ((ne_fp (i := 2) (j := 0) (e := .blk b_p_s [v_p_s_L, iV r3.2] 25) (e' := .blk b6 [iV 1, iV 30, iV 365] 3) S rfl rfl rfl) _ rfl)) _ hr5) rfl (fun _ _ _ h => ⟨h.1, fun _ hc => by cases hc; rfl⟩) ?_; clear S; intro v8 a w15 hv4 hk10 hn4 S
        replace hv4 := hv4.2
        subst hv4
        refine lv S (rn_add (S.tm rfl) (S.tm rfl)) rfl ?_; clear S; intro a S
        refine lv S (rn_assign (S.tm rfl)) rfl ?_; clear S; intro a S
        refine l_done ?_
        replace S := S.nk [.own v7 45 3 (x3 ++ [(GMove.mk y1 r3.1 x5)]).length ((x3 ++ [(GMove.mk y1 r3.1 x5)]).flatMap GMove.enc), .blk b_p_s [v_p_s_L, iV r4.2] 25] [(0, .pointer (some ⟨b_p_s, 0, none⟩)), (3, v7), (5, sV y1), (6, iV (W (x5 + r4.1))), (7, sV r3.1), (9, (.slice (some ⟨b1, 0, none⟩) 5 5)), (10, iV (([k_ann, k_bea, k_cid, k_dan, k_eve] : List ByteArray).length : Int)), (11, iV (i1 : Int)), (19, iV r2.1), (20, iV x7)] [false, true, true] rfl (subR rfl)
        refine blk_n (then_n ?_)
        exact ⟨(x3 ++ [(GMove.mk y1 r3.1 x5)]), r4.2, W (x5 + r4.1), r3.1, v7, h, S.nf [true, true] rfl (subR rfl)⟩
      clear S h; rintro a w9 ⟨x8, x9, x10, x11, v5, h, S⟩; rw [hj3] at h; clear hj3 j3
      refine then_n (f_region (lv S (rn_add (S.tm rfl) rfl) rfl ?_)); clear S; intro a S
      refine lv S (rn_move (S.tm rfl)) rfl ?_; clear S; intro a S
      refine l_done (then_n ?_)
      exact ⟨m1, ⟨x8, x9, x10, x11, W (x7 + 1), v5, h, S.nf [true, true] rfl ⟨rfl, rfl, rfl, rfl, rfl, rfl, rfl, rfl, rfl, rfl, trivial⟩⟩, Nat.lt_succ_self _⟩
     ·replace h := iteF h hb1
      refine wp_exit (then_x (then_x (x_same (then_n ?_))))
      exact ⟨x3, x4, v4, h, S.nf [true, true] rfl (subR rfl)⟩
   clear S h; rintro a w8 ⟨x3, x4, v4, h, S⟩; rw [hj2] at h; clear hj2 j2
   refine blk_n (then_n (f_region (lv S (rn_add (S.tm rfl) rfl) rfl ?_))); clear S; intro a S
   refine lv S (rn_move (S.tm rfl)) rfl ?_; clear S; intro a S
   refine l_done (then_n ?_)
   exact ⟨ys1, ⟨i1 + 1, x3, x4, v4, ⟨_, (hd1).trans (List.append_cons _ _ _), by simp [hi1]⟩, h, S.nf [true, true] rfl ⟨rfl, rfl, rfl, rfl, (congrArg (fun z => some (Value.int .i64 z)) (rng_next hd1 hi1 (slc_max (ownV_slcT enc_str hs1)))), trivial⟩⟩, Nat.lt_succ_self _⟩
 clear S h; rintro a w3 ⟨x1, x2, v1, h, S⟩; rw [hj1] at h; clear hj1 j1
 refine then_n (f_seq (f_region (lv S (rn_move (S.tm rfl)) rfl ?_))); clear S; intro a S
 refine lv S (rn_assign (S.tm rfl)) rfl ?_; clear S; intro a S
 refine l_done (then_n (wp_ret ?_))
 obtain rfl := Option.some.inj h
 exact f_ret S Tryd.results4 rfl ⟨(S.holds _ (List.mem_of_getElem? (i := 1) rfl)), (own_retX S (i := 0) rfl (fun c hc hh => not_fps S (i := 1) rfl rfl (j := 0) rfl rfl (by simp at hc; subst hc; exact hh)))⟩
theorem Stream_Flip_ok (w : World) (b_p_s : Nat) (v_p_s_L : Value) (p_s_L : List Int) (hs_p_s_L : Slc (view w [b_p_s]) 1 v_p_s_L (p_s_L.map eInt)) (p_s_at : Int) (hb_b_p_s : (LEnt.blk b_p_s [v_p_s_L, iV p_s_at] 25).holds w) (p_n : Int) (r : Bool × Int) (h : Stream_Flip p_s_L p_s_at p_n = some r) :
    Calls Tryd.prog 20 [.pointer (some ⟨b_p_s, 0, none⟩), iV p_n].toArray w (Ret w [b_p_s] fun _ v w' => (LEnt.blk b_p_s [v_p_s_L, iV r.2] 25).holds w' ∧ v = bV r.1) := by
 refine f_enter [b_p_s] [.blk b_p_s [v_p_s_L, iV p_s_at] 25] Tryd.func20 rfl Tryd.ntmps20 rfl (fun e he => by simp only [List.mem_singleton] at he; subst he; exact hb_b_p_s) (by simp [fps, LEnt.fp]) (by simp [fps, LEnt.fp]) fun a S => ?_
 unfold Stream_Flip at h
 replace S := S.nk [.blk b_p_s [v_p_s_L, iV p_s_at] 25] [(0, .pointer (some ⟨b_p_s, 0, none⟩)), (1, iV p_n)] [true] rfl (subR rfl)
 refine f_seq (f_region (lv S (rn_assign rfl) rfl ?_)); clear S; intro a S
 refine l_done (then_n (f_seq (f_region (lv S (rn_move (S.tm rfl)) rfl ?_)))); clear S; intro a S
 refine lv S (rn_move (S.tm rfl)) rfl ?_; clear S; intro a S
 obtain ⟨r1, hr1, h⟩ := bindE h
 refine l_enter1 0 S (b := b_p_s) rfl rfl (fun _ => .blk b_p_s [v_p_s_L, iV r1.2] 25) (fun _ => run_call (vs := [.pointer (some ⟨b_p_s, 0, none⟩), iV p_n]) ⟨(S.tm rfl), (S.tm rfl), trivial⟩ Tryd.call35) (Stream_Next_ok _ b_p_s v_p_s_L p_s_L (hs_p_s_L.mono (S.le_arg (fp_sub (i := 0) (e := .blk b_p_s [v_p_s_L, iV p_s_at] 25) rfl))) p_s_at (S.holds _ (List.mem_of_getElem? (i := 0) rfl)) p_n _ hr1) rfl (fun _ _ _ h => ⟨h.1, fun _ hc => by cases hc; rfl⟩) ?_; clear S; intro v1 a w1 hv1 hk1 hn1 S
 replace hv1 := hv1.2
 subst hv1
 refine lv S (rn_eql (S.tm rfl) rfl) rfl ?_; clear S; intro a S
 refine lv S (rn_assign (S.tm rfl)) rfl ?_; clear S; intro a S
 refine l_done (then_n (wp_ret ?_))
 obtain rfl := Option.some.inj h
 exact f_ret S Tryd.results20 rfl ⟨(S.holds _ (List.mem_of_getElem? (i := 0) rfl)), rfl⟩
theorem Stream_Odd_ok (w : World) (b_p_s : Nat) (v_p_s_L : Value) (p_s_L : List Int) (hs_p_s_L : Slc (view w [b_p_s]) 1 v_p_s_L (p_s_L.map eInt)) (p_s_at : Int) (hb_b_p_s : (LEnt.blk b_p_s [v_p_s_L, iV p_s_at] 25).holds w) (p_low : Int) (p_high : Int) (r : Int × Int) (h : Stream_Odd p_s_L p_s_at p_low p_high = some r) :
    Calls Tryd.prog 21 [.pointer (some ⟨b_p_s, 0, none⟩), iV p_low, iV p_high].toArray w (Ret w [b_p_s] fun _ v w' => (LEnt.blk b_p_s [v_p_s_L, iV r.2] 25).holds w' ∧ v = iV r.1) := by
 refine f_enter [b_p_s] [.blk b_p_s [v_p_s_L, iV p_s_at] 25] Tryd.func21 rfl Tryd.ntmps21 rfl (fun e he => by simp only [List.mem_singleton] at he; subst he; exact hb_b_p_s) (by simp [fps, LEnt.fp]) (by simp [fps, LEnt.fp]) fun a S => ?_
 unfold Stream_Odd at h
 replace S := S.nk [.blk b_p_s [v_p_s_L, iV p_s_at] 25] [(0, .pointer (some ⟨b_p_s, 0, none⟩)), (1, iV p_low), (2, iV p_high)] [true] rfl (subR rfl)
 refine f_seq (f_region (lv S (rn_assign rfl) rfl ?_)); clear S; intro a S
 refine l_done (then_n (f_seq (f_seq (f_region (lv S (rn_move (S.tm rfl)) rfl ?_))))); clear S; intro a S
 obtain ⟨r1, hr1, h⟩ := bindE h
 refine l_enter1 0 S (b := b_p_s) rfl rfl (fun _ => .blk b_p_s [v_p_s_L, iV r1.2] 25) (fun _ => run_call (vs := [.pointer (some ⟨b_p_s, 0, none⟩), iV 12]) ⟨(S.tm rfl), rfl, trivial⟩ Tryd.call20) (Stream_Flip_ok _ b_p_s v_p_s_L p_s_L (hs_p_s_L.mono (S.le_arg (fp_sub (i := 0) (e := .blk b_p_s [v_p_s_L, iV p_s_at] 25) rfl))) p_s_at (S.holds _ (List.mem_of_getElem? (i := 0) rfl)) 12 _ hr1) rfl (fun _ _ _ h => ⟨h.1, fun _ hc => by cases hc; rfl⟩) ?_; clear S; intro v1 a w1 hv1 hk1 hn1 S
 replace hv1 := hv1.2
 subst hv1
 refine l_done (then_n (f_cond (S.tm rfl) (fun hb1 => ?_) (fun hb1 => ?_)))
 ·replace h := iteT h hb1
  refine f_seq (f_region (lv S (rn_move (S.tm rfl)) rfl ?_)); clear S; intro a S
  refine lv S (rn_move (S.tm rfl)) rfl ?_; clear S; intro a S
  refine lv S (rn_sub (S.tm rfl) rfl) rfl ?_; clear S; intro a S
  refine lv S (rn_move (S.tm rfl)) rfl ?_; clear S; intro a S
  refine lv S (rn_add (S.tm rfl) rfl) rfl ?_; clear S; intro a S
  refine lv S (rn_move (S.tm rfl)) rfl ?_; clear S; intro a S
  refine lv S (rn_move (S.tm rfl)) rfl ?_; clear S; intro a S
  refine l_buildSlice S Tryd.underlying22 Tryd.sizeOf3 Tryd.zeroValue3 rfl rfl (pv := [(0, iV (W (p_low - 1))), (1, iV (W (p_high + 1))), (2, iV p_low), (3, iV p_high), (4, iV (-1099511627776)), (5, iV 1099511627776)]) ⟨rfl, (S.tm rfl), rfl, (S.tm rfl), rfl, (S.tm rfl), rfl, (S.tm rfl), rfl, rfl, rfl, rfl, trivial⟩ (cs := [iV (W (p_low - 1)), iV (W (p_high + 1)), iV p_low, iV p_high, iV (-1099511627776), iV 1099511627776]) (by kernel_rfl) rfl ?_; clear S; intro a w2 b1 hz1 hk2 S
  obtain ⟨r2, hr2, h⟩ := bindE h
  refine l_enter1 1 S (b := b_p_s) rfl rfl (fun _ => .blk b_p_s [v_p_s_L, iV r2.2] 25) (fun _ => run_call (vs := [.pointer (some ⟨b_p_s, 0, none⟩), .slice (some ⟨b1, 0, none⟩) 6 6]) ⟨(S.tm rfl), (S.tm rfl), trivial⟩ Tryd.call17) (Stream_Pick_ok _ b_p_s v_p_s_L p_s_L (hs_p_s_L.mono (S.le_arg (fp_sub (i := 1) (e := .blk b_p_s [v_p_s_L, iV r1.2] 25) rfl))) r1.2 (S.holds _ (List.mem_of_getElem? (i := 1) rfl)) (.slice (some ⟨b1, 0, none⟩) 6 6) [W (p_low - 1), W (p_high + 1), p_low, p_high, (-1099511627776), 1099511627776] (lit_slcT enc_int S (i := 0) rfl rfl rfl rfl ((ne_fp (i := 1) (j := 0) (e := .blk b_p_s [v_p_s_L, iV r1.2] 25) (e' := .blk b1 [iV (W (p_low - 1)), iV (W (p_high + 1)), iV p_low, iV p_high, iV (-1099511627776), iV 1099511627776] 3) S rfl rfl rfl) _ rfl)) _ hr2) rfl (fun _ _ _ h => ⟨h.1, fun _ hc => by cases hc; rfl⟩) ?_; clear S; intro v2 a w3 hv2 hk3 hn2 S
  replace hv2 := hv2.2
  subst hv2
  refine lv S (rn_assign (S.tm rfl)) rfl ?_; clear S; intro a S
  refine l_done ?_
  replace S := S.nk [.blk b_p_s [v_p_s_L, iV r2.2] 25] [(6, iV r2.1)] [false, true] rfl ⟨rfl, trivial⟩
  refine then_n (wp_ret (then_r ?_))
  obtain rfl := Option.some.inj h
  exact f_ret S Tryd.results21 rfl ⟨(S.holds _ (List.mem_of_getElem? (i := 0) rfl)), rfl⟩
 ·replace h := iteF h hb1
  refine wp_skip (then_n (f_seq (f_region (lv S (rn_move (S.tm rfl)) rfl ?_)))); clear S; intro a S
  refine lv S (rn_move (S.tm rfl)) rfl ?_; clear S; intro a S
  refine lv S (rn_move (S.tm rfl)) rfl ?_; clear S; intro a S
  obtain ⟨r3, hr3, h⟩ := bindE h
  refine l_enter1 0 S (b := b_p_s) rfl rfl (fun _ => .blk b_p_s [v_p_s_L, iV r3.2] 25) (fun _ => run_call (vs := [.pointer (some ⟨b_p_s, 0, none⟩), iV p_low, iV p_high]) ⟨(S.tm rfl), (S.tm rfl), (S.tm rfl), trivial⟩ Tryd.call18) (Stream_Range_ok _ b_p_s v_p_s_L p_s_L (hs_p_s_L.mono (S.le_arg (fp_sub (i := 0) (e := .blk b_p_s [v_p_s_L, iV r1.2] 25) rfl))) r1.2 (S.holds _ (List.mem_of_getElem? (i := 0) rfl)) p_low p_high _ hr3) rfl (fun _ _ _ h => ⟨h.1, fun _ hc => by cases hc; rfl⟩) ?_; clear S; intro v3 a w4 hv3 hk4 hn3 S
  replace hv3 := hv3.2
  subst hv3
  refine lv S (rn_assign (S.tm rfl)) rfl ?_; clear S; intro a S
  refine l_done (then_n (wp_ret ?_))
  obtain rfl := Option.some.inj h
  exact f_ret S Tryd.results21 rfl ⟨(S.holds _ (List.mem_of_getElem? (i := 0) rfl)), rfl⟩
theorem Stream_Marks_ok (w : World) (b_p_s : Nat) (v_p_s_L : Value) (p_s_L : List Int) (hs_p_s_L : Slc (view w [b_p_s]) 1 v_p_s_L (p_s_L.map eInt)) (p_s_at : Int) (hb_b_p_s : (LEnt.blk b_p_s [v_p_s_L, iV p_s_at] 25).holds w) (p_many : Int) (r : (List GMark) × Int) (h : Stream_Marks p_s_L p_s_at p_many = some r) :
    Calls Tryd.prog 5 [.pointer (some ⟨b_p_s, 0, none⟩), iV p_many].toArray w (Ret w [b_p_s] fun τ v w' => (LEnt.blk b_p_s [v_p_s_L, iV r.2] 25).holds w' ∧ OwnV τ 38 4 v r.1.length (r.1.flatMap GMark.enc)) := by
 refine f_enter [b_p_s] [.blk b_p_s [v_p_s_L, iV p_s_at] 25] Tryd.func5 rfl Tryd.ntmps5 rfl (fun e he => by simp only [List.mem_singleton] at he; subst he; exact hb_b_p_s) (by simp [fps, LEnt.fp]) (by simp [fps, LEnt.fp]) fun a S => ?_
 unfold Stream_Marks at h
 replace S := S.nk [.blk b_p_s [v_p_s_L, iV p_s_at] 25] [(0, .pointer (some ⟨b_p_s, 0, none⟩)), (1, iV p_many)] [true] rfl (subR rfl)
 refine f_seq (f_region (lv S (rn_assign rfl) rfl ?_)); clear S; intro a S
 refine l_done (then_n (f_seq (f_region (lv S (rn_assign rfl) rfl ?_)))); clear S; intro a S
 replace S := S.nil 38 4
 refine l_done (then_n (f_seq (f_seq (f_region (lv S (rn_move (S.tm rfl)) rfl ?_))))); clear S; intro a S
 refine lv S (rn_move rfl) rfl ?_; clear S; intro a S
 refine l_done (then_n ?_)
 replace S := S.nk [.own (.slice none 0 0) 38 4 ([] : List GMark).length (([] : List GMark).flatMap GMark.enc), .blk b_p_s [v_p_s_L, iV p_s_at] 25] [(0, .pointer (some ⟨b_p_s, 0, none⟩)), (5, (.slice none 0 0)), (7, iV p_many), (8, iV 0)] [true, true] rfl (subR rfl)
 obtain ⟨j1, hj1, h⟩ := joinE h
 refine f_join (fun a w' => ∃ x1 : List GMark, ∃ x2 : Int, ∃ v1 : Value, j1 x1 x2 = some r ∧ Sx w [b_p_s] nov [.own v1 38 4 x1.length (x1.flatMap GMark.enc), .blk b_p_s [v_p_s_L, iV x2] 25] [(5, v1)] 48 a w') ?_ ?_
 ·refine wp_block (f_loop (fun (m1 : Nat) a w' => ∃ x1 : List GMark, ∃ x2 : Int, ∃ x3 : Int, ∃ v1 : Value, Stream_Marks_l1 p_many p_s_L j1 m1 x1 x2 x3 = some r ∧ Sx w [b_p_s] nov [.own v1 38 4 x1.length (x1.flatMap GMark.enc), .blk b_p_s [v_p_s_L, iV x2] 25] [(0, .pointer (some ⟨b_p_s, 0, none⟩)), (5, v1), (7, iV p_many), (8, iV x3)] 48 a w') id ((p_many - 0).toNat + 2) ⟨([] : List GMark), p_s_at, 0, (.slice none 0 0), h, S.nf [true, true] rfl (subR rfl)⟩ ?_)
  clear S h; rintro m1 a w1 ⟨x1, x2, x3, v1, h, S⟩
  cases m1 with
  | zero => rw [Stream_Marks_l1.eq_1] at h; cases h
  | succ m1 =>
   rw [Stream_Marks_l1.eq_2] at h
   refine f_seq (f_region (lv S (rn_lss (S.tm rfl) (S.tm rfl)) rfl ?_)); clear S; intro a S
   refine l_done (then_n (f_seq (f_cond (S.tm rfl) (fun hb1 => ?_) (fun hb1 => ?_))))
   ·replace h := iteT h hb1
    refine wp_skip (then_n (f_seq (wp_block (f_seq (f_region (lv S (rn_move (S.tm rfl)) rfl ?_)))))); clear S; intro a S
    refine l_buildSlice S Tryd.underlying32 Tryd.sizeOf9 Tryd.zeroValue9 rfl rfl (pv := [(0, sV k_ann), (1, sV k_ann), (2, sV k_bea)]) ⟨rfl, rfl, rfl, rfl, rfl, rfl, trivial⟩ (cs := [sV k_ann, sV k_ann, sV k_bea]) (by kernel_rfl) rfl ?_; clear S; intro a w3 b1 hz1 hk1 S
    obtain ⟨r1, hr1, h⟩ := bindE h
    refine l_enter1 2 S (b := b_p_s) rfl rfl (fun _ => .blk b_p_s [v_p_s_L, iV r1.2] 25) (fun _ => run_call (vs := [.pointer (some ⟨b_p_s, 0, none⟩), .slice (some ⟨b1, 0, none⟩) 3 3]) ⟨(S.tm rfl), (S.tm rfl), trivial⟩ Tryd.call19) (Stream_Some_ok _ b_p_s v_p_s_L p_s_L (hs_p_s_L.mono (S.le_arg (fp_sub (i := 2) (e := .blk b_p_s [v_p_s_L, iV x2] 25) rfl))) x2 (S.holds _ (List.mem_of_getElem? (i := 2) rfl)) (.slice (some ⟨b1, 0, none⟩) 3 3) [k_ann, k_ann, k_bea] (lit_slcT enc_str S (i := 0) rfl rfl rfl rfl ((ne_fp (i := 2) (j := 0) (e := .blk b_p_s [v_p_s_L, iV x2] 25) (e' := .blk b1 [sV k_ann, sV k_ann, sV k_bea] 9) S rfl rfl rfl) _ rfl)) _ hr1) rfl (fun _ _ _ h => ⟨h.1, fun _ hc => by cases hc; rfl⟩) ?_; clear S; intro v2 a w4 hv1 hk2 hn1 S
    replace hv1 := hv1.2
    subst hv1
    refine lv S (rn_move (S.tm rfl)) rfl ?_; clear S; intro a S
    refine l_buildSlice S Tryd.underlying32 Tryd.sizeOf9 Tryd.zeroValue9 rfl rfl (pv := [(0, sV k_ra), (1, sV k_ra), (2, sV k_rb)]) ⟨rfl, rfl, rfl, rfl, rfl, rfl, trivial⟩ (cs := [sV k_ra, sV k_ra, sV k_rb]) (by kernel_rfl) rfl ?_; clear S; intro a w5 b2 hz2 hk3 S
    obtain ⟨r2, hr2, h⟩ := bindE h
    refine l_enter1 3 S (b := b_p_s) rfl rfl (fun _ => .blk b_p_s [v_p_s_L, iV r2.2] 25) (fun _ => run_call (vs := [.pointer (some ⟨b_p_s, 0, none⟩), .slice (some ⟨b2, 0, none⟩) 3 3]) ⟨(S.tm rfl), (S.tm rfl), trivial⟩ Tryd.call19) (Stream_Some_ok _ b_p_s v_p_s_L p_s_L (hs_p_s_L.mono (S.le_arg (fp_sub (i := 3) (e := .blk b_p_s [v_p_s_L, iV r1.2] 25) rfl))) r1.2 (S.holds _ (List.mem_of_getElem? (i := 3) rfl)) (.slice (some ⟨b2, 0, none⟩) 3 3) [k_ra, k_ra, k_rb] (lit_slcT enc_str S (i := 0) rfl rfl rfl rfl ((ne_fp (i := 3) (j := 0) (e := .blk b_p_s [v_p_s_L, iV r1.2] 25) (e' := .blk b2 [sV k_ra, sV k_ra, sV k_rb] 9) S rfl rfl rfl) _ rfl)) _ hr2) rfl (fun _ _ _ h => ⟨h.1, fun _ hc => by cases hc; rfl⟩) ?_; clear S; intro v3 a w6 hv2 hk4 hn2 S
    replace hv2 := hv2.2
    subst hv2
    refine lv S (rn_move (S.tm rfl)) rfl ?_; clear S; intro a S
    obtain ⟨r3, hr3, h⟩ := bindE h
    refine l_enter1 3 S (b := b_p_s) rfl rfl (fun _ => .blk b_p_s [v_p_s_L, iV r3.2] 25) (fun _ => run_call (vs := [.pointer (some ⟨b_p_s, 0, none⟩), iV 0, iV 10]) ⟨(S.tm rfl), rfl, rfl, trivial⟩ Tryd.call18) (Stream_Range_ok _ b_p_s v_p_s_L p_s_L (hs_p_s_L.mono (S.le_arg (fp_sub (i := 3) (e := .blk b_p_s [v_p_s_L, iV r2.2] 25) rfl))) r2.2 (S.holds _ (List.mem_of_getElem? (i := 3) rfl)) 0 10 _ hr3) rfl (fun _ _ _ h => ⟨h.1, fun _ hc => by cases hc; rfl⟩) ?_; clear S; intro v4 a w7 hv3 hk5 hn3 S
    replace hv3 := hv3.2
    subst hv3
    refine lv S (rn_move (S.tm rfl)) rfl ?_; clear S; intro a S
    refine l_buildSlice S Tryd.underlying22 Tryd.sizeOf3 Tryd.zeroValue3 rfl rfl (pv := [(0, iV 5900), (1, iV 5900), (2, iV 6000), (3, iV 6100)]) ⟨rfl, rfl, rfl, rfl, rfl, rfl, rfl, rfl, trivial⟩ (cs := [iV 5900, iV 5900, iV 6000, iV 6100]) (by kernel_rfl) rfl ?_; clear S; intro a w8 b3 hz3 hk6 S
    obtain ⟨r4, hr4, h⟩ := bindE h
    refine l_enter1 4 S (b := b_p_s) rfl rfl (fun _ => .blk b_p_s [v_p_s_L, iV r4.2] 25) (fun _ => run_call (vs := [.pointer (some ⟨b_p_s, 0, none⟩), .slice (some ⟨b3, 0, none⟩) 4 4]) ⟨(S.tm rfl), (S.tm rfl), trivial⟩ Tryd.call17) (Stream_Pick_ok _ b_p_s v_p_s_L p_s_L (hs_p_s_L.mono (S.le_arg (fp_sub (i := 4) (e := .blk b_p_s [v_p_s_L, iV r3.2] 25) rfl))) r3.2 (S.holds _ (List.mem_of_getElem? (i := 4) rfl)) (.slice (some ⟨b3, 0, none⟩) 4 4) [5900, 5900, 6000, 6100] (lit_slcT enc_int S (i := 0) rfl rfl rfl rfl ((ne_fp (i := 4) (j := 0) (e := .blk b_p_s [v_p_s_L, iV r3.2] 25) (e' := .blk b3 [iV 5900, iV 5900, iV 6000, iV 6100] 3) S rfl rfl rfl) _ rfl)) _ hr4) rfl (fun _ _ _ h => ⟨h.1, fun _ hc => by cases hc; rfl⟩) ?_; clear S; intro v5 a w9 hv4 hk7 hn4 S
    replace hv4 := hv4.2
    subst hv4
    refine lv S (rn_bld bt_38 (pv := [(0, sV r1.1), (1, sV r2.1), (2, iV r3.1), (3, iV r4.1)]) ⟨rfl, (S.tm rfl), rfl, (S.tm rfl), rfl, (S.tm rfl), rfl, (S.tm rfl), trivial⟩ (cs := [sV r1.1, sV r2.1, iV r3.1, iV r4.1]) (by kernel_rfl)) rfl ?_; clear S; intro a S
    refine l_alloc S Tryd.zeroValue38 (cs := [sV k_empty, sV k_empty, iV 0, iV 0]) rfl rfl ?_; clear S; intro a w10 b4 hz4 hk8 S
    refine l_store S (S.tm rfl) (S.tm rfl) (i := 0) (off := 0) rfl Tryd.sizeOf38 (vs := [sV r1.1, sV r2.1, iV r3.1, iV r4.1]) rfl rfl rfl rfl ?_; clear S; intro w11 hk9 S
    refine l_done ?_
    replace S := S.nk [.blk b4 [sV r1.1, sV r2.1, iV r3.1, iV r4.1] 38, .own v1 38 4 x1.length (x1.flatMap GMark.enc), .blk b_p_s [v_p_s_L, iV r4.2] 25] [(0, .pointer (some ⟨b_p_s, 0, none⟩)), (5, v1), (6, .pointer (some ⟨b4, 0, none⟩)), (7, iV p_many), (8, iV x3)] [true, false, false, false, true, true] rfl (subR rfl)
    refine then_n (f_seq (f_seq (f_region (lv S (rn_move (S.tm rfl)) rfl ?_)))); clear S; intro a S
    obtain ⟨r5, hr5, h⟩ := bindE h
    refine l_enter1 2 S (b := b_p_s) rfl rfl (fun _ => .blk b_p_s [v_p_s_L, iV r5.2] 25) (fun _ => run_call (vs := [.pointer (some ⟨b_p_s, 0, none⟩), iV 80]) ⟨(S.tm rfl), rfl, trivial⟩ Tryd.call20) (Stream_Flip_ok _ b_p_s v_p_s_L p_s_L (hs_p_s_L.mono (S.le_arg (fp_sub (i := 2) (e := .blk b_p_s [v_p_s_L, iV r4.2] 25) rfl))) r4.2 (S.holds _ (List.mem_of_getElem? (i := 2) rfl)) 80 _ hr5) rfl (fun _ _ _ h => ⟨h.1, fun _ hc => by cases hc; rfl⟩) ?_; clear S; intro v6 a w12 hv5 hk10 hn5 S
    replace hv5 := hv5.2
    subst hv5
    refine l_done (then_n ?_)
    obtain ⟨j2, hj2, h⟩ := joinE h
    refine f_join (fun a w' => ∃ x4 : ByteArray, ∃ x5 : ByteArray, ∃ x6 : Int, ∃ x7 : Int, ∃ x8 : Int, j2 x4 x5 x6 x7 x8 = some r ∧ Sx w [b_p_s] nov [.blk b4 [sV x4, sV x5, iV x6, iV x7] 38, .own v1 38 4 x1.length (x1.flatMap GMark.enc), .blk b_p_s [v_p_s_L, iV x8] 25] [(0, .pointer (some ⟨b_p_s, 0, none⟩)), (5, v1), (6, .pointer (some ⟨b4, 0, none⟩)), (7, iV p_many), (8, iV x3)] 48 a w') ?_ ?_
    ·refine f_cond (S.tm rfl) (fun hb2 => ?_) (fun hb2 => ?_)
     ·replace h := iteT h hb2
      obtain ⟨j3, hj3, h⟩ := joinE h
      refine f_join (fun a w' => ∃ x9 : ByteArray, ∃ x10 : ByteArray, ∃ x11 : Int, ∃ x12 : Int, ∃ x13 : Int, j3 x9 x10 x11 x12 x13 = some r ∧ Sx w [b_p_s] nov [.blk b4 [sV x9, sV x10, iV x11, iV x12] 38, .own v1 38 4 x1.length (x1.flatMap GMark.enc), .blk b_p_s [v_p_s_L, iV x13] 25] [(0, .pointer (some ⟨b_p_s, 0, none⟩)), (5, v1), (6, .pointer (some ⟨b4, 0, none⟩)), (7, iV p_many), (8, iV x3)] 48 a w') ?_ ?_
      ·obtain ⟨r6, hr6, h⟩ := bindE h
       obtain ⟨r7, hr7, h⟩ := bindE h
       obtain ⟨r8, hr8, h⟩ := bindE h
       obtain ⟨r9, hr9, h⟩ := bindE h
       refine d_region [15, 17, 19, 21] ([b_p_s]) Tryd.mixed S rfl (by kernel_rfl) ?_; clear S; intro w25 hk21 hsel S
       refine d_pure 0 S hsel rfl rfl (by kernel_rfl) (by kernel_rfl) rfl (fun _ => (rn_move (S.tm rfl))) ?_; clear S; intro a S
       refine d_pure 1 S hsel rfl rfl (by kernel_rfl) (by kernel_rfl) rfl (fun _ => (rn_fld fa_38_0 (S.tm rfl))) ?_; clear S; intro a S
       refine d_quiet 2 S hsel rfl (by kernel_rfl) (by kernel_rfl) (by kernel_rfl) (by kernel_rfl) rfl (fun _ hw => (rn_ld Tryd.isAgg9 (off := 0) (o := 0) (S.tm rfl) ((S.blk_mem (i := 0) (cells := [sV r1.1, sV r2.1, iV r3.1, iV r4.1]) (b := b4) (T := 38) rfl (ne_fp (i := 2) (j := 0) (e := .blk b_p_s [v_p_s_L, iV r5.2] 25) (e' := .blk b4 [sV r1.1, sV r2.1, iV r3.1, iV r4.1] 38) S rfl rfl rfl)).kept hw) rfl)) ?_; clear S; intro a S
       refine d_pure 5 S hsel rfl rfl (by kernel_rfl) (by kernel_rfl) rfl (fun _ => (rn_move (S.tm rfl))) ?_; clear S; intro a S
       refine d_pure 6 S hsel rfl rfl (by kernel_rfl) (by kernel_rfl) rfl (fun _ => (rn_fld fa_38_1 (S.tm rfl))) ?_; clear S; intro a S
       refine d_quiet 7 S hsel rfl (by kernel_rfl) (by kernel_rfl) (by kernel_rfl) (by kernel_rfl) rfl (fun _ hw => (rn_ld Tryd.isAgg9 (off := 0) (o := 1) (S.tm rfl) ((S.blk_mem (i := 0) (cells := [sV r1.1, sV r2.1, iV r3.1, iV r4.1]) (b := b4) (T := 38) rfl (ne_fp (i := 2) (j := 0) (e := .blk b_p_s [v_p_s_L, iV r5.2] 25) (e' := .blk b4 [sV r1.1, sV r2.1, iV r3.1, iV r4.1] 38) S rfl rfl rfl)).kept hw) rfl)) ?_; clear S; intro a S
       refine d_pure 10 S hsel rfl rfl (by kernel_rfl) (by kernel_rfl) rfl (fun _ => (rn_move (S.tm rfl))) ?_; clear S; intro a S
       refine d_pure 12 S hsel rfl rfl (by kernel_rfl) (by kernel_rfl) rfl (fun _ => (rn_move (S.tm rfl))) ?_; clear S; intro a S
       refine d_loud2 3 8 (by kernel_rfl) rfl rfl ?_ ?_
       ·refine l_buildSlice S Tryd.underlying32 Tryd.sizeOf9 Tryd.zeroValue9 rfl rfl (pv := [(0, sV r1.1), (1, sV k_empty)]) ⟨rfl, (S.tm rfl), rfl, rfl, trivial⟩ (cs := [sV r1.1, sV k_empty]) (by kernel_rfl) rfl ?_; clear S; intro a w26 b7 hz7 hk22 S
        refine l_done (d_next (Keep.none hk22) (d_loud2 4 8 (by kernel_rfl) rfl rfl ?_ ?_))
        ·refine l_enter1 3 S (b := b_p_s) rfl rfl (fun _ => .blk b_p_s [v_p_s_L, iV r6.2] 25) (fun _ => run_call (vs := [.pointer (some ⟨b_p_s, 0, none⟩), .slice (some ⟨b7, 0, none⟩) 2 2]) ⟨(S.tm rfl), (S.tm rfl), trivial⟩ Tryd.call19) (Stream_Some_ok _ b_p_s v_p_s_L p_s_L (hs_p_s_L.mono (S.le_arg (fp_sub (i := 3) (e := .blk b_p_s [v_p_s_L, iV r5.2] 25) rfl))) r5.2 (S.holds _ (List.mem_of_getElem? (i := 3) rfl)) (.slice (some ⟨b7, 0, none⟩) 2 2) [r1.1, k_empty] (lit_slcT enc_str S (i := 0) rfl rfl rfl rfl ((ne_fp (i := 3) (j := 0) (e := .blk b_p_s [v_p_s_L, iV r5.2] 25) (e' := .blk b7 [sV r1.1, sV k_empty] 9) S rfl rfl rfl) _ rfl)) _ hr6) rfl (fun _ _ _ h => ⟨h.1, fun _ hc => by cases hc; rfl⟩) ?_; clear S; intro v11 a w27 hv10 hk23 hn10 S
         replace hv10 := hv10.2
         subst hv10
         refine l_done (d_next hk23 (d_pure 14 S hsel rfl rfl (by kernel_rfl) (by kernel_rfl) rfl (fun _ => (rn_fld fa_38_0 (S.tm rfl))) ?_)); clear S; intro a S
         refine d_loud1 8 (by kernel_rfl) rfl (l_buildSlice S Tryd.underlying32 Tryd.sizeOf9 Tryd.zeroValue9 rfl rfl (pv := [(0, sV r2.1), (1, sV k_A)]) ⟨rfl, (S.tm rfl), rfl, rfl, trivial⟩ (cs := [sV r2.1, sV k_A]) (by kernel_rfl) rfl ?_); clear S; intro a w28 b8 hz8 hk24 S
         refine l_done (d_next (Keep.none hk24) (d_loud1 9 (by kernel_rfl) rfl ?_))
         refine l_enter1 4 S (b := b_p_s) rfl rfl (fun _ => .blk b_p_s [v_p_s_L, iV r7.2] 25) (fun _ => run_call (vs := [.pointer (some ⟨b_p_s, 0, none⟩), .slice (some ⟨b8, 0, none⟩) 2 2]) ⟨(S.tm rfl), (S.tm rfl), trivial⟩ Tryd.call19) (Stream_Some_ok _ b_p_s v_p_s_L p_s_L (hs_p_s_L.mono (S.le_arg (fp_sub (i := 4) (e := .blk b_p_s [v_p_s_L, iV r6.2] 25) rfl))) r6.2 (S.holds _ (List.mem_of_getElem? (i := 4) rfl)) (.slice (some ⟨b8, 0, none⟩) 2 2) [r2.1, k_A] (lit_slcT enc_str S (i := 0) rfl rfl rfl rfl ((ne_fp (i := 4) (j := 0) (e := .blk b_p_s [v_p_s_L, iV r6.2] 25) (e' := .blk b8 [sV r2.1, sV k_A] 9) S rfl rfl rfl) _ rfl)) _ hr7) rfl (fun _ _ _ h => ⟨h.1, fun _ hc => by cases hc; rfl⟩) ?_; clear S; intro v12 a w29 hv11 hk25 hn11 S
         replace hv11 := hv11.2
         subst hv11
         refine l_done (d_next hk25 (d_loud1 11 (by kernel_rfl) rfl ?_))
         refine l_enter1 4 S (b := b_p_s) rfl rfl (fun _ => .blk b_p_s [v_p_s_L, iV r8.2] 25) (fun _ => run_call (vs := [.pointer (some ⟨b_p_s, 0, none⟩), iV (-40000), iV 4000]) ⟨(S.tm rfl), rfl, rfl, trivial⟩ Tryd.call21) (Stream_Odd_ok _ b_p_s v_p_s_L p_s_L (hs_p_s_L.mono (S.le_arg (fp_sub (i := 4) (e := .blk b_p_s [v_p_s_L, iV r7.2] 25) rfl))) r7.2 (S.holds _ (List.mem_of_getElem? (i := 4) rfl)) (-40000) 4000 _ hr8) rfl (fun _ _ _ h => ⟨h.1, fun _ hc => by cases hc; rfl⟩) ?_; clear S; intro v13 a w30 hv12 hk26 hn12 S
         replace hv12 := hv12.2
         subst hv12
         refine l_done (d_next hk26 (d_loud1 13 (by kernel_rfl) rfl ?_))
         refine l_enter1 4 S (b := b_p_s) rfl rfl (fun _ => .blk b_p_s [v_p_s_L, iV r9.2] 25) (fun _ => run_call (vs := [.pointer (some ⟨b_p_s, 0, none⟩), iV 1, iV 360000]) ⟨(S.tm rfl), rfl, rfl, trivial⟩ Tryd.call21) (Stream_Odd_ok _ b_p_s v_p_s_L p_s_L (hs_p_s_L.mono (S.le_arg (fp_sub (i := 4) (e := .blk b_p_s [v_p_s_L, iV r8.2] 25) rfl))) r8.2 (S.holds _ (List.mem_of_getElem? (i := 4) rfl)) 1 360000 _ hr9) rfl (fun _ _ _ h => ⟨h.1, fun _ hc => by cases hc; rfl⟩) ?_; clear S; intro v14 a w31 hv13 hk27 hn13 S
         replace hv13 := hv13.2
         subst hv13
         refine l_done (d_next hk27 (d_loudB 15 ([b_p_s] ++ [b4]) rfl (by kernel_rfl) rfl (l_store S (S.tm rfl) (S.tm rfl) (i := 2) (off := 0) rfl Tryd.sizeOf9 (vs := [sV r6.1]) rfl rfl rfl rfl ?_))); clear S; intro w32 hk28 S
         refine l_done (d_nextB (d_quiet 16 S hsel rfl rfl rfl (by kernel_rfl) (by kernel_rfl) rfl (fun _ hw => (rn_fld fa_38_1 (S.tm rfl))) ?_)); clear S; intro a S
         refine d_loud1 17 (by kernel_rfl) rfl (l_store S (S.tm rfl) (S.tm rfl) (i := 2) (off := 1) rfl Tryd.sizeOf9 (vs := [sV r7.1]) rfl rfl rfl rfl ?_); clear S; intro w33 hk29 S
         refine l_done ?_
         refine d_next (hk29.sub (by intro y hy; simp at hy ⊢; simp [hy])) ?_
         refine d_quiet 18 S hsel rfl rfl rfl (by kernel_rfl) (by kernel_rfl) rfl (fun _ hw => (rn_fld fa_38_2 (S.tm rfl))) ?_; clear S; intro a S
         refine d_loud1 19 (by kernel_rfl) rfl (l_store S (S.tm rfl) (S.tm rfl) (i := 2) (off := 2) rfl Tryd.sizeOf3 (vs := [iV r8.1]) rfl rfl rfl rfl ?_); clear S; intro w34 hk30 S
         refine l_done ?_
         refine d_next (hk30.sub (by intro y hy; simp at hy ⊢; simp [hy])) ?_
         refine d_quiet 20 S hsel rfl rfl rfl (by kernel_rfl) (by kernel_rfl) rfl (fun _ hw => (rn_fld fa_38_3 (S.tm rfl))) ?_; clear S; intro a S
         refine d_loud1 21 (by kernel_rfl) rfl (l_store S (S.tm rfl) (S.tm rfl) (i := 2) (off := 3) rfl Tryd.sizeOf3 (vs := [iV r9.1]) rfl rfl rfl rfl ?_); clear S; intro w35 hk31 S
         refine l_done ?_
         refine d_next (hk31.sub (by intro y hy; simp at hy ⊢; simp [hy])) ?_
         refine d_end (by kernel_rfl) ?_
         clear hsel
         replace S := S.nk [.blk b4 [sV r6.1, sV r7.1, iV r8.1, iV r9.1] 38, .own v1 38 4 x1.length (x1.flatMap GMark.enc), .blk b_p_s [v_p_s_L, iV r9.2] 25] [(0, .pointer (some ⟨b_p_s, 0, none⟩)), (5, v1), (6, .pointer (some ⟨b4, 0, none⟩)), (7, iV p_many), (8, iV x3)] [false, false, true, true, true] rfl (subR rfl)
         refine then_n ?_
         exact ⟨r6.1, r7.1, r8.1, r9.1, r9.2, h, S.nf [true, true, true] rfl (subR rfl)⟩
        ·refine l_buildSlice S Tryd.underlying32 Tryd.sizeOf9 Tryd.zeroValue9 rfl rfl (pv := [(0, sV r2.1), (1, sV k_A)]) ⟨rfl, (S.tm rfl), rfl, rfl, trivial⟩ (cs := [sV r2.1, sV k_A]) (by kernel_rfl) rfl ?_; clear S; intro a w36 b9 hz9 hk32 S
         refine l_done (d_next (Keep.none hk32) (d_loud1 4 (by kernel_rfl) rfl ?_))
         refine l_enter1 4 S (b := b_p_s) rfl rfl (fun _ => .blk b_p_s [v_p_s_L, iV r6.2] 25) (fun _ => run_call (vs := [.pointer (some ⟨b_p_s, 0, none⟩), .slice (some ⟨b7, 0, none⟩) 2 2]) ⟨(S.tm rfl), (S.tm rfl), trivial⟩ Tryd.call19) (Stream_Some_ok _ b_p_s v_p_s_L p_s_L (hs_p_s_L.mono (S.le_arg (fp_sub (i := 4) (e := .blk b_p_s [v_p_s_L, iV r5.2] 25) rfl))) r5.2 (S.holds _ (List.mem_of_getElem? (i := 4) rfl)) (.slice (some ⟨b7, 0, none⟩) 2 2) [r1.1, k_empty] (lit_slcT enc_str S (i := 1) rfl rfl rfl rfl ((ne_fp (i := 4) (j := 1) (e := .blk b_p_s [v_p_s_L, iV r5.2] 25) (e' := .blk b7 [sV r1.1, sV k_empty] 9) S rfl rfl rfl) _ rfl)) _ hr6) rfl (fun _ _ _ h => ⟨h.1, fun _ hc => by cases hc; rfl⟩) ?_; clear S; intro v15 a w37 hv14 hk33 hn14 S
         replace hv14 := hv14.2
         subst hv14
         refine l_done (d_next hk33 (d_pure 14 S hsel rfl rfl (by kernel_rfl) (by kernel_rfl) rfl (fun _ => (rn_fld fa_38_0 (S.tm rfl))) ?_)); clear S; intro a S
         refine d_loud1 9 (by kernel_rfl) rfl ?_
         refine l_enter1 4 S (b := b_p_s) rfl rfl (fun _ => .blk b_p_s [v_p_s_L, iV r7.2] 25) (fun _ => run_call (vs := [.pointer (some ⟨b_p_s, 0, none⟩), .slice (some ⟨b9, 0, none⟩) 2 2]) ⟨(S.tm rfl), (S.tm rfl), trivial⟩ Tryd.call19) (Stream_Some_ok _ b_p_s v_p_s_L p_s_L (hs_p_s_L.mono (S.le_arg (fp_sub (i := 4) (e := .blk b_p_s [v_p_s_L, iV r6.2] 25) rfl))) r6.2 (S.holds _ (List.mem_of_getElem? (i := 4) rfl)) (.slice (some ⟨b9, 0, none⟩) 2 2) [r2.1, k_A] (lit_slcT enc_str S (i := 0) rfl rfl rfl rfl ((ne_fp (i := 4) (j := 0) (e := .blk b_p_s [v_p_s_L, iV r6.2] 25) (e' := .blk b9 [sV r2.1, sV k_A] 9) S rfl rfl rfl) _ rfl)) _ hr7) rfl (fun _ _ _ h => ⟨h.1, fun _ hc => by cases hc; rfl⟩) ?_; clear S; intro v16 a w38 hv15 hk34 hn15 S
         replace hv15 := hv15.2
         subst hv15
         refine l_done (d_next hk34 (d_loud1 11 (by kernel_rfl) rfl ?_))
         refine l_enter1 4 S (b := b_p_s) rfl rfl (fun _ => .blk b_p_s [v_p_s_L, iV r8.2] 25) (fun _ => run_call (vs := [.pointer (some ⟨b_p_s, 0, none⟩), iV (-40000), iV 4000]) ⟨(S.tm rfl), rfl, rfl, trivial⟩ Tryd.call21) (Stream_Odd_ok _ b_p_s v_p_s_L p_s_L (hs_p_s_L.mono (S.le_arg (fp_sub (i := 4) (e := .blk b_p_s [v_p_s_L, iV r7.2] 25) rfl))) r7.2 (S.holds _ (List.mem_of_getElem? (i := 4) rfl)) (-40000) 4000 _ hr8) rfl (fun _ _ _ h => ⟨h.1, fun _ hc => by cases hc; rfl⟩) ?_; clear S; intro v17 a w39 hv16 hk35 hn16 S
         replace hv16 := hv16.2
         subst hv16
         refine l_done (d_next hk35 (d_loud1 13 (by kernel_rfl) rfl ?_))
         refine l_enter1 4 S (b := b_p_s) rfl rfl (fun _ => .blk b_p_s [v_p_s_L, iV r9.2] 25) (fun _ => run_call (vs := [.pointer (some ⟨b_p_s, 0, none⟩), iV 1, iV 360000]) ⟨(S.tm rfl), rfl, rfl, trivial⟩ Tryd.call21) (Stream_Odd_ok _ b_p_s v_p_s_L p_s_L (hs_p_s_L.mono (S.le_arg (fp_sub (i := 4) (e := .blk b_p_s [v_p_s_L, iV r8.2] 25) rfl))) r8.2 (S.holds _ (List.mem_of_getElem? (i := 4) rfl)) 1 360000 _ hr9) rfl (fun _ _ _ h => ⟨h.1, fun _ hc => by cases hc; rfl⟩) ?_; clear S; intro v18 a w40 hv17 hk36 hn17 S
         replace hv17 := hv17.2
         subst hv17
         refine l_done (d_next hk36 (d_loudB 15 ([b_p_s] ++ [b4]) rfl (by kernel_rfl) rfl (l_store S (S.tm rfl) (S.tm rfl) (i := 2) (off := 0) rfl Tryd.sizeOf9 (vs := [sV r6.1]) rfl rfl rfl rfl ?_))); clear S; intro w41 hk37 S
         refine l_done (d_nextB (d_quiet 16 S hsel rfl rfl rfl (by kernel_rfl) (by kernel_rfl) rfl (fun _ hw => (rn_fld fa_38_1 (S.tm rfl))) ?_)); clear S; intro a S
         refine d_loud1 17 (by kernel_rfl) rfl (l_store S (S.tm rfl) (S.tm rfl) (i := 2) (off := 1) rfl Tryd.sizeOf9 (vs := [sV r7.1]) rfl rfl rfl rfl ?_); clear S; intro w42 hk38 S
         refine l_done ?_
         refine d_next (hk38.sub (by intro y hy; simp at hy ⊢; simp [hy])) ?_
         refine d_quiet 18 S hsel rfl rfl rfl (by kernel_rfl) (by kernel_rfl) rfl (fun _ hw => (rn_fld fa_38_2 (S.tm rfl))) ?_; clear S; intro a S
         refine d_loud1 19 (by kernel_rfl) rfl (l_store S (S.tm rfl) (S.tm rfl) (i := 2) (off := 2) rfl Tryd.sizeOf3 (vs := [iV r8.1]) rfl rfl rfl rfl ?_); clear S; intro w43 hk39 S
         refine l_done ?_
         refine d_next (hk39.sub (by intro y hy; simp at hy ⊢; simp [hy])) ?_
         refine d_quiet 20 S hsel rfl rfl rfl (by kernel_rfl) (by kernel_rfl) rfl (fun _ hw => (rn_fld fa_38_3 (S.tm rfl))) ?_; clear S; intro a S
         refine d_loud1 21 (by kernel_rfl) rfl (l_store S (S.tm rfl) (S.tm rfl) (i := 2) (off := 3) rfl Tryd.sizeOf3 (vs := [iV r9.1]) rfl rfl rfl rfl ?_); clear S; intro w44 hk40 S
         refine l_done ?_
         refine d_next (hk40.sub (by intro y hy; simp at hy ⊢; simp [hy])) ?_
         refine d_end (by kernel_rfl) ?_
         clear hsel
         replace S := S.nk [.blk b4 [sV r6.1, sV r7.1, iV r8.1, iV r9.1] 38, .own v1 38 4 x1.length (x1.flatMap GMark.enc), .blk b_p_s [v_p_s_L, iV r9.2] 25] [(0, .pointer (some ⟨b_p_s, 0, none⟩)), (5, v1), (6, .pointer (some ⟨b4, 0, none⟩)), (7, iV p_many), (8, iV x3)] [false, false, true, true, true] rfl (subR rfl)
         refine then_n ?_
         exact ⟨r6.1, r7.1, r8.1, r9.1, r9.2, h, S.nf [true, true, true] rfl (subR rfl)⟩
       ·refine l_buildSlice S Tryd.underlying32 Tryd.sizeOf9 Tryd.zeroValue9 rfl rfl (pv := [(0, sV r2.1), (1, sV k_A)]) ⟨rfl, (S.tm rfl), rfl, rfl, trivial⟩ (cs := [sV r2.1, sV k_A]) (by kernel_rfl) rfl ?_; clear S; intro a w45 b10 hz10 hk41 S
        refine l_done (d_next (Keep.none hk41) (d_loud1 3 (by kernel_rfl) rfl (l_buildSlice S Tryd.underlying32 Tryd.sizeOf9 Tryd.zeroValue9 rfl rfl (pv := [(0, sV r1.1), (1, sV k_empty)]) ⟨rfl, (S.tm rfl), rfl, rfl, trivial⟩ (cs := [sV r1.1, sV k_empty]) (by kernel_rfl) rfl ?_))); clear S; intro a w46 b11 hz11 hk42 S
        refine l_done (d_next (Keep.none hk42) (d_loud1 4 (by kernel_rfl) rfl ?_))
        refine l_enter1 4 S (b := b_p_s) rfl rfl (fun _ => .blk b_p_s [v_p_s_L, iV r6.2] 25) (fun _ => run_call (vs := [.pointer (some ⟨b_p_s, 0, none⟩), .slice (some ⟨b11, 0, none⟩) 2 2]) ⟨(S.tm rfl), (S.tm rfl), trivial⟩ Tryd.call19) (Stream_Some_ok _ b_p_s v_p_s_L p_s_L (hs_p_s_L.mono (S.le_arg (fp_sub (i := 4) (e := .blk b_p_s [v_p_s_L, iV r5.2] 25) rfl))) r5.2 (S.holds _ (List.mem_of_getElem? (i := 4) rfl)) (.slice (some ⟨b11, 0, none⟩) 2 2) [r1.1, k_empty] (lit_slcT enc_str S (i := 0) rfl rfl rfl rfl ((ne_fp (i := 4) (j := 0) (e := .blk b_p_s [v_p_s_L, iV r5.2] 25) (e' := .blk b11 [sV r1.1, sV k_empty] 9) S rfl rfl rfl) _ rfl)) _ hr6) rfl (fun _ _ _ h => ⟨h.1, fun _ hc => by cases hc; rfl⟩) ?_; clear S; intro v19 a w47 hv18 hk43 hn18 S
        replace hv18 := hv18.2
        subst hv18
        refine l_done (d_next hk43 (d_pure 14 S hsel rfl rfl (by kernel_rfl) (by kernel_rfl) rfl (fun _ => (rn_fld fa_38_0 (S.tm rfl))) ?_)); clear S; intro a S
        refine d_loud1 9 (by kernel_rfl) rfl ?_
        refine l_enter1 4 S (b := b_p_s) rfl rfl (fun _ => .blk b_p_s [v_p_s_L, iV r7.2] 25) (fun _ => run_call (vs := [.pointer (some ⟨b_p_s, 0, none⟩), .slice (some ⟨b10, 0, none⟩) 2 2]) ⟨(S.tm rfl), (S.tm rfl), trivial⟩ Tryd.call19) (Stream_Some_ok _ b_p_s v_p_s_L p_s_L (hs_p_s_L.mono (S.le_arg (fp_sub (i := 4) (e := .blk b_p_s [v_p_s_L, iV r6.2] 25) rfl))) r6.2 (S.holds _ (List.mem_of_getElem? (i := 4) rfl)) (.slice (some ⟨b10, 0, none⟩) 2 2) [r2.1, k_A] (lit_slcT enc_str S (i := 1) rfl rfl rfl rfl ((ne_fp (i := 4) (j := 1) (e := .blk b_p_s [v_p_s_L, iV r6.2] 25) (e' := .blk b10 [sV r2.1, sV k_A] 9) S rfl rfl rfl) _ rfl)) _ hr7) rfl (fun _ _ _ h => ⟨h.1, fun _ hc => by cases hc; rfl⟩) ?_; clear S; intro v20 a w48 hv19 hk44 hn19 S
        replace hv19 := hv19.2
        subst hv19
        refine l_done (d_next hk44 (d_loud1 11 (by kernel_rfl) rfl ?_))
        refine l_enter1 4 S (b := b_p_s) rfl rfl (fun _ => .blk b_p_s [v_p_s_L, iV r8.2] 25) (fun _ => run_call (vs := [.pointer (some ⟨b_p_s, 0, none⟩), iV (-40000), iV 4000]) ⟨(S.tm rfl), rfl, rfl, trivial⟩ Tryd.call21) (Stream_Odd_ok _ b_p_s v_p_s_L p_s_L (hs_p_s_L.mono (S.le_arg (fp_sub (i := 4) (e := .blk b_p_s [v_p_s_L, iV r7.2] 25) rfl))) r7.2 (S.holds _ (List.mem_of_getElem? (i := 4) rfl)) (-40000) 4000 _ hr8) rfl (fun _ _ _ h => ⟨h.1, fun _ hc => by cases hc; rfl⟩) ?_; clear S; intro v21 a w49 hv20 hk45 hn20 S
        replace hv20 := hv20.2
        subst hv20
        refine l_done (d_next hk45 (d_loud1 13 (by kernel_rfl) rfl ?_))
        refine l_enter1 4 S (b := b_p_s) rfl rfl (fun _ => .blk b_p_s [v_p_s_L, iV r9.2] 25) (fun _ => run_call (vs := [.pointer (some ⟨b_p_s, 0, none⟩), iV 1, iV 360000]) ⟨(S.tm rfl), rfl, rfl, trivial⟩ Tryd.call21) (Stream_Odd_ok _ b_p_s v_p_s_L p_s_L (hs_p_s_L.mono (S.le_arg (fp_sub (i := 4) (e := .blk b_p_s [v_p_s_L, iV r8.2] 25) rfl))) r8.2 (S.holds _ (List.mem_of_getElem? (i := 4) rfl)) 1 360000 _ hr9) rfl (fun _ _ _ h => ⟨h.1, fun _ hc => by cases hc; rfl⟩) ?_; clear S; intro v22 a w50 hv21 hk46 hn21 S
        replace hv21 := hv21.2
        subst hv21
        refine l_done (d_next hk46 (d_loudB 15 ([b_p_s] ++ [b4]) rfl (by kernel_rfl) rfl (l_store S (S.tm rfl) (S.tm rfl) (i := 2) (off := 0) rfl Tryd.sizeOf9 (vs := [sV r6.1]) rfl rfl rfl rfl ?_))); clear S; intro w51 hk47 S
        refine l_done (d_nextB (d_quiet 16 S hsel rfl rfl rfl (by kernel_rfl) (by kernel_rfl) rfl (fun _ hw => (rn_fld fa_38_1 (S.tm rfl))) ?_)); clear S; intro a S
        refine d_loud1 17 (by kernel_rfl) rfl (l_store S (S.tm rfl) (S.tm rfl) (i := 2) (off := 1) rfl Tryd.sizeOf9 (vs := [sV r7.1]) rfl rfl rfl rfl ?_); clear S; intro w52 hk48 S
        refine l_done ?_
        refine d_next (hk48.sub (by intro y hy; simp at hy ⊢; simp [hy])) ?_
        refine d_quiet 18 S hsel rfl rfl rfl (by kernel_rfl) (by kernel_rfl) rfl (fun _ hw => (rn_fld fa_38_2 (S.tm rfl))) ?_; clear S; intro a S
        refine d_loud1 19 (by kernel_rfl) rfl (l_store S (S.tm rfl) (S.tm rfl) (i := 2) (off := 2) rfl Tryd.sizeOf3 (vs := [iV r8.1]) rfl rfl rfl rfl ?_); clear S; intro w53 hk49 S
        refine l_done ?_
        refine d_next (hk49.sub (by intro y hy; simp at hy ⊢; simp [hy])) ?_
        refine d_quiet 20 S hsel rfl rfl rfl (by kernel_rfl) (by kernel_rfl) rfl (fun _ hw => (rn_fld fa_38_3 (S.tm rfl))) ?_; clear S; intro a S
        refine d_loud1 21 (by kernel_rfl) rfl (l_store S (S.tm rfl) (S.tm rfl) (i := 2) (off := 3) rfl Tryd.sizeOf3 (vs := [iV r9.1]) rfl rfl rfl rfl ?_); clear S; intro w54 hk50 S
        refine l_done ?_
        refine d_next (hk50.sub (by intro y hy; simp at hy ⊢; simp [hy])) ?_
        refine d_end (by kernel_rfl) ?_
        clear hsel
        replace S := S.nk [.blk b4 [sV r6.1, sV r7.1, iV r8.1, iV r9.1] 38, .own v1 38 4 x1.length (x1.flatMap GMark.enc), .blk b_p_s [v_p_s_L, iV r9.2] 25] [(0, .pointer (some ⟨b_p_s, 0, none⟩)), (5, v1), (6, .pointer (some ⟨b4, 0, none⟩)), (7, iV p_many), (8, iV x3)] [false, false, true, true, true] rfl (subR rfl)
        refine then_n ?_
        exact ⟨r6.1, r7.1, r8.1, r9.1, r9.2, h, S.nf [true, true, true] rfl (subR rfl)⟩
      clear S h; rintro a w14 ⟨x9, x10, x11, x12, x13, h, S⟩; rw [hj3] at h; clear hj3 j3
      refine then_n ?_
      exact ⟨x9, x10, x11, x12, x13, h, S.nf [true, true, true] rfl (subR rfl)⟩
     ·replace h := iteF h hb2
      refine wp_skip (then_n ?_)
      exact ⟨r1.1, r2.1, r3.1, r4.1, r5.2, h, S.nf [true, true, true] rfl (subR rfl)⟩
    clear S h; rintro a w13 ⟨x4, x5, x6, x7, x8, h, S⟩; rw [hj2] at h; clear hj2 j2
    refine then_n (f_region (lv S (rn_move (S.tm rfl)) rfl ?_)); clear S; intro a S
    refine lv S (rn_ldA Tryd.isAgg38 Tryd.sizeOf38 (off := 0) (o := 0) (part := [sV x4, sV x5, iV x6, iV x7]) rfl rfl (S.tm rfl) (S.cellsAt (i := 0) rfl)) rfl ?_; clear S; intro a S
    refine l_buildSlice S Tryd.underlying28 Tryd.sizeOf38 Tryd.zeroValue38 rfl rfl (pv := [(0, .agg #[sV x4, sV x5, iV x6, iV x7])]) ⟨rfl, (S.tm rfl), trivial⟩ (cs := [sV x4, sV x5, iV x6, iV x7]) (by kernel_rfl) rfl ?_; clear S; intro a w55 b12 hz12 hk51 S
    obtain ⟨hc1, h⟩ := chkE h
    refine l_appendT sl_28 GMark.enc_ok S (S.tm rfl) (i := 2) rfl (S.tm rfl) (j := 0) rfl (ys := [(GMark.mk x4 x5 x6 x7)]) rfl rfl rfl rfl (by have := room_lt hc1; omega) rfl ?_; clear S; intro v23 a w56 hk52 S
    refine lv S (rn_assign (S.tm rfl)) rfl ?_; clear S; intro a S
    refine l_done (blk_n (then_n (f_region (lv S (rn_add (S.tm rfl) rfl) rfl ?_)))); clear S; intro a S
    refine lv S (rn_move (S.tm rfl)) rfl ?_; clear S; intro a S
    refine l_done (then_n ?_)
    exact ⟨m1, ⟨(x1 ++ [(GMark.mk x4 x5 x6 x7)]), x8, W (x3 + 1), v23, h, S.nf [false, false, true, true] rfl ⟨rfl, rfl, rfl, rfl, trivial⟩⟩, Nat.lt_succ_self _⟩
   ·replace h := iteF h hb1
    refine wp_exit (then_x (then_x (x_same (then_n ?_))))
    exact ⟨x1, x2, v1, h, S.nf [true, true] rfl ⟨rfl, trivial⟩⟩
 clear S h; rintro a w2 ⟨x1, x2, v1, h, S⟩; rw [hj1] at h; clear hj1 j1
 refine then_n (f_seq (f_region (lv S (rn_move (S.tm rfl)) rfl ?_))); clear S; intro a S
 refine lv S (rn_assign (S.tm rfl)) rfl ?_; clear S; intro a S
 refine l_done (then_n (wp_ret ?_))
 obtain rfl := Option.some.inj h
 exact f_ret S Tryd.results5 rfl ⟨(S.holds _ (List.mem_of_getElem? (i := 1) rfl)), (own_retX S (i := 0) rfl (fun c hc hh => not_fps S (i := 1) rfl rfl (j := 0) rfl rfl (by simp at hc; subst hc; exact hh)))⟩
theorem Stream_Legs_ok (w : World) (b_p_s : Nat) (v_p_s_L : Value) (p_s_L : List Int) (hs_p_s_L : Slc (view w [b_p_s]) 1 v_p_s_L (p_s_L.map eInt)) (p_s_at : Int) (hb_b_p_s : (LEnt.blk b_p_s [v_p_s_L, iV p_s_at] 25).holds w) (r : (List GLeg) × Int) (h : Stream_Legs p_s_L p_s_at = some r) :
    Calls Tryd.prog 6 [.pointer (some ⟨b_p_s, 0, none⟩)].toArray w (Ret w [b_p_s] fun τ v w' => (LEnt.blk b_p_s [v_p_s_L, iV r.2] 25).holds w' ∧ OwnD τ 49 2 R49.enc rel_49 v r.1) := by
 refine f_enter [b_p_s] [.blk b_p_s [v_p_s_L, iV p_s_at] 25] Tryd.func6 rfl Tryd.ntmps6 rfl (fun e he => by simp only [List.mem_singleton] at he; subst he; exact hb_b_p_s) (by simp [fps, LEnt.fp]) (by simp [fps, LEnt.fp]) fun a S => ?_
 unfold Stream_Legs at h
 replace S := S.nk [.blk b_p_s [v_p_s_L, iV p_s_at] 25] [(0, .pointer (some ⟨b_p_s, 0, none⟩))] [true] rfl ⟨rfl, trivial⟩
 refine f_seq (f_region (lv S (rn_assign rfl) rfl ?_)); clear S; intro a S
 refine l_done (then_n (f_seq (f_region (lv S (rn_assign rfl) rfl ?_)))); clear S; intro a S
 replace S := S.nil 49 2
 refine l_done (then_n (f_seq (f_seq (f_region (l_buildSlice S Tryd.underlying32 Tryd.sizeOf9 Tryd.zeroValue9 rfl rfl (pv := [(0, sV k_aa), (1, sV k_bb), (2, sV k_cc), (3, sV k_xa), (4, sV k_xb), (5, sV k_xc)]) ⟨rfl, rfl, rfl, rfl, rfl, rfl, rfl, rfl, rfl, rfl, rfl, rfl, trivial⟩ (cs := [sV k_aa, sV k_bb, sV k_cc, sV k_xa, sV k_xb, sV k_xc]) (by kernel_rfl) rfl ?_))))); clear S; intro a w1 b1 hz1 hk1 S
 refine lv S (rn_lenT sl_32 (S.tm rfl) ⟨_, _, rfl⟩) rfl ?_; clear S; intro a S
 refine lv S (rn_move rfl) rfl ?_; clear S; intro a S
 refine l_done (then_n ?_)
 replace S := S.nk [.blk b1 [sV k_aa, sV k_bb, sV k_cc, sV k_xa, sV k_xb, sV k_xc] 9, .own (.slice none 0 0) 49 2 ([] : List R49).length (([] : List R49).flatMap R49.enc), .blk b_p_s [v_p_s_L, iV p_s_at] 25] [(0, .pointer (some ⟨b_p_s, 0, none⟩)), (3, (.slice none 0 0)), (7, .slice (some ⟨b1, 0, none⟩) 6 6), (8, iV (([k_aa, k_bb, k_cc, k_xa, k_xb, k_xc] : List ByteArray).length : Int)), (9, iV 0)] [true, true, true] rfl (subR rfl)
 replace S := S.litOwn (i := 0) (xs := [k_aa, k_bb, k_cc, k_xa, k_xb, k_xc]) rfl enc_str rfl rfl rfl
 replace S := S.nk [.own (.slice (some ⟨b1, 0, none⟩) 6 6) 9 1 ([k_aa, k_bb, k_cc, k_xa, k_xb, k_xc] : List ByteArray).length (([k_aa, k_bb, k_cc, k_xa, k_xb, k_xc] : List ByteArray).flatMap eStr), .own (.slice none 0 0) 49 2 ([] : List R49).length (([] : List R49).flatMap R49.enc), .blk b_p_s [v_p_s_L, iV p_s_at] 25] [(0, .pointer (some ⟨b_p_s, 0, none⟩)), (3, (.slice none 0 0)), (7, (.slice (some ⟨b1, 0, none⟩) 6 6)), (8, iV (([k_aa, k_bb, k_cc, k_xa, k_xb, k_xc] : List ByteArray).length : Int)), (9, iV 0)] [] rfl (subR rfl)
 obtain ⟨φ1, hl1, hs1, S⟩ := S.freezeT (xs := ([k_aa, k_bb, k_cc, k_xa, k_xb, k_xc] : List ByteArray)) (enc := eStr) (i := 0) rfl (fun c hc hh => not_fps S (i := 2) rfl rfl (j := 0) rfl rfl (by simp at hc; subst hc; exact hh))
 replace S := S.nk [.own (.slice none 0 0) 49 2 ([] : List R49).length (([] : List R49).flatMap R49.enc), .blk b_p_s [v_p_s_L, iV p_s_at] 25] [(0, .pointer (some ⟨b_p_s, 0, none⟩)), (3, (.slice none 0 0)), (7, (.slice (some ⟨b1, 0, none⟩) 6 6)), (8, iV (([k_aa, k_bb, k_cc, k_xa, k_xb, k_xc] : List ByteArray).length : Int)), (9, iV 0)] [] rfl (subR rfl)
 obtain ⟨j1, hj1, h⟩ := joinE h
 refine f_join (fun a w' => ∃ x1 : List GLeg, ∃ x2 : Int, ∃ φ2 : View, ∃ v1 : Value, ∃ rs1 : List R49, j1 x1 x2 = some r ∧ View.le φ1 φ2 ∧ All2 (rel_49 φ2) x1 rs1 ∧ Sx w [b_p_s] φ2 [.own v1 49 2 rs1.length (rs1.flatMap R49.enc), .blk b_p_s [v_p_s_L, iV x2] 25] [(3, v1)] 52 a w') ?_ ?_
 ·refine wp_block (f_loop (fun (ys1 : List ByteArray) a w' => ∃ i1 : Nat, ∃ x1 : List GLeg, ∃ x2 : Int, ∃ φ2 : View, ∃ v1 : Value, ∃ rs1 : List R49, (∃ dn, ([k_aa, k_bb, k_cc, k_xa, k_xb, k_xc] : List ByteArray) = dn ++ ys1 ∧ dn.length = i1) ∧ Stream_Legs_l1 p_s_L j1 ys1 i1 x1 x2 = some r ∧ View.le φ1 φ2 ∧ All2 (rel_49 φ2) x1 rs1 ∧ Sx w [b_p_s] φ2 [.own v1 49 2 rs1.length (rs1.flatMap R49.enc), .blk b_p_s [v_p_s_L, iV x2] 25] [(0, .pointer (some ⟨b_p_s, 0, none⟩)), (3, v1), (7, (.slice (some ⟨b1, 0, none⟩) 6 6)), (8, iV (([k_aa, k_bb, k_cc, k_xa, k_xb, k_xc] : List ByteArray).length : Int)), (9, iV (i1 : Int))] 52 a w') List.length ([k_aa, k_bb, k_cc, k_xa, k_xb, k_xc] : List ByteArray) ⟨0, ([] : List GLeg), p_s_at, φ1, (.slice none 0 0), ([] : List R49), ⟨[], rfl, rfl⟩, h, View.le_refl _, .nil, S.nf [true, true] rfl (subR rfl)⟩ ?_)
  clear S h; rintro ys1 a w2 ⟨i1, x1, x2, φ2, v1, rs1, ⟨dn, hd1, hi1⟩, h, hl2, hr1, S⟩
  cases ys1 with
  | nil =>
   rw [Stream_Legs_l1.eq_1] at h
   refine f_seq (f_region (lv S (rn_lss (S.tm rfl) (S.tm rfl)) rfl ?_)); clear S; intro a S
   refine l_done ?_
   replace S := S.nk [.own v1 49 2 rs1.length (rs1.flatMap R49.enc), .blk b_p_s [v_p_s_L, iV x2] 25] [(0, .pointer (some ⟨b_p_s, 0, none⟩)), (3, v1), (7, (.slice (some ⟨b1, 0, none⟩) 6 6)), (8, iV (([k_aa, k_bb, k_cc, k_xa, k_xb, k_xc] : List ByteArray).length : Int)), (9, iV (i1 : Int)), (10, bV (decide ((i1 : Int) < (([k_aa, k_bb, k_cc, k_xa, k_xb, k_xc] : List ByteArray).length : Int))))] [true, true] rfl (subR rfl)
   refine then_n (f_seq (wp_cond_false ((S.tm rfl).trans (congrArg Value.bool (rng_nil hd1 hi1))) (wp_exit (then_x (then_x (x_same ?_))))))
   refine then_n ?_
   exact ⟨x1, x2, φ2, v1, rs1, h, hl2, hr1, S.nf [true, true] rfl ⟨rfl, trivial⟩⟩
  | cons y1 ys1 =>
   rw [Stream_Legs_l1.eq_2] at h
   refine f_seq (f_region (lv S (rn_lss (S.tm rfl) (S.tm rfl)) rfl ?_)); clear S; intro a S
   refine l_done ?_
   replace S := S.nk [.own v1 49 2 rs1.length (rs1.flatMap R49.enc), .blk b_p_s [v_p_s_L, iV x2] 25] [(0, .pointer (some ⟨b_p_s, 0, none⟩)), (3, v1), (7, (.slice (some ⟨b1, 0, none⟩) 6 6)), (8, iV (([k_aa, k_bb, k_cc, k_xa, k_xb, k_xc] : List ByteArray).length : Int)), (9, iV (i1 : Int)), (10, bV (decide ((i1 : Int) < (([k_aa, k_bb, k_cc, k_xa, k_xb, k_xc] : List ByteArray).length : Int))))] [true, true] rfl (subR rfl)
   refine then_n (f_seq (wp_cond_true ((S.tm rfl).trans (congrArg Value.bool (rng_cons hd1 hi1))) (wp_skip (then_n (f_seq ?_)))))
   obtain ⟨j2, hj2, h⟩ := joinE h
   refine f_join (fun a w' => ∃ x3 : List GLeg, ∃ x4 : Int, ∃ φ3 : View, ∃ v2 : Value, ∃ rs2 : List R49, j2 x3 x4 = some r ∧ View.le φ2 φ3 ∧ All2 (rel_49 φ3) x3 rs2 ∧ Sx w [b_p_s] φ3 [.own v2 49 2 rs2.length (rs2.flatMap R49.enc), .blk b_p_s [v_p_s_L, iV x4] 25] [(0, .pointer (some ⟨b_p_s, 0, none⟩)), (3, v2), (7, (.slice (some ⟨b1, 0, none⟩) 6 6)), (8, iV (([k_aa, k_bb, k_cc, k_xa, k_xb, k_xc] : List ByteArray).length : Int)), (9, iV (i1 : Int))] 52 a w') ?_ ?_
   ·refine wp_block (f_seq (f_region ?_))
    obtain ⟨b2, o1, hm1, hr3⟩ := rn_indexT (a := a) (x := .tmp 7) (y := .tmp 9) (ty := 0) sl_32 (ownV_slcT enc_str hs1) (get_mid hd1 hi1) rfl (S.tm rfl) (S.tm rfl)
    refine lv S (hr3 _) rfl ?_; clear S; intro a S
    clear hr3
    refine lv S (rn_ld Tryd.isAgg9 (off := o1) (o := 0) (S.tm rfl) ((hm1.mono hl2).at S.emb) rfl) rfl ?_; clear S; intro a S
    refine lv S (rn_assign (S.tm rfl)) rfl ?_; clear S; intro a S
    refine l_done (then_n (f_seq (f_seq (f_region (lv S (rn_move (S.tm rfl)) rfl ?_))))); clear S; intro a S
    obtain ⟨r1, hr4, h⟩ := bindE h
    refine l_enter1 1 S (b := b_p_s) rfl rfl (fun _ => .blk b_p_s [v_p_s_L, iV r1.2] 25) (fun _ => run_call (vs := [.pointer (some ⟨b_p_s, 0, none⟩), iV 6]) ⟨(S.tm rfl), rfl, trivial⟩ Tryd.call20) (Stream_Flip_ok _ b_p_s v_p_s_L p_s_L (hs_p_s_L.mono (S.le_arg (fp_sub (i := 1) (e := .blk b_p_s [v_p_s_L, iV x2] 25) rfl))) x2 (S.holds _ (List.mem_of_getElem? (i := 1) rfl)) 6 _ hr4) rfl (fun _ _ _ h => ⟨h.1, fun _ hc => by cases hc; rfl⟩) ?_; clear S; intro v3 a w5 hv1 hk2 hn1 S
    replace hv1 := hv1.2
    subst hv1
    refine l_done (then_n (f_cond (S.tm rfl) (fun hb1 => ?_) (fun hb1 => ?_)))
    ·replace h := iteT h hb1
     refine wp_exit (then_x (x_same (then_n ?_)))
     exact ⟨x1, r1.2, φ2, v1, rs1, h, (View.le_refl _), hr1, S.nf [true, true] rfl (subR rfl)⟩
    ·replace h := iteF h hb1
     refine wp_skip (then_n (f_seq (f_region (lv S (rn_move (S.tm rfl)) rfl ?_)))); clear S; intro a S
     refine lv S (rn_bld bt_49 (pv := [(0, sV y1)]) ⟨rfl, (S.tm rfl), trivial⟩ (cs := [sV y1, .slice none 0 0]) (by kernel_rfl)) rfl ?_; clear S; intro a S
     refine l_alloc S Tryd.zeroValue49 (cs := [sV k_empty, .slice none 0 0]) rfl rfl ?_; clear S; intro a w6 b3 hz2 hk3 S
     replace S := S.nil 3 1
     refine l_store S (S.tm rfl) (S.tm rfl) (i := 1) (off := 0) rfl Tryd.sizeOf49 (vs := [sV y1, .slice none 0 0]) rfl rfl rfl rfl ?_; clear S; intro w7 hk4 S
     replace S := S.nil 3 1
     refine l_done (then_n (f_seq (f_seq (f_region (lv S (rn_move rfl) rfl ?_))))); clear S; intro a S
     refine l_done ?_
     replace S := S.nk [.own (.slice none 0 0) 3 1 ([] : List Int).length (([] : List Int).flatMap eInt), .blk b3 [sV y1, (.slice none 0 0)] 49, .own v1 49 2 rs1.length (rs1.flatMap R49.enc), .blk b_p_s [v_p_s_L, iV r1.2] 25] [(0, .pointer (some ⟨b_p_s, 0, none⟩)), (3, v1), (5, sV y1), (6, .pointer (some ⟨b3, 0, none⟩)), (7, (.slice (some ⟨b1, 0, none⟩) 6 6)), (8, iV (([k_aa, k_bb, k_cc, k_xa, k_xb, k_xc] : List ByteArray).length : Int)), (9, iV (i1 : Int)), (17, iV 0)] [true, false, true, true, true] rfl (subR rfl)
     refine then_n ?_
     obtain ⟨j3, hj3, h⟩ := joinE h
     refine f_join (fun a w' => ∃ x5 : List Int, ∃ x6 : Int, ∃ v4 : Value, j3 x5 x6 = some r ∧ Sx w [b_p_s] φ2 [.own v4 3 1 x5.length (x5.flatMap eInt), .blk b3 [sV y1, v4] 49, .own v1 49 2 rs1.length (rs1.flatMap R49.enc), .blk b_p_s [v_p_s_L, iV x6] 25] [(0, .pointer (some ⟨b_p_s, 0, none⟩)), (3, v1), (5, sV y1), (6, .pointer (some ⟨b3, 0, none⟩)), (7, (.slice (some ⟨b1, 0, none⟩) 6 6)), (8, iV (([k_aa, k_bb, k_cc, k_xa, k_xb, k_xc] : List ByteArray).length : Int)), (9, iV (i1 : Int))] 52 a w') ?_ ?_
     ·refine wp_block (f_loop (fun (m1 : Nat) a w' => ∃ x5 : List Int, ∃ x6 : Int, ∃ x7 : Int, ∃ v4 : Value, Stream_Legs_l2 p_s_L j3 m1 x5 x6 x7 = some r ∧ Sx w [b_p_s] φ2 [.own v4 3 1 x5.length (x5.flatMap eInt), .blk b3 [sV y1, v4] 49, .own v1 49 2 rs1.length (rs1.flatMap R49.enc), .blk b_p_s [v_p_s_L, iV x6] 25] [(0, .pointer (some ⟨b_p_s, 0, none⟩)), (3, v1), (5, sV y1), (6, .pointer (some ⟨b3, 0, none⟩)), (7, (.slice (some ⟨b1, 0, none⟩) 6 6)), (8, iV (([k_aa, k_bb, k_cc, k_xa, k_xb, k_xc] : List ByteArray).length : Int)), (9, iV (i1 : Int)), (17, iV x7)] 52 a w') id 6 ⟨([] : List Int), r1.2, 0, (.slice none 0 0), h, S.nf [true, true, true, true] rfl (subR rfl)⟩ ?_)
      clear S h; rintro m1 a w8 ⟨x5, x6, x7, v4, h, S⟩
      cases m1 with
      | zero => rw [Stream_Legs_l2.eq_1] at h; cases h
      | succ m1 =>
       rw [Stream_Legs_l2.eq_2] at h
       refine f_seq (f_region (lv S (rn_lss (S.tm rfl) rfl) rfl ?_)); clear S; intro a S
       refine l_done (then_n (f_seq (f_cond (S.tm rfl) (fun hb2 => ?_) (fun hb2 => ?_))))
       ·replace h := iteT h hb2
        refine wp_skip (then_n (f_seq (wp_block ?_)))
        obtain ⟨r2, hr5, h⟩ := bindE h
        obtain ⟨hc1, h⟩ := chkE h
        refine d_region [8] ([b_p_s] ++ v4.ownBlock.toList) Tryd.mixed S rfl (by kernel_rfl) ?_; clear S; intro w15 hk10 hsel S
        refine d_pure 0 S hsel rfl rfl (by kernel_rfl) (by kernel_rfl) rfl (fun _ => (rn_fld fa_49_1 (S.tm rfl))) ?_; clear S; intro a S
        refine d_quiet 1 S hsel rfl (by kernel_rfl) (by kernel_rfl) (by kernel_rfl) (by kernel_rfl) rfl (fun _ hw => (rn_ld Tryd.isAgg22 (off := 0) (o := 1) (S.tm rfl) ((S.blk_mem (i := 1) (cells := [sV y1, v4]) (b := b3) (T := 49) rfl (ne_app (ne_fp (i := 3) (j := 1) (e := .blk b_p_s [v_p_s_L, iV x6] 25) (e' := .blk b3 [sV y1, v4] 49) S rfl rfl rfl) (ne_fp (i := 0) (j := 1) (e := .own v4 3 1 x5.length (x5.flatMap eInt)) (e' := .blk b3 [sV y1, v4] 49) S rfl rfl rfl))).kept hw) rfl)) ?_; clear S; intro a S
        refine d_pure 2 S hsel rfl rfl (by kernel_rfl) (by kernel_rfl) rfl (fun _ => (rn_move (S.tm rfl))) ?_; clear S; intro a S
        refine d_loud1 3 (by kernel_rfl) rfl (l_buildSlice S Tryd.underlying22 Tryd.sizeOf3 Tryd.zeroValue3 rfl rfl (pv := [(0, iV 0), (1, iV 10), (2, iV 11), (3, iV 12), (4, iV 12), (5, iV 13), (6, iV 15)]) ⟨rfl, rfl, rfl, rfl, rfl, rfl, rfl, rfl, rfl, rfl, rfl, rfl, rfl, rfl, trivial⟩ (cs := [iV 0, iV 10, iV 11, iV 12, iV 12, iV 13, iV 15]) (by kernel_rfl) rfl ?_); clear S; intro a w16 b6 hz5 hk11 S
        refine l_done (d_next (Keep.none hk11) (d_loud1 4 (by kernel_rfl) rfl ?_))
        refine l_enter1 4 S (b := b_p_s) rfl rfl (fun _ => .blk b_p_s [v_p_s_L, iV r2.2] 25) (fun _ => run_call (vs := [.pointer (some ⟨b_p_s, 0, none⟩), .slice (some ⟨b6, 0, none⟩) 7 7]) ⟨(S.tm rfl), (S.tm rfl), trivial⟩ Tryd.call17) (Stream_Pick_ok _ b_p_s v_p_s_L p_s_L (hs_p_s_L.mono (S.le_arg (fp_sub (i := 4) (e := .blk b_p_s [v_p_s_L, iV x6] 25) rfl))) x6 (S.holds _ (List.mem_of_getElem? (i := 4) rfl)) (.slice (some ⟨b6, 0, none⟩) 7 7) [0, 10, 11, 12, 12, 13, 15] (lit_slcT enc_int S (i := 0) rfl rfl rfl rfl ((ne_fp (i := 4) (j := 0) (e := .blk b_p_s [v_p_s_L, iV x6] 25) (e' := .blk b6 [iV 0, iV 10, iV 11, iV 12, iV 12, iV 13, iV 15] 3) S rfl rfl rfl) _ rfl)) _ hr5) rfl (fun _ _ _ h => ⟨h.1, fun _ hc => by cases hc; rfl⟩) ?_; clear S; intro v7 a w17 hv3 hk12 hn3 S
        replace hv3 := hv3.2
        subst hv3
        refine l_done ?_
        refine d_next (hk12.sub (by intro y hy; simp at hy ⊢; simp [hy])) ?_
        refine d_loud1 5 (by kernel_rfl) rfl (l_buildSlice S Tryd.underlying22 Tryd.sizeOf3 Tryd.zeroValue3 rfl rfl (pv := [(0, iV r2.1)]) ⟨rfl, (S.tm rfl), trivial⟩ (cs := [iV r2.1]) (by kernel_rfl) rfl ?_); clear S; intro a w18 b7 hz6 hk13 S
        refine l_done (d_next (Keep.none hk13) (d_loud1 6 (by kernel_rfl) rfl ?_))
        refine l_appendT sl_22 enc_int S (S.tm rfl) (i := 2) rfl (S.tm rfl) (j := 0) rfl (ys := [r2.1]) rfl rfl rfl rfl (by have := room_lt hc1; omega) rfl ?_; clear S; intro v8 a w19 hk14 S
        refine l_done ?_
        refine d_next (hk14.sub (by intro y hy; simp at hy ⊢; simp [hy])) ?_
        refine d_pure 7 S hsel rfl rfl (by kernel_rfl) (by kernel_rfl) rfl (fun _ => (rn_fld fa_49_1 (S.tm rfl))) ?_; clear S; intro a S
        refine d_loudB 8 ([b_p_s] ++ v8.ownBlock.toList ++ [b3]) rfl (by kernel_rfl) rfl (l_store S (S.tm rfl) (S.tm rfl) (i := 3) (off := 1) rfl Tryd.sizeOf22 (vs := [v8]) (SlcLen.cells (own_len (S.own_at (i := 2) rfl))) rfl rfl (all1 (SlcLen.one (own_len (S.own_at (i := 2) rfl))) rfl) ?_); clear S; intro w20 hk15 S
        refine l_done (d_nextB (d_end (by kernel_rfl) ?_))
        clear hsel
        replace S := S.nk [.own v8 3 1 (x5 ++ [r2.1]).length ((x5 ++ [r2.1]).flatMap eInt), .blk b3 [sV y1, v8] 49, .own v1 49 2 rs1.length (rs1.flatMap R49.enc), .blk b_p_s [v_p_s_L, iV r2.2] 25] [(0, .pointer (some ⟨b_p_s, 0, none⟩)), (3, v1), (5, sV y1), (6, .pointer (some ⟨b3, 0, none⟩)), (7, (.slice (some ⟨b1, 0, none⟩) 6 6)), (8, iV (([k_aa, k_bb, k_cc, k_xa, k_xb, k_xc] : List ByteArray).length : Int)), (9, iV (i1 : Int)), (17, iV x7)] [false, false, true, true, true, true] rfl (subR rfl)
        refine blk_n (then_n (f_region (lv S (rn_add (S.tm rfl) rfl) rfl ?_))); clear S; intro a S
        refine lv S (rn_move (S.tm rfl)) rfl ?_; clear S; intro a S
        refine l_done (then_n ?_)
        exact ⟨m1, ⟨(x5 ++ [r2.1]), r2.2, W (x7 + 1), v8, h, S.nf [true, true, true, true] rfl ⟨rfl, rfl, rfl, rfl, rfl, rfl, rfl, rfl, trivial⟩⟩, Nat.lt_succ_self _⟩
       ·replace h := iteF h hb2
        refine wp_exit (then_x (then_x (x_same (then_n ?_))))
        exact ⟨x5, x6, v4, h, S.nf [true, true, true, true] rfl (subR rfl)⟩
     clear S h; rintro a w9 ⟨x5, x6, v4, h, S⟩; rw [hj3] at h; clear hj3 j3
     refine then_n (f_seq (f_seq (f_region (lv S (rn_move (S.tm rfl)) rfl ?_)))); clear S; intro a S
     obtain ⟨r3, hr6, h⟩ := bindE h
     refine l_enter1 3 S (b := b_p_s) rfl rfl (fun _ => .blk b_p_s [v_p_s_L, iV r3.2] 25) (fun _ => run_call (vs := [.pointer (some ⟨b_p_s, 0, none⟩), iV 60]) ⟨(S.tm rfl), rfl, trivial⟩ Tryd.call20) (Stream_Flip_ok _ b_p_s v_p_s_L p_s_L (hs_p_s_L.mono (S.le_arg (fp_sub (i := 3) (e := .blk b_p_s [v_p_s_L, iV x6] 25) rfl))) x6 (S.holds _ (List.mem_of_getElem? (i := 3) rfl)) 60 _ hr6) rfl (fun _ _ _ h => ⟨h.1, fun _ hc => by cases hc; rfl⟩) ?_; clear S; intro v9 a w21 hv4 hk16 hn4 S
     replace hv4 := hv4.2
     subst hv4
     refine l_done (then_n ?_)
     obtain ⟨j4, hj4, h⟩ := joinE h
     refine f_join (fun a w' => ∃ x8 : List Int, ∃ x9 : ByteArray, ∃ x10 : Int, ∃ v10 : Value, j4 x8 x9 x10 = some r ∧ Sx w [b_p_s] φ2 [.own v10 3 1 x8.length (x8.flatMap eInt), .blk b3 [sV x9, v10] 49, .own v1 49 2 rs1.length (rs1.flatMap R49.enc), .blk b_p_s [v_p_s_L, iV x10] 25] [(0, .pointer (some ⟨b_p_s, 0, none⟩)), (3, v1), (6, .pointer (some ⟨b3, 0, none⟩)), (7, (.slice (some ⟨b1, 0, none⟩) 6 6)), (8, iV (([k_aa, k_bb, k_cc, k_xa, k_xb, k_xc] : List ByteArray).length : Int)), (9, iV (i1 : Int))] 52 a w') ?_ ?_
     ·refine f_cond (S.tm rfl) (fun hb3 => ?_) (fun hb3 => ?_)
      ·replace h := iteT h hb3
       refine f_seq (f_region (lv S (rn_move (S.tm rfl)) rfl ?_)); clear S; intro a S
       refine lv S (rn_move (S.tm rfl)) rfl ?_; clear S; intro a S
       refine l_buildSlice S Tryd.underlying32 Tryd.sizeOf9 Tryd.zeroValue9 rfl rfl (pv := [(0, sV y1), (1, sV k_empty), (2, sV k_aa)]) ⟨rfl, (S.tm rfl), rfl, rfl, rfl, rfl, trivial⟩ (cs := [sV y1, sV k_empty, sV k_aa]) (by kernel_rfl) rfl ?_; clear S; intro a w23 b8 hz7 hk17 S
       obtain ⟨r4, hr7, h⟩ := bindE h
       refine l_enter1 4 S (b := b_p_s) rfl rfl (fun _ => .blk b_p_s [v_p_s_L, iV r4.2] 25) (fun _ => run_call (vs := [.pointer (some ⟨b_p_s, 0, none⟩), .slice (some ⟨b8, 0, none⟩) 3 3]) ⟨(S.tm rfl), (S.tm rfl), trivial⟩ Tryd.call19) (Stream_Some_ok _ b_p_s v_p_s_L p_s_L (hs_p_s_L.mono (S.le_arg (fp_sub (i := 4) (e := .blk b_p_s [v_p_s_L, iV r3.2] 25) rfl))) r3.2 (S.holds _ (List.mem_of_getElem? (i := 4) rfl)) (.slice (some ⟨b8, 0, none⟩) 3 3) [y1, k_empty, k_aa] (lit_slcT enc_str S (i := 0) rfl rfl rfl rfl ((ne_fp (i := 4) (j := 0) (e := .blk b_p_s [v_p_s_L, iV r3.2] 25) (e' := .blk b8 [sV y1, sV k_empty, sV k_aa] 9) S rfl rfl rfl) _ rfl)) _ hr7) rfl (fun _ _ _ h => ⟨h.1, fun _ hc => by cases hc; rfl⟩) ?_; clear S; intro v11 a w24 hv5 hk18 hn5 S
       replace hv5 := hv5.2
       subst hv5
       refine lv S (rn_fld fa_49_0 (S.tm rfl)) rfl ?_; clear S; intro a S
       refine l_store S (S.tm rfl) (S.tm rfl) (i := 2) (off := 0) rfl Tryd.sizeOf9 (vs := [sV r4.1]) rfl rfl rfl rfl ?_; clear S; intro w25 hk19 S
       refine l_done (then_n (f_seq ?_))
       obtain ⟨r5, hr8, h⟩ := bindE h
       obtain ⟨hc2, h⟩ := chkE h
       refine d_region [6] ([b_p_s]) Tryd.mixed S rfl (by kernel_rfl) ?_; clear S; intro w28 hk22 hsel S
       refine d_pure 0 S hsel rfl rfl (by kernel_rfl) (by kernel_rfl) rfl (fun _ => (rn_fld fa_49_1 (S.tm rfl))) ?_; clear S; intro a S
       refine d_quiet 1 S hsel rfl (by kernel_rfl) (by kernel_rfl) (by kernel_rfl) (by kernel_rfl) rfl (fun _ hw => (rn_ld Tryd.isAgg22 (off := 0) (o := 1) (S.tm rfl) ((S.blk_mem (i := 2) (cells := [sV r4.1, v4]) (b := b3) (T := 49) rfl (ne_fp (i := 4) (j := 2) (e := .blk b_p_s [v_p_s_L, iV r4.2] 25) (e' := .blk b3 [sV r4.1, v4] 49) S rfl rfl rfl)).kept hw) rfl)) ?_; clear S; intro a S
       refine d_pure 2 S hsel rfl rfl (by kernel_rfl) (by kernel_rfl) rfl (fun _ => (rn_move (S.tm rfl))) ?_; clear S; intro a S
       refine d_loud1 3 (by kernel_rfl) rfl ?_
       refine l_enter1 4 S (b := b_p_s) rfl rfl (fun _ => .blk b_p_s [v_p_s_L, iV r5.2] 25) (fun _ => run_call (vs := [.pointer (some ⟨b_p_s, 0, none⟩), iV 3, iV 4]) ⟨(S.tm rfl), rfl, rfl, trivial⟩ Tryd.call18) (Stream_Range_ok _ b_p_s v_p_s_L p_s_L (hs_p_s_L.mono (S.le_arg (fp_sub (i := 4) (e := .blk b_p_s [v_p_s_L, iV r4.2] 25) rfl))) r4.2 (S.holds _ (List.mem_of_getElem? (i := 4) rfl)) 3 4 _ hr8) rfl (fun _ _ _ h => ⟨h.1, fun _ hc => by cases hc; rfl⟩) ?_; clear S; intro v13 a w29 hv7 hk23 hn7 S
       replace hv7 := hv7.2
       subst hv7
       refine l_done (d_next hk23 ?_)
       obtain ⟨u2, hu2, hr10⟩ := rn_subh (a := a) (x := .tmp 36) (y' := .tmp 38) (ty := 22) sl_22 S (i := 1) rfl (S.tm rfl) (S.tm rfl) hc2
       refine d_pure 4 S hsel rfl rfl (by kernel_rfl) (by kernel_rfl) rfl (fun _ => (hr10 _)) ?_; clear S; intro a S
       clear hr10
       refine d_pure 5 S hsel rfl rfl (by kernel_rfl) (by kernel_rfl) rfl (fun _ => (rn_fld fa_49_1 (S.tm rfl))) ?_; clear S; intro a S
       refine d_loudB 6 ([b_p_s] ++ [b3]) rfl (by kernel_rfl) rfl (l_store S (S.tm rfl) (S.tm rfl) (i := 2) (off := 1) rfl Tryd.sizeOf22 (vs := [u2]) (SlcLen.cells (subLen hu2)) rfl rfl (all1 (SlcLen.one (subLen hu2)) rfl) ?_); clear S; intro w30 hk24 S
       refine l_done (d_nextB (d_end (by kernel_rfl) ?_))
       clear hsel
       obtain ⟨S, hz9⟩ := S.ownCut (zh := r5.1) enc_int (i := 1) rfl hu2
       replace S := S.nk [.own u2 3 1 (cut x5 (0 : Int) r5.1).length ((cut x5 (0 : Int) r5.1).flatMap eInt), .blk b3 [sV r4.1, u2] 49, .own v1 49 2 rs1.length (rs1.flatMap R49.enc), .blk b_p_s [v_p_s_L, iV r5.2] 25] [(0, .pointer (some ⟨b_p_s, 0, none⟩)), (3, v1), (6, .pointer (some ⟨b3, 0, none⟩)), (7, (.slice (some ⟨b1, 0, none⟩) 6 6)), (8, iV (([k_aa, k_bb, k_cc, k_xa, k_xb, k_xc] : List ByteArray).length : Int)), (9, iV (i1 : Int))] [false, true, true, true, true] rfl (subR rfl)
       refine then_n ?_
       obtain ⟨r6, hr11, h⟩ := bindE h
       obtain ⟨hc3, h⟩ := chkE h
       refine d_region [] ([b_p_s] ++ u2.ownBlock.toList) Tryd.mixed S rfl (by kernel_rfl) ?_; clear S; intro w34 hk28 hsel S
       refine d_quiet 0 S hsel rfl rfl rfl (by kernel_rfl) (by kernel_rfl) rfl (fun _ hw => (rn_fld fa_49_1 (S.tm rfl))) ?_; clear S; intro a S
       refine d_quiet 1 S hsel rfl rfl rfl (by kernel_rfl) (by kernel_rfl) rfl (fun _ hw => (rn_ld Tryd.isAgg22 (off := 0) (o := 1) (S.tm rfl) ((S.blk_mem (i := 1) (cells := [sV r4.1, u2]) (b := b3) (T := 49) rfl (ne_app (ne_fp (i := 3) (j := 1) (e := .blk b_p_s [v_p_s_L, iV r5.2] 25) (e' := .blk b3 [sV r4.1, u2] 49) S rfl rfl rfl) (ne_fp (i := 0) (j := 1) (e := .own u2 3 1 (cut x5 (0 : Int) r5.1).length ((cut x5 (0 : Int) r5.1).flatMap eInt)) (e' := .blk b3 [sV r4.1, u2] 49) S rfl rfl rfl))).kept hw) rfl)) ?_; clear S; intro a S
       refine d_quiet 2 S hsel rfl rfl rfl (by kernel_rfl) (by kernel_rfl) rfl (fun _ hw => (rn_move (S.tm rfl))) ?_; clear S; intro a S
       refine d_loud1 3 (by kernel_rfl) rfl ?_
       refine l_enter1 3 S (b := b_p_s) rfl rfl (fun _ => .blk b_p_s [v_p_s_L, iV r6.2] 25) (fun _ => run_call (vs := [.pointer (some ⟨b_p_s, 0, none⟩), iV 0, iV 20]) ⟨(S.tm rfl), rfl, rfl, trivial⟩ Tryd.call21) (Stream_Odd_ok _ b_p_s v_p_s_L p_s_L (hs_p_s_L.mono (S.le_arg (fp_sub (i := 3) (e := .blk b_p_s [v_p_s_L, iV r5.2] 25) rfl))) r5.2 (S.holds _ (List.mem_of_getElem? (i := 3) rfl)) 0 20 _ hr11) rfl (fun _ _ _ h => ⟨h.1, fun _ hc => by cases hc; rfl⟩) ?_; clear S; intro v15 a w35 hv9 hk29 hn9 S
       replace hv9 := hv9.2
       subst hv9
       refine l_done ?_
       refine d_next (hk29.sub (by intro y hy; simp at hy ⊢; simp [hy])) ?_
       obtain ⟨b10, hg2, hr13⟩ := rn_indexS (a := a) (x := .tmp 42) (y := .const (iV 0)) (ty := 0) sl_22 enc_int S (i := 0) rfl (inB_get hc3).1 (inB_get hc3).2 (S.tm rfl) rfl
       refine d_quiet 4 S hsel rfl rfl rfl (by kernel_rfl) (by kernel_rfl) rfl (fun _ hw => (hr13 _)) ?_; clear S; intro a S
       clear hr13
       refine d_loud1 5 (by kernel_rfl) rfl (l_storeO (c := 0) (j := (0 : Int).toNat) r6.1 enc_int S (S.tm rfl) (S.tm rfl) (i := 0) rfl hg2 (inB_get hc3).1 Tryd.sizeOf3 (vs := [iV r6.1]) rfl rfl rfl rfl rfl ?_); clear S; intro w37 hk31 S
       refine l_done ?_
       refine d_next (hk31.sub (by intro y hy; simp at hy ⊢; simp [hy])) ?_
       refine d_end (by kernel_rfl) ?_
       clear hsel
       replace S := S.nk [.own u2 3 1 ((cut x5 (0 : Int) r5.1).set ((0 : Int).toNat) r6.1).length (((cut x5 (0 : Int) r5.1).set ((0 : Int).toNat) r6.1).flatMap eInt), .blk b3 [sV r4.1, u2] 49, .own v1 49 2 rs1.length (rs1.flatMap R49.enc), .blk b_p_s [v_p_s_L, iV r6.2] 25] [(0, .pointer (some ⟨b_p_s, 0, none⟩)), (3, v1), (6, .pointer (some ⟨b3, 0, none⟩)), (7, (.slice (some ⟨b1, 0, none⟩) 6 6)), (8, iV (([k_aa, k_bb, k_cc, k_xa, k_xb, k_xc] : List ByteArray).length : Int)), (9, iV (i1 : Int))] [true, true, true, true] rfl (subR rfl)
       refine then_n ?_
       exact ⟨((cut x5 (0 : Int) r5.1).set ((0 : Int).toNat) r6.1), r4.1, r6.2, u2, h, S.nf [true, true, true, true] rfl (subR rfl)⟩
      ·replace h := iteF h hb3
       refine wp_skip (then_n ?_)
       exact ⟨x5, y1, r3.2, v4, h, S.nf [true, true, true, true] rfl (subR rfl)⟩
     clear S h; rintro a w22 ⟨x8, x9, x10, v10, h, S⟩; rw [hj4] at h; clear hj4 j4
     refine then_n (f_region (lv S (rn_move (S.tm rfl)) rfl ?_)); clear S; intro a S
     refine lv S (rn_ldA Tryd.isAgg49 Tryd.sizeOf49 (off := 0) (o := 0) (part := [sV x9, v10]) rfl rfl (S.tm rfl) (S.cellsAt (i := 1) rfl)) rfl ?_; clear S; intro a S
     refine l_buildSlice S Tryd.underlying30 Tryd.sizeOf49 Tryd.zeroValue49 rfl rfl (pv := [(0, .agg #[sV x9, v10])]) ⟨rfl, (S.tm rfl), trivial⟩ (cs := [sV x9, v10]) (by kernel_rfl) rfl ?_; clear S; intro a w38 b11 hz10 hk32 S
     obtain ⟨φ4, hl4, hs2, S⟩ := S.freezeT (xs := x8) (enc := eInt) (i := 1) rfl (fun c hc hh => not_fps S (i := 4) rfl rfl (j := 1) rfl rfl (by simp at hc; subst hc; exact hh))
     replace S := S.nk [.blk b11 [sV x9, v10] 49, .blk b3 [sV x9, v10] 49, .own v1 49 2 rs1.length (rs1.flatMap R49.enc), .blk b_p_s [v_p_s_L, iV x10] 25] [(0, .pointer (some ⟨b_p_s, 0, none⟩)), (3, v1), (6, .pointer (some ⟨b3, 0, none⟩)), (7, (.slice (some ⟨b1, 0, none⟩) 6 6)), (8, iV (([k_aa, k_bb, k_cc, k_xa, k_xb, k_xc] : List ByteArray).length : Int)), (9, iV (i1 : Int)), (46, v1), (47, .agg #[sV x9, v10]), (48, .slice (some ⟨b11, 0, none⟩) 1 1)] [] rfl (subR rfl)
     obtain ⟨hc4, h⟩ := chkE h
     have hr14 : All2 (rel_49 φ4) (x1 ++ [(GLeg.mk x9 x8)]) (rs1 ++ [(R49.mk x9 ⟨v10, SlcLen.one (slc_len (ownV_slcT enc_int hs2))⟩)]) := All2.app (rels_49 hl4 hr1) (All2.cons ⟨⟨v10, SlcLen.one (slc_len (ownV_slcT enc_int hs2))⟩, rfl, (ownV_slcT enc_int hs2)⟩ All2.nil)
     refine l_appendT sl_30 R49.enc_ok S (S.tm rfl) (i := 2) rfl (S.tm rfl) (j := 0) rfl (ys := [(R49.mk x9 ⟨v10, SlcLen.one (slc_len (ownV_slcT enc_int hs2))⟩)]) rfl rfl rfl rfl (by have := room_lt hc4; have := All2.len (rels_49 hl4 hr1); simp at this ⊢; omega) rfl ?_; clear S; intro v16 a w39 hk33 S
     refine lv S (rn_assign (S.tm rfl)) rfl ?_; clear S; intro a S
     refine l_done (blk_n (then_n ?_))
     exact ⟨(x1 ++ [(GLeg.mk x9 x8)]), x10, φ4, v16, (rs1 ++ [(R49.mk x9 ⟨v10, SlcLen.one (slc_len (ownV_slcT enc_int hs2))⟩)]), h, hl4, hr14, S.nf [false, false, true, true] rfl (subR rfl)⟩
   clear S h; rintro a w4 ⟨x3, x4, φ3, v2, rs2, h, hl3, hr2, S⟩; rw [hj2] at h; clear hj2 j2
   refine then_n (f_region (lv S (rn_add (S.tm rfl) rfl) rfl ?_)); clear S; intro a S
   refine lv S (rn_move (S.tm rfl)) rfl ?_; clear S; intro a S
   refine l_done (then_n ?_)
   exact ⟨ys1, ⟨i1 + 1, x3, x4, φ3, v2, rs2, ⟨_, (hd1).trans (List.append_cons _ _ _), by simp [hi1]⟩, h, (View.le_trans hl2 hl3), hr2, S.nf [true, true] rfl ⟨rfl, rfl, rfl, rfl, (congrArg (fun z => some (Value.int .i64 z)) (rng_next hd1 hi1 (slc_max (ownV_slcT enc_str hs1)))), trivial⟩⟩, Nat.lt_succ_self _⟩
 clear S h; rintro a w3 ⟨x1, x2, φ2, v1, rs1, h, hl2, hr1, S⟩; rw [hj1] at h; clear hj1 j1
 refine then_n (f_seq (f_region (lv S (rn_move (S.tm rfl)) rfl ?_))); clear S; intro a S
 refine lv S (rn_assign (S.tm rfl)) rfl ?_; clear S; intro a S
 refine l_done (then_n (wp_ret ?_))
 obtain rfl := Option.some.inj h
 exact f_ret S Tryd.results6 rfl ⟨(S.holds _ (List.mem_of_getElem? (i := 1) rfl)), ⟨_, (own_retX S (i := 0) rfl (fun c hc hh => not_fps S (i := 1) rfl rfl (j := 0) rfl rfl (by simp at hc; subst hc; exact hh))), rels_49 (S.le_hide (i := 0) rfl) hr1⟩⟩
theorem strings_Trim_ok (w : World) (s c : ByteArray) (r : ByteArray) (h : strings_Trim s c = some r) : Calls Tryd.prog 39 [.string s, .string c].toArray w (Ret w [] fun _ v _ => v = .string r) := by
  unfold strings_Trim at h
  obtain ⟨h1, h⟩ := chkE h
  obtain ⟨h2, h⟩ := chkE h
  obtain ⟨h3, h⟩ := chkE h
  obtain rfl := Option.some.inj h
  exact ret_of_below (Any.strings_Trim_laid Tryd.lays160 (by kernel_rfl) s c w (by simpa using h1) (by simpa using h2) (fun j b hb => by simpa using List.all_eq_true.1 h3 b (List.mem_of_getElem? hb)))
theorem words_IsKey_ok (w : World) (p_s : ByteArray) (r : Bool) (h : words_IsKey p_s = some r) :
    Calls Tryd.prog 25 [sV p_s].toArray w (Ret w [] fun _ v _ => v = bV r) := by
 refine f_enter [] [] Tryd.func25 rfl Tryd.ntmps25 rfl (by simp) (by simp [fps]) (by simp [fps]) fun a S => ?_
 unfold words_IsKey at h
 replace S := S.nk [] [(0, sV p_s)] [] rfl ⟨rfl, trivial⟩
 refine f_seq (f_region (lv S (rn_assign rfl) rfl ?_)); clear S; intro a S
 refine l_done (then_n (f_seq (f_region (lv S (rn_move (S.tm rfl)) rfl ?_)))); clear S; intro a S
 refine lv S (rn_len_str Tryd.underlying9 (S.tm rfl)) rfl ?_; clear S; intro a S
 refine lv S (rn_geq (S.tm rfl) rfl) rfl ?_; clear S; intro a S
 refine lv S (rn_move (S.tm rfl)) rfl ?_; clear S; intro a S
 refine f_cutm 4 (fun a w' => Keep [] w w' ∧ Sx w [] nov [] [(0, sV p_s), (10, bV ((decide (1 ≤ (p_s.size : Int))) && (decide ((p_s.size : Int) ≤ 40))))] 26 a w') ?_ ?_
 ·rcases Bool.eq_false_or_eq_true (decide (1 ≤ (p_s.size : Int))) with hb1 | hb1
  ·refine l_want S rfl rfl rfl hb1 (lv S (rn_move (S.tm rfl)) rfl ?_); clear S; intro a S
   refine l_want S rfl rfl rfl hb1 (lv S (rn_len_str Tryd.underlying9 (S.tm rfl)) rfl ?_); clear S; intro a S
   refine l_want S rfl rfl rfl hb1 (lv S (rn_leq (S.tm rfl) rfl) rfl ?_); clear S; intro a S
   refine lv S (rn_and_t hb1 (S.tm rfl) (S.tm rfl)) rfl ?_; clear S; intro a S
   refine l_done (then_n ?_)
   exact ⟨Keep.refl _ _, S.nf [] rfl (subR rfl)⟩
  ·iterate 3 (refine l_skip S rfl rfl rfl (neq_f hb1) rfl ?_ rfl; clear S; intro a S)
   refine lv S (rn_and_f (decide ((p_s.size : Int) ≤ 40)) hb1 (S.tm rfl) rfl) rfl ?_; clear S; intro a S
   refine l_done (then_n ?_)
   exact ⟨Keep.refl _ _, S.nf [] rfl (subR rfl)⟩
 clear S; rintro a w1 ⟨hk1, S⟩
 refine lv S (rn_move (S.tm rfl)) rfl ?_; clear S; intro a S
 obtain ⟨j1, hj1, h⟩ := joinE h
 refine f_cutm 4 (fun a w' => ∃ c1, j1 c1 = some r ∧ Keep [] w1 w' ∧ Sx w [] nov [] [(0, sV p_s), (15, bV c1)] 26 a w') ?_ ?_
 ·rcases Bool.eq_false_or_eq_true ((decide (1 ≤ (p_s.size : Int))) && (decide ((p_s.size : Int) ≤ 40))) with hb2 | hb2
  ·replace h := iteT h hb2
   refine l_want S rfl rfl rfl hb2 (lv S (rn_move (S.tm rfl)) rfl ?_); clear S; intro a S
   refine l_want S rfl rfl rfl hb2 ?_
   obtain ⟨hc1, h⟩ := chkE h
   refine lv S (rn_sindexT Tryd.underlying9 (S.tm rfl) rfl hc1) rfl ?_; clear S; intro a S
   refine l_want S rfl rfl rfl hb2 (lv S (rn_geq (S.tm rfl) rfl) rfl ?_); clear S; intro a S
   refine lv S (rn_and_t hb2 (S.tm rfl) (S.tm rfl)) rfl ?_; clear S; intro a S
   refine l_done (then_n ?_)
   exact ⟨_, h, Keep.refl _ _, S.nf [] rfl (subR rfl)⟩
  ·replace h := iteF h hb2
   iterate 3 (refine l_skip S rfl rfl rfl (neq_f hb2) rfl ?_ rfl; clear S; intro a S)
   refine lv S (rn_and_f true hb2 (S.tm rfl) rfl) rfl ?_; clear S; intro a S
   refine l_done (then_n ?_)
   exact ⟨_, h, Keep.refl _ _, S.nf [] rfl (subR rfl)⟩
 clear S h; rintro a w2 ⟨c1, h, hk2, S⟩; rw [hj1] at h; clear hj1 j1
 refine lv S (rn_move (S.tm rfl)) rfl ?_; clear S; intro a S
 obtain ⟨j2, hj2, h⟩ := joinE h
 refine f_cutm 4 (fun a w' => ∃ c2, j2 c2 = some r ∧ Keep [] w2 w' ∧ Sx w [] nov [] [(0, sV p_s), (20, bV c2)] 26 a w') ?_ ?_
 ·rcases Bool.eq_false_or_eq_true c1 with hb3 | hb3
  ·replace h := iteT h hb3
   refine l_want S rfl rfl rfl hb3 (lv S (rn_move (S.tm rfl)) rfl ?_); clear S; intro a S
   refine l_want S rfl rfl rfl hb3 ?_
   obtain ⟨hc2, h⟩ := chkE h
   refine lv S (rn_sindexT Tryd.underlying9 (S.tm rfl) rfl hc2) rfl ?_; clear S; intro a S
   refine l_want S rfl rfl rfl hb3 (lv S (rn_leq (S.tm rfl) rfl) rfl ?_); clear S; intro a S
   refine lv S (rn_and_t hb3 (S.tm rfl) (S.tm rfl)) rfl ?_; clear S; intro a S
   refine l_done (then_n ?_)
   exact ⟨_, h, Keep.refl _ _, S.nf [] rfl (subR rfl)⟩
  ·replace h := iteF h hb3
   iterate 3 (refine l_skip S rfl rfl rfl (neq_f hb3) rfl ?_ rfl; clear S; intro a S)
   refine lv S (rn_and_f true hb3 (S.tm rfl) rfl) rfl ?_; clear S; intro a S
   refine l_done (then_n ?_)
   exact ⟨_, h, Keep.refl _ _, S.nf [] rfl (subR rfl)⟩
 clear S h; rintro a w3 ⟨c2, h, hk3, S⟩; rw [hj2] at h; clear hj2 j2
 refine lv S (rn_move (S.tm rfl)) rfl ?_; clear S; intro a S
 obtain ⟨j3, hj3, h⟩ := joinE h
 refine f_cutm 4 (fun a w' => ∃ c3, j3 c3 = some r ∧ Keep [] w3 w' ∧ Sx w [] nov [] [(25, bV c3)] 26 a w') ?_ ?_
 ·rcases Bool.eq_false_or_eq_true c2 with hb4 | hb4
  ·replace h := iteT h hb4
   refine l_want S rfl rfl rfl hb4 (lv S (rn_move (S.tm rfl)) rfl ?_); clear S; intro a S
   refine l_want S rfl rfl rfl hb4 ?_
   obtain ⟨r1, hr1, h⟩ := bindE h
   refine l_enter S (fun _ => run_call (vs := [sV p_s, sV k_abcdefghijkl_h0e2e2c]) ⟨(S.tm rfl), rfl, trivial⟩ Tryd.call39) (strings_Trim_ok _ p_s k_abcdefghijkl_h0e2e2c _ hr1) rfl ?_; clear S; intro v1 a w5 hv1 hk4 hn1 S
   subst hv1
   refine l_want S rfl rfl rfl hb4 (lv S (rn_seql (S.tm rfl) rfl) rfl ?_); clear S; intro a S
   refine lv S (rn_and_t hb4 (S.tm rfl) (S.tm rfl)) rfl ?_; clear S; intro a S
   refine l_done (then_n ?_)
   exact ⟨_, h, hk4, S.nf [] rfl ⟨rfl, trivial⟩⟩
  ·replace h := iteF h hb4
   iterate 3 (refine l_skip S rfl rfl rfl (neq_f hb4) rfl ?_ rfl; clear S; intro a S)
   refine lv S (rn_and_f true hb4 (S.tm rfl) rfl) rfl ?_; clear S; intro a S
   refine l_done (then_n ?_)
   exact ⟨_, h, Keep.refl _ _, S.nf [] rfl ⟨rfl, trivial⟩⟩
 clear S h; rintro a w4 ⟨c3, h, hk5, S⟩; rw [hj3] at h; clear hj3 j3
 refine lv S (rn_assign (S.tm rfl)) rfl ?_; clear S; intro a S
 refine l_done (then_n (wp_ret ?_))
 obtain rfl := Option.some.inj h
 exact f_ret S Tryd.results25 rfl rfl
theorem words_Within_ok (w : World) (p_n : Int) (p_low : Int) (p_high : Int) (r : Bool) (h : words_Within p_n p_low p_high = r) :
    Calls Tryd.prog 26 [iV p_n, iV p_low, iV p_high].toArray w (Ret w [] fun _ v _ => v = bV r) := by
 refine f_enter [] [] Tryd.func26 rfl Tryd.ntmps26 rfl (by simp) (by simp [fps]) (by simp [fps]) fun a S => ?_
 unfold words_Within at h
 replace S := S.nk [] [(0, iV p_n), (1, iV p_low), (2, iV p_high)] [] rfl (subR rfl)
 refine f_seq (f_region (lv S (rn_assign rfl) rfl ?_)); clear S; intro a S
 refine l_done (then_n (f_seq (f_region (lv S (rn_move (S.tm rfl)) rfl ?_)))); clear S; intro a S
 refine lv S (rn_move (S.tm rfl)) rfl ?_; clear S; intro a S
 refine lv S (rn_geq (S.tm rfl) (S.tm rfl)) rfl ?_; clear S; intro a S
 refine lv S (rn_move (S.tm rfl)) rfl ?_; clear S; intro a S
 refine f_cutm 4 (fun a w' => Keep [] w w' ∧ Sx w [] nov [] [(14, bV ((decide (p_low ≤ p_n)) && (decide (p_n ≤ p_high))))] 15 a w') ?_ ?_
 ·rcases Bool.eq_false_or_eq_true (decide (p_low ≤ p_n)) with hb1 | hb1
  ·refine l_want S rfl rfl rfl hb1 (lv S (rn_move (S.tm rfl)) rfl ?_); clear S; intro a S
   refine l_want S rfl rfl rfl hb1 (lv S (rn_move (S.tm rfl)) rfl ?_); clear S; intro a S
   refine l_want S rfl rfl rfl hb1 (lv S (rn_leq (S.tm rfl) (S.tm rfl)) rfl ?_); clear S; intro a S
   refine lv S (rn_and_t hb1 (S.tm rfl) (S.tm rfl)) rfl ?_; clear S; intro a S
   refine l_done (then_n ?_)
   exact ⟨Keep.refl _ _, S.nf [] rfl ⟨rfl, trivial⟩⟩
  ·iterate 3 (refine l_skip S rfl rfl rfl (neq_f hb1) rfl ?_ rfl; clear S; intro a S)
   refine lv S (rn_and_f (decide (p_n ≤ p_high)) hb1 (S.tm rfl) rfl) rfl ?_; clear S; intro a S
   refine l_done (then_n ?_)
   exact ⟨Keep.refl _ _, S.nf [] rfl ⟨rfl, trivial⟩⟩
 clear S; rintro a w1 ⟨hk1, S⟩
 refine lv S (rn_assign (S.tm rfl)) rfl ?_; clear S; intro a S
 refine l_done (then_n (wp_ret ?_))
 subst h
 exact f_ret S Tryd.results26 rfl rfl
theorem swimmer_isDay_ok (w : World) (p_n : Int) (r : Bool) (h : swimmer_isDay p_n = r) :
    Calls Tryd.prog 37 [iV p_n].toArray w (Ret w [] fun _ v _ => v = bV r) := by
 refine f_enter [] [] Tryd.func37 rfl Tryd.ntmps37 rfl (by simp) (by simp [fps]) (by simp [fps]) fun a S => ?_
 unfold swimmer_isDay at h
 replace S := S.nk [] [(0, iV p_n)] [] rfl ⟨rfl, trivial⟩
 refine f_seq (f_region (lv S (rn_assign rfl) rfl ?_)); clear S; intro a S
 refine l_done (then_n (f_seq (f_region (lv S (rn_move (S.tm rfl)) rfl ?_)))); clear S; intro a S
 refine l_enter S (fun _ => run_call (vs := [iV p_n, iV (-40000), iV 4000]) ⟨(S.tm rfl), rfl, rfl, trivial⟩ Tryd.call26) (words_Within_ok _ p_n (-40000) 4000 _ rfl) rfl ?_; clear S; intro v1 a w1 hv1 hk1 hn1 S
 subst hv1
 refine lv S (rn_assign (S.tm rfl)) rfl ?_; clear S; intro a S
 refine l_done (then_n (wp_ret ?_))
 subst h
 exact f_ret S Tryd.results37 rfl rfl
theorem strings_Compare_ok (w : World) (s t : ByteArray) (r : Int) (h : strings_Compare s t = r) : Calls Tryd.prog 56 [.string s, .string t].toArray w (Ret w [] fun _ v _ => v = .int .i64 r) := by
  subst h
  exact ret_of_same (Any.strings_Compare Tryd.lays106 s t w)
theorem cmp_isNaN_int_ok (w : World) (p_x : Int) (r : Bool) (h : cmp_isNaN_int p_x = r) :
    Calls Tryd.prog 64 [iV p_x].toArray w (Ret w [] fun _ v _ => v = bV r) := by
 refine f_enter [] [] Tryd.func64 rfl Tryd.ntmps64 rfl (by simp) (by simp [fps]) (by simp [fps]) fun a S => ?_
 unfold cmp_isNaN_int at h
 replace S := S.nk [] [(0, iV p_x)] [] rfl ⟨rfl, trivial⟩
 refine f_seq (f_region (lv S (rn_assign rfl) rfl ?_)); clear S; intro a S
 refine l_done (then_n (f_seq (f_region (lv S (rn_move (S.tm rfl)) rfl ?_)))); clear S; intro a S
 refine lv S (rn_move (S.tm rfl)) rfl ?_; clear S; intro a S
 refine lv S (rn_neq (S.tm rfl) (S.tm rfl)) rfl ?_; clear S; intro a S
 refine lv S (rn_assign (S.tm rfl)) rfl ?_; clear S; intro a S
 refine l_done (then_n (wp_ret ?_))
 subst h
 exact f_ret S Tryd.results64 rfl rfl
theorem cmp_Compare_int_ok (w : World) (p_x : Int) (p_y : Int) (r : Int) (h : cmp_Compare_int p_x p_y = r) :
    Calls Tryd.prog 41 [iV p_x, iV p_y].toArray w (Ret w [] fun _ v _ => v = iV r) := by
 refine f_enter [] [] Tryd.func41 rfl Tryd.ntmps41 rfl (by simp) (by simp [fps]) (by simp [fps]) fun a S => ?_
 unfold cmp_Compare_int at h
 replace S := S.nk [] [(0, iV p_x), (1, iV p_y)] [] rfl (subR rfl)
 refine f_seq (f_region (lv S (rn_assign rfl) rfl ?_)); clear S; intro a S
 refine l_done (then_n (f_seq (f_region (lv S (rn_move (S.tm rfl)) rfl ?_)))); clear S; intro a S
 refine l_enter S (fun _ => run_call (vs := [iV p_x]) ⟨(S.tm rfl), trivial⟩ Tryd.call64) (cmp_isNaN_int_ok _ p_x _ rfl) rfl ?_; clear S; intro v1 a w1 hv1 hk1 hn1 S
 subst hv1
 refine lv S (rn_assign (S.tm rfl)) rfl ?_; clear S; intro a S
 refine l_done (then_n (f_seq (f_region (lv S (rn_move (S.tm rfl)) rfl ?_)))); clear S; intro a S
 refine l_enter S (fun _ => run_call (vs := [iV p_y]) ⟨(S.tm rfl), trivial⟩ Tryd.call64) (cmp_isNaN_int_ok _ p_y _ rfl) rfl ?_; clear S; intro v2 a w2 hv2 hk2 hn2 S
 subst hv2
 refine lv S (rn_assign (S.tm rfl)) rfl ?_; clear S; intro a S
 refine l_done (then_n (f_seq (f_seq (f_region (lv S (rn_move (S.tm rfl)) rfl ?_))))); clear S; intro a S
 refine l_done (then_n (f_cond (S.tm rfl) (fun hb1 => ?_) (fun hb1 => ?_)))
 ·replace h := iteT h hb1
  refine f_seq (f_seq (f_region (lv S (rn_move (S.tm rfl)) rfl ?_))); clear S; intro a S
  refine l_done (then_n (f_cond (S.tm rfl) (fun hb2 => ?_) (fun hb2 => ?_)))
  ·replace h := iteT h hb2
   refine f_seq (f_region (lv S (rn_assign rfl) rfl ?_)); clear S; intro a S
   refine l_done (then_n (wp_ret (then_r (then_r ?_))))
   subst h
   exact f_ret S Tryd.results41 rfl rfl
  ·replace h := iteF h hb2
   refine wp_skip (then_n (f_seq (f_region (lv S (rn_assign rfl) rfl ?_)))); clear S; intro a S
   refine l_done (then_n (wp_ret (then_r ?_)))
   subst h
   exact f_ret S Tryd.results41 rfl rfl
 ·replace h := iteF h hb1
  refine wp_skip (then_n (f_seq (f_seq (f_region (lv S (rn_move (S.tm rfl)) rfl ?_))))); clear S; intro a S
  refine l_done (then_n (f_cond (S.tm rfl) (fun hb3 => ?_) (fun hb3 => ?_)))
  ·replace h := iteT h hb3
   refine f_seq (f_region (lv S (rn_assign rfl) rfl ?_)); clear S; intro a S
   refine l_done (then_n (wp_ret (then_r ?_)))
   subst h
   exact f_ret S Tryd.results41 rfl rfl
  ·replace h := iteF h hb3
   refine wp_skip (then_n (f_seq (f_seq (f_region (lv S (rn_move (S.tm rfl)) rfl ?_))))); clear S; intro a S
   refine lv S (rn_move (S.tm rfl)) rfl ?_; clear S; intro a S
   refine lv S (rn_lss (S.tm rfl) (S.tm rfl)) rfl ?_; clear S; intro a S
   refine l_done (then_n (f_cond (S.tm rfl) (fun hb4 => ?_) (fun hb4 => ?_)))
   ·replace h := iteT h hb4
    refine f_seq (f_region (lv S (rn_assign rfl) rfl ?_)); clear S; intro a S
    refine l_done (then_n (wp_ret (then_r ?_)))
    subst h
    exact f_ret S Tryd.results41 rfl rfl
   ·replace h := iteF h hb4
    refine wp_skip (then_n (f_seq (f_seq (f_region (lv S (rn_move (S.tm rfl)) rfl ?_))))); clear S; intro a S
    refine lv S (rn_move (S.tm rfl)) rfl ?_; clear S; intro a S
    refine lv S (rn_gtr (S.tm rfl) (S.tm rfl)) rfl ?_; clear S; intro a S
    refine l_done ?_
    replace S := S.nk [] [(19, bV (decide (p_y < p_x)))] [] rfl ⟨rfl, trivial⟩
    refine then_n (f_cond (S.tm rfl) (fun hb5 => ?_) (fun hb5 => ?_))
    ·replace h := iteT h hb5
     refine f_seq (f_region (lv S (rn_assign rfl) rfl ?_)); clear S; intro a S
     refine l_done (then_n (wp_ret (then_r ?_)))
     subst h
     exact f_ret S Tryd.results41 rfl rfl
    ·replace h := iteF h hb5
     refine wp_skip (then_n (f_seq (f_region (lv S (rn_assign rfl) rfl ?_)))); clear S; intro a S
     refine l_done (then_n (wp_ret ?_))
     subst h
     exact f_ret S Tryd.results41 rfl rfl
theorem cmp_Or_int_ok (w : World) (v_p_vals : Value) (p_vals : List Int) (hs_p_vals : Slc (view w []) 1 v_p_vals (p_vals.map eInt)) (r : Int) (h : cmp_Or_int p_vals = r) :
    Calls Tryd.prog 40 [v_p_vals].toArray w (Ret w [] fun _ v _ => v = iV r) := by
 refine f_enter [] [] Tryd.func40 rfl Tryd.ntmps40 rfl (by simp) (by simp [fps]) (by simp [fps]) fun a S => ?_
 unfold cmp_Or_int at h
 replace S := S.nk [] [(0, v_p_vals)] [] rfl ⟨rfl, trivial⟩
 refine f_seq (f_region (lv S (rn_assign rfl) rfl ?_)); clear S; intro a S
 refine l_done (then_n (f_seq (f_region (lv S (rn_assign rfl) rfl ?_)))); clear S; intro a S
 refine l_done (then_n (f_seq (f_seq (f_region (lv S (rn_move (S.tm rfl)) rfl ?_))))); clear S; intro a S
 refine lv S (rn_lenT sl_22 (S.tm rfl) (slc_len hs_p_vals)) rfl ?_; clear S; intro a S
 refine lv S (rn_move rfl) rfl ?_; clear S; intro a S
 refine l_done (then_n ?_)
 replace S := S.nk [] [(3, iV 0), (6, v_p_vals), (7, iV (p_vals.length : Int)), (8, iV 0)] [] rfl (subR rfl)
 obtain ⟨j1, hj1, h⟩ := joinE h
 refine f_join (fun a w' => j1 = r ∧ Sx w [] nov [] [(3, iV 0)] 18 a w') ?_ ?_
 ·refine wp_block (f_loop (fun (ys1 : List Int) a w' => ∃ i1 : Nat, (∃ dn, p_vals = dn ++ ys1 ∧ dn.length = i1) ∧ cmp_Or_int_l1 j1 ys1 i1 = r ∧ Sx w [] nov [] [(3, iV 0), (6, v_p_vals), (7, iV (p_vals.length : Int)), (8, iV (i1 : Int))] 18 a w') List.length p_vals ⟨0, ⟨[], rfl, rfl⟩, h, S.nf [] rfl (subR rfl)⟩ ?_)
  clear S h; rintro ys1 a w1 ⟨i1, ⟨dn, hd1, hi1⟩, h, S⟩
  cases ys1 with
  | nil =>
   rw [cmp_Or_int_l1.eq_1] at h
   refine f_seq (f_region (lv S (rn_lss (S.tm rfl) (S.tm rfl)) rfl ?_)); clear S; intro a S
   refine l_done ?_
   replace S := S.nk [] [(3, iV 0), (6, v_p_vals), (7, iV (p_vals.length : Int)), (8, iV (i1 : Int)), (9, bV (decide ((i1 : Int) < (p_vals.length : Int))))] [] rfl (subR rfl)
   refine then_n (f_seq (wp_cond_false ((S.tm rfl).trans (congrArg Value.bool (rng_nil hd1 hi1))) (wp_exit (then_x (then_x (x_same ?_))))))
   refine then_n ?_
   exact ⟨h, S.nf [] rfl ⟨rfl, trivial⟩⟩
  | cons y1 ys1 =>
   rw [cmp_Or_int_l1.eq_2] at h
   refine f_seq (f_region (lv S (rn_lss (S.tm rfl) (S.tm rfl)) rfl ?_)); clear S; intro a S
   refine l_done ?_
   replace S := S.nk [] [(3, iV 0), (6, v_p_vals), (7, iV (p_vals.length : Int)), (8, iV (i1 : Int)), (9, bV (decide ((i1 : Int) < (p_vals.length : Int))))] [] rfl (subR rfl)
   refine then_n (f_seq (wp_cond_true ((S.tm rfl).trans (congrArg Value.bool (rng_cons hd1 hi1))) (wp_skip (then_n (f_seq (wp_block ?_))))))
   refine f_seq (f_region ?_)
   obtain ⟨b1, o1, hm1, hr1⟩ := rn_indexT (a := a) (x := .tmp 6) (y := .tmp 8) (ty := 0) sl_22 hs_p_vals (get_mid hd1 hi1) rfl (S.tm rfl) (S.tm rfl)
   refine lv S (hr1 _) rfl ?_; clear S; intro a S
   clear hr1
   refine lv S (rn_ld Tryd.isAgg3 (off := o1) (o := 0) (S.tm rfl) (hm1.at S.emb0) rfl) rfl ?_; clear S; intro a S
   refine lv S (rn_assign (S.tm rfl)) rfl ?_; clear S; intro a S
   refine l_done (then_n (f_seq (f_region (lv S (rn_move (S.tm rfl)) rfl ?_)))); clear S; intro a S
   refine lv S (rn_move (S.tm rfl)) rfl ?_; clear S; intro a S
   refine lv S (rn_neq (S.tm rfl) (S.tm rfl)) rfl ?_; clear S; intro a S
   refine l_done (then_n (f_cond (S.tm rfl) (fun hb1 => ?_) (fun hb1 => ?_)))
   ·replace h := iteT h hb1
    refine f_seq (f_region (lv S (rn_move (S.tm rfl)) rfl ?_)); clear S; intro a S
    refine lv S (rn_assign (S.tm rfl)) rfl ?_; clear S; intro a S
    refine l_done (then_n (wp_ret (blk_r (then_r (then_r (blk_r ?_))))))
    refine then_r (then_r ?_)
    subst h
    exact f_ret S Tryd.results40 rfl rfl
   ·replace h := iteF h hb1
    refine wp_skip (blk_n (then_n (f_region (lv S (rn_add (S.tm rfl) rfl) rfl ?_)))); clear S; intro a S
    refine lv S (rn_move (S.tm rfl)) rfl ?_; clear S; intro a S
    refine l_done (then_n ?_)
    exact ⟨ys1, ⟨i1 + 1, ⟨_, (hd1).trans (List.append_cons _ _ _), by simp [hi1]⟩, h, S.nf [] rfl ⟨rfl, rfl, rfl, (congrArg (fun z => some (Value.int .i64 z)) (rng_next hd1 hi1 (slc_max hs_p_vals))), trivial⟩⟩, Nat.lt_succ_self _⟩
 clear S h; rintro a w2 ⟨h, S⟩; rw [hj1] at h; clear hj1 j1
 refine then_n (f_seq (f_region (lv S (rn_move (S.tm rfl)) rfl ?_))); clear S; intro a S
 refine lv S (rn_assign (S.tm rfl)) rfl ?_; clear S; intro a S
 refine l_done (then_n (wp_ret ?_))
 subst h
 exact f_ret S Tryd.results40 rfl rfl
set_option maxRecDepth 20000 in
theorem swimmer_CheckMoves_ok (w : World) (v_p_l : Value) (p_l : List GMove) (hs_p_l : Slc (view w []) 3 v_p_l (p_l.map GMove.enc)) (r : Int) (h : swimmer_CheckMoves p_l = some r) :
    Calls Tryd.prog 36 [v_p_l].toArray w (Ret w [] fun _ v _ => v = iV r) := by
 refine f_enter [] [] Tryd.func36 rfl Tryd.ntmps36 rfl (by simp) (by simp [fps]) (by simp [fps]) fun a S => ?_
 unfold swimmer_CheckMoves at h
 replace S := S.nk [] [(0, v_p_l)] [] rfl ⟨rfl, trivial⟩
 refine f_seq (f_region (lv S (rn_assign rfl) rfl ?_)); clear S; intro a S
 refine l_done (then_n (f_seq (f_seq (f_region (lv S (rn_move (S.tm rfl)) rfl ?_))))); clear S; intro a S
 refine lv S (rn_lenT sl_26 (S.tm rfl) (slc_len hs_p_l)) rfl ?_; clear S; intro a S
 refine lv S (rn_gtr (S.tm rfl) rfl) rfl ?_; clear S; intro a S
 refine l_done (then_n (f_cond (S.tm rfl) (fun hb1 => ?_) (fun hb1 => ?_)))
 ·replace h := iteT h hb1
  refine f_seq (f_region (lv S (rn_assign rfl) rfl ?_)); clear S; intro a S
  refine l_done (then_n (wp_ret (then_r ?_)))
  obtain rfl := Option.some.inj h
  exact f_ret S Tryd.results36 rfl rfl
 ·replace h := iteF h hb1
  refine wp_skip (then_n (f_seq (f_seq (f_region (lv S (rn_move (S.tm rfl)) rfl ?_))))); clear S; intro a S
  refine lv S (rn_lenT sl_26 (S.tm rfl) (slc_len hs_p_l)) rfl ?_; clear S; intro a S
  refine lv S (rn_move rfl) rfl ?_; clear S; intro a S
  refine l_done (then_n ?_)
  replace S := S.nk [] [(0, v_p_l), (9, v_p_l), (10, iV (p_l.length : Int)), (11, iV 0)] [] rfl (subR rfl)
  obtain ⟨j1, hj1, h⟩ := joinE h
  refine f_join (fun a w' => j1 = some r ∧ Sx w [] nov [] [] 97 a w') ?_ ?_
  ·refine wp_block (f_loop (fun (ys1 : List GMove) a w' => ∃ i1 : Nat, (∃ dn, p_l = dn ++ ys1 ∧ dn.length = i1) ∧ swimmer_CheckMoves_l1 p_l j1 ys1 i1 = some r ∧ Sx w [] nov [] [(0, v_p_l), (9, v_p_l), (10, iV (p_l.length : Int)), (11, iV (i1 : Int))] 97 a w') List.length p_l ⟨0, ⟨[], rfl, rfl⟩, h, S.nf [] rfl (subR rfl)⟩ ?_)
   clear S h; rintro ys1 a w1 ⟨i1, ⟨dn, hd1, hi1⟩, h, S⟩
   cases ys1 with
   | nil =>
    rw [swimmer_CheckMoves_l1.eq_1] at h
    refine f_seq (f_region (lv S (rn_lss (S.tm rfl) (S.tm rfl)) rfl ?_)); clear S; intro a S
    refine l_done ?_
    replace S := S.nk [] [(0, v_p_l), (9, v_p_l), (10, iV (p_l.length : Int)), (11, iV (i1 : Int)), (12, bV (decide ((i1 : Int) < (p_l.length : Int))))] [] rfl (subR rfl)
    refine then_n (f_seq (wp_cond_false ((S.tm rfl).trans (congrArg Value.bool (rng_nil hd1 hi1))) (wp_exit (then_x (then_x (x_same ?_))))))
    refine then_n ?_
    exact ⟨h, S.nf [] rfl trivial⟩
   | cons y1 ys1 =>
    rw [swimmer_CheckMoves_l1.eq_2] at h
    refine f_seq (f_region (lv S (rn_lss (S.tm rfl) (S.tm rfl)) rfl ?_)); clear S; intro a S
    refine l_done ?_
    replace S := S.nk [] [(0, v_p_l), (9, v_p_l), (10, iV (p_l.length : Int)), (11, iV (i1 : Int)), (12, bV (decide ((i1 : Int) < (p_l.length : Int))))] [] rfl (subR rfl)
    refine then_n (f_seq (wp_cond_true ((S.tm rfl).trans (congrArg Value.bool (rng_cons hd1 hi1))) (wp_skip (then_n (f_seq (wp_block ?_))))))
    refine f_seq (f_region (lv S (rn_move (S.tm rfl)) rfl ?_)); clear S; intro a S
    obtain ⟨b1, o1, hm1, hr1⟩ := rn_indexT (a := a) (x := .tmp 9) (y := .tmp 11) (ty := 0) sl_26 hs_p_l (get_mid hd1 hi1) rfl (S.tm rfl) (S.tm rfl)
    refine lv S (hr1 _) rfl ?_; clear S; intro a S
    clear hr1
    refine lv S (rn_ldA Tryd.isAgg45 Tryd.sizeOf45 (off := o1) (o := 0) (part := (GMove.enc y1)) rfl rfl (S.tm rfl) (hm1.at S.emb0)) rfl ?_; clear S; intro a S
    refine l_alloc S Tryd.zeroValue45 (cs := [sV k_empty, sV k_empty, iV 0]) rfl rfl ?_; clear S; intro a w3 b2 hz1 hk1 S
    refine lv S (rn_assign (S.tm rfl)) rfl ?_; clear S; intro a S
    refine l_store S (S.tm rfl) (S.tm rfl) (i := 0) (off := 0) rfl Tryd.sizeOf45 (vs := (GMove.enc y1)) rfl rfl rfl rfl ?_; clear S; intro w4 hk2 S
    refine l_done (then_n (f_seq (d_region [] ([]) Tryd.mixed S rfl (by kernel_rfl) ?_))); clear S; intro w5 hk3 hsel S
    refine d_rest [0, 1, 2, 3, 4, 5, 6, 7, 8, 9, 10, 11, 12, 13] hsel (by kernel_rfl) rfl ?_
    clear hsel
    refine s_lv S rfl (rn_move (S.tm rfl)) rfl ?_; clear S; intro a S
    refine s_lv S rfl (rn_eql (S.tm rfl) rfl) rfl ?_; clear S; intro a S
    refine s_lv S rfl (rn_move (S.tm rfl)) rfl ?_; clear S; intro a S
    obtain ⟨j2, hj2, h⟩ := joinE h
    refine s_cutm 10 (fun a w' => ∃ c1, j2 c1 = some r ∧ Keep [] w5 w' ∧ Sx w [] nov [.blk b2 (GMove.enc y1) 45] [(0, v_p_l), (3, iV (i1 : Int)), (4, .pointer (some ⟨b2, 0, none⟩)), (9, v_p_l), (10, iV (p_l.length : Int)), (11, iV (i1 : Int)), (28, bV c1)] 97 a w') ?_ ?_
    ·rcases Bool.eq_false_or_eq_true (decide ((i1 : Int) = 0)) with hb2 | hb2
     ·replace h := iteT h hb2
      iterate 9 (refine s_skip S rfl rfl rfl rfl (neq_t hb2) rfl ?_ rfl; clear S; intro a S)
      refine s_lv S rfl (rn_or_t true hb2 (S.tm rfl) rfl) rfl ?_; clear S; intro a S
      refine s_done ?_
      exact ⟨_, h, Keep.refl _ _, S.nf [true] rfl (subR rfl)⟩
     ·replace h := iteF h hb2
      refine s_want S rfl rfl rfl rfl hb2 (s_lv0 S (rn_move (S.tm rfl)) rfl ?_); clear S; intro a S
      refine s_want S rfl rfl rfl rfl hb2 (s_lv0 S (rn_move (S.tm rfl)) rfl ?_); clear S; intro a S
      refine s_want S rfl rfl rfl rfl hb2 (s_lv0 S (rn_sub (S.tm rfl) rfl) rfl ?_); clear S; intro a S
      refine s_want S rfl rfl rfl rfl hb2 ?_
      obtain ⟨hc1, h⟩ := chkE h
      obtain ⟨b3, o2, hm2, hr2⟩ := rn_indexT (a := a) (x := .tmp 19) (y := .tmp 21) (ty := 0) sl_26 hs_p_l (inB_get hc1).1 (inB_get hc1).2 (S.tm rfl) (S.tm rfl)
      refine s_lv0 S (hr2 _) rfl ?_; clear S; intro a S
      clear hr2
      refine s_want S rfl rfl rfl rfl hb2 (s_lv0 S (rn_fld fa_45_0 (S.tm rfl)) rfl ?_); clear S; intro a S
      refine s_want S rfl rfl rfl rfl hb2 (s_lv0 S (rn_ld Tryd.isAgg9 (off := o2) (o := 0) (S.tm rfl) (hm2.at S.emb0) rfl) rfl ?_); clear S; intro a S
      refine s_want S rfl rfl rfl rfl hb2 (s_lv0 S (rn_fld fa_45_0 (S.tm rfl)) rfl ?_); clear S; intro a S
      refine s_want S rfl rfl rfl rfl hb2 (s_lv0 S (rn_load Tryd.isAgg9 (S.tm rfl) (S.cell (i := 0) rfl rfl)) rfl ?_); clear S; intro a S
      refine s_want S rfl rfl rfl rfl hb2 (s_lv0 S (rn_sneq (S.tm rfl) (S.tm rfl)) rfl ?_); clear S; intro a S
      refine s_lv S rfl (rn_or_f hb2 (S.tm rfl) (S.tm rfl)) rfl ?_; clear S; intro a S
      refine s_done ?_
      exact ⟨_, h, Keep.refl _ _, S.nf [true] rfl (subR rfl)⟩
    clear S h; rintro a w6 ⟨c1, h, hk4, S⟩; rw [hj2] at h; clear hj2 j2
    refine s_lv S rfl (rn_assign (S.tm rfl)) rfl ?_; clear S; intro a S
    refine s_done ?_
    replace S := S.nk [.blk b2 (GMove.enc y1) 45] [(0, v_p_l), (3, iV (i1 : Int)), (4, .pointer (some ⟨b2, 0, none⟩)), (5, bV c1), (9, v_p_l), (10, iV (p_l.length : Int)), (11, iV (i1 : Int))] [true] rfl (subR rfl)
    refine then_n (wp_block (f_seq (f_region (lv S (rn_fld fa_45_0 (S.tm rfl)) rfl ?_)))); clear S; intro a S
    refine lv S (rn_load Tryd.isAgg9 (S.tm rfl) (S.cell (i := 0) rfl rfl)) rfl ?_; clear S; intro a S
    obtain ⟨r1, hr3, h⟩ := bindE h
    refine l_enter S (fun _ => run_call (vs := [sV y1.Who]) ⟨(S.tm rfl), trivial⟩ Tryd.call25) (words_IsKey_ok _ y1.Who _ hr3) rfl ?_; clear S; intro v1 a w7 hv1 hk5 hn1 S
    subst hv1
    refine lv S (rn_not (S.tm rfl)) rfl ?_; clear S; intro a S
    refine lv S (rn_move (S.tm rfl)) rfl ?_; clear S; intro a S
    obtain ⟨j3, hj3, h⟩ := joinE h
    refine f_cutm 10 (fun a w' => ∃ c2, j3 c2 = some r ∧ Keep [] w7 w' ∧ Sx w [] nov [.blk b2 (GMove.enc y1) 45] [(0, v_p_l), (3, iV (i1 : Int)), (4, .pointer (some ⟨b2, 0, none⟩)), (5, bV c1), (9, v_p_l), (10, iV (p_l.length : Int)), (11, iV (i1 : Int)), (44, bV c2)] 97 a w') ?_ ?_
    ·rcases Bool.eq_false_or_eq_true (!r1) with hb3 | hb3
     ·replace h := iteT h hb3
      iterate 4 (refine l_skip S rfl rfl rfl (neq_t hb3) rfl ?_ rfl; clear S; intro a S)
      iterate 4 (refine l_skipU S rfl rfl rfl rfl ?_; clear S; intro a S)
      refine l_skip S rfl rfl rfl (neq_t hb3) rfl ?_ rfl; clear S; intro a S
      refine lv S (rn_or_t true hb3 (S.tm rfl) rfl) rfl ?_; clear S; intro a S
      refine l_done (then_n ?_)
      exact ⟨_, h, Keep.refl _ _, S.nf [true] rfl (subR rfl)⟩
     ·replace h := iteF h hb3
      refine l_want S rfl rfl rfl hb3 (lv S (rn_fld fa_45_1 (S.tm rfl)) rfl ?_); clear S; intro a S
      refine l_want S rfl rfl rfl hb3 (lv S (rn_load Tryd.isAgg9 (S.tm rfl) (S.cell (i := 0) rfl rfl)) rfl ?_); clear S; intro a S
      refine l_want S rfl rfl rfl hb3 (lv S (rn_sneq (S.tm rfl) rfl) rfl ?_); clear S; intro a S
      refine l_want S rfl rfl rfl hb3 (lv S (rn_move (S.tm rfl)) rfl ?_); clear S; intro a S
      obtain ⟨j4, hj4, h⟩ := joinE h
      refine f_cutm 5 (fun a w' => ∃ c3, j4 c3 = some r ∧ Keep [] w7 w' ∧ Sx w [] nov [.blk b2 (GMove.enc y1) 45] [(0, v_p_l), (3, iV (i1 : Int)), (4, .pointer (some ⟨b2, 0, none⟩)), (5, bV c1), (9, v_p_l), (10, iV (p_l.length : Int)), (11, iV (i1 : Int)), (34, bV (!r1)), (35, .pointer (some ⟨b2, 1, none⟩)), (36, sV y1.Club), (37, bV (!decide (y1.Club = k_empty))), (38, bV (!decide (y1.Club = k_empty))), (43, bV c3)] 97 a w') ?_ ?_
      ·rcases Bool.eq_false_or_eq_true (!decide (y1.Club = k_empty)) with hb4 | hb4
       ·replace h := iteT h hb4
        refine l_want S rfl rfl rfl hb4 (lv S (rn_fld fa_45_1 (S.tm rfl)) rfl ?_); clear S; intro a S
        refine l_want S rfl rfl rfl hb4 (lv S (rn_load Tryd.isAgg9 (S.tm rfl) (S.cell (i := 0) rfl rfl)) rfl ?_); clear S; intro a S
        refine l_want S rfl rfl rfl hb4 ?_
        obtain ⟨r2, hr4, h⟩ := bindE h
        refine l_enter S (fun _ => run_call (vs := [sV y1.Club]) ⟨(S.tm rfl), trivial⟩ Tryd.call25) (words_IsKey_ok _ y1.Club _ hr4) rfl ?_; clear S; intro v2 a w10 hv2 hk6 hn2 S
        subst hv2
        refine l_want S rfl rfl rfl hb4 (lv S (rn_not (S.tm rfl)) rfl ?_); clear S; intro a S
        refine l_want S rfl rfl rfl hb3 (lv S (rn_and_t hb4 (S.tm rfl) (S.tm rfl)) rfl ?_); clear S; intro a S
        refine l_done (then_n ?_)
        exact ⟨_, h, hk6, S.nf [true] rfl (subR rfl)⟩
       ·replace h := iteF h hb4
        iterate 4 (refine l_skip S rfl rfl rfl (neq_f hb4) rfl ?_ rfl; clear S; intro a S)
        refine l_want S rfl rfl rfl hb3 (lv S (rn_and_f true hb4 (S.tm rfl) rfl) rfl ?_); clear S; intro a S
        refine l_done (then_n ?_)
        exact ⟨_, h, Keep.refl _ _, S.nf [true] rfl (subR rfl)⟩
      clear S h; rintro a w9 ⟨c3, h, hk7, S⟩; rw [hj4] at h; clear hj4 j4
      refine lv S (rn_or_f hb3 (S.tm rfl) (S.tm rfl)) rfl ?_; clear S; intro a S
      refine l_done (then_n ?_)
      exact ⟨_, h, hk7, S.nf [true] rfl (subR rfl)⟩
    clear S h; rintro a w8 ⟨c2, h, hk8, S⟩; rw [hj3] at h; clear hj3 j3
    refine lv S (rn_assign (S.tm rfl)) rfl ?_; clear S; intro a S
    refine l_done (then_n (f_cond (S.tm rfl) (fun hb5 => ?_) (fun hb5 => ?_)))
    ·replace h := iteT h hb5
     refine f_seq (f_region (lv S (rn_assign rfl) rfl ?_)); clear S; intro a S
     refine l_done (then_n (wp_ret (blk_r (blk_r (then_r (then_r ?_))))))
     refine blk_r (then_r (then_r ?_))
     obtain rfl := Option.some.inj h
     exact f_ret S Tryd.results36 rfl rfl
    ·replace h := iteF h hb5
     refine f_seq (f_region (lv S (rn_fld fa_45_2 (S.tm rfl)) rfl ?_)); clear S; intro a S
     refine lv S (rn_load Tryd.isAgg3 (S.tm rfl) (S.cell (i := 0) rfl rfl)) rfl ?_; clear S; intro a S
     refine l_enter S (fun _ => run_call (vs := [iV y1.Day]) ⟨(S.tm rfl), trivial⟩ Tryd.call37) (swimmer_isDay_ok _ y1.Day _ rfl) rfl ?_; clear S; intro v3 a w11 hv3 hk9 hn3 S
     subst hv3
     refine lv S (rn_not (S.tm rfl)) rfl ?_; clear S; intro a S
     refine lv S (rn_assign (S.tm rfl)) rfl ?_; clear S; intro a S
     refine l_done (then_n (f_cond (S.tm rfl) (fun hb6 => ?_) (fun hb6 => ?_)))
     ·replace h := iteT h hb6
      refine f_seq (f_region (lv S (rn_assign rfl) rfl ?_)); clear S; intro a S
      refine l_done ?_
      replace S := S.nk [] [(2, iV 1)] [false] rfl ⟨rfl, trivial⟩
      refine then_n (wp_ret (blk_r (blk_r (then_r (then_r (blk_r ?_))))))
      refine then_r (then_r ?_)
      obtain rfl := Option.some.inj h
      exact f_ret S Tryd.results36 rfl rfl
     ·replace h := iteF h hb6
      refine f_seq ?_
      obtain ⟨j5, hj5, h⟩ := joinE h
      refine f_join (fun a w' => ∃ x1 : Bool, j5 x1 = some r ∧ Sx w [] nov [.blk b2 (GMove.enc y1) 45] [(0, v_p_l), (3, iV (i1 : Int)), (4, .pointer (some ⟨b2, 0, none⟩)), (5, bV c1), (9, v_p_l), (10, iV (p_l.length : Int)), (11, iV (i1 : Int)), (50, bV x1)] 97 a w') ?_ ?_
      ·rcases Bool.eq_false_or_eq_true (decide (0 < (i1 : Int))) with hb7 | hb7
       ·replace h := iteT h hb7
        obtain ⟨hc2, h⟩ := chkE h
        obtain ⟨hc3, h⟩ := chkE h
        refine d_region [] ([]) Tryd.mixed S rfl (by kernel_rfl) ?_; clear S; intro w17 hk14 hsel S
        refine d_quiet 0 S hsel rfl rfl rfl (by kernel_rfl) (by kernel_rfl) rfl (fun _ hw => (rn_move (S.tm rfl))) ?_; clear S; intro a S
        refine d_quiet 1 S hsel rfl rfl rfl (by kernel_rfl) (by kernel_rfl) rfl (fun _ hw => (rn_gtr (S.tm rfl) rfl)) ?_; clear S; intro a S
        refine d_quiet 2 S hsel rfl rfl rfl (by kernel_rfl) (by kernel_rfl) rfl (fun _ hw => (rn_move (S.tm rfl))) ?_; clear S; intro a S
        refine d_quiet_g 3 S hsel rfl rfl rfl rfl hb7 rfl rfl (by kernel_rfl) (by kernel_rfl) rfl (fun _ hw => (rn_move (S.tm rfl))) ?_; clear S; intro a S
        refine d_quiet_g 4 S hsel rfl rfl rfl rfl hb7 rfl rfl (by kernel_rfl) (by kernel_rfl) rfl (fun _ hw => (rn_move (S.tm rfl))) ?_; clear S; intro a S
        refine d_quiet_g 5 S hsel rfl rfl rfl rfl hb7 rfl rfl (by kernel_rfl) (by kernel_rfl) rfl (fun _ hw => (rn_sub (S.tm rfl) rfl)) ?_; clear S; intro a S
        obtain ⟨b7, o5, hm5, hr7⟩ := rn_indexT (a := a) (x := .tmp 54) (y := .tmp 56) (ty := 0) sl_26 (hs_p_l.mono (S.le_arg nil_sub)) (inB_get hc2).1 (inB_get hc2).2 (S.tm rfl) (S.tm rfl)
        refine d_quiet_g 6 S hsel rfl rfl rfl rfl hb7 rfl rfl (by kernel_rfl) (by kernel_rfl) rfl (fun _ hw => hr7 _) ?_; clear S; intro a S
        clear hr7
        refine d_quiet_g 7 S hsel rfl rfl rfl rfl hb7 rfl rfl (by kernel_rfl) (by kernel_rfl) rfl (fun _ hw => (rn_fld fa_45_0 (S.tm rfl))) ?_; clear S; intro a S
        refine d_quiet_g 8 S hsel rfl rfl rfl rfl hb7 rfl rfl (by kernel_rfl) (by kernel_rfl) rfl (fun _ hw => (rn_ld Tryd.isAgg9 (off := o5) (o := 0) (S.tm rfl) (hm5.kept hw) rfl)) ?_; clear S; intro a S
        refine d_quiet_g 9 S hsel rfl rfl rfl rfl hb7 rfl rfl (by kernel_rfl) (by kernel_rfl) rfl (fun _ hw => (rn_fld fa_45_0 (S.tm rfl))) ?_; clear S; intro a S
        refine d_quiet_g 10 S hsel rfl rfl rfl rfl hb7 rfl rfl (by kernel_rfl) (by kernel_rfl) rfl (fun _ hw => (rn_ld Tryd.isAgg9 (off := 0) (o := 0) (S.tm rfl) ((S.blk_mem (i := 0) (cells := (GMove.enc y1)) (b := b2) (T := 45) rfl (ne_nil (e' := .blk b2 (GMove.enc y1) 45))).kept hw) rfl)) ?_; clear S; intro a S
        refine d_quiet_g 12 S hsel rfl rfl rfl rfl hb7 rfl rfl (by kernel_rfl) (by kernel_rfl) rfl (fun _ hw => (rn_move (S.tm rfl))) ?_; clear S; intro a S
        refine d_quiet_g 13 S hsel rfl rfl rfl rfl hb7 rfl rfl (by kernel_rfl) (by kernel_rfl) rfl (fun _ hw => (rn_move (S.tm rfl))) ?_; clear S; intro a S
        refine d_quiet_g 14 S hsel rfl rfl rfl rfl hb7 rfl rfl (by kernel_rfl) (by kernel_rfl) rfl (fun _ hw => (rn_sub (S.tm rfl) rfl)) ?_; clear S; intro a S
        obtain ⟨b8, o6, hm6, hr8⟩ := rn_indexT (a := a) (x := .tmp 63) (y := .tmp 65) (ty := 0) sl_26 (hs_p_l.mono (S.le_arg nil_sub)) (inB_get hc3).1 (inB_get hc3).2 (S.tm rfl) (S.tm rfl)
        refine d_quiet_g 15 S hsel rfl rfl rfl rfl hb7 rfl rfl (by kernel_rfl) (by kernel_rfl) rfl (fun _ hw => hr8 _) ?_; clear S; intro a S
        clear hr8
        refine d_quiet_g 16 S hsel rfl rfl rfl rfl hb7 rfl rfl (by kernel_rfl) (by kernel_rfl) rfl (fun _ hw => (rn_fld fa_45_2 (S.tm rfl))) ?_; clear S; intro a S
        refine d_quiet_g 17 S hsel rfl rfl rfl rfl hb7 rfl rfl (by kernel_rfl) (by kernel_rfl) rfl (fun _ hw => (rn_ld Tryd.isAgg3 (off := o6) (o := 2) (S.tm rfl) (hm6.kept hw) rfl)) ?_; clear S; intro a S
        refine d_quiet_g 18 S hsel rfl rfl rfl rfl hb7 rfl rfl (by kernel_rfl) (by kernel_rfl) rfl (fun _ hw => (rn_fld fa_45_2 (S.tm rfl))) ?_; clear S; intro a S
        refine d_quiet_g 19 S hsel rfl rfl rfl rfl hb7 rfl rfl (by kernel_rfl) (by kernel_rfl) rfl (fun _ hw => (rn_ld Tryd.isAgg3 (off := 0) (o := 2) (S.tm rfl) ((S.blk_mem (i := 0) (cells := (GMove.enc y1)) (b := b2) (T := 45) rfl (ne_nil (e' := .blk b2 (GMove.enc y1) 45))).kept hw) rfl)) ?_; clear S; intro a S
        refine d_loud1 11 (by kernel_rfl) rfl (l_want S rfl rfl rfl hb7 (l_enter S (fun _ => run_call (vs := [sV ((nth p_l (W ((i1 : Int) - 1))).Who), sV y1.Who]) ⟨(S.tm rfl), (S.tm rfl), trivial⟩ Tryd.call56) (strings_Compare_ok _ ((nth p_l (W ((i1 : Int) - 1))).Who) y1.Who _ rfl) rfl ?_)); clear S; intro v7 a w18 hv7 hk15 hn7 S
        subst hv7
        refine l_done (d_next hk15 (d_loud1 20 (by kernel_rfl) rfl (l_want S rfl rfl rfl hb7 (l_enter S (fun _ => run_call (vs := [iV ((nth p_l (W ((i1 : Int) - 1))).Day), iV y1.Day]) ⟨(S.tm rfl), (S.tm rfl), trivial⟩ Tryd.call41) (cmp_Compare_int_ok _ ((nth p_l (W ((i1 : Int) - 1))).Day) y1.Day _ rfl) rfl ?_)))); clear S; intro v8 a w19 hv8 hk16 hn8 S
        subst hv8
        refine l_done (d_next hk16 (d_loud1 21 (by kernel_rfl) rfl (l_want S rfl rfl rfl hb7 (l_buildSlice S Tryd.underlying22 Tryd.sizeOf3 Tryd.zeroValue3 rfl rfl (pv := [(0, iV (strings_Compare ((nth p_l (W ((i1 : Int) - 1))).Who) y1.Who)), (1, iV (cmp_Compare_int ((nth p_l (W ((i1 : Int) - 1))).Day) y1.Day))]) ⟨rfl, (S.tm rfl), rfl, (S.tm rfl), trivial⟩ (cs := [iV (strings_Compare ((nth p_l (W ((i1 : Int) - 1))).Who) y1.Who), iV (cmp_Compare_int ((nth p_l (W ((i1 : Int) - 1))).Day) y1.Day)]) (by kernel_rfl) rfl ?_)))); clear S; intro a w20 b9 hz3 hk17 S
        refine l_done (d_next hk17 (d_loud1 22 (by kernel_rfl) rfl (l_want S rfl rfl rfl hb7 (l_enter S (fun _ => run_call (vs := [.slice (some ⟨b9, 0, none⟩) 2 2]) ⟨(S.tm rfl), trivial⟩ Tryd.call40) (cmp_Or_int_ok _ (.slice (some ⟨b9, 0, none⟩) 2 2) [(strings_Compare ((nth p_l (W ((i1 : Int) - 1))).Who) y1.Who), (cmp_Compare_int ((nth p_l (W ((i1 : Int) - 1))).Day) y1.Day)] (lit_slcT enc_int S (i := 0) rfl rfl rfl rfl ((ne_nil (e' := .blk b9 [iV (strings_Compare ((nth p_l (W ((i1 : Int) - 1))).Who) y1.Who), iV (cmp_Compare_int ((nth p_l (W ((i1 : Int) - 1))).Day) y1.Day)] 3)) _ rfl)) _ rfl) rfl ?_)))); clear S; intro v9 a w21 hv9 hk18 hn9 S
        subst hv9
        refine l_done (d_next hk18 (d_rest [23, 24, 25] hsel (by kernel_rfl) rfl ?_))
        clear hsel
        refine s_want S rfl rfl rfl rfl hb7 (s_lv0 S (rn_geq (S.tm rfl) rfl) rfl ?_); clear S; intro a S
        refine s_lv S rfl (rn_pick_b hb7 (S.tm rfl) (S.tm rfl)) rfl ?_; clear S; intro a S
        refine s_lv S rfl (rn_assign (S.tm rfl)) rfl ?_; clear S; intro a S
        refine s_done ?_
        replace S := S.nk [.blk b9 [iV (strings_Compare ((nth p_l (W ((i1 : Int) - 1))).Who) y1.Who), iV (cmp_Compare_int ((nth p_l (W ((i1 : Int) - 1))).Day) y1.Day)] 3, .blk b2 (GMove.enc y1) 45] [(0, v_p_l), (3, iV (i1 : Int)), (4, .pointer (some ⟨b2, 0, none⟩)), (5, bV c1), (9, v_p_l), (10, iV (p_l.length : Int)), (11, iV (i1 : Int)), (50, bV (decide (0 ≤ (cmp_Or_int [(strings_Compare ((nth p_l (W ((i1 : Int) - 1))).Who) y1.Who), (cmp_Compare_int ((nth p_l (W ((i1 : Int) - 1))).Day) y1.Day)])))), (54, v_p_l), (55, iV (i1 : Int)), (56, iV (W ((i1 : Int) - 1))), (57, .pointer (some ⟨b7, o5, none⟩)), (58, .pointer (some ⟨b7, o5, none⟩)), (59, sV ((nth p_l (W ((i1 : Int) - 1))).Who)), (60, .pointer (some ⟨b2, 0, none⟩)), (61, sV y1.Who), (62, iV (strings_Compare ((nth p_l (W ((i1 : Int) - 1))).Who) y1.Who)), (63, v_p_l), (64, iV (i1 : Int)), (65, iV (W ((i1 : Int) - 1))), (66, .pointer (some ⟨b8, o6, none⟩)), (67, .pointer (some ⟨b8, o6 + 2, none⟩)), (68, iV ((nth p_l (W ((i1 : Int) - 1))).Day)), (69, .pointer (some ⟨b2, 2, none⟩)), (70, iV y1.Day), (71, iV (cmp_Compare_int ((nth p_l (W ((i1 : Int) - 1))).Day) y1.Day)), (72, .slice (some ⟨b9, 0, none⟩) 2 2), (73, iV (cmp_Or_int [(strings_Compare ((nth p_l (W ((i1 : Int) - 1))).Who) y1.Who), (cmp_Compare_int ((nth p_l (W ((i1 : Int) - 1))).Day) y1.Day)])), (74, bV (decide (0 ≤ (cmp_Or_int [(strings_Compare ((nth p_l (W ((i1 : Int) - 1))).Who) y1.Who), (cmp_Compare_int ((nth p_l (W ((i1 : Int) - 1))).Day) y1.Day)]))))] [true, true] rfl (subR rfl)
        refine then_n ?_
        exact ⟨decide (0 ≤ (cmp_Or_int [(strings_Compare ((nth p_l (W ((i1 : Int) - 1))).Who) y1.Who), (cmp_Compare_int ((nth p_l (W ((i1 : Int) - 1))).Day) y1.Day)])), h, S.nf [false, true] rfl (subR rfl)⟩
       ·replace h := iteF h hb7
        refine d_region [] ([]) Tryd.mixed S rfl (by kernel_rfl) ?_; clear S; intro w22 hk19 hsel S
        refine d_rest [0, 1, 2, 3, 4, 5, 6, 7, 8, 9, 10, 11, 12, 13, 14, 15, 16, 17, 18, 19, 20, 21, 22, 23, 24, 25] hsel (by kernel_rfl) rfl ?_
        clear hsel
        refine s_lv S rfl (rn_move (S.tm rfl)) rfl ?_; clear S; intro a S
        refine s_lv S rfl (rn_gtr (S.tm rfl) rfl) rfl ?_; clear S; intro a S
        refine s_lv S rfl (rn_move (S.tm rfl)) rfl ?_; clear S; intro a S
        iterate 21 (refine s_skip S rfl rfl rfl rfl (neq_f hb7) rfl ?_ rfl; clear S; intro a S)
        refine s_lv S rfl (rn_pick_c hb7 (S.tm rfl) rfl) rfl ?_; clear S; intro a S
        refine s_lv S rfl (rn_assign (S.tm rfl)) rfl ?_; clear S; intro a S
        refine s_done ?_
        replace S := S.nk [.blk b2 (GMove.enc y1) 45] [(0, v_p_l), (3, iV (i1 : Int)), (4, .pointer (some ⟨b2, 0, none⟩)), (5, bV c1), (9, v_p_l), (10, iV (p_l.length : Int)), (11, iV (i1 : Int)), (50, bV false)] [true] rfl (subR rfl)
        refine then_n ?_
        exact ⟨false, h, S.nf [true] rfl (subR rfl)⟩
      clear S h; rintro a w12 ⟨x1, h, S⟩; rw [hj5] at h; clear hj5 j5
      refine then_n (f_cond (S.tm rfl) (fun hb8 => ?_) (fun hb8 => ?_))
      ·replace h := iteT h hb8
       refine f_seq (f_region (lv S (rn_assign rfl) rfl ?_)); clear S; intro a S
       refine l_done (then_n (wp_ret (blk_r (blk_r (then_r (then_r ?_))))))
       refine blk_r (then_r (then_r ?_))
       obtain rfl := Option.some.inj h
       exact f_ret S Tryd.results36 rfl rfl
      ·replace h := iteF h hb8
       refine f_seq (f_seq (f_region (lv S (rn_move (S.tm rfl)) rfl ?_))); clear S; intro a S
       refine lv S (rn_move (S.tm rfl)) rfl ?_; clear S; intro a S
       refine f_cutm 4 (fun a w' => Keep [] w12 w' ∧ Sx w [] nov [.blk b2 (GMove.enc y1) 45] [(0, v_p_l), (3, iV (i1 : Int)), (4, .pointer (some ⟨b2, 0, none⟩)), (5, bV c1), (9, v_p_l), (10, iV (p_l.length : Int)), (11, iV (i1 : Int)), (82, bV (c1 && (decide (y1.Club = k_empty))))] 97 a w') ?_ ?_
       ·rcases Bool.eq_false_or_eq_true c1 with hb9 | hb9
        ·refine l_want S rfl rfl rfl hb9 (lv S (rn_fld fa_45_1 (S.tm rfl)) rfl ?_); clear S; intro a S
         refine l_want S rfl rfl rfl hb9 (lv S (rn_load Tryd.isAgg9 (S.tm rfl) (S.cell (i := 0) rfl rfl)) rfl ?_); clear S; intro a S
         refine l_want S rfl rfl rfl hb9 (lv S (rn_seql (S.tm rfl) rfl) rfl ?_); clear S; intro a S
         refine lv S (rn_and_t hb9 (S.tm rfl) (S.tm rfl)) rfl ?_; clear S; intro a S
         refine l_done (then_n ?_)
         exact ⟨Keep.refl _ _, S.nf [true] rfl (subR rfl)⟩
        ·iterate 3 (refine l_skip S rfl rfl rfl (neq_f hb9) rfl ?_ rfl; clear S; intro a S)
         refine lv S (rn_and_f (decide (y1.Club = k_empty)) hb9 (S.tm rfl) rfl) rfl ?_; clear S; intro a S
         refine l_done (then_n ?_)
         exact ⟨Keep.refl _ _, S.nf [true] rfl (subR rfl)⟩
       clear S; rintro a w23 ⟨hk20, S⟩
       refine lv S (rn_assign (S.tm rfl)) rfl ?_; clear S; intro a S
       refine l_done (then_n ?_)
       obtain ⟨j6, hj6, h⟩ := joinE h
       refine f_join (fun a w' => ∃ x2 : Bool, j6 x2 = some r ∧ Sx w [] nov [] [(0, v_p_l), (9, v_p_l), (10, iV (p_l.length : Int)), (11, iV (i1 : Int)), (76, bV x2)] 97 a w') ?_ ?_
       ·refine f_cond (S.tm rfl) (fun hb10 => ?_) (fun hb10 => ?_)
        ·replace h := iteT h hb10
         refine wp_skip (then_n ?_)
         exact ⟨(c1 && (decide (y1.Club = k_empty))), h, S.nf [false] rfl (subR rfl)⟩
        ·replace h := iteF h hb10
         refine d_region [] ([]) Tryd.mixed S rfl (by kernel_rfl) ?_; clear S; intro w25 hk21 hsel S
         refine d_rest [0, 1, 2, 3, 4, 5, 6, 7, 8, 9, 10, 11, 12, 13] hsel (by kernel_rfl) rfl ?_
         clear hsel
         refine s_lv S rfl (rn_move (S.tm rfl)) rfl ?_; clear S; intro a S
         refine s_lv S rfl (rn_not (S.tm rfl)) rfl ?_; clear S; intro a S
         refine s_lv S rfl (rn_move (S.tm rfl)) rfl ?_; clear S; intro a S
         obtain ⟨j7, hj7, h⟩ := joinE h
         refine s_cutm 10 (fun a w' => ∃ c4, j7 c4 = some r ∧ Keep [] w25 w' ∧ Sx w [] nov [.blk b2 (GMove.enc y1) 45] [(0, v_p_l), (9, v_p_l), (10, iV (p_l.length : Int)), (11, iV (i1 : Int)), (95, bV c4)] 97 a w') ?_ ?_
         ·rcases Bool.eq_false_or_eq_true (!c1) with hb11 | hb11
          ·replace h := iteT h hb11
           refine s_want S rfl rfl rfl rfl hb11 (s_lv0 S (rn_move (S.tm rfl)) rfl ?_); clear S; intro a S
           refine s_want S rfl rfl rfl rfl hb11 (s_lv0 S (rn_move (S.tm rfl)) rfl ?_); clear S; intro a S
           refine s_want S rfl rfl rfl rfl hb11 (s_lv0 S (rn_sub (S.tm rfl) rfl) rfl ?_); clear S; intro a S
           refine s_want S rfl rfl rfl rfl hb11 ?_
           obtain ⟨hc4, h⟩ := chkE h
           obtain ⟨b10, o7, hm7, hr9⟩ := rn_indexT (a := a) (x := .tmp 86) (y := .tmp 88) (ty := 0) sl_26 hs_p_l (inB_get hc4).1 (inB_get hc4).2 (S.tm rfl) (S.tm rfl)
           refine s_lv0 S (hr9 _) rfl ?_; clear S; intro a S
           clear hr9
           refine s_want S rfl rfl rfl rfl hb11 (s_lv0 S (rn_fld fa_45_1 (S.tm rfl)) rfl ?_); clear S; intro a S
           refine s_want S rfl rfl rfl rfl hb11 (s_lv0 S (rn_ld Tryd.isAgg9 (off := o7) (o := 1) (S.tm rfl) (hm7.at S.emb0) rfl) rfl ?_); clear S; intro a S
           refine s_want S rfl rfl rfl rfl hb11 (s_lv0 S (rn_fld fa_45_1 (S.tm rfl)) rfl ?_); clear S; intro a S
           refine s_want S rfl rfl rfl rfl hb11 (s_lv0 S (rn_load Tryd.isAgg9 (S.tm rfl) (S.cell (i := 0) rfl rfl)) rfl ?_); clear S; intro a S
           refine s_want S rfl rfl rfl rfl hb11 (s_lv0 S (rn_seql (S.tm rfl) (S.tm rfl)) rfl ?_); clear S; intro a S
           refine s_lv S rfl (rn_and_t hb11 (S.tm rfl) (S.tm rfl)) rfl ?_; clear S; intro a S
           refine s_done ?_
           exact ⟨_, h, Keep.refl _ _, S.nf [true] rfl (subR rfl)⟩
          ·replace h := iteF h hb11
           iterate 9 (refine s_skip S rfl rfl rfl rfl (neq_f hb11) rfl ?_ rfl; clear S; intro a S)
           refine s_lv S rfl (rn_and_f true hb11 (S.tm rfl) rfl) rfl ?_; clear S; intro a S
           refine s_done ?_
           exact ⟨_, h, Keep.refl _ _, S.nf [true] rfl (subR rfl)⟩
         clear S h; rintro a w26 ⟨c4, h, hk22, S⟩; rw [hj7] at h; clear hj7 j7
         refine s_lv S rfl (rn_assign (S.tm rfl)) rfl ?_; clear S; intro a S
         refine s_done ?_
         replace S := S.nk [] [(0, v_p_l), (9, v_p_l), (10, iV (p_l.length : Int)), (11, iV (i1 : Int)), (76, bV c4)] [false] rfl (subR rfl)
         refine then_n ?_
         exact ⟨c4, h, S.nf [] rfl (subR rfl)⟩
       clear S h; rintro a w24 ⟨x2, h, S⟩; rw [hj6] at h; clear hj6 j6
       refine then_n (f_cond (S.tm rfl) (fun hb12 => ?_) (fun hb12 => ?_))
       ·replace h := iteT h hb12
        refine f_seq (f_region (lv S (rn_assign rfl) rfl ?_)); clear S; intro a S
        refine l_done (then_n (wp_ret (blk_r (blk_r (then_r (then_r ?_))))))
        refine blk_r (then_r (then_r ?_))
        obtain rfl := Option.some.inj h
        exact f_ret S Tryd.results36 rfl rfl
       ·replace h := iteF h hb12
        refine wp_skip (blk_n (blk_n (then_n (f_region (lv S (rn_add (S.tm rfl) rfl) rfl ?_))))); clear S; intro a S
        refine lv S (rn_move (S.tm rfl)) rfl ?_; clear S; intro a S
        refine l_done (then_n ?_)
        exact ⟨ys1, ⟨i1 + 1, ⟨_, (hd1).trans (List.append_cons _ _ _), by simp [hi1]⟩, h, S.nf [] rfl ⟨rfl, rfl, rfl, (congrArg (fun z => some (Value.int .i64 z)) (rng_next hd1 hi1 (slc_max hs_p_l))), trivial⟩⟩, Nat.lt_succ_self _⟩
  clear S h; rintro a w2 ⟨h, S⟩; rw [hj1] at h; clear hj1 j1
  refine then_n (f_seq (f_region (lv S (rn_assign rfl) rfl ?_))); clear S; intro a S
  refine l_done (then_n (wp_ret ?_))
  obtain rfl := Option.some.inj h
  exact f_ret S Tryd.results36 rfl rfl
theorem swimmer_checkClub_ok (w : World) (v_p_l : Value) (p_l : List GMove) (hs_p_l : Slc (view w []) 3 v_p_l (p_l.map GMove.enc)) (p_key : ByteArray) (p_day : Int) (r : Int) (h : swimmer_checkClub p_l p_key p_day = some r) :
    Calls Tryd.prog 22 [v_p_l, sV p_key, iV p_day].toArray w (Ret w [] fun _ v _ => v = iV r) := by
 refine f_enter [] [] Tryd.func22 rfl Tryd.ntmps22 rfl (by simp) (by simp [fps]) (by simp [fps]) fun a S => ?_
 unfold swimmer_checkClub at h
 replace S := S.nk [] [(0, v_p_l), (1, sV p_key), (2, iV p_day)] [] rfl (subR rfl)
 refine f_seq (f_region (lv S (rn_assign rfl) rfl ?_)); clear S; intro a S
 refine l_done (then_n (f_seq (f_seq (f_region (lv S (rn_move (S.tm rfl)) rfl ?_))))); clear S; intro a S
 obtain ⟨r1, hr1, h⟩ := bindE h
 refine l_enter S (fun _ => run_call (vs := [v_p_l]) ⟨(S.tm rfl), trivial⟩ Tryd.call36) (swimmer_CheckMoves_ok _ v_p_l p_l (hs_p_l.mono (S.le_arg nil_sub)) _ hr1) rfl ?_; clear S; intro v1 a w1 hv1 hk1 hn1 S
 subst hv1
 refine lv S (rn_assign (S.tm rfl)) rfl ?_; clear S; intro a S
 refine l_done (then_n (f_seq (f_region (lv S (rn_move (S.tm rfl)) rfl ?_)))); clear S; intro a S
 refine lv S (rn_neq (S.tm rfl) rfl) rfl ?_; clear S; intro a S
 refine l_done (then_n (f_cond (S.tm rfl) (fun hb1 => ?_) (fun hb1 => ?_)))
 ·replace h := iteT h hb1
  refine f_seq (f_region (lv S (rn_move (S.tm rfl)) rfl ?_)); clear S; intro a S
  refine lv S (rn_assign (S.tm rfl)) rfl ?_; clear S; intro a S
  refine l_done (then_n (wp_ret (then_r ?_)))
  obtain rfl := Option.some.inj h
  exact f_ret S Tryd.results22 rfl rfl
 ·replace h := iteF h hb1
  refine wp_skip (then_n (f_seq (f_seq (f_region (lv S (rn_move (S.tm rfl)) rfl ?_))))); clear S; intro a S
  obtain ⟨r2, hr2, h⟩ := bindE h
  refine l_enter S (fun _ => run_call (vs := [sV p_key]) ⟨(S.tm rfl), trivial⟩ Tryd.call25) (words_IsKey_ok _ p_key _ hr2) rfl ?_; clear S; intro v2 a w2 hv2 hk2 hn2 S
  subst hv2
  refine lv S (rn_not (S.tm rfl)) rfl ?_; clear S; intro a S
  refine l_done (then_n (f_cond (S.tm rfl) (fun hb2 => ?_) (fun hb2 => ?_)))
  ·replace h := iteT h hb2
   refine f_seq (f_region (lv S (rn_assign rfl) rfl ?_)); clear S; intro a S
   refine l_done (then_n (wp_ret (then_r ?_)))
   obtain rfl := Option.some.inj h
   exact f_ret S Tryd.results22 rfl rfl
  ·replace h := iteF h hb2
   refine wp_skip (then_n (f_seq (f_seq (f_region (lv S (rn_move (S.tm rfl)) rfl ?_))))); clear S; intro a S
   refine l_enter S (fun _ => run_call (vs := [iV p_day]) ⟨(S.tm rfl), trivial⟩ Tryd.call37) (swimmer_isDay_ok _ p_day _ rfl) rfl ?_; clear S; intro v3 a w3 hv3 hk3 hn3 S
   subst hv3
   refine lv S (rn_not (S.tm rfl)) rfl ?_; clear S; intro a S
   refine l_done ?_
   replace S := S.nk [] [(18, bV (!(swimmer_isDay p_day)))] [] rfl ⟨rfl, trivial⟩
   refine then_n (f_cond (S.tm rfl) (fun hb3 => ?_) (fun hb3 => ?_))
   ·replace h := iteT h hb3
    refine f_seq (f_region (lv S (rn_assign rfl) rfl ?_)); clear S; intro a S
    refine l_done (then_n (wp_ret (then_r ?_)))
    obtain rfl := Option.some.inj h
    exact f_ret S Tryd.results22 rfl rfl
   ·replace h := iteF h hb3
    refine wp_skip (then_n (f_seq (f_region (lv S (rn_assign rfl) rfl ?_)))); clear S; intro a S
    refine l_done (then_n (wp_ret ?_))
    obtain rfl := Option.some.inj h
    exact f_ret S Tryd.results22 rfl rfl
theorem swimmer_clubAt_ok (w : World) (v_p_l : Value) (p_l : List GMove) (hs_p_l : Slc (view w []) 3 v_p_l (p_l.map GMove.enc)) (p_who : ByteArray) (p_day : Int) (r : ByteArray) (h : swimmer_clubAt p_l p_who p_day = r) :
    Calls Tryd.prog 23 [v_p_l, sV p_who, iV p_day].toArray w (Ret w [] fun _ v _ => v = sV r) := by
 refine f_enter [] [] Tryd.func23 rfl Tryd.ntmps23 rfl (by simp) (by simp [fps]) (by simp [fps]) fun a S => ?_
 unfold swimmer_clubAt at h
 replace S := S.nk [] [(0, v_p_l), (1, sV p_who), (2, iV p_day)] [] rfl (subR rfl)
 refine f_seq (f_region (lv S (rn_assign rfl) rfl ?_)); clear S; intro a S
 refine l_done (then_n (f_seq (f_region (lv S (rn_assign rfl) rfl ?_)))); clear S; intro a S
 refine l_done (then_n (f_seq (f_seq (f_region (lv S (rn_move (S.tm rfl)) rfl ?_))))); clear S; intro a S
 refine lv S (rn_lenT sl_26 (S.tm rfl) (slc_len hs_p_l)) rfl ?_; clear S; intro a S
 refine lv S (rn_move rfl) rfl ?_; clear S; intro a S
 refine l_done (then_n ?_)
 replace S := S.nk [] [(1, sV p_who), (2, iV p_day), (7, sV k_empty), (10, v_p_l), (11, iV (p_l.length : Int)), (12, iV 0)] [] rfl (subR rfl)
 obtain ⟨j1, hj1, h⟩ := joinE h
 refine f_join (fun a w' => ∃ x1 : ByteArray, j1 x1 = r ∧ Sx w [] nov [] [(7, sV x1)] 30 a w') ?_ ?_
 ·refine wp_block (f_loop (fun (ys1 : List GMove) a w' => ∃ i1 : Nat, ∃ x1 : ByteArray, (∃ dn, p_l = dn ++ ys1 ∧ dn.length = i1) ∧ swimmer_clubAt_l1 p_who p_day j1 ys1 i1 x1 = r ∧ Sx w [] nov [] [(1, sV p_who), (2, iV p_day), (7, sV x1), (10, v_p_l), (11, iV (p_l.length : Int)), (12, iV (i1 : Int))] 30 a w') List.length p_l ⟨0, k_empty, ⟨[], rfl, rfl⟩, h, S.nf [] rfl (subR rfl)⟩ ?_)
  clear S h; rintro ys1 a w1 ⟨i1, x1, ⟨dn, hd1, hi1⟩, h, S⟩
  cases ys1 with
  | nil =>
   rw [swimmer_clubAt_l1.eq_1] at h
   refine f_seq (f_region (lv S (rn_lss (S.tm rfl) (S.tm rfl)) rfl ?_)); clear S; intro a S
   refine l_done ?_
   replace S := S.nk [] [(1, sV p_who), (2, iV p_day), (7, sV x1), (10, v_p_l), (11, iV (p_l.length : Int)), (12, iV (i1 : Int)), (13, bV (decide ((i1 : Int) < (p_l.length : Int))))] [] rfl (subR rfl)
   refine then_n (f_seq (wp_cond_false ((S.tm rfl).trans (congrArg Value.bool (rng_nil hd1 hi1))) (wp_exit (then_x (then_x (x_same ?_))))))
   refine then_n ?_
   exact ⟨x1, h, S.nf [] rfl ⟨rfl, trivial⟩⟩
  | cons y1 ys1 =>
   rw [swimmer_clubAt_l1.eq_2] at h
   refine f_seq (f_region (lv S (rn_lss (S.tm rfl) (S.tm rfl)) rfl ?_)); clear S; intro a S
   refine l_done ?_
   replace S := S.nk [] [(1, sV p_who), (2, iV p_day), (7, sV x1), (10, v_p_l), (11, iV (p_l.length : Int)), (12, iV (i1 : Int)), (13, bV (decide ((i1 : Int) < (p_l.length : Int))))] [] rfl (subR rfl)
   refine then_n (f_seq (wp_cond_true ((S.tm rfl).trans (congrArg Value.bool (rng_cons hd1 hi1))) (wp_skip (then_n (f_seq ?_)))))
   obtain ⟨j2, hj2, h⟩ := joinE h
   refine f_join (fun a w' => ∃ x2 : ByteArray, j2 x2 = r ∧ Sx w [] nov [] [(1, sV p_who), (2, iV p_day), (7, sV x2), (10, v_p_l), (11, iV (p_l.length : Int)), (12, iV (i1 : Int))] 30 a w') ?_ ?_
   ·refine wp_block (f_seq (f_region ?_))
    obtain ⟨b1, o1, hm1, hr1⟩ := rn_indexT (a := a) (x := .tmp 10) (y := .tmp 12) (ty := 0) sl_26 hs_p_l (get_mid hd1 hi1) rfl (S.tm rfl) (S.tm rfl)
    refine lv S (hr1 _) rfl ?_; clear S; intro a S
    clear hr1
    refine lv S (rn_ldA Tryd.isAgg45 Tryd.sizeOf45 (off := o1) (o := 0) (part := (GMove.enc y1)) rfl rfl (S.tm rfl) (hm1.at S.emb0)) rfl ?_; clear S; intro a S
    refine l_alloc S Tryd.zeroValue45 (cs := [sV k_empty, sV k_empty, iV 0]) rfl rfl ?_; clear S; intro a w4 b2 hz1 hk1 S
    refine l_store S (S.tm rfl) (S.tm rfl) (i := 0) (off := 0) rfl Tryd.sizeOf45 (vs := (GMove.enc y1)) rfl rfl rfl rfl ?_; clear S; intro w5 hk2 S
    refine l_done (then_n (f_seq (f_region (lv S (rn_fld fa_45_0 (S.tm rfl)) rfl ?_)))); clear S; intro a S
    refine lv S (rn_load Tryd.isAgg9 (S.tm rfl) (S.cell (i := 0) rfl rfl)) rfl ?_; clear S; intro a S
    refine lv S (rn_move (S.tm rfl)) rfl ?_; clear S; intro a S
    refine lv S (rn_seql (S.tm rfl) (S.tm rfl)) rfl ?_; clear S; intro a S
    refine lv S (rn_move (S.tm rfl)) rfl ?_; clear S; intro a S
    refine f_cutm 5 (fun a w' => Keep [] w5 w' ∧ Sx w [] nov [.blk b2 (GMove.enc y1) 45] [(1, sV p_who), (2, iV p_day), (7, sV x1), (9, .pointer (some ⟨b2, 0, none⟩)), (10, v_p_l), (11, iV (p_l.length : Int)), (12, iV (i1 : Int)), (25, bV ((decide (y1.Who = p_who)) && (decide (y1.Day ≤ p_day))))] 30 a w') ?_ ?_
    ·rcases Bool.eq_false_or_eq_true (decide (y1.Who = p_who)) with hb1 | hb1
     ·refine l_want S rfl rfl rfl hb1 (lv S (rn_fld fa_45_2 (S.tm rfl)) rfl ?_); clear S; intro a S
      refine l_want S rfl rfl rfl hb1 (lv S (rn_load Tryd.isAgg3 (S.tm rfl) (S.cell (i := 0) rfl rfl)) rfl ?_); clear S; intro a S
      refine l_want S rfl rfl rfl hb1 (lv S (rn_move (S.tm rfl)) rfl ?_); clear S; intro a S
      refine l_want S rfl rfl rfl hb1 (lv S (rn_leq (S.tm rfl) (S.tm rfl)) rfl ?_); clear S; intro a S
      refine lv S (rn_and_t hb1 (S.tm rfl) (S.tm rfl)) rfl ?_; clear S; intro a S
      refine l_done (then_n ?_)
      exact ⟨Keep.refl _ _, S.nf [true] rfl (subR rfl)⟩
     ·iterate 4 (refine l_skip S rfl rfl rfl (neq_f hb1) rfl ?_ rfl; clear S; intro a S)
      refine lv S (rn_and_f (decide (y1.Day ≤ p_day)) hb1 (S.tm rfl) rfl) rfl ?_; clear S; intro a S
      refine l_done (then_n ?_)
      exact ⟨Keep.refl _ _, S.nf [true] rfl (subR rfl)⟩
    clear S; rintro a w6 ⟨hk3, S⟩
    refine l_done (then_n ?_)
    obtain ⟨j3, hj3, h⟩ := joinE h
    refine f_join (fun a w' => ∃ x3 : ByteArray, j3 x3 = r ∧ Sx w [] nov [.blk b2 (GMove.enc y1) 45] [(1, sV p_who), (2, iV p_day), (7, sV x3), (10, v_p_l), (11, iV (p_l.length : Int)), (12, iV (i1 : Int))] 30 a w') ?_ ?_
    ·refine f_cond (S.tm rfl) (fun hb2 => ?_) (fun hb2 => ?_)
     ·replace h := iteT h hb2
      refine f_region (lv S (rn_fld fa_45_1 (S.tm rfl)) rfl ?_); clear S; intro a S
      refine lv S (rn_load Tryd.isAgg9 (S.tm rfl) (S.cell (i := 0) rfl rfl)) rfl ?_; clear S; intro a S
      refine lv S (rn_assign (S.tm rfl)) rfl ?_; clear S; intro a S
      refine l_done (then_n ?_)
      exact ⟨y1.Club, h, S.nf [true] rfl (subR rfl)⟩
     ·replace h := iteF h hb2
      refine wp_skip (then_n ?_)
      exact ⟨x1, h, S.nf [true] rfl (subR rfl)⟩
    clear S h; rintro a w7 ⟨x3, h, S⟩; rw [hj3] at h; clear hj3 j3
    refine blk_n (then_n ?_)
    exact ⟨x3, h, S.nf [false] rfl (subR rfl)⟩
   clear S h; rintro a w3 ⟨x2, h, S⟩; rw [hj2] at h; clear hj2 j2
   refine then_n (f_region (lv S (rn_add (S.tm rfl) rfl) rfl ?_)); clear S; intro a S
   refine lv S (rn_move (S.tm rfl)) rfl ?_; clear S; intro a S
   refine l_done (then_n ?_)
   exact ⟨ys1, ⟨i1 + 1, x2, ⟨_, (hd1).trans (List.append_cons _ _ _), by simp [hi1]⟩, h, S.nf [] rfl ⟨rfl, rfl, rfl, rfl, rfl, (congrArg (fun z => some (Value.int .i64 z)) (rng_next hd1 hi1 (slc_max hs_p_l))), trivial⟩⟩, Nat.lt_succ_self _⟩
 clear S h; rintro a w2 ⟨x1, h, S⟩; rw [hj1] at h; clear hj1 j1
 refine then_n (f_seq (f_region (lv S (rn_move (S.tm rfl)) rfl ?_))); clear S; intro a S
 refine lv S (rn_assign (S.tm rfl)) rfl ?_; clear S; intro a S
 refine l_done (then_n (wp_ret ?_))
 subst h
 exact f_ret S Tryd.results23 rfl rfl
set_option maxRecDepth 20000 in
theorem swimmer_Members_ok (w : World) (v_p_l : Value) (p_l : List GMove) (hs_p_l : Slc (view w []) 3 v_p_l (p_l.map GMove.enc)) (p_club : ByteArray) (p_day : Int) (r : (List ByteArray) × Int) (h : swimmer_Members p_l p_club p_day = some r) :
    Calls Tryd.prog 7 [v_p_l, sV p_club, iV p_day].toArray w (Ret w [] fun τ v _ => ∃ u1 : Value, v = .tuple #[u1, iV r.2] ∧ OwnV τ 9 1 u1 r.1.length (r.1.flatMap eStr)) := by
 refine f_enter [] [] Tryd.func7 rfl Tryd.ntmps7 rfl (by simp) (by simp [fps]) (by simp [fps]) fun a S => ?_
 unfold swimmer_Members at h
 replace S := S.nk [] [(0, v_p_l), (1, sV p_club), (2, iV p_day)] [] rfl (subR rfl)
 refine f_seq (f_region (lv S (rn_assign rfl) rfl ?_)); clear S; intro a S
 refine lv S (rn_assign rfl) rfl ?_; clear S; intro a S
 refine l_done (then_n (f_seq (f_seq (f_region (lv S (rn_move (S.tm rfl)) rfl ?_))))); clear S; intro a S
 refine lv S (rn_move (S.tm rfl)) rfl ?_; clear S; intro a S
 refine lv S (rn_move (S.tm rfl)) rfl ?_; clear S; intro a S
 obtain ⟨r1, hr1, h⟩ := bindE h
 refine l_enter S (fun _ => run_call (vs := [v_p_l, sV p_club, iV p_day]) ⟨(S.tm rfl), (S.tm rfl), (S.tm rfl), trivial⟩ Tryd.call22) (swimmer_checkClub_ok _ v_p_l p_l (hs_p_l.mono (S.le_arg nil_sub)) p_club p_day _ hr1) rfl ?_; clear S; intro v1 a w1 hv1 hk1 hn1 S
 subst hv1
 refine lv S (rn_assign (S.tm rfl)) rfl ?_; clear S; intro a S
 refine l_done (then_n (f_seq (f_region (lv S (rn_move (S.tm rfl)) rfl ?_)))); clear S; intro a S
 refine lv S (rn_neq (S.tm rfl) rfl) rfl ?_; clear S; intro a S
 refine l_done (then_n (f_cond (S.tm rfl) (fun hb1 => ?_) (fun hb1 => ?_)))
 ·replace h := iteT h hb1
  refine f_seq (f_region (lv S (rn_move (S.tm rfl)) rfl ?_)); clear S; intro a S
  refine lv S (rn_assign rfl) rfl ?_; clear S; intro a S
  refine lv S (rn_assign (S.tm rfl)) rfl ?_; clear S; intro a S
  refine l_done (then_n (wp_ret (then_r ?_)))
  obtain rfl := Option.some.inj h
  exact f_ret2 S Tryd.results7 rfl rfl ⟨_, rfl, (ownV_nil _ _ _)⟩
 ·replace h := iteF h hb1
  refine wp_skip (then_n (f_seq (f_region (lv S (rn_assign rfl) rfl ?_)))); clear S; intro a S
  replace S := S.nil 9 1
  refine l_done (then_n (f_seq (f_seq (f_region (lv S (rn_move (S.tm rfl)) rfl ?_))))); clear S; intro a S
  refine lv S (rn_lenT sl_26 (S.tm rfl) (slc_len hs_p_l)) rfl ?_; clear S; intro a S
  refine lv S (rn_move rfl) rfl ?_; clear S; intro a S
  refine l_done ?_
  replace S := S.nk [.own (.slice none 0 0) 9 1 ([] : List ByteArray).length (([] : List ByteArray).flatMap eStr)] [(0, v_p_l), (1, sV p_club), (2, iV p_day), (9, (.slice none 0 0)), (19, v_p_l), (20, iV (p_l.length : Int)), (21, iV 0)] [true] rfl (subR rfl)
  refine then_n ?_
  obtain ⟨j1, hj1, h⟩ := joinE h
  refine f_join (fun a w' => ∃ x1 : List ByteArray, ∃ v2 : Value, j1 x1 = some r ∧ Sx w [] nov [.own v2 9 1 x1.length (x1.flatMap eStr)] [(9, v2)] 55 a w') ?_ ?_
  ·refine wp_block (f_loop (fun (ys1 : List GMove) a w' => ∃ i1 : Nat, ∃ x1 : List ByteArray, ∃ v2 : Value, (∃ dn, p_l = dn ++ ys1 ∧ dn.length = i1) ∧ swimmer_Members_l1 p_l p_day p_club j1 ys1 i1 x1 = some r ∧ Sx w [] nov [.own v2 9 1 x1.length (x1.flatMap eStr)] [(0, v_p_l), (1, sV p_club), (2, iV p_day), (9, v2), (19, v_p_l), (20, iV (p_l.length : Int)), (21, iV (i1 : Int))] 55 a w') List.length p_l ⟨0, ([] : List ByteArray), (.slice none 0 0), ⟨[], rfl, rfl⟩, h, S.nf [true] rfl (subR rfl)⟩ ?_)
   clear S h; rintro ys1 a w2 ⟨i1, x1, v2, ⟨dn, hd1, hi1⟩, h, S⟩
   cases ys1 with
   | nil =>
    rw [swimmer_Members_l1.eq_1] at h
    refine f_seq (f_region (lv S (rn_lss (S.tm rfl) (S.tm rfl)) rfl ?_)); clear S; intro a S
    refine l_done ?_
    replace S := S.nk [.own v2 9 1 x1.length (x1.flatMap eStr)] [(0, v_p_l), (1, sV p_club), (2, iV p_day), (9, v2), (19, v_p_l), (20, iV (p_l.length : Int)), (21, iV (i1 : Int)), (22, bV (decide ((i1 : Int) < (p_l.length : Int))))] [true] rfl (subR rfl)
    refine then_n (f_seq (wp_cond_false ((S.tm rfl).trans (congrArg Value.bool (rng_nil hd1 hi1))) (wp_exit (then_x (then_x (x_same ?_))))))
    refine then_n ?_
    exact ⟨x1, v2, h, S.nf [true] rfl ⟨rfl, trivial⟩⟩
   | cons y1 ys1 =>
    rw [swimmer_Members_l1.eq_2] at h
    refine f_seq (f_region (lv S (rn_lss (S.tm rfl) (S.tm rfl)) rfl ?_)); clear S; intro a S
    refine l_done ?_
    replace S := S.nk [.own v2 9 1 x1.length (x1.flatMap eStr)] [(0, v_p_l), (1, sV p_club), (2, iV p_day), (9, v2), (19, v_p_l), (20, iV (p_l.length : Int)), (21, iV (i1 : Int)), (22, bV (decide ((i1 : Int) < (p_l.length : Int))))] [true] rfl (subR rfl)
    refine then_n (f_seq (wp_cond_true ((S.tm rfl).trans (congrArg Value.bool (rng_cons hd1 hi1))) (wp_skip (then_n (f_seq ?_)))))
    obtain ⟨j2, hj2, h⟩ := joinE h
    refine f_join (fun a w' => ∃ x2 : List ByteArray, ∃ v3 : Value, j2 x2 = some r ∧ Sx w [] nov [.own v3 9 1 x2.length (x2.flatMap eStr)] [(0, v_p_l), (1, sV p_club), (2, iV p_day), (9, v3), (19, v_p_l), (20, iV (p_l.length : Int)), (21, iV (i1 : Int))] 55 a w') ?_ ?_
    ·refine wp_block (f_seq (f_region (lv S (rn_move (S.tm rfl)) rfl ?_))); clear S; intro a S
     obtain ⟨b1, o1, hm1, hr2⟩ := rn_indexT (a := a) (x := .tmp 19) (y := .tmp 21) (ty := 0) sl_26 hs_p_l (get_mid hd1 hi1) rfl (S.tm rfl) (S.tm rfl)
     refine lv S (hr2 _) rfl ?_; clear S; intro a S
     clear hr2
     refine lv S (rn_ldA Tryd.isAgg45 Tryd.sizeOf45 (off := o1) (o := 0) (part := (GMove.enc y1)) rfl rfl (S.tm rfl) (hm1.at S.emb0)) rfl ?_; clear S; intro a S
     refine l_alloc S Tryd.zeroValue45 (cs := [sV k_empty, sV k_empty, iV 0]) rfl rfl ?_; clear S; intro a w5 b2 hz1 hk2 S
     refine lv S (rn_assign (S.tm rfl)) rfl ?_; clear S; intro a S
     refine l_store S (S.tm rfl) (S.tm rfl) (i := 0) (off := 0) rfl Tryd.sizeOf45 (vs := (GMove.enc y1)) rfl rfl rfl rfl ?_; clear S; intro w6 hk3 S
     refine l_done (then_n (f_seq ?_))
     obtain ⟨j3, hj3, h⟩ := joinE h
     refine f_join (fun a w' => ∃ x3 : Bool, j3 x3 = some r ∧ Sx w [] nov [.blk b2 (GMove.enc y1) 45, .own v2 9 1 x1.length (x1.flatMap eStr)] [(0, v_p_l), (1, sV p_club), (2, iV p_day), (9, v2), (11, .pointer (some ⟨b2, 0, none⟩)), (19, v_p_l), (20, iV (p_l.length : Int)), (21, iV (i1 : Int)), (47, bV x3)] 55 a w') ?_ ?_
     ·rcases Bool.eq_false_or_eq_true (decide ((i1 : Int) = 0)) with hb2 | hb2
      ·replace h := iteT h hb2
       rcases Bool.eq_false_or_eq_true true with hb3 | hb3
       ·replace h := iteT h hb3
        refine d_region [] ([]) Tryd.mixed S rfl (by kernel_rfl) ?_; clear S; intro w9 hk5 hsel S
        refine d_quiet 0 S hsel rfl rfl rfl (by kernel_rfl) (by kernel_rfl) rfl (fun _ hw => (rn_move (S.tm rfl))) ?_; clear S; intro a S
        refine d_quiet 1 S hsel rfl rfl rfl (by kernel_rfl) (by kernel_rfl) rfl (fun _ hw => (rn_eql (S.tm rfl) rfl)) ?_; clear S; intro a S
        refine d_quiet 2 S hsel rfl rfl rfl (by kernel_rfl) (by kernel_rfl) rfl (fun _ hw => (rn_move (S.tm rfl))) ?_; clear S; intro a S
        refine d_skip 3 S hsel rfl rfl rfl rfl (neq_t hb2) rfl (by kernel_rfl) (by kernel_rfl) rfl ?_; clear S; intro a S
        refine d_skip 4 S hsel rfl rfl rfl rfl (neq_t hb2) rfl (by kernel_rfl) (by kernel_rfl) rfl ?_; clear S; intro a S
        refine d_skip 5 S hsel rfl rfl rfl rfl (neq_t hb2) rfl (by kernel_rfl) (by kernel_rfl) rfl ?_; clear S; intro a S
        refine d_skip 6 S hsel rfl rfl rfl rfl (neq_t hb2) rfl (by kernel_rfl) (by kernel_rfl) rfl ?_; clear S; intro a S
        refine d_skip 7 S hsel rfl rfl rfl rfl (neq_t hb2) rfl (by kernel_rfl) (by kernel_rfl) rfl ?_; clear S; intro a S
        refine d_skip 8 S hsel rfl rfl rfl rfl (neq_t hb2) rfl (by kernel_rfl) (by kernel_rfl) rfl ?_; clear S; intro a S
        refine d_skip 9 S hsel rfl rfl rfl rfl (neq_t hb2) rfl (by kernel_rfl) (by kernel_rfl) rfl ?_; clear S; intro a S
        refine d_skip 10 S hsel rfl rfl rfl rfl (neq_t hb2) rfl (by kernel_rfl) (by kernel_rfl) rfl ?_; clear S; intro a S
        refine d_skip 11 S hsel rfl rfl rfl rfl (neq_t hb2) rfl (by kernel_rfl) (by kernel_rfl) rfl ?_; clear S; intro a S
        refine d_quiet 12 S hsel rfl rfl rfl (by kernel_rfl) (by kernel_rfl) rfl (fun _ hw => (rn_pick_b hb2 (S.tm rfl) rfl)) ?_; clear S; intro a S
        refine d_quiet 13 S hsel rfl rfl rfl (by kernel_rfl) (by kernel_rfl) rfl (fun _ hw => (rn_move (S.tm rfl))) ?_; clear S; intro a S
        refine d_quiet_g 14 S hsel rfl rfl rfl rfl hb3 rfl rfl (by kernel_rfl) (by kernel_rfl) rfl (fun _ hw => (rn_move (S.tm rfl))) ?_; clear S; intro a S
        refine d_quiet_g 15 S hsel rfl rfl rfl rfl hb3 rfl rfl (by kernel_rfl) (by kernel_rfl) rfl (fun _ hw => (rn_fld fa_45_0 (S.tm rfl))) ?_; clear S; intro a S
        refine d_quiet_g 16 S hsel rfl rfl rfl rfl hb3 rfl rfl (by kernel_rfl) (by kernel_rfl) rfl (fun _ hw => (rn_ld Tryd.isAgg9 (off := 0) (o := 0) (S.tm rfl) ((S.blk_mem (i := 0) (cells := (GMove.enc y1)) (b := b2) (T := 45) rfl (ne_nil (e' := .blk b2 (GMove.enc y1) 45))).kept hw) rfl)) ?_; clear S; intro a S
        refine d_quiet_g 17 S hsel rfl rfl rfl rfl hb3 rfl rfl (by kernel_rfl) (by kernel_rfl) rfl (fun _ hw => (rn_move (S.tm rfl))) ?_; clear S; intro a S
        refine d_quiet_g 19 S hsel rfl rfl rfl rfl hb3 rfl rfl (by kernel_rfl) (by kernel_rfl) rfl (fun _ hw => (rn_move (S.tm rfl))) ?_; clear S; intro a S
        refine d_loud1 18 (by kernel_rfl) rfl (l_want S rfl rfl rfl hb3 (l_enter S (fun _ => run_call (vs := [v_p_l, sV y1.Who, iV p_day]) ⟨(S.tm rfl), (S.tm rfl), (S.tm rfl), trivial⟩ Tryd.call23) (swimmer_clubAt_ok _ v_p_l p_l (hs_p_l.mono (S.le_arg nil_sub)) y1.Who p_day _ rfl) rfl ?_)); clear S; intro v5 a w10 hv3 hk6 hn3 S
        subst hv3
        refine l_done (d_next hk6 (d_rest [20, 21] hsel (by kernel_rfl) rfl ?_))
        clear hsel
        refine s_want S rfl rfl rfl rfl hb3 (s_lv0 S (rn_seql (S.tm rfl) (S.tm rfl)) rfl ?_); clear S; intro a S
        refine s_lv S rfl (rn_pick_b hb3 (S.tm rfl) (S.tm rfl)) rfl ?_; clear S; intro a S
        refine s_done ?_
        replace S := S.nk [.blk b2 (GMove.enc y1) 45, .own v2 9 1 x1.length (x1.flatMap eStr)] [(0, v_p_l), (1, sV p_club), (2, iV p_day), (9, v2), (11, .pointer (some ⟨b2, 0, none⟩)), (19, v_p_l), (20, iV (p_l.length : Int)), (21, iV (i1 : Int)), (40, v_p_l), (41, .pointer (some ⟨b2, 0, none⟩)), (42, sV y1.Who), (43, iV p_day), (44, sV (swimmer_clubAt p_l y1.Who p_day)), (45, sV p_club), (46, bV (decide ((swimmer_clubAt p_l y1.Who p_day) = p_club))), (47, bV (decide ((swimmer_clubAt p_l y1.Who p_day) = p_club)))] [true, true] rfl (subR rfl)
        refine then_n ?_
        exact ⟨decide ((swimmer_clubAt p_l y1.Who p_day) = p_club), h, S.nf [true, true] rfl (subR rfl)⟩
       ·replace h := iteF h hb3
        refine d_region [] ([]) Tryd.mixed S rfl (by kernel_rfl) ?_; clear S; intro w11 hk7 hsel S
        refine d_rest [0, 1, 2, 3, 4, 5, 6, 7, 8, 9, 10, 11, 12, 13, 14, 15, 16, 17, 18, 19, 20, 21] hsel (by kernel_rfl) rfl ?_
        clear hsel
        refine s_lv S rfl (rn_move (S.tm rfl)) rfl ?_; clear S; intro a S
        refine s_lv S rfl (rn_eql (S.tm rfl) rfl) rfl ?_; clear S; intro a S
        refine s_lv S rfl (rn_move (S.tm rfl)) rfl ?_; clear S; intro a S
        iterate 9 (refine s_skip S rfl rfl rfl rfl (neq_t hb2) rfl ?_ rfl; clear S; intro a S)
        refine s_lv S rfl (rn_pick_b hb2 (S.tm rfl) rfl) rfl ?_; clear S; intro a S
        refine s_lv S rfl (rn_move (S.tm rfl)) rfl ?_; clear S; intro a S
        iterate 7 (refine s_skip S rfl rfl rfl rfl (neq_f hb3) rfl ?_ rfl; clear S; intro a S)
        refine s_lv S rfl (rn_pick_c hb3 (S.tm rfl) rfl) rfl ?_; clear S; intro a S
        refine s_done ?_
        replace S := S.nk [.blk b2 (GMove.enc y1) 45, .own v2 9 1 x1.length (x1.flatMap eStr)] [(0, v_p_l), (1, sV p_club), (2, iV p_day), (9, v2), (11, .pointer (some ⟨b2, 0, none⟩)), (19, v_p_l), (20, iV (p_l.length : Int)), (21, iV (i1 : Int)), (47, bV false)] [true, true] rfl (subR rfl)
        refine then_n ?_
        exact ⟨false, h, S.nf [true, true] rfl (subR rfl)⟩
      ·replace h := iteF h hb2
       obtain ⟨hc1, h⟩ := chkE h
       rcases Bool.eq_false_or_eq_true (!decide (((nth p_l (W ((i1 : Int) - 1))).Who) = y1.Who)) with hb4 | hb4
       ·replace h := iteT h hb4
        refine d_region [] ([]) Tryd.mixed S rfl (by kernel_rfl) ?_; clear S; intro w13 hk9 hsel S
        refine d_quiet 0 S hsel rfl rfl rfl (by kernel_rfl) (by kernel_rfl) rfl (fun _ hw => (rn_move (S.tm rfl))) ?_; clear S; intro a S
        refine d_quiet 1 S hsel rfl rfl rfl (by kernel_rfl) (by kernel_rfl) rfl (fun _ hw => (rn_eql (S.tm rfl) rfl)) ?_; clear S; intro a S
        refine d_quiet 2 S hsel rfl rfl rfl (by kernel_rfl) (by kernel_rfl) rfl (fun _ hw => (rn_move (S.tm rfl))) ?_; clear S; intro a S
        refine d_quiet_g 3 S hsel rfl rfl rfl rfl hb2 rfl rfl (by kernel_rfl) (by kernel_rfl) rfl (fun _ hw => (rn_move (S.tm rfl))) ?_; clear S; intro a S
        refine d_quiet_g 4 S hsel rfl rfl rfl rfl hb2 rfl rfl (by kernel_rfl) (by kernel_rfl) rfl (fun _ hw => (rn_move (S.tm rfl))) ?_; clear S; intro a S
        refine d_quiet_g 5 S hsel rfl rfl rfl rfl hb2 rfl rfl (by kernel_rfl) (by kernel_rfl) rfl (fun _ hw => (rn_sub (S.tm rfl) rfl)) ?_; clear S; intro a S
        obtain ⟨b5, o4, hm4, hr5⟩ := rn_indexT (a := a) (x := .tmp 29) (y := .tmp 31) (ty := 0) sl_26 (hs_p_l.mono (S.le_arg nil_sub)) (inB_get hc1).1 (inB_get hc1).2 (S.tm rfl) (S.tm rfl)
        refine d_quiet_g 6 S hsel rfl rfl rfl rfl hb2 rfl rfl (by kernel_rfl) (by kernel_rfl) rfl (fun _ hw => hr5 _) ?_; clear S; intro a S
        clear hr5
        refine d_quiet_g 7 S hsel rfl rfl rfl rfl hb2 rfl rfl (by kernel_rfl) (by kernel_rfl) rfl (fun _ hw => (rn_fld fa_45_0 (S.tm rfl))) ?_; clear S; intro a S
        refine d_quiet_g 8 S hsel rfl rfl rfl rfl hb2 rfl rfl (by kernel_rfl) (by kernel_rfl) rfl (fun _ hw => (rn_ld Tryd.isAgg9 (off := o4) (o := 0) (S.tm rfl) (hm4.kept hw) rfl)) ?_; clear S; intro a S
        refine d_quiet_g 9 S hsel rfl rfl rfl rfl hb2 rfl rfl (by kernel_rfl) (by kernel_rfl) rfl (fun _ hw => (rn_fld fa_45_0 (S.tm rfl))) ?_; clear S; intro a S
        refine d_quiet_g 10 S hsel rfl rfl rfl rfl hb2 rfl rfl (by kernel_rfl) (by kernel_rfl) rfl (fun _ hw => (rn_ld Tryd.isAgg9 (off := 0) (o := 0) (S.tm rfl) ((S.blk_mem (i := 0) (cells := (GMove.enc y1)) (b := b2) (T := 45) rfl (ne_nil (e' := .blk b2 (GMove.enc y1) 45))).kept hw) rfl)) ?_; clear S; intro a S
        refine d_quiet_g 11 S hsel rfl rfl rfl rfl hb2 rfl rfl (by kernel_rfl) (by kernel_rfl) rfl (fun _ hw => (rn_sneq (S.tm rfl) (S.tm rfl))) ?_; clear S; intro a S
        refine d_quiet 12 S hsel rfl rfl rfl (by kernel_rfl) (by kernel_rfl) rfl (fun _ hw => (rn_pick_c hb2 (S.tm rfl) (S.tm rfl))) ?_; clear S; intro a S
        refine d_quiet 13 S hsel rfl rfl rfl (by kernel_rfl) (by kernel_rfl) rfl (fun _ hw => (rn_move (S.tm rfl))) ?_; clear S; intro a S
        refine d_quiet_g 14 S hsel rfl rfl rfl rfl hb4 rfl rfl (by kernel_rfl) (by kernel_rfl) rfl (fun _ hw => (rn_move (S.tm rfl))) ?_; clear S; intro a S
        refine d_quiet_g 15 S hsel rfl rfl rfl rfl hb4 rfl rfl (by kernel_rfl) (by kernel_rfl) rfl (fun _ hw => (rn_fld fa_45_0 (S.tm rfl))) ?_; clear S; intro a S
        refine d_quiet_g 16 S hsel rfl rfl rfl rfl hb4 rfl rfl (by kernel_rfl) (by kernel_rfl) rfl (fun _ hw => (rn_ld Tryd.isAgg9 (off := 0) (o := 0) (S.tm rfl) ((S.blk_mem (i := 0) (cells := (GMove.enc y1)) (b := b2) (T := 45) rfl (ne_nil (e' := .blk b2 (GMove.enc y1) 45))).kept hw) rfl)) ?_; clear S; intro a S
        refine d_quiet_g 17 S hsel rfl rfl rfl rfl hb4 rfl rfl (by kernel_rfl) (by kernel_rfl) rfl (fun _ hw => (rn_move (S.tm rfl))) ?_; clear S; intro a S
        refine d_quiet_g 19 S hsel rfl rfl rfl rfl hb4 rfl rfl (by kernel_rfl) (by kernel_rfl) rfl (fun _ hw => (rn_move (S.tm rfl))) ?_; clear S; intro a S
        refine d_loud1 18 (by kernel_rfl) rfl (l_want S rfl rfl rfl hb4 (l_enter S (fun _ => run_call (vs := [v_p_l, sV y1.Who, iV p_day]) ⟨(S.tm rfl), (S.tm rfl), (S.tm rfl), trivial⟩ Tryd.call23) (swimmer_clubAt_ok _ v_p_l p_l (hs_p_l.mono (S.le_arg nil_sub)) y1.Who p_day _ rfl) rfl ?_)); clear S; intro v7 a w14 hv5 hk10 hn5 S
        subst hv5
        refine l_done (d_next hk10 (d_rest [20, 21] hsel (by kernel_rfl) rfl ?_))
        clear hsel
        refine s_want S rfl rfl rfl rfl hb4 (s_lv0 S (rn_seql (S.tm rfl) (S.tm rfl)) rfl ?_); clear S; intro a S
        refine s_lv S rfl (rn_pick_b hb4 (S.tm rfl) (S.tm rfl)) rfl ?_; clear S; intro a S
        refine s_done ?_
        replace S := S.nk [.blk b2 (GMove.enc y1) 45, .own v2 9 1 x1.length (x1.flatMap eStr)] [(0, v_p_l), (1, sV p_club), (2, iV p_day), (9, v2), (11, .pointer (some ⟨b2, 0, none⟩)), (19, v_p_l), (20, iV (p_l.length : Int)), (21, iV (i1 : Int)), (29, v_p_l), (30, iV (i1 : Int)), (31, iV (W ((i1 : Int) - 1))), (32, .pointer (some ⟨b5, o4, none⟩)), (33, .pointer (some ⟨b5, o4, none⟩)), (34, sV ((nth p_l (W ((i1 : Int) - 1))).Who)), (35, .pointer (some ⟨b2, 0, none⟩)), (36, sV y1.Who), (37, bV (!decide (((nth p_l (W ((i1 : Int) - 1))).Who) = y1.Who))), (40, v_p_l), (41, .pointer (some ⟨b2, 0, none⟩)), (42, sV y1.Who), (43, iV p_day), (44, sV (swimmer_clubAt p_l y1.Who p_day)), (45, sV p_club), (46, bV (decide ((swimmer_clubAt p_l y1.Who p_day) = p_club))), (47, bV (decide ((swimmer_clubAt p_l y1.Who p_day) = p_club)))] [true, true] rfl (subR rfl)
        refine then_n ?_
        exact ⟨decide ((swimmer_clubAt p_l y1.Who p_day) = p_club), h, S.nf [true, true] rfl (subR rfl)⟩
       ·replace h := iteF h hb4
        refine d_region [] ([]) Tryd.mixed S rfl (by kernel_rfl) ?_; clear S; intro w15 hk11 hsel S
        refine d_rest [0, 1, 2, 3, 4, 5, 6, 7, 8, 9, 10, 11, 12, 13, 14, 15, 16, 17, 18, 19, 20, 21] hsel (by kernel_rfl) rfl ?_
        clear hsel
        refine s_lv S rfl (rn_move (S.tm rfl)) rfl ?_; clear S; intro a S
        refine s_lv S rfl (rn_eql (S.tm rfl) rfl) rfl ?_; clear S; intro a S
        refine s_lv S rfl (rn_move (S.tm rfl)) rfl ?_; clear S; intro a S
        refine s_want S rfl rfl rfl rfl hb2 (s_lv0 S (rn_move (S.tm rfl)) rfl ?_); clear S; intro a S
        refine s_want S rfl rfl rfl rfl hb2 (s_lv0 S (rn_move (S.tm rfl)) rfl ?_); clear S; intro a S
        refine s_want S rfl rfl rfl rfl hb2 (s_lv0 S (rn_sub (S.tm rfl) rfl) rfl ?_); clear S; intro a S
        refine s_want S rfl rfl rfl rfl hb2 ?_
        obtain ⟨hc2, h⟩ := chkE h
        obtain ⟨b6, o5, hm5, hr6⟩ := rn_indexT (a := a) (x := .tmp 29) (y := .tmp 31) (ty := 0) sl_26 hs_p_l (inB_get hc2).1 (inB_get hc2).2 (S.tm rfl) (S.tm rfl)
        refine s_lv0 S (hr6 _) rfl ?_; clear S; intro a S
        clear hr6
        refine s_want S rfl rfl rfl rfl hb2 (s_lv0 S (rn_fld fa_45_0 (S.tm rfl)) rfl ?_); clear S; intro a S
        refine s_want S rfl rfl rfl rfl hb2 (s_lv0 S (rn_ld Tryd.isAgg9 (off := o5) (o := 0) (S.tm rfl) (hm5.at S.emb0) rfl) rfl ?_); clear S; intro a S
        refine s_want S rfl rfl rfl rfl hb2 (s_lv0 S (rn_fld fa_45_0 (S.tm rfl)) rfl ?_); clear S; intro a S
        refine s_want S rfl rfl rfl rfl hb2 (s_lv0 S (rn_load Tryd.isAgg9 (S.tm rfl) (S.cell (i := 0) rfl rfl)) rfl ?_); clear S; intro a S
        refine s_want S rfl rfl rfl rfl hb2 (s_lv0 S (rn_sneq (S.tm rfl) (S.tm rfl)) rfl ?_); clear S; intro a S
        refine s_lv S rfl (rn_pick_c hb2 (S.tm rfl) (S.tm rfl)) rfl ?_; clear S; intro a S
        refine s_lv S rfl (rn_move (S.tm rfl)) rfl ?_; clear S; intro a S
        iterate 7 (refine s_skip S rfl rfl rfl rfl (neq_f hb4) rfl ?_ rfl; clear S; intro a S)
        refine s_lv S rfl (rn_pick_c hb4 (S.tm rfl) rfl) rfl ?_; clear S; intro a S
        refine s_done ?_
        replace S := S.nk [.blk b2 (GMove.enc y1) 45, .own v2 9 1 x1.length (x1.flatMap eStr)] [(0, v_p_l), (1, sV p_club), (2, iV p_day), (9, v2), (11, .pointer (some ⟨b2, 0, none⟩)), (19, v_p_l), (20, iV (p_l.length : Int)), (21, iV (i1 : Int)), (29, v_p_l), (30, iV (i1 : Int)), (31, iV (W ((i1 : Int) - 1))), (32, .pointer (some ⟨b6, o5, none⟩)), (33, .pointer (some ⟨b6, o5, none⟩)), (34, sV ((nth p_l (W ((i1 : Int) - 1))).Who)), (35, .pointer (some ⟨b2, 0, none⟩)), (36, sV y1.Who), (37, bV (!decide (((nth p_l (W ((i1 : Int) - 1))).Who) = y1.Who))), (47, bV false)] [true, true] rfl (subR rfl)
        refine then_n ?_
        exact ⟨false, h, S.nf [true, true] rfl (subR rfl)⟩
     clear S h; rintro a w7 ⟨x3, h, S⟩; rw [hj3] at h; clear hj3 j3
     refine then_n ?_
     obtain ⟨j4, hj4, h⟩ := joinE h
     refine f_join (fun a w' => ∃ x4 : List ByteArray, ∃ v8 : Value, j4 x4 = some r ∧ Sx w [] nov [.blk b2 (GMove.enc y1) 45, .own v8 9 1 x4.length (x4.flatMap eStr)] [(0, v_p_l), (1, sV p_club), (2, iV p_day), (9, v8), (19, v_p_l), (20, iV (p_l.length : Int)), (21, iV (i1 : Int))] 55 a w') ?_ ?_
     ·refine f_cond (S.tm rfl) (fun hb5 => ?_) (fun hb5 => ?_)
      ·replace h := iteT h hb5
       refine f_region (lv S (rn_move (S.tm rfl)) rfl ?_); clear S; intro a S
       refine lv S (rn_fld fa_45_0 (S.tm rfl)) rfl ?_; clear S; intro a S
       refine lv S (rn_load Tryd.isAgg9 (S.tm rfl) (S.cell (i := 0) rfl rfl)) rfl ?_; clear S; intro a S
       refine l_buildSlice S Tryd.underlying32 Tryd.sizeOf9 Tryd.zeroValue9 rfl rfl (pv := [(0, sV y1.Who)]) ⟨rfl, (S.tm rfl), trivial⟩ (cs := [sV y1.Who]) (by kernel_rfl) rfl ?_; clear S; intro a w17 b7 hz2 hk12 S
       obtain ⟨hc3, h⟩ := chkE h
       refine l_appendT sl_32 enc_str S (S.tm rfl) (i := 2) rfl (S.tm rfl) (j := 0) rfl (ys := [y1.Who]) rfl rfl rfl rfl (by have := room_lt hc3; omega) rfl ?_; clear S; intro v9 a w18 hk13 S
       refine lv S (rn_assign (S.tm rfl)) rfl ?_; clear S; intro a S
       refine l_done (then_n ?_)
       exact ⟨(x1 ++ [y1.Who]), v9, h, S.nf [false, true, true] rfl (subR rfl)⟩
      ·replace h := iteF h hb5
       refine wp_skip (then_n ?_)
       exact ⟨x1, v2, h, S.nf [true, true] rfl (subR rfl)⟩
     clear S h; rintro a w16 ⟨x4, v8, h, S⟩; rw [hj4] at h; clear hj4 j4
     refine blk_n (then_n ?_)
     exact ⟨x4, v8, h, S.nf [false, true] rfl (subR rfl)⟩
    clear S h; rintro a w4 ⟨x2, v3, h, S⟩; rw [hj2] at h; clear hj2 j2
    refine then_n (f_region (lv S (rn_add (S.tm rfl) rfl) rfl ?_)); clear S; intro a S
    refine lv S (rn_move (S.tm rfl)) rfl ?_; clear S; intro a S
    refine l_done (then_n ?_)
    exact ⟨ys1, ⟨i1 + 1, x2, v3, ⟨_, (hd1).trans (List.append_cons _ _ _), by simp [hi1]⟩, h, S.nf [true] rfl ⟨rfl, rfl, rfl, rfl, rfl, rfl, (congrArg (fun z => some (Value.int .i64 z)) (rng_next hd1 hi1 (slc_max hs_p_l))), trivial⟩⟩, Nat.lt_succ_self _⟩
  clear S h; rintro a w3 ⟨x1, v2, h, S⟩; rw [hj1] at h; clear hj1 j1
  refine then_n (f_seq (f_region (lv S (rn_move (S.tm rfl)) rfl ?_))); clear S; intro a S
  refine lv S (rn_assign (S.tm rfl)) rfl ?_; clear S; intro a S
  refine lv S (rn_assign rfl) rfl ?_; clear S; intro a S
  refine l_done (then_n (wp_ret ?_))
  obtain rfl := Option.some.inj h
  exact f_ret2 S Tryd.results7 rfl rfl ⟨_, rfl, (own_retT S (i := 0) rfl rfl)⟩
theorem tumbkeep2_spoil_string_ok (w : World) (v_p_l : Value) (p_l : List ByteArray) (hb_p_l : (LEnt.own v_p_l 9 1 p_l.length (p_l.flatMap eStr)).holds w) (r : (List ByteArray)) (h : tumbkeep2_spoil_string p_l = some r) :
    Calls Tryd.prog 8 [v_p_l].toArray w (Ret w (v_p_l.ownBlock.toList) fun _ v w' => (LEnt.own v_p_l 9 1 r.length (r.flatMap eStr)).holds w' ∧ v = .tuple #[]) := by
 refine f_enter (v_p_l.ownBlock.toList) [.own v_p_l 9 1 p_l.length (p_l.flatMap eStr)] Tryd.func8 rfl Tryd.ntmps8 rfl (fun e he => by simp only [List.mem_singleton] at he; subst he; exact hb_p_l) (fps_one_nodup _) (fps_one_sub _) fun a S => ?_
 unfold tumbkeep2_spoil_string at h
 replace S := S.nk [.own v_p_l 9 1 p_l.length (p_l.flatMap eStr)] [(0, v_p_l)] [true] rfl ⟨rfl, trivial⟩
 refine f_seq (f_region (lv S (rn_assign rfl) rfl ?_)); clear S; intro a S
 refine l_done (then_n (f_seq (f_region (lv S (rn_move (S.tm rfl)) rfl ?_)))); clear S; intro a S
 refine lv S (rn_lenT sl_32 (S.tm rfl) (own_len (S.own_at (i := 0) rfl))) rfl ?_; clear S; intro a S
 refine lv S (rn_move rfl) rfl ?_; clear S; intro a S
 refine l_done (then_n ?_)
 replace S := S.nk [.own v_p_l 9 1 p_l.length (p_l.flatMap eStr)] [(0, v_p_l), (2, sV k_empty), (5, iV (p_l.length : Int)), (6, iV 0)] [true] rfl (subR rfl)
 have hm1 := own_max (S.own_at (i := 0) rfl)
 obtain ⟨j1, hj1, h⟩ := joinE h
 refine f_join (fun a w' => ∃ x1 : List ByteArray, j1 x1 = some r ∧ Sx w (v_p_l.ownBlock.toList) nov [.own v_p_l 9 1 x1.length (x1.flatMap eStr)] [] 14 a w') ?_ ?_
 ·refine wp_block (f_loop (fun (ys1 : List ByteArray) a w' => ∃ i1 : Nat, ∃ x1 : List ByteArray, (∃ dn, p_l = dn ++ ys1 ∧ dn.length = i1) ∧ tumbkeep2_spoil_string_l1 j1 ys1 i1 x1 = some r ∧ Sx w (v_p_l.ownBlock.toList) nov [.own v_p_l 9 1 x1.length (x1.flatMap eStr)] [(0, v_p_l), (2, sV k_empty), (5, iV (p_l.length : Int)), (6, iV (i1 : Int))] 14 a w') List.length p_l ⟨0, p_l, ⟨[], rfl, rfl⟩, h, S.nf [true] rfl (subR rfl)⟩ ?_)
  clear S h; rintro ys1 a w1 ⟨i1, x1, ⟨dn, hd1, hi1⟩, h, S⟩
  cases ys1 with
  | nil =>
   rw [tumbkeep2_spoil_string_l1.eq_1] at h
   refine f_seq (f_region (lv S (rn_lss (S.tm rfl) (S.tm rfl)) rfl ?_)); clear S; intro a S
   refine l_done ?_
   replace S := S.nk [.own v_p_l 9 1 x1.length (x1.flatMap eStr)] [(0, v_p_l), (2, sV k_empty), (5, iV (p_l.length : Int)), (6, iV (i1 : Int)), (7, bV (decide ((i1 : Int) < (p_l.length : Int))))] [true] rfl (subR rfl)
   refine then_n (f_seq (wp_cond_false ((S.tm rfl).trans (congrArg Value.bool (rng_nil hd1 hi1))) (wp_exit (then_x (then_x (x_same ?_))))))
   refine then_n ?_
   exact ⟨x1, h, S.nf [true] rfl trivial⟩
  | cons y1 ys1 =>
   rw [tumbkeep2_spoil_string_l1.eq_2] at h
   refine f_seq (f_region (lv S (rn_lss (S.tm rfl) (S.tm rfl)) rfl ?_)); clear S; intro a S
   refine l_done ?_
   replace S := S.nk [.own v_p_l 9 1 x1.length (x1.flatMap eStr)] [(0, v_p_l), (2, sV k_empty), (5, iV (p_l.length : Int)), (6, iV (i1 : Int)), (7, bV (decide ((i1 : Int) < (p_l.length : Int))))] [true] rfl (subR rfl)
   refine then_n (f_seq (wp_cond_true ((S.tm rfl).trans (congrArg Value.bool (rng_cons hd1 hi1))) (wp_skip (then_n (f_seq (wp_block ?_))))))
   refine f_seq (f_region (lv S (rn_move (S.tm rfl)) rfl ?_)); clear S; intro a S
   refine lv S (rn_assign (S.tm rfl)) rfl ?_; clear S; intro a S
   refine l_done (then_n (f_region (lv S (rn_move (S.tm rfl)) rfl ?_))); clear S; intro a S
   refine lv S (rn_move (S.tm rfl)) rfl ?_; clear S; intro a S
   refine lv S (rn_move (S.tm rfl)) rfl ?_; clear S; intro a S
   obtain ⟨hc1, h⟩ := chkE h
   obtain ⟨b1, hg1, hr1⟩ := rn_indexS (a := a) (x := .tmp 9) (y := .tmp 10) (ty := 0) sl_32 enc_str S (i := 0) rfl (inB_get hc1).1 (inB_get hc1).2 (S.tm rfl) (S.tm rfl)
   refine lv S (hr1 _) rfl ?_; clear S; intro a S
   clear hr1
   refine l_storeO (c := 0) (j := (i1 : Int).toNat) k_empty enc_str S (S.tm rfl) (S.tm rfl) (i := 0) rfl hg1 (inB_get hc1).1 Tryd.sizeOf9 (vs := [sV k_empty]) rfl rfl rfl rfl rfl ?_; clear S; intro w4 hk2 S
   refine l_done (blk_n (then_n (f_region (lv S (rn_add (S.tm rfl) rfl) rfl ?_)))); clear S; intro a S
   refine lv S (rn_move (S.tm rfl)) rfl ?_; clear S; intro a S
   refine l_done (then_n ?_)
   exact ⟨ys1, ⟨i1 + 1, (x1.set ((i1 : Int).toNat) k_empty), ⟨_, (hd1).trans (List.append_cons _ _ _), by simp [hi1]⟩, h, S.nf [true] rfl ⟨rfl, rfl, rfl, (congrArg (fun z => some (Value.int .i64 z)) (rng_next hd1 hi1 hm1)), trivial⟩⟩, Nat.lt_succ_self _⟩
 clear S h; rintro a w2 ⟨x1, h, S⟩; rw [hj1] at h; clear hj1 j1
 obtain rfl := Option.some.inj h
 exact f_ret0 S Tryd.results8 ⟨(S.holds _ (List.mem_of_getElem? (i := 0) rfl)), rfl⟩
theorem timing_IsTime_ok (w : World) (p_n : Int) (r : Bool) (h : timing_IsTime p_n = r) :
    Calls Tryd.prog 38 [iV p_n].toArray w (Ret w [] fun _ v _ => v = bV r) := by
 refine f_enter [] [] Tryd.func38 rfl Tryd.ntmps38 rfl (by simp) (by simp [fps]) (by simp [fps]) fun a S => ?_
 unfold timing_IsTime at h
 replace S := S.nk [] [(0, iV p_n)] [] rfl ⟨rfl, trivial⟩
 refine f_seq (f_region (lv S (rn_assign rfl) rfl ?_)); clear S; intro a S
 refine l_done (then_n (f_seq (f_region (lv S (rn_move (S.tm rfl)) rfl ?_)))); clear S; intro a S
 refine l_enter S (fun _ => run_call (vs := [iV p_n, iV 1, iV 360000]) ⟨(S.tm rfl), rfl, rfl, trivial⟩ Tryd.call26) (words_Within_ok _ p_n 1 360000 _ rfl) rfl ?_; clear S; intro v1 a w1 hv1 hk1 hn1 S
 subst hv1
 refine lv S (rn_assign (S.tm rfl)) rfl ?_; clear S; intro a S
 refine l_done (then_n (wp_ret ?_))
 subst h
 exact f_ret S Tryd.results38 rfl rfl
theorem swimmer_CheckMarks_ok (w : World) (v_p_l : Value) (p_l : List GMark) (hs_p_l : Slc (view w []) 4 v_p_l (p_l.map GMark.enc)) (r : Int) (h : swimmer_CheckMarks p_l = some r) :
    Calls Tryd.prog 24 [v_p_l].toArray w (Ret w [] fun _ v _ => v = iV r) := by
 refine f_enter [] [] Tryd.func24 rfl Tryd.ntmps24 rfl (by simp) (by simp [fps]) (by simp [fps]) fun a S => ?_
 unfold swimmer_CheckMarks at h
 replace S := S.nk [] [(0, v_p_l)] [] rfl ⟨rfl, trivial⟩
 refine f_seq (f_region (lv S (rn_assign rfl) rfl ?_)); clear S; intro a S
 refine l_done (then_n (f_seq (f_seq (f_region (lv S (rn_move (S.tm rfl)) rfl ?_))))); clear S; intro a S
 refine lv S (rn_lenT sl_28 (S.tm rfl) (slc_len hs_p_l)) rfl ?_; clear S; intro a S
 refine lv S (rn_gtr (S.tm rfl) rfl) rfl ?_; clear S; intro a S
 refine l_done (then_n (f_cond (S.tm rfl) (fun hb1 => ?_) (fun hb1 => ?_)))
 ·replace h := iteT h hb1
  refine f_seq (f_region (lv S (rn_assign rfl) rfl ?_)); clear S; intro a S
  refine l_done (then_n (wp_ret (then_r ?_)))
  obtain rfl := Option.some.inj h
  exact f_ret S Tryd.results24 rfl rfl
 ·replace h := iteF h hb1
  refine wp_skip (then_n (f_seq (f_seq (f_region (lv S (rn_move (S.tm rfl)) rfl ?_))))); clear S; intro a S
  refine lv S (rn_lenT sl_28 (S.tm rfl) (slc_len hs_p_l)) rfl ?_; clear S; intro a S
  refine lv S (rn_move rfl) rfl ?_; clear S; intro a S
  refine l_done (then_n ?_)
  replace S := S.nk [] [(8, v_p_l), (9, iV (p_l.length : Int)), (10, iV 0)] [] rfl (subR rfl)
  obtain ⟨j1, hj1, h⟩ := joinE h
  refine f_join (fun a w' => j1 = some r ∧ Sx w [] nov [] [] 37 a w') ?_ ?_
  ·refine wp_block (f_loop (fun (ys1 : List GMark) a w' => ∃ i1 : Nat, (∃ dn, p_l = dn ++ ys1 ∧ dn.length = i1) ∧ swimmer_CheckMarks_l1 j1 ys1 i1 = some r ∧ Sx w [] nov [] [(8, v_p_l), (9, iV (p_l.length : Int)), (10, iV (i1 : Int))] 37 a w') List.length p_l ⟨0, ⟨[], rfl, rfl⟩, h, S.nf [] rfl (subR rfl)⟩ ?_)
   clear S h; rintro ys1 a w1 ⟨i1, ⟨dn, hd1, hi1⟩, h, S⟩
   cases ys1 with
   | nil =>
    rw [swimmer_CheckMarks_l1.eq_1] at h
    refine f_seq (f_region (lv S (rn_lss (S.tm rfl) (S.tm rfl)) rfl ?_)); clear S; intro a S
    refine l_done ?_
    replace S := S.nk [] [(8, v_p_l), (9, iV (p_l.length : Int)), (10, iV (i1 : Int)), (11, bV (decide ((i1 : Int) < (p_l.length : Int))))] [] rfl (subR rfl)
    refine then_n (f_seq (wp_cond_false ((S.tm rfl).trans (congrArg Value.bool (rng_nil hd1 hi1))) (wp_exit (then_x (then_x (x_same ?_))))))
    refine then_n ?_
    exact ⟨h, S.nf [] rfl trivial⟩
   | cons y1 ys1 =>
    rw [swimmer_CheckMarks_l1.eq_2] at h
    refine f_seq (f_region (lv S (rn_lss (S.tm rfl) (S.tm rfl)) rfl ?_)); clear S; intro a S
    refine l_done ?_
    replace S := S.nk [] [(8, v_p_l), (9, iV (p_l.length : Int)), (10, iV (i1 : Int)), (11, bV (decide ((i1 : Int) < (p_l.length : Int))))] [] rfl (subR rfl)
    refine then_n (f_seq (wp_cond_true ((S.tm rfl).trans (congrArg Value.bool (rng_cons hd1 hi1))) (wp_skip (then_n (f_seq (wp_block ?_))))))
    refine f_seq (f_region ?_)
    obtain ⟨b1, o1, hm1, hr1⟩ := rn_indexT (a := a) (x := .tmp 8) (y := .tmp 10) (ty := 0) sl_28 hs_p_l (get_mid hd1 hi1) rfl (S.tm rfl) (S.tm rfl)
    refine lv S (hr1 _) rfl ?_; clear S; intro a S
    clear hr1
    refine lv S (rn_ldA Tryd.isAgg38 Tryd.sizeOf38 (off := o1) (o := 0) (part := (GMark.enc y1)) rfl rfl (S.tm rfl) (hm1.at S.emb0)) rfl ?_; clear S; intro a S
    refine l_alloc S Tryd.zeroValue38 (cs := [sV k_empty, sV k_empty, iV 0, iV 0]) rfl rfl ?_; clear S; intro a w3 b2 hz1 hk1 S
    refine l_store S (S.tm rfl) (S.tm rfl) (i := 0) (off := 0) rfl Tryd.sizeOf38 (vs := (GMark.enc y1)) rfl rfl rfl rfl ?_; clear S; intro w4 hk2 S
    refine l_done (then_n (wp_block (f_seq (f_region (lv S (rn_fld fa_38_0 (S.tm rfl)) rfl ?_))))); clear S; intro a S
    refine lv S (rn_load Tryd.isAgg9 (S.tm rfl) (S.cell (i := 0) rfl rfl)) rfl ?_; clear S; intro a S
    obtain ⟨r1, hr2, h⟩ := bindE h
    refine l_enter S (fun _ => run_call (vs := [sV y1.Who]) ⟨(S.tm rfl), trivial⟩ Tryd.call25) (words_IsKey_ok _ y1.Who _ hr2) rfl ?_; clear S; intro v1 a w5 hv1 hk3 hn1 S
    subst hv1
    refine lv S (rn_not (S.tm rfl)) rfl ?_; clear S; intro a S
    refine lv S (rn_move (S.tm rfl)) rfl ?_; clear S; intro a S
    obtain ⟨j2, hj2, h⟩ := joinE h
    refine f_cutm 5 (fun a w' => ∃ c1, j2 c1 = some r ∧ Keep [] w5 w' ∧ Sx w [] nov [.blk b2 (GMark.enc y1) 38] [(4, .pointer (some ⟨b2, 0, none⟩)), (8, v_p_l), (9, iV (p_l.length : Int)), (10, iV (i1 : Int)), (24, bV c1)] 37 a w') ?_ ?_
    ·rcases Bool.eq_false_or_eq_true (!r1) with hb2 | hb2
     ·replace h := iteT h hb2
      iterate 4 (refine l_skip S rfl rfl rfl (neq_t hb2) rfl ?_ rfl; clear S; intro a S)
      refine lv S (rn_or_t true hb2 (S.tm rfl) rfl) rfl ?_; clear S; intro a S
      refine l_done (then_n ?_)
      exact ⟨_, h, Keep.refl _ _, S.nf [true] rfl (subR rfl)⟩
     ·replace h := iteF h hb2
      refine l_want S rfl rfl rfl hb2 (lv S (rn_fld fa_38_1 (S.tm rfl)) rfl ?_); clear S; intro a S
      refine l_want S rfl rfl rfl hb2 (lv S (rn_load Tryd.isAgg9 (S.tm rfl) (S.cell (i := 0) rfl rfl)) rfl ?_); clear S; intro a S
      refine l_want S rfl rfl rfl hb2 ?_
      obtain ⟨r2, hr3, h⟩ := bindE h
      refine l_enter S (fun _ => run_call (vs := [sV y1.Race]) ⟨(S.tm rfl), trivial⟩ Tryd.call25) (words_IsKey_ok _ y1.Race _ hr3) rfl ?_; clear S; intro v2 a w7 hv2 hk4 hn2 S
      subst hv2
      refine l_want S rfl rfl rfl hb2 (lv S (rn_not (S.tm rfl)) rfl ?_); clear S; intro a S
      refine lv S (rn_or_f hb2 (S.tm rfl) (S.tm rfl)) rfl ?_; clear S; intro a S
      refine l_done (then_n ?_)
      exact ⟨_, h, hk4, S.nf [true] rfl (subR rfl)⟩
    clear S h; rintro a w6 ⟨c1, h, hk5, S⟩; rw [hj2] at h; clear hj2 j2
    refine lv S (rn_assign (S.tm rfl)) rfl ?_; clear S; intro a S
    refine l_done (then_n (f_cond (S.tm rfl) (fun hb3 => ?_) (fun hb3 => ?_)))
    ·replace h := iteT h hb3
     refine f_seq (f_region (lv S (rn_assign rfl) rfl ?_)); clear S; intro a S
     refine l_done (then_n (wp_ret (blk_r (blk_r (then_r (then_r ?_))))))
     refine blk_r (then_r (then_r ?_))
     obtain rfl := Option.some.inj h
     exact f_ret S Tryd.results24 rfl rfl
    ·replace h := iteF h hb3
     refine f_seq (f_region (lv S (rn_fld fa_38_2 (S.tm rfl)) rfl ?_)); clear S; intro a S
     refine lv S (rn_load Tryd.isAgg3 (S.tm rfl) (S.cell (i := 0) rfl rfl)) rfl ?_; clear S; intro a S
     refine l_enter S (fun _ => run_call (vs := [iV y1.Day]) ⟨(S.tm rfl), trivial⟩ Tryd.call37) (swimmer_isDay_ok _ y1.Day _ rfl) rfl ?_; clear S; intro v3 a w8 hv3 hk6 hn3 S
     subst hv3
     refine lv S (rn_not (S.tm rfl)) rfl ?_; clear S; intro a S
     refine lv S (rn_move (S.tm rfl)) rfl ?_; clear S; intro a S
     refine f_cutm 5 (fun a w' => Keep [] w8 w' ∧ Sx w [] nov [.blk b2 (GMark.enc y1) 38] [(8, v_p_l), (9, iV (p_l.length : Int)), (10, iV (i1 : Int)), (35, bV ((!(swimmer_isDay y1.Day)) || (!(timing_IsTime y1.Time))))] 37 a w') ?_ ?_
     ·rcases Bool.eq_false_or_eq_true (!(swimmer_isDay y1.Day)) with hb4 | hb4
      ·iterate 4 (refine l_skip S rfl rfl rfl (neq_t hb4) rfl ?_ rfl; clear S; intro a S)
       refine lv S (rn_or_t (!(timing_IsTime y1.Time)) hb4 (S.tm rfl) rfl) rfl ?_; clear S; intro a S
       refine l_done (then_n ?_)
       exact ⟨Keep.refl _ _, S.nf [true] rfl (subR rfl)⟩
      ·refine l_want S rfl rfl rfl hb4 (lv S (rn_fld fa_38_3 (S.tm rfl)) rfl ?_); clear S; intro a S
       refine l_want S rfl rfl rfl hb4 (lv S (rn_load Tryd.isAgg3 (S.tm rfl) (S.cell (i := 0) rfl rfl)) rfl ?_); clear S; intro a S
       refine l_want S rfl rfl rfl hb4 (l_enter S (fun _ => run_call (vs := [iV y1.Time]) ⟨(S.tm rfl), trivial⟩ Tryd.call38) (timing_IsTime_ok _ y1.Time _ rfl) rfl ?_); clear S; intro v4 a w10 hv4 hk7 hn4 S
       subst hv4
       refine l_want S rfl rfl rfl hb4 (lv S (rn_not (S.tm rfl)) rfl ?_); clear S; intro a S
       refine lv S (rn_or_f hb4 (S.tm rfl) (S.tm rfl)) rfl ?_; clear S; intro a S
       refine l_done (then_n ?_)
       exact ⟨hk7, S.nf [true] rfl (subR rfl)⟩
     clear S; rintro a w9 ⟨hk8, S⟩
     refine lv S (rn_assign (S.tm rfl)) rfl ?_; clear S; intro a S
     refine l_done (then_n (f_cond (S.tm rfl) (fun hb5 => ?_) (fun hb5 => ?_)))
     ·replace h := iteT h hb5
      refine f_seq (f_region (lv S (rn_assign rfl) rfl ?_)); clear S; intro a S
      refine l_done (then_n (wp_ret (blk_r (blk_r (then_r (then_r ?_))))))
      refine blk_r (then_r (then_r ?_))
      obtain rfl := Option.some.inj h
      exact f_ret S Tryd.results24 rfl rfl
     ·replace h := iteF h hb5
      refine wp_skip (blk_n (blk_n (then_n (f_region (lv S (rn_add (S.tm rfl) rfl) rfl ?_))))); clear S; intro a S
      refine lv S (rn_move (S.tm rfl)) rfl ?_; clear S; intro a S
      refine l_done (then_n ?_)
      exact ⟨ys1, ⟨i1 + 1, ⟨_, (hd1).trans (List.append_cons _ _ _), by simp [hi1]⟩, h, S.nf [false] rfl ⟨rfl, rfl, (congrArg (fun z => some (Value.int .i64 z)) (rng_next hd1 hi1 (slc_max hs_p_l))), trivial⟩⟩, Nat.lt_succ_self _⟩
  clear S h; rintro a w2 ⟨h, S⟩; rw [hj1] at h; clear hj1 j1
  refine then_n (f_seq (f_region (lv S (rn_assign rfl) rfl ?_))); clear S; intro a S
  refine l_done (then_n (wp_ret ?_))
  obtain rfl := Option.some.inj h
  exact f_ret S Tryd.results24 rfl rfl
set_option maxRecDepth 20000 in
theorem swimmer_best_ok (w : World) (v_p_l : Value) (p_l : List GMark) (hs_p_l : Slc (view w []) 4 v_p_l (p_l.map GMark.enc)) (p_race : ByteArray) (p_who : ByteArray) (p_from : Int) (p_to : Int) (r : GMark × Bool) (h : swimmer_best p_l p_race p_who p_from p_to = r) :
    Calls Tryd.prog 27 [v_p_l, sV p_race, sV p_who, iV p_from, iV p_to].toArray w (Ret w [] fun _ v _ => v = .tuple #[.agg (GMark.enc r.1).toArray, bV r.2]) := by
 refine f_enter [] [] Tryd.func27 rfl Tryd.ntmps27 rfl (by simp) (by simp [fps]) (by simp [fps]) fun a S => ?_
 unfold swimmer_best at h
 replace S := S.nk [] [(0, v_p_l), (1, sV p_race), (2, sV p_who), (3, iV p_from), (4, iV p_to)] [] rfl (subR rfl)
 refine f_seq (f_region (l_alloc S Tryd.zeroValue38 (cs := [sV k_empty, sV k_empty, iV 0, iV 0]) rfl rfl ?_)); clear S; intro a w1 b1 hz1 hk1 S
 refine lv S (rn_assign rfl) rfl ?_; clear S; intro a S
 refine l_done (then_n (f_seq (f_region (l_alloc S Tryd.zeroValue38 (cs := [sV k_empty, sV k_empty, iV 0, iV 0]) rfl rfl ?_)))); clear S; intro a w2 b2 hz2 hk2 S
 refine l_done (then_n (f_seq (f_region (lv S (rn_assign rfl) rfl ?_)))); clear S; intro a S
 refine l_done (then_n (f_seq (f_seq (f_region (lv S (rn_move (S.tm rfl)) rfl ?_))))); clear S; intro a S
 refine lv S (rn_lenT sl_28 (S.tm rfl) (slc_len hs_p_l)) rfl ?_; clear S; intro a S
 refine lv S (rn_move rfl) rfl ?_; clear S; intro a S
 refine l_done (then_n ?_)
 replace S := S.nk [.blk b2 [sV k_empty, sV k_empty, iV 0, iV 0] 38, .blk b1 [sV k_empty, sV k_empty, iV 0, iV 0] 38] [(1, sV p_race), (2, sV p_who), (3, iV p_from), (4, iV p_to), (10, .pointer (some ⟨b1, 0, none⟩)), (12, .pointer (some ⟨b2, 0, none⟩)), (13, bV false), (16, v_p_l), (17, iV (p_l.length : Int)), (18, iV 0)] [true, true] rfl (subR rfl)
 obtain ⟨j1, hj1, h⟩ := joinE h
 refine f_join (fun a w' => ∃ x1 : ByteArray, ∃ x2 : ByteArray, ∃ x3 : Int, ∃ x4 : Int, ∃ x5 : Bool, j1 x1 x2 x3 x4 x5 = r ∧ Sx w [] nov [.blk b2 [sV x1, sV x2, iV x3, iV x4] 38, .blk b1 [sV k_empty, sV k_empty, iV 0, iV 0] 38] [(10, .pointer (some ⟨b1, 0, none⟩)), (12, .pointer (some ⟨b2, 0, none⟩)), (13, bV x5)] 65 a w') ?_ ?_
 ·refine wp_block (f_loop (fun (ys1 : List GMark) a w' => ∃ i1 : Nat, ∃ x1 : ByteArray, ∃ x2 : ByteArray, ∃ x3 : Int, ∃ x4 : Int, ∃ x5 : Bool, (∃ dn, p_l = dn ++ ys1 ∧ dn.length = i1) ∧ swimmer_best_l1 p_race p_who p_from p_to j1 ys1 i1 x1 x2 x3 x4 x5 = r ∧ Sx w [] nov [.blk b2 [sV x1, sV x2, iV x3, iV x4] 38, .blk b1 [sV k_empty, sV k_empty, iV 0, iV 0] 38] [(1, sV p_race), (2, sV p_who), (3, iV p_from), (4, iV p_to), (10, .pointer (some ⟨b1, 0, none⟩)), (12, .pointer (some ⟨b2, 0, none⟩)), (13, bV x5), (16, v_p_l), (17, iV (p_l.length : Int)), (18, iV (i1 : Int))] 65 a w') List.length p_l ⟨0, k_empty, k_empty, 0, 0, false, ⟨[], rfl, rfl⟩, h, S.nf [true, true] rfl (subR rfl)⟩ ?_)
  clear S h; rintro ys1 a w3 ⟨i1, x1, x2, x3, x4, x5, ⟨dn, hd1, hi1⟩, h, S⟩
  cases ys1 with
  | nil =>
   rw [swimmer_best_l1.eq_1] at h
   refine f_seq (f_region (lv S (rn_lss (S.tm rfl) (S.tm rfl)) rfl ?_)); clear S; intro a S
   refine l_done ?_
   replace S := S.nk [.blk b2 [sV x1, sV x2, iV x3, iV x4] 38, .blk b1 [sV k_empty, sV k_empty, iV 0, iV 0] 38] [(1, sV p_race), (2, sV p_who), (3, iV p_from), (4, iV p_to), (10, .pointer (some ⟨b1, 0, none⟩)), (12, .pointer (some ⟨b2, 0, none⟩)), (13, bV x5), (16, v_p_l), (17, iV (p_l.length : Int)), (18, iV (i1 : Int)), (19, bV (decide ((i1 : Int) < (p_l.length : Int))))] [true, true] rfl (subR rfl)
   refine then_n (f_seq (wp_cond_false ((S.tm rfl).trans (congrArg Value.bool (rng_nil hd1 hi1))) (wp_exit (then_x (then_x (x_same ?_))))))
   refine then_n ?_
   exact ⟨x1, x2, x3, x4, x5, h, S.nf [true, true] rfl (subR rfl)⟩
  | cons y1 ys1 =>
   rw [swimmer_best_l1.eq_2] at h
   refine f_seq (f_region (lv S (rn_lss (S.tm rfl) (S.tm rfl)) rfl ?_)); clear S; intro a S
   refine l_done ?_
   replace S := S.nk [.blk b2 [sV x1, sV x2, iV x3, iV x4] 38, .blk b1 [sV k_empty, sV k_empty, iV 0, iV 0] 38] [(1, sV p_race), (2, sV p_who), (3, iV p_from), (4, iV p_to), (10, .pointer (some ⟨b1, 0, none⟩)), (12, .pointer (some ⟨b2, 0, none⟩)), (13, bV x5), (16, v_p_l), (17, iV (p_l.length : Int)), (18, iV (i1 : Int)), (19, bV (decide ((i1 : Int) < (p_l.length : Int))))] [true, true] rfl (subR rfl)
   refine then_n (f_seq (wp_cond_true ((S.tm rfl).trans (congrArg Value.bool (rng_cons hd1 hi1))) (wp_skip (then_n (f_seq ?_)))))
   obtain ⟨j2, hj2, h⟩ := joinE h
   refine f_join (fun a w' => ∃ x6 : ByteArray, ∃ x7 : ByteArray, ∃ x8 : Int, ∃ x9 : Int, ∃ x10 : Bool, j2 x6 x7 x8 x9 x10 = r ∧ Sx w [] nov [.blk b2 [sV x6, sV x7, iV x8, iV x9] 38, .blk b1 [sV k_empty, sV k_empty, iV 0, iV 0] 38] [(1, sV p_race), (2, sV p_who), (3, iV p_from), (4, iV p_to), (10, .pointer (some ⟨b1, 0, none⟩)), (12, .pointer (some ⟨b2, 0, none⟩)), (13, bV x10), (16, v_p_l), (17, iV (p_l.length : Int)), (18, iV (i1 : Int))] 65 a w') ?_ ?_
   ·refine wp_block (f_seq (f_region ?_))
    obtain ⟨b3, o1, hm1, hr1⟩ := rn_indexT (a := a) (x := .tmp 16) (y := .tmp 18) (ty := 0) sl_28 hs_p_l (get_mid hd1 hi1) rfl (S.tm rfl) (S.tm rfl)
    refine lv S (hr1 _) rfl ?_; clear S; intro a S
    clear hr1
    refine lv S (rn_ldA Tryd.isAgg38 Tryd.sizeOf38 (off := o1) (o := 0) (part := (GMark.enc y1)) rfl rfl (S.tm rfl) (hm1.at S.emb0)) rfl ?_; clear S; intro a S
    refine l_alloc S Tryd.zeroValue38 (cs := [sV k_empty, sV k_empty, iV 0, iV 0]) rfl rfl ?_; clear S; intro a w6 b4 hz3 hk3 S
    refine l_store S (S.tm rfl) (S.tm rfl) (i := 0) (off := 0) rfl Tryd.sizeOf38 (vs := (GMark.enc y1)) rfl rfl rfl rfl ?_; clear S; intro w7 hk4 S
    refine l_done (then_n (f_seq (f_seq (f_region (lv S (rn_fld fa_38_1 (S.tm rfl)) rfl ?_))))); clear S; intro a S
    refine lv S (rn_load Tryd.isAgg9 (S.tm rfl) (S.cell (i := 0) rfl rfl)) rfl ?_; clear S; intro a S
    refine lv S (rn_move (S.tm rfl)) rfl ?_; clear S; intro a S
    refine lv S (rn_sneq (S.tm rfl) (S.tm rfl)) rfl ?_; clear S; intro a S
    refine lv S (rn_move (S.tm rfl)) rfl ?_; clear S; intro a S
    refine f_cutm 5 (fun a w' => Keep [] w7 w' ∧ Sx w [] nov [.blk b4 (GMark.enc y1) 38, .blk b2 [sV x1, sV x2, iV x3, iV x4] 38, .blk b1 [sV k_empty, sV k_empty, iV 0, iV 0] 38] [(1, sV p_race), (2, sV p_who), (3, iV p_from), (4, iV p_to), (10, .pointer (some ⟨b1, 0, none⟩)), (12, .pointer (some ⟨b2, 0, none⟩)), (13, bV x5), (15, .pointer (some ⟨b4, 0, none⟩)), (16, v_p_l), (17, iV (p_l.length : Int)), (18, iV (i1 : Int)), (31, bV ((!decide (y1.Race = p_race)) || (!decide (y1.Who = p_who))))] 65 a w') ?_ ?_
    ·rcases Bool.eq_false_or_eq_true (!decide (y1.Race = p_race)) with hb1 | hb1
     ·iterate 4 (refine l_skip S rfl rfl rfl (neq_t hb1) rfl ?_ rfl; clear S; intro a S)
      refine lv S (rn_or_t (!decide (y1.Who = p_who)) hb1 (S.tm rfl) rfl) rfl ?_; clear S; intro a S
      refine l_done (then_n ?_)
      exact ⟨Keep.refl _ _, S.nf [true, true, true] rfl (subR rfl)⟩
     ·refine l_want S rfl rfl rfl hb1 (lv S (rn_fld fa_38_0 (S.tm rfl)) rfl ?_); clear S; intro a S
      refine l_want S rfl rfl rfl hb1 (lv S (rn_load Tryd.isAgg9 (S.tm rfl) (S.cell (i := 0) rfl rfl)) rfl ?_); clear S; intro a S
      refine l_want S rfl rfl rfl hb1 (lv S (rn_move (S.tm rfl)) rfl ?_); clear S; intro a S
      refine l_want S rfl rfl rfl hb1 (lv S (rn_sneq (S.tm rfl) (S.tm rfl)) rfl ?_); clear S; intro a S
      refine lv S (rn_or_f hb1 (S.tm rfl) (S.tm rfl)) rfl ?_; clear S; intro a S
      refine l_done (then_n ?_)
      exact ⟨Keep.refl _ _, S.nf [true, true, true] rfl (subR rfl)⟩
    clear S; rintro a w8 ⟨hk5, S⟩
    refine lv S (rn_move (S.tm rfl)) rfl ?_; clear S; intro a S
    refine f_cutm 5 (fun a w' => Keep [] w8 w' ∧ Sx w [] nov [.blk b4 (GMark.enc y1) 38, .blk b2 [sV x1, sV x2, iV x3, iV x4] 38, .blk b1 [sV k_empty, sV k_empty, iV 0, iV 0] 38] [(1, sV p_race), (2, sV p_who), (3, iV p_from), (4, iV p_to), (10, .pointer (some ⟨b1, 0, none⟩)), (12, .pointer (some ⟨b2, 0, none⟩)), (13, bV x5), (15, .pointer (some ⟨b4, 0, none⟩)), (16, v_p_l), (17, iV (p_l.length : Int)), (18, iV (i1 : Int)), (37, bV (((!decide (y1.Race = p_race)) || (!decide (y1.Who = p_who))) || (decide (y1.Day < p_from))))] 65 a w') ?_ ?_
    ·rcases Bool.eq_false_or_eq_true ((!decide (y1.Race = p_race)) || (!decide (y1.Who = p_who))) with hb2 | hb2
     ·iterate 4 (refine l_skip S rfl rfl rfl (neq_t hb2) rfl ?_ rfl; clear S; intro a S)
      refine lv S (rn_or_t (decide (y1.Day < p_from)) hb2 (S.tm rfl) rfl) rfl ?_; clear S; intro a S
      refine l_done (then_n ?_)
      exact ⟨Keep.refl _ _, S.nf [true, true, true] rfl (subR rfl)⟩
     ·refine l_want S rfl rfl rfl hb2 (lv S (rn_fld fa_38_2 (S.tm rfl)) rfl ?_); clear S; intro a S
      refine l_want S rfl rfl rfl hb2 (lv S (rn_load Tryd.isAgg3 (S.tm rfl) (S.cell (i := 0) rfl rfl)) rfl ?_); clear S; intro a S
      refine l_want S rfl rfl rfl hb2 (lv S (rn_move (S.tm rfl)) rfl ?_); clear S; intro a S
      refine l_want S rfl rfl rfl hb2 (lv S (rn_lss (S.tm rfl) (S.tm rfl)) rfl ?_); clear S; intro a S
      refine lv S (rn_or_f hb2 (S.tm rfl) (S.tm rfl)) rfl ?_; clear S; intro a S
      refine l_done (then_n ?_)
      exact ⟨Keep.refl _ _, S.nf [true, true, true] rfl (subR rfl)⟩
    clear S; rintro a w9 ⟨hk6, S⟩
    refine lv S (rn_move (S.tm rfl)) rfl ?_; clear S; intro a S
    refine f_cutm 5 (fun a w' => Keep [] w9 w' ∧ Sx w [] nov [.blk b4 (GMark.enc y1) 38, .blk b2 [sV x1, sV x2, iV x3, iV x4] 38, .blk b1 [sV k_empty, sV k_empty, iV 0, iV 0] 38] [(1, sV p_race), (2, sV p_who), (3, iV p_from), (4, iV p_to), (10, .pointer (some ⟨b1, 0, none⟩)), (12, .pointer (some ⟨b2, 0, none⟩)), (13, bV x5), (15, .pointer (some ⟨b4, 0, none⟩)), (16, v_p_l), (17, iV (p_l.length : Int)), (18, iV (i1 : Int)), (43, bV ((((!decide (y1.Race = p_race)) || (!decide (y1.Who = p_who))) || (decide (y1.Day < p_from))) || (decide (p_to < y1.Day))))] 65 a w') ?_ ?_
    ·rcases Bool.eq_false_or_eq_true (((!decide (y1.Race = p_race)) || (!decide (y1.Who = p_who))) || (decide (y1.Day < p_from))) with hb3 | hb3
     ·iterate 4 (refine l_skip S rfl rfl rfl (neq_t hb3) rfl ?_ rfl; clear S; intro a S)
      refine lv S (rn_or_t (decide (p_to < y1.Day)) hb3 (S.tm rfl) rfl) rfl ?_; clear S; intro a S
      refine l_done (then_n ?_)
      exact ⟨Keep.refl _ _, S.nf [true, true, true] rfl (subR rfl)⟩
     ·refine l_want S rfl rfl rfl hb3 (lv S (rn_fld fa_38_2 (S.tm rfl)) rfl ?_); clear S; intro a S
      refine l_want S rfl rfl rfl hb3 (lv S (rn_load Tryd.isAgg3 (S.tm rfl) (S.cell (i := 0) rfl rfl)) rfl ?_); clear S; intro a S
      refine l_want S rfl rfl rfl hb3 (lv S (rn_move (S.tm rfl)) rfl ?_); clear S; intro a S
      refine l_want S rfl rfl rfl hb3 (lv S (rn_gtr (S.tm rfl) (S.tm rfl)) rfl ?_); clear S; intro a S
      refine lv S (rn_or_f hb3 (S.tm rfl) (S.tm rfl)) rfl ?_; clear S; intro a S
      refine l_done (then_n ?_)
      exact ⟨Keep.refl _ _, S.nf [true, true, true] rfl (subR rfl)⟩
    clear S; rintro a w10 ⟨hk7, S⟩
    refine l_done (then_n (f_cond (S.tm rfl) (fun hb4 => ?_) (fun hb4 => ?_)))
    ·replace h := iteT h hb4
     refine wp_exit (then_x (x_same (then_n ?_)))
     exact ⟨x1, x2, x3, x4, x5, h, S.nf [false, true, true] rfl (subR rfl)⟩
    ·replace h := iteF h hb4
     refine wp_skip (then_n (f_seq ?_))
     obtain ⟨j3, hj3, h⟩ := joinE h
     refine f_join (fun a w' => ∃ x11 : Bool, j3 x11 = r ∧ Sx w [] nov [.blk b4 (GMark.enc y1) 38, .blk b2 [sV x1, sV x2, iV x3, iV x4] 38, .blk b1 [sV k_empty, sV k_empty, iV 0, iV 0] 38] [(1, sV p_race), (2, sV p_who), (3, iV p_from), (4, iV p_to), (10, .pointer (some ⟨b1, 0, none⟩)), (12, .pointer (some ⟨b2, 0, none⟩)), (13, bV x5), (15, .pointer (some ⟨b4, 0, none⟩)), (16, v_p_l), (17, iV (p_l.length : Int)), (18, iV (i1 : Int)), (60, bV x11)] 65 a w') ?_ ?_
     ·rcases Bool.eq_false_or_eq_true (!x5) with hb5 | hb5
      ·replace h := iteT h hb5
       refine d_region [] ([]) Tryd.mixed S rfl (by kernel_rfl) ?_; clear S; intro w12 hk8 hsel S
       refine d_rest [0, 1, 2, 3, 4, 5, 6, 7, 8, 9, 10, 11, 12, 13, 14, 15, 16] hsel (by kernel_rfl) rfl ?_
       clear hsel
       refine s_lv S rfl (rn_move (S.tm rfl)) rfl ?_; clear S; intro a S
       refine s_lv S rfl (rn_not (S.tm rfl)) rfl ?_; clear S; intro a S
       refine s_lv S rfl (rn_move (S.tm rfl)) rfl ?_; clear S; intro a S
       iterate 13 (refine s_skip S rfl rfl rfl rfl (neq_t hb5) rfl ?_ rfl; clear S; intro a S)
       refine s_lv S rfl (rn_pick_b hb5 (S.tm rfl) rfl) rfl ?_; clear S; intro a S
       refine s_done ?_
       replace S := S.nk [.blk b4 (GMark.enc y1) 38, .blk b2 [sV x1, sV x2, iV x3, iV x4] 38, .blk b1 [sV k_empty, sV k_empty, iV 0, iV 0] 38] [(1, sV p_race), (2, sV p_who), (3, iV p_from), (4, iV p_to), (10, .pointer (some ⟨b1, 0, none⟩)), (12, .pointer (some ⟨b2, 0, none⟩)), (13, bV x5), (15, .pointer (some ⟨b4, 0, none⟩)), (16, v_p_l), (17, iV (p_l.length : Int)), (18, iV (i1 : Int)), (60, bV true)] [true, true, true] rfl (subR rfl)
       refine then_n ?_
       exact ⟨true, h, S.nf [true, true, true] rfl (subR rfl)⟩
      ·replace h := iteF h hb5
       refine d_region [] ([]) Tryd.mixed S rfl (by kernel_rfl) ?_; clear S; intro w17 hk13 hsel S
       refine d_quiet 0 S hsel rfl rfl rfl (by kernel_rfl) (by kernel_rfl) rfl (fun _ hw => (rn_move (S.tm rfl))) ?_; clear S; intro a S
       refine d_quiet 1 S hsel rfl rfl rfl (by kernel_rfl) (by kernel_rfl) rfl (fun _ hw => (rn_not (S.tm rfl))) ?_; clear S; intro a S
       refine d_quiet 2 S hsel rfl rfl rfl (by kernel_rfl) (by kernel_rfl) rfl (fun _ hw => (rn_move (S.tm rfl))) ?_; clear S; intro a S
       refine d_quiet_g 3 S hsel rfl rfl rfl rfl hb5 rfl rfl (by kernel_rfl) (by kernel_rfl) rfl (fun _ hw => (rn_fld fa_38_3 (S.tm rfl))) ?_; clear S; intro a S
       refine d_quiet_g 4 S hsel rfl rfl rfl rfl hb5 rfl rfl (by kernel_rfl) (by kernel_rfl) rfl (fun _ hw => (rn_ld Tryd.isAgg3 (off := 0) (o := 3) (S.tm rfl) ((S.blk_mem (i := 0) (cells := (GMark.enc y1)) (b := b4) (T := 38) rfl (ne_nil (e' := .blk b4 (GMark.enc y1) 38))).kept hw) rfl)) ?_; clear S; intro a S
       refine d_quiet_g 5 S hsel rfl rfl rfl rfl hb5 rfl rfl (by kernel_rfl) (by kernel_rfl) rfl (fun _ hw => (rn_fld fa_38_3 (S.tm rfl))) ?_; clear S; intro a S
       refine d_quiet_g 6 S hsel rfl rfl rfl rfl hb5 rfl rfl (by kernel_rfl) (by kernel_rfl) rfl (fun _ hw => (rn_ld Tryd.isAgg3 (off := 0) (o := 3) (S.tm rfl) ((S.blk_mem (i := 1) (cells := [sV x1, sV x2, iV x3, iV x4]) (b := b2) (T := 38) rfl (ne_nil (e' := .blk b2 [sV x1, sV x2, iV x3, iV x4] 38))).kept hw) rfl)) ?_; clear S; intro a S
       refine d_quiet_g 8 S hsel rfl rfl rfl rfl hb5 rfl rfl (by kernel_rfl) (by kernel_rfl) rfl (fun _ hw => (rn_fld fa_38_2 (S.tm rfl))) ?_; clear S; intro a S
       refine d_quiet_g 9 S hsel rfl rfl rfl rfl hb5 rfl rfl (by kernel_rfl) (by kernel_rfl) rfl (fun _ hw => (rn_ld Tryd.isAgg3 (off := 0) (o := 2) (S.tm rfl) ((S.blk_mem (i := 0) (cells := (GMark.enc y1)) (b := b4) (T := 38) rfl (ne_nil (e' := .blk b4 (GMark.enc y1) 38))).kept hw) rfl)) ?_; clear S; intro a S
       refine d_quiet_g 10 S hsel rfl rfl rfl rfl hb5 rfl rfl (by kernel_rfl) (by kernel_rfl) rfl (fun _ hw => (rn_fld fa_38_2 (S.tm rfl))) ?_; clear S; intro a S
       refine d_quiet_g 11 S hsel rfl rfl rfl rfl hb5 rfl rfl (by kernel_rfl) (by kernel_rfl) rfl (fun _ hw => (rn_ld Tryd.isAgg3 (off := 0) (o := 2) (S.tm rfl) ((S.blk_mem (i := 1) (cells := [sV x1, sV x2, iV x3, iV x4]) (b := b2) (T := 38) rfl (ne_nil (e' := .blk b2 [sV x1, sV x2, iV x3, iV x4] 38))).kept hw) rfl)) ?_; clear S; intro a S
       refine d_loud1 7 (by kernel_rfl) rfl (l_want S rfl rfl rfl hb5 (l_enter S (fun _ => run_call (vs := [iV y1.Time, iV x4]) ⟨(S.tm rfl), (S.tm rfl), trivial⟩ Tryd.call41) (cmp_Compare_int_ok _ y1.Time x4 _ rfl) rfl ?_)); clear S; intro v4 a w18 hv4 hk14 hn4 S
       subst hv4
       refine l_done (d_next hk14 (d_loud1 12 (by kernel_rfl) rfl (l_want S rfl rfl rfl hb5 (l_enter S (fun _ => run_call (vs := [iV y1.Day, iV x3]) ⟨(S.tm rfl), (S.tm rfl), trivial⟩ Tryd.call41) (cmp_Compare_int_ok _ y1.Day x3 _ rfl) rfl ?_)))); clear S; intro v5 a w19 hv5 hk15 hn5 S
       subst hv5
       refine l_done (d_next hk15 (d_loud1 13 (by kernel_rfl) rfl (l_want S rfl rfl rfl hb5 (l_buildSlice S Tryd.underlying22 Tryd.sizeOf3 Tryd.zeroValue3 rfl rfl (pv := [(0, iV (cmp_Compare_int y1.Time x4)), (1, iV (cmp_Compare_int y1.Day x3))]) ⟨rfl, (S.tm rfl), rfl, (S.tm rfl), trivial⟩ (cs := [iV (cmp_Compare_int y1.Time x4), iV (cmp_Compare_int y1.Day x3)]) (by kernel_rfl) rfl ?_)))); clear S; intro a w20 b6 hz5 hk16 S
       refine l_done (d_next hk16 (d_loud1 14 (by kernel_rfl) rfl (l_want S rfl rfl rfl hb5 (l_enter S (fun _ => run_call (vs := [.slice (some ⟨b6, 0, none⟩) 2 2]) ⟨(S.tm rfl), trivial⟩ Tryd.call40) (cmp_Or_int_ok _ (.slice (some ⟨b6, 0, none⟩) 2 2) [(cmp_Compare_int y1.Time x4), (cmp_Compare_int y1.Day x3)] (lit_slcT enc_int S (i := 0) rfl rfl rfl rfl ((ne_nil (e' := .blk b6 [iV (cmp_Compare_int y1.Time x4), iV (cmp_Compare_int y1.Day x3)] 3)) _ rfl)) _ rfl) rfl ?_)))); clear S; intro v6 a w21 hv6 hk17 hn6 S
       subst hv6
       refine l_done (d_next hk17 (d_rest [15, 16] hsel (by kernel_rfl) rfl ?_))
       clear hsel
       refine s_want S rfl rfl rfl rfl hb5 (s_lv0 S (rn_lss (S.tm rfl) rfl) rfl ?_); clear S; intro a S
       refine s_lv S rfl (rn_pick_c hb5 (S.tm rfl) (S.tm rfl)) rfl ?_; clear S; intro a S
       refine s_done ?_
       replace S := S.nk [.blk b6 [iV (cmp_Compare_int y1.Time x4), iV (cmp_Compare_int y1.Day x3)] 3, .blk b4 (GMark.enc y1) 38, .blk b2 [sV x1, sV x2, iV x3, iV x4] 38, .blk b1 [sV k_empty, sV k_empty, iV 0, iV 0] 38] [(1, sV p_race), (2, sV p_who), (3, iV p_from), (4, iV p_to), (10, .pointer (some ⟨b1, 0, none⟩)), (12, .pointer (some ⟨b2, 0, none⟩)), (13, bV x5), (15, .pointer (some ⟨b4, 0, none⟩)), (16, v_p_l), (17, iV (p_l.length : Int)), (18, iV (i1 : Int)), (47, .pointer (some ⟨b4, 3, none⟩)), (48, iV y1.Time), (49, .pointer (some ⟨b2, 3, none⟩)), (50, iV x4), (51, iV (cmp_Compare_int y1.Time x4)), (52, .pointer (some ⟨b4, 2, none⟩)), (53, iV y1.Day), (54, .pointer (some ⟨b2, 2, none⟩)), (55, iV x3), (56, iV (cmp_Compare_int y1.Day x3)), (57, .slice (some ⟨b6, 0, none⟩) 2 2), (58, iV (cmp_Or_int [(cmp_Compare_int y1.Time x4), (cmp_Compare_int y1.Day x3)])), (59, bV (decide ((cmp_Or_int [(cmp_Compare_int y1.Time x4), (cmp_Compare_int y1.Day x3)]) < 0))), (60, bV (decide ((cmp_Or_int [(cmp_Compare_int y1.Time x4), (cmp_Compare_int y1.Day x3)]) < 0)))] [true, true, true, true] rfl (subR rfl)
       refine then_n ?_
       exact ⟨decide ((cmp_Or_int [(cmp_Compare_int y1.Time x4), (cmp_Compare_int y1.Day x3)]) < 0), h, S.nf [false, true, true, true] rfl (subR rfl)⟩
     clear S h; rintro a w11 ⟨x11, h, S⟩; rw [hj3] at h; clear hj3 j3
     refine then_n ?_
     obtain ⟨j4, hj4, h⟩ := joinE h
     refine f_join (fun a w' => ∃ x12 : ByteArray, ∃ x13 : ByteArray, ∃ x14 : Int, ∃ x15 : Int, ∃ x16 : Bool, j4 x12 x13 x14 x15 x16 = r ∧ Sx w [] nov [.blk b4 (GMark.enc y1) 38, .blk b2 [sV x12, sV x13, iV x14, iV x15] 38, .blk b1 [sV k_empty, sV k_empty, iV 0, iV 0] 38] [(1, sV p_race), (2, sV p_who), (3, iV p_from), (4, iV p_to), (10, .pointer (some ⟨b1, 0, none⟩)), (12, .pointer (some ⟨b2, 0, none⟩)), (13, bV x16), (16, v_p_l), (17, iV (p_l.length : Int)), (18, iV (i1 : Int))] 65 a w') ?_ ?_
     ·refine f_cond (S.tm rfl) (fun hb6 => ?_) (fun hb6 => ?_)
      ·replace h := iteT h hb6
       refine f_region (lv S (rn_ldA Tryd.isAgg38 Tryd.sizeOf38 (off := 0) (o := 0) (part := (GMark.enc y1)) rfl rfl (S.tm rfl) (S.cellsAt (i := 0) rfl)) rfl ?_); clear S; intro a S
       refine l_store S (S.tm rfl) (S.tm rfl) (i := 1) (off := 0) rfl Tryd.sizeOf38 (vs := (GMark.enc y1)) rfl rfl rfl rfl ?_; clear S; intro w23 hk18 S
       refine lv S (rn_assign rfl) rfl ?_; clear S; intro a S
       refine l_done (then_n ?_)
       exact ⟨y1.Who, y1.Race, y1.Day, y1.Time, true, h, S.nf [true, true, true] rfl (subR rfl)⟩
      ·replace h := iteF h hb6
       refine wp_skip (then_n ?_)
       exact ⟨x1, x2, x3, x4, x5, h, S.nf [true, true, true] rfl (subR rfl)⟩
     clear S h; rintro a w22 ⟨x12, x13, x14, x15, x16, h, S⟩; rw [hj4] at h; clear hj4 j4
     refine blk_n (then_n ?_)
     exact ⟨x12, x13, x14, x15, x16, h, S.nf [false, true, true] rfl (subR rfl)⟩
   clear S h; rintro a w5 ⟨x6, x7, x8, x9, x10, h, S⟩; rw [hj2] at h; clear hj2 j2
   refine then_n (f_region (lv S (rn_add (S.tm rfl) rfl) rfl ?_)); clear S; intro a S
   refine lv S (rn_move (S.tm rfl)) rfl ?_; clear S; intro a S
   refine l_done (then_n ?_)
   exact ⟨ys1, ⟨i1 + 1, x6, x7, x8, x9, x10, ⟨_, (hd1).trans (List.append_cons _ _ _), by simp [hi1]⟩, h, S.nf [true, true] rfl ⟨rfl, rfl, rfl, rfl, rfl, rfl, rfl, rfl, rfl, (congrArg (fun z => some (Value.int .i64 z)) (rng_next hd1 hi1 (slc_max hs_p_l))), trivial⟩⟩, Nat.lt_succ_self _⟩
 clear S h; rintro a w4 ⟨x1, x2, x3, x4, x5, h, S⟩; rw [hj1] at h; clear hj1 j1
 refine then_n (f_seq (f_region (lv S (rn_ldA Tryd.isAgg38 Tryd.sizeOf38 (off := 0) (o := 0) (part := [sV x1, sV x2, iV x3, iV x4]) rfl rfl (S.tm rfl) (S.cellsAt (i := 0) rfl)) rfl ?_))); clear S; intro a S
 refine lv S (rn_move (S.tm rfl)) rfl ?_; clear S; intro a S
 refine l_store S (S.tm rfl) (S.tm rfl) (i := 1) (off := 0) rfl Tryd.sizeOf38 (vs := [sV x1, sV x2, iV x3, iV x4]) rfl rfl rfl rfl ?_; clear S; intro w24 hk19 S
 refine lv S (rn_assign (S.tm rfl)) rfl ?_; clear S; intro a S
 refine l_done (then_n (wp_ret ?_))
 subst h
 exact f_retG S (rs := [.cell 10 38, .tmp 11]) (vs := [.agg #[sV x1, sV x2, iV x3, iV x4], bV x5]) Tryd.results27 ⟨(res_cell (off := 0) S rfl Tryd.isAgg38 Tryd.sizeOf38 rfl (S.cellsAt (i := 1) rfl)), (res_tmp S rfl), trivial⟩ rfl rfl
theorem swimmer_Best_ok (w : World) (v_p_l : Value) (p_l : List GMark) (hs_p_l : Slc (view w []) 4 v_p_l (p_l.map GMark.enc)) (p_race : ByteArray) (p_who : ByteArray) (p_from : Int) (p_to : Int) (r : GMark × Bool × Int) (h : swimmer_Best p_l p_race p_who p_from p_to = some r) :
    Calls Tryd.prog 9 [v_p_l, sV p_race, sV p_who, iV p_from, iV p_to].toArray w (Ret w [] fun _ v _ => v = .tuple #[.agg (GMark.enc r.1).toArray, bV r.2.1, iV r.2.2]) := by
 refine f_enter [] [] Tryd.func9 rfl Tryd.ntmps9 rfl (by simp) (by simp [fps]) (by simp [fps]) fun a S => ?_
 unfold swimmer_Best at h
 replace S := S.nk [] [(0, v_p_l), (1, sV p_race), (2, sV p_who), (3, iV p_from), (4, iV p_to)] [] rfl (subR rfl)
 refine f_seq (f_region (l_alloc S Tryd.zeroValue38 (cs := [sV k_empty, sV k_empty, iV 0, iV 0]) rfl rfl ?_)); clear S; intro a w1 b1 hz1 hk1 S
 refine lv S (rn_assign rfl) rfl ?_; clear S; intro a S
 refine lv S (rn_assign rfl) rfl ?_; clear S; intro a S
 refine l_done (then_n (f_seq (f_seq (f_region (lv S (rn_move (S.tm rfl)) rfl ?_))))); clear S; intro a S
 obtain ⟨r1, hr1, h⟩ := bindE h
 refine l_enter S (fun _ => run_call (vs := [v_p_l]) ⟨(S.tm rfl), trivial⟩ Tryd.call24) (swimmer_CheckMarks_ok _ v_p_l p_l (hs_p_l.mono (S.le_arg nil_sub)) _ hr1) rfl ?_; clear S; intro v1 a w2 hv1 hk2 hn1 S
 subst hv1
 refine lv S (rn_assign (S.tm rfl)) rfl ?_; clear S; intro a S
 refine l_done (then_n (f_seq (f_region (lv S (rn_move (S.tm rfl)) rfl ?_)))); clear S; intro a S
 refine lv S (rn_neq (S.tm rfl) rfl) rfl ?_; clear S; intro a S
 refine l_done (then_n (f_cond (S.tm rfl) (fun hb1 => ?_) (fun hb1 => ?_)))
 ·replace h := iteT h hb1
  refine f_seq (f_region (lv S (rn_bld bt_38 (pv := []) trivial (cs := [sV k_empty, sV k_empty, iV 0, iV 0]) (by kernel_rfl)) rfl ?_)); clear S; intro a S
  refine lv S (rn_move (S.tm rfl)) rfl ?_; clear S; intro a S
  refine l_store S (S.tm rfl) (S.tm rfl) (i := 0) (off := 0) rfl Tryd.sizeOf38 (vs := [sV k_empty, sV k_empty, iV 0, iV 0]) rfl rfl rfl rfl ?_; clear S; intro w3 hk3 S
  refine lv S (rn_assign rfl) rfl ?_; clear S; intro a S
  refine lv S (rn_assign (S.tm rfl)) rfl ?_; clear S; intro a S
  refine l_done ?_
  replace S := S.nk [.blk b1 [sV k_empty, sV k_empty, iV 0, iV 0] 38] [(10, .pointer (some ⟨b1, 0, none⟩)), (11, bV false), (12, iV r1)] [true] rfl (subR rfl)
  refine then_n (wp_ret (then_r ?_))
  obtain rfl := Option.some.inj h
  exact f_retG S (rs := [.cell 10 38, .tmp 11, .tmp 12]) (vs := [.agg #[sV k_empty, sV k_empty, iV 0, iV 0], bV false, iV r1]) Tryd.results9 ⟨(res_cell (off := 0) S rfl Tryd.isAgg38 Tryd.sizeOf38 rfl (S.cellsAt (i := 0) rfl)), (res_tmp S rfl), (res_tmp S rfl), trivial⟩ rfl rfl
 ·replace h := iteF h hb1
  refine wp_skip (then_n (f_seq (f_seq (f_region (lv S (rn_move (S.tm rfl)) rfl ?_))))); clear S; intro a S
  obtain ⟨r2, hr2, h⟩ := bindE h
  refine l_enter S (fun _ => run_call (vs := [sV p_race]) ⟨(S.tm rfl), trivial⟩ Tryd.call25) (words_IsKey_ok _ p_race _ hr2) rfl ?_; clear S; intro v2 a w4 hv2 hk4 hn2 S
  subst hv2
  refine lv S (rn_not (S.tm rfl)) rfl ?_; clear S; intro a S
  refine lv S (rn_move (S.tm rfl)) rfl ?_; clear S; intro a S
  obtain ⟨j1, hj1, h⟩ := joinE h
  refine f_cutm 4 (fun a w' => ∃ c1, j1 c1 = some r ∧ Keep [] w4 w' ∧ Sx w [] nov [.blk b1 [sV k_empty, sV k_empty, iV 0, iV 0] 38] [(0, v_p_l), (1, sV p_race), (2, sV p_who), (3, iV p_from), (4, iV p_to), (10, .pointer (some ⟨b1, 0, none⟩)), (29, bV c1)] 51 a w') ?_ ?_
  ·rcases Bool.eq_false_or_eq_true (!r2) with hb2 | hb2
   ·replace h := iteT h hb2
    iterate 3 (refine l_skip S rfl rfl rfl (neq_t hb2) rfl ?_ rfl; clear S; intro a S)
    refine lv S (rn_or_t true hb2 (S.tm rfl) rfl) rfl ?_; clear S; intro a S
    refine l_done (then_n ?_)
    exact ⟨_, h, Keep.refl _ _, S.nf [true] rfl (subR rfl)⟩
   ·replace h := iteF h hb2
    refine l_want S rfl rfl rfl hb2 (lv S (rn_move (S.tm rfl)) rfl ?_); clear S; intro a S
    refine l_want S rfl rfl rfl hb2 ?_
    obtain ⟨r3, hr3, h⟩ := bindE h
    refine l_enter S (fun _ => run_call (vs := [sV p_who]) ⟨(S.tm rfl), trivial⟩ Tryd.call25) (words_IsKey_ok _ p_who _ hr3) rfl ?_; clear S; intro v3 a w6 hv3 hk5 hn3 S
    subst hv3
    refine l_want S rfl rfl rfl hb2 (lv S (rn_not (S.tm rfl)) rfl ?_); clear S; intro a S
    refine lv S (rn_or_f hb2 (S.tm rfl) (S.tm rfl)) rfl ?_; clear S; intro a S
    refine l_done (then_n ?_)
    exact ⟨_, h, hk5, S.nf [true] rfl (subR rfl)⟩
  clear S h; rintro a w5 ⟨c1, h, hk6, S⟩; rw [hj1] at h; clear hj1 j1
  refine l_done (then_n (f_cond (S.tm rfl) (fun hb3 => ?_) (fun hb3 => ?_)))
  ·replace h := iteT h hb3
   refine f_seq (f_region (lv S (rn_bld bt_38 (pv := []) trivial (cs := [sV k_empty, sV k_empty, iV 0, iV 0]) (by kernel_rfl)) rfl ?_)); clear S; intro a S
   refine l_store S (S.tm rfl) (S.tm rfl) (i := 0) (off := 0) rfl Tryd.sizeOf38 (vs := [sV k_empty, sV k_empty, iV 0, iV 0]) rfl rfl rfl rfl ?_; clear S; intro w7 hk7 S
   refine lv S (rn_assign rfl) rfl ?_; clear S; intro a S
   refine lv S (rn_assign rfl) rfl ?_; clear S; intro a S
   refine l_done (then_n (wp_ret (then_r ?_)))
   obtain rfl := Option.some.inj h
   exact f_retG S (rs := [.cell 10 38, .tmp 11, .tmp 12]) (vs := [.agg #[sV k_empty, sV k_empty, iV 0, iV 0], bV false, iV 5]) Tryd.results9 ⟨(res_cell (off := 0) S rfl Tryd.isAgg38 Tryd.sizeOf38 rfl (S.cellsAt (i := 0) rfl)), (res_tmp S rfl), (res_tmp S rfl), trivial⟩ rfl rfl
  ·replace h := iteF h hb3
   refine wp_skip (then_n (f_seq (f_seq (f_region (lv S (rn_move (S.tm rfl)) rfl ?_))))); clear S; intro a S
   refine lv S (rn_move (S.tm rfl)) rfl ?_; clear S; intro a S
   refine l_enter S (fun _ => run_call (vs := [iV p_from, iV (-40000), iV p_to]) ⟨(S.tm rfl), rfl, (S.tm rfl), trivial⟩ Tryd.call26) (words_Within_ok _ p_from (-40000) p_to _ rfl) rfl ?_; clear S; intro v4 a w8 hv4 hk8 hn4 S
   subst hv4
   refine lv S (rn_not (S.tm rfl)) rfl ?_; clear S; intro a S
   refine lv S (rn_move (S.tm rfl)) rfl ?_; clear S; intro a S
   refine f_cutm 3 (fun a w' => Keep [] w8 w' ∧ Sx w [] nov [.blk b1 [sV k_empty, sV k_empty, iV 0, iV 0] 38] [(0, v_p_l), (1, sV p_race), (2, sV p_who), (3, iV p_from), (4, iV p_to), (10, .pointer (some ⟨b1, 0, none⟩)), (38, bV ((!(words_Within p_from (-40000) p_to)) || (decide (4000 < p_to))))] 51 a w') ?_ ?_
   ·rcases Bool.eq_false_or_eq_true (!(words_Within p_from (-40000) p_to)) with hb4 | hb4
    ·refine l_skip S rfl rfl rfl (neq_t hb4) rfl ?_ rfl; clear S; intro a S
     refine l_skip S rfl rfl rfl (neq_t hb4) rfl ?_ rfl; clear S; intro a S
     refine lv S (rn_or_t (decide (4000 < p_to)) hb4 (S.tm rfl) rfl) rfl ?_; clear S; intro a S
     refine l_done (then_n ?_)
     exact ⟨Keep.refl _ _, S.nf [true] rfl (subR rfl)⟩
    ·refine l_want S rfl rfl rfl hb4 (lv S (rn_move (S.tm rfl)) rfl ?_); clear S; intro a S
     refine l_want S rfl rfl rfl hb4 (lv S (rn_gtr (S.tm rfl) rfl) rfl ?_); clear S; intro a S
     refine lv S (rn_or_f hb4 (S.tm rfl) (S.tm rfl)) rfl ?_; clear S; intro a S
     refine l_done (then_n ?_)
     exact ⟨Keep.refl _ _, S.nf [true] rfl (subR rfl)⟩
   clear S; rintro a w9 ⟨hk9, S⟩
   refine l_done (then_n (f_cond (S.tm rfl) (fun hb5 => ?_) (fun hb5 => ?_)))
   ·replace h := iteT h hb5
    refine f_seq (f_region (lv S (rn_bld bt_38 (pv := []) trivial (cs := [sV k_empty, sV k_empty, iV 0, iV 0]) (by kernel_rfl)) rfl ?_)); clear S; intro a S
    refine l_store S (S.tm rfl) (S.tm rfl) (i := 0) (off := 0) rfl Tryd.sizeOf38 (vs := [sV k_empty, sV k_empty, iV 0, iV 0]) rfl rfl rfl rfl ?_; clear S; intro w10 hk10 S
    refine lv S (rn_assign rfl) rfl ?_; clear S; intro a S
    refine lv S (rn_assign rfl) rfl ?_; clear S; intro a S
    refine l_done (then_n (wp_ret (then_r ?_)))
    obtain rfl := Option.some.inj h
    exact f_retG S (rs := [.cell 10 38, .tmp 11, .tmp 12]) (vs := [.agg #[sV k_empty, sV k_empty, iV 0, iV 0], bV false, iV 1]) Tryd.results9 ⟨(res_cell (off := 0) S rfl Tryd.isAgg38 Tryd.sizeOf38 rfl (S.cellsAt (i := 0) rfl)), (res_tmp S rfl), (res_tmp S rfl), trivial⟩ rfl rfl
   ·replace h := iteF h hb5
    refine wp_skip (then_n (f_seq (f_region (lv S (rn_move (S.tm rfl)) rfl ?_)))); clear S; intro a S
    iterate 4 (refine lv S (rn_move (S.tm rfl)) rfl ?_; clear S; intro a S)
    refine l_enter S (fun _ => run_call (vs := [v_p_l, sV p_race, sV p_who, iV p_from, iV p_to]) ⟨(S.tm rfl), (S.tm rfl), (S.tm rfl), (S.tm rfl), (S.tm rfl), trivial⟩ Tryd.call27) (swimmer_best_ok _ v_p_l p_l (hs_p_l.mono (S.le_arg nil_sub)) p_race p_who p_from p_to _ rfl) rfl ?_; clear S; intro v5 a w11 hv5 hk11 hn5 S
    subst hv5
    refine lv S (rn_move (S.tm rfl)) rfl ?_; clear S; intro a S
    refine lv S (rn_extract (S.tm rfl) rfl) rfl ?_; clear S; intro a S
    refine lv S (rn_extract (S.tm rfl) rfl) rfl ?_; clear S; intro a S
    refine l_alloc S Tryd.zeroValue38 (cs := [sV k_empty, sV k_empty, iV 0, iV 0]) rfl rfl ?_; clear S; intro a w12 b2 hz2 hk12 S
    refine l_store S (S.tm rfl) (S.tm rfl) (i := 0) (off := 0) rfl Tryd.sizeOf38 (vs := (GMark.enc ((swimmer_best p_l p_race p_who p_from p_to).1))) rfl rfl rfl rfl ?_; clear S; intro w13 hk13 S
    refine lv S (rn_assign (S.tm rfl)) rfl ?_; clear S; intro a S
    refine l_done ?_
    replace S := S.nk [.blk b2 (GMark.enc ((swimmer_best p_l p_race p_who p_from p_to).1)) 38, .blk b1 [sV k_empty, sV k_empty, iV 0, iV 0] 38] [(10, .pointer (some ⟨b1, 0, none⟩)), (14, .pointer (some ⟨b2, 0, none⟩)), (15, bV ((swimmer_best p_l p_race p_who p_from p_to).2))] [true, true] rfl (subR rfl)
    refine then_n (f_seq (f_region (lv S (rn_ldA Tryd.isAgg38 Tryd.sizeOf38 (off := 0) (o := 0) (part := (GMark.enc ((swimmer_best p_l p_race p_who p_from p_to).1))) rfl rfl (S.tm rfl) (S.cellsAt (i := 0) rfl)) rfl ?_))); clear S; intro a S
    refine lv S (rn_move (S.tm rfl)) rfl ?_; clear S; intro a S
    refine l_store S (S.tm rfl) (S.tm rfl) (i := 1) (off := 0) rfl Tryd.sizeOf38 (vs := (GMark.enc ((swimmer_best p_l p_race p_who p_from p_to).1))) rfl rfl rfl rfl ?_; clear S; intro w14 hk14 S
    refine lv S (rn_assign (S.tm rfl)) rfl ?_; clear S; intro a S
    refine lv S (rn_assign rfl) rfl ?_; clear S; intro a S
    refine l_done (then_n (wp_ret ?_))
    obtain rfl := Option.some.inj h
    exact f_retG S (rs := [.cell 10 38, .tmp 11, .tmp 12]) (vs := [.agg (GMark.enc ((swimmer_best p_l p_race p_who p_from p_to).1)).toArray, bV ((swimmer_best p_l p_race p_who p_from p_to).2), iV 0]) Tryd.results9 ⟨(res_cell (off := 0) S rfl Tryd.isAgg38 Tryd.sizeOf38 rfl (S.cellsAt (i := 1) rfl)), (res_tmp S rfl), (res_tmp S rfl), trivial⟩ rfl rfl
set_option maxRecDepth 20000 in
theorem swimmer_CheckLegs_ok (w : World) (v_p_l : Value) (p_l : List GLeg) (rs_p_l : List R49) (hs_p_l : Slc (view w []) 2 v_p_l (rs_p_l.map R49.enc)) (hr_p_l : All2 (rel_49 (view w [])) p_l rs_p_l) (r : Int) (h : swimmer_CheckLegs p_l = some r) :
    Calls Tryd.prog 28 [v_p_l].toArray w (Ret w [] fun _ v _ => v = iV r) := by
 refine f_enter [] [] Tryd.func28 rfl Tryd.ntmps28 rfl (by simp) (by simp [fps]) (by simp [fps]) fun a S => ?_
 unfold swimmer_CheckLegs at h
 replace S := S.nk [] [(0, v_p_l)] [] rfl ⟨rfl, trivial⟩
 refine f_seq (f_region (lv S (rn_assign rfl) rfl ?_)); clear S; intro a S
 refine l_done (then_n (f_seq (f_seq (f_region (lv S (rn_move (S.tm rfl)) rfl ?_))))); clear S; intro a S
 refine lv S (rn_lenT sl_30 (S.tm rfl) (slc_lenD hs_p_l hr_p_l)) rfl ?_; clear S; intro a S
 refine lv S (rn_gtr (S.tm rfl) rfl) rfl ?_; clear S; intro a S
 refine l_done (then_n (f_cond (S.tm rfl) (fun hb1 => ?_) (fun hb1 => ?_)))
 ·replace h := iteT h hb1
  refine f_seq (f_region (lv S (rn_assign rfl) rfl ?_)); clear S; intro a S
  refine l_done (then_n (wp_ret (then_r ?_)))
  obtain rfl := Option.some.inj h
  exact f_ret S Tryd.results28 rfl rfl
 ·replace h := iteF h hb1
  refine wp_skip (then_n (f_seq (f_seq (f_region (lv S (rn_move (S.tm rfl)) rfl ?_))))); clear S; intro a S
  refine lv S (rn_lenT sl_30 (S.tm rfl) (slc_lenD hs_p_l hr_p_l)) rfl ?_; clear S; intro a S
  refine lv S (rn_move rfl) rfl ?_; clear S; intro a S
  refine l_done (then_n ?_)
  replace S := S.nk [] [(0, v_p_l), (10, v_p_l), (11, iV (p_l.length : Int)), (12, iV 0)] [] rfl (subR rfl)
  obtain ⟨j1, hj1, h⟩ := joinE h
  refine f_join (fun a w' => j1 = some r ∧ Sx w [] nov [] [] 53 a w') ?_ ?_
  ·refine wp_block (f_loop (fun (ys1 : List GLeg) a w' => ∃ i1 : Nat, (∃ dn, p_l = dn ++ ys1 ∧ dn.length = i1) ∧ swimmer_CheckLegs_l1 p_l j1 ys1 i1 = some r ∧ Sx w [] nov [] [(0, v_p_l), (10, v_p_l), (11, iV (p_l.length : Int)), (12, iV (i1 : Int))] 53 a w') List.length p_l ⟨0, ⟨[], rfl, rfl⟩, h, S.nf [] rfl (subR rfl)⟩ ?_)
   clear S h; rintro ys1 a w1 ⟨i1, ⟨dn, hd1, hi1⟩, h, S⟩
   cases ys1 with
   | nil =>
    rw [swimmer_CheckLegs_l1.eq_1] at h
    refine f_seq (f_region (lv S (rn_lss (S.tm rfl) (S.tm rfl)) rfl ?_)); clear S; intro a S
    refine l_done ?_
    replace S := S.nk [] [(0, v_p_l), (10, v_p_l), (11, iV (p_l.length : Int)), (12, iV (i1 : Int)), (13, bV (decide ((i1 : Int) < (p_l.length : Int))))] [] rfl (subR rfl)
    refine then_n (f_seq (wp_cond_false ((S.tm rfl).trans (congrArg Value.bool (rng_nil hd1 hi1))) (wp_exit (then_x (then_x (x_same ?_))))))
    refine then_n ?_
    exact ⟨h, S.nf [] rfl trivial⟩
   | cons y1 ys1 =>
    rw [swimmer_CheckLegs_l1.eq_2] at h
    refine f_seq (f_region (lv S (rn_lss (S.tm rfl) (S.tm rfl)) rfl ?_)); clear S; intro a S
    refine l_done ?_
    replace S := S.nk [] [(0, v_p_l), (10, v_p_l), (11, iV (p_l.length : Int)), (12, iV (i1 : Int)), (13, bV (decide ((i1 : Int) < (p_l.length : Int))))] [] rfl (subR rfl)
    refine then_n (f_seq (wp_cond_true ((S.tm rfl).trans (congrArg Value.bool (rng_cons hd1 hi1))) (wp_skip (then_n (f_seq (wp_block ?_))))))
    refine f_seq (f_region (lv S (rn_move (S.tm rfl)) rfl ?_)); clear S; intro a S
    obtain ⟨r1, hg1, hl1⟩ := All2.at hr_p_l (get_mid hd1 hi1)
    obtain ⟨u1, rfl, hs1⟩ := hl1
    obtain ⟨b1, o1, hm1, hr1⟩ := rn_indexT (a := a) (x := .tmp 10) (y := .tmp 12) (ty := 0) sl_30 hs_p_l hg1 rfl (S.tm rfl) (S.tm rfl)
    refine lv S (hr1 _) rfl ?_; clear S; intro a S
    clear hr1
    refine lv S (rn_ldA Tryd.isAgg49 Tryd.sizeOf49 (off := o1) (o := 0) (part := [sV y1.Who, u1.val]) rfl rfl (S.tm rfl) (hm1.at S.emb0)) rfl ?_; clear S; intro a S
    refine l_alloc S Tryd.zeroValue49 (cs := [sV k_empty, .slice none 0 0]) rfl rfl ?_; clear S; intro a w3 b2 hz1 hk1 S
    refine lv S (rn_assign (S.tm rfl)) rfl ?_; clear S; intro a S
    refine l_store S (S.tm rfl) (S.tm rfl) (i := 0) (off := 0) rfl Tryd.sizeOf49 (vs := [sV y1.Who, u1.val]) rfl rfl rfl (all1 rfl (all1 (SlcLen.one (slc_len hs1)) rfl)) ?_; clear S; intro w4 hk2 S
    refine l_done (then_n (f_seq (wp_block (f_seq (f_region (lv S (rn_fld fa_49_0 (S.tm rfl)) rfl ?_)))))); clear S; intro a S
    refine lv S (rn_load Tryd.isAgg9 (S.tm rfl) (S.cell (i := 0) rfl rfl)) rfl ?_; clear S; intro a S
    obtain ⟨r2, hr2, h⟩ := bindE h
    refine l_enter S (fun _ => run_call (vs := [sV y1.Who]) ⟨(S.tm rfl), trivial⟩ Tryd.call25) (words_IsKey_ok _ y1.Who _ hr2) rfl ?_; clear S; intro v1 a w5 hv1 hk3 hn1 S
    subst hv1
    refine lv S (rn_not (S.tm rfl)) rfl ?_; clear S; intro a S
    refine lv S (rn_assign (S.tm rfl)) rfl ?_; clear S; intro a S
    refine l_done ?_
    replace S := S.nk [.blk b2 [sV y1.Who, u1.val] 49] [(0, v_p_l), (3, iV (i1 : Int)), (4, .pointer (some ⟨b2, 0, none⟩)), (10, v_p_l), (11, iV (p_l.length : Int)), (12, iV (i1 : Int)), (17, bV (!r2))] [true] rfl (subR rfl)
    refine then_n (f_cond (S.tm rfl) (fun hb2 => ?_) (fun hb2 => ?_))
    ·replace h := iteT h hb2
     refine f_seq (f_region (lv S (rn_assign rfl) rfl ?_)); clear S; intro a S
     refine l_done (then_n (wp_ret (blk_r (then_r (blk_r (then_r ?_))))))
     refine then_r (blk_r (then_r (then_r ?_)))
     obtain rfl := Option.some.inj h
     exact f_ret S Tryd.results28 rfl rfl
    ·replace h := iteF h hb2
     refine f_seq (d_region [] ([]) Tryd.mixed S rfl (by kernel_rfl) ?_); clear S; intro w6 hk4 hsel S
     refine d_rest [0, 1, 2, 3, 4, 5, 6, 7, 8, 9, 10, 11, 12, 13] hsel (by kernel_rfl) rfl ?_
     clear hsel
     refine s_lv S rfl (rn_move (S.tm rfl)) rfl ?_; clear S; intro a S
     refine s_lv S rfl (rn_gtr (S.tm rfl) rfl) rfl ?_; clear S; intro a S
     refine s_lv S rfl (rn_move (S.tm rfl)) rfl ?_; clear S; intro a S
     obtain ⟨j2, hj2, h⟩ := joinE h
     refine s_cutm 10 (fun a w' => ∃ c1, j2 c1 = some r ∧ Keep [] w6 w' ∧ Sx w [] nov [.blk b2 [sV y1.Who, u1.val] 49] [(0, v_p_l), (4, .pointer (some ⟨b2, 0, none⟩)), (10, v_p_l), (11, iV (p_l.length : Int)), (12, iV (i1 : Int)), (35, bV c1)] 53 a w') ?_ ?_
     ·rcases Bool.eq_false_or_eq_true (decide (0 < (i1 : Int))) with hb3 | hb3
      ·replace h := iteT h hb3
       refine s_want S rfl rfl rfl rfl hb3 (s_lv0 S (rn_fld fa_49_0 (S.tm rfl)) rfl ?_); clear S; intro a S
       refine s_want S rfl rfl rfl rfl hb3 (s_lv0 S (rn_load Tryd.isAgg9 (S.tm rfl) (S.cell (i := 0) rfl rfl)) rfl ?_); clear S; intro a S
       refine s_want S rfl rfl rfl rfl hb3 (s_lv0 S (rn_move (S.tm rfl)) rfl ?_); clear S; intro a S
       refine s_want S rfl rfl rfl rfl hb3 (s_lv0 S (rn_move (S.tm rfl)) rfl ?_); clear S; intro a S
       refine s_want S rfl rfl rfl rfl hb3 (s_lv0 S (rn_sub (S.tm rfl) rfl) rfl ?_); clear S; intro a S
       refine s_want S rfl rfl rfl rfl hb3 ?_
       obtain ⟨hc1, h⟩ := chkE h
       obtain ⟨r3, hg2, hl2⟩ := all2_get hr_p_l hc1
       obtain ⟨u2, rfl, hs2⟩ := hl2
       obtain ⟨b3, o2, hm2, hr3⟩ := rn_indexT (a := a) (x := .tmp 28) (y := .tmp 30) (ty := 0) sl_30 hs_p_l hg2 (inB_get hc1).2 (S.tm rfl) (S.tm rfl)
       refine s_lv0 S (hr3 _) rfl ?_; clear S; intro a S
       clear hr3
       refine s_want S rfl rfl rfl rfl hb3 (s_lv0 S (rn_fld fa_49_0 (S.tm rfl)) rfl ?_); clear S; intro a S
       refine s_want S rfl rfl rfl rfl hb3 (s_lv0 S (rn_ld Tryd.isAgg9 (off := o2) (o := 0) (S.tm rfl) (hm2.at S.emb0) rfl) rfl ?_); clear S; intro a S
       refine s_want S rfl rfl rfl rfl hb3 (s_lv0 S (rn_sleq (S.tm rfl) (S.tm rfl)) rfl ?_); clear S; intro a S
       refine s_lv S rfl (rn_and_t hb3 (S.tm rfl) (S.tm rfl)) rfl ?_; clear S; intro a S
       refine s_done ?_
       exact ⟨_, h, Keep.refl _ _, S.nf [true] rfl (subR rfl)⟩
      ·replace h := iteF h hb3
       iterate 9 (refine s_skip S rfl rfl rfl rfl (neq_f hb3) rfl ?_ rfl; clear S; intro a S)
       refine s_lv S rfl (rn_and_f true hb3 (S.tm rfl) rfl) rfl ?_; clear S; intro a S
       refine s_done ?_
       exact ⟨_, h, Keep.refl _ _, S.nf [true] rfl (subR rfl)⟩
     clear S h; rintro a w7 ⟨c1, h, hk5, S⟩; rw [hj2] at h; clear hj2 j2
     refine s_lv S rfl (rn_assign (S.tm rfl)) rfl ?_; clear S; intro a S
     refine s_done ?_
     replace S := S.nk [.blk b2 [sV y1.Who, u1.val] 49] [(0, v_p_l), (4, .pointer (some ⟨b2, 0, none⟩)), (10, v_p_l), (11, iV (p_l.length : Int)), (12, iV (i1 : Int)), (22, bV c1)] [true] rfl (subR rfl)
     refine then_n (f_cond (S.tm rfl) (fun hb4 => ?_) (fun hb4 => ?_))
     ·replace h := iteT h hb4
      refine f_seq (f_region (lv S (rn_assign rfl) rfl ?_)); clear S; intro a S
      refine l_done (then_n (wp_ret (blk_r (then_r (blk_r (then_r ?_))))))
      refine then_r (blk_r (then_r (then_r ?_)))
      obtain rfl := Option.some.inj h
      exact f_ret S Tryd.results28 rfl rfl
     ·replace h := iteF h hb4
      refine f_seq (f_region (lv S (rn_fld fa_49_1 (S.tm rfl)) rfl ?_)); clear S; intro a S
      refine lv S (rn_load Tryd.isAgg22 (S.tm rfl) (S.cell (i := 0) rfl rfl)) rfl ?_; clear S; intro a S
      refine lv S (rn_lenT sl_22 (S.tm rfl) (slc_len hs1)) rfl ?_; clear S; intro a S
      refine lv S (rn_neq (S.tm rfl) rfl) rfl ?_; clear S; intro a S
      refine lv S (rn_assign (S.tm rfl)) rfl ?_; clear S; intro a S
      refine l_done (then_n (f_cond (S.tm rfl) (fun hb5 => ?_) (fun hb5 => ?_)))
      ·replace h := iteT h hb5
       refine f_seq (f_region (lv S (rn_assign rfl) rfl ?_)); clear S; intro a S
       refine l_done (then_n (wp_ret (blk_r (then_r (blk_r (then_r ?_))))))
       refine then_r (blk_r (then_r (then_r ?_)))
       obtain rfl := Option.some.inj h
       exact f_ret S Tryd.results28 rfl rfl
      ·replace h := iteF h hb5
       refine wp_skip (blk_n (then_n (f_seq (f_region (lv S (rn_fld fa_49_1 (S.tm rfl)) rfl ?_))))); clear S; intro a S
       refine lv S (rn_load Tryd.isAgg22 (S.tm rfl) (S.cell (i := 0) rfl rfl)) rfl ?_; clear S; intro a S
       refine lv S (rn_lenT sl_22 (S.tm rfl) (slc_len hs1)) rfl ?_; clear S; intro a S
       refine lv S (rn_move rfl) rfl ?_; clear S; intro a S
       refine l_done ?_
       replace S := S.nk [] [(0, v_p_l), (10, v_p_l), (11, iV (p_l.length : Int)), (12, iV (i1 : Int)), (42, u1.val), (43, iV (y1.Times.length : Int)), (44, iV 0)] [false] rfl (subR rfl)
       refine then_n ?_
       obtain ⟨j3, hj3, h⟩ := joinE h
       refine f_join (fun a w' => j3 = some r ∧ Sx w [] nov [] [(0, v_p_l), (10, v_p_l), (11, iV (p_l.length : Int)), (12, iV (i1 : Int))] 53 a w') ?_ ?_
       ·refine wp_block (f_loop (fun (ys2 : List Int) a w' => ∃ i2 : Nat, (∃ dn, y1.Times = dn ++ ys2 ∧ dn.length = i2) ∧ swimmer_CheckLegs_l2 j3 ys2 i2 = some r ∧ Sx w [] nov [] [(0, v_p_l), (10, v_p_l), (11, iV (p_l.length : Int)), (12, iV (i1 : Int)), (42, u1.val), (43, iV (y1.Times.length : Int)), (44, iV (i2 : Int))] 53 a w') List.length y1.Times ⟨0, ⟨[], rfl, rfl⟩, h, S.nf [] rfl (subR rfl)⟩ ?_)
        clear S h; rintro ys2 a w8 ⟨i2, ⟨dn, hd2, hi2⟩, h, S⟩
        cases ys2 with
        | nil =>
         rw [swimmer_CheckLegs_l2.eq_1] at h
         refine f_seq (f_region (lv S (rn_lss (S.tm rfl) (S.tm rfl)) rfl ?_)); clear S; intro a S
         refine l_done ?_
         replace S := S.nk [] [(0, v_p_l), (10, v_p_l), (11, iV (p_l.length : Int)), (12, iV (i1 : Int)), (42, u1.val), (43, iV (y1.Times.length : Int)), (44, iV (i2 : Int)), (45, bV (decide ((i2 : Int) < (y1.Times.length : Int))))] [] rfl (subR rfl)
         refine then_n (f_seq (wp_cond_false ((S.tm rfl).trans (congrArg Value.bool (rng_nil hd2 hi2))) (wp_exit (then_x (then_x (x_same ?_))))))
         refine then_n ?_
         exact ⟨h, S.nf [] rfl (subR rfl)⟩
        | cons y2 ys2 =>
         rw [swimmer_CheckLegs_l2.eq_2] at h
         refine f_seq (f_region (lv S (rn_lss (S.tm rfl) (S.tm rfl)) rfl ?_)); clear S; intro a S
         refine l_done ?_
         replace S := S.nk [] [(0, v_p_l), (10, v_p_l), (11, iV (p_l.length : Int)), (12, iV (i1 : Int)), (42, u1.val), (43, iV (y1.Times.length : Int)), (44, iV (i2 : Int)), (45, bV (decide ((i2 : Int) < (y1.Times.length : Int))))] [] rfl (subR rfl)
         refine then_n (f_seq (wp_cond_true ((S.tm rfl).trans (congrArg Value.bool (rng_cons hd2 hi2))) (wp_skip (then_n (f_seq (wp_block ?_))))))
         refine f_seq (f_region ?_)
         obtain ⟨b4, o3, hm3, hr4⟩ := rn_indexT (a := a) (x := .tmp 42) (y := .tmp 44) (ty := 0) sl_22 hs1 (get_mid hd2 hi2) rfl (S.tm rfl) (S.tm rfl)
         refine lv S (hr4 _) rfl ?_; clear S; intro a S
         clear hr4
         refine lv S (rn_ld Tryd.isAgg3 (off := o3) (o := 0) (S.tm rfl) (hm3.at S.emb0) rfl) rfl ?_; clear S; intro a S
         refine lv S (rn_assign (S.tm rfl)) rfl ?_; clear S; intro a S
         refine l_done (then_n (f_seq (f_region (lv S (rn_move (S.tm rfl)) rfl ?_)))); clear S; intro a S
         refine l_enter S (fun _ => run_call (vs := [iV y2, iV 0, iV 360000]) ⟨(S.tm rfl), rfl, rfl, trivial⟩ Tryd.call26) (words_Within_ok _ y2 0 360000 _ rfl) rfl ?_; clear S; intro v2 a w10 hv2 hk6 hn2 S
         subst hv2
         refine lv S (rn_not (S.tm rfl)) rfl ?_; clear S; intro a S
         refine l_done (then_n (f_cond (S.tm rfl) (fun hb6 => ?_) (fun hb6 => ?_)))
         ·replace h := iteT h hb6
          refine f_seq (f_region (lv S (rn_assign rfl) rfl ?_)); clear S; intro a S
          refine l_done ?_
          replace S := S.nk [] [(2, iV 1)] [] rfl ⟨rfl, trivial⟩
          refine then_n (wp_ret (blk_r (then_r (then_r (blk_r (then_r ?_))))))
          refine blk_r (then_r (then_r (blk_r (then_r (then_r ?_)))))
          obtain rfl := Option.some.inj h
          exact f_ret S Tryd.results28 rfl rfl
         ·replace h := iteF h hb6
          refine wp_skip (blk_n (then_n (f_region (lv S (rn_add (S.tm rfl) rfl) rfl ?_)))); clear S; intro a S
          refine lv S (rn_move (S.tm rfl)) rfl ?_; clear S; intro a S
          refine l_done ?_
          replace S := S.nk [] [(0, v_p_l), (10, v_p_l), (11, iV (p_l.length : Int)), (12, iV (i1 : Int)), (42, u1.val), (43, iV (y1.Times.length : Int)), (44, iV (W ((i2 : Int) + 1)))] [] rfl (subR rfl)
          refine then_n ?_
          exact ⟨ys2, ⟨i2 + 1, ⟨_, (hd2).trans (List.append_cons _ _ _), by simp [hi2]⟩, h, S.nf [] rfl ⟨rfl, rfl, rfl, rfl, rfl, rfl, (congrArg (fun z => some (Value.int .i64 z)) (rng_next hd2 hi2 (slc_max hs1))), trivial⟩⟩, Nat.lt_succ_self _⟩
       clear S h; rintro a w9 ⟨h, S⟩; rw [hj3] at h; clear hj3 j3
       refine blk_n (then_n (f_region (lv S (rn_add (S.tm rfl) rfl) rfl ?_))); clear S; intro a S
       refine lv S (rn_move (S.tm rfl)) rfl ?_; clear S; intro a S
       refine l_done (then_n ?_)
       exact ⟨ys1, ⟨i1 + 1, ⟨_, (hd1).trans (List.append_cons _ _ _), by simp [hi1]⟩, h, S.nf [] rfl ⟨rfl, rfl, rfl, (congrArg (fun z => some (Value.int .i64 z)) (rng_next hd1 hi1 (slc_maxD hs_p_l hr_p_l))), trivial⟩⟩, Nat.lt_succ_self _⟩
  clear S h; rintro a w2 ⟨h, S⟩; rw [hj1] at h; clear hj1 j1
  refine then_n (f_seq (f_region (lv S (rn_assign rfl) rfl ?_))); clear S; intro a S
  refine l_done (then_n (wp_ret ?_))
  obtain rfl := Option.some.inj h
  exact f_ret S Tryd.results28 rfl rfl
theorem slices_Clone_string_ok (w : World) (v_p_s : Value) (p_s : List ByteArray) (hs_p_s : Slc (view w []) 1 v_p_s (p_s.map eStr)) (r : (List ByteArray)) (h : slices_Clone_string p_s = some r) :
    Calls Tryd.prog 42 [v_p_s].toArray w (Ret w [] fun τ v _ => OwnV τ 9 1 v r.length (r.flatMap eStr)) := by
 refine f_enter [] [] Tryd.func42 rfl Tryd.ntmps42 rfl (by simp) (by simp [fps]) (by simp [fps]) fun a S => ?_
 unfold slices_Clone_string at h
 replace S := S.nk [] [(0, v_p_s)] [] rfl ⟨rfl, trivial⟩
 refine f_seq (f_region (lv S (rn_assign rfl) rfl ?_)); clear S; intro a S
 refine l_done (then_n (f_seq (f_seq (f_region (lv S (rn_move (S.tm rfl)) rfl ?_))))); clear S; intro a S
 refine lv S (rn_nileq Tryd.underlying32 (slc_len hs_p_s) (S.tm rfl) rfl) rfl ?_; clear S; intro a S
 refine l_done (then_n (f_cond (S.tm rfl) (fun hb1 => ?_) (fun hb1 => ?_)))
 ·have hx1 := slc_nilB hs_p_s hb1
  subst hx1
  replace h : some ([] : List ByteArray) = some r := h
  refine f_seq (f_region (lv S (rn_assign rfl) rfl ?_)); clear S; intro a S
  refine l_done (then_n (wp_ret (then_r ?_)))
  obtain rfl := Option.some.inj h
  exact f_ret S Tryd.results42 rfl (ownV_nil _ _ _)
 ·refine wp_skip (then_n (f_seq (f_region (l_buildSlice0 S Tryd.underlying32 Tryd.sizeOf9 rfl ?_)))); clear S; intro a w1 b1 hz1 hk1 S
  refine lv S (rn_move (S.tm rfl)) rfl ?_; clear S; intro a S
  replace S := S.litOwn (i := 0) (xs := ([] : List ByteArray)) rfl enc_str rfl rfl rfl
  replace S := S.nk [.own (.slice (some ⟨b1, 0, none⟩) 0 0) 9 1 (([] : List ByteArray) : List ByteArray).length ((([] : List ByteArray) : List ByteArray).flatMap eStr)] [(0, v_p_s), (2, .slice none 0 0), (3, v_p_s), (4, bV (nilB v_p_s)), (5, (.slice (some ⟨b1, 0, none⟩) 0 0)), (6, v_p_s)] [] rfl (subR rfl)
  obtain ⟨hc1, h⟩ := chkE h
  refine l_appendS (Y := []) sl_32 enc_str S (S.tm rfl) (i := 0) rfl (S.tm rfl) (hs_p_s.mono (S.le_arg (fun _ h => by cases h))) rfl rfl (by have := room_lt hc1; omega) rfl ?_; clear S; intro v1 a w2 hk2 S
  refine lv S (rn_assign (S.tm rfl)) rfl ?_; clear S; intro a S
  refine l_done (then_n (wp_ret ?_))
  obtain rfl := Option.some.inj h
  exact f_ret S Tryd.results42 rfl (own_retT S (i := 0) rfl rfl)
theorem stringslite_HasPrefix_ok (w : World) (p_s : ByteArray) (p_prefix : ByteArray) (r : Bool) (h : stringslite_HasPrefix p_s p_prefix = some r) :
    Calls Tryd.prog 65 [sV p_s, sV p_prefix].toArray w (Ret w [] fun _ v _ => v = bV r) := by
 refine f_enter [] [] Tryd.func65 rfl Tryd.ntmps65 rfl (by simp) (by simp [fps]) (by simp [fps]) fun a S => ?_
 unfold stringslite_HasPrefix at h
 replace S := S.nk [] [(0, sV p_s), (1, sV p_prefix)] [] rfl (subR rfl)
 refine f_seq (f_region (lv S (rn_assign rfl) rfl ?_)); clear S; intro a S
 refine l_done (then_n (f_seq (f_region (lv S (rn_move (S.tm rfl)) rfl ?_)))); clear S; intro a S
 refine lv S (rn_len_str Tryd.underlying9 (S.tm rfl)) rfl ?_; clear S; intro a S
 refine lv S (rn_move (S.tm rfl)) rfl ?_; clear S; intro a S
 refine lv S (rn_len_str Tryd.underlying9 (S.tm rfl)) rfl ?_; clear S; intro a S
 refine lv S (rn_geq (S.tm rfl) (S.tm rfl)) rfl ?_; clear S; intro a S
 refine lv S (rn_move (S.tm rfl)) rfl ?_; clear S; intro a S
 obtain ⟨j1, hj1, h⟩ := joinE h
 refine f_cutm 7 (fun a w' => ∃ c1, j1 c1 = some r ∧ Keep [] w w' ∧ Sx w [] nov [] [(17, bV c1)] 18 a w') ?_ ?_
 ·rcases Bool.eq_false_or_eq_true (decide ((p_prefix.size : Int) ≤ (p_s.size : Int))) with hb1 | hb1
  ·replace h := iteT h hb1
   refine l_want S rfl rfl rfl hb1 (lv S (rn_move (S.tm rfl)) rfl ?_); clear S; intro a S
   refine l_want S rfl rfl rfl hb1 (lv S (rn_move (S.tm rfl)) rfl ?_); clear S; intro a S
   refine l_want S rfl rfl rfl hb1 (lv S (rn_len_str Tryd.underlying9 (S.tm rfl)) rfl ?_); clear S; intro a S
   refine l_want S rfl rfl rfl hb1 ?_
   obtain ⟨hc1, h⟩ := chkE h
   refine lv S (rn_scutTh Tryd.underlying9 (S.tm rfl) (S.tm rfl) hc1) rfl ?_; clear S; intro a S
   refine l_want S rfl rfl rfl hb1 (lv S (rn_move (S.tm rfl)) rfl ?_); clear S; intro a S
   refine l_want S rfl rfl rfl hb1 (lv S (rn_seql (S.tm rfl) (S.tm rfl)) rfl ?_); clear S; intro a S
   refine lv S (rn_and_t hb1 (S.tm rfl) (S.tm rfl)) rfl ?_; clear S; intro a S
   refine l_done (then_n ?_)
   exact ⟨_, h, Keep.refl _ _, S.nf [] rfl ⟨rfl, trivial⟩⟩
  ·replace h := iteF h hb1
   iterate 6 (refine l_skip S rfl rfl rfl (neq_f hb1) rfl ?_ rfl; clear S; intro a S)
   refine lv S (rn_and_f true hb1 (S.tm rfl) rfl) rfl ?_; clear S; intro a S
   refine l_done (then_n ?_)
   exact ⟨_, h, Keep.refl _ _, S.nf [] rfl ⟨rfl, trivial⟩⟩
 clear S h; rintro a w1 ⟨c1, h, hk1, S⟩; rw [hj1] at h; clear hj1 j1
 refine lv S (rn_assign (S.tm rfl)) rfl ?_; clear S; intro a S
 refine l_done (then_n (wp_ret ?_))
 obtain rfl := Option.some.inj h
 exact f_ret S Tryd.results65 rfl rfl
theorem strings_HasPrefix_ok (w : World) (p_s : ByteArray) (p_prefix : ByteArray) (r : Bool) (h : strings_HasPrefix p_s p_prefix = some r) :
    Calls Tryd.prog 43 [sV p_s, sV p_prefix].toArray w (Ret w [] fun _ v _ => v = bV r) := by
 refine f_enter [] [] Tryd.func43 rfl Tryd.ntmps43 rfl (by simp) (by simp [fps]) (by simp [fps]) fun a S => ?_
 unfold strings_HasPrefix at h
 replace S := S.nk [] [(0, sV p_s), (1, sV p_prefix)] [] rfl (subR rfl)
 refine f_seq (f_region (lv S (rn_assign rfl) rfl ?_)); clear S; intro a S
 refine l_done (then_n (f_seq (f_region (lv S (rn_move (S.tm rfl)) rfl ?_)))); clear S; intro a S
 refine lv S (rn_move (S.tm rfl)) rfl ?_; clear S; intro a S
 obtain ⟨r1, hr1, h⟩ := bindE h
 refine l_enter S (fun _ => run_call (vs := [sV p_s, sV p_prefix]) ⟨(S.tm rfl), (S.tm rfl), trivial⟩ Tryd.call65) (stringslite_HasPrefix_ok _ p_s p_prefix _ hr1) rfl ?_; clear S; intro v1 a w1 hv1 hk1 hn1 S
 subst hv1
 refine lv S (rn_assign (S.tm rfl)) rfl ?_; clear S; intro a S
 refine l_done (then_n (wp_ret ?_))
 obtain rfl := Option.some.inj h
 exact f_ret S Tryd.results43 rfl rfl
theorem slices_Index_string_ok (w : World) (v_p_s : Value) (p_s : List ByteArray) (hs_p_s : Slc (view w []) 1 v_p_s (p_s.map eStr)) (p_v : ByteArray) (r : Int) (h : slices_Index_string p_s p_v = r) :
    Calls Tryd.prog 66 [v_p_s, sV p_v].toArray w (Ret w [] fun _ v _ => v = iV r) := by
 refine f_enter [] [] Tryd.func66 rfl Tryd.ntmps66 rfl (by simp) (by simp [fps]) (by simp [fps]) fun a S => ?_
 unfold slices_Index_string at h
 replace S := S.nk [] [(0, v_p_s), (1, sV p_v)] [] rfl (subR rfl)
 refine f_seq (f_region (lv S (rn_assign rfl) rfl ?_)); clear S; intro a S
 refine l_done (then_n (f_seq (f_seq (f_region (lv S (rn_move (S.tm rfl)) rfl ?_))))); clear S; intro a S
 refine lv S (rn_lenT sl_32 (S.tm rfl) (slc_len hs_p_s)) rfl ?_; clear S; intro a S
 refine lv S (rn_move rfl) rfl ?_; clear S; intro a S
 refine l_done (then_n ?_)
 replace S := S.nk [] [(0, v_p_s), (1, sV p_v), (7, iV (p_s.length : Int)), (8, iV 0)] [] rfl (subR rfl)
 obtain ⟨j1, hj1, h⟩ := joinE h
 refine f_join (fun a w' => j1 = r ∧ Sx w [] nov [] [] 19 a w') ?_ ?_
 ·refine wp_block (f_loop (fun (ys1 : List ByteArray) a w' => ∃ i1 : Nat, (∃ dn, p_s = dn ++ ys1 ∧ dn.length = i1) ∧ slices_Index_string_l1 p_v j1 ys1 i1 = r ∧ Sx w [] nov [] [(0, v_p_s), (1, sV p_v), (7, iV (p_s.length : Int)), (8, iV (i1 : Int))] 19 a w') List.length p_s ⟨0, ⟨[], rfl, rfl⟩, h, S.nf [] rfl (subR rfl)⟩ ?_)
  clear S h; rintro ys1 a w1 ⟨i1, ⟨dn, hd1, hi1⟩, h, S⟩
  cases ys1 with
  | nil =>
   rw [slices_Index_string_l1.eq_1] at h
   refine f_seq (f_region (lv S (rn_lss (S.tm rfl) (S.tm rfl)) rfl ?_)); clear S; intro a S
   refine l_done ?_
   replace S := S.nk [] [(0, v_p_s), (1, sV p_v), (7, iV (p_s.length : Int)), (8, iV (i1 : Int)), (9, bV (decide ((i1 : Int) < (p_s.length : Int))))] [] rfl (subR rfl)
   refine then_n (f_seq (wp_cond_false ((S.tm rfl).trans (congrArg Value.bool (rng_nil hd1 hi1))) (wp_exit (then_x (then_x (x_same ?_))))))
   refine then_n ?_
   exact ⟨h, S.nf [] rfl trivial⟩
  | cons y1 ys1 =>
   rw [slices_Index_string_l1.eq_2] at h
   refine f_seq (f_region (lv S (rn_lss (S.tm rfl) (S.tm rfl)) rfl ?_)); clear S; intro a S
   refine l_done ?_
   replace S := S.nk [] [(0, v_p_s), (1, sV p_v), (7, iV (p_s.length : Int)), (8, iV (i1 : Int)), (9, bV (decide ((i1 : Int) < (p_s.length : Int))))] [] rfl (subR rfl)
   refine then_n (f_seq (wp_cond_true ((S.tm rfl).trans (congrArg Value.bool (rng_cons hd1 hi1))) (wp_skip (then_n (f_seq (wp_block ?_))))))
   refine f_seq (f_region (lv S (rn_move (S.tm rfl)) rfl ?_)); clear S; intro a S
   refine lv S (rn_assign (S.tm rfl)) rfl ?_; clear S; intro a S
   refine l_done (then_n (f_seq (f_region (lv S (rn_move (S.tm rfl)) rfl ?_)))); clear S; intro a S
   refine lv S (rn_move (S.tm rfl)) rfl ?_; clear S; intro a S
   refine lv S (rn_move (S.tm rfl)) rfl ?_; clear S; intro a S
   obtain ⟨b1, o1, hm1, hr1⟩ := rn_indexT (a := a) (x := .tmp 12) (y := .tmp 13) (ty := 0) sl_32 hs_p_s (get_mid hd1 hi1) rfl (S.tm rfl) (S.tm rfl)
   refine lv S (hr1 _) rfl ?_; clear S; intro a S
   clear hr1
   refine lv S (rn_ld Tryd.isAgg9 (off := o1) (o := 0) (S.tm rfl) (hm1.at S.emb0) rfl) rfl ?_; clear S; intro a S
   refine lv S (rn_seql (S.tm rfl) (S.tm rfl)) rfl ?_; clear S; intro a S
   refine l_done (then_n (f_cond (S.tm rfl) (fun hb1 => ?_) (fun hb1 => ?_)))
   ·replace h := iteT h hb1
    refine f_seq (f_region (lv S (rn_move (S.tm rfl)) rfl ?_)); clear S; intro a S
    refine lv S (rn_assign (S.tm rfl)) rfl ?_; clear S; intro a S
    refine l_done ?_
    replace S := S.nk [] [(4, iV (i1 : Int))] [] rfl ⟨rfl, trivial⟩
    refine then_n (wp_ret (blk_r (then_r (then_r (blk_r (then_r ?_))))))
    refine then_r ?_
    subst h
    exact f_ret S Tryd.results66 rfl rfl
   ·replace h := iteF h hb1
    refine wp_skip (blk_n (then_n (f_region (lv S (rn_add (S.tm rfl) rfl) rfl ?_)))); clear S; intro a S
    refine lv S (rn_move (S.tm rfl)) rfl ?_; clear S; intro a S
    refine l_done (then_n ?_)
    exact ⟨ys1, ⟨i1 + 1, ⟨_, (hd1).trans (List.append_cons _ _ _), by simp [hi1]⟩, h, S.nf [] rfl ⟨rfl, rfl, rfl, (congrArg (fun z => some (Value.int .i64 z)) (rng_next hd1 hi1 (slc_max hs_p_s))), trivial⟩⟩, Nat.lt_succ_self _⟩
 clear S h; rintro a w2 ⟨h, S⟩; rw [hj1] at h; clear hj1 j1
 refine then_n (f_seq (f_region (lv S (rn_assign rfl) rfl ?_))); clear S; intro a S
 refine l_done (then_n (wp_ret ?_))
 subst h
 exact f_ret S Tryd.results66 rfl rfl
theorem slices_Contains_string_ok (w : World) (v_p_s : Value) (p_s : List ByteArray) (hs_p_s : Slc (view w []) 1 v_p_s (p_s.map eStr)) (p_v : ByteArray) (r : Bool) (h : slices_Contains_string p_s p_v = r) :
    Calls Tryd.prog 44 [v_p_s, sV p_v].toArray w (Ret w [] fun _ v _ => v = bV r) := by
 refine f_enter [] [] Tryd.func44 rfl Tryd.ntmps44 rfl (by simp) (by simp [fps]) (by simp [fps]) fun a S => ?_
 unfold slices_Contains_string at h
 replace S := S.nk [] [(0, v_p_s), (1, sV p_v)] [] rfl (subR rfl)
 refine f_seq (f_region (lv S (rn_assign rfl) rfl ?_)); clear S; intro a S
 refine l_done (then_n (f_seq (f_region (lv S (rn_move (S.tm rfl)) rfl ?_)))); clear S; intro a S
 refine lv S (rn_move (S.tm rfl)) rfl ?_; clear S; intro a S
 refine l_enter S (fun _ => run_call (vs := [v_p_s, sV p_v]) ⟨(S.tm rfl), (S.tm rfl), trivial⟩ Tryd.call66) (slices_Index_string_ok _ v_p_s p_s (hs_p_s.mono (S.le_arg nil_sub)) p_v _ rfl) rfl ?_; clear S; intro v1 a w1 hv1 hk1 hn1 S
 subst hv1
 refine lv S (rn_geq (S.tm rfl) rfl) rfl ?_; clear S; intro a S
 refine lv S (rn_assign (S.tm rfl)) rfl ?_; clear S; intro a S
 refine l_done (then_n (wp_ret ?_))
 subst h
 exact f_ret S Tryd.results44 rfl rfl
end Go.Proofs.YtmoigiaomdkfiaaDoor
