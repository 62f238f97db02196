/- Each Go function computes its plain twin, by program. -/
import Derived.Test.YtmngaaffadcccaaGreatDoorTab
import Derived.Test.YtmngaaffadcccaaGreatDoorLay
namespace Go.Proofs.YtmngaaffadcccaaGreatDoor
open Go
theorem tumbmake_Below_ok (w : World) (p_x : Int) (p_n : Int) (r : Int) (h : tumbmake_Below p_x p_n = some r) :
    Calls Tryz.prog 62 [iV p_x, iV p_n].toArray w (Ret w [] fun _ v _ => v = iV r) := by
 refine f_enter [] [] Tryz.func62 rfl Tryz.ntmps62 rfl (by simp) (by simp [fps]) (by simp [fps]) fun a S => ?_
 unfold tumbmake_Below at h
 replace S := S.nk [] [(0, iV p_x), (1, iV p_n)] [] rfl (subR rfl)
 refine f_seq (f_region (lv S (rn_assign rfl) rfl ?_)); clear S; intro a S
 refine l_done (then_n (f_seq (f_seq (f_region (lv S (rn_move (S.tm rfl)) rfl ?_))))); clear S; intro a S
 refine lv S (rn_lss (S.tm rfl) rfl) rfl ?_; clear S; intro a S
 refine l_done (then_n (f_cond (S.tm rfl) (fun hb1 => ?_) (fun hb1 => ?_)))
 ·replace h := iteT h hb1
  refine f_seq (f_region (lv S (rn_assign rfl) rfl ?_)); clear S; intro a S
  refine l_done (then_n (wp_ret (then_r ?_)))
  obtain rfl := Option.some.inj h
  exact f_ret S Tryz.results62 rfl rfl
 ·replace h := iteF h hb1
  refine wp_skip (then_n (f_seq (f_region (lv S (rn_move (S.tm rfl)) rfl ?_)))); clear S; intro a S
  refine lv S (rn_move (S.tm rfl)) rfl ?_; clear S; intro a S
  obtain ⟨hc1, h⟩ := chkE h
  refine lv S (rn_rem (S.tm rfl) (S.tm rfl) (ne0_of hc1)) rfl ?_; clear S; intro a S
  refine lv S (rn_assign (S.tm rfl)) rfl ?_; clear S; intro a S
  refine l_done (then_n (f_seq (f_seq (f_region (lv S (rn_move (S.tm rfl)) rfl ?_))))); clear S; intro a S
  refine lv S (rn_lss (S.tm rfl) rfl) rfl ?_; clear S; intro a S
  refine l_done (then_n ?_)
  obtain ⟨j1, hj1, h⟩ := joinE h
  refine f_join (fun a w' => ∃ x1 : Int, j1 x1 = some r ∧ Sx w [] nov [] [(0, iV x1)] 16 a w') ?_ ?_
  ·refine f_cond (S.tm rfl) (fun hb2 => ?_) (fun hb2 => ?_)
   ·replace h := iteT h hb2
    refine f_region (lv S (rn_move (S.tm rfl)) rfl ?_); clear S; intro a S
    refine lv S (rn_move (S.tm rfl)) rfl ?_; clear S; intro a S
    refine lv S (rn_add (S.tm rfl) (S.tm rfl)) rfl ?_; clear S; intro a S
    refine lv S (rn_assign (S.tm rfl)) rfl ?_; clear S; intro a S
    refine l_done (then_n ?_)
    exact ⟨W ((Int.tmod p_x p_n) + p_n), h, S.nf [] rfl ⟨rfl, trivial⟩⟩
   ·replace h := iteF h hb2
    refine wp_skip (then_n ?_)
    exact ⟨Int.tmod p_x p_n, h, S.nf [] rfl ⟨rfl, trivial⟩⟩
  clear S h; rintro a w1 ⟨x1, h, S⟩; rw [hj1] at h; clear hj1 j1
  refine then_n (f_seq (f_region (lv S (rn_move (S.tm rfl)) rfl ?_))); clear S; intro a S
  refine lv S (rn_assign (S.tm rfl)) rfl ?_; clear S; intro a S
  refine l_done (then_n (wp_ret ?_))
  obtain rfl := Option.some.inj h
  exact f_ret S Tryz.results62 rfl rfl
set_option maxRecDepth 20000 in
theorem Stream_Next_ok (w : World) (b_p_s : Nat) (v_p_s_L : Value) (p_s_L : List Int) (hs_p_s_L : Slc (view w [b_p_s]) 1 v_p_s_L (p_s_L.map eInt)) (p_s_at : Int) (hb_b_p_s : (LEnt.blk b_p_s [v_p_s_L, iV p_s_at] 25).holds w) (p_n : Int) (r : Int × Int) (h : Stream_Next p_s_L p_s_at p_n = some r) :
    Calls Tryz.prog 30 [.pointer (some ⟨b_p_s, 0, none⟩), iV p_n].toArray w (Ret w [b_p_s] fun _ v w' => (LEnt.blk b_p_s [v_p_s_L, iV r.2] 25).holds w' ∧ v = iV r.1) := by
 refine f_enter [b_p_s] [.blk b_p_s [v_p_s_L, iV p_s_at] 25] Tryz.func30 rfl Tryz.ntmps30 rfl (fun e he => by simp only [List.mem_singleton] at he; subst he; exact hb_b_p_s) (by simp [fps, LEnt.fp]) (by simp [fps, LEnt.fp]) fun a S => ?_
 unfold Stream_Next at h
 replace S := S.nk [.blk b_p_s [v_p_s_L, iV p_s_at] 25] [(0, .pointer (some ⟨b_p_s, 0, none⟩)), (1, iV p_n)] [true] rfl (subR rfl)
 refine f_seq (f_region (lv S (rn_assign rfl) rfl ?_)); clear S; intro a S
 refine l_done (then_n (f_seq (f_region (lv S (rn_move (S.tm rfl)) rfl ?_)))); clear S; intro a S
 refine lv S (rn_nilCheck (S.tm rfl)) rfl ?_; clear S; intro a S
 refine lv S (rn_fld fa_25_1 (S.tm rfl)) rfl ?_; clear S; intro a S
 refine lv S (rn_load Tryz.isAgg3 (S.tm rfl) (S.cell (i := 0) rfl rfl)) rfl ?_; clear S; intro a S
 refine lv S (rn_add (S.tm rfl) rfl) rfl ?_; clear S; intro a S
 refine lv S (rn_nilCheck (S.tm rfl)) rfl ?_; clear S; intro a S
 refine lv S (rn_fld fa_25_1 (S.tm rfl)) rfl ?_; clear S; intro a S
 refine l_store S (S.tm rfl) (S.tm rfl) (i := 0) (off := 1) rfl Tryz.sizeOf3 (vs := [iV (W (p_s_at + 1))]) rfl rfl rfl rfl ?_; clear S; intro w1 hk1 S
 refine l_done (then_n (f_seq (f_seq (f_region (lv S (rn_move (S.tm rfl)) rfl ?_))))); clear S; intro a S
 refine lv S (rn_nilCheck (S.tm rfl)) rfl ?_; clear S; intro a S
 refine lv S (rn_fld fa_25_0 (S.tm rfl)) rfl ?_; clear S; intro a S
 refine lv S (rn_load Tryz.isAgg22 (S.tm rfl) (S.cell (i := 0) rfl rfl)) rfl ?_; clear S; intro a S
 refine lv S (rn_lenT sl_22 (S.tm rfl) (slc_len hs_p_s_L)) rfl ?_; clear S; intro a S
 refine lv S (rn_eql (S.tm rfl) rfl) rfl ?_; clear S; intro a S
 refine l_done ?_
 replace S := S.nk [.blk b_p_s [v_p_s_L, iV (W (p_s_at + 1))] 25] [(0, .pointer (some ⟨b_p_s, 0, none⟩)), (1, iV p_n), (19, bV (decide ((p_s_L.length : Int) = 0)))] [true] rfl (subR rfl)
 refine then_n (f_cond (S.tm rfl) (fun hb1 => ?_) (fun hb1 => ?_))
 ·replace h := iteT h hb1
  refine f_seq (f_region (lv S (rn_move (S.tm rfl)) rfl ?_)); clear S; intro a S
  refine lv S (rn_nilCheck (S.tm rfl)) rfl ?_; clear S; intro a S
  refine lv S (rn_fld fa_25_1 (S.tm rfl)) rfl ?_; clear S; intro a S
  refine lv S (rn_load Tryz.isAgg3 (S.tm rfl) (S.cell (i := 0) rfl rfl)) rfl ?_; clear S; intro a S
  refine lv S (rn_mul (S.tm rfl) rfl) rfl ?_; clear S; intro a S
  refine lv S (rn_move (S.tm rfl)) rfl ?_; clear S; intro a S
  obtain ⟨r1, hr1, h⟩ := bindE h
  refine l_enter S (fun _ => run_call (vs := [iV (W ((W (p_s_at + 1)) * 7919)), iV p_n]) ⟨(S.tm rfl), (S.tm rfl), trivial⟩ Tryz.call62) (tumbmake_Below_ok _ (W ((W (p_s_at + 1)) * 7919)) p_n _ hr1) rfl ?_; clear S; intro v1 a w2 hv1 hk2 hn1 S
  subst hv1
  refine lv S (rn_assign (S.tm rfl)) rfl ?_; clear S; intro a S
  refine l_done (then_n (wp_ret (then_r ?_)))
  obtain rfl := Option.some.inj h
  exact f_ret S Tryz.results30 rfl ⟨(S.holds _ (List.mem_of_getElem? (i := 0) rfl)), rfl⟩
 ·replace h := iteF h hb1
  refine wp_skip (then_n (f_seq (d_region [] ([]) Tryz.mixed S rfl (by kernel_rfl) ?_))); clear S; intro w3 hk3 hsel S
  refine d_rest [0, 1, 2, 3, 4, 5, 6, 7, 8, 9, 10, 11] hsel (by kernel_rfl) rfl ?_
  clear hsel
  refine s_lv S rfl (rn_move (S.tm rfl)) rfl ?_; clear S; intro a S
  refine s_lv S rfl (rn_nilCheck (S.tm rfl)) rfl ?_; clear S; intro a S
  refine s_lv S rfl (rn_fld fa_25_1 (S.tm rfl)) rfl ?_; clear S; intro a S
  refine s_lv S rfl (rn_load Tryz.isAgg3 (S.tm rfl) (S.cell (i := 0) rfl rfl)) rfl ?_; clear S; intro a S
  refine s_lv S rfl (rn_sub (S.tm rfl) rfl) rfl ?_; clear S; intro a S
  refine s_lv S rfl (rn_move (S.tm rfl)) rfl ?_; clear S; intro a S
  refine s_lv S rfl (rn_nilCheck (S.tm rfl)) rfl ?_; clear S; intro a S
  refine s_lv S rfl (rn_fld fa_25_0 (S.tm rfl)) rfl ?_; clear S; intro a S
  refine s_lv S rfl (rn_load Tryz.isAgg22 (S.tm rfl) (S.cell (i := 0) rfl rfl)) rfl ?_; clear S; intro a S
  refine s_lv S rfl (rn_lenT sl_22 (S.tm rfl) (slc_len hs_p_s_L)) rfl ?_; clear S; intro a S
  obtain ⟨hc1, h⟩ := chkE h
  refine s_lv S rfl (rn_rem (S.tm rfl) (S.tm rfl) (ne0_of hc1)) rfl ?_; clear S; intro a S
  refine s_lv S rfl (rn_assign (S.tm rfl)) rfl ?_; clear S; intro a S
  refine s_done ?_
  replace S := S.nk [.blk b_p_s [v_p_s_L, iV (W (p_s_at + 1))] 25] [(0, .pointer (some ⟨b_p_s, 0, none⟩)), (1, iV p_n), (5, iV (Int.tmod (W ((W (p_s_at + 1)) - 1)) (p_s_L.length : Int)))] [true] rfl (subR rfl)
  refine then_n (f_seq (d_region [] ([]) Tryz.mixed S rfl (by kernel_rfl) ?_)); clear S; intro w4 hk4 hsel S
  refine d_rest [0, 1, 2, 3, 4, 5, 6, 7, 8, 9, 10, 11] hsel (by kernel_rfl) rfl ?_
  clear hsel
  refine s_lv S rfl (rn_move (S.tm rfl)) rfl ?_; clear S; intro a S
  refine s_lv S rfl (rn_nilCheck (S.tm rfl)) rfl ?_; clear S; intro a S
  refine s_lv S rfl (rn_fld fa_25_1 (S.tm rfl)) rfl ?_; clear S; intro a S
  refine s_lv S rfl (rn_load Tryz.isAgg3 (S.tm rfl) (S.cell (i := 0) rfl rfl)) rfl ?_; clear S; intro a S
  refine s_lv S rfl (rn_sub (S.tm rfl) rfl) rfl ?_; clear S; intro a S
  refine s_lv S rfl (rn_move (S.tm rfl)) rfl ?_; clear S; intro a S
  refine s_lv S rfl (rn_nilCheck (S.tm rfl)) rfl ?_; clear S; intro a S
  refine s_lv S rfl (rn_fld fa_25_0 (S.tm rfl)) rfl ?_; clear S; intro a S
  refine s_lv S rfl (rn_load Tryz.isAgg22 (S.tm rfl) (S.cell (i := 0) rfl rfl)) rfl ?_; clear S; intro a S
  refine s_lv S rfl (rn_lenT sl_22 (S.tm rfl) (slc_len hs_p_s_L)) rfl ?_; clear S; intro a S
  obtain ⟨hc2, h⟩ := chkE h
  refine s_lv S rfl (rn_quo (S.tm rfl) (S.tm rfl) (ne0_of hc2)) rfl ?_; clear S; intro a S
  refine s_lv S rfl (rn_assign (S.tm rfl)) rfl ?_; clear S; intro a S
  refine s_done ?_
  replace S := S.nk [.blk b_p_s [v_p_s_L, iV (W (p_s_at + 1))] 25] [(0, .pointer (some ⟨b_p_s, 0, none⟩)), (1, iV p_n), (5, iV (Int.tmod (W ((W (p_s_at + 1)) - 1)) (p_s_L.length : Int))), (6, iV (W (Int.tdiv (W ((W (p_s_at + 1)) - 1)) (p_s_L.length : Int))))] [true] rfl (subR rfl)
  refine then_n (f_seq (f_region (lv S (rn_move (S.tm rfl)) rfl ?_))); clear S; intro a S
  refine lv S (rn_nilCheck (S.tm rfl)) rfl ?_; clear S; intro a S
  refine lv S (rn_fld fa_25_0 (S.tm rfl)) rfl ?_; clear S; intro a S
  refine lv S (rn_load Tryz.isAgg22 (S.tm rfl) (S.cell (i := 0) rfl rfl)) rfl ?_; clear S; intro a S
  refine lv S (rn_move (S.tm rfl)) rfl ?_; clear S; intro a S
  obtain ⟨hc3, h⟩ := chkE h
  obtain ⟨b1, o1, hm1, hr2⟩ := rn_indexT (a := a) (x := .tmp 52) (y := .tmp 53) (ty := 0) sl_22 hs_p_s_L (inB_get hc3).1 (inB_get hc3).2 (S.tm rfl) (S.tm rfl)
  refine lv S (hr2 _) rfl ?_; clear S; intro a S
  clear hr2
  refine lv S (rn_ld Tryz.isAgg3 (off := o1) (o := 0) (S.tm rfl) (hm1.at S.emb0) rfl) rfl ?_; clear S; intro a S
  obtain ⟨r2, hr3, h⟩ := bindE h
  refine l_enter S (fun _ => run_call (vs := [iV (nth p_s_L (Int.tmod (W ((W (p_s_at + 1)) - 1)) (p_s_L.length : Int))), iV 1073741824]) ⟨(S.tm rfl), rfl, trivial⟩ Tryz.call62) (tumbmake_Below_ok _ (nth p_s_L (Int.tmod (W ((W (p_s_at + 1)) - 1)) (p_s_L.length : Int))) 1073741824 _ hr3) rfl ?_; clear S; intro v2 a w5 hv2 hk5 hn2 S
  subst hv2
  refine lv S (rn_move (S.tm rfl)) rfl ?_; clear S; intro a S
  refine lv S (rn_move (S.tm rfl)) rfl ?_; clear S; intro a S
  refine lv S (rn_add rfl (S.tm rfl)) rfl ?_; clear S; intro a S
  refine lv S (rn_mul (S.tm rfl) (S.tm rfl)) rfl ?_; clear S; intro a S
  refine lv S (rn_add (S.tm rfl) (S.tm rfl)) rfl ?_; clear S; intro a S
  refine lv S (rn_move (S.tm rfl)) rfl ?_; clear S; intro a S
  obtain ⟨r3, hr4, h⟩ := bindE h
  refine l_enter S (fun _ => run_call (vs := [iV (W (r2 + (W ((W (Int.tdiv (W ((W (p_s_at + 1)) - 1)) (p_s_L.length : Int))) * (W (7919 + (Int.tmod (W ((W (p_s_at + 1)) - 1)) (p_s_L.length : Int)))))))), iV p_n]) ⟨(S.tm rfl), (S.tm rfl), trivial⟩ Tryz.call62) (tumbmake_Below_ok _ (W (r2 + (W ((W (Int.tdiv (W ((W (p_s_at + 1)) - 1)) (p_s_L.length : Int))) * (W (7919 + (Int.tmod (W ((W (p_s_at + 1)) - 1)) (p_s_L.length : Int)))))))) p_n _ hr4) rfl ?_; clear S; intro v3 a w6 hv3 hk6 hn3 S
  subst hv3
  refine lv S (rn_assign (S.tm rfl)) rfl ?_; clear S; intro a S
  refine l_done ?_
  replace S := S.nk [.blk b_p_s [v_p_s_L, iV (W (p_s_at + 1))] 25] [(4, iV r3)] [true] rfl ⟨rfl, trivial⟩
  refine then_n (wp_ret ?_)
  obtain rfl := Option.some.inj h
  exact f_ret S Tryz.results30 rfl ⟨(S.holds _ (List.mem_of_getElem? (i := 0) rfl)), rfl⟩
theorem Stream_Flip_ok (w : World) (b_p_s : Nat) (v_p_s_L : Value) (p_s_L : List Int) (hs_p_s_L : Slc (view w [b_p_s]) 1 v_p_s_L (p_s_L.map eInt)) (p_s_at : Int) (hb_b_p_s : (LEnt.blk b_p_s [v_p_s_L, iV p_s_at] 25).holds w) (p_n : Int) (r : Bool × Int) (h : Stream_Flip p_s_L p_s_at p_n = some r) :
    Calls Tryz.prog 9 [.pointer (some ⟨b_p_s, 0, none⟩), iV p_n].toArray w (Ret w [b_p_s] fun _ v w' => (LEnt.blk b_p_s [v_p_s_L, iV r.2] 25).holds w' ∧ v = bV r.1) := by
 refine f_enter [b_p_s] [.blk b_p_s [v_p_s_L, iV p_s_at] 25] Tryz.func9 rfl Tryz.ntmps9 rfl (fun e he => by simp only [List.mem_singleton] at he; subst he; exact hb_b_p_s) (by simp [fps, LEnt.fp]) (by simp [fps, LEnt.fp]) fun a S => ?_
 unfold Stream_Flip at h
 replace S := S.nk [.blk b_p_s [v_p_s_L, iV p_s_at] 25] [(0, .pointer (some ⟨b_p_s, 0, none⟩)), (1, iV p_n)] [true] rfl (subR rfl)
 refine f_seq (f_region (lv S (rn_assign rfl) rfl ?_)); clear S; intro a S
 refine l_done (then_n (f_seq (f_region (lv S (rn_move (S.tm rfl)) rfl ?_)))); clear S; intro a S
 refine lv S (rn_move (S.tm rfl)) rfl ?_; clear S; intro a S
 obtain ⟨r1, hr1, h⟩ := bindE h
 refine l_enter1 0 S (b := b_p_s) rfl rfl (fun _ => .blk b_p_s [v_p_s_L, iV r1.2] 25) (fun _ => run_call (vs := [.pointer (some ⟨b_p_s, 0, none⟩), iV p_n]) ⟨(S.tm rfl), (S.tm rfl), trivial⟩ Tryz.call30) (Stream_Next_ok _ b_p_s v_p_s_L p_s_L (hs_p_s_L.mono (S.le_arg (fp_sub (i := 0) (e := .blk b_p_s [v_p_s_L, iV p_s_at] 25) rfl))) p_s_at (S.holds _ (List.mem_of_getElem? (i := 0) rfl)) p_n _ hr1) rfl (fun _ _ _ h => ⟨h.1, fun _ hc => by cases hc; rfl⟩) ?_; clear S; intro v1 a w1 hv1 hk1 hn1 S
 replace hv1 := hv1.2
 subst hv1
 refine lv S (rn_eql (S.tm rfl) rfl) rfl ?_; clear S; intro a S
 refine lv S (rn_assign (S.tm rfl)) rfl ?_; clear S; intro a S
 refine l_done (then_n (wp_ret ?_))
 obtain rfl := Option.some.inj h
 exact f_ret S Tryz.results9 rfl ⟨(S.holds _ (List.mem_of_getElem? (i := 0) rfl)), rfl⟩
theorem Stream_Pick_ok (w : World) (b_p_s : Nat) (v_p_s_L : Value) (p_s_L : List Int) (hs_p_s_L : Slc (view w [b_p_s]) 1 v_p_s_L (p_s_L.map eInt)) (p_s_at : Int) (hb_b_p_s : (LEnt.blk b_p_s [v_p_s_L, iV p_s_at] 25).holds w) (v_p_l : Value) (p_l : List Int) (hs_p_l : Slc (view w [b_p_s]) 1 v_p_l (p_l.map eInt)) (r : Int × Int) (h : Stream_Pick p_s_L p_s_at p_l = some r) :
    Calls Tryz.prog 11 [.pointer (some ⟨b_p_s, 0, none⟩), v_p_l].toArray w (Ret w [b_p_s] fun _ v w' => (LEnt.blk b_p_s [v_p_s_L, iV r.2] 25).holds w' ∧ v = iV r.1) := by
 refine f_enter [b_p_s] [.blk b_p_s [v_p_s_L, iV p_s_at] 25] Tryz.func11 rfl Tryz.ntmps11 rfl (fun e he => by simp only [List.mem_singleton] at he; subst he; exact hb_b_p_s) (by simp [fps, LEnt.fp]) (by simp [fps, LEnt.fp]) fun a S => ?_
 unfold Stream_Pick at h
 replace S := S.nk [.blk b_p_s [v_p_s_L, iV p_s_at] 25] [(0, .pointer (some ⟨b_p_s, 0, none⟩)), (1, v_p_l)] [true] rfl (subR rfl)
 refine f_seq (f_region (lv S (rn_assign rfl) rfl ?_)); clear S; intro a S
 refine l_done (then_n (f_seq (f_region (lv S (rn_move (S.tm rfl)) rfl ?_)))); clear S; intro a S
 refine lv S (rn_move (S.tm rfl)) rfl ?_; clear S; intro a S
 refine lv S (rn_move (S.tm rfl)) rfl ?_; clear S; intro a S
 refine lv S (rn_lenT sl_22 (S.tm rfl) (slc_len hs_p_l)) rfl ?_; clear S; intro a S
 obtain ⟨r1, hr1, h⟩ := bindE h
 refine l_enter1 0 S (b := b_p_s) rfl rfl (fun _ => .blk b_p_s [v_p_s_L, iV r1.2] 25) (fun _ => run_call (vs := [.pointer (some ⟨b_p_s, 0, none⟩), iV (p_l.length : Int)]) ⟨(S.tm rfl), (S.tm rfl), trivial⟩ Tryz.call30) (Stream_Next_ok _ b_p_s v_p_s_L p_s_L (hs_p_s_L.mono (S.le_arg (fp_sub (i := 0) (e := .blk b_p_s [v_p_s_L, iV p_s_at] 25) rfl))) p_s_at (S.holds _ (List.mem_of_getElem? (i := 0) rfl)) (p_l.length : Int) _ hr1) rfl (fun _ _ _ h => ⟨h.1, fun _ hc => by cases hc; rfl⟩) ?_; clear S; intro v1 a w1 hv1 hk1 hn1 S
 replace hv1 := hv1.2
 subst hv1
 obtain ⟨hc1, h⟩ := chkE h
 obtain ⟨b1, o1, hm1, hr2⟩ := rn_indexT (a := a) (x := .tmp 5) (y := .tmp 9) (ty := 0) sl_22 hs_p_l (inB_get hc1).1 (inB_get hc1).2 (S.tm rfl) (S.tm rfl)
 refine lv S (hr2 _) rfl ?_; clear S; intro a S
 clear hr2
 refine lv S (rn_ld Tryz.isAgg3 (off := o1) (o := 0) (S.tm rfl) (hm1.at S.emb0) rfl) rfl ?_; clear S; intro a S
 refine lv S (rn_assign (S.tm rfl)) rfl ?_; clear S; intro a S
 refine l_done (then_n (wp_ret ?_))
 obtain rfl := Option.some.inj h
 exact f_ret S Tryz.results11 rfl ⟨(S.holds _ (List.mem_of_getElem? (i := 0) rfl)), rfl⟩
theorem Stream_MeetRace_ok (w : World) (b_p_s : Nat) (v_p_s_L : Value) (p_s_L : List Int) (hs_p_s_L : Slc (view w [b_p_s]) 1 v_p_s_L (p_s_L.map eInt)) (p_s_at : Int) (hb_b_p_s : (LEnt.blk b_p_s [v_p_s_L, iV p_s_at] 25).holds w) (p_key : ByteArray) (r : GRace × Int) (h : Stream_MeetRace p_s_L p_s_at p_key = some r) :
    Calls Tryz.prog 61 [.pointer (some ⟨b_p_s, 0, none⟩), sV p_key].toArray w (Ret w [b_p_s] fun _ v w' => (LEnt.blk b_p_s [v_p_s_L, iV r.2] 25).holds w' ∧ v = .agg (GRace.enc r.1).toArray) := by
 refine f_enter [b_p_s] [.blk b_p_s [v_p_s_L, iV p_s_at] 25] Tryz.func61 rfl Tryz.ntmps61 rfl (fun e he => by simp only [List.mem_singleton] at he; subst he; exact hb_b_p_s) (by simp [fps, LEnt.fp]) (by simp [fps, LEnt.fp]) fun a S => ?_
 unfold Stream_MeetRace at h
 replace S := S.nk [.blk b_p_s [v_p_s_L, iV p_s_at] 25] [(0, .pointer (some ⟨b_p_s, 0, none⟩)), (1, sV p_key)] [true] rfl (subR rfl)
 refine f_seq (f_region (l_alloc S Tryz.zeroValue42 (cs := [sV k_empty, iV 0, iV 0, iV 0, iV 0, iV 0, iV 0, iV 0]) rfl rfl ?_)); clear S; intro a w1 b1 hz1 hk1 S
 refine l_done (then_n (f_seq (f_region (lv S (rn_move (S.tm rfl)) rfl ?_)))); clear S; intro a S
 refine lv S (rn_move (S.tm rfl)) rfl ?_; clear S; intro a S
 refine l_buildSlice S Tryz.underlying22 Tryz.sizeOf3 Tryz.zeroValue3 rfl rfl (pv := [(0, iV 50), (1, iV 100), (2, iV 200)]) ⟨rfl, rfl, rfl, rfl, rfl, rfl, trivial⟩ (cs := [iV 50, iV 100, iV 200]) (by kernel_rfl) rfl ?_; clear S; intro a w2 b2 hz2 hk2 S
 obtain ⟨r1, hr1, h⟩ := bindE h
 refine l_enter1 2 S (b := b_p_s) rfl rfl (fun _ => .blk b_p_s [v_p_s_L, iV r1.2] 25) (fun _ => run_call (vs := [.pointer (some ⟨b_p_s, 0, none⟩), .slice (some ⟨b2, 0, none⟩) 3 3]) ⟨(S.tm rfl), (S.tm rfl), trivial⟩ Tryz.call11) (Stream_Pick_ok _ b_p_s v_p_s_L p_s_L (hs_p_s_L.mono (S.le_arg (fp_sub (i := 2) (e := .blk b_p_s [v_p_s_L, iV p_s_at] 25) rfl))) p_s_at (S.holds _ (List.mem_of_getElem? (i := 2) rfl)) (.slice (some ⟨b2, 0, none⟩) 3 3) [50, 100, 200] (lit_slcT enc_int S (i := 0) rfl rfl rfl rfl ((ne_fp (i := 2) (j := 0) (e := .blk b_p_s [v_p_s_L, iV p_s_at] 25) (e' := .blk b2 [iV 50, iV 100, iV 200] 3) S rfl rfl rfl) _ rfl)) _ hr1) rfl (fun _ _ _ h => ⟨h.1, fun _ hc => by cases hc; rfl⟩) ?_; clear S; intro v1 a w3 hv1 hk3 hn1 S
 replace hv1 := hv1.2
 subst hv1
 refine lv S (rn_move (S.tm rfl)) rfl ?_; clear S; intro a S
 refine l_buildSlice S Tryz.underlying22 Tryz.sizeOf3 Tryz.zeroValue3 rfl rfl (pv := [(0, iV 1), (1, iV 2), (2, iV 3), (3, iV 4)]) ⟨rfl, rfl, rfl, rfl, rfl, rfl, rfl, rfl, trivial⟩ (cs := [iV 1, iV 2, iV 3, iV 4]) (by kernel_rfl) rfl ?_; clear S; intro a w4 b3 hz3 hk4 S
 obtain ⟨r2, hr2, h⟩ := bindE h
 refine l_enter1 3 S (b := b_p_s) rfl rfl (fun _ => .blk b_p_s [v_p_s_L, iV r2.2] 25) (fun _ => run_call (vs := [.pointer (some ⟨b_p_s, 0, none⟩), .slice (some ⟨b3, 0, none⟩) 4 4]) ⟨(S.tm rfl), (S.tm rfl), trivial⟩ Tryz.call11) (Stream_Pick_ok _ b_p_s v_p_s_L p_s_L (hs_p_s_L.mono (S.le_arg (fp_sub (i := 3) (e := .blk b_p_s [v_p_s_L, iV r1.2] 25) rfl))) r1.2 (S.holds _ (List.mem_of_getElem? (i := 3) rfl)) (.slice (some ⟨b3, 0, none⟩) 4 4) [1, 2, 3, 4] (lit_slcT enc_int S (i := 0) rfl rfl rfl rfl ((ne_fp (i := 3) (j := 0) (e := .blk b_p_s [v_p_s_L, iV r1.2] 25) (e' := .blk b3 [iV 1, iV 2, iV 3, iV 4] 3) S rfl rfl rfl) _ rfl)) _ hr2) rfl (fun _ _ _ h => ⟨h.1, fun _ hc => by cases hc; rfl⟩) ?_; clear S; intro v2 a w5 hv2 hk5 hn2 S
 replace hv2 := hv2.2
 subst hv2
 refine lv S (rn_move (S.tm rfl)) rfl ?_; clear S; intro a S
 refine l_buildSlice S Tryz.underlying22 Tryz.sizeOf3 Tryz.zeroValue3 rfl rfl (pv := [(0, iV 25), (1, iV 50)]) ⟨rfl, rfl, rfl, rfl, trivial⟩ (cs := [iV 25, iV 50]) (by kernel_rfl) rfl ?_; clear S; intro a w6 b4 hz4 hk6 S
 obtain ⟨r3, hr3, h⟩ := bindE h
 refine l_enter1 4 S (b := b_p_s) rfl rfl (fun _ => .blk b_p_s [v_p_s_L, iV r3.2] 25) (fun _ => run_call (vs := [.pointer (some ⟨b_p_s, 0, none⟩), .slice (some ⟨b4, 0, none⟩) 2 2]) ⟨(S.tm rfl), (S.tm rfl), trivial⟩ Tryz.call11) (Stream_Pick_ok _ b_p_s v_p_s_L p_s_L (hs_p_s_L.mono (S.le_arg (fp_sub (i := 4) (e := .blk b_p_s [v_p_s_L, iV r2.2] 25) rfl))) r2.2 (S.holds _ (List.mem_of_getElem? (i := 4) rfl)) (.slice (some ⟨b4, 0, none⟩) 2 2) [25, 50] (lit_slcT enc_int S (i := 0) rfl rfl rfl rfl ((ne_fp (i := 4) (j := 0) (e := .blk b_p_s [v_p_s_L, iV r2.2] 25) (e' := .blk b4 [iV 25, iV 50] 3) S rfl rfl rfl) _ rfl)) _ hr3) rfl (fun _ _ _ h => ⟨h.1, fun _ hc => by cases hc; rfl⟩) ?_; clear S; intro v3 a w7 hv3 hk7 hn3 S
 replace hv3 := hv3.2
 subst hv3
 refine lv S (rn_move (S.tm rfl)) rfl ?_; clear S; intro a S
 refine l_buildSlice S Tryz.underlying22 Tryz.sizeOf3 Tryz.zeroValue3 rfl rfl (pv := [(0, iV 1), (1, iV 1), (2, iV 1), (3, iV 4)]) ⟨rfl, rfl, rfl, rfl, rfl, rfl, rfl, rfl, trivial⟩ (cs := [iV 1, iV 1, iV 1, iV 4]) (by kernel_rfl) rfl ?_; clear S; intro a w8 b5 hz5 hk8 S
 obtain ⟨r4, hr4, h⟩ := bindE h
 refine l_enter1 5 S (b := b_p_s) rfl rfl (fun _ => .blk b_p_s [v_p_s_L, iV r4.2] 25) (fun _ => run_call (vs := [.pointer (some ⟨b_p_s, 0, none⟩), .slice (some ⟨b5, 0, none⟩) 4 4]) ⟨(S.tm rfl), (S.tm rfl), trivial⟩ Tryz.call11) (Stream_Pick_ok _ b_p_s v_p_s_L p_s_L (hs_p_s_L.mono (S.le_arg (fp_sub (i := 5) (e := .blk b_p_s [v_p_s_L, iV r3.2] 25) rfl))) r3.2 (S.holds _ (List.mem_of_getElem? (i := 5) rfl)) (.slice (some ⟨b5, 0, none⟩) 4 4) [1, 1, 1, 4] (lit_slcT enc_int S (i := 0) rfl rfl rfl rfl ((ne_fp (i := 5) (j := 0) (e := .blk b_p_s [v_p_s_L, iV r3.2] 25) (e' := .blk b5 [iV 1, iV 1, iV 1, iV 4] 3) S rfl rfl rfl) _ rfl)) _ hr4) rfl (fun _ _ _ h => ⟨h.1, fun _ hc => by cases hc; rfl⟩) ?_; clear S; intro v4 a w9 hv4 hk9 hn4 S
 replace hv4 := hv4.2
 subst hv4
 refine lv S (rn_move (S.tm rfl)) rfl ?_; clear S; intro a S
 refine l_buildSlice S Tryz.underlying22 Tryz.sizeOf3 Tryz.zeroValue3 rfl rfl (pv := [(0, iV 0), (1, iV 1), (2, iV 2)]) ⟨rfl, rfl, rfl, rfl, rfl, rfl, trivial⟩ (cs := [iV 0, iV 1, iV 2]) (by kernel_rfl) rfl ?_; clear S; intro a w10 b6 hz6 hk10 S
 obtain ⟨r5, hr5, h⟩ := bindE h
 refine l_enter1 6 S (b := b_p_s) rfl rfl (fun _ => .blk b_p_s [v_p_s_L, iV r5.2] 25) (fun _ => run_call (vs := [.pointer (some ⟨b_p_s, 0, none⟩), .slice (some ⟨b6, 0, none⟩) 3 3]) ⟨(S.tm rfl), (S.tm rfl), trivial⟩ Tryz.call11) (Stream_Pick_ok _ b_p_s v_p_s_L p_s_L (hs_p_s_L.mono (S.le_arg (fp_sub (i := 6) (e := .blk b_p_s [v_p_s_L, iV r4.2] 25) rfl))) r4.2 (S.holds _ (List.mem_of_getElem? (i := 6) rfl)) (.slice (some ⟨b6, 0, none⟩) 3 3) [0, 1, 2] (lit_slcT enc_int S (i := 0) rfl rfl rfl rfl ((ne_fp (i := 6) (j := 0) (e := .blk b_p_s [v_p_s_L, iV r4.2] 25) (e' := .blk b6 [iV 0, iV 1, iV 2] 3) S rfl rfl rfl) _ rfl)) _ hr5) rfl (fun _ _ _ h => ⟨h.1, fun _ hc => by cases hc; rfl⟩) ?_; clear S; intro v5 a w11 hv5 hk11 hn5 S
 replace hv5 := hv5.2
 subst hv5
 refine lv S (rn_move (S.tm rfl)) rfl ?_; clear S; intro a S
 refine l_buildSlice S Tryz.underlying22 Tryz.sizeOf3 Tryz.zeroValue3 rfl rfl (pv := [(0, iV 0), (1, iV 0), (2, iV 5), (3, iV 10)]) ⟨rfl, rfl, rfl, rfl, rfl, rfl, rfl, rfl, trivial⟩ (cs := [iV 0, iV 0, iV 5, iV 10]) (by kernel_rfl) rfl ?_; clear S; intro a w12 b7 hz7 hk12 S
 obtain ⟨r6, hr6, h⟩ := bindE h
 refine l_enter1 7 S (b := b_p_s) rfl rfl (fun _ => .blk b_p_s [v_p_s_L, iV r6.2] 25) (fun _ => run_call (vs := [.pointer (some ⟨b_p_s, 0, none⟩), .slice (some ⟨b7, 0, none⟩) 4 4]) ⟨(S.tm rfl), (S.tm rfl), trivial⟩ Tryz.call11) (Stream_Pick_ok _ b_p_s v_p_s_L p_s_L (hs_p_s_L.mono (S.le_arg (fp_sub (i := 7) (e := .blk b_p_s [v_p_s_L, iV r5.2] 25) rfl))) r5.2 (S.holds _ (List.mem_of_getElem? (i := 7) rfl)) (.slice (some ⟨b7, 0, none⟩) 4 4) [0, 0, 5, 10] (lit_slcT enc_int S (i := 0) rfl rfl rfl rfl ((ne_fp (i := 7) (j := 0) (e := .blk b_p_s [v_p_s_L, iV r5.2] 25) (e' := .blk b7 [iV 0, iV 0, iV 5, iV 10] 3) S rfl rfl rfl) _ rfl)) _ hr6) rfl (fun _ _ _ h => ⟨h.1, fun _ hc => by cases hc; rfl⟩) ?_; clear S; intro v6 a w13 hv6 hk13 hn6 S
 replace hv6 := hv6.2
 subst hv6
 refine lv S (rn_bld bt_42 (pv := [(0, sV p_key), (1, iV r1.1), (2, iV r2.1), (3, iV r3.1), (4, iV r4.1), (5, iV r5.1), (6, iV r6.1)]) ⟨rfl, (S.tm rfl), rfl, (S.tm rfl), rfl, (S.tm rfl), rfl, (S.tm rfl), rfl, (S.tm rfl), rfl, (S.tm rfl), rfl, (S.tm rfl), trivial⟩ (cs := [sV p_key, iV r1.1, iV r2.1, iV r3.1, iV r4.1, iV r5.1, iV r6.1, iV 0]) (by kernel_rfl)) rfl ?_; clear S; intro a S
 refine l_alloc S Tryz.zeroValue42 (cs := [sV k_empty, iV 0, iV 0, iV 0, iV 0, iV 0, iV 0, iV 0]) rfl rfl ?_; clear S; intro a w14 b8 hz8 hk14 S
 refine l_store S (S.tm rfl) (S.tm rfl) (i := 0) (off := 0) rfl Tryz.sizeOf42 (vs := (GRace.enc (GRace.mk p_key r1.1 r2.1 r3.1 r4.1 r5.1 r6.1 0))) rfl rfl rfl rfl ?_; clear S; intro w15 hk15 S
 refine l_done ?_
 replace S := S.nk [.blk b8 (GRace.enc (GRace.mk p_key r1.1 r2.1 r3.1 r4.1 r5.1 r6.1 0)) 42, .blk b1 (GRace.enc (GRace.mk k_empty 0 0 0 0 0 0 0)) 42, .blk b_p_s [v_p_s_L, iV r6.2] 25] [(0, .pointer (some ⟨b_p_s, 0, none⟩)), (4, .pointer (some ⟨b1, 0, none⟩)), (5, .pointer (some ⟨b8, 0, none⟩))] [true, false, false, false, false, false, false, true, true] rfl (subR rfl)
 refine then_n (f_seq ?_)
 obtain ⟨r7, hr7, h⟩ := bindE h
 refine d_region [7] ([b_p_s]) Tryz.mixed S rfl (by kernel_rfl) ?_; clear S; intro w19 hk19 hsel S
 refine d_pure 0 S hsel rfl rfl (by kernel_rfl) (by kernel_rfl) rfl (fun _ => (rn_fld fa_42_6 (S.tm rfl))) ?_; clear S; intro a S
 refine d_quiet 1 S hsel rfl (by kernel_rfl) (by kernel_rfl) (by kernel_rfl) (by kernel_rfl) rfl (fun _ hw => (rn_ld Tryz.isAgg3 (off := 0) (o := 6) (S.tm rfl) ((S.blk_mem (i := 0) (cells := (GRace.enc (GRace.mk p_key r1.1 r2.1 r3.1 r4.1 r5.1 r6.1 0))) (b := b8) (T := 42) rfl (ne_fp (i := 2) (j := 0) (e := .blk b_p_s [v_p_s_L, iV r6.2] 25) (e' := .blk b8 (GRace.enc (GRace.mk p_key r1.1 r2.1 r3.1 r4.1 r5.1 r6.1 0)) 42) S rfl rfl rfl)).kept hw) rfl)) ?_; clear S; intro a S
 refine d_pure 2 S hsel rfl rfl (by kernel_rfl) (by kernel_rfl) rfl (fun _ => (rn_move (S.tm rfl))) ?_; clear S; intro a S
 refine d_loud1 3 (by kernel_rfl) rfl (l_buildSlice S Tryz.underlying22 Tryz.sizeOf3 Tryz.zeroValue3 rfl rfl (pv := [(0, iV 0), (1, iV 5), (2, iV 90)]) ⟨rfl, rfl, rfl, rfl, rfl, rfl, trivial⟩ (cs := [iV 0, iV 5, iV 90]) (by kernel_rfl) rfl ?_); clear S; intro a w20 b10 hz10 hk20 S
 refine l_done (d_next (Keep.none hk20) (d_loud1 4 (by kernel_rfl) rfl ?_))
 refine l_enter1 3 S (b := b_p_s) rfl rfl (fun _ => .blk b_p_s [v_p_s_L, iV r7.2] 25) (fun _ => run_call (vs := [.pointer (some ⟨b_p_s, 0, none⟩), .slice (some ⟨b10, 0, none⟩) 3 3]) ⟨(S.tm rfl), (S.tm rfl), trivial⟩ Tryz.call11) (Stream_Pick_ok _ b_p_s v_p_s_L p_s_L (hs_p_s_L.mono (S.le_arg (fp_sub (i := 3) (e := .blk b_p_s [v_p_s_L, iV r6.2] 25) rfl))) r6.2 (S.holds _ (List.mem_of_getElem? (i := 3) rfl)) (.slice (some ⟨b10, 0, none⟩) 3 3) [0, 5, 90] (lit_slcT enc_int S (i := 0) rfl rfl rfl rfl ((ne_fp (i := 3) (j := 0) (e := .blk b_p_s [v_p_s_L, iV r6.2] 25) (e' := .blk b10 [iV 0, iV 5, iV 90] 3) S rfl rfl rfl) _ rfl)) _ hr7) rfl (fun _ _ _ h => ⟨h.1, fun _ hc => by cases hc; rfl⟩) ?_; clear S; intro v8 a w21 hv8 hk21 hn8 S
 replace hv8 := hv8.2
 subst hv8
 refine l_done (d_next hk21 (d_pure 5 S hsel rfl rfl (by kernel_rfl) (by kernel_rfl) rfl (fun _ => (rn_add (S.tm rfl) (S.tm rfl))) ?_)); clear S; intro a S
 refine d_pure 6 S hsel rfl rfl (by kernel_rfl) (by kernel_rfl) rfl (fun _ => (rn_fld fa_42_7 (S.tm rfl))) ?_; clear S; intro a S
 refine d_loudB 7 ([b_p_s] ++ [b8]) rfl (by kernel_rfl) rfl (l_store S (S.tm rfl) (S.tm rfl) (i := 1) (off := 7) rfl Tryz.sizeOf3 (vs := [iV (W (r6.1 + r7.1))]) rfl rfl rfl rfl ?_); clear S; intro w22 hk22 S
 refine l_done (d_nextB (d_end (by kernel_rfl) ?_))
 clear hsel
 replace S := S.nk [.blk b8 (GRace.enc (GRace.mk p_key r1.1 r2.1 r3.1 r4.1 r5.1 r6.1 (W (r6.1 + r7.1)))) 42, .blk b1 (GRace.enc (GRace.mk k_empty 0 0 0 0 0 0 0)) 42, .blk b_p_s [v_p_s_L, iV r7.2] 25] [(4, .pointer (some ⟨b1, 0, none⟩)), (5, .pointer (some ⟨b8, 0, none⟩))] [false, true, true, true] rfl (subR rfl)
 refine then_n (f_seq (f_region (lv S (rn_ldA Tryz.isAgg42 Tryz.sizeOf42 (off := 0) (o := 0) (part := (GRace.enc (GRace.mk p_key r1.1 r2.1 r3.1 r4.1 r5.1 r6.1 (W (r6.1 + r7.1))))) rfl rfl (S.tm rfl) (S.cellsAt (i := 0) rfl)) rfl ?_))); clear S; intro a S
 refine l_store S (S.tm rfl) (S.tm rfl) (i := 1) (off := 0) rfl Tryz.sizeOf42 (vs := (GRace.enc (GRace.mk p_key r1.1 r2.1 r3.1 r4.1 r5.1 r6.1 (W (r6.1 + r7.1))))) rfl rfl rfl rfl ?_; clear S; intro w23 hk23 S
 refine l_done (then_n (wp_ret ?_))
 obtain rfl := Option.some.inj h
 exact f_retG S (rs := [.cell 4 42]) (vs := [.agg (GRace.enc (GRace.mk p_key r1.1 r2.1 r3.1 r4.1 r5.1 r6.1 (W (r6.1 + r7.1)))).toArray]) Tryz.results61 ⟨(res_cell (off := 0) S rfl Tryz.isAgg42 Tryz.sizeOf42 rfl (S.cellsAt (i := 1) rfl)), trivial⟩ rfl ⟨(S.holds _ (List.mem_of_getElem? (i := 2) rfl)), rfl⟩
theorem Stream_MeetRaces_ok (w : World) (b_p_s : Nat) (v_p_s_L : Value) (p_s_L : List Int) (hs_p_s_L : Slc (view w [b_p_s]) 1 v_p_s_L (p_s_L.map eInt)) (p_s_at : Int) (hb_b_p_s : (LEnt.blk b_p_s [v_p_s_L, iV p_s_at] 25).holds w) (r : (List GRace) × Int) (h : Stream_MeetRaces p_s_L p_s_at = some r) :
    Calls Tryz.prog 29 [.pointer (some ⟨b_p_s, 0, none⟩)].toArray w (Ret w [b_p_s] fun τ v w' => (LEnt.blk b_p_s [v_p_s_L, iV r.2] 25).holds w' ∧ OwnV τ 42 8 v r.1.length (r.1.flatMap GRace.enc)) := by
 refine f_enter [b_p_s] [.blk b_p_s [v_p_s_L, iV p_s_at] 25] Tryz.func29 rfl Tryz.ntmps29 rfl (fun e he => by simp only [List.mem_singleton] at he; subst he; exact hb_b_p_s) (by simp [fps, LEnt.fp]) (by simp [fps, LEnt.fp]) fun a S => ?_
 unfold Stream_MeetRaces at h
 replace S := S.nk [.blk b_p_s [v_p_s_L, iV p_s_at] 25] [(0, .pointer (some ⟨b_p_s, 0, none⟩))] [true] rfl ⟨rfl, trivial⟩
 refine f_seq (f_region (lv S (rn_assign rfl) rfl ?_)); clear S; intro a S
 refine l_done (then_n (f_seq (f_region (lv S (rn_assign rfl) rfl ?_)))); clear S; intro a S
 replace S := S.nil 42 8
 refine l_done (then_n (f_seq (f_seq (f_region (l_buildSlice S Tryz.underlying35 Tryz.sizeOf9 Tryz.zeroValue9 rfl rfl (pv := [(0, sV k_ra), (1, sV k_rb), (2, sV k_rc)]) ⟨rfl, rfl, rfl, rfl, rfl, rfl, trivial⟩ (cs := [sV k_ra, sV k_rb, sV k_rc]) (by kernel_rfl) rfl ?_))))); clear S; intro a w1 b1 hz1 hk1 S
 refine lv S (rn_lenT sl_35 (S.tm rfl) ⟨_, _, rfl⟩) rfl ?_; clear S; intro a S
 refine lv S (rn_move rfl) rfl ?_; clear S; intro a S
 refine l_done (then_n ?_)
 replace S := S.nk [.blk b1 [sV k_ra, sV k_rb, sV k_rc] 9, .own (.slice none 0 0) 42 8 ([] : List GRace).length (([] : List GRace).flatMap GRace.enc), .blk b_p_s [v_p_s_L, iV p_s_at] 25] [(0, .pointer (some ⟨b_p_s, 0, none⟩)), (3, (.slice none 0 0)), (6, .slice (some ⟨b1, 0, none⟩) 3 3), (7, iV (([k_ra, k_rb, k_rc] : List ByteArray).length : Int)), (8, iV 0)] [true, true, true] rfl (subR rfl)
 replace S := S.litOwn (i := 0) (xs := [k_ra, k_rb, k_rc]) rfl enc_str rfl rfl rfl
 replace S := S.nk [.own (.slice (some ⟨b1, 0, none⟩) 3 3) 9 1 ([k_ra, k_rb, k_rc] : List ByteArray).length (([k_ra, k_rb, k_rc] : List ByteArray).flatMap eStr), .own (.slice none 0 0) 42 8 ([] : List GRace).length (([] : List GRace).flatMap GRace.enc), .blk b_p_s [v_p_s_L, iV p_s_at] 25] [(0, .pointer (some ⟨b_p_s, 0, none⟩)), (3, (.slice none 0 0)), (6, (.slice (some ⟨b1, 0, none⟩) 3 3)), (7, iV (([k_ra, k_rb, k_rc] : List ByteArray).length : Int)), (8, iV 0)] [] rfl (subR rfl)
 obtain ⟨φ1, hl1, hs1, S⟩ := S.freezeT (xs := ([k_ra, k_rb, k_rc] : List ByteArray)) (enc := eStr) (i := 0) rfl (fun c hc hh => not_fps S (i := 2) rfl rfl (j := 0) rfl rfl (by simp at hc; subst hc; exact hh))
 replace S := S.nk [.own (.slice none 0 0) 42 8 ([] : List GRace).length (([] : List GRace).flatMap GRace.enc), .blk b_p_s [v_p_s_L, iV p_s_at] 25] [(0, .pointer (some ⟨b_p_s, 0, none⟩)), (3, (.slice none 0 0)), (6, (.slice (some ⟨b1, 0, none⟩) 3 3)), (7, iV (([k_ra, k_rb, k_rc] : List ByteArray).length : Int)), (8, iV 0)] [] rfl (subR rfl)
 obtain ⟨j1, hj1, h⟩ := joinE h
 refine f_join (fun a w' => ∃ x1 : List GRace, ∃ x2 : Int, ∃ v1 : Value, j1 x1 x2 = some r ∧ Sx w [b_p_s] φ1 [.own v1 42 8 x1.length (x1.flatMap GRace.enc), .blk b_p_s [v_p_s_L, iV x2] 25] [(3, v1)] 23 a w') ?_ ?_
 ·refine wp_block (f_loop (fun (ys1 : List ByteArray) a w' => ∃ i1 : Nat, ∃ x1 : List GRace, ∃ x2 : Int, ∃ v1 : Value, (∃ dn, ([k_ra, k_rb, k_rc] : List ByteArray) = dn ++ ys1 ∧ dn.length = i1) ∧ Stream_MeetRaces_l1 p_s_L j1 ys1 i1 x1 x2 = some r ∧ Sx w [b_p_s] φ1 [.own v1 42 8 x1.length (x1.flatMap GRace.enc), .blk b_p_s [v_p_s_L, iV x2] 25] [(0, .pointer (some ⟨b_p_s, 0, none⟩)), (3, v1), (6, (.slice (some ⟨b1, 0, none⟩) 3 3)), (7, iV (([k_ra, k_rb, k_rc] : List ByteArray).length : Int)), (8, iV (i1 : Int))] 23 a w') List.length ([k_ra, k_rb, k_rc] : List ByteArray) ⟨0, ([] : List GRace), p_s_at, (.slice none 0 0), ⟨[], rfl, rfl⟩, h, S.nf [true, true] rfl (subR rfl)⟩ ?_)
  clear S h; rintro ys1 a w2 ⟨i1, x1, x2, v1, ⟨dn, hd1, hi1⟩, h, S⟩
  cases ys1 with
  | nil =>
   rw [Stream_MeetRaces_l1.eq_1] at h
   refine f_seq (f_region (lv S (rn_lss (S.tm rfl) (S.tm rfl)) rfl ?_)); clear S; intro a S
   refine l_done ?_
   replace S := S.nk [.own v1 42 8 x1.length (x1.flatMap GRace.enc), .blk b_p_s [v_p_s_L, iV x2] 25] [(0, .pointer (some ⟨b_p_s, 0, none⟩)), (3, v1), (6, (.slice (some ⟨b1, 0, none⟩) 3 3)), (7, iV (([k_ra, k_rb, k_rc] : List ByteArray).length : Int)), (8, iV (i1 : Int)), (9, bV (decide ((i1 : Int) < (([k_ra, k_rb, k_rc] : List ByteArray).length : Int))))] [true, true] rfl (subR rfl)
   refine then_n (f_seq (wp_cond_false ((S.tm rfl).trans (congrArg Value.bool (rng_nil hd1 hi1))) (wp_exit (then_x (then_x (x_same ?_))))))
   refine then_n ?_
   exact ⟨x1, x2, v1, h, S.nf [true, true] rfl ⟨rfl, trivial⟩⟩
  | cons y1 ys1 =>
   rw [Stream_MeetRaces_l1.eq_2] at h
   refine f_seq (f_region (lv S (rn_lss (S.tm rfl) (S.tm rfl)) rfl ?_)); clear S; intro a S
   refine l_done ?_
   replace S := S.nk [.own v1 42 8 x1.length (x1.flatMap GRace.enc), .blk b_p_s [v_p_s_L, iV x2] 25] [(0, .pointer (some ⟨b_p_s, 0, none⟩)), (3, v1), (6, (.slice (some ⟨b1, 0, none⟩) 3 3)), (7, iV (([k_ra, k_rb, k_rc] : List ByteArray).length : Int)), (8, iV (i1 : Int)), (9, bV (decide ((i1 : Int) < (([k_ra, k_rb, k_rc] : List ByteArray).length : Int))))] [true, true] rfl (subR rfl)
   refine then_n (f_seq (wp_cond_true ((S.tm rfl).trans (congrArg Value.bool (rng_cons hd1 hi1))) (wp_skip (then_n (f_seq ?_)))))
   obtain ⟨j2, hj2, h⟩ := joinE h
   refine f_join (fun a w' => ∃ x3 : List GRace, ∃ x4 : Int, ∃ v2 : Value, j2 x3 x4 = some r ∧ Sx w [b_p_s] φ1 [.own v2 42 8 x3.length (x3.flatMap GRace.enc), .blk b_p_s [v_p_s_L, iV x4] 25] [(0, .pointer (some ⟨b_p_s, 0, none⟩)), (3, v2), (6, (.slice (some ⟨b1, 0, none⟩) 3 3)), (7, iV (([k_ra, k_rb, k_rc] : List ByteArray).length : Int)), (8, iV (i1 : Int))] 23 a w') ?_ ?_
   ·refine wp_block (f_seq (f_region ?_))
    obtain ⟨b2, o1, hm1, hr1⟩ := rn_indexT (a := a) (x := .tmp 6) (y := .tmp 8) (ty := 0) sl_35 (ownV_slcT enc_str hs1) (get_mid hd1 hi1) rfl (S.tm rfl) (S.tm rfl)
    refine lv S (hr1 _) rfl ?_; clear S; intro a S
    clear hr1
    refine lv S (rn_ld Tryz.isAgg9 (off := o1) (o := 0) (S.tm rfl) (hm1.at S.emb) rfl) rfl ?_; clear S; intro a S
    refine lv S (rn_assign (S.tm rfl)) rfl ?_; clear S; intro a S
    refine l_done (then_n (f_seq (f_region (lv S (rn_move (S.tm rfl)) rfl ?_)))); clear S; intro a S
    obtain ⟨r1, hr2, h⟩ := bindE h
    refine l_enter1 1 S (b := b_p_s) rfl rfl (fun _ => .blk b_p_s [v_p_s_L, iV r1.2] 25) (fun _ => run_call (vs := [.pointer (some ⟨b_p_s, 0, none⟩), iV 6]) ⟨(S.tm rfl), rfl, trivial⟩ Tryz.call9) (Stream_Flip_ok _ b_p_s v_p_s_L p_s_L (hs_p_s_L.mono (S.le_arg (fp_sub (i := 1) (e := .blk b_p_s [v_p_s_L, iV x2] 25) rfl))) x2 (S.holds _ (List.mem_of_getElem? (i := 1) rfl)) 6 _ hr2) rfl (fun _ _ _ h => ⟨h.1, fun _ hc => by cases hc; rfl⟩) ?_; clear S; intro v3 a w5 hv1 hk2 hn1 S
    replace hv1 := hv1.2
    subst hv1
    refine lv S (rn_not (S.tm rfl)) rfl ?_; clear S; intro a S
    refine l_done (then_n ?_)
    obtain ⟨j3, hj3, h⟩ := joinE h
    refine f_join (fun a w' => ∃ x5 : List GRace, ∃ x6 : Int, ∃ v4 : Value, j3 x5 x6 = some r ∧ Sx w [b_p_s] φ1 [.own v4 42 8 x5.length (x5.flatMap GRace.enc), .blk b_p_s [v_p_s_L, iV x6] 25] [(0, .pointer (some ⟨b_p_s, 0, none⟩)), (3, v4), (6, (.slice (some ⟨b1, 0, none⟩) 3 3)), (7, iV (([k_ra, k_rb, k_rc] : List ByteArray).length : Int)), (8, iV (i1 : Int))] 23 a w') ?_ ?_
    ·refine f_cond (S.tm rfl) (fun hb1 => ?_) (fun hb1 => ?_)
     ·replace h := iteT h hb1
      refine f_region (lv S (rn_move (S.tm rfl)) rfl ?_); clear S; intro a S
      refine lv S (rn_move (S.tm rfl)) rfl ?_; clear S; intro a S
      refine lv S (rn_move (S.tm rfl)) rfl ?_; clear S; intro a S
      obtain ⟨r2, hr3, h⟩ := bindE h
      refine l_enter1 1 S (b := b_p_s) rfl rfl (fun _ => .blk b_p_s [v_p_s_L, iV r2.2] 25) (fun _ => run_call (vs := [.pointer (some ⟨b_p_s, 0, none⟩), sV y1]) ⟨(S.tm rfl), (S.tm rfl), trivial⟩ Tryz.call61) (Stream_MeetRace_ok _ b_p_s v_p_s_L p_s_L (hs_p_s_L.mono (S.le_arg (fp_sub (i := 1) (e := .blk b_p_s [v_p_s_L, iV r1.2] 25) rfl))) r1.2 (S.holds _ (List.mem_of_getElem? (i := 1) rfl)) y1 _ hr3) rfl (fun _ _ _ h => ⟨h.1, fun _ hc => by cases hc; rfl⟩) ?_; clear S; intro v5 a w7 hv2 hk3 hn2 S
      replace hv2 := hv2.2
      subst hv2
      refine l_buildSlice S Tryz.underlying26 Tryz.sizeOf42 Tryz.zeroValue42 rfl rfl (pv := [(0, .agg (GRace.enc r2.1).toArray)]) ⟨rfl, (S.tm rfl), trivial⟩ (cs := [sV r2.1.Key, iV r2.1.Metres, iV r2.1.Stroke, iV r2.1.Course, iV r2.1.Legs, iV r2.1.Sex, iV r2.1.Young, iV r2.1.Old]) (by kernel_rfl) rfl ?_; clear S; intro a w8 b3 hz2 hk4 S
      obtain ⟨hc1, h⟩ := chkE h
      refine l_appendT sl_26 GRace.enc_ok S (S.tm rfl) (i := 1) rfl (S.tm rfl) (j := 0) rfl (ys := [r2.1]) rfl rfl rfl rfl (by have := room_lt hc1; omega) rfl ?_; clear S; intro v6 a w9 hk5 S
      refine lv S (rn_assign (S.tm rfl)) rfl ?_; clear S; intro a S
      refine l_done ?_
      replace S := S.nk [.own v6 42 8 (x1 ++ [r2.1]).length ((x1 ++ [r2.1]).flatMap GRace.enc), .blk b_p_s [v_p_s_L, iV r2.2] 25] [(0, .pointer (some ⟨b_p_s, 0, none⟩)), (3, v6), (6, (.slice (some ⟨b1, 0, none⟩) 3 3)), (7, iV (([k_ra, k_rb, k_rc] : List ByteArray).length : Int)), (8, iV (i1 : Int))] [false, true, true] rfl (subR rfl)
      refine then_n ?_
      exact ⟨(x1 ++ [r2.1]), r2.2, v6, h, S.nf [true, true] rfl (subR rfl)⟩
     ·replace h := iteF h hb1
      refine wp_skip (then_n ?_)
      exact ⟨x1, r1.2, v1, h, S.nf [true, true] rfl (subR rfl)⟩
    clear S h; rintro a w6 ⟨x5, x6, v4, h, S⟩; rw [hj3] at h; clear hj3 j3
    refine blk_n (then_n ?_)
    exact ⟨x5, x6, v4, h, S.nf [true, true] rfl (subR rfl)⟩
   clear S h; rintro a w4 ⟨x3, x4, v2, h, S⟩; rw [hj2] at h; clear hj2 j2
   refine then_n (f_region (lv S (rn_add (S.tm rfl) rfl) rfl ?_)); clear S; intro a S
   refine lv S (rn_move (S.tm rfl)) rfl ?_; clear S; intro a S
   refine l_done (then_n ?_)
   exact ⟨ys1, ⟨i1 + 1, x3, x4, v2, ⟨_, (hd1).trans (List.append_cons _ _ _), by simp [hi1]⟩, h, S.nf [true, true] rfl ⟨rfl, rfl, rfl, rfl, (congrArg (fun z => some (Value.int .i64 z)) (rng_next hd1 hi1 (slc_max (ownV_slcT enc_str hs1)))), trivial⟩⟩, Nat.lt_succ_self _⟩
 clear S h; rintro a w3 ⟨x1, x2, v1, h, S⟩; rw [hj1] at h; clear hj1 j1
 refine then_n (f_seq (f_region (lv S (rn_move (S.tm rfl)) rfl ?_))); clear S; intro a S
 refine lv S (rn_assign (S.tm rfl)) rfl ?_; clear S; intro a S
 refine l_done (then_n (wp_ret ?_))
 obtain rfl := Option.some.inj h
 exact f_ret S Tryz.results29 rfl ⟨(S.holds _ (List.mem_of_getElem? (i := 1) rfl)), (own_retX S (i := 0) rfl (fun c hc hh => not_fps S (i := 1) rfl rfl (j := 0) rfl rfl (by simp at hc; subst hc; exact hh)))⟩
theorem Stream_Some_ok (w : World) (b_p_s : Nat) (v_p_s_L : Value) (p_s_L : List Int) (hs_p_s_L : Slc (view w [b_p_s]) 1 v_p_s_L (p_s_L.map eInt)) (p_s_at : Int) (hb_b_p_s : (LEnt.blk b_p_s [v_p_s_L, iV p_s_at] 25).holds w) (v_p_l : Value) (p_l : List ByteArray) (hs_p_l : Slc (view w [b_p_s]) 1 v_p_l (p_l.map eStr)) (r : ByteArray × Int) (h : Stream_Some p_s_L p_s_at p_l = some r) :
    Calls Tryz.prog 31 [.pointer (some ⟨b_p_s, 0, none⟩), v_p_l].toArray w (Ret w [b_p_s] fun _ v w' => (LEnt.blk b_p_s [v_p_s_L, iV r.2] 25).holds w' ∧ v = sV r.1) := by
 refine f_enter [b_p_s] [.blk b_p_s [v_p_s_L, iV p_s_at] 25] Tryz.func31 rfl Tryz.ntmps31 rfl (fun e he => by simp only [List.mem_singleton] at he; subst he; exact hb_b_p_s) (by simp [fps, LEnt.fp]) (by simp [fps, LEnt.fp]) fun a S => ?_
 unfold Stream_Some at h
 replace S := S.nk [.blk b_p_s [v_p_s_L, iV p_s_at] 25] [(0, .pointer (some ⟨b_p_s, 0, none⟩)), (1, v_p_l)] [true] rfl (subR rfl)
 refine f_seq (f_region (lv S (rn_assign rfl) rfl ?_)); clear S; intro a S
 refine l_done (then_n (f_seq (f_region (lv S (rn_move (S.tm rfl)) rfl ?_)))); clear S; intro a S
 refine lv S (rn_move (S.tm rfl)) rfl ?_; clear S; intro a S
 refine lv S (rn_move (S.tm rfl)) rfl ?_; clear S; intro a S
 refine lv S (rn_lenT sl_35 (S.tm rfl) (slc_len hs_p_l)) rfl ?_; clear S; intro a S
 obtain ⟨r1, hr1, h⟩ := bindE h
 refine l_enter1 0 S (b := b_p_s) rfl rfl (fun _ => .blk b_p_s [v_p_s_L, iV r1.2] 25) (fun _ => run_call (vs := [.pointer (some ⟨b_p_s, 0, none⟩), iV (p_l.length : Int)]) ⟨(S.tm rfl), (S.tm rfl), trivial⟩ Tryz.call30) (Stream_Next_ok _ b_p_s v_p_s_L p_s_L (hs_p_s_L.mono (S.le_arg (fp_sub (i := 0) (e := .blk b_p_s [v_p_s_L, iV p_s_at] 25) rfl))) p_s_at (S.holds _ (List.mem_of_getElem? (i := 0) rfl)) (p_l.length : Int) _ hr1) rfl (fun _ _ _ h => ⟨h.1, fun _ hc => by cases hc; rfl⟩) ?_; clear S; intro v1 a w1 hv1 hk1 hn1 S
 replace hv1 := hv1.2
 subst hv1
 obtain ⟨hc1, h⟩ := chkE h
 obtain ⟨b1, o1, hm1, hr2⟩ := rn_indexT (a := a) (x := .tmp 5) (y := .tmp 9) (ty := 0) sl_35 hs_p_l (inB_get hc1).1 (inB_get hc1).2 (S.tm rfl) (S.tm rfl)
 refine lv S (hr2 _) rfl ?_; clear S; intro a S
 clear hr2
 refine lv S (rn_ld Tryz.isAgg9 (off := o1) (o := 0) (S.tm rfl) (hm1.at S.emb0) rfl) rfl ?_; clear S; intro a S
 refine lv S (rn_assign (S.tm rfl)) rfl ?_; clear S; intro a S
 refine l_done (then_n (wp_ret ?_))
 obtain rfl := Option.some.inj h
 exact f_ret S Tryz.results31 rfl ⟨(S.holds _ (List.mem_of_getElem? (i := 0) rfl)), rfl⟩
theorem Stream_Range_ok (w : World) (b_p_s : Nat) (v_p_s_L : Value) (p_s_L : List Int) (hs_p_s_L : Slc (view w [b_p_s]) 1 v_p_s_L (p_s_L.map eInt)) (p_s_at : Int) (hb_b_p_s : (LEnt.blk b_p_s [v_p_s_L, iV p_s_at] 25).holds w) (p_low : Int) (p_high : Int) (r : Int × Int) (h : Stream_Range p_s_L p_s_at p_low p_high = some r) :
    Calls Tryz.prog 36 [.pointer (some ⟨b_p_s, 0, none⟩), iV p_low, iV p_high].toArray w (Ret w [b_p_s] fun _ v w' => (LEnt.blk b_p_s [v_p_s_L, iV r.2] 25).holds w' ∧ v = iV r.1) := by
 refine f_enter [b_p_s] [.blk b_p_s [v_p_s_L, iV p_s_at] 25] Tryz.func36 rfl Tryz.ntmps36 rfl (fun e he => by simp only [List.mem_singleton] at he; subst he; exact hb_b_p_s) (by simp [fps, LEnt.fp]) (by simp [fps, LEnt.fp]) fun a S => ?_
 unfold Stream_Range at h
 replace S := S.nk [.blk b_p_s [v_p_s_L, iV p_s_at] 25] [(0, .pointer (some ⟨b_p_s, 0, none⟩)), (1, iV p_low), (2, iV p_high)] [true] rfl (subR rfl)
 refine f_seq (f_region (lv S (rn_assign rfl) rfl ?_)); clear S; intro a S
 refine l_done (then_n (f_seq (f_seq (f_region (lv S (rn_move (S.tm rfl)) rfl ?_))))); clear S; intro a S
 refine lv S (rn_move (S.tm rfl)) rfl ?_; clear S; intro a S
 refine lv S (rn_lss (S.tm rfl) (S.tm rfl)) rfl ?_; clear S; intro a S
 refine l_done (then_n (f_cond (S.tm rfl) (fun hb1 => ?_) (fun hb1 => ?_)))
 ·replace h := iteT h hb1
  refine f_seq (f_region (lv S (rn_move (S.tm rfl)) rfl ?_)); clear S; intro a S
  refine lv S (rn_assign (S.tm rfl)) rfl ?_; clear S; intro a S
  refine l_done (then_n (wp_ret (then_r ?_)))
  obtain rfl := Option.some.inj h
  exact f_ret S Tryz.results36 rfl ⟨(S.holds _ (List.mem_of_getElem? (i := 0) rfl)), rfl⟩
 ·replace h := iteF h hb1
  refine wp_skip (then_n (f_seq (f_region (lv S (rn_move (S.tm rfl)) rfl ?_)))); clear S; intro a S
  iterate 3 (refine lv S (rn_move (S.tm rfl)) rfl ?_; clear S; intro a S)
  refine lv S (rn_sub (S.tm rfl) (S.tm rfl)) rfl ?_; clear S; intro a S
  refine lv S (rn_add (S.tm rfl) rfl) rfl ?_; clear S; intro a S
  obtain ⟨r1, hr1, h⟩ := bindE h
  refine l_enter1 0 S (b := b_p_s) rfl rfl (fun _ => .blk b_p_s [v_p_s_L, iV r1.2] 25) (fun _ => run_call (vs := [.pointer (some ⟨b_p_s, 0, none⟩), iV (W ((W (p_high - p_low)) + 1))]) ⟨(S.tm rfl), (S.tm rfl), trivial⟩ Tryz.call30) (Stream_Next_ok _ b_p_s v_p_s_L p_s_L (hs_p_s_L.mono (S.le_arg (fp_sub (i := 0) (e := .blk b_p_s [v_p_s_L, iV p_s_at] 25) rfl))) p_s_at (S.holds _ (List.mem_of_getElem? (i := 0) rfl)) (W ((W (p_high - p_low)) + 1)) _ hr1) rfl (fun _ _ _ h => ⟨h.1, fun _ hc => by cases hc; rfl⟩) ?_; clear S; intro v1 a w1 hv1 hk1 hn1 S
  replace hv1 := hv1.2
  subst hv1
  refine lv S (rn_add (S.tm rfl) (S.tm rfl)) rfl ?_; clear S; intro a S
  refine lv S (rn_assign (S.tm rfl)) rfl ?_; clear S; intro a S
  refine l_done ?_
  replace S := S.nk [.blk b_p_s [v_p_s_L, iV r1.2] 25] [(6, iV (W (p_low + r1.1)))] [true] rfl ⟨rfl, trivial⟩
  refine then_n (wp_ret ?_)
  obtain rfl := Option.some.inj h
  exact f_ret S Tryz.results36 rfl ⟨(S.holds _ (List.mem_of_getElem? (i := 0) rfl)), rfl⟩
theorem Stream_Odd_ok (w : World) (b_p_s : Nat) (v_p_s_L : Value) (p_s_L : List Int) (hs_p_s_L : Slc (view w [b_p_s]) 1 v_p_s_L (p_s_L.map eInt)) (p_s_at : Int) (hb_b_p_s : (LEnt.blk b_p_s [v_p_s_L, iV p_s_at] 25).holds w) (p_low : Int) (p_high : Int) (r : Int × Int) (h : Stream_Odd p_s_L p_s_at p_low p_high = some r) :
    Calls Tryz.prog 32 [.pointer (some ⟨b_p_s, 0, none⟩), iV p_low, iV p_high].toArray w (Ret w [b_p_s] fun _ v w' => (LEnt.blk b_p_s [v_p_s_L, iV r.2] 25).holds w' ∧ v = iV r.1) := by
 refine f_enter [b_p_s] [.blk b_p_s [v_p_s_L, iV p_s_at] 25] Tryz.func32 rfl Tryz.ntmps32 rfl (fun e he => by simp only [List.mem_singleton] at he; subst he; exact hb_b_p_s) (by simp [fps, LEnt.fp]) (by simp [fps, LEnt.fp]) fun a S => ?_
 unfold Stream_Odd at h
 replace S := S.nk [.blk b_p_s [v_p_s_L, iV p_s_at] 25] [(0, .pointer (some ⟨b_p_s, 0, none⟩)), (1, iV p_low), (2, iV p_high)] [true] rfl (subR rfl)
 refine f_seq (f_region (lv S (rn_assign rfl) rfl ?_)); clear S; intro a S
 refine l_done (then_n (f_seq (f_seq (f_region (lv S (rn_move (S.tm rfl)) rfl ?_))))); clear S; intro a S
 obtain ⟨r1, hr1, h⟩ := bindE h
 refine l_enter1 0 S (b := b_p_s) rfl rfl (fun _ => .blk b_p_s [v_p_s_L, iV r1.2] 25) (fun _ => run_call (vs := [.pointer (some ⟨b_p_s, 0, none⟩), iV 12]) ⟨(S.tm rfl), rfl, trivial⟩ Tryz.call9) (Stream_Flip_ok _ b_p_s v_p_s_L p_s_L (hs_p_s_L.mono (S.le_arg (fp_sub (i := 0) (e := .blk b_p_s [v_p_s_L, iV p_s_at] 25) rfl))) p_s_at (S.holds _ (List.mem_of_getElem? (i := 0) rfl)) 12 _ hr1) rfl (fun _ _ _ h => ⟨h.1, fun _ hc => by cases hc; rfl⟩) ?_; clear S; intro v1 a w1 hv1 hk1 hn1 S
 replace hv1 := hv1.2
 subst hv1
 refine l_done (then_n (f_cond (S.tm rfl) (fun hb1 => ?_) (fun hb1 => ?_)))
 ·replace h := iteT h hb1
  refine f_seq (f_region (lv S (rn_move (S.tm rfl)) rfl ?_)); clear S; intro a S
  refine lv S (rn_move (S.tm rfl)) rfl ?_; clear S; intro a S
  refine lv S (rn_sub (S.tm rfl) rfl) rfl ?_; clear S; intro a S
  refine lv S (rn_move (S.tm rfl)) rfl ?_; clear S; intro a S
  refine lv S (rn_add (S.tm rfl) rfl) rfl ?_; clear S; intro a S
  refine lv S (rn_move (S.tm rfl)) rfl ?_; clear S; intro a S
  refine lv S (rn_move (S.tm rfl)) rfl ?_; clear S; intro a S
  refine l_buildSlice S Tryz.underlying22 Tryz.sizeOf3 Tryz.zeroValue3 rfl rfl (pv := [(0, iV (W (p_low - 1))), (1, iV (W (p_high + 1))), (2, iV p_low), (3, iV p_high), (4, iV (-1099511627776)), (5, iV 1099511627776)]) ⟨rfl, (S.tm rfl), rfl, (S.tm rfl), rfl, (S.tm rfl), rfl, (S.tm rfl), rfl, rfl, rfl, rfl, trivial⟩ (cs := [iV (W (p_low - 1)), iV (W (p_high + 1)), iV p_low, iV p_high, iV (-1099511627776), iV 1099511627776]) (by kernel_rfl) rfl ?_; clear S; intro a w2 b1 hz1 hk2 S
  obtain ⟨r2, hr2, h⟩ := bindE h
  refine l_enter1 1 S (b := b_p_s) rfl rfl (fun _ => .blk b_p_s [v_p_s_L, iV r2.2] 25) (fun _ => run_call (vs := [.pointer (some ⟨b_p_s, 0, none⟩), .slice (some ⟨b1, 0, none⟩) 6 6]) ⟨(S.tm rfl), (S.tm rfl), trivial⟩ Tryz.call11) (Stream_Pick_ok _ b_p_s v_p_s_L p_s_L (hs_p_s_L.mono (S.le_arg (fp_sub (i := 1) (e := .blk b_p_s [v_p_s_L, iV r1.2] 25) rfl))) r1.2 (S.holds _ (List.mem_of_getElem? (i := 1) rfl)) (.slice (some ⟨b1, 0, none⟩) 6 6) [W (p_low - 1), W (p_high + 1), p_low, p_high, (-1099511627776), 1099511627776] (lit_slcT enc_int S (i := 0) rfl rfl rfl rfl ((ne_fp (i := 1) (j := 0) (e := .blk b_p_s [v_p_s_L, iV r1.2] 25) (e' := .blk b1 [iV (W (p_low - 1)), iV (W (p_high + 1)), iV p_low, iV p_high, iV (-1099511627776), iV 1099511627776] 3) S rfl rfl rfl) _ rfl)) _ hr2) rfl (fun _ _ _ h => ⟨h.1, fun _ hc => by cases hc; rfl⟩) ?_; clear S; intro v2 a w3 hv2 hk3 hn2 S
  replace hv2 := hv2.2
  subst hv2
  refine lv S (rn_assign (S.tm rfl)) rfl ?_; clear S; intro a S
  refine l_done ?_
  replace S := S.nk [.blk b_p_s [v_p_s_L, iV r2.2] 25] [(6, iV r2.1)] [false, true] rfl ⟨rfl, trivial⟩
  refine then_n (wp_ret (then_r ?_))
  obtain rfl := Option.some.inj h
  exact f_ret S Tryz.results32 rfl ⟨(S.holds _ (List.mem_of_getElem? (i := 0) rfl)), rfl⟩
 ·replace h := iteF h hb1
  refine wp_skip (then_n (f_seq (f_region (lv S (rn_move (S.tm rfl)) rfl ?_)))); clear S; intro a S
  refine lv S (rn_move (S.tm rfl)) rfl ?_; clear S; intro a S
  refine lv S (rn_move (S.tm rfl)) rfl ?_; clear S; intro a S
  obtain ⟨r3, hr3, h⟩ := bindE h
  refine l_enter1 0 S (b := b_p_s) rfl rfl (fun _ => .blk b_p_s [v_p_s_L, iV r3.2] 25) (fun _ => run_call (vs := [.pointer (some ⟨b_p_s, 0, none⟩), iV p_low, iV p_high]) ⟨(S.tm rfl), (S.tm rfl), (S.tm rfl), trivial⟩ Tryz.call36) (Stream_Range_ok _ b_p_s v_p_s_L p_s_L (hs_p_s_L.mono (S.le_arg (fp_sub (i := 0) (e := .blk b_p_s [v_p_s_L, iV r1.2] 25) rfl))) r1.2 (S.holds _ (List.mem_of_getElem? (i := 0) rfl)) p_low p_high _ hr3) rfl (fun _ _ _ h => ⟨h.1, fun _ hc => by cases hc; rfl⟩) ?_; clear S; intro v3 a w4 hv3 hk4 hn3 S
  replace hv3 := hv3.2
  subst hv3
  refine lv S (rn_assign (S.tm rfl)) rfl ?_; clear S; intro a S
  refine l_done (then_n (wp_ret ?_))
  obtain rfl := Option.some.inj h
  exact f_ret S Tryz.results32 rfl ⟨(S.holds _ (List.mem_of_getElem? (i := 0) rfl)), rfl⟩
theorem Stream_SpoiltRaces_ok (w : World) (b_p_s : Nat) (v_p_s_L : Value) (p_s_L : List Int) (hs_p_s_L : Slc (view w [b_p_s]) 1 v_p_s_L (p_s_L.map eInt)) (p_s_at : Int) (hb_b_p_s : (LEnt.blk b_p_s [v_p_s_L, iV p_s_at] 25).holds w) (r : (List GRace) × Int) (h : Stream_SpoiltRaces p_s_L p_s_at = some r) :
    Calls Tryz.prog 4 [.pointer (some ⟨b_p_s, 0, none⟩)].toArray w (Ret w [b_p_s] fun τ v w' => (LEnt.blk b_p_s [v_p_s_L, iV r.2] 25).holds w' ∧ OwnV τ 42 8 v r.1.length (r.1.flatMap GRace.enc)) := by
 refine f_enter [b_p_s] [.blk b_p_s [v_p_s_L, iV p_s_at] 25] Tryz.func4 rfl Tryz.ntmps4 rfl (fun e he => by simp only [List.mem_singleton] at he; subst he; exact hb_b_p_s) (by simp [fps, LEnt.fp]) (by simp [fps, LEnt.fp]) fun a S => ?_
 unfold Stream_SpoiltRaces at h
 replace S := S.nk [.blk b_p_s [v_p_s_L, iV p_s_at] 25] [(0, .pointer (some ⟨b_p_s, 0, none⟩))] [true] rfl ⟨rfl, trivial⟩
 refine f_seq (f_region (lv S (rn_assign rfl) rfl ?_)); clear S; intro a S
 refine l_done (then_n (f_seq (f_region (lv S (rn_move (S.tm rfl)) rfl ?_)))); clear S; intro a S
 obtain ⟨r1, hr1, h⟩ := bindE h
 have hz1 := S.keep.size
 refine l_enter1 0 S (b := b_p_s) rfl rfl (fun _ => .blk b_p_s [v_p_s_L, iV r1.2] 25) (fun _ => run_call (vs := [.pointer (some ⟨b_p_s, 0, none⟩)]) ⟨(S.tm rfl), trivial⟩ Tryz.call29) (Stream_MeetRaces_ok _ b_p_s v_p_s_L p_s_L (hs_p_s_L.mono (S.le_arg (fp_sub (i := 0) (e := .blk b_p_s [v_p_s_L, iV p_s_at] 25) rfl))) p_s_at (S.holds _ (List.mem_of_getElem? (i := 0) rfl)) _ hr1) rfl (fun _ _ _ h => ⟨h.1, fun _ hc => by cases hc; rfl⟩) ?_; clear S; intro v1 a w1 hv1 hk1 hn1 S
 replace hv1 := hv1.2
 replace S := S.take hn1 hz1 hv1
 refine lv S (rn_assign (S.tm rfl)) rfl ?_; clear S; intro a S
 refine l_done (then_n (f_seq (f_seq (f_region (lv S (rn_move (S.tm rfl)) rfl ?_))))); clear S; intro a S
 refine lv S (rn_lenT sl_26 (S.tm rfl) (own_len (S.own_at (i := 0) rfl))) rfl ?_; clear S; intro a S
 refine lv S (rn_gtr (S.tm rfl) rfl) rfl ?_; clear S; intro a S
 refine lv S (rn_move (S.tm rfl)) rfl ?_; clear S; intro a S
 obtain ⟨j1, hj1, h⟩ := joinE h
 refine f_cutm 3 (fun a w' => ∃ x1 : Int, ∃ x2 : Bool, j1 x1 x2 = some r ∧ Sx w [b_p_s] nov [.own v1 42 8 r1.1.length (r1.1.flatMap GRace.enc), .blk b_p_s [v_p_s_L, iV x1] 25] [(0, .pointer (some ⟨b_p_s, 0, none⟩)), (3, v1), (13, bV x2)] 48 a w') ?_ ?_
 ·rcases Bool.eq_false_or_eq_true (decide (0 < (r1.1.length : Int))) with hb1 | hb1
  ·replace h := iteT h hb1
   refine l_want S rfl rfl rfl hb1 (lv S (rn_move (S.tm rfl)) rfl ?_); clear S; intro a S
   refine l_want S rfl rfl rfl hb1 ?_
   obtain ⟨r2, hr2, h⟩ := bindE h
   refine l_enter1 1 S (b := b_p_s) rfl rfl (fun _ => .blk b_p_s [v_p_s_L, iV r2.2] 25) (fun _ => run_call (vs := [.pointer (some ⟨b_p_s, 0, none⟩), iV 12]) ⟨(S.tm rfl), rfl, trivial⟩ Tryz.call9) (Stream_Flip_ok _ b_p_s v_p_s_L p_s_L (hs_p_s_L.mono (S.le_arg (fp_sub (i := 1) (e := .blk b_p_s [v_p_s_L, iV r1.2] 25) rfl))) r1.2 (S.holds _ (List.mem_of_getElem? (i := 1) rfl)) 12 _ hr2) rfl (fun _ _ _ h => ⟨h.1, fun _ hc => by cases hc; rfl⟩) ?_; clear S; intro v2 a w3 hv2 hk2 hn2 S
   replace hv2 := hv2.2
   subst hv2
   refine lv S (rn_pick_b hb1 (S.tm rfl) (S.tm rfl)) rfl ?_; clear S; intro a S
   refine l_done (then_n ?_)
   exact ⟨r2.2, r2.1, h, S.nf [true, true] rfl (subR rfl)⟩
  ·replace h := iteF h hb1
   refine l_skip S rfl rfl rfl (neq_f hb1) rfl ?_ rfl; clear S; intro a S
   refine l_skip S rfl rfl rfl (neq_f hb1) rfl ?_ rfl; clear S; intro a S
   refine lv S (rn_pick_c hb1 (S.tm rfl) rfl) rfl ?_; clear S; intro a S
   refine l_done (then_n ?_)
   exact ⟨r1.2, false, h, S.nf [true, true] rfl (subR rfl)⟩
 clear S h; rintro a w2 ⟨x1, x2, h, S⟩; rw [hj1] at h; clear hj1 j1
 refine l_done (then_n ?_)
 obtain ⟨j2, hj2, h⟩ := joinE h
 refine f_join (fun a w' => ∃ x3 : List GRace, ∃ x4 : Int, j2 x3 x4 = some r ∧ Sx w [b_p_s] nov [.own v1 42 8 x3.length (x3.flatMap GRace.enc), .blk b_p_s [v_p_s_L, iV x4] 25] [(3, v1)] 48 a w') ?_ ?_
 ·refine f_cond (S.tm rfl) (fun hb2 => ?_) (fun hb2 => ?_)
  ·replace h := iteT h hb2
   refine f_seq (f_region (lv S (rn_move (S.tm rfl)) rfl ?_)); clear S; intro a S
   refine lv S (rn_move (S.tm rfl)) rfl ?_; clear S; intro a S
   refine lv S (rn_move (S.tm rfl)) rfl ?_; clear S; intro a S
   refine lv S (rn_lenT sl_26 (S.tm rfl) (own_len (S.own_at (i := 0) rfl))) rfl ?_; clear S; intro a S
   obtain ⟨r3, hr3, h⟩ := bindE h
   refine l_enter1 1 S (b := b_p_s) rfl rfl (fun _ => .blk b_p_s [v_p_s_L, iV r3.2] 25) (fun _ => run_call (vs := [.pointer (some ⟨b_p_s, 0, none⟩), iV (r1.1.length : Int)]) ⟨(S.tm rfl), (S.tm rfl), trivial⟩ Tryz.call30) (Stream_Next_ok _ b_p_s v_p_s_L p_s_L (hs_p_s_L.mono (S.le_arg (fp_sub (i := 1) (e := .blk b_p_s [v_p_s_L, iV x1] 25) rfl))) x1 (S.holds _ (List.mem_of_getElem? (i := 1) rfl)) (r1.1.length : Int) _ hr3) rfl (fun _ _ _ h => ⟨h.1, fun _ hc => by cases hc; rfl⟩) ?_; clear S; intro v3 a w5 hv3 hk3 hn3 S
   replace hv3 := hv3.2
   subst hv3
   obtain ⟨hc1, h⟩ := chkE h
   obtain ⟨b1, hg1, hr4⟩ := rn_indexS (a := a) (x := .tmp 14) (y := .tmp 18) (ty := 0) sl_26 GRace.enc_ok S (i := 0) rfl (inB_get hc1).1 (inB_get hc1).2 (S.tm rfl) (S.tm rfl)
   refine lv S (hr4 _) rfl ?_; clear S; intro a S
   clear hr4
   refine lv S (rn_assign (S.tm rfl)) rfl ?_; clear S; intro a S
   refine l_done (then_n (f_region (lv S (rn_move (S.tm rfl)) rfl ?_))); clear S; intro a S
   iterate 5 (refine lv S (rn_move (S.tm rfl)) rfl ?_; clear S; intro a S)
   refine lv S (rn_nilCheck (S.tm rfl)) rfl ?_; clear S; intro a S
   refine lv S (rn_fld fa_42_0 (S.tm rfl)) rfl ?_; clear S; intro a S
   refine lv S (rn_ld Tryz.isAgg9 (off := r3.1.toNat * 8) (o := 0) (S.tm rfl) (own_cells GRace.enc_ok S (i := 0) rfl hg1 (inB_get hc1).1) rfl) rfl ?_; clear S; intro a S
   refine l_buildSlice S Tryz.underlying35 Tryz.sizeOf9 Tryz.zeroValue9 rfl rfl (pv := [(0, sV ((nth r1.1 r3.1).Key)), (1, sV k_empty), (2, sV k_ra)]) ⟨rfl, (S.tm rfl), rfl, rfl, rfl, rfl, trivial⟩ (cs := [sV ((nth r1.1 r3.1).Key), sV k_empty, sV k_ra]) (by kernel_rfl) rfl ?_; clear S; intro a w6 b2 hz2 hk4 S
   obtain ⟨r4, hr5, h⟩ := bindE h
   refine l_enter1 2 S (b := b_p_s) rfl rfl (fun _ => .blk b_p_s [v_p_s_L, iV r4.2] 25) (fun _ => run_call (vs := [.pointer (some ⟨b_p_s, 0, none⟩), .slice (some ⟨b2, 0, none⟩) 3 3]) ⟨(S.tm rfl), (S.tm rfl), trivial⟩ Tryz.call31) (Stream_Some_ok _ b_p_s v_p_s_L p_s_L (hs_p_s_L.mono (S.le_arg (fp_sub (i := 2) (e := .blk b_p_s [v_p_s_L, iV r3.2] 25) rfl))) r3.2 (S.holds _ (List.mem_of_getElem? (i := 2) rfl)) (.slice (some ⟨b2, 0, none⟩) 3 3) [(nth r1.1 r3.1).Key, k_empty, k_ra] (lit_slcT enc_str S (i := 0) rfl rfl rfl rfl ((ne_fp (i := 2) (j := 0) (e := .blk b_p_s [v_p_s_L, iV r3.2] 25) (e' := .blk b2 [sV ((nth r1.1 r3.1).Key), sV k_empty, sV k_ra] 9) S rfl rfl rfl) _ rfl)) _ hr5) rfl (fun _ _ _ h => ⟨h.1, fun _ hc => by cases hc; rfl⟩) ?_; clear S; intro v4 a w7 hv4 hk5 hn4 S
   replace hv4 := hv4.2
   subst hv4
   refine lv S (rn_move (S.tm rfl)) rfl ?_; clear S; intro a S
   obtain ⟨r5, hr6, h⟩ := bindE h
   refine l_enter1 2 S (b := b_p_s) rfl rfl (fun _ => .blk b_p_s [v_p_s_L, iV r5.2] 25) (fun _ => run_call (vs := [.pointer (some ⟨b_p_s, 0, none⟩), iV 1, iV 4]) ⟨(S.tm rfl), rfl, rfl, trivial⟩ Tryz.call32) (Stream_Odd_ok _ b_p_s v_p_s_L p_s_L (hs_p_s_L.mono (S.le_arg (fp_sub (i := 2) (e := .blk b_p_s [v_p_s_L, iV r4.2] 25) rfl))) r4.2 (S.holds _ (List.mem_of_getElem? (i := 2) rfl)) 1 4 _ hr6) rfl (fun _ _ _ h => ⟨h.1, fun _ hc => by cases hc; rfl⟩) ?_; clear S; intro v5 a w8 hv5 hk6 hn5 S
   replace hv5 := hv5.2
   subst hv5
   refine lv S (rn_move (S.tm rfl)) rfl ?_; clear S; intro a S
   refine l_buildSlice S Tryz.underlying22 Tryz.sizeOf3 Tryz.zeroValue3 rfl rfl (pv := [(0, iV 25), (1, iV 50), (2, iV 33)]) ⟨rfl, rfl, rfl, rfl, rfl, rfl, trivial⟩ (cs := [iV 25, iV 50, iV 33]) (by kernel_rfl) rfl ?_; clear S; intro a w9 b3 hz3 hk7 S
   obtain ⟨r6, hr7, h⟩ := bindE h
   refine l_enter1 3 S (b := b_p_s) rfl rfl (fun _ => .blk b_p_s [v_p_s_L, iV r6.2] 25) (fun _ => run_call (vs := [.pointer (some ⟨b_p_s, 0, none⟩), .slice (some ⟨b3, 0, none⟩) 3 3]) ⟨(S.tm rfl), (S.tm rfl), trivial⟩ Tryz.call11) (Stream_Pick_ok _ b_p_s v_p_s_L p_s_L (hs_p_s_L.mono (S.le_arg (fp_sub (i := 3) (e := .blk b_p_s [v_p_s_L, iV r5.2] 25) rfl))) r5.2 (S.holds _ (List.mem_of_getElem? (i := 3) rfl)) (.slice (some ⟨b3, 0, none⟩) 3 3) [25, 50, 33] (lit_slcT enc_int S (i := 0) rfl rfl rfl rfl ((ne_fp (i := 3) (j := 0) (e := .blk b_p_s [v_p_s_L, iV r5.2] 25) (e' := .blk b3 [iV 25, iV 50, iV 33] 3) S rfl rfl rfl) _ rfl)) _ hr7) rfl (fun _ _ _ h => ⟨h.1, fun _ hc => by cases hc; rfl⟩) ?_; clear S; intro v6 a w10 hv6 hk8 hn6 S
   replace hv6 := hv6.2
   subst hv6
   refine lv S (rn_move (S.tm rfl)) rfl ?_; clear S; intro a S
   refine l_buildSlice S Tryz.underlying22 Tryz.sizeOf3 Tryz.zeroValue3 rfl rfl (pv := [(0, iV 0), (1, iV 1), (2, iV 2), (3, iV 3)]) ⟨rfl, rfl, rfl, rfl, rfl, rfl, rfl, rfl, trivial⟩ (cs := [iV 0, iV 1, iV 2, iV 3]) (by kernel_rfl) rfl ?_; clear S; intro a w11 b4 hz4 hk9 S
   obtain ⟨r7, hr8, h⟩ := bindE h
   refine l_enter1 4 S (b := b_p_s) rfl rfl (fun _ => .blk b_p_s [v_p_s_L, iV r7.2] 25) (fun _ => run_call (vs := [.pointer (some ⟨b_p_s, 0, none⟩), .slice (some ⟨b4, 0, none⟩) 4 4]) ⟨(S.tm rfl), (S.tm rfl), trivial⟩ Tryz.call11) (Stream_Pick_ok _ b_p_s v_p_s_L p_s_L (hs_p_s_L.mono (S.le_arg (fp_sub (i := 4) (e := .blk b_p_s [v_p_s_L, iV r6.2] 25) rfl))) r6.2 (S.holds _ (List.mem_of_getElem? (i := 4) rfl)) (.slice (some ⟨b4, 0, none⟩) 4 4) [0, 1, 2, 3] (lit_slcT enc_int S (i := 0) rfl rfl rfl rfl ((ne_fp (i := 4) (j := 0) (e := .blk b_p_s [v_p_s_L, iV r6.2] 25) (e' := .blk b4 [iV 0, iV 1, iV 2, iV 3] 3) S rfl rfl rfl) _ rfl)) _ hr8) rfl (fun _ _ _ h => ⟨h.1, fun _ hc => by cases hc; rfl⟩) ?_; clear S; intro v7 a w12 hv7 hk10 hn7 S
   replace hv7 := hv7.2
   subst hv7
   refine lv S (rn_nilCheck (S.tm rfl)) rfl ?_; clear S; intro a S
   refine lv S (rn_fld fa_42_0 (S.tm rfl)) rfl ?_; clear S; intro a S
   refine l_storeO (c := 0) (j := r3.1.toNat) (GRace.mk r4.1 ((nth r1.1 r3.1).Metres) ((nth r1.1 r3.1).Stroke) ((nth r1.1 r3.1).Course) ((nth r1.1 r3.1).Legs) ((nth r1.1 r3.1).Sex) ((nth r1.1 r3.1).Young) ((nth r1.1 r3.1).Old)) GRace.enc_ok S (S.tm rfl) (S.tm rfl) (i := 3) rfl hg1 (inB_get hc1).1 Tryz.sizeOf9 (vs := [sV r4.1]) rfl rfl rfl rfl rfl ?_; clear S; intro w14 hk12 S
   refine lv S (rn_nilCheck (S.tm rfl)) rfl ?_; clear S; intro a S
   refine lv S (rn_fld fa_42_4 (S.tm rfl)) rfl ?_; clear S; intro a S
   refine l_storeO (c := 4) (j := r3.1.toNat) (GRace.mk r4.1 ((nth r1.1 r3.1).Metres) ((nth r1.1 r3.1).Stroke) ((nth r1.1 r3.1).Course) r5.1 ((nth r1.1 r3.1).Sex) ((nth r1.1 r3.1).Young) ((nth r1.1 r3.1).Old)) GRace.enc_ok S (S.tm rfl) (S.tm rfl) (i := 3) rfl hg1 (get_set (inB_get hc1).1) Tryz.sizeOf3 (vs := [iV r5.1]) rfl rfl rfl rfl rfl ?_; clear S; intro w16 hk14 S
   refine lv S (rn_nilCheck (S.tm rfl)) rfl ?_; clear S; intro a S
   refine lv S (rn_fld fa_42_3 (S.tm rfl)) rfl ?_; clear S; intro a S
   refine l_storeO (c := 3) (j := r3.1.toNat) (GRace.mk r4.1 ((nth r1.1 r3.1).Metres) ((nth r1.1 r3.1).Stroke) r6.1 r5.1 ((nth r1.1 r3.1).Sex) ((nth r1.1 r3.1).Young) ((nth r1.1 r3.1).Old)) GRace.enc_ok S (S.tm rfl) (S.tm rfl) (i := 3) rfl hg1 (get_set (get_set (inB_get hc1).1)) Tryz.sizeOf3 (vs := [iV r6.1]) rfl rfl rfl rfl rfl ?_; clear S; intro w18 hk16 S
   refine lv S (rn_nilCheck (S.tm rfl)) rfl ?_; clear S; intro a S
   refine lv S (rn_fld fa_42_5 (S.tm rfl)) rfl ?_; clear S; intro a S
   refine l_storeO (c := 5) (j := r3.1.toNat) (GRace.mk r4.1 ((nth r1.1 r3.1).Metres) ((nth r1.1 r3.1).Stroke) r6.1 r5.1 r7.1 ((nth r1.1 r3.1).Young) ((nth r1.1 r3.1).Old)) GRace.enc_ok S (S.tm rfl) (S.tm rfl) (i := 3) rfl hg1 (get_set (get_set (get_set (inB_get hc1).1))) Tryz.sizeOf3 (vs := [iV r7.1]) rfl rfl rfl rfl rfl ?_; clear S; intro w20 hk18 S
   refine l_done ?_
   replace S := S.nk [.own v1 42 8 ((((r1.1.set r3.1.toNat (GRace.mk r4.1 ((nth r1.1 r3.1).Metres) ((nth r1.1 r3.1).Stroke) ((nth r1.1 r3.1).Course) ((nth r1.1 r3.1).Legs) ((nth r1.1 r3.1).Sex) ((nth r1.1 r3.1).Young) ((nth r1.1 r3.1).Old))).set r3.1.toNat (GRace.mk r4.1 ((nth r1.1 r3.1).Metres) ((nth r1.1 r3.1).Stroke) ((nth r1.1 r3.1).Course) r5.1 ((nth r1.1 r3.1).Sex) ((nth r1.1 r3.1).Young) ((nth r1.1 r3.1).Old))).set r3.1.toNat (GRace.mk r4.1 ((nth r1.1 r3.1).Metres) ((nth r1.1 r3.1).Stroke) r6.1 r5.1 ((nth r1.1 r3.1).Sex) ((nth r1.1 r3.1).Young) ((nth r1.1 r3.1).Old))).set r3.1.toNat (GRace.mk r4.1 ((nth r1.1 r3.1).Metres) ((nth r1.1 r3.1).Stroke) r6.1 r5.1 r7.1 ((nth r1.1 r3.1).Young) ((nth r1.1 r3.1).Old))).length (((((r1.1.set r3.1.toNat (GRace.mk r4.1 ((nth r1.1 r3.1).Metres) ((nth r1.1 r3.1).Stroke) ((nth r1.1 r3.1).Course) ((nth r1.1 r3.1).Legs) ((nth r1.1 r3.1).Sex) ((nth r1.1 r3.1).Young) ((nth r1.1 r3.1).Old))).set r3.1.toNat (GRace.mk r4.1 ((nth r1.1 r3.1).Metres) ((nth r1.1 r3.1).Stroke) ((nth r1.1 r3.1).Course) r5.1 ((nth r1.1 r3.1).Sex) ((nth r1.1 r3.1).Young) ((nth r1.1 r3.1).Old))).set r3.1.toNat (GRace.mk r4.1 ((nth r1.1 r3.1).Metres) ((nth r1.1 r3.1).Stroke) r6.1 r5.1 ((nth r1.1 r3.1).Sex) ((nth r1.1 r3.1).Young) ((nth r1.1 r3.1).Old))).set r3.1.toNat (GRace.mk r4.1 ((nth r1.1 r3.1).Metres) ((nth r1.1 r3.1).Stroke) r6.1 r5.1 r7.1 ((nth r1.1 r3.1).Young) ((nth r1.1 r3.1).Old))).flatMap GRace.enc), .blk b_p_s [v_p_s_L, iV r7.2] 25] [(3, v1)] [false, false, false, true, true] rfl ⟨rfl, trivial⟩
   refine then_n ?_
   exact ⟨((((r1.1.set r3.1.toNat (GRace.mk r4.1 ((nth r1.1 r3.1).Metres) ((nth r1.1 r3.1).Stroke) ((nth r1.1 r3.1).Course) ((nth r1.1 r3.1).Legs) ((nth r1.1 r3.1).Sex) ((nth r1.1 r3.1).Young) ((nth r1.1 r3.1).Old))).set r3.1.toNat (GRace.mk r4.1 ((nth r1.1 r3.1).Metres) ((nth r1.1 r3.1).Stroke) ((nth r1.1 r3.1).Course) r5.1 ((nth r1.1 r3.1).Sex) ((nth r1.1 r3.1).Young) ((nth r1.1 r3.1).Old))).set r3.1.toNat (GRace.mk r4.1 ((nth r1.1 r3.1).Metres) ((nth r1.1 r3.1).Stroke) r6.1 r5.1 ((nth r1.1 r3.1).Sex) ((nth r1.1 r3.1).Young) ((nth r1.1 r3.1).Old))).set r3.1.toNat (GRace.mk r4.1 ((nth r1.1 r3.1).Metres) ((nth r1.1 r3.1).Stroke) r6.1 r5.1 r7.1 ((nth r1.1 r3.1).Young) ((nth r1.1 r3.1).Old))), r7.2, h, S.nf [true, true] rfl ⟨rfl, trivial⟩⟩
  ·replace h := iteF h hb2
   refine wp_skip (then_n ?_)
   exact ⟨r1.1, x1, h, S.nf [true, true] rfl ⟨rfl, trivial⟩⟩
 clear S h; rintro a w4 ⟨x3, x4, h, S⟩; rw [hj2] at h; clear hj2 j2
 refine then_n (f_seq (f_region (lv S (rn_move (S.tm rfl)) rfl ?_))); clear S; intro a S
 refine lv S (rn_assign (S.tm rfl)) rfl ?_; clear S; intro a S
 refine l_done (then_n (wp_ret ?_))
 obtain rfl := Option.some.inj h
 exact f_ret S Tryz.results4 rfl ⟨(S.holds _ (List.mem_of_getElem? (i := 1) rfl)), (own_retX S (i := 0) rfl (fun c hc hh => not_fps S (i := 1) rfl rfl (j := 0) rfl rfl (by simp at hc; subst hc; exact hh)))⟩
theorem Stream_RightSwimmers_ok (w : World) (b_p_s : Nat) (v_p_s_L : Value) (p_s_L : List Int) (hs_p_s_L : Slc (view w [b_p_s]) 1 v_p_s_L (p_s_L.map eInt)) (p_s_at : Int) (hb_b_p_s : (LEnt.blk b_p_s [v_p_s_L, iV p_s_at] 25).holds w) (r : (List GSwimmer) × Int) (h : Stream_RightSwimmers p_s_L p_s_at = some r) :
    Calls Tryz.prog 33 [.pointer (some ⟨b_p_s, 0, none⟩)].toArray w (Ret w [b_p_s] fun τ v w' => (LEnt.blk b_p_s [v_p_s_L, iV r.2] 25).holds w' ∧ OwnV τ 71 3 v r.1.length (r.1.flatMap GSwimmer.enc)) := by
 refine f_enter [b_p_s] [.blk b_p_s [v_p_s_L, iV p_s_at] 25] Tryz.func33 rfl Tryz.ntmps33 rfl (fun e he => by simp only [List.mem_singleton] at he; subst he; exact hb_b_p_s) (by simp [fps, LEnt.fp]) (by simp [fps, LEnt.fp]) fun a S => ?_
 unfold Stream_RightSwimmers at h
 replace S := S.nk [.blk b_p_s [v_p_s_L, iV p_s_at] 25] [(0, .pointer (some ⟨b_p_s, 0, none⟩))] [true] rfl ⟨rfl, trivial⟩
 refine f_seq (f_region (lv S (rn_assign rfl) rfl ?_)); clear S; intro a S
 refine l_done (then_n (f_seq (f_region (lv S (rn_assign rfl) rfl ?_)))); clear S; intro a S
 replace S := S.nil 71 3
 refine l_done (then_n (f_seq (f_seq (f_region (l_buildSlice S Tryz.underlying35 Tryz.sizeOf9 Tryz.zeroValue9 rfl rfl (pv := [(0, sV k_ann), (1, sV k_bea), (2, sV k_cid), (3, sV k_dan), (4, sV k_eve), (5, sV k_fox)]) ⟨rfl, rfl, rfl, rfl, rfl, rfl, rfl, rfl, rfl, rfl, rfl, rfl, trivial⟩ (cs := [sV k_ann, sV k_bea, sV k_cid, sV k_dan, sV k_eve, sV k_fox]) (by kernel_rfl) rfl ?_))))); clear S; intro a w1 b1 hz1 hk1 S
 refine lv S (rn_lenT sl_35 (S.tm rfl) ⟨_, _, rfl⟩) rfl ?_; clear S; intro a S
 refine lv S (rn_move rfl) rfl ?_; clear S; intro a S
 refine l_done (then_n ?_)
 replace S := S.nk [.blk b1 [sV k_ann, sV k_bea, sV k_cid, sV k_dan, sV k_eve, sV k_fox] 9, .own (.slice none 0 0) 71 3 ([] : List GSwimmer).length (([] : List GSwimmer).flatMap GSwimmer.enc), .blk b_p_s [v_p_s_L, iV p_s_at] 25] [(0, .pointer (some ⟨b_p_s, 0, none⟩)), (3, (.slice none 0 0)), (6, .slice (some ⟨b1, 0, none⟩) 6 6), (7, iV (([k_ann, k_bea, k_cid, k_dan, k_eve, k_fox] : List ByteArray).length : Int)), (8, iV 0)] [true, true, true] rfl (subR rfl)
 replace S := S.litOwn (i := 0) (xs := [k_ann, k_bea, k_cid, k_dan, k_eve, k_fox]) rfl enc_str rfl rfl rfl
 replace S := S.nk [.own (.slice (some ⟨b1, 0, none⟩) 6 6) 9 1 ([k_ann, k_bea, k_cid, k_dan, k_eve, k_fox] : List ByteArray).length (([k_ann, k_bea, k_cid, k_dan, k_eve, k_fox] : List ByteArray).flatMap eStr), .own (.slice none 0 0) 71 3 ([] : List GSwimmer).length (([] : List GSwimmer).flatMap GSwimmer.enc), .blk b_p_s [v_p_s_L, iV p_s_at] 25] [(0, .pointer (some ⟨b_p_s, 0, none⟩)), (3, (.slice none 0 0)), (6, (.slice (some ⟨b1, 0, none⟩) 6 6)), (7, iV (([k_ann, k_bea, k_cid, k_dan, k_eve, k_fox] : List ByteArray).length : Int)), (8, iV 0)] [] rfl (subR rfl)
 obtain ⟨φ1, hl1, hs1, S⟩ := S.freezeT (xs := ([k_ann, k_bea, k_cid, k_dan, k_eve, k_fox] : List ByteArray)) (enc := eStr) (i := 0) rfl (fun c hc hh => not_fps S (i := 2) rfl rfl (j := 0) rfl rfl (by simp at hc; subst hc; exact hh))
 replace S := S.nk [.own (.slice none 0 0) 71 3 ([] : List GSwimmer).length (([] : List GSwimmer).flatMap GSwimmer.enc), .blk b_p_s [v_p_s_L, iV p_s_at] 25] [(0, .pointer (some ⟨b_p_s, 0, none⟩)), (3, (.slice none 0 0)), (6, (.slice (some ⟨b1, 0, none⟩) 6 6)), (7, iV (([k_ann, k_bea, k_cid, k_dan, k_eve, k_fox] : List ByteArray).length : Int)), (8, iV 0)] [] rfl (subR rfl)
 obtain ⟨j1, hj1, h⟩ := joinE h
 refine f_join (fun a w' => ∃ x1 : List GSwimmer, ∃ x2 : Int, ∃ v1 : Value, j1 x1 x2 = some r ∧ Sx w [b_p_s] φ1 [.own v1 71 3 x1.length (x1.flatMap GSwimmer.enc), .blk b_p_s [v_p_s_L, iV x2] 25] [(3, v1)] 27 a w') ?_ ?_
 ·refine wp_block (f_loop (fun (ys1 : List ByteArray) a w' => ∃ i1 : Nat, ∃ x1 : List GSwimmer, ∃ x2 : Int, ∃ v1 : Value, (∃ dn, ([k_ann, k_bea, k_cid, k_dan, k_eve, k_fox] : List ByteArray) = dn ++ ys1 ∧ dn.length = i1) ∧ Stream_RightSwimmers_l1 p_s_L j1 ys1 i1 x1 x2 = some r ∧ Sx w [b_p_s] φ1 [.own v1 71 3 x1.length (x1.flatMap GSwimmer.enc), .blk b_p_s [v_p_s_L, iV x2] 25] [(0, .pointer (some ⟨b_p_s, 0, none⟩)), (3, v1), (6, (.slice (some ⟨b1, 0, none⟩) 6 6)), (7, iV (([k_ann, k_bea, k_cid, k_dan, k_eve, k_fox] : List ByteArray).length : Int)), (8, iV (i1 : Int))] 27 a w') List.length ([k_ann, k_bea, k_cid, k_dan, k_eve, k_fox] : List ByteArray) ⟨0, ([] : List GSwimmer), p_s_at, (.slice none 0 0), ⟨[], rfl, rfl⟩, h, S.nf [true, true] rfl (subR rfl)⟩ ?_)
  clear S h; rintro ys1 a w2 ⟨i1, x1, x2, v1, ⟨dn, hd1, hi1⟩, h, S⟩
  cases ys1 with
  | nil =>
   rw [Stream_RightSwimmers_l1.eq_1] at h
   refine f_seq (f_region (lv S (rn_lss (S.tm rfl) (S.tm rfl)) rfl ?_)); clear S; intro a S
   refine l_done ?_
   replace S := S.nk [.own v1 71 3 x1.length (x1.flatMap GSwimmer.enc), .blk b_p_s [v_p_s_L, iV x2] 25] [(0, .pointer (some ⟨b_p_s, 0, none⟩)), (3, v1), (6, (.slice (some ⟨b1, 0, none⟩) 6 6)), (7, iV (([k_ann, k_bea, k_cid, k_dan, k_eve, k_fox] : List ByteArray).length : Int)), (8, iV (i1 : Int)), (9, bV (decide ((i1 : Int) < (([k_ann, k_bea, k_cid, k_dan, k_eve, k_fox] : List ByteArray).length : Int))))] [true, true] rfl (subR rfl)
   refine then_n (f_seq (wp_cond_false ((S.tm rfl).trans (congrArg Value.bool (rng_nil hd1 hi1))) (wp_exit (then_x (then_x (x_same ?_))))))
   refine then_n ?_
   exact ⟨x1, x2, v1, h, S.nf [true, true] rfl ⟨rfl, trivial⟩⟩
  | cons y1 ys1 =>
   rw [Stream_RightSwimmers_l1.eq_2] at h
   refine f_seq (f_region (lv S (rn_lss (S.tm rfl) (S.tm rfl)) rfl ?_)); clear S; intro a S
   refine l_done ?_
   replace S := S.nk [.own v1 71 3 x1.length (x1.flatMap GSwimmer.enc), .blk b_p_s [v_p_s_L, iV x2] 25] [(0, .pointer (some ⟨b_p_s, 0, none⟩)), (3, v1), (6, (.slice (some ⟨b1, 0, none⟩) 6 6)), (7, iV (([k_ann, k_bea, k_cid, k_dan, k_eve, k_fox] : List ByteArray).length : Int)), (8, iV (i1 : Int)), (9, bV (decide ((i1 : Int) < (([k_ann, k_bea, k_cid, k_dan, k_eve, k_fox] : List ByteArray).length : Int))))] [true, true] rfl (subR rfl)
   refine then_n (f_seq (wp_cond_true ((S.tm rfl).trans (congrArg Value.bool (rng_cons hd1 hi1))) (wp_skip (then_n (f_seq ?_)))))
   obtain ⟨j2, hj2, h⟩ := joinE h
   refine f_join (fun a w' => ∃ x3 : List GSwimmer, ∃ x4 : Int, ∃ v2 : Value, j2 x3 x4 = some r ∧ Sx w [b_p_s] φ1 [.own v2 71 3 x3.length (x3.flatMap GSwimmer.enc), .blk b_p_s [v_p_s_L, iV x4] 25] [(0, .pointer (some ⟨b_p_s, 0, none⟩)), (3, v2), (6, (.slice (some ⟨b1, 0, none⟩) 6 6)), (7, iV (([k_ann, k_bea, k_cid, k_dan, k_eve, k_fox] : List ByteArray).length : Int)), (8, iV (i1 : Int))] 27 a w') ?_ ?_
   ·refine wp_block (f_seq (f_region ?_))
    obtain ⟨b2, o1, hm1, hr1⟩ := rn_indexT (a := a) (x := .tmp 6) (y := .tmp 8) (ty := 0) sl_35 (ownV_slcT enc_str hs1) (get_mid hd1 hi1) rfl (S.tm rfl) (S.tm rfl)
    refine lv S (hr1 _) rfl ?_; clear S; intro a S
    clear hr1
    refine lv S (rn_ld Tryz.isAgg9 (off := o1) (o := 0) (S.tm rfl) (hm1.at S.emb) rfl) rfl ?_; clear S; intro a S
    refine lv S (rn_assign (S.tm rfl)) rfl ?_; clear S; intro a S
    refine l_done (then_n (f_seq (f_seq (f_region (lv S (rn_move (S.tm rfl)) rfl ?_))))); clear S; intro a S
    obtain ⟨r1, hr2, h⟩ := bindE h
    refine l_enter1 1 S (b := b_p_s) rfl rfl (fun _ => .blk b_p_s [v_p_s_L, iV r1.2] 25) (fun _ => run_call (vs := [.pointer (some ⟨b_p_s, 0, none⟩), iV 8]) ⟨(S.tm rfl), rfl, trivial⟩ Tryz.call9) (Stream_Flip_ok _ b_p_s v_p_s_L p_s_L (hs_p_s_L.mono (S.le_arg (fp_sub (i := 1) (e := .blk b_p_s [v_p_s_L, iV x2] 25) rfl))) x2 (S.holds _ (List.mem_of_getElem? (i := 1) rfl)) 8 _ hr2) rfl (fun _ _ _ h => ⟨h.1, fun _ hc => by cases hc; rfl⟩) ?_; clear S; intro v3 a w5 hv1 hk2 hn1 S
    replace hv1 := hv1.2
    subst hv1
    refine l_done (then_n (f_cond (S.tm rfl) (fun hb1 => ?_) (fun hb1 => ?_)))
    ·replace h := iteT h hb1
     refine wp_exit (then_x (x_same (then_n ?_)))
     exact ⟨x1, r1.2, v1, h, S.nf [true, true] rfl (subR rfl)⟩
    ·replace h := iteF h hb1
     refine wp_skip (then_n (f_region (lv S (rn_move (S.tm rfl)) rfl ?_))); clear S; intro a S
     refine lv S (rn_move (S.tm rfl)) rfl ?_; clear S; intro a S
     refine lv S (rn_move (S.tm rfl)) rfl ?_; clear S; intro a S
     refine l_buildSlice S Tryz.underlying22 Tryz.sizeOf3 Tryz.zeroValue3 rfl rfl (pv := [(0, iV 1), (1, iV 2)]) ⟨rfl, rfl, rfl, rfl, trivial⟩ (cs := [iV 1, iV 2]) (by kernel_rfl) rfl ?_; clear S; intro a w6 b3 hz2 hk3 S
     obtain ⟨r2, hr3, h⟩ := bindE h
     refine l_enter1 2 S (b := b_p_s) rfl rfl (fun _ => .blk b_p_s [v_p_s_L, iV r2.2] 25) (fun _ => run_call (vs := [.pointer (some ⟨b_p_s, 0, none⟩), .slice (some ⟨b3, 0, none⟩) 2 2]) ⟨(S.tm rfl), (S.tm rfl), trivial⟩ Tryz.call11) (Stream_Pick_ok _ b_p_s v_p_s_L p_s_L (hs_p_s_L.mono (S.le_arg (fp_sub (i := 2) (e := .blk b_p_s [v_p_s_L, iV r1.2] 25) rfl))) r1.2 (S.holds _ (List.mem_of_getElem? (i := 2) rfl)) (.slice (some ⟨b3, 0, none⟩) 2 2) [1, 2] (lit_slcT enc_int S (i := 0) rfl rfl rfl rfl ((ne_fp (i := 2) (j := 0) (e := .blk b_p_s [v_p_s_L, iV r1.2] 25) (e' := .blk b3 [iV 1, iV 2] 3) S rfl rfl rfl) _ rfl)) _ hr3) rfl (fun _ _ _ h => ⟨h.1, fun _ hc => by cases hc; rfl⟩) ?_; clear S; intro v4 a w7 hv2 hk4 hn2 S
     replace hv2 := hv2.2
     subst hv2
     refine lv S (rn_move (S.tm rfl)) rfl ?_; clear S; intro a S
     refine l_buildSlice S Tryz.underlying22 Tryz.sizeOf3 Tryz.zeroValue3 rfl rfl (pv := [(0, iV 59), (1, iV 0), (2, iV (-1)), (3, iV (-307)), (4, iV (-3653)), (5, iV (-5000)), (6, iV 365), (7, iV 1520)]) ⟨rfl, rfl, rfl, rfl, rfl, rfl, rfl, rfl, rfl, rfl, rfl, rfl, rfl, rfl, rfl, rfl, trivial⟩ (cs := [iV 59, iV 0, iV (-1), iV (-307), iV (-3653), iV (-5000), iV 365, iV 1520]) (by kernel_rfl) rfl ?_; clear S; intro a w8 b4 hz3 hk5 S
     obtain ⟨r3, hr4, h⟩ := bindE h
     refine l_enter1 3 S (b := b_p_s) rfl rfl (fun _ => .blk b_p_s [v_p_s_L, iV r3.2] 25) (fun _ => run_call (vs := [.pointer (some ⟨b_p_s, 0, none⟩), .slice (some ⟨b4, 0, none⟩) 8 8]) ⟨(S.tm rfl), (S.tm rfl), trivial⟩ Tryz.call11) (Stream_Pick_ok _ b_p_s v_p_s_L p_s_L (hs_p_s_L.mono (S.le_arg (fp_sub (i := 3) (e := .blk b_p_s [v_p_s_L, iV r2.2] 25) rfl))) r2.2 (S.holds _ (List.mem_of_getElem? (i := 3) rfl)) (.slice (some ⟨b4, 0, none⟩) 8 8) [59, 0, (-1), (-307), (-3653), (-5000), 365, 1520] (lit_slcT enc_int S (i := 0) rfl rfl rfl rfl ((ne_fp (i := 3) (j := 0) (e := .blk b_p_s [v_p_s_L, iV r2.2] 25) (e' := .blk b4 [iV 59, iV 0, iV (-1), iV (-307), iV (-3653), iV (-5000), iV 365, iV 1520] 3) S rfl rfl rfl) _ rfl)) _ hr4) rfl (fun _ _ _ h => ⟨h.1, fun _ hc => by cases hc; rfl⟩) ?_; clear S; intro v5 a w9 hv3 hk6 hn3 S
     replace hv3 := hv3.2
     subst hv3
     refine lv S (rn_bld bt_71 (pv := [(0, sV y1), (1, iV r2.1), (2, iV r3.1)]) ⟨rfl, (S.tm rfl), rfl, (S.tm rfl), rfl, (S.tm rfl), trivial⟩ (cs := [sV y1, iV r2.1, iV r3.1]) (by kernel_rfl)) rfl ?_; clear S; intro a S
     refine l_buildSlice S Tryz.underlying28 Tryz.sizeOf71 Tryz.zeroValue71 rfl rfl (pv := [(0, .agg #[sV y1, iV r2.1, iV r3.1])]) ⟨rfl, (S.tm rfl), trivial⟩ (cs := [sV y1, iV r2.1, iV r3.1]) (by kernel_rfl) rfl ?_; clear S; intro a w10 b5 hz4 hk7 S
     obtain ⟨hc1, h⟩ := chkE h
     refine l_appendT sl_28 GSwimmer.enc_ok S (S.tm rfl) (i := 3) rfl (S.tm rfl) (j := 0) rfl (ys := [(GSwimmer.mk y1 r2.1 r3.1)]) rfl rfl rfl rfl (by have := room_lt hc1; omega) rfl ?_; clear S; intro v6 a w11 hk8 S
     refine lv S (rn_assign (S.tm rfl)) rfl ?_; clear S; intro a S
     refine l_done ?_
     replace S := S.nk [.own v6 71 3 (x1 ++ [(GSwimmer.mk y1 r2.1 r3.1)]).length ((x1 ++ [(GSwimmer.mk y1 r2.1 r3.1)]).flatMap GSwimmer.enc), .blk b_p_s [v_p_s_L, iV r3.2] 25] [(0, .pointer (some ⟨b_p_s, 0, none⟩)), (3, v6), (6, (.slice (some ⟨b1, 0, none⟩) 6 6)), (7, iV (([k_ann, k_bea, k_cid, k_dan, k_eve, k_fox] : List ByteArray).length : Int)), (8, iV (i1 : Int))] [false, false, false, true, true] rfl (subR rfl)
     refine blk_n (then_n ?_)
     exact ⟨(x1 ++ [(GSwimmer.mk y1 r2.1 r3.1)]), r3.2, v6, h, S.nf [true, true] rfl (subR rfl)⟩
   clear S h; rintro a w4 ⟨x3, x4, v2, h, S⟩; rw [hj2] at h; clear hj2 j2
   refine then_n (f_region (lv S (rn_add (S.tm rfl) rfl) rfl ?_)); clear S; intro a S
   refine lv S (rn_move (S.tm rfl)) rfl ?_; clear S; intro a S
   refine l_done (then_n ?_)
   exact ⟨ys1, ⟨i1 + 1, x3, x4, v2, ⟨_, (hd1).trans (List.append_cons _ _ _), by simp [hi1]⟩, h, S.nf [true, true] rfl ⟨rfl, rfl, rfl, rfl, (congrArg (fun z => some (Value.int .i64 z)) (rng_next hd1 hi1 (slc_max (ownV_slcT enc_str hs1)))), trivial⟩⟩, Nat.lt_succ_self _⟩
 clear S h; rintro a w3 ⟨x1, x2, v1, h, S⟩; rw [hj1] at h; clear hj1 j1
 refine then_n (f_seq (f_region (lv S (rn_move (S.tm rfl)) rfl ?_))); clear S; intro a S
 refine lv S (rn_assign (S.tm rfl)) rfl ?_; clear S; intro a S
 refine l_done (then_n (wp_ret ?_))
 obtain rfl := Option.some.inj h
 exact f_ret S Tryz.results33 rfl ⟨(S.holds _ (List.mem_of_getElem? (i := 1) rfl)), (own_retX S (i := 0) rfl (fun c hc hh => not_fps S (i := 1) rfl rfl (j := 0) rfl rfl (by simp at hc; subst hc; exact hh)))⟩
theorem Stream_Swimmers_ok (w : World) (b_p_s : Nat) (v_p_s_L : Value) (p_s_L : List Int) (hs_p_s_L : Slc (view w [b_p_s]) 1 v_p_s_L (p_s_L.map eInt)) (p_s_at : Int) (hb_b_p_s : (LEnt.blk b_p_s [v_p_s_L, iV p_s_at] 25).holds w) (r : (List GSwimmer) × Int) (h : Stream_Swimmers p_s_L p_s_at = some r) :
    Calls Tryz.prog 5 [.pointer (some ⟨b_p_s, 0, none⟩)].toArray w (Ret w [b_p_s] fun τ v w' => (LEnt.blk b_p_s [v_p_s_L, iV r.2] 25).holds w' ∧ OwnV τ 71 3 v r.1.length (r.1.flatMap GSwimmer.enc)) := by
 refine f_enter [b_p_s] [.blk b_p_s [v_p_s_L, iV p_s_at] 25] Tryz.func5 rfl Tryz.ntmps5 rfl (fun e he => by simp only [List.mem_singleton] at he; subst he; exact hb_b_p_s) (by simp [fps, LEnt.fp]) (by simp [fps, LEnt.fp]) fun a S => ?_
 unfold Stream_Swimmers at h
 replace S := S.nk [.blk b_p_s [v_p_s_L, iV p_s_at] 25] [(0, .pointer (some ⟨b_p_s, 0, none⟩))] [true] rfl ⟨rfl, trivial⟩
 refine f_seq (f_region (lv S (rn_assign rfl) rfl ?_)); clear S; intro a S
 refine l_done (then_n (f_seq (f_region (lv S (rn_move (S.tm rfl)) rfl ?_)))); clear S; intro a S
 obtain ⟨r1, hr1, h⟩ := bindE h
 have hz1 := S.keep.size
 refine l_enter1 0 S (b := b_p_s) rfl rfl (fun _ => .blk b_p_s [v_p_s_L, iV r1.2] 25) (fun _ => run_call (vs := [.pointer (some ⟨b_p_s, 0, none⟩)]) ⟨(S.tm rfl), trivial⟩ Tryz.call33) (Stream_RightSwimmers_ok _ b_p_s v_p_s_L p_s_L (hs_p_s_L.mono (S.le_arg (fp_sub (i := 0) (e := .blk b_p_s [v_p_s_L, iV p_s_at] 25) rfl))) p_s_at (S.holds _ (List.mem_of_getElem? (i := 0) rfl)) _ hr1) rfl (fun _ _ _ h => ⟨h.1, fun _ hc => by cases hc; rfl⟩) ?_; clear S; intro v1 a w1 hv1 hk1 hn1 S
 replace hv1 := hv1.2
 replace S := S.take hn1 hz1 hv1
 refine lv S (rn_assign (S.tm rfl)) rfl ?_; clear S; intro a S
 refine l_done (then_n (f_seq (f_seq (f_region (lv S (rn_move (S.tm rfl)) rfl ?_))))); clear S; intro a S
 refine lv S (rn_lenT sl_28 (S.tm rfl) (own_len (S.own_at (i := 0) rfl))) rfl ?_; clear S; intro a S
 refine lv S (rn_gtr (S.tm rfl) rfl) rfl ?_; clear S; intro a S
 refine lv S (rn_move (S.tm rfl)) rfl ?_; clear S; intro a S
 obtain ⟨j1, hj1, h⟩ := joinE h
 refine f_cutm 3 (fun a w' => ∃ x1 : Int, ∃ x2 : Bool, j1 x1 x2 = some r ∧ Sx w [b_p_s] nov [.own v1 71 3 r1.1.length (r1.1.flatMap GSwimmer.enc), .blk b_p_s [v_p_s_L, iV x1] 25] [(0, .pointer (some ⟨b_p_s, 0, none⟩)), (3, v1), (13, bV x2)] 42 a w') ?_ ?_
 ·rcases Bool.eq_false_or_eq_true (decide (0 < (r1.1.length : Int))) with hb1 | hb1
  ·replace h := iteT h hb1
   refine l_want S rfl rfl rfl hb1 (lv S (rn_move (S.tm rfl)) rfl ?_); clear S; intro a S
   refine l_want S rfl rfl rfl hb1 ?_
   obtain ⟨r2, hr2, h⟩ := bindE h
   refine l_enter1 1 S (b := b_p_s) rfl rfl (fun _ => .blk b_p_s [v_p_s_L, iV r2.2] 25) (fun _ => run_call (vs := [.pointer (some ⟨b_p_s, 0, none⟩), iV 12]) ⟨(S.tm rfl), rfl, trivial⟩ Tryz.call9) (Stream_Flip_ok _ b_p_s v_p_s_L p_s_L (hs_p_s_L.mono (S.le_arg (fp_sub (i := 1) (e := .blk b_p_s [v_p_s_L, iV r1.2] 25) rfl))) r1.2 (S.holds _ (List.mem_of_getElem? (i := 1) rfl)) 12 _ hr2) rfl (fun _ _ _ h => ⟨h.1, fun _ hc => by cases hc; rfl⟩) ?_; clear S; intro v2 a w3 hv2 hk2 hn2 S
   replace hv2 := hv2.2
   subst hv2
   refine lv S (rn_pick_b hb1 (S.tm rfl) (S.tm rfl)) rfl ?_; clear S; intro a S
   refine l_done (then_n ?_)
   exact ⟨r2.2, r2.1, h, S.nf [true, true] rfl (subR rfl)⟩
  ·replace h := iteF h hb1
   refine l_skip S rfl rfl rfl (neq_f hb1) rfl ?_ rfl; clear S; intro a S
   refine l_skip S rfl rfl rfl (neq_f hb1) rfl ?_ rfl; clear S; intro a S
   refine lv S (rn_pick_c hb1 (S.tm rfl) rfl) rfl ?_; clear S; intro a S
   refine l_done (then_n ?_)
   exact ⟨r1.2, false, h, S.nf [true, true] rfl (subR rfl)⟩
 clear S h; rintro a w2 ⟨x1, x2, h, S⟩; rw [hj1] at h; clear hj1 j1
 refine l_done (then_n ?_)
 obtain ⟨j2, hj2, h⟩ := joinE h
 refine f_join (fun a w' => ∃ x3 : List GSwimmer, ∃ x4 : Int, j2 x3 x4 = some r ∧ Sx w [b_p_s] nov [.own v1 71 3 x3.length (x3.flatMap GSwimmer.enc), .blk b_p_s [v_p_s_L, iV x4] 25] [(3, v1)] 42 a w') ?_ ?_
 ·refine f_cond (S.tm rfl) (fun hb2 => ?_) (fun hb2 => ?_)
  ·replace h := iteT h hb2
   refine f_seq (f_region (lv S (rn_move (S.tm rfl)) rfl ?_)); clear S; intro a S
   refine lv S (rn_move (S.tm rfl)) rfl ?_; clear S; intro a S
   refine lv S (rn_move (S.tm rfl)) rfl ?_; clear S; intro a S
   refine lv S (rn_lenT sl_28 (S.tm rfl) (own_len (S.own_at (i := 0) rfl))) rfl ?_; clear S; intro a S
   obtain ⟨r3, hr3, h⟩ := bindE h
   refine l_enter1 1 S (b := b_p_s) rfl rfl (fun _ => .blk b_p_s [v_p_s_L, iV r3.2] 25) (fun _ => run_call (vs := [.pointer (some ⟨b_p_s, 0, none⟩), iV (r1.1.length : Int)]) ⟨(S.tm rfl), (S.tm rfl), trivial⟩ Tryz.call30) (Stream_Next_ok _ b_p_s v_p_s_L p_s_L (hs_p_s_L.mono (S.le_arg (fp_sub (i := 1) (e := .blk b_p_s [v_p_s_L, iV x1] 25) rfl))) x1 (S.holds _ (List.mem_of_getElem? (i := 1) rfl)) (r1.1.length : Int) _ hr3) rfl (fun _ _ _ h => ⟨h.1, fun _ hc => by cases hc; rfl⟩) ?_; clear S; intro v3 a w5 hv3 hk3 hn3 S
   replace hv3 := hv3.2
   subst hv3
   obtain ⟨hc1, h⟩ := chkE h
   obtain ⟨b1, hg1, hr4⟩ := rn_indexS (a := a) (x := .tmp 14) (y := .tmp 18) (ty := 0) sl_28 GSwimmer.enc_ok S (i := 0) rfl (inB_get hc1).1 (inB_get hc1).2 (S.tm rfl) (S.tm rfl)
   refine lv S (hr4 _) rfl ?_; clear S; intro a S
   clear hr4
   refine lv S (rn_assign (S.tm rfl)) rfl ?_; clear S; intro a S
   refine l_done (then_n (f_region (lv S (rn_move (S.tm rfl)) rfl ?_))); clear S; intro a S
   iterate 4 (refine lv S (rn_move (S.tm rfl)) rfl ?_; clear S; intro a S)
   refine lv S (rn_nilCheck (S.tm rfl)) rfl ?_; clear S; intro a S
   refine lv S (rn_fld fa_71_0 (S.tm rfl)) rfl ?_; clear S; intro a S
   refine lv S (rn_ld Tryz.isAgg9 (off := r3.1.toNat * 3) (o := 0) (S.tm rfl) (own_cells GSwimmer.enc_ok S (i := 0) rfl hg1 (inB_get hc1).1) rfl) rfl ?_; clear S; intro a S
   refine l_buildSlice S Tryz.underlying35 Tryz.sizeOf9 Tryz.zeroValue9 rfl rfl (pv := [(0, sV ((nth r1.1 r3.1).Key)), (1, sV k_empty), (2, sV k_ann)]) ⟨rfl, (S.tm rfl), rfl, rfl, rfl, rfl, trivial⟩ (cs := [sV ((nth r1.1 r3.1).Key), sV k_empty, sV k_ann]) (by kernel_rfl) rfl ?_; clear S; intro a w6 b2 hz2 hk4 S
   obtain ⟨r4, hr5, h⟩ := bindE h
   refine l_enter1 2 S (b := b_p_s) rfl rfl (fun _ => .blk b_p_s [v_p_s_L, iV r4.2] 25) (fun _ => run_call (vs := [.pointer (some ⟨b_p_s, 0, none⟩), .slice (some ⟨b2, 0, none⟩) 3 3]) ⟨(S.tm rfl), (S.tm rfl), trivial⟩ Tryz.call31) (Stream_Some_ok _ b_p_s v_p_s_L p_s_L (hs_p_s_L.mono (S.le_arg (fp_sub (i := 2) (e := .blk b_p_s [v_p_s_L, iV r3.2] 25) rfl))) r3.2 (S.holds _ (List.mem_of_getElem? (i := 2) rfl)) (.slice (some ⟨b2, 0, none⟩) 3 3) [(nth r1.1 r3.1).Key, k_empty, k_ann] (lit_slcT enc_str S (i := 0) rfl rfl rfl rfl ((ne_fp (i := 2) (j := 0) (e := .blk b_p_s [v_p_s_L, iV r3.2] 25) (e' := .blk b2 [sV ((nth r1.1 r3.1).Key), sV k_empty, sV k_ann] 9) S rfl rfl rfl) _ rfl)) _ hr5) rfl (fun _ _ _ h => ⟨h.1, fun _ hc => by cases hc; rfl⟩) ?_; clear S; intro v4 a w7 hv4 hk5 hn4 S
   replace hv4 := hv4.2
   subst hv4
   refine lv S (rn_move (S.tm rfl)) rfl ?_; clear S; intro a S
   refine l_buildSlice S Tryz.underlying22 Tryz.sizeOf3 Tryz.zeroValue3 rfl rfl (pv := [(0, iV 0), (1, iV 1), (2, iV 2), (3, iV 3)]) ⟨rfl, rfl, rfl, rfl, rfl, rfl, rfl, rfl, trivial⟩ (cs := [iV 0, iV 1, iV 2, iV 3]) (by kernel_rfl) rfl ?_; clear S; intro a w8 b3 hz3 hk6 S
   obtain ⟨r5, hr6, h⟩ := bindE h
   refine l_enter1 3 S (b := b_p_s) rfl rfl (fun _ => .blk b_p_s [v_p_s_L, iV r5.2] 25) (fun _ => run_call (vs := [.pointer (some ⟨b_p_s, 0, none⟩), .slice (some ⟨b3, 0, none⟩) 4 4]) ⟨(S.tm rfl), (S.tm rfl), trivial⟩ Tryz.call11) (Stream_Pick_ok _ b_p_s v_p_s_L p_s_L (hs_p_s_L.mono (S.le_arg (fp_sub (i := 3) (e := .blk b_p_s [v_p_s_L, iV r4.2] 25) rfl))) r4.2 (S.holds _ (List.mem_of_getElem? (i := 3) rfl)) (.slice (some ⟨b3, 0, none⟩) 4 4) [0, 1, 2, 3] (lit_slcT enc_int S (i := 0) rfl rfl rfl rfl ((ne_fp (i := 3) (j := 0) (e := .blk b_p_s [v_p_s_L, iV r4.2] 25) (e' := .blk b3 [iV 0, iV 1, iV 2, iV 3] 3) S rfl rfl rfl) _ rfl)) _ hr6) rfl (fun _ _ _ h => ⟨h.1, fun _ hc => by cases hc; rfl⟩) ?_; clear S; intro v5 a w9 hv5 hk7 hn5 S
   replace hv5 := hv5.2
   subst hv5
   refine lv S (rn_move (S.tm rfl)) rfl ?_; clear S; intro a S
   obtain ⟨r6, hr7, h⟩ := bindE h
   refine l_enter1 3 S (b := b_p_s) rfl rfl (fun _ => .blk b_p_s [v_p_s_L, iV r6.2] 25) (fun _ => run_call (vs := [.pointer (some ⟨b_p_s, 0, none⟩), iV (-40000), iV 4000]) ⟨(S.tm rfl), rfl, rfl, trivial⟩ Tryz.call32) (Stream_Odd_ok _ b_p_s v_p_s_L p_s_L (hs_p_s_L.mono (S.le_arg (fp_sub (i := 3) (e := .blk b_p_s [v_p_s_L, iV r5.2] 25) rfl))) r5.2 (S.holds _ (List.mem_of_getElem? (i := 3) rfl)) (-40000) 4000 _ hr7) rfl (fun _ _ _ h => ⟨h.1, fun _ hc => by cases hc; rfl⟩) ?_; clear S; intro v6 a w10 hv6 hk8 hn6 S
   replace hv6 := hv6.2
   subst hv6
   refine lv S (rn_nilCheck (S.tm rfl)) rfl ?_; clear S; intro a S
   refine lv S (rn_fld fa_71_0 (S.tm rfl)) rfl ?_; clear S; intro a S
   refine l_storeO (c := 0) (j := r3.1.toNat) (GSwimmer.mk r4.1 ((nth r1.1 r3.1).Sex) ((nth r1.1 r3.1).Born)) GSwimmer.enc_ok S (S.tm rfl) (S.tm rfl) (i := 2) rfl hg1 (inB_get hc1).1 Tryz.sizeOf9 (vs := [sV r4.1]) rfl rfl rfl rfl rfl ?_; clear S; intro w12 hk10 S
   refine lv S (rn_nilCheck (S.tm rfl)) rfl ?_; clear S; intro a S
   refine lv S (rn_fld fa_71_1 (S.tm rfl)) rfl ?_; clear S; intro a S
   refine l_storeO (c := 1) (j := r3.1.toNat) (GSwimmer.mk r4.1 r5.1 ((nth r1.1 r3.1).Born)) GSwimmer.enc_ok S (S.tm rfl) (S.tm rfl) (i := 2) rfl hg1 (get_set (inB_get hc1).1) Tryz.sizeOf3 (vs := [iV r5.1]) rfl rfl rfl rfl rfl ?_; clear S; intro w14 hk12 S
   refine lv S (rn_nilCheck (S.tm rfl)) rfl ?_; clear S; intro a S
   refine lv S (rn_fld fa_71_2 (S.tm rfl)) rfl ?_; clear S; intro a S
   refine l_storeO (c := 2) (j := r3.1.toNat) (GSwimmer.mk r4.1 r5.1 r6.1) GSwimmer.enc_ok S (S.tm rfl) (S.tm rfl) (i := 2) rfl hg1 (get_set (get_set (inB_get hc1).1)) Tryz.sizeOf3 (vs := [iV r6.1]) rfl rfl rfl rfl rfl ?_; clear S; intro w16 hk14 S
   refine l_done ?_
   replace S := S.nk [.own v1 71 3 (((r1.1.set r3.1.toNat (GSwimmer.mk r4.1 ((nth r1.1 r3.1).Sex) ((nth r1.1 r3.1).Born))).set r3.1.toNat (GSwimmer.mk r4.1 r5.1 ((nth r1.1 r3.1).Born))).set r3.1.toNat (GSwimmer.mk r4.1 r5.1 r6.1)).length ((((r1.1.set r3.1.toNat (GSwimmer.mk r4.1 ((nth r1.1 r3.1).Sex) ((nth r1.1 r3.1).Born))).set r3.1.toNat (GSwimmer.mk r4.1 r5.1 ((nth r1.1 r3.1).Born))).set r3.1.toNat (GSwimmer.mk r4.1 r5.1 r6.1)).flatMap GSwimmer.enc), .blk b_p_s [v_p_s_L, iV r6.2] 25] [(3, v1)] [false, false, true, true] rfl ⟨rfl, trivial⟩
   refine then_n ?_
   exact ⟨(((r1.1.set r3.1.toNat (GSwimmer.mk r4.1 ((nth r1.1 r3.1).Sex) ((nth r1.1 r3.1).Born))).set r3.1.toNat (GSwimmer.mk r4.1 r5.1 ((nth r1.1 r3.1).Born))).set r3.1.toNat (GSwimmer.mk r4.1 r5.1 r6.1)), r6.2, h, S.nf [true, true] rfl ⟨rfl, trivial⟩⟩
  ·replace h := iteF h hb2
   refine wp_skip (then_n ?_)
   exact ⟨r1.1, x1, h, S.nf [true, true] rfl ⟨rfl, trivial⟩⟩
 clear S h; rintro a w4 ⟨x3, x4, h, S⟩; rw [hj2] at h; clear hj2 j2
 refine then_n (f_seq (f_region (lv S (rn_move (S.tm rfl)) rfl ?_))); clear S; intro a S
 refine lv S (rn_assign (S.tm rfl)) rfl ?_; clear S; intro a S
 refine l_done (then_n (wp_ret ?_))
 obtain rfl := Option.some.inj h
 exact f_ret S Tryz.results5 rfl ⟨(S.holds _ (List.mem_of_getElem? (i := 1) rfl)), (own_retX S (i := 0) rfl (fun c hc hh => not_fps S (i := 1) rfl rfl (j := 0) rfl rfl (by simp at hc; subst hc; exact hh)))⟩
theorem Stream_RightMoves_ok (w : World) (b_p_s : Nat) (v_p_s_L : Value) (p_s_L : List Int) (hs_p_s_L : Slc (view w [b_p_s]) 1 v_p_s_L (p_s_L.map eInt)) (p_s_at : Int) (hb_b_p_s : (LEnt.blk b_p_s [v_p_s_L, iV p_s_at] 25).holds w) (r : (List GMove) × Int) (h : Stream_RightMoves p_s_L p_s_at = some r) :
    Calls Tryz.prog 34 [.pointer (some ⟨b_p_s, 0, none⟩)].toArray w (Ret w [b_p_s] fun τ v w' => (LEnt.blk b_p_s [v_p_s_L, iV r.2] 25).holds w' ∧ OwnV τ 74 3 v r.1.length (r.1.flatMap GMove.enc)) := by
 refine f_enter [b_p_s] [.blk b_p_s [v_p_s_L, iV p_s_at] 25] Tryz.func34 rfl Tryz.ntmps34 rfl (fun e he => by simp only [List.mem_singleton] at he; subst he; exact hb_b_p_s) (by simp [fps, LEnt.fp]) (by simp [fps, LEnt.fp]) fun a S => ?_
 unfold Stream_RightMoves at h
 replace S := S.nk [.blk b_p_s [v_p_s_L, iV p_s_at] 25] [(0, .pointer (some ⟨b_p_s, 0, none⟩))] [true] rfl ⟨rfl, trivial⟩
 refine f_seq (f_region (lv S (rn_assign rfl) rfl ?_)); clear S; intro a S
 refine l_done (then_n (f_seq (f_region (lv S (rn_assign rfl) rfl ?_)))); clear S; intro a S
 replace S := S.nil 74 3
 refine l_done (then_n (f_seq (f_seq (f_region (l_buildSlice S Tryz.underlying35 Tryz.sizeOf9 Tryz.zeroValue9 rfl rfl (pv := [(0, sV k_ann), (1, sV k_bea), (2, sV k_cid), (3, sV k_dan), (4, sV k_eve)]) ⟨rfl, rfl, rfl, rfl, rfl, rfl, rfl, rfl, rfl, rfl, trivial⟩ (cs := [sV k_ann, sV k_bea, sV k_cid, sV k_dan, sV k_eve]) (by kernel_rfl) rfl ?_))))); clear S; intro a w1 b1 hz1 hk1 S
 refine lv S (rn_lenT sl_35 (S.tm rfl) ⟨_, _, rfl⟩) rfl ?_; clear S; intro a S
 refine lv S (rn_move rfl) rfl ?_; clear S; intro a S
 refine l_done (then_n ?_)
 replace S := S.nk [.blk b1 [sV k_ann, sV k_bea, sV k_cid, sV k_dan, sV k_eve] 9, .own (.slice none 0 0) 74 3 ([] : List GMove).length (([] : List GMove).flatMap GMove.enc), .blk b_p_s [v_p_s_L, iV p_s_at] 25] [(0, .pointer (some ⟨b_p_s, 0, none⟩)), (3, (.slice none 0 0)), (9, .slice (some ⟨b1, 0, none⟩) 5 5), (10, iV (([k_ann, k_bea, k_cid, k_dan, k_eve] : List ByteArray).length : Int)), (11, iV 0)] [true, true, true] rfl (subR rfl)
 replace S := S.litOwn (i := 0) (xs := [k_ann, k_bea, k_cid, k_dan, k_eve]) rfl enc_str rfl rfl rfl
 replace S := S.nk [.own (.slice (some ⟨b1, 0, none⟩) 5 5) 9 1 ([k_ann, k_bea, k_cid, k_dan, k_eve] : List ByteArray).length (([k_ann, k_bea, k_cid, k_dan, k_eve] : List ByteArray).flatMap eStr), .own (.slice none 0 0) 74 3 ([] : List GMove).length (([] : List GMove).flatMap GMove.enc), .blk b_p_s [v_p_s_L, iV p_s_at] 25] [(0, .pointer (some ⟨b_p_s, 0, none⟩)), (3, (.slice none 0 0)), (9, (.slice (some ⟨b1, 0, none⟩) 5 5)), (10, iV (([k_ann, k_bea, k_cid, k_dan, k_eve] : List ByteArray).length : Int)), (11, iV 0)] [] rfl (subR rfl)
 obtain ⟨φ1, hl1, hs1, S⟩ := S.freezeT (xs := ([k_ann, k_bea, k_cid, k_dan, k_eve] : List ByteArray)) (enc := eStr) (i := 0) rfl (fun c hc hh => not_fps S (i := 2) rfl rfl (j := 0) rfl rfl (by simp at hc; subst hc; exact hh))
 replace S := S.nk [.own (.slice none 0 0) 74 3 ([] : List GMove).length (([] : List GMove).flatMap GMove.enc), .blk b_p_s [v_p_s_L, iV p_s_at] 25] [(0, .pointer (some ⟨b_p_s, 0, none⟩)), (3, (.slice none 0 0)), (9, (.slice (some ⟨b1, 0, none⟩) 5 5)), (10, iV (([k_ann, k_bea, k_cid, k_dan, k_eve] : List ByteArray).length : Int)), (11, iV 0)] [] rfl (subR rfl)
 obtain ⟨j1, hj1, h⟩ := joinE h
 refine f_join (fun a w' => ∃ x1 : List GMove, ∃ x2 : Int, ∃ v1 : Value, j1 x1 x2 = some r ∧ Sx w [b_p_s] φ1 [.own v1 74 3 x1.length (x1.flatMap GMove.enc), .blk b_p_s [v_p_s_L, iV x2] 25] [(3, v1)] 44 a w') ?_ ?_
 ·refine wp_block (f_loop (fun (ys1 : List ByteArray) a w' => ∃ i1 : Nat, ∃ x1 : List GMove, ∃ x2 : Int, ∃ v1 : Value, (∃ dn, ([k_ann, k_bea, k_cid, k_dan, k_eve] : List ByteArray) = dn ++ ys1 ∧ dn.length = i1) ∧ Stream_RightMoves_l1 p_s_L j1 ys1 i1 x1 x2 = some r ∧ Sx w [b_p_s] φ1 [.own v1 74 3 x1.length (x1.flatMap GMove.enc), .blk b_p_s [v_p_s_L, iV x2] 25] [(0, .pointer (some ⟨b_p_s, 0, none⟩)), (3, v1), (9, (.slice (some ⟨b1, 0, none⟩) 5 5)), (10, iV (([k_ann, k_bea, k_cid, k_dan, k_eve] : List ByteArray).length : Int)), (11, iV (i1 : Int))] 44 a w') List.length ([k_ann, k_bea, k_cid, k_dan, k_eve] : List ByteArray) ⟨0, ([] : List GMove), p_s_at, (.slice none 0 0), ⟨[], rfl, rfl⟩, h, S.nf [true, true] rfl (subR rfl)⟩ ?_)
  clear S h; rintro ys1 a w2 ⟨i1, x1, x2, v1, ⟨dn, hd1, hi1⟩, h, S⟩
  cases ys1 with
  | nil =>
   rw [Stream_RightMoves_l1.eq_1] at h
   refine f_seq (f_region (lv S (rn_lss (S.tm rfl) (S.tm rfl)) rfl ?_)); clear S; intro a S
   refine l_done ?_
   replace S := S.nk [.own v1 74 3 x1.length (x1.flatMap GMove.enc), .blk b_p_s [v_p_s_L, iV x2] 25] [(0, .pointer (some ⟨b_p_s, 0, none⟩)), (3, v1), (9, (.slice (some ⟨b1, 0, none⟩) 5 5)), (10, iV (([k_ann, k_bea, k_cid, k_dan, k_eve] : List ByteArray).length : Int)), (11, iV (i1 : Int)), (12, bV (decide ((i1 : Int) < (([k_ann, k_bea, k_cid, k_dan, k_eve] : List ByteArray).length : Int))))] [true, true] rfl (subR rfl)
   refine then_n (f_seq (wp_cond_false ((S.tm rfl).trans (congrArg Value.bool (rng_nil hd1 hi1))) (wp_exit (then_x (then_x (x_same ?_))))))
   refine then_n ?_
   exact ⟨x1, x2, v1, h, S.nf [true, true] rfl ⟨rfl, trivial⟩⟩
  | cons y1 ys1 =>
   rw [Stream_RightMoves_l1.eq_2] at h
   refine f_seq (f_region (lv S (rn_lss (S.tm rfl) (S.tm rfl)) rfl ?_)); clear S; intro a S
   refine l_done ?_
   replace S := S.nk [.own v1 74 3 x1.length (x1.flatMap GMove.enc), .blk b_p_s [v_p_s_L, iV x2] 25] [(0, .pointer (some ⟨b_p_s, 0, none⟩)), (3, v1), (9, (.slice (some ⟨b1, 0, none⟩) 5 5)), (10, iV (([k_ann, k_bea, k_cid, k_dan, k_eve] : List ByteArray).length : Int)), (11, iV (i1 : Int)), (12, bV (decide ((i1 : Int) < (([k_ann, k_bea, k_cid, k_dan, k_eve] : List ByteArray).length : Int))))] [true, true] rfl (subR rfl)
   refine then_n (f_seq (wp_cond_true ((S.tm rfl).trans (congrArg Value.bool (rng_cons hd1 hi1))) (wp_skip (then_n (f_seq (wp_block ?_))))))
   refine f_seq (f_region ?_)
   obtain ⟨b2, o1, hm1, hr1⟩ := rn_indexT (a := a) (x := .tmp 9) (y := .tmp 11) (ty := 0) sl_35 (ownV_slcT enc_str hs1) (get_mid hd1 hi1) rfl (S.tm rfl) (S.tm rfl)
   refine lv S (hr1 _) rfl ?_; clear S; intro a S
   clear hr1
   refine lv S (rn_ld Tryz.isAgg9 (off := o1) (o := 0) (S.tm rfl) (hm1.at S.emb) rfl) rfl ?_; clear S; intro a S
   refine lv S (rn_assign (S.tm rfl)) rfl ?_; clear S; intro a S
   refine l_done (then_n (f_seq (f_region (lv S (rn_move (S.tm rfl)) rfl ?_)))); clear S; intro a S
   refine l_buildSlice S Tryz.underlying22 Tryz.sizeOf3 Tryz.zeroValue3 rfl rfl (pv := [(0, iV (-100)), (1, iV 0), (2, iV 50)]) ⟨rfl, rfl, rfl, rfl, rfl, rfl, trivial⟩ (cs := [iV (-100), iV 0, iV 50]) (by kernel_rfl) rfl ?_; clear S; intro a w4 b3 hz2 hk2 S
   obtain ⟨r1, hr2, h⟩ := bindE h
   refine l_enter1 2 S (b := b_p_s) rfl rfl (fun _ => .blk b_p_s [v_p_s_L, iV r1.2] 25) (fun _ => run_call (vs := [.pointer (some ⟨b_p_s, 0, none⟩), .slice (some ⟨b3, 0, none⟩) 3 3]) ⟨(S.tm rfl), (S.tm rfl), trivial⟩ Tryz.call11) (Stream_Pick_ok _ b_p_s v_p_s_L p_s_L (hs_p_s_L.mono (S.le_arg (fp_sub (i := 2) (e := .blk b_p_s [v_p_s_L, iV x2] 25) rfl))) x2 (S.holds _ (List.mem_of_getElem? (i := 2) rfl)) (.slice (some ⟨b3, 0, none⟩) 3 3) [(-100), 0, 50] (lit_slcT enc_int S (i := 0) rfl rfl rfl rfl ((ne_fp (i := 2) (j := 0) (e := .blk b_p_s [v_p_s_L, iV x2] 25) (e' := .blk b3 [iV (-100), iV 0, iV 50] 3) S rfl rfl rfl) _ rfl)) _ hr2) rfl (fun _ _ _ h => ⟨h.1, fun _ hc => by cases hc; rfl⟩) ?_; clear S; intro v2 a w5 hv1 hk3 hn1 S
   replace hv1 := hv1.2
   subst hv1
   refine lv S (rn_assign (S.tm rfl)) rfl ?_; clear S; intro a S
   refine lv S (rn_assign rfl) rfl ?_; clear S; intro a S
   refine l_done (then_n (f_seq (f_region (lv S (rn_move (S.tm rfl)) rfl ?_)))); clear S; intro a S
   obtain ⟨r2, hr3, h⟩ := bindE h
   refine l_enter1 2 S (b := b_p_s) rfl rfl (fun _ => .blk b_p_s [v_p_s_L, iV r2.2] 25) (fun _ => run_call (vs := [.pointer (some ⟨b_p_s, 0, none⟩), iV 0, iV 3]) ⟨(S.tm rfl), rfl, rfl, trivial⟩ Tryz.call36) (Stream_Range_ok _ b_p_s v_p_s_L p_s_L (hs_p_s_L.mono (S.le_arg (fp_sub (i := 2) (e := .blk b_p_s [v_p_s_L, iV r1.2] 25) rfl))) r1.2 (S.holds _ (List.mem_of_getElem? (i := 2) rfl)) 0 3 _ hr3) rfl (fun _ _ _ h => ⟨h.1, fun _ hc => by cases hc; rfl⟩) ?_; clear S; intro v3 a w6 hv2 hk4 hn2 S
   replace hv2 := hv2.2
   subst hv2
   refine lv S (rn_move rfl) rfl ?_; clear S; intro a S
   refine l_done ?_
   replace S := S.nk [.own v1 74 3 x1.length (x1.flatMap GMove.enc), .blk b_p_s [v_p_s_L, iV r2.2] 25] [(0, .pointer (some ⟨b_p_s, 0, none⟩)), (3, v1), (5, sV y1), (6, iV r1.1), (7, sV k_empty), (9, (.slice (some ⟨b1, 0, none⟩) 5 5)), (10, iV (([k_ann, k_bea, k_cid, k_dan, k_eve] : List ByteArray).length : Int)), (11, iV (i1 : Int)), (19, iV r2.1), (20, iV 0)] [false, true, true] rfl (subR rfl)
   refine then_n ?_
   obtain ⟨j2, hj2, h⟩ := joinE h
   refine f_join (fun a w' => ∃ x3 : List GMove, ∃ x4 : Int, ∃ v4 : Value, j2 x3 x4 = some r ∧ Sx w [b_p_s] φ1 [.own v4 74 3 x3.length (x3.flatMap GMove.enc), .blk b_p_s [v_p_s_L, iV x4] 25] [(0, .pointer (some ⟨b_p_s, 0, none⟩)), (3, v4), (9, (.slice (some ⟨b1, 0, none⟩) 5 5)), (10, iV (([k_ann, k_bea, k_cid, k_dan, k_eve] : List ByteArray).length : Int)), (11, iV (i1 : Int))] 44 a w') ?_ ?_
   ·refine wp_block (f_loop (fun (m1 : Nat) a w' => ∃ x3 : List GMove, ∃ x4 : Int, ∃ x5 : Int, ∃ x6 : ByteArray, ∃ x7 : Int, ∃ v4 : Value, Stream_RightMoves_l2 r2 p_s_L y1 j2 m1 x3 x4 x5 x6 x7 = some r ∧ Sx w [b_p_s] φ1 [.own v4 74 3 x3.length (x3.flatMap GMove.enc), .blk b_p_s [v_p_s_L, iV x4] 25] [(0, .pointer (some ⟨b_p_s, 0, none⟩)), (3, v4), (5, sV y1), (6, iV x5), (7, sV x6), (9, (.slice (some ⟨b1, 0, none⟩) 5 5)), (10, iV (([k_ann, k_bea, k_cid, k_dan, k_eve] : List ByteArray).length : Int)), (11, iV (i1 : Int)), (19, iV r2.1), (20, iV x7)] 44 a w') id ((r2.1 - 0).toNat + 2) ⟨x1, r2.2, r1.1, k_empty, 0, v1, h, S.nf [true, true] rfl (subR rfl)⟩ ?_)
    clear S h; rintro m1 a w7 ⟨x3, x4, x5, x6, x7, v4, h, S⟩
    cases m1 with
    | zero => rw [Stream_RightMoves_l2.eq_1] at h; cases h
    | succ m1 =>
     rw [Stream_RightMoves_l2.eq_2] at h
     refine f_seq (f_region (lv S (rn_lss (S.tm rfl) (S.tm rfl)) rfl ?_)); clear S; intro a S
     refine l_done (then_n (f_seq (f_cond (S.tm rfl) (fun hb1 => ?_) (fun hb1 => ?_))))
     ·replace h := iteT h hb1
      refine wp_skip (then_n (f_seq ?_))
      obtain ⟨j3, hj3, h⟩ := joinE h
      refine f_join (fun a w' => ∃ x8 : List GMove, ∃ x9 : Int, ∃ x10 : Int, ∃ x11 : ByteArray, ∃ v5 : Value, j3 x8 x9 x10 x11 = some r ∧ Sx w [b_p_s] φ1 [.own v5 74 3 x8.length (x8.flatMap GMove.enc), .blk b_p_s [v_p_s_L, iV x9] 25] [(0, .pointer (some ⟨b_p_s, 0, none⟩)), (3, v5), (5, sV y1), (6, iV x10), (7, sV x11), (9, (.slice (some ⟨b1, 0, none⟩) 5 5)), (10, iV (([k_ann, k_bea, k_cid, k_dan, k_eve] : List ByteArray).length : Int)), (11, iV (i1 : Int)), (19, iV r2.1), (20, iV x7)] 44 a w') ?_ ?_
      ·refine wp_block (f_seq (f_region (lv S (rn_move (S.tm rfl)) rfl ?_))); clear S; intro a S
       refine l_buildSlice S Tryz.underlying35 Tryz.sizeOf9 Tryz.zeroValue9 rfl rfl (pv := [(0, sV k_blue), (1, sV k_blue), (2, sV k_red), (3, sV k_empty)]) ⟨rfl, rfl, rfl, rfl, rfl, rfl, rfl, rfl, trivial⟩ (cs := [sV k_blue, sV k_blue, sV k_red, sV k_empty]) (by kernel_rfl) rfl ?_; clear S; intro a w10 b4 hz3 hk5 S
       obtain ⟨r3, hr4, h⟩ := bindE h
       refine l_enter1 2 S (b := b_p_s) rfl rfl (fun _ => .blk b_p_s [v_p_s_L, iV r3.2] 25) (fun _ => run_call (vs := [.pointer (some ⟨b_p_s, 0, none⟩), .slice (some ⟨b4, 0, none⟩) 4 4]) ⟨(S.tm rfl), (S.tm rfl), trivial⟩ Tryz.call31) (Stream_Some_ok _ b_p_s v_p_s_L p_s_L (hs_p_s_L.mono (S.le_arg (fp_sub (i := 2) (e := .blk b_p_s [v_p_s_L, iV x4] 25) rfl))) x4 (S.holds _ (List.mem_of_getElem? (i := 2) rfl)) (.slice (some ⟨b4, 0, none⟩) 4 4) [k_blue, k_blue, k_red, k_empty] (lit_slcT enc_str S (i := 0) rfl rfl rfl rfl ((ne_fp (i := 2) (j := 0) (e := .blk b_p_s [v_p_s_L, iV x4] 25) (e' := .blk b4 [sV k_blue, sV k_blue, sV k_red, sV k_empty] 9) S rfl rfl rfl) _ rfl)) _ hr4) rfl (fun _ _ _ h => ⟨h.1, fun _ hc => by cases hc; rfl⟩) ?_; clear S; intro v6 a w11 hv3 hk6 hn3 S
       replace hv3 := hv3.2
       subst hv3
       refine lv S (rn_assign (S.tm rfl)) rfl ?_; clear S; intro a S
       refine l_done ?_
       replace S := S.nk [.own v4 74 3 x3.length (x3.flatMap GMove.enc), .blk b_p_s [v_p_s_L, iV r3.2] 25] [(0, .pointer (some ⟨b_p_s, 0, none⟩)), (3, v4), (5, sV y1), (6, iV x5), (7, sV x6), (8, sV r3.1), (9, (.slice (some ⟨b1, 0, none⟩) 5 5)), (10, iV (([k_ann, k_bea, k_cid, k_dan, k_eve] : List ByteArray).length : Int)), (11, iV (i1 : Int)), (19, iV r2.1), (20, iV x7)] [false, true, true] rfl (subR rfl)
       refine then_n (f_seq (f_seq (f_region (lv S (rn_move (S.tm rfl)) rfl ?_)))); clear S; intro a S
       refine lv S (rn_move (S.tm rfl)) rfl ?_; clear S; intro a S
       refine lv S (rn_seql (S.tm rfl) (S.tm rfl)) rfl ?_; clear S; intro a S
       refine l_done (then_n (f_cond (S.tm rfl) (fun hb2 => ?_) (fun hb2 => ?_)))
       ·replace h := iteT h hb2
        refine wp_exit (then_x (x_same (then_n ?_)))
        exact ⟨x3, r3.2, x5, x6, v4, h, S.nf [true, true] rfl (subR rfl)⟩
       ·replace h := iteF h hb2
        refine wp_skip (then_n (f_seq (f_region (lv S (rn_move (S.tm rfl)) rfl ?_)))); clear S; intro a S
        iterate 3 (refine lv S (rn_move (S.tm rfl)) rfl ?_; clear S; intro a S)
        refine lv S (rn_bld bt_74 (pv := [(0, sV y1), (1, sV r3.1), (2, iV x5)]) ⟨rfl, (S.tm rfl), rfl, (S.tm rfl), rfl, (S.tm rfl), trivial⟩ (cs := [sV y1, sV r3.1, iV x5]) (by kernel_rfl)) rfl ?_; clear S; intro a S
        refine l_buildSlice S Tryz.underlying30 Tryz.sizeOf74 Tryz.zeroValue74 rfl rfl (pv := [(0, .agg #[sV y1, sV r3.1, iV x5])]) ⟨rfl, (S.tm rfl), trivial⟩ (cs := [sV y1, sV r3.1, iV x5]) (by kernel_rfl) rfl ?_; clear S; intro a w12 b5 hz4 hk7 S
        obtain ⟨hc1, h⟩ := chkE h
        refine l_appendT sl_30 GMove.enc_ok S (S.tm rfl) (i := 1) rfl (S.tm rfl) (j := 0) rfl (ys := [(GMove.mk y1 r3.1 x5)]) rfl rfl rfl rfl (by have := room_lt hc1; omega) rfl ?_; clear S; intro v7 a w13 hk8 S
        refine lv S (rn_assign (S.tm rfl)) rfl ?_; clear S; intro a S
        refine l_done ?_
        replace S := S.nk [.own v7 74 3 (x3 ++ [(GMove.mk y1 r3.1 x5)]).length ((x3 ++ [(GMove.mk y1 r3.1 x5)]).flatMap GMove.enc), .blk b_p_s [v_p_s_L, iV r3.2] 25] [(0, .pointer (some ⟨b_p_s, 0, none⟩)), (3, v7), (5, sV y1), (6, iV x5), (8, sV r3.1), (9, (.slice (some ⟨b1, 0, none⟩) 5 5)), (10, iV (([k_ann, k_bea, k_cid, k_dan, k_eve] : List ByteArray).length : Int)), (11, iV (i1 : Int)), (19, iV r2.1), (20, iV x7)] [false, true, true] rfl (subR rfl)
        refine then_n (f_seq (f_region (lv S (rn_move (S.tm rfl)) rfl ?_))); clear S; intro a S
        refine lv S (rn_assign (S.tm rfl)) rfl ?_; clear S; intro a S
        refine l_done (then_n (f_region (lv S (rn_move (S.tm rfl)) rfl ?_))); clear S; intro a S
        refine lv S (rn_move (S.tm rfl)) rfl ?_; clear S; intro a S
        refine l_buildSlice S Tryz.underlying22 Tryz.sizeOf3 Tryz.zeroValue3 rfl rfl (pv := [(0, iV 1), (1, iV 30), (2, iV 365)]) ⟨rfl, rfl, rfl, rfl, rfl, rfl, trivial⟩ (cs := [iV 1, iV 30, iV 365]) (by kernel_rfl) rfl ?_; clear S; intro a w14 b6 hz5 hk9 S
        obtain ⟨r4, hr5, h⟩ := bindE h
        refine l_enter1 2 S (b := b_p_s) rfl rfl (fun _ => .blk b_p_s [v_p_s_L, iV r4.2] 25) (fun _ => run_call (vs := [.pointer (some ⟨b_p_s, 0, none⟩), .slice (some ⟨b6, 0, none⟩) 3 3]) ⟨(S.tm rfl), (S.tm rfl), trivial⟩ Tryz.call11) (Stream_Pick_ok _ b_p_s v_p_s_L p_s_L (hs_p_s_L.mono (S.le_arg (fp_sub (i := 2) (e := .blk b_p_s [v_p_s_L, iV r3.2] 25) rfl))) r3.2 (S.holds _ (List.mem_of_getElem? (i := 2) rfl)) (.slice (some ⟨b6, 0, none⟩) 3 3) [1, 30, 365] (lit_slcT enc_int S (i := 0) rfl rfl rfl rfl ((ne_fp (i := 2) (j := 0) (e := .blk b_p_s [v_p_s_L, iV r3.2] 25) (e' := .blk b6 [iV 1, iV 30, iV 365] 3) S rfl rfl rfl) _ rfl)) _ hr5) rfl (fun _ _ _ h => ⟨h.1, fun _ hc => by cases hc; rfl⟩) ?_; clear S; intro v8 a w15 hv4 hk10 hn4 S
        replace hv4 := hv4.2
        subst hv4
        refine lv S (rn_add (S.tm rfl) (S.tm rfl)) rfl ?_; clear S; intro a S
        refine lv S (rn_assign (S.tm rfl)) rfl ?_; clear S; intro a S
        refine l_done ?_
        replace S := S.nk [.own v7 74 3 (x3 ++ [(GMove.mk y1 r3.1 x5)]).length ((x3 ++ [(GMove.mk y1 r3.1 x5)]).flatMap GMove.enc), .blk b_p_s [v_p_s_L, iV r4.2] 25] [(0, .pointer (some ⟨b_p_s, 0, none⟩)), (3, v7), (5, sV y1), (6, iV (W (x5 + r4.1))), (7, sV r3.1), (9, (.slice (some ⟨b1, 0, none⟩) 5 5)), (10, iV (([k_ann, k_bea, k_cid, k_dan, k_eve] : List ByteArray).length : Int)), (11, iV (i1 : Int)), (19, iV r2.1), (20, iV x7)] [false, true, true] rfl (subR rfl)
        refine blk_n (then_n ?_)
        exact ⟨(x3 ++ [(GMove.mk y1 r3.1 x5)]), r4.2, W (x5 + r4.1), r3.1, v7, h, S.nf [true, true] rfl (subR rfl)⟩
      clear S h; rintro a w9 ⟨x8, x9, x10, x11, v5, h, S⟩; rw [hj3] at h; clear hj3 j3
      refine then_n (f_region (lv S (rn_add (S.tm rfl) rfl) rfl ?_)); clear S; intro a S
      refine lv S (rn_move (S.tm rfl)) rfl ?_; clear S; intro a S
      refine l_done (then_n ?_)
      exact ⟨m1, ⟨x8, x9, x10, x11, W (x7 + 1), v5, h, S.nf [true, true] rfl ⟨rfl, rfl, rfl, rfl, rfl, rfl, rfl, rfl, rfl, rfl, trivial⟩⟩, Nat.lt_succ_self _⟩
     ·replace h := iteF h hb1
      refine wp_exit (then_x (then_x (x_same (then_n ?_))))
      exact ⟨x3, x4, v4, h, S.nf [true, true] rfl (subR rfl)⟩
   clear S h; rintro a w8 ⟨x3, x4, v4, h, S⟩; rw [hj2] at h; clear hj2 j2
   refine blk_n (then_n (f_region (lv S (rn_add (S.tm rfl) rfl) rfl ?_))); clear S; intro a S
   refine lv S (rn_move (S.tm rfl)) rfl ?_; clear S; intro a S
   refine l_done (then_n ?_)
   exact ⟨ys1, ⟨i1 + 1, x3, x4, v4, ⟨_, (hd1).trans (List.append_cons _ _ _), by simp [hi1]⟩, h, S.nf [true, true] rfl ⟨rfl, rfl, rfl, rfl, (congrArg (fun z => some (Value.int .i64 z)) (rng_next hd1 hi1 (slc_max (ownV_slcT enc_str hs1)))), trivial⟩⟩, Nat.lt_succ_self _⟩
 clear S h; rintro a w3 ⟨x1, x2, v1, h, S⟩; rw [hj1] at h; clear hj1 j1
 refine then_n (f_seq (f_region (lv S (rn_move (S.tm rfl)) rfl ?_))); clear S; intro a S
 refine lv S (rn_assign (S.tm rfl)) rfl ?_; clear S; intro a S
 refine l_done (then_n (wp_ret ?_))
 obtain rfl := Option.some.inj h
 exact f_ret S Tryz.results34 rfl ⟨(S.holds _ (List.mem_of_getElem? (i := 1) rfl)), (own_retX S (i := 0) rfl (fun c hc hh => not_fps S (i := 1) rfl rfl (j := 0) rfl rfl (by simp at hc; subst hc; exact hh)))⟩
theorem Stream_Moves_ok (w : World) (b_p_s : Nat) (v_p_s_L : Value) (p_s_L : List Int) (hs_p_s_L : Slc (view w [b_p_s]) 1 v_p_s_L (p_s_L.map eInt)) (p_s_at : Int) (hb_b_p_s : (LEnt.blk b_p_s [v_p_s_L, iV p_s_at] 25).holds w) (r : (List GMove) × Int) (h : Stream_Moves p_s_L p_s_at = some r) :
    Calls Tryz.prog 6 [.pointer (some ⟨b_p_s, 0, none⟩)].toArray w (Ret w [b_p_s] fun τ v w' => (LEnt.blk b_p_s [v_p_s_L, iV r.2] 25).holds w' ∧ OwnV τ 74 3 v r.1.length (r.1.flatMap GMove.enc)) := by
 refine f_enter [b_p_s] [.blk b_p_s [v_p_s_L, iV p_s_at] 25] Tryz.func6 rfl Tryz.ntmps6 rfl (fun e he => by simp only [List.mem_singleton] at he; subst he; exact hb_b_p_s) (by simp [fps, LEnt.fp]) (by simp [fps, LEnt.fp]) fun a S => ?_
 unfold Stream_Moves at h
 replace S := S.nk [.blk b_p_s [v_p_s_L, iV p_s_at] 25] [(0, .pointer (some ⟨b_p_s, 0, none⟩))] [true] rfl ⟨rfl, trivial⟩
 refine f_seq (f_region (lv S (rn_assign rfl) rfl ?_)); clear S; intro a S
 refine l_done (then_n (f_seq (f_region (lv S (rn_move (S.tm rfl)) rfl ?_)))); clear S; intro a S
 obtain ⟨r1, hr1, h⟩ := bindE h
 have hz1 := S.keep.size
 refine l_enter1 0 S (b := b_p_s) rfl rfl (fun _ => .blk b_p_s [v_p_s_L, iV r1.2] 25) (fun _ => run_call (vs := [.pointer (some ⟨b_p_s, 0, none⟩)]) ⟨(S.tm rfl), trivial⟩ Tryz.call34) (Stream_RightMoves_ok _ b_p_s v_p_s_L p_s_L (hs_p_s_L.mono (S.le_arg (fp_sub (i := 0) (e := .blk b_p_s [v_p_s_L, iV p_s_at] 25) rfl))) p_s_at (S.holds _ (List.mem_of_getElem? (i := 0) rfl)) _ hr1) rfl (fun _ _ _ h => ⟨h.1, fun _ hc => by cases hc; rfl⟩) ?_; clear S; intro v1 a w1 hv1 hk1 hn1 S
 replace hv1 := hv1.2
 replace S := S.take hn1 hz1 hv1
 refine lv S (rn_assign (S.tm rfl)) rfl ?_; clear S; intro a S
 refine l_done (then_n (f_seq (f_seq (f_region (lv S (rn_move (S.tm rfl)) rfl ?_))))); clear S; intro a S
 refine lv S (rn_lenT sl_30 (S.tm rfl) (own_len (S.own_at (i := 0) rfl))) rfl ?_; clear S; intro a S
 refine lv S (rn_gtr (S.tm rfl) rfl) rfl ?_; clear S; intro a S
 refine lv S (rn_move (S.tm rfl)) rfl ?_; clear S; intro a S
 obtain ⟨j1, hj1, h⟩ := joinE h
 refine f_cutm 3 (fun a w' => ∃ x1 : Int, ∃ x2 : Bool, j1 x1 x2 = some r ∧ Sx w [b_p_s] nov [.own v1 74 3 r1.1.length (r1.1.flatMap GMove.enc), .blk b_p_s [v_p_s_L, iV x1] 25] [(0, .pointer (some ⟨b_p_s, 0, none⟩)), (3, v1), (13, bV x2)] 46 a w') ?_ ?_
 ·rcases Bool.eq_false_or_eq_true (decide (0 < (r1.1.length : Int))) with hb1 | hb1
  ·replace h := iteT h hb1
   refine l_want S rfl rfl rfl hb1 (lv S (rn_move (S.tm rfl)) rfl ?_); clear S; intro a S
   refine l_want S rfl rfl rfl hb1 ?_
   obtain ⟨r2, hr2, h⟩ := bindE h
   refine l_enter1 1 S (b := b_p_s) rfl rfl (fun _ => .blk b_p_s [v_p_s_L, iV r2.2] 25) (fun _ => run_call (vs := [.pointer (some ⟨b_p_s, 0, none⟩), iV 12]) ⟨(S.tm rfl), rfl, trivial⟩ Tryz.call9) (Stream_Flip_ok _ b_p_s v_p_s_L p_s_L (hs_p_s_L.mono (S.le_arg (fp_sub (i := 1) (e := .blk b_p_s [v_p_s_L, iV r1.2] 25) rfl))) r1.2 (S.holds _ (List.mem_of_getElem? (i := 1) rfl)) 12 _ hr2) rfl (fun _ _ _ h => ⟨h.1, fun _ hc => by cases hc; rfl⟩) ?_; clear S; intro v2 a w3 hv2 hk2 hn2 S
   replace hv2 := hv2.2
   subst hv2
   refine lv S (rn_pick_b hb1 (S.tm rfl) (S.tm rfl)) rfl ?_; clear S; intro a S
   refine l_done (then_n ?_)
   exact ⟨r2.2, r2.1, h, S.nf [true, true] rfl (subR rfl)⟩
  ·replace h := iteF h hb1
   refine l_skip S rfl rfl rfl (neq_f hb1) rfl ?_ rfl; clear S; intro a S
   refine l_skip S rfl rfl rfl (neq_f hb1) rfl ?_ rfl; clear S; intro a S
   refine lv S (rn_pick_c hb1 (S.tm rfl) rfl) rfl ?_; clear S; intro a S
   refine l_done (then_n ?_)
   exact ⟨r1.2, false, h, S.nf [true, true] rfl (subR rfl)⟩
 clear S h; rintro a w2 ⟨x1, x2, h, S⟩; rw [hj1] at h; clear hj1 j1
 refine l_done (then_n ?_)
 obtain ⟨j2, hj2, h⟩ := joinE h
 refine f_join (fun a w' => ∃ x3 : List GMove, ∃ x4 : Int, j2 x3 x4 = some r ∧ Sx w [b_p_s] nov [.own v1 74 3 x3.length (x3.flatMap GMove.enc), .blk b_p_s [v_p_s_L, iV x4] 25] [(3, v1)] 46 a w') ?_ ?_
 ·refine f_cond (S.tm rfl) (fun hb2 => ?_) (fun hb2 => ?_)
  ·replace h := iteT h hb2
   refine f_seq (f_region (lv S (rn_move (S.tm rfl)) rfl ?_)); clear S; intro a S
   refine lv S (rn_move (S.tm rfl)) rfl ?_; clear S; intro a S
   refine lv S (rn_move (S.tm rfl)) rfl ?_; clear S; intro a S
   refine lv S (rn_lenT sl_30 (S.tm rfl) (own_len (S.own_at (i := 0) rfl))) rfl ?_; clear S; intro a S
   obtain ⟨r3, hr3, h⟩ := bindE h
   refine l_enter1 1 S (b := b_p_s) rfl rfl (fun _ => .blk b_p_s [v_p_s_L, iV r3.2] 25) (fun _ => run_call (vs := [.pointer (some ⟨b_p_s, 0, none⟩), iV (r1.1.length : Int)]) ⟨(S.tm rfl), (S.tm rfl), trivial⟩ Tryz.call30) (Stream_Next_ok _ b_p_s v_p_s_L p_s_L (hs_p_s_L.mono (S.le_arg (fp_sub (i := 1) (e := .blk b_p_s [v_p_s_L, iV x1] 25) rfl))) x1 (S.holds _ (List.mem_of_getElem? (i := 1) rfl)) (r1.1.length : Int) _ hr3) rfl (fun _ _ _ h => ⟨h.1, fun _ hc => by cases hc; rfl⟩) ?_; clear S; intro v3 a w5 hv3 hk3 hn3 S
   replace hv3 := hv3.2
   subst hv3
   obtain ⟨hc1, h⟩ := chkE h
   obtain ⟨b1, hg1, hr4⟩ := rn_indexS (a := a) (x := .tmp 14) (y := .tmp 18) (ty := 0) sl_30 GMove.enc_ok S (i := 0) rfl (inB_get hc1).1 (inB_get hc1).2 (S.tm rfl) (S.tm rfl)
   refine lv S (hr4 _) rfl ?_; clear S; intro a S
   clear hr4
   refine lv S (rn_assign (S.tm rfl)) rfl ?_; clear S; intro a S
   refine l_done (then_n ?_)
   obtain ⟨j3, hj3, h⟩ := joinE h
   refine f_join (fun a w' => ∃ x5 : List GMove, ∃ x6 : Int, j3 x5 x6 = some r ∧ Sx w [b_p_s] nov [.own v1 74 3 x5.length (x5.flatMap GMove.enc), .blk b_p_s [v_p_s_L, iV x6] 25] [(3, v1)] 46 a w') ?_ ?_
   ·obtain ⟨r4, hr5, h⟩ := bindE h
    obtain ⟨r5, hr6, h⟩ := bindE h
    obtain ⟨r6, hr7, h⟩ := bindE h
    refine d_region [21, 24, 27] ([b_p_s]) Tryz.mixed S rfl (by kernel_rfl) ?_; clear S; intro w18 hk15 hsel S
    refine d_pure 0 S hsel rfl rfl (by kernel_rfl) (by kernel_rfl) rfl (fun _ => (rn_move (S.tm rfl))) ?_; clear S; intro a S
    refine d_pure 1 S hsel rfl rfl (by kernel_rfl) (by kernel_rfl) rfl (fun _ => (rn_move (S.tm rfl))) ?_; clear S; intro a S
    refine d_pure 2 S hsel rfl rfl (by kernel_rfl) (by kernel_rfl) rfl (fun _ => (rn_move (S.tm rfl))) ?_; clear S; intro a S
    refine d_pure 3 S hsel rfl rfl (by kernel_rfl) (by kernel_rfl) rfl (fun _ => (rn_move (S.tm rfl))) ?_; clear S; intro a S
    refine d_pure 4 S hsel rfl rfl (by kernel_rfl) (by kernel_rfl) rfl (fun _ => (rn_move (S.tm rfl))) ?_; clear S; intro a S
    refine d_pure 5 S hsel rfl rfl (by kernel_rfl) (by kernel_rfl) rfl (fun _ => (rn_nilCheck (S.tm rfl))) ?_; clear S; intro a S
    refine d_pure 6 S hsel rfl rfl (by kernel_rfl) (by kernel_rfl) rfl (fun _ => (rn_fld fa_74_0 (S.tm rfl))) ?_; clear S; intro a S
    refine d_quiet 7 S hsel rfl (by kernel_rfl) (by kernel_rfl) (by kernel_rfl) (by kernel_rfl) rfl (fun _ hw => (rn_ld Tryz.isAgg9 (off := r3.1.toNat * 3) (o := 0) (S.tm rfl) ((own_mem GMove.enc_ok S (i := 0) rfl hg1 (inB_get hc1).1 (ne_fp (i := 1) (j := 0) (e := .blk b_p_s [v_p_s_L, iV r3.2] 25) (e' := .own v1 74 3 r1.1.length (r1.1.flatMap GMove.enc)) S rfl rfl rfl)).kept hw) rfl)) ?_; clear S; intro a S
    refine d_pure 10 S hsel rfl rfl (by kernel_rfl) (by kernel_rfl) rfl (fun _ => (rn_move (S.tm rfl))) ?_; clear S; intro a S
    refine d_pure 11 S hsel rfl rfl (by kernel_rfl) (by kernel_rfl) rfl (fun _ => (rn_move (S.tm rfl))) ?_; clear S; intro a S
    refine d_pure 12 S hsel rfl rfl (by kernel_rfl) (by kernel_rfl) rfl (fun _ => (rn_nilCheck (S.tm rfl))) ?_; clear S; intro a S
    refine d_pure 13 S hsel rfl rfl (by kernel_rfl) (by kernel_rfl) rfl (fun _ => (rn_fld fa_74_1 (S.tm rfl))) ?_; clear S; intro a S
    refine d_quiet 14 S hsel rfl (by kernel_rfl) (by kernel_rfl) (by kernel_rfl) (by kernel_rfl) rfl (fun _ hw => (rn_ld Tryz.isAgg9 (off := r3.1.toNat * 3) (o := 1) (S.tm rfl) ((own_mem GMove.enc_ok S (i := 0) rfl hg1 (inB_get hc1).1 (ne_fp (i := 1) (j := 0) (e := .blk b_p_s [v_p_s_L, iV r3.2] 25) (e' := .own v1 74 3 r1.1.length (r1.1.flatMap GMove.enc)) S rfl rfl rfl)).kept hw) rfl)) ?_; clear S; intro a S
    refine d_pure 17 S hsel rfl rfl (by kernel_rfl) (by kernel_rfl) rfl (fun _ => (rn_move (S.tm rfl))) ?_; clear S; intro a S
    refine d_loud2 8 15 (by kernel_rfl) rfl rfl ?_ ?_
    ·refine l_buildSlice S Tryz.underlying35 Tryz.sizeOf9 Tryz.zeroValue9 rfl rfl (pv := [(0, sV ((nth r1.1 r3.1).Who)), (1, sV k_empty), (2, sV k_ann)]) ⟨rfl, (S.tm rfl), rfl, rfl, rfl, rfl, trivial⟩ (cs := [sV ((nth r1.1 r3.1).Who), sV k_empty, sV k_ann]) (by kernel_rfl) rfl ?_; clear S; intro a w19 b4 hz4 hk16 S
     refine l_done (d_next (Keep.none hk16) (d_loud2 9 15 (by kernel_rfl) rfl rfl ?_ ?_))
     ·refine l_enter1 2 S (b := b_p_s) rfl rfl (fun _ => .blk b_p_s [v_p_s_L, iV r4.2] 25) (fun _ => run_call (vs := [.pointer (some ⟨b_p_s, 0, none⟩), .slice (some ⟨b4, 0, none⟩) 3 3]) ⟨(S.tm rfl), (S.tm rfl), trivial⟩ Tryz.call31) (Stream_Some_ok _ b_p_s v_p_s_L p_s_L (hs_p_s_L.mono (S.le_arg (fp_sub (i := 2) (e := .blk b_p_s [v_p_s_L, iV r3.2] 25) rfl))) r3.2 (S.holds _ (List.mem_of_getElem? (i := 2) rfl)) (.slice (some ⟨b4, 0, none⟩) 3 3) [(nth r1.1 r3.1).Who, k_empty, k_ann] (lit_slcT enc_str S (i := 0) rfl rfl rfl rfl ((ne_fp (i := 2) (j := 0) (e := .blk b_p_s [v_p_s_L, iV r3.2] 25) (e' := .blk b4 [sV ((nth r1.1 r3.1).Who), sV k_empty, sV k_ann] 9) S rfl rfl rfl) _ rfl)) _ hr5) rfl (fun _ _ _ h => ⟨h.1, fun _ hc => by cases hc; rfl⟩) ?_; clear S; intro v7 a w20 hv7 hk17 hn7 S
      replace hv7 := hv7.2
      subst hv7
      refine l_done (d_next hk17 (d_loud1 15 (by kernel_rfl) rfl (l_buildSlice S Tryz.underlying35 Tryz.sizeOf9 Tryz.zeroValue9 rfl rfl (pv := [(0, sV ((nth r1.1 r3.1).Club)), (1, sV k_A), (2, sV k_blue), (3, sV k_empty)]) ⟨rfl, (S.tm rfl), rfl, rfl, rfl, rfl, rfl, rfl, trivial⟩ (cs := [sV ((nth r1.1 r3.1).Club), sV k_A, sV k_blue, sV k_empty]) (by kernel_rfl) rfl ?_))); clear S; intro a w21 b5 hz5 hk18 S
      refine l_done (d_next (Keep.none hk18) (d_loud1 16 (by kernel_rfl) rfl ?_))
      refine l_enter1 3 S (b := b_p_s) rfl rfl (fun _ => .blk b_p_s [v_p_s_L, iV r5.2] 25) (fun _ => run_call (vs := [.pointer (some ⟨b_p_s, 0, none⟩), .slice (some ⟨b5, 0, none⟩) 4 4]) ⟨(S.tm rfl), (S.tm rfl), trivial⟩ Tryz.call31) (Stream_Some_ok _ b_p_s v_p_s_L p_s_L (hs_p_s_L.mono (S.le_arg (fp_sub (i := 3) (e := .blk b_p_s [v_p_s_L, iV r4.2] 25) rfl))) r4.2 (S.holds _ (List.mem_of_getElem? (i := 3) rfl)) (.slice (some ⟨b5, 0, none⟩) 4 4) [(nth r1.1 r3.1).Club, k_A, k_blue, k_empty] (lit_slcT enc_str S (i := 0) rfl rfl rfl rfl ((ne_fp (i := 3) (j := 0) (e := .blk b_p_s [v_p_s_L, iV r4.2] 25) (e' := .blk b5 [sV ((nth r1.1 r3.1).Club), sV k_A, sV k_blue, sV k_empty] 9) S rfl rfl rfl) _ rfl)) _ hr6) rfl (fun _ _ _ h => ⟨h.1, fun _ hc => by cases hc; rfl⟩) ?_; clear S; intro v8 a w22 hv8 hk19 hn8 S
      replace hv8 := hv8.2
      subst hv8
      refine l_done (d_next hk19 (d_loud1 18 (by kernel_rfl) rfl ?_))
      refine l_enter1 3 S (b := b_p_s) rfl rfl (fun _ => .blk b_p_s [v_p_s_L, iV r6.2] 25) (fun _ => run_call (vs := [.pointer (some ⟨b_p_s, 0, none⟩), iV (-100), iV 400]) ⟨(S.tm rfl), rfl, rfl, trivial⟩ Tryz.call32) (Stream_Odd_ok _ b_p_s v_p_s_L p_s_L (hs_p_s_L.mono (S.le_arg (fp_sub (i := 3) (e := .blk b_p_s [v_p_s_L, iV r5.2] 25) rfl))) r5.2 (S.holds _ (List.mem_of_getElem? (i := 3) rfl)) (-100) 400 _ hr7) rfl (fun _ _ _ h => ⟨h.1, fun _ hc => by cases hc; rfl⟩) ?_; clear S; intro v9 a w23 hv9 hk20 hn9 S
      replace hv9 := hv9.2
      subst hv9
      refine l_done (d_next hk20 (d_pure 19 S hsel rfl rfl (by kernel_rfl) (by kernel_rfl) rfl (fun _ => (rn_nilCheck (S.tm rfl))) ?_)); clear S; intro a S
      refine d_pure 20 S hsel rfl rfl (by kernel_rfl) (by kernel_rfl) rfl (fun _ => (rn_fld fa_74_0 (S.tm rfl))) ?_; clear S; intro a S
      refine d_loudB 21 ([b_p_s] ++ v1.ownBlock.toList) rfl (by kernel_rfl) rfl (l_storeO (c := 0) (j := r3.1.toNat) (GMove.mk r4.1 ((nth r1.1 r3.1).Club) ((nth r1.1 r3.1).Day)) GMove.enc_ok S (S.tm rfl) (S.tm rfl) (i := 2) rfl hg1 (inB_get hc1).1 Tryz.sizeOf9 (vs := [sV r4.1]) rfl rfl rfl rfl rfl ?_); clear S; intro w25 hk22 S
      refine l_done (d_nextB (d_quiet 22 S hsel rfl rfl rfl (by kernel_rfl) (by kernel_rfl) rfl (fun _ hw => (rn_nilCheck (S.tm rfl))) ?_)); clear S; intro a S
      refine d_quiet 23 S hsel rfl rfl rfl (by kernel_rfl) (by kernel_rfl) rfl (fun _ hw => (rn_fld fa_74_1 (S.tm rfl))) ?_; clear S; intro a S
      refine d_loud1 24 (by kernel_rfl) rfl (l_storeO (c := 1) (j := r3.1.toNat) (GMove.mk r4.1 r5.1 ((nth r1.1 r3.1).Day)) GMove.enc_ok S (S.tm rfl) (S.tm rfl) (i := 2) rfl hg1 (get_set (inB_get hc1).1) Tryz.sizeOf9 (vs := [sV r5.1]) rfl rfl rfl rfl rfl ?_); clear S; intro w27 hk24 S
      refine l_done ?_
      refine d_next (hk24.sub (by intro y hy; simp at hy ⊢; simp [hy])) ?_
      refine d_quiet 25 S hsel rfl rfl rfl (by kernel_rfl) (by kernel_rfl) rfl (fun _ hw => (rn_nilCheck (S.tm rfl))) ?_; clear S; intro a S
      refine d_quiet 26 S hsel rfl rfl rfl (by kernel_rfl) (by kernel_rfl) rfl (fun _ hw => (rn_fld fa_74_2 (S.tm rfl))) ?_; clear S; intro a S
      refine d_loud1 27 (by kernel_rfl) rfl (l_storeO (c := 2) (j := r3.1.toNat) (GMove.mk r4.1 r5.1 r6.1) GMove.enc_ok S (S.tm rfl) (S.tm rfl) (i := 2) rfl hg1 (get_set (get_set (inB_get hc1).1)) Tryz.sizeOf3 (vs := [iV r6.1]) rfl rfl rfl rfl rfl ?_); clear S; intro w29 hk26 S
      refine l_done ?_
      refine d_next (hk26.sub (by intro y hy; simp at hy ⊢; simp [hy])) ?_
      refine d_end (by kernel_rfl) ?_
      clear hsel
      replace S := S.nk [.own v1 74 3 (((r1.1.set r3.1.toNat (GMove.mk r4.1 ((nth r1.1 r3.1).Club) ((nth r1.1 r3.1).Day))).set r3.1.toNat (GMove.mk r4.1 r5.1 ((nth r1.1 r3.1).Day))).set r3.1.toNat (GMove.mk r4.1 r5.1 r6.1)).length ((((r1.1.set r3.1.toNat (GMove.mk r4.1 ((nth r1.1 r3.1).Club) ((nth r1.1 r3.1).Day))).set r3.1.toNat (GMove.mk r4.1 r5.1 ((nth r1.1 r3.1).Day))).set r3.1.toNat (GMove.mk r4.1 r5.1 r6.1)).flatMap GMove.enc), .blk b_p_s [v_p_s_L, iV r6.2] 25] [(3, v1)] [false, false, true, true] rfl ⟨rfl, trivial⟩
      refine then_n ?_
      exact ⟨(((r1.1.set r3.1.toNat (GMove.mk r4.1 ((nth r1.1 r3.1).Club) ((nth r1.1 r3.1).Day))).set r3.1.toNat (GMove.mk r4.1 r5.1 ((nth r1.1 r3.1).Day))).set r3.1.toNat (GMove.mk r4.1 r5.1 r6.1)), r6.2, h, S.nf [true, true] rfl ⟨rfl, trivial⟩⟩
     ·refine l_buildSlice S Tryz.underlying35 Tryz.sizeOf9 Tryz.zeroValue9 rfl rfl (pv := [(0, sV ((nth r1.1 r3.1).Club)), (1, sV k_A), (2, sV k_blue), (3, sV k_empty)]) ⟨rfl, (S.tm rfl), rfl, rfl, rfl, rfl, rfl, rfl, trivial⟩ (cs := [sV ((nth r1.1 r3.1).Club), sV k_A, sV k_blue, sV k_empty]) (by kernel_rfl) rfl ?_; clear S; intro a w30 b6 hz6 hk27 S
      refine l_done (d_next (Keep.none hk27) (d_loud1 9 (by kernel_rfl) rfl ?_))
      refine l_enter1 3 S (b := b_p_s) rfl rfl (fun _ => .blk b_p_s [v_p_s_L, iV r4.2] 25) (fun _ => run_call (vs := [.pointer (some ⟨b_p_s, 0, none⟩), .slice (some ⟨b4, 0, none⟩) 3 3]) ⟨(S.tm rfl), (S.tm rfl), trivial⟩ Tryz.call31) (Stream_Some_ok _ b_p_s v_p_s_L p_s_L (hs_p_s_L.mono (S.le_arg (fp_sub (i := 3) (e := .blk b_p_s [v_p_s_L, iV r3.2] 25) rfl))) r3.2 (S.holds _ (List.mem_of_getElem? (i := 3) rfl)) (.slice (some ⟨b4, 0, none⟩) 3 3) [(nth r1.1 r3.1).Who, k_empty, k_ann] (lit_slcT enc_str S (i := 1) rfl rfl rfl rfl ((ne_fp (i := 3) (j := 1) (e := .blk b_p_s [v_p_s_L, iV r3.2] 25) (e' := .blk b4 [sV ((nth r1.1 r3.1).Who), sV k_empty, sV k_ann] 9) S rfl rfl rfl) _ rfl)) _ hr5) rfl (fun _ _ _ h => ⟨h.1, fun _ hc => by cases hc; rfl⟩) ?_; clear S; intro v10 a w31 hv10 hk28 hn10 S
      replace hv10 := hv10.2
      subst hv10
      refine l_done (d_next hk28 (d_loud1 16 (by kernel_rfl) rfl ?_))
      refine l_enter1 3 S (b := b_p_s) rfl rfl (fun _ => .blk b_p_s [v_p_s_L, iV r5.2] 25) (fun _ => run_call (vs := [.pointer (some ⟨b_p_s, 0, none⟩), .slice (some ⟨b6, 0, none⟩) 4 4]) ⟨(S.tm rfl), (S.tm rfl), trivial⟩ Tryz.call31) (Stream_Some_ok _ b_p_s v_p_s_L p_s_L (hs_p_s_L.mono (S.le_arg (fp_sub (i := 3) (e := .blk b_p_s [v_p_s_L, iV r4.2] 25) rfl))) r4.2 (S.holds _ (List.mem_of_getElem? (i := 3) rfl)) (.slice (some ⟨b6, 0, none⟩) 4 4) [(nth r1.1 r3.1).Club, k_A, k_blue, k_empty] (lit_slcT enc_str S (i := 0) rfl rfl rfl rfl ((ne_fp (i := 3) (j := 0) (e := .blk b_p_s [v_p_s_L, iV r4.2] 25) (e' := .blk b6 [sV ((nth r1.1 r3.1).Club), sV k_A, sV k_blue, sV k_empty] 9) S rfl rfl rfl) _ rfl)) _ hr6) rfl (fun _ _ _ h => ⟨h.1, fun _ hc => by cases hc; rfl⟩) ?_; clear S; intro v11 a w32 hv11 hk29 hn11 S
      replace hv11 := hv11.2
      subst hv11
      refine l_done (d_next hk29 (d_loud1 18 (by kernel_rfl) rfl ?_))
      refine l_enter1 3 S (b := b_p_s) rfl rfl (fun _ => .blk b_p_s [v_p_s_L, iV r6.2] 25) (fun _ => run_call (vs := [.pointer (some ⟨b_p_s, 0, none⟩), iV (-100), iV 400]) ⟨(S.tm rfl), rfl, rfl, trivial⟩ Tryz.call32) (Stream_Odd_ok _ b_p_s v_p_s_L p_s_L (hs_p_s_L.mono (S.le_arg (fp_sub (i := 3) (e := .blk b_p_s [v_p_s_L, iV r5.2] 25) rfl))) r5.2 (S.holds _ (List.mem_of_getElem? (i := 3) rfl)) (-100) 400 _ hr7) rfl (fun _ _ _ h => ⟨h.1, fun _ hc => by cases hc; rfl⟩) ?_; clear S; intro v12 a w33 hv12 hk30 hn12 S
      replace hv12 := hv12.2
      subst hv12
      refine l_done (d_next hk30 (d_pure 19 S hsel rfl rfl (by kernel_rfl) (by kernel_rfl) rfl (fun _ => (rn_nilCheck (S.tm rfl))) ?_)); clear S; intro a S
      refine d_pure 20 S hsel rfl rfl (by kernel_rfl) (by kernel_rfl) rfl (fun _ => (rn_fld fa_74_0 (S.tm rfl))) ?_; clear S; intro a S
      refine d_loudB 21 ([b_p_s] ++ v1.ownBlock.toList) rfl (by kernel_rfl) rfl (l_storeO (c := 0) (j := r3.1.toNat) (GMove.mk r4.1 ((nth r1.1 r3.1).Club) ((nth r1.1 r3.1).Day)) GMove.enc_ok S (S.tm rfl) (S.tm rfl) (i := 2) rfl hg1 (inB_get hc1).1 Tryz.sizeOf9 (vs := [sV r4.1]) rfl rfl rfl rfl rfl ?_); clear S; intro w35 hk32 S
      refine l_done (d_nextB (d_quiet 22 S hsel rfl rfl rfl (by kernel_rfl) (by kernel_rfl) rfl (fun _ hw => (rn_nilCheck (S.tm rfl))) ?_)); clear S; intro a S
      refine d_quiet 23 S hsel rfl rfl rfl (by kernel_rfl) (by kernel_rfl) rfl (fun _ hw => (rn_fld fa_74_1 (S.tm rfl))) ?_; clear S; intro a S
      refine d_loud1 24 (by kernel_rfl) rfl (l_storeO (c := 1) (j := r3.1.toNat) (GMove.mk r4.1 r5.1 ((nth r1.1 r3.1).Day)) GMove.enc_ok S (S.tm rfl) (S.tm rfl) (i := 2) rfl hg1 (get_set (inB_get hc1).1) Tryz.sizeOf9 (vs := [sV r5.1]) rfl rfl rfl rfl rfl ?_); clear S; intro w37 hk34 S
      refine l_done ?_
      refine d_next (hk34.sub (by intro y hy; simp at hy ⊢; simp [hy])) ?_
      refine d_quiet 25 S hsel rfl rfl rfl (by kernel_rfl) (by kernel_rfl) rfl (fun _ hw => (rn_nilCheck (S.tm rfl))) ?_; clear S; intro a S
      refine d_quiet 26 S hsel rfl rfl rfl (by kernel_rfl) (by kernel_rfl) rfl (fun _ hw => (rn_fld fa_74_2 (S.tm rfl))) ?_; clear S; intro a S
      refine d_loud1 27 (by kernel_rfl) rfl (l_storeO (c := 2) (j := r3.1.toNat) (GMove.mk r4.1 r5.1 r6.1) GMove.enc_ok S (S.tm rfl) (S.tm rfl) (i := 2) rfl hg1 (get_set (get_set (inB_get hc1).1)) Tryz.sizeOf3 (vs := [iV r6.1]) rfl rfl rfl rfl rfl ?_); clear S; intro w39 hk36 S
      refine l_done ?_
      refine d_next (hk36.sub (by intro y hy; simp at hy ⊢; simp [hy])) ?_
      refine d_end (by kernel_rfl) ?_
      clear hsel
      replace S := S.nk [.own v1 74 3 (((r1.1.set r3.1.toNat (GMove.mk r4.1 ((nth r1.1 r3.1).Club) ((nth r1.1 r3.1).Day))).set r3.1.toNat (GMove.mk r4.1 r5.1 ((nth r1.1 r3.1).Day))).set r3.1.toNat (GMove.mk r4.1 r5.1 r6.1)).length ((((r1.1.set r3.1.toNat (GMove.mk r4.1 ((nth r1.1 r3.1).Club) ((nth r1.1 r3.1).Day))).set r3.1.toNat (GMove.mk r4.1 r5.1 ((nth r1.1 r3.1).Day))).set r3.1.toNat (GMove.mk r4.1 r5.1 r6.1)).flatMap GMove.enc), .blk b_p_s [v_p_s_L, iV r6.2] 25] [(3, v1)] [false, false, true, true] rfl ⟨rfl, trivial⟩
      refine then_n ?_
      exact ⟨(((r1.1.set r3.1.toNat (GMove.mk r4.1 ((nth r1.1 r3.1).Club) ((nth r1.1 r3.1).Day))).set r3.1.toNat (GMove.mk r4.1 r5.1 ((nth r1.1 r3.1).Day))).set r3.1.toNat (GMove.mk r4.1 r5.1 r6.1)), r6.2, h, S.nf [true, true] rfl ⟨rfl, trivial⟩⟩
    ·refine l_buildSlice S Tryz.underlying35 Tryz.sizeOf9 Tryz.zeroValue9 rfl rfl (pv := [(0, sV ((nth r1.1 r3.1).Club)), (1, sV k_A), (2, sV k_blue), (3, sV k_empty)]) ⟨rfl, (S.tm rfl), rfl, rfl, rfl, rfl, rfl, rfl, trivial⟩ (cs := [sV ((nth r1.1 r3.1).Club), sV k_A, sV k_blue, sV k_empty]) (by kernel_rfl) rfl ?_; clear S; intro a w40 b7 hz7 hk37 S
     refine l_done (d_next (Keep.none hk37) (d_loud1 8 (by kernel_rfl) rfl (l_buildSlice S Tryz.underlying35 Tryz.sizeOf9 Tryz.zeroValue9 rfl rfl (pv := [(0, sV ((nth r1.1 r3.1).Who)), (1, sV k_empty), (2, sV k_ann)]) ⟨rfl, (S.tm rfl), rfl, rfl, rfl, rfl, trivial⟩ (cs := [sV ((nth r1.1 r3.1).Who), sV k_empty, sV k_ann]) (by kernel_rfl) rfl ?_))); clear S; intro a w41 b8 hz8 hk38 S
     refine l_done (d_next (Keep.none hk38) (d_loud1 9 (by kernel_rfl) rfl ?_))
     refine l_enter1 3 S (b := b_p_s) rfl rfl (fun _ => .blk b_p_s [v_p_s_L, iV r4.2] 25) (fun _ => run_call (vs := [.pointer (some ⟨b_p_s, 0, none⟩), .slice (some ⟨b8, 0, none⟩) 3 3]) ⟨(S.tm rfl), (S.tm rfl), trivial⟩ Tryz.call31) (Stream_Some_ok _ b_p_s v_p_s_L p_s_L (hs_p_s_L.mono (S.le_arg (fp_sub (i := 3) (e := .blk b_p_s [v_p_s_L, iV r3.2] 25) rfl))) r3.2 (S.holds _ (List.mem_of_getElem? (i := 3) rfl)) (.slice (some ⟨b8, 0, none⟩) 3 3) [(nth r1.1 r3.1).Who, k_empty, k_ann] (lit_slcT enc_str S (i := 0) rfl rfl rfl rfl ((ne_fp (i := 3) (j := 0) (e := .blk b_p_s [v_p_s_L, iV r3.2] 25) (e' := .blk b8 [sV ((nth r1.1 r3.1).Who), sV k_empty, sV k_ann] 9) S rfl rfl rfl) _ rfl)) _ hr5) rfl (fun _ _ _ h => ⟨h.1, fun _ hc => by cases hc; rfl⟩) ?_; clear S; intro v13 a w42 hv13 hk39 hn13 S
     replace hv13 := hv13.2
     subst hv13
     refine l_done (d_next hk39 (d_loud1 16 (by kernel_rfl) rfl ?_))
     refine l_enter1 3 S (b := b_p_s) rfl rfl (fun _ => .blk b_p_s [v_p_s_L, iV r5.2] 25) (fun _ => run_call (vs := [.pointer (some ⟨b_p_s, 0, none⟩), .slice (some ⟨b7, 0, none⟩) 4 4]) ⟨(S.tm rfl), (S.tm rfl), trivial⟩ Tryz.call31) (Stream_Some_ok _ b_p_s v_p_s_L p_s_L (hs_p_s_L.mono (S.le_arg (fp_sub (i := 3) (e := .blk b_p_s [v_p_s_L, iV r4.2] 25) rfl))) r4.2 (S.holds _ (List.mem_of_getElem? (i := 3) rfl)) (.slice (some ⟨b7, 0, none⟩) 4 4) [(nth r1.1 r3.1).Club, k_A, k_blue, k_empty] (lit_slcT enc_str S (i := 1) rfl rfl rfl rfl ((ne_fp (i := 3) (j := 1) (e := .blk b_p_s [v_p_s_L, iV r4.2] 25) (e' := .blk b7 [sV ((nth r1.1 r3.1).Club), sV k_A, sV k_blue, sV k_empty] 9) S rfl rfl rfl) _ rfl)) _ hr6) rfl (fun _ _ _ h => ⟨h.1, fun _ hc => by cases hc; rfl⟩) ?_; clear S; intro v14 a w43 hv14 hk40 hn14 S
     replace hv14 := hv14.2
     subst hv14
     refine l_done (d_next hk40 (d_loud1 18 (by kernel_rfl) rfl ?_))
     refine l_enter1 3 S (b := b_p_s) rfl rfl (fun _ => .blk b_p_s [v_p_s_L, iV r6.2] 25) (fun _ => run_call (vs := [.pointer (some ⟨b_p_s, 0, none⟩), iV (-100), iV 400]) ⟨(S.tm rfl), rfl, rfl, trivial⟩ Tryz.call32) (Stream_Odd_ok _ b_p_s v_p_s_L p_s_L (hs_p_s_L.mono (S.le_arg (fp_sub (i := 3) (e := .blk b_p_s [v_p_s_L, iV r5.2] 25) rfl))) r5.2 (S.holds _ (List.mem_of_getElem? (i := 3) rfl)) (-100) 400 _ hr7) rfl (fun _ _ _ h => ⟨h.1, fun _ hc => by cases hc; rfl⟩) ?_; clear S; intro v15 a w44 hv15 hk41 hn15 S
     replace hv15 := hv15.2
     subst hv15
     refine l_done (d_next hk41 (d_pure 19 S hsel rfl rfl (by kernel_rfl) (by kernel_rfl) rfl (fun _ => (rn_nilCheck (S.tm rfl))) ?_)); clear S; intro a S
     refine d_pure 20 S hsel rfl rfl (by kernel_rfl) (by kernel_rfl) rfl (fun _ => (rn_fld fa_74_0 (S.tm rfl))) ?_; clear S; intro a S
     refine d_loudB 21 ([b_p_s] ++ v1.ownBlock.toList) rfl (by kernel_rfl) rfl (l_storeO (c := 0) (j := r3.1.toNat) (GMove.mk r4.1 ((nth r1.1 r3.1).Club) ((nth r1.1 r3.1).Day)) GMove.enc_ok S (S.tm rfl) (S.tm rfl) (i := 2) rfl hg1 (inB_get hc1).1 Tryz.sizeOf9 (vs := [sV r4.1]) rfl rfl rfl rfl rfl ?_); clear S; intro w46 hk43 S
     refine l_done (d_nextB (d_quiet 22 S hsel rfl rfl rfl (by kernel_rfl) (by kernel_rfl) rfl (fun _ hw => (rn_nilCheck (S.tm rfl))) ?_)); clear S; intro a S
     refine d_quiet 23 S hsel rfl rfl rfl (by kernel_rfl) (by kernel_rfl) rfl (fun _ hw => (rn_fld fa_74_1 (S.tm rfl))) ?_; clear S; intro a S
     refine d_loud1 24 (by kernel_rfl) rfl (l_storeO (c := 1) (j := r3.1.toNat) (GMove.mk r4.1 r5.1 ((nth r1.1 r3.1).Day)) GMove.enc_ok S (S.tm rfl) (S.tm rfl) (i := 2) rfl hg1 (get_set (inB_get hc1).1) Tryz.sizeOf9 (vs := [sV r5.1]) rfl rfl rfl rfl rfl ?_); clear S; intro w48 hk45 S
     refine l_done ?_
     refine d_next (hk45.sub (by intro y hy; simp at hy ⊢; simp [hy])) ?_
     refine d_quiet 25 S hsel rfl rfl rfl (by kernel_rfl) (by kernel_rfl) rfl (fun _ hw => (rn_nilCheck (S.tm rfl))) ?_; clear S; intro a S
     refine d_quiet 26 S hsel rfl rfl rfl (by kernel_rfl) (by kernel_rfl) rfl (fun _ hw => (rn_fld fa_74_2 (S.tm rfl))) ?_; clear S; intro a S
     refine d_loud1 27 (by kernel_rfl) rfl (l_storeO (c := 2) (j := r3.1.toNat) (GMove.mk r4.1 r5.1 r6.1) GMove.enc_ok S (S.tm rfl) (S.tm rfl) (i := 2) rfl hg1 (get_set (get_set (inB_get hc1).1)) Tryz.sizeOf3 (vs := [iV r6.1]) rfl rfl rfl rfl rfl ?_); clear S; intro w50 hk47 S
     refine l_done ?_
     refine d_next (hk47.sub (by intro y hy; simp at hy ⊢; simp [hy])) ?_
     refine d_end (by kernel_rfl) ?_
     clear hsel
     replace S := S.nk [.own v1 74 3 (((r1.1.set r3.1.toNat (GMove.mk r4.1 ((nth r1.1 r3.1).Club) ((nth r1.1 r3.1).Day))).set r3.1.toNat (GMove.mk r4.1 r5.1 ((nth r1.1 r3.1).Day))).set r3.1.toNat (GMove.mk r4.1 r5.1 r6.1)).length ((((r1.1.set r3.1.toNat (GMove.mk r4.1 ((nth r1.1 r3.1).Club) ((nth r1.1 r3.1).Day))).set r3.1.toNat (GMove.mk r4.1 r5.1 ((nth r1.1 r3.1).Day))).set r3.1.toNat (GMove.mk r4.1 r5.1 r6.1)).flatMap GMove.enc), .blk b_p_s [v_p_s_L, iV r6.2] 25] [(3, v1)] [false, false, true, true] rfl ⟨rfl, trivial⟩
     refine then_n ?_
     exact ⟨(((r1.1.set r3.1.toNat (GMove.mk r4.1 ((nth r1.1 r3.1).Club) ((nth r1.1 r3.1).Day))).set r3.1.toNat (GMove.mk r4.1 r5.1 ((nth r1.1 r3.1).Day))).set r3.1.toNat (GMove.mk r4.1 r5.1 r6.1)), r6.2, h, S.nf [true, true] rfl ⟨rfl, trivial⟩⟩
   clear S h; rintro a w6 ⟨x5, x6, h, S⟩; rw [hj3] at h; clear hj3 j3
   refine then_n ?_
   exact ⟨x5, x6, h, S.nf [true, true] rfl ⟨rfl, trivial⟩⟩
  ·replace h := iteF h hb2
   refine wp_skip (then_n ?_)
   exact ⟨r1.1, x1, h, S.nf [true, true] rfl ⟨rfl, trivial⟩⟩
 clear S h; rintro a w4 ⟨x3, x4, h, S⟩; rw [hj2] at h; clear hj2 j2
 refine then_n (f_seq (f_region (lv S (rn_move (S.tm rfl)) rfl ?_))); clear S; intro a S
 refine lv S (rn_assign (S.tm rfl)) rfl ?_; clear S; intro a S
 refine l_done (then_n (wp_ret ?_))
 obtain rfl := Option.some.inj h
 exact f_ret S Tryz.results6 rfl ⟨(S.holds _ (List.mem_of_getElem? (i := 1) rfl)), (own_retX S (i := 0) rfl (fun c hc hh => not_fps S (i := 1) rfl rfl (j := 0) rfl rfl (by simp at hc; subst hc; exact hh)))⟩
theorem Stream_Bounds_ok (w : World) (b_p_s : Nat) (v_p_s_L : Value) (p_s_L : List Int) (hs_p_s_L : Slc (view w [b_p_s]) 1 v_p_s_L (p_s_L.map eInt)) (p_s_at : Int) (hb_b_p_s : (LEnt.blk b_p_s [v_p_s_L, iV p_s_at] 25).holds w) (r : GBounds × Int) (h : Stream_Bounds p_s_L p_s_at = some r) :
    Calls Tryz.prog 7 [.pointer (some ⟨b_p_s, 0, none⟩)].toArray w (Ret w [b_p_s] fun _ v w' => (LEnt.blk b_p_s [v_p_s_L, iV r.2] 25).holds w' ∧ v = .agg (GBounds.enc r.1).toArray) := by
 refine f_enter [b_p_s] [.blk b_p_s [v_p_s_L, iV p_s_at] 25] Tryz.func7 rfl Tryz.ntmps7 rfl (fun e he => by simp only [List.mem_singleton] at he; subst he; exact hb_b_p_s) (by simp [fps, LEnt.fp]) (by simp [fps, LEnt.fp]) fun a S => ?_
 unfold Stream_Bounds at h
 replace S := S.nk [.blk b_p_s [v_p_s_L, iV p_s_at] 25] [(0, .pointer (some ⟨b_p_s, 0, none⟩))] [true] rfl ⟨rfl, trivial⟩
 refine f_seq (f_region (l_alloc S Tryz.zeroValue33 (cs := [iV 0, iV 0, iV 0, iV 0]) rfl rfl ?_)); clear S; intro a w1 b1 hz1 hk1 S
 refine l_done (then_n (f_seq (f_region (lv S (rn_move (S.tm rfl)) rfl ?_)))); clear S; intro a S
 refine l_buildSlice S Tryz.underlying22 Tryz.sizeOf3 Tryz.zeroValue3 rfl rfl (pv := [(0, iV 0), (1, iV 1), (2, iV 2), (3, iV 5)]) ⟨rfl, rfl, rfl, rfl, rfl, rfl, rfl, rfl, trivial⟩ (cs := [iV 0, iV 1, iV 2, iV 5]) (by kernel_rfl) rfl ?_; clear S; intro a w2 b2 hz2 hk2 S
 obtain ⟨r1, hr1, h⟩ := bindE h
 refine l_enter1 2 S (b := b_p_s) rfl rfl (fun _ => .blk b_p_s [v_p_s_L, iV r1.2] 25) (fun _ => run_call (vs := [.pointer (some ⟨b_p_s, 0, none⟩), .slice (some ⟨b2, 0, none⟩) 4 4]) ⟨(S.tm rfl), (S.tm rfl), trivial⟩ Tryz.call11) (Stream_Pick_ok _ b_p_s v_p_s_L p_s_L (hs_p_s_L.mono (S.le_arg (fp_sub (i := 2) (e := .blk b_p_s [v_p_s_L, iV p_s_at] 25) rfl))) p_s_at (S.holds _ (List.mem_of_getElem? (i := 2) rfl)) (.slice (some ⟨b2, 0, none⟩) 4 4) [0, 1, 2, 5] (lit_slcT enc_int S (i := 0) rfl rfl rfl rfl ((ne_fp (i := 2) (j := 0) (e := .blk b_p_s [v_p_s_L, iV p_s_at] 25) (e' := .blk b2 [iV 0, iV 1, iV 2, iV 5] 3) S rfl rfl rfl) _ rfl)) _ hr1) rfl (fun _ _ _ h => ⟨h.1, fun _ hc => by cases hc; rfl⟩) ?_; clear S; intro v1 a w3 hv1 hk3 hn1 S
 replace hv1 := hv1.2
 subst hv1
 refine lv S (rn_move (S.tm rfl)) rfl ?_; clear S; intro a S
 refine l_buildSlice S Tryz.underlying22 Tryz.sizeOf3 Tryz.zeroValue3 rfl rfl (pv := [(0, iV 0), (1, iV 1), (2, iV 2), (3, iV 9)]) ⟨rfl, rfl, rfl, rfl, rfl, rfl, rfl, rfl, trivial⟩ (cs := [iV 0, iV 1, iV 2, iV 9]) (by kernel_rfl) rfl ?_; clear S; intro a w4 b3 hz3 hk4 S
 obtain ⟨r2, hr2, h⟩ := bindE h
 refine l_enter1 3 S (b := b_p_s) rfl rfl (fun _ => .blk b_p_s [v_p_s_L, iV r2.2] 25) (fun _ => run_call (vs := [.pointer (some ⟨b_p_s, 0, none⟩), .slice (some ⟨b3, 0, none⟩) 4 4]) ⟨(S.tm rfl), (S.tm rfl), trivial⟩ Tryz.call11) (Stream_Pick_ok _ b_p_s v_p_s_L p_s_L (hs_p_s_L.mono (S.le_arg (fp_sub (i := 3) (e := .blk b_p_s [v_p_s_L, iV r1.2] 25) rfl))) r1.2 (S.holds _ (List.mem_of_getElem? (i := 3) rfl)) (.slice (some ⟨b3, 0, none⟩) 4 4) [0, 1, 2, 9] (lit_slcT enc_int S (i := 0) rfl rfl rfl rfl ((ne_fp (i := 3) (j := 0) (e := .blk b_p_s [v_p_s_L, iV r1.2] 25) (e' := .blk b3 [iV 0, iV 1, iV 2, iV 9] 3) S rfl rfl rfl) _ rfl)) _ hr2) rfl (fun _ _ _ h => ⟨h.1, fun _ hc => by cases hc; rfl⟩) ?_; clear S; intro v2 a w5 hv2 hk5 hn2 S
 replace hv2 := hv2.2
 subst hv2
 refine lv S (rn_move (S.tm rfl)) rfl ?_; clear S; intro a S
 refine l_buildSlice S Tryz.underlying22 Tryz.sizeOf3 Tryz.zeroValue3 rfl rfl (pv := [(0, iV 1), (1, iV 2)]) ⟨rfl, rfl, rfl, rfl, trivial⟩ (cs := [iV 1, iV 2]) (by kernel_rfl) rfl ?_; clear S; intro a w6 b4 hz4 hk6 S
 obtain ⟨r3, hr3, h⟩ := bindE h
 refine l_enter1 4 S (b := b_p_s) rfl rfl (fun _ => .blk b_p_s [v_p_s_L, iV r3.2] 25) (fun _ => run_call (vs := [.pointer (some ⟨b_p_s, 0, none⟩), .slice (some ⟨b4, 0, none⟩) 2 2]) ⟨(S.tm rfl), (S.tm rfl), trivial⟩ Tryz.call11) (Stream_Pick_ok _ b_p_s v_p_s_L p_s_L (hs_p_s_L.mono (S.le_arg (fp_sub (i := 4) (e := .blk b_p_s [v_p_s_L, iV r2.2] 25) rfl))) r2.2 (S.holds _ (List.mem_of_getElem? (i := 4) rfl)) (.slice (some ⟨b4, 0, none⟩) 2 2) [1, 2] (lit_slcT enc_int S (i := 0) rfl rfl rfl rfl ((ne_fp (i := 4) (j := 0) (e := .blk b_p_s [v_p_s_L, iV r2.2] 25) (e' := .blk b4 [iV 1, iV 2] 3) S rfl rfl rfl) _ rfl)) _ hr3) rfl (fun _ _ _ h => ⟨h.1, fun _ hc => by cases hc; rfl⟩) ?_; clear S; intro v3 a w7 hv3 hk7 hn3 S
 replace hv3 := hv3.2
 subst hv3
 refine lv S (rn_move (S.tm rfl)) rfl ?_; clear S; intro a S
 refine l_buildSlice S Tryz.underlying22 Tryz.sizeOf3 Tryz.zeroValue3 rfl rfl (pv := [(0, iV 60), (1, iV 425), (2, iV 1000), (3, iV 1600), (4, iV 4000)]) ⟨rfl, rfl, rfl, rfl, rfl, rfl, rfl, rfl, rfl, rfl, trivial⟩ (cs := [iV 60, iV 425, iV 1000, iV 1600, iV 4000]) (by kernel_rfl) rfl ?_; clear S; intro a w8 b5 hz5 hk8 S
 obtain ⟨r4, hr4, h⟩ := bindE h
 refine l_enter1 5 S (b := b_p_s) rfl rfl (fun _ => .blk b_p_s [v_p_s_L, iV r4.2] 25) (fun _ => run_call (vs := [.pointer (some ⟨b_p_s, 0, none⟩), .slice (some ⟨b5, 0, none⟩) 5 5]) ⟨(S.tm rfl), (S.tm rfl), trivial⟩ Tryz.call11) (Stream_Pick_ok _ b_p_s v_p_s_L p_s_L (hs_p_s_L.mono (S.le_arg (fp_sub (i := 5) (e := .blk b_p_s [v_p_s_L, iV r3.2] 25) rfl))) r3.2 (S.holds _ (List.mem_of_getElem? (i := 5) rfl)) (.slice (some ⟨b5, 0, none⟩) 5 5) [60, 425, 1000, 1600, 4000] (lit_slcT enc_int S (i := 0) rfl rfl rfl rfl ((ne_fp (i := 5) (j := 0) (e := .blk b_p_s [v_p_s_L, iV r3.2] 25) (e' := .blk b5 [iV 60, iV 425, iV 1000, iV 1600, iV 4000] 3) S rfl rfl rfl) _ rfl)) _ hr4) rfl (fun _ _ _ h => ⟨h.1, fun _ hc => by cases hc; rfl⟩) ?_; clear S; intro v4 a w9 hv4 hk9 hn4 S
 replace hv4 := hv4.2
 subst hv4
 refine lv S (rn_bld bt_33 (pv := [(0, iV r1.1), (1, iV r2.1), (2, iV r3.1), (3, iV r4.1)]) ⟨rfl, (S.tm rfl), rfl, (S.tm rfl), rfl, (S.tm rfl), rfl, (S.tm rfl), trivial⟩ (cs := [iV r1.1, iV r2.1, iV r3.1, iV r4.1]) (by kernel_rfl)) rfl ?_; clear S; intro a S
 refine l_alloc S Tryz.zeroValue33 (cs := [iV 0, iV 0, iV 0, iV 0]) rfl rfl ?_; clear S; intro a w10 b6 hz6 hk10 S
 refine l_store S (S.tm rfl) (S.tm rfl) (i := 0) (off := 0) rfl Tryz.sizeOf33 (vs := [iV r1.1, iV r2.1, iV r3.1, iV r4.1]) rfl rfl rfl rfl ?_; clear S; intro w11 hk11 S
 refine l_done ?_
 replace S := S.nk [.blk b6 [iV r1.1, iV r2.1, iV r3.1, iV r4.1] 33, .blk b1 [iV 0, iV 0, iV 0, iV 0] 33, .blk b_p_s [v_p_s_L, iV r4.2] 25] [(0, .pointer (some ⟨b_p_s, 0, none⟩)), (2, .pointer (some ⟨b1, 0, none⟩)), (3, .pointer (some ⟨b6, 0, none⟩))] [true, false, false, false, false, true, true] rfl (subR rfl)
 refine then_n (f_seq (f_seq (f_region (lv S (rn_move (S.tm rfl)) rfl ?_)))); clear S; intro a S
 obtain ⟨r5, hr5, h⟩ := bindE h
 refine l_enter1 2 S (b := b_p_s) rfl rfl (fun _ => .blk b_p_s [v_p_s_L, iV r5.2] 25) (fun _ => run_call (vs := [.pointer (some ⟨b_p_s, 0, none⟩), iV 15]) ⟨(S.tm rfl), rfl, trivial⟩ Tryz.call9) (Stream_Flip_ok _ b_p_s v_p_s_L p_s_L (hs_p_s_L.mono (S.le_arg (fp_sub (i := 2) (e := .blk b_p_s [v_p_s_L, iV r4.2] 25) rfl))) r4.2 (S.holds _ (List.mem_of_getElem? (i := 2) rfl)) 15 _ hr5) rfl (fun _ _ _ h => ⟨h.1, fun _ hc => by cases hc; rfl⟩) ?_; clear S; intro v5 a w12 hv5 hk12 hn5 S
 replace hv5 := hv5.2
 subst hv5
 refine l_done (then_n ?_)
 obtain ⟨j1, hj1, h⟩ := joinE h
 refine f_join (fun a w' => ∃ x1 : Int, ∃ x2 : Int, ∃ x3 : Int, ∃ x4 : Int, ∃ x5 : Int, j1 x1 x2 x3 x4 x5 = some r ∧ Sx w [b_p_s] nov [.blk b6 [iV x1, iV x2, iV x3, iV x4] 33, .blk b1 [iV 0, iV 0, iV 0, iV 0] 33, .blk b_p_s [v_p_s_L, iV x5] 25] [(2, .pointer (some ⟨b1, 0, none⟩)), (3, .pointer (some ⟨b6, 0, none⟩))] 29 a w') ?_ ?_
 ·refine f_cond (S.tm rfl) (fun hb1 => ?_) (fun hb1 => ?_)
  ·replace h := iteT h hb1
   refine f_region (lv S (rn_move (S.tm rfl)) rfl ?_); clear S; intro a S
   obtain ⟨r6, hr6, h⟩ := bindE h
   refine l_enter1 2 S (b := b_p_s) rfl rfl (fun _ => .blk b_p_s [v_p_s_L, iV r6.2] 25) (fun _ => run_call (vs := [.pointer (some ⟨b_p_s, 0, none⟩), iV 0, iV 100]) ⟨(S.tm rfl), rfl, rfl, trivial⟩ Tryz.call32) (Stream_Odd_ok _ b_p_s v_p_s_L p_s_L (hs_p_s_L.mono (S.le_arg (fp_sub (i := 2) (e := .blk b_p_s [v_p_s_L, iV r5.2] 25) rfl))) r5.2 (S.holds _ (List.mem_of_getElem? (i := 2) rfl)) 0 100 _ hr6) rfl (fun _ _ _ h => ⟨h.1, fun _ hc => by cases hc; rfl⟩) ?_; clear S; intro v6 a w14 hv6 hk13 hn6 S
   replace hv6 := hv6.2
   subst hv6
   refine lv S (rn_move (S.tm rfl)) rfl ?_; clear S; intro a S
   obtain ⟨r7, hr7, h⟩ := bindE h
   refine l_enter1 2 S (b := b_p_s) rfl rfl (fun _ => .blk b_p_s [v_p_s_L, iV r7.2] 25) (fun _ => run_call (vs := [.pointer (some ⟨b_p_s, 0, none⟩), iV 0, iV 1500]) ⟨(S.tm rfl), rfl, rfl, trivial⟩ Tryz.call32) (Stream_Odd_ok _ b_p_s v_p_s_L p_s_L (hs_p_s_L.mono (S.le_arg (fp_sub (i := 2) (e := .blk b_p_s [v_p_s_L, iV r6.2] 25) rfl))) r6.2 (S.holds _ (List.mem_of_getElem? (i := 2) rfl)) 0 1500 _ hr7) rfl (fun _ _ _ h => ⟨h.1, fun _ hc => by cases hc; rfl⟩) ?_; clear S; intro v7 a w15 hv7 hk14 hn7 S
   replace hv7 := hv7.2
   subst hv7
   refine lv S (rn_move (S.tm rfl)) rfl ?_; clear S; intro a S
   obtain ⟨r8, hr8, h⟩ := bindE h
   refine l_enter1 2 S (b := b_p_s) rfl rfl (fun _ => .blk b_p_s [v_p_s_L, iV r8.2] 25) (fun _ => run_call (vs := [.pointer (some ⟨b_p_s, 0, none⟩), iV 1, iV 2]) ⟨(S.tm rfl), rfl, rfl, trivial⟩ Tryz.call32) (Stream_Odd_ok _ b_p_s v_p_s_L p_s_L (hs_p_s_L.mono (S.le_arg (fp_sub (i := 2) (e := .blk b_p_s [v_p_s_L, iV r7.2] 25) rfl))) r7.2 (S.holds _ (List.mem_of_getElem? (i := 2) rfl)) 1 2 _ hr8) rfl (fun _ _ _ h => ⟨h.1, fun _ hc => by cases hc; rfl⟩) ?_; clear S; intro v8 a w16 hv8 hk15 hn8 S
   replace hv8 := hv8.2
   subst hv8
   refine lv S (rn_move (S.tm rfl)) rfl ?_; clear S; intro a S
   obtain ⟨r9, hr9, h⟩ := bindE h
   refine l_enter1 2 S (b := b_p_s) rfl rfl (fun _ => .blk b_p_s [v_p_s_L, iV r9.2] 25) (fun _ => run_call (vs := [.pointer (some ⟨b_p_s, 0, none⟩), iV (-40000), iV 4000]) ⟨(S.tm rfl), rfl, rfl, trivial⟩ Tryz.call32) (Stream_Odd_ok _ b_p_s v_p_s_L p_s_L (hs_p_s_L.mono (S.le_arg (fp_sub (i := 2) (e := .blk b_p_s [v_p_s_L, iV r8.2] 25) rfl))) r8.2 (S.holds _ (List.mem_of_getElem? (i := 2) rfl)) (-40000) 4000 _ hr9) rfl (fun _ _ _ h => ⟨h.1, fun _ hc => by cases hc; rfl⟩) ?_; clear S; intro v9 a w17 hv9 hk16 hn9 S
   replace hv9 := hv9.2
   subst hv9
   refine lv S (rn_bld bt_33 (pv := [(0, iV r6.1), (1, iV r7.1), (2, iV r8.1), (3, iV r9.1)]) ⟨rfl, (S.tm rfl), rfl, (S.tm rfl), rfl, (S.tm rfl), rfl, (S.tm rfl), trivial⟩ (cs := [iV r6.1, iV r7.1, iV r8.1, iV r9.1]) (by kernel_rfl)) rfl ?_; clear S; intro a S
   refine l_store S (S.tm rfl) (S.tm rfl) (i := 0) (off := 0) rfl Tryz.sizeOf33 (vs := [iV r6.1, iV r7.1, iV r8.1, iV r9.1]) rfl rfl rfl rfl ?_; clear S; intro w18 hk17 S
   refine l_done (then_n ?_)
   exact ⟨r6.1, r7.1, r8.1, r9.1, r9.2, h, S.nf [true, true, true] rfl (subR rfl)⟩
  ·replace h := iteF h hb1
   refine wp_skip (then_n ?_)
   exact ⟨r1.1, r2.1, r3.1, r4.1, r5.2, h, S.nf [true, true, true] rfl (subR rfl)⟩
 clear S h; rintro a w13 ⟨x1, x2, x3, x4, x5, h, S⟩; rw [hj1] at h; clear hj1 j1
 refine then_n (f_seq (f_region (lv S (rn_ldA Tryz.isAgg33 Tryz.sizeOf33 (off := 0) (o := 0) (part := [iV x1, iV x2, iV x3, iV x4]) rfl rfl (S.tm rfl) (S.cellsAt (i := 0) rfl)) rfl ?_))); clear S; intro a S
 refine l_store S (S.tm rfl) (S.tm rfl) (i := 1) (off := 0) rfl Tryz.sizeOf33 (vs := [iV x1, iV x2, iV x3, iV x4]) rfl rfl rfl rfl ?_; clear S; intro w19 hk18 S
 refine l_done (then_n (wp_ret ?_))
 obtain rfl := Option.some.inj h
 exact f_retG S (rs := [.cell 2 33]) (vs := [.agg #[iV x1, iV x2, iV x3, iV x4]]) Tryz.results7 ⟨(res_cell (off := 0) S rfl Tryz.isAgg33 Tryz.sizeOf33 rfl (S.cellsAt (i := 1) rfl)), trivial⟩ rfl ⟨(S.holds _ (List.mem_of_getElem? (i := 2) rfl)), rfl⟩
theorem Stream_Order_ok (w : World) (b_p_s : Nat) (v_p_s_L : Value) (p_s_L : List Int) (hs_p_s_L : Slc (view w [b_p_s]) 1 v_p_s_L (p_s_L.map eInt)) (p_s_at : Int) (hb_b_p_s : (LEnt.blk b_p_s [v_p_s_L, iV p_s_at] 25).holds w) (p_n : Int) (r : (List Int) × Int) (h : Stream_Order p_s_L p_s_at p_n = some r) :
    Calls Tryz.prog 35 [.pointer (some ⟨b_p_s, 0, none⟩), iV p_n].toArray w (Ret w [b_p_s] fun τ v w' => (LEnt.blk b_p_s [v_p_s_L, iV r.2] 25).holds w' ∧ OwnV τ 3 1 v r.1.length (r.1.flatMap eInt)) := by
 refine f_enter [b_p_s] [.blk b_p_s [v_p_s_L, iV p_s_at] 25] Tryz.func35 rfl Tryz.ntmps35 rfl (fun e he => by simp only [List.mem_singleton] at he; subst he; exact hb_b_p_s) (by simp [fps, LEnt.fp]) (by simp [fps, LEnt.fp]) fun a S => ?_
 unfold Stream_Order at h
 replace S := S.nk [.blk b_p_s [v_p_s_L, iV p_s_at] 25] [(0, .pointer (some ⟨b_p_s, 0, none⟩)), (1, iV p_n)] [true] rfl (subR rfl)
 refine f_seq (f_region (lv S (rn_assign rfl) rfl ?_)); clear S; intro a S
 refine l_done (then_n (f_seq (f_region (lv S (rn_assign rfl) rfl ?_)))); clear S; intro a S
 replace S := S.nil 3 1
 refine l_done (then_n (f_seq (f_seq (f_region (lv S (rn_move (S.tm rfl)) rfl ?_))))); clear S; intro a S
 refine lv S (rn_move rfl) rfl ?_; clear S; intro a S
 refine l_done (then_n ?_)
 replace S := S.nk [.own (.slice none 0 0) 3 1 ([] : List Int).length (([] : List Int).flatMap eInt), .blk b_p_s [v_p_s_L, iV p_s_at] 25] [(0, .pointer (some ⟨b_p_s, 0, none⟩)), (1, iV p_n), (5, (.slice none 0 0)), (9, iV p_n), (10, iV 0)] [true, true] rfl (subR rfl)
 obtain ⟨j1, hj1, h⟩ := joinE h
 refine f_join (fun a w' => ∃ x1 : List Int, ∃ v1 : Value, j1 x1 = some r ∧ Sx w [b_p_s] nov [.own v1 3 1 x1.length (x1.flatMap eInt), .blk b_p_s [v_p_s_L, iV p_s_at] 25] [(0, .pointer (some ⟨b_p_s, 0, none⟩)), (1, iV p_n), (5, v1)] 43 a w') ?_ ?_
 ·refine wp_block (f_loop (fun (m1 : Nat) a w' => ∃ x1 : List Int, ∃ x2 : Int, ∃ v1 : Value, Stream_Order_l1 p_n j1 m1 x1 x2 = some r ∧ Sx w [b_p_s] nov [.own v1 3 1 x1.length (x1.flatMap eInt), .blk b_p_s [v_p_s_L, iV p_s_at] 25] [(0, .pointer (some ⟨b_p_s, 0, none⟩)), (1, iV p_n), (5, v1), (9, iV p_n), (10, iV x2)] 43 a w') id ((p_n - 0).toNat + 2) ⟨([] : List Int), 0, (.slice none 0 0), h, S.nf [true, true] rfl (subR rfl)⟩ ?_)
  clear S h; rintro m1 a w1 ⟨x1, x2, v1, h, S⟩
  cases m1 with
  | zero => rw [Stream_Order_l1.eq_1] at h; cases h
  | succ m1 =>
   rw [Stream_Order_l1.eq_2] at h
   refine f_seq (f_region (lv S (rn_lss (S.tm rfl) (S.tm rfl)) rfl ?_)); clear S; intro a S
   refine l_done (then_n (f_seq (f_cond (S.tm rfl) (fun hb1 => ?_) (fun hb1 => ?_))))
   ·replace h := iteT h hb1
    refine wp_skip (then_n (f_seq (wp_block (f_seq (f_region (lv S (rn_move (S.tm rfl)) rfl ?_)))))); clear S; intro a S
    refine lv S (rn_assign (S.tm rfl)) rfl ?_; clear S; intro a S
    refine l_done (then_n (f_region (lv S (rn_move (S.tm rfl)) rfl ?_))); clear S; intro a S
    refine lv S (rn_move (S.tm rfl)) rfl ?_; clear S; intro a S
    refine l_buildSlice S Tryz.underlying22 Tryz.sizeOf3 Tryz.zeroValue3 rfl rfl (pv := [(0, iV x2)]) ⟨rfl, (S.tm rfl), trivial⟩ (cs := [iV x2]) (by kernel_rfl) rfl ?_; clear S; intro a w3 b1 hz1 hk1 S
    obtain ⟨hc1, h⟩ := chkE h
    refine l_appendT sl_22 enc_int S (S.tm rfl) (i := 1) rfl (S.tm rfl) (j := 0) rfl (ys := [x2]) rfl rfl rfl rfl (by have := room_lt hc1; omega) rfl ?_; clear S; intro v2 a w4 hk2 S
    refine lv S (rn_assign (S.tm rfl)) rfl ?_; clear S; intro a S
    refine l_done (blk_n (then_n (f_region (lv S (rn_add (S.tm rfl) rfl) rfl ?_)))); clear S; intro a S
    refine lv S (rn_move (S.tm rfl)) rfl ?_; clear S; intro a S
    refine l_done (then_n ?_)
    exact ⟨m1, ⟨(x1 ++ [x2]), W (x2 + 1), v2, h, S.nf [false, true, true] rfl ⟨rfl, rfl, rfl, rfl, rfl, trivial⟩⟩, Nat.lt_succ_self _⟩
   ·replace h := iteF h hb1
    refine wp_exit (then_x (then_x (x_same (then_n ?_))))
    exact ⟨x1, v1, h, S.nf [true, true] rfl (subR rfl)⟩
 clear S h; rintro a w2 ⟨x1, v1, h, S⟩; rw [hj1] at h; clear hj1 j1
 refine then_n (f_seq (f_seq (f_region (lv S (rn_move (S.tm rfl)) rfl ?_)))); clear S; intro a S
 refine lv S (rn_sub (S.tm rfl) rfl) rfl ?_; clear S; intro a S
 refine lv S (rn_assign (S.tm rfl)) rfl ?_; clear S; intro a S
 refine l_done (then_n ?_)
 replace S := S.nk [.own v1 3 1 x1.length (x1.flatMap eInt), .blk b_p_s [v_p_s_L, iV p_s_at] 25] [(0, .pointer (some ⟨b_p_s, 0, none⟩)), (5, v1), (7, iV (W (p_n - 1)))] [true, true] rfl (subR rfl)
 obtain ⟨j2, hj2, h⟩ := joinE h
 refine f_join (fun a w' => ∃ x3 : List Int, ∃ x4 : Int, ∃ v3 : Value, j2 x3 x4 = some r ∧ Sx w [b_p_s] nov [.own v3 3 1 x3.length (x3.flatMap eInt), .blk b_p_s [v_p_s_L, iV x4] 25] [(5, v3)] 43 a w') ?_ ?_
 ·refine wp_block (f_loop (fun (m2 : Nat) a w' => ∃ x3 : List Int, ∃ x4 : Int, ∃ x5 : Int, ∃ v3 : Value, Stream_Order_l2 p_s_L j2 m2 x3 x4 x5 = some r ∧ Sx w [b_p_s] nov [.own v3 3 1 x3.length (x3.flatMap eInt), .blk b_p_s [v_p_s_L, iV x4] 25] [(0, .pointer (some ⟨b_p_s, 0, none⟩)), (5, v3), (7, iV x5)] 43 a w') id (((W (p_n - 1)) - 0).toNat + 2) ⟨x1, p_s_at, W (p_n - 1), v1, h, S.nf [true, true] rfl (subR rfl)⟩ ?_)
  clear S h; rintro m2 a w5 ⟨x3, x4, x5, v3, h, S⟩
  cases m2 with
  | zero => rw [Stream_Order_l2.eq_1] at h; cases h
  | succ m2 =>
   rw [Stream_Order_l2.eq_2] at h
   refine f_seq (f_seq (f_region (lv S (rn_move (S.tm rfl)) rfl ?_))); clear S; intro a S
   refine lv S (rn_gtr (S.tm rfl) rfl) rfl ?_; clear S; intro a S
   refine l_done (then_n (f_cond (S.tm rfl) (fun hb2 => ?_) (fun hb2 => ?_)))
   ·replace h := iteT h hb2
    refine wp_skip (then_n (f_seq (wp_block (f_seq (f_region (lv S (rn_move (S.tm rfl)) rfl ?_)))))); clear S; intro a S
    refine lv S (rn_move (S.tm rfl)) rfl ?_; clear S; intro a S
    refine lv S (rn_add (S.tm rfl) rfl) rfl ?_; clear S; intro a S
    obtain ⟨r1, hr1, h⟩ := bindE h
    refine l_enter1 1 S (b := b_p_s) rfl rfl (fun _ => .blk b_p_s [v_p_s_L, iV r1.2] 25) (fun _ => run_call (vs := [.pointer (some ⟨b_p_s, 0, none⟩), iV (W (x5 + 1))]) ⟨(S.tm rfl), (S.tm rfl), trivial⟩ Tryz.call30) (Stream_Next_ok _ b_p_s v_p_s_L p_s_L (hs_p_s_L.mono (S.le_arg (fp_sub (i := 1) (e := .blk b_p_s [v_p_s_L, iV x4] 25) rfl))) x4 (S.holds _ (List.mem_of_getElem? (i := 1) rfl)) (W (x5 + 1)) _ hr1) rfl (fun _ _ _ h => ⟨h.1, fun _ hc => by cases hc; rfl⟩) ?_; clear S; intro v4 a w7 hv1 hk3 hn1 S
    replace hv1 := hv1.2
    subst hv1
    refine lv S (rn_assign (S.tm rfl)) rfl ?_; clear S; intro a S
    refine l_done (then_n ?_)
    obtain ⟨hc2, h⟩ := chkE h
    obtain ⟨hc3, h⟩ := chkE h
    obtain ⟨hc4, h⟩ := chkE h
    obtain ⟨hc5, h⟩ := chkE h
    refine d_region [13, 15] ([]) Tryz.mixed S rfl (by kernel_rfl) ?_; clear S; intro w12 hk8 hsel S
    refine d_pure 0 S hsel rfl rfl (by kernel_rfl) (by kernel_rfl) rfl (fun _ => (rn_move (S.tm rfl))) ?_; clear S; intro a S
    refine d_pure 1 S hsel rfl rfl (by kernel_rfl) (by kernel_rfl) rfl (fun _ => (rn_move (S.tm rfl))) ?_; clear S; intro a S
    refine d_pure 2 S hsel rfl rfl (by kernel_rfl) (by kernel_rfl) rfl (fun _ => (rn_move (S.tm rfl))) ?_; clear S; intro a S
    refine d_pure 3 S hsel rfl rfl (by kernel_rfl) (by kernel_rfl) rfl (fun _ => (rn_move (S.tm rfl))) ?_; clear S; intro a S
    refine d_pure 4 S hsel rfl rfl (by kernel_rfl) (by kernel_rfl) rfl (fun _ => (rn_move (S.tm rfl))) ?_; clear S; intro a S
    refine d_pure 5 S hsel rfl rfl (by kernel_rfl) (by kernel_rfl) rfl (fun _ => (rn_move (S.tm rfl))) ?_; clear S; intro a S
    obtain ⟨b6, hg5, hr6⟩ := rn_indexS (a := a) (x := .tmp 32) (y := .tmp 33) (ty := 0) sl_22 enc_int S (i := 0) rfl (inB_get hc2).1 (inB_get hc2).2 (S.tm rfl) (S.tm rfl)
    refine d_pure 6 S hsel rfl rfl (by kernel_rfl) (by kernel_rfl) rfl (fun _ => (hr6 _)) ?_; clear S; intro a S
    clear hr6
    refine d_quiet 7 S hsel rfl (by kernel_rfl) (by kernel_rfl) (by kernel_rfl) (by kernel_rfl) rfl (fun _ hw => (rn_ld Tryz.isAgg3 (off := r1.1.toNat * 1) (o := 0) (S.tm rfl) ((own_mem enc_int S (i := 0) rfl hg5 (inB_get hc2).1 (ne_nil (e' := .own v3 3 1 x3.length (x3.flatMap eInt)))).kept hw) rfl)) ?_; clear S; intro a S
    refine d_pure 8 S hsel rfl rfl (by kernel_rfl) (by kernel_rfl) rfl (fun _ => (rn_move (S.tm rfl))) ?_; clear S; intro a S
    refine d_pure 9 S hsel rfl rfl (by kernel_rfl) (by kernel_rfl) rfl (fun _ => (rn_move (S.tm rfl))) ?_; clear S; intro a S
    obtain ⟨b7, hg6, hr7⟩ := rn_indexS (a := a) (x := .tmp 36) (y := .tmp 37) (ty := 0) sl_22 enc_int S (i := 0) rfl (inB_get hc3).1 (inB_get hc3).2 (S.tm rfl) (S.tm rfl)
    refine d_pure 10 S hsel rfl rfl (by kernel_rfl) (by kernel_rfl) rfl (fun _ => (hr7 _)) ?_; clear S; intro a S
    clear hr7
    refine d_quiet 11 S hsel rfl (by kernel_rfl) (by kernel_rfl) (by kernel_rfl) (by kernel_rfl) rfl (fun _ hw => (rn_ld Tryz.isAgg3 (off := x5.toNat * 1) (o := 0) (S.tm rfl) ((own_mem enc_int S (i := 0) rfl hg6 (inB_get hc3).1 (ne_nil (e' := .own v3 3 1 x3.length (x3.flatMap eInt)))).kept hw) rfl)) ?_; clear S; intro a S
    obtain ⟨b8, hg7, hr8⟩ := rn_indexS (a := a) (x := .tmp 28) (y := .tmp 29) (ty := 0) sl_22 enc_int S (i := 0) rfl (inB_get hc4).1 (inB_get hc4).2 (S.tm rfl) (S.tm rfl)
    refine d_pure 12 S hsel rfl rfl (by kernel_rfl) (by kernel_rfl) rfl (fun _ => (hr8 _)) ?_; clear S; intro a S
    clear hr8
    refine d_loudB 13 (v3.ownBlock.toList) rfl (by kernel_rfl) rfl (l_storeO (c := 0) (j := x5.toNat) (nth x3 r1.1) enc_int S (S.tm rfl) (S.tm rfl) (i := 0) rfl hg7 (inB_get hc4).1 Tryz.sizeOf3 (vs := [iV (nth x3 r1.1)]) rfl rfl rfl rfl rfl ?_); clear S; intro w14 hk10 S
    refine l_done (d_nextB ?_)
    obtain ⟨b9, hg8, hr9⟩ := rn_indexS (a := a) (x := .tmp 30) (y := .tmp 31) (ty := 0) sl_22 enc_int S (i := 0) rfl (inB_get hc5).1 (inB_get hc5).2 (S.tm rfl) (S.tm rfl)
    refine d_quiet 14 S hsel rfl rfl rfl (by kernel_rfl) (by kernel_rfl) rfl (fun _ hw => (hr9 _)) ?_; clear S; intro a S
    clear hr9
    refine d_loud1 15 (by kernel_rfl) rfl (l_storeO (c := 0) (j := r1.1.toNat) (nth x3 x5) enc_int S (S.tm rfl) (S.tm rfl) (i := 0) rfl hg8 (inB_get hc5).1 Tryz.sizeOf3 (vs := [iV (nth x3 x5)]) rfl rfl rfl rfl rfl ?_); clear S; intro w16 hk12 S
    refine l_done (d_next hk12 (d_end (by kernel_rfl) ?_))
    clear hsel
    replace S := S.nk [.own v3 3 1 ((x3.set x5.toNat (nth x3 r1.1)).set r1.1.toNat (nth x3 x5)).length (((x3.set x5.toNat (nth x3 r1.1)).set r1.1.toNat (nth x3 x5)).flatMap eInt), .blk b_p_s [v_p_s_L, iV r1.2] 25] [(0, .pointer (some ⟨b_p_s, 0, none⟩)), (5, v3), (7, iV x5)] [true, true] rfl (subR rfl)
    refine blk_n (then_n (f_region (lv S (rn_move (S.tm rfl)) rfl ?_))); clear S; intro a S
    refine lv S (rn_sub (S.tm rfl) rfl) rfl ?_; clear S; intro a S
    refine lv S (rn_assign (S.tm rfl)) rfl ?_; clear S; intro a S
    refine l_done (then_n ?_)
    exact ⟨m2, ⟨((x3.set x5.toNat (nth x3 r1.1)).set r1.1.toNat (nth x3 x5)), r1.2, W (x5 - 1), v3, h, S.nf [true, true] rfl ⟨rfl, rfl, rfl, trivial⟩⟩, Nat.lt_succ_self _⟩
   ·replace h := iteF h hb2
    refine wp_exit (then_x (then_x (x_same (then_n ?_))))
    exact ⟨x3, x4, v3, h, S.nf [true, true] rfl ⟨rfl, trivial⟩⟩
 clear S h; rintro a w6 ⟨x3, x4, v3, h, S⟩; rw [hj2] at h; clear hj2 j2
 refine then_n (f_seq (f_region (lv S (rn_move (S.tm rfl)) rfl ?_))); clear S; intro a S
 refine lv S (rn_assign (S.tm rfl)) rfl ?_; clear S; intro a S
 refine l_done (then_n (wp_ret ?_))
 obtain rfl := Option.some.inj h
 exact f_ret S Tryz.results35 rfl ⟨(S.holds _ (List.mem_of_getElem? (i := 1) rfl)), (own_retX S (i := 0) rfl (fun c hc hh => not_fps S (i := 1) rfl rfl (j := 0) rfl rfl (by simp at hc; subst hc; exact hh)))⟩
theorem Stream_Squad_ok (w : World) (b_p_s : Nat) (v_p_s_L : Value) (p_s_L : List Int) (hs_p_s_L : Slc (view w [b_p_s]) 1 v_p_s_L (p_s_L.map eInt)) (p_s_at : Int) (hb_b_p_s : (LEnt.blk b_p_s [v_p_s_L, iV p_s_at] 25).holds w) (r : GSquad × Int) (h : Stream_Squad p_s_L p_s_at = some r) :
    Calls Tryz.prog 8 [.pointer (some ⟨b_p_s, 0, none⟩)].toArray w (Ret w [b_p_s] fun τ v w' => (LEnt.blk b_p_s [v_p_s_L, iV r.2] 25).holds w' ∧ ∃ q : R37, v = .agg (R37.enc q).toArray ∧ rel_37 τ r.1 q) := by
 refine f_enter [b_p_s] [.blk b_p_s [v_p_s_L, iV p_s_at] 25] Tryz.func8 rfl Tryz.ntmps8 rfl (fun e he => by simp only [List.mem_singleton] at he; subst he; exact hb_b_p_s) (by simp [fps, LEnt.fp]) (by simp [fps, LEnt.fp]) fun a S => ?_
 unfold Stream_Squad at h
 replace S := S.nk [.blk b_p_s [v_p_s_L, iV p_s_at] 25] [(0, .pointer (some ⟨b_p_s, 0, none⟩))] [true] rfl ⟨rfl, trivial⟩
 refine f_seq (f_region (l_alloc S Tryz.zeroValue37 (cs := [sV k_empty, sV k_empty, sV k_empty, .slice none 0 0]) rfl rfl ?_)); clear S; intro a w1 b1 hz1 hk1 S
 replace S := S.nil 9 1
 refine l_done (then_n (f_seq (f_region (l_buildSlice S Tryz.underlying35 Tryz.sizeOf9 Tryz.zeroValue9 rfl rfl (pv := [(0, sV k_ann), (1, sV k_bea), (2, sV k_cid), (3, sV k_dan), (4, sV k_eve), (5, sV k_fox)]) ⟨rfl, rfl, rfl, rfl, rfl, rfl, rfl, rfl, rfl, rfl, rfl, rfl, trivial⟩ (cs := [sV k_ann, sV k_bea, sV k_cid, sV k_dan, sV k_eve, sV k_fox]) (by kernel_rfl) rfl ?_)))); clear S; intro a w2 b2 hz2 hk2 S
 refine lv S (rn_assign (S.tm rfl)) rfl ?_; clear S; intro a S
 refine l_done (then_n (f_seq (f_region (lv S (rn_move (S.tm rfl)) rfl ?_)))); clear S; intro a S
 refine l_buildSlice S Tryz.underlying35 Tryz.sizeOf9 Tryz.zeroValue9 rfl rfl (pv := [(0, sV k_ka), (1, sV k_kb)]) ⟨rfl, rfl, rfl, rfl, trivial⟩ (cs := [sV k_ka, sV k_kb]) (by kernel_rfl) rfl ?_; clear S; intro a w3 b3 hz3 hk3 S
 obtain ⟨r1, hr1, h⟩ := bindE h
 refine l_enter1 4 S (b := b_p_s) rfl rfl (fun _ => .blk b_p_s [v_p_s_L, iV r1.2] 25) (fun _ => run_call (vs := [.pointer (some ⟨b_p_s, 0, none⟩), .slice (some ⟨b3, 0, none⟩) 2 2]) ⟨(S.tm rfl), (S.tm rfl), trivial⟩ Tryz.call31) (Stream_Some_ok _ b_p_s v_p_s_L p_s_L (hs_p_s_L.mono (S.le_arg (fp_sub (i := 4) (e := .blk b_p_s [v_p_s_L, iV p_s_at] 25) rfl))) p_s_at (S.holds _ (List.mem_of_getElem? (i := 4) rfl)) (.slice (some ⟨b3, 0, none⟩) 2 2) [k_ka, k_kb] (lit_slcT enc_str S (i := 0) rfl rfl rfl rfl ((ne_fp (i := 4) (j := 0) (e := .blk b_p_s [v_p_s_L, iV p_s_at] 25) (e' := .blk b3 [sV k_ka, sV k_kb] 9) S rfl rfl rfl) _ rfl)) _ hr1) rfl (fun _ _ _ h => ⟨h.1, fun _ hc => by cases hc; rfl⟩) ?_; clear S; intro v1 a w4 hv1 hk4 hn1 S
 replace hv1 := hv1.2
 subst hv1
 refine lv S (rn_move (S.tm rfl)) rfl ?_; clear S; intro a S
 refine l_buildSlice S Tryz.underlying35 Tryz.sizeOf9 Tryz.zeroValue9 rfl rfl (pv := [(0, sV k_blue), (1, sV k_blue), (2, sV k_red)]) ⟨rfl, rfl, rfl, rfl, rfl, rfl, trivial⟩ (cs := [sV k_blue, sV k_blue, sV k_red]) (by kernel_rfl) rfl ?_; clear S; intro a w5 b4 hz4 hk5 S
 obtain ⟨r2, hr2, h⟩ := bindE h
 refine l_enter1 5 S (b := b_p_s) rfl rfl (fun _ => .blk b_p_s [v_p_s_L, iV r2.2] 25) (fun _ => run_call (vs := [.pointer (some ⟨b_p_s, 0, none⟩), .slice (some ⟨b4, 0, none⟩) 3 3]) ⟨(S.tm rfl), (S.tm rfl), trivial⟩ Tryz.call31) (Stream_Some_ok _ b_p_s v_p_s_L p_s_L (hs_p_s_L.mono (S.le_arg (fp_sub (i := 5) (e := .blk b_p_s [v_p_s_L, iV r1.2] 25) rfl))) r1.2 (S.holds _ (List.mem_of_getElem? (i := 5) rfl)) (.slice (some ⟨b4, 0, none⟩) 3 3) [k_blue, k_blue, k_red] (lit_slcT enc_str S (i := 0) rfl rfl rfl rfl ((ne_fp (i := 5) (j := 0) (e := .blk b_p_s [v_p_s_L, iV r1.2] 25) (e' := .blk b4 [sV k_blue, sV k_blue, sV k_red] 9) S rfl rfl rfl) _ rfl)) _ hr2) rfl (fun _ _ _ h => ⟨h.1, fun _ hc => by cases hc; rfl⟩) ?_; clear S; intro v2 a w6 hv2 hk6 hn2 S
 replace hv2 := hv2.2
 subst hv2
 refine lv S (rn_move (S.tm rfl)) rfl ?_; clear S; intro a S
 refine l_buildSlice S Tryz.underlying35 Tryz.sizeOf9 Tryz.zeroValue9 rfl rfl (pv := [(0, sV k_ra), (1, sV k_rb), (2, sV k_rc), (3, sV k_rz)]) ⟨rfl, rfl, rfl, rfl, rfl, rfl, rfl, rfl, trivial⟩ (cs := [sV k_ra, sV k_rb, sV k_rc, sV k_rz]) (by kernel_rfl) rfl ?_; clear S; intro a w7 b5 hz5 hk7 S
 obtain ⟨r3, hr3, h⟩ := bindE h
 refine l_enter1 6 S (b := b_p_s) rfl rfl (fun _ => .blk b_p_s [v_p_s_L, iV r3.2] 25) (fun _ => run_call (vs := [.pointer (some ⟨b_p_s, 0, none⟩), .slice (some ⟨b5, 0, none⟩) 4 4]) ⟨(S.tm rfl), (S.tm rfl), trivial⟩ Tryz.call31) (Stream_Some_ok _ b_p_s v_p_s_L p_s_L (hs_p_s_L.mono (S.le_arg (fp_sub (i := 6) (e := .blk b_p_s [v_p_s_L, iV r2.2] 25) rfl))) r2.2 (S.holds _ (List.mem_of_getElem? (i := 6) rfl)) (.slice (some ⟨b5, 0, none⟩) 4 4) [k_ra, k_rb, k_rc, k_rz] (lit_slcT enc_str S (i := 0) rfl rfl rfl rfl ((ne_fp (i := 6) (j := 0) (e := .blk b_p_s [v_p_s_L, iV r2.2] 25) (e' := .blk b5 [sV k_ra, sV k_rb, sV k_rc, sV k_rz] 9) S rfl rfl rfl) _ rfl)) _ hr3) rfl (fun _ _ _ h => ⟨h.1, fun _ hc => by cases hc; rfl⟩) ?_; clear S; intro v3 a w8 hv3 hk8 hn3 S
 replace hv3 := hv3.2
 subst hv3
 refine lv S (rn_bld bt_37 (pv := [(0, sV r1.1), (1, sV r2.1), (2, sV r3.1)]) ⟨rfl, (S.tm rfl), rfl, (S.tm rfl), rfl, (S.tm rfl), trivial⟩ (cs := [sV r1.1, sV r2.1, sV r3.1, .slice none 0 0]) (by kernel_rfl)) rfl ?_; clear S; intro a S
 refine l_alloc S Tryz.zeroValue37 (cs := [sV k_empty, sV k_empty, sV k_empty, .slice none 0 0]) rfl rfl ?_; clear S; intro a w9 b6 hz6 hk9 S
 replace S := S.nil 9 1
 refine l_store S (S.tm rfl) (S.tm rfl) (i := 1) (off := 0) rfl Tryz.sizeOf37 (vs := [sV r1.1, sV r2.1, sV r3.1, .slice none 0 0]) rfl rfl rfl rfl ?_; clear S; intro w10 hk10 S
 replace S := S.nil 9 1
 refine l_done ?_
 replace S := S.nk [.own (.slice none 0 0) 9 1 ([] : List ByteArray).length (([] : List ByteArray).flatMap eStr), .blk b6 [sV r1.1, sV r2.1, sV r3.1, (.slice none 0 0)] 37, .blk b2 [sV k_ann, sV k_bea, sV k_cid, sV k_dan, sV k_eve, sV k_fox] 9, .own (.slice none 0 0) 9 1 ([] : List ByteArray).length (([] : List ByteArray).flatMap eStr), .blk b1 [sV k_empty, sV k_empty, sV k_empty, (.slice none 0 0)] 37, .blk b_p_s [v_p_s_L, iV r3.2] 25] [(0, .pointer (some ⟨b_p_s, 0, none⟩)), (2, .pointer (some ⟨b1, 0, none⟩)), (3, .slice (some ⟨b2, 0, none⟩) 6 6), (4, .pointer (some ⟨b6, 0, none⟩))] [true, false, true, false, false, false, true, true, true, true] rfl (subR rfl)
 refine then_n (f_seq (f_seq (f_region (lv S (rn_move (S.tm rfl)) rfl ?_)))); clear S; intro a S
 refine lv S (rn_move (S.tm rfl)) rfl ?_; clear S; intro a S
 refine lv S (rn_lenT sl_35 (S.tm rfl) ⟨_, _, rfl⟩) rfl ?_; clear S; intro a S
 obtain ⟨r4, hr4, h⟩ := bindE h
 have hz7 := S.keep.size
 refine l_enter1 5 S (b := b_p_s) rfl rfl (fun _ => .blk b_p_s [v_p_s_L, iV r4.2] 25) (fun _ => run_call (vs := [.pointer (some ⟨b_p_s, 0, none⟩), iV (([k_ann, k_bea, k_cid, k_dan, k_eve, k_fox] : List ByteArray).length : Int)]) ⟨(S.tm rfl), (S.tm rfl), trivial⟩ Tryz.call35) (Stream_Order_ok _ b_p_s v_p_s_L p_s_L (hs_p_s_L.mono (S.le_arg (fp_sub (i := 5) (e := .blk b_p_s [v_p_s_L, iV r3.2] 25) rfl))) r3.2 (S.holds _ (List.mem_of_getElem? (i := 5) rfl)) (([k_ann, k_bea, k_cid, k_dan, k_eve, k_fox] : List ByteArray).length : Int) _ hr4) rfl (fun _ _ _ h => ⟨h.1, fun _ hc => by cases hc; rfl⟩) ?_; clear S; intro v4 a w11 hv4 hk11 hn4 S
 replace hv4 := hv4.2
 obtain ⟨φ1, hl1, hm1, S⟩ := S.see' hn4 hz7
 have hs1 := hv4.mono hm1
 obtain ⟨hc1, h⟩ := chkE h
 obtain ⟨v5, hs2, hr5⟩ := rn_cutTh (a := a) (x := .tmp 21) (y' := .const (iV 4)) (ty := 22) sl_22 (ownV_slcT enc_int hs1) (S.tm rfl) rfl hc1
 refine lv S (hr5 _) rfl ?_; clear S; intro a S
 clear hr5
 refine lv S (rn_lenT sl_22 (S.tm rfl) (slc_len hs2)) rfl ?_; clear S; intro a S
 refine lv S (rn_move rfl) rfl ?_; clear S; intro a S
 refine l_done ?_
 replace S := S.nk [.own (.slice none 0 0) 9 1 ([] : List ByteArray).length (([] : List ByteArray).flatMap eStr), .blk b6 [sV r1.1, sV r2.1, sV r3.1, (.slice none 0 0)] 37, .blk b2 [sV k_ann, sV k_bea, sV k_cid, sV k_dan, sV k_eve, sV k_fox] 9, .own (.slice none 0 0) 9 1 ([] : List ByteArray).length (([] : List ByteArray).flatMap eStr), .blk b1 [sV k_empty, sV k_empty, sV k_empty, (.slice none 0 0)] 37, .blk b_p_s [v_p_s_L, iV r4.2] 25] [(0, .pointer (some ⟨b_p_s, 0, none⟩)), (2, .pointer (some ⟨b1, 0, none⟩)), (3, .slice (some ⟨b2, 0, none⟩) 6 6), (4, .pointer (some ⟨b6, 0, none⟩)), (22, v5), (23, iV ((cut r4.1 0 4).length : Int)), (24, iV 0)] [true, true, true, true, true, true] rfl (subR rfl)
 refine then_n ?_
 replace S := S.litOwn (i := 2) (xs := [k_ann, k_bea, k_cid, k_dan, k_eve, k_fox]) rfl enc_str rfl rfl rfl
 replace S := S.nk [.own (.slice none 0 0) 9 1 ([] : List ByteArray).length (([] : List ByteArray).flatMap eStr), .blk b6 [sV r1.1, sV r2.1, sV r3.1, (.slice none 0 0)] 37, .own (.slice (some ⟨b2, 0, none⟩) 6 6) 9 1 ([k_ann, k_bea, k_cid, k_dan, k_eve, k_fox] : List ByteArray).length (([k_ann, k_bea, k_cid, k_dan, k_eve, k_fox] : List ByteArray).flatMap eStr), .own (.slice none 0 0) 9 1 ([] : List ByteArray).length (([] : List ByteArray).flatMap eStr), .blk b1 [sV k_empty, sV k_empty, sV k_empty, (.slice none 0 0)] 37, .blk b_p_s [v_p_s_L, iV r4.2] 25] [(0, .pointer (some ⟨b_p_s, 0, none⟩)), (2, .pointer (some ⟨b1, 0, none⟩)), (3, (.slice (some ⟨b2, 0, none⟩) 6 6)), (4, .pointer (some ⟨b6, 0, none⟩)), (22, v5), (23, iV ((cut r4.1 0 4).length : Int)), (24, iV 0)] [] rfl (subR rfl)
 obtain ⟨φ2, hl2, hs3, S⟩ := S.freezeT (xs := ([k_ann, k_bea, k_cid, k_dan, k_eve, k_fox] : List ByteArray)) (enc := eStr) (i := 2) rfl (fun c hc hh => not_fps S (i := 5) rfl rfl (j := 2) rfl rfl (by simp at hc; subst hc; exact hh))
 replace S := S.nk [.own (.slice none 0 0) 9 1 ([] : List ByteArray).length (([] : List ByteArray).flatMap eStr), .blk b6 [sV r1.1, sV r2.1, sV r3.1, (.slice none 0 0)] 37, .own (.slice none 0 0) 9 1 ([] : List ByteArray).length (([] : List ByteArray).flatMap eStr), .blk b1 [sV k_empty, sV k_empty, sV k_empty, (.slice none 0 0)] 37, .blk b_p_s [v_p_s_L, iV r4.2] 25] [(0, .pointer (some ⟨b_p_s, 0, none⟩)), (2, .pointer (some ⟨b1, 0, none⟩)), (3, (.slice (some ⟨b2, 0, none⟩) 6 6)), (4, .pointer (some ⟨b6, 0, none⟩)), (22, v5), (23, iV ((cut r4.1 0 4).length : Int)), (24, iV 0)] [] rfl (subR rfl)
 obtain ⟨j1, hj1, h⟩ := joinE h
 refine f_join (fun a w' => ∃ x1 : List ByteArray, ∃ v6 : Value, j1 x1 = some r ∧ Sx w [b_p_s] φ2 [.own v6 9 1 x1.length (x1.flatMap eStr), .blk b6 [sV r1.1, sV r2.1, sV r3.1, v6] 37, .own (.slice none 0 0) 9 1 ([] : List ByteArray).length (([] : List ByteArray).flatMap eStr), .blk b1 [sV k_empty, sV k_empty, sV k_empty, (.slice none 0 0)] 37, .blk b_p_s [v_p_s_L, iV r4.2] 25] [(0, .pointer (some ⟨b_p_s, 0, none⟩)), (2, .pointer (some ⟨b1, 0, none⟩)), (4, .pointer (some ⟨b6, 0, none⟩))] 64 a w') ?_ ?_
 ·refine wp_block (f_loop (fun (ys1 : List Int) a w' => ∃ i1 : Nat, ∃ x1 : List ByteArray, ∃ v6 : Value, (∃ dn, cut r4.1 0 4 = dn ++ ys1 ∧ dn.length = i1) ∧ Stream_Squad_l1 j1 ys1 i1 x1 = some r ∧ Sx w [b_p_s] φ2 [.own v6 9 1 x1.length (x1.flatMap eStr), .blk b6 [sV r1.1, sV r2.1, sV r3.1, v6] 37, .own (.slice none 0 0) 9 1 ([] : List ByteArray).length (([] : List ByteArray).flatMap eStr), .blk b1 [sV k_empty, sV k_empty, sV k_empty, (.slice none 0 0)] 37, .blk b_p_s [v_p_s_L, iV r4.2] 25] [(0, .pointer (some ⟨b_p_s, 0, none⟩)), (2, .pointer (some ⟨b1, 0, none⟩)), (3, (.slice (some ⟨b2, 0, none⟩) 6 6)), (4, .pointer (some ⟨b6, 0, none⟩)), (22, v5), (23, iV ((cut r4.1 0 4).length : Int)), (24, iV (i1 : Int))] 64 a w') List.length (cut r4.1 0 4) ⟨0, ([] : List ByteArray), (.slice none 0 0), ⟨[], rfl, rfl⟩, h, S.nf [true, true, true, true, true] rfl (subR rfl)⟩ ?_)
  clear S h; rintro ys1 a w12 ⟨i1, x1, v6, ⟨dn, hd1, hi1⟩, h, S⟩
  cases ys1 with
  | nil =>
   rw [Stream_Squad_l1.eq_1] at h
   refine f_seq (f_region (lv S (rn_lss (S.tm rfl) (S.tm rfl)) rfl ?_)); clear S; intro a S
   refine l_done ?_
   replace S := S.nk [.own v6 9 1 x1.length (x1.flatMap eStr), .blk b6 [sV r1.1, sV r2.1, sV r3.1, v6] 37, .own (.slice none 0 0) 9 1 ([] : List ByteArray).length (([] : List ByteArray).flatMap eStr), .blk b1 [sV k_empty, sV k_empty, sV k_empty, (.slice none 0 0)] 37, .blk b_p_s [v_p_s_L, iV r4.2] 25] [(0, .pointer (some ⟨b_p_s, 0, none⟩)), (2, .pointer (some ⟨b1, 0, none⟩)), (3, (.slice (some ⟨b2, 0, none⟩) 6 6)), (4, .pointer (some ⟨b6, 0, none⟩)), (22, v5), (23, iV ((cut r4.1 0 4).length : Int)), (24, iV (i1 : Int)), (25, bV (decide ((i1 : Int) < ((cut r4.1 0 4).length : Int))))] [true, true, true, true, true] rfl (subR rfl)
   refine then_n (f_seq (wp_cond_false ((S.tm rfl).trans (congrArg Value.bool (rng_nil hd1 hi1))) (wp_exit (then_x (then_x (x_same ?_))))))
   refine then_n ?_
   exact ⟨x1, v6, h, S.nf [true, true, true, true, true] rfl (subR rfl)⟩
  | cons y1 ys1 =>
   rw [Stream_Squad_l1.eq_2] at h
   refine f_seq (f_region (lv S (rn_lss (S.tm rfl) (S.tm rfl)) rfl ?_)); clear S; intro a S
   refine l_done ?_
   replace S := S.nk [.own v6 9 1 x1.length (x1.flatMap eStr), .blk b6 [sV r1.1, sV r2.1, sV r3.1, v6] 37, .own (.slice none 0 0) 9 1 ([] : List ByteArray).length (([] : List ByteArray).flatMap eStr), .blk b1 [sV k_empty, sV k_empty, sV k_empty, (.slice none 0 0)] 37, .blk b_p_s [v_p_s_L, iV r4.2] 25] [(0, .pointer (some ⟨b_p_s, 0, none⟩)), (2, .pointer (some ⟨b1, 0, none⟩)), (3, (.slice (some ⟨b2, 0, none⟩) 6 6)), (4, .pointer (some ⟨b6, 0, none⟩)), (22, v5), (23, iV ((cut r4.1 0 4).length : Int)), (24, iV (i1 : Int)), (25, bV (decide ((i1 : Int) < ((cut r4.1 0 4).length : Int))))] [true, true, true, true, true] rfl (subR rfl)
   refine then_n (f_seq (wp_cond_true ((S.tm rfl).trans (congrArg Value.bool (rng_cons hd1 hi1))) (wp_skip (then_n (f_seq (wp_block ?_))))))
   refine f_seq (f_region ?_)
   obtain ⟨b7, o1, hm2, hr6⟩ := rn_indexT (a := a) (x := .tmp 22) (y := .tmp 24) (ty := 0) sl_22 hs2 (get_mid hd1 hi1) rfl (S.tm rfl) (S.tm rfl)
   refine lv S (hr6 _) rfl ?_; clear S; intro a S
   clear hr6
   refine lv S (rn_ld Tryz.isAgg3 (off := o1) (o := 0) (S.tm rfl) ((hm2.mono hl2).at S.emb) rfl) rfl ?_; clear S; intro a S
   refine lv S (rn_assign (S.tm rfl)) rfl ?_; clear S; intro a S
   refine l_done (then_n ?_)
   obtain ⟨hc2, h⟩ := chkE h
   obtain ⟨hc3, h⟩ := chkE h
   refine d_region [9] (v6.ownBlock.toList) Tryz.mixed S rfl (by kernel_rfl) ?_; clear S; intro w17 hk15 hsel S
   refine d_pure 0 S hsel rfl rfl (by kernel_rfl) (by kernel_rfl) rfl (fun _ => (rn_fld fa_37_3 (S.tm rfl))) ?_; clear S; intro a S
   refine d_quiet 1 S hsel rfl (by kernel_rfl) (by kernel_rfl) (by kernel_rfl) (by kernel_rfl) rfl (fun _ hw => (rn_ld Tryz.isAgg35 (off := 0) (o := 3) (S.tm rfl) ((S.blk_mem (i := 1) (cells := [sV r1.1, sV r2.1, sV r3.1, v6]) (b := b6) (T := 37) rfl (ne_fp (i := 0) (j := 1) (e := .own v6 9 1 x1.length (x1.flatMap eStr)) (e' := .blk b6 [sV r1.1, sV r2.1, sV r3.1, v6] 37) S rfl rfl rfl)).kept hw) rfl)) ?_; clear S; intro a S
   refine d_pure 2 S hsel rfl rfl (by kernel_rfl) (by kernel_rfl) rfl (fun _ => (rn_move (S.tm rfl))) ?_; clear S; intro a S
   refine d_pure 3 S hsel rfl rfl (by kernel_rfl) (by kernel_rfl) rfl (fun _ => (rn_move (S.tm rfl))) ?_; clear S; intro a S
   obtain ⟨b10, o3, hm4, hr8⟩ := rn_indexT (a := a) (x := .tmp 30) (y := .tmp 31) (ty := 0) sl_35 ((ownV_slcT enc_str hs3).mono (S.le_new (fp_sub (i := 0) (e := .own v6 9 1 x1.length (x1.flatMap eStr)) rfl))) (inB_get hc2).1 (inB_get hc2).2 (S.tm rfl) (S.tm rfl)
   refine d_pure 4 S hsel rfl rfl (by kernel_rfl) (by kernel_rfl) rfl (fun _ => hr8 _) ?_; clear S; intro a S
   clear hr8
   refine d_quiet 5 S hsel rfl (by kernel_rfl) (by kernel_rfl) (by kernel_rfl) (by kernel_rfl) rfl (fun _ hw => (rn_ld Tryz.isAgg9 (off := o3) (o := 0) (S.tm rfl) (hm4.kept hw) rfl)) ?_; clear S; intro a S
   refine d_loud1 6 (by kernel_rfl) rfl (l_buildSlice S Tryz.underlying35 Tryz.sizeOf9 Tryz.zeroValue9 rfl rfl (pv := [(0, sV (nth ([k_ann, k_bea, k_cid, k_dan, k_eve, k_fox] : List ByteArray) y1))]) ⟨rfl, (S.tm rfl), trivial⟩ (cs := [sV (nth ([k_ann, k_bea, k_cid, k_dan, k_eve, k_fox] : List ByteArray) y1)]) (by kernel_rfl) rfl ?_); clear S; intro a w18 b11 hz9 hk16 S
   refine l_done (d_next (Keep.none hk16) (d_loud1 7 (by kernel_rfl) rfl ?_))
   refine l_appendT sl_35 enc_str S (S.tm rfl) (i := 1) rfl (S.tm rfl) (j := 0) rfl (ys := [(nth ([k_ann, k_bea, k_cid, k_dan, k_eve, k_fox] : List ByteArray) y1)]) rfl rfl rfl rfl (by have := room_lt hc3; omega) rfl ?_; clear S; intro v8 a w19 hk17 S
   refine l_done (d_next hk17 (d_pure 8 S hsel rfl rfl (by kernel_rfl) (by kernel_rfl) rfl (fun _ => (rn_fld fa_37_3 (S.tm rfl))) ?_)); clear S; intro a S
   refine d_loudB 9 (v8.ownBlock.toList ++ [b6]) rfl (by kernel_rfl) rfl (l_store S (S.tm rfl) (S.tm rfl) (i := 2) (off := 3) rfl Tryz.sizeOf35 (vs := [v8]) (SlcLen.cells (own_len (S.own_at (i := 1) rfl))) rfl rfl (all1 (SlcLen.one (own_len (S.own_at (i := 1) rfl))) rfl) ?_); clear S; intro w20 hk18 S
   refine l_done (d_nextB (d_end (by kernel_rfl) ?_))
   clear hsel
   replace S := S.nk [.own v8 9 1 (x1 ++ [(nth ([k_ann, k_bea, k_cid, k_dan, k_eve, k_fox] : List ByteArray) y1)]).length ((x1 ++ [(nth ([k_ann, k_bea, k_cid, k_dan, k_eve, k_fox] : List ByteArray) y1)]).flatMap eStr), .blk b6 [sV r1.1, sV r2.1, sV r3.1, v8] 37, .own (.slice none 0 0) 9 1 ([] : List ByteArray).length (([] : List ByteArray).flatMap eStr), .blk b1 [sV k_empty, sV k_empty, sV k_empty, (.slice none 0 0)] 37, .blk b_p_s [v_p_s_L, iV r4.2] 25] [(0, .pointer (some ⟨b_p_s, 0, none⟩)), (2, .pointer (some ⟨b1, 0, none⟩)), (3, (.slice (some ⟨b2, 0, none⟩) 6 6)), (4, .pointer (some ⟨b6, 0, none⟩)), (22, v5), (23, iV ((cut r4.1 0 4).length : Int)), (24, iV (i1 : Int))] [false, true, true, true, true, true] rfl (subR rfl)
   refine blk_n (then_n (f_region (lv S (rn_add (S.tm rfl) rfl) rfl ?_))); clear S; intro a S
   refine lv S (rn_move (S.tm rfl)) rfl ?_; clear S; intro a S
   refine l_done (then_n ?_)
   exact ⟨ys1, ⟨i1 + 1, (x1 ++ [(nth ([k_ann, k_bea, k_cid, k_dan, k_eve, k_fox] : List ByteArray) y1)]), v8, ⟨_, (hd1).trans (List.append_cons _ _ _), by simp [hi1]⟩, h, S.nf [true, true, true, true, true] rfl ⟨rfl, rfl, rfl, rfl, rfl, rfl, (congrArg (fun z => some (Value.int .i64 z)) (rng_next hd1 hi1 (slc_max hs2))), trivial⟩⟩, Nat.lt_succ_self _⟩
 clear S h; rintro a w13 ⟨x1, v6, h, S⟩; rw [hj1] at h; clear hj1 j1
 refine then_n (f_seq (f_seq (f_region (lv S (rn_move (S.tm rfl)) rfl ?_)))); clear S; intro a S
 obtain ⟨r5, hr9, h⟩ := bindE h
 refine l_enter1 4 S (b := b_p_s) rfl rfl (fun _ => .blk b_p_s [v_p_s_L, iV r5.2] 25) (fun _ => run_call (vs := [.pointer (some ⟨b_p_s, 0, none⟩), iV 12]) ⟨(S.tm rfl), rfl, trivial⟩ Tryz.call9) (Stream_Flip_ok _ b_p_s v_p_s_L p_s_L (hs_p_s_L.mono (S.le_arg (fp_sub (i := 4) (e := .blk b_p_s [v_p_s_L, iV r4.2] 25) rfl))) r4.2 (S.holds _ (List.mem_of_getElem? (i := 4) rfl)) 12 _ hr9) rfl (fun _ _ _ h => ⟨h.1, fun _ hc => by cases hc; rfl⟩) ?_; clear S; intro v9 a w21 hv5 hk19 hn5 S
 replace hv5 := hv5.2
 subst hv5
 refine l_done (then_n ?_)
 obtain ⟨j2, hj2, h⟩ := joinE h
 refine f_join (fun a w' => ∃ x2 : List ByteArray, ∃ x3 : ByteArray, ∃ x4 : ByteArray, ∃ x5 : Int, ∃ v10 : Value, j2 x2 x3 x4 x5 = some r ∧ Sx w [b_p_s] φ2 [.own v10 9 1 x2.length (x2.flatMap eStr), .blk b6 [sV x3, sV x4, sV r3.1, v10] 37, .own (.slice none 0 0) 9 1 ([] : List ByteArray).length (([] : List ByteArray).flatMap eStr), .blk b1 [sV k_empty, sV k_empty, sV k_empty, (.slice none 0 0)] 37, .blk b_p_s [v_p_s_L, iV x5] 25] [(2, .pointer (some ⟨b1, 0, none⟩)), (4, .pointer (some ⟨b6, 0, none⟩))] 64 a w') ?_ ?_
 ·refine f_cond (S.tm rfl) (fun hb1 => ?_) (fun hb1 => ?_)
  ·replace h := iteT h hb1
   refine f_seq ?_
   obtain ⟨j3, hj3, h⟩ := joinE h
   refine f_join (fun a w' => ∃ x6 : ByteArray, ∃ x7 : ByteArray, ∃ x8 : Int, j3 x6 x7 x8 = some r ∧ Sx w [b_p_s] φ2 [.own v6 9 1 x1.length (x1.flatMap eStr), .blk b6 [sV x6, sV x7, sV r3.1, v6] 37, .own (.slice none 0 0) 9 1 ([] : List ByteArray).length (([] : List ByteArray).flatMap eStr), .blk b1 [sV k_empty, sV k_empty, sV k_empty, (.slice none 0 0)] 37, .blk b_p_s [v_p_s_L, iV x8] 25] [(0, .pointer (some ⟨b_p_s, 0, none⟩)), (2, .pointer (some ⟨b1, 0, none⟩)), (4, .pointer (some ⟨b6, 0, none⟩))] 64 a w') ?_ ?_
   ·obtain ⟨r6, hr10, h⟩ := bindE h
    obtain ⟨r7, hr11, h⟩ := bindE h
    refine d_region [11, 13] ([b_p_s]) Tryz.mixed S rfl (by kernel_rfl) ?_; clear S; intro w30 hk26 hsel S
    refine d_pure 0 S hsel rfl rfl (by kernel_rfl) (by kernel_rfl) rfl (fun _ => (rn_move (S.tm rfl))) ?_; clear S; intro a S
    refine d_pure 1 S hsel rfl rfl (by kernel_rfl) (by kernel_rfl) rfl (fun _ => (rn_fld fa_37_0 (S.tm rfl))) ?_; clear S; intro a S
    refine d_quiet 2 S hsel rfl (by kernel_rfl) (by kernel_rfl) (by kernel_rfl) (by kernel_rfl) rfl (fun _ hw => (rn_ld Tryz.isAgg9 (off := 0) (o := 0) (S.tm rfl) ((S.blk_mem (i := 1) (cells := [sV r1.1, sV r2.1, sV r3.1, v6]) (b := b6) (T := 37) rfl (ne_fp (i := 4) (j := 1) (e := .blk b_p_s [v_p_s_L, iV r5.2] 25) (e' := .blk b6 [sV r1.1, sV r2.1, sV r3.1, v6] 37) S rfl rfl rfl)).kept hw) rfl)) ?_; clear S; intro a S
    refine d_pure 5 S hsel rfl rfl (by kernel_rfl) (by kernel_rfl) rfl (fun _ => (rn_move (S.tm rfl))) ?_; clear S; intro a S
    refine d_pure 6 S hsel rfl rfl (by kernel_rfl) (by kernel_rfl) rfl (fun _ => (rn_fld fa_37_1 (S.tm rfl))) ?_; clear S; intro a S
    refine d_quiet 7 S hsel rfl (by kernel_rfl) (by kernel_rfl) (by kernel_rfl) (by kernel_rfl) rfl (fun _ hw => (rn_ld Tryz.isAgg9 (off := 0) (o := 1) (S.tm rfl) ((S.blk_mem (i := 1) (cells := [sV r1.1, sV r2.1, sV r3.1, v6]) (b := b6) (T := 37) rfl (ne_fp (i := 4) (j := 1) (e := .blk b_p_s [v_p_s_L, iV r5.2] 25) (e' := .blk b6 [sV r1.1, sV r2.1, sV r3.1, v6] 37) S rfl rfl rfl)).kept hw) rfl)) ?_; clear S; intro a S
    refine d_loud2 3 8 (by kernel_rfl) rfl rfl ?_ ?_
    ·refine l_buildSlice S Tryz.underlying35 Tryz.sizeOf9 Tryz.zeroValue9 rfl rfl (pv := [(0, sV r1.1), (1, sV k_empty)]) ⟨rfl, (S.tm rfl), rfl, rfl, trivial⟩ (cs := [sV r1.1, sV k_empty]) (by kernel_rfl) rfl ?_; clear S; intro a w31 b14 hz12 hk27 S
     refine l_done (d_next (Keep.none hk27) (d_loud2 4 8 (by kernel_rfl) rfl rfl ?_ ?_))
     ·refine l_enter1 5 S (b := b_p_s) rfl rfl (fun _ => .blk b_p_s [v_p_s_L, iV r6.2] 25) (fun _ => run_call (vs := [.pointer (some ⟨b_p_s, 0, none⟩), .slice (some ⟨b14, 0, none⟩) 2 2]) ⟨(S.tm rfl), (S.tm rfl), trivial⟩ Tryz.call31) (Stream_Some_ok _ b_p_s v_p_s_L p_s_L (hs_p_s_L.mono (S.le_arg (fp_sub (i := 5) (e := .blk b_p_s [v_p_s_L, iV r5.2] 25) rfl))) r5.2 (S.holds _ (List.mem_of_getElem? (i := 5) rfl)) (.slice (some ⟨b14, 0, none⟩) 2 2) [r1.1, k_empty] (lit_slcT enc_str S (i := 0) rfl rfl rfl rfl ((ne_fp (i := 5) (j := 0) (e := .blk b_p_s [v_p_s_L, iV r5.2] 25) (e' := .blk b14 [sV r1.1, sV k_empty] 9) S rfl rfl rfl) _ rfl)) _ hr10) rfl (fun _ _ _ h => ⟨h.1, fun _ hc => by cases hc; rfl⟩) ?_; clear S; intro v13 a w32 hv8 hk28 hn8 S
      replace hv8 := hv8.2
      subst hv8
      refine l_done (d_next hk28 (d_pure 10 S hsel rfl rfl (by kernel_rfl) (by kernel_rfl) rfl (fun _ => (rn_fld fa_37_0 (S.tm rfl))) ?_)); clear S; intro a S
      refine d_loud1 8 (by kernel_rfl) rfl (l_buildSlice S Tryz.underlying35 Tryz.sizeOf9 Tryz.zeroValue9 rfl rfl (pv := [(0, sV r2.1), (1, sV k_empty), (2, sV k_A)]) ⟨rfl, (S.tm rfl), rfl, rfl, rfl, rfl, trivial⟩ (cs := [sV r2.1, sV k_empty, sV k_A]) (by kernel_rfl) rfl ?_); clear S; intro a w33 b15 hz13 hk29 S
      refine l_done (d_next (Keep.none hk29) (d_loud1 9 (by kernel_rfl) rfl ?_))
      refine l_enter1 6 S (b := b_p_s) rfl rfl (fun _ => .blk b_p_s [v_p_s_L, iV r7.2] 25) (fun _ => run_call (vs := [.pointer (some ⟨b_p_s, 0, none⟩), .slice (some ⟨b15, 0, none⟩) 3 3]) ⟨(S.tm rfl), (S.tm rfl), trivial⟩ Tryz.call31) (Stream_Some_ok _ b_p_s v_p_s_L p_s_L (hs_p_s_L.mono (S.le_arg (fp_sub (i := 6) (e := .blk b_p_s [v_p_s_L, iV r6.2] 25) rfl))) r6.2 (S.holds _ (List.mem_of_getElem? (i := 6) rfl)) (.slice (some ⟨b15, 0, none⟩) 3 3) [r2.1, k_empty, k_A] (lit_slcT enc_str S (i := 0) rfl rfl rfl rfl ((ne_fp (i := 6) (j := 0) (e := .blk b_p_s [v_p_s_L, iV r6.2] 25) (e' := .blk b15 [sV r2.1, sV k_empty, sV k_A] 9) S rfl rfl rfl) _ rfl)) _ hr11) rfl (fun _ _ _ h => ⟨h.1, fun _ hc => by cases hc; rfl⟩) ?_; clear S; intro v14 a w34 hv9 hk30 hn9 S
      replace hv9 := hv9.2
      subst hv9
      refine l_done (d_next hk30 (d_loudB 11 ([b_p_s] ++ [b6]) rfl (by kernel_rfl) rfl (l_store S (S.tm rfl) (S.tm rfl) (i := 3) (off := 0) rfl Tryz.sizeOf9 (vs := [sV r6.1]) rfl rfl rfl rfl ?_))); clear S; intro w35 hk31 S
      refine l_done (d_nextB (d_quiet 12 S hsel rfl rfl rfl (by kernel_rfl) (by kernel_rfl) rfl (fun _ hw => (rn_fld fa_37_1 (S.tm rfl))) ?_)); clear S; intro a S
      refine d_loud1 13 (by kernel_rfl) rfl (l_store S (S.tm rfl) (S.tm rfl) (i := 3) (off := 1) rfl Tryz.sizeOf9 (vs := [sV r7.1]) rfl rfl rfl rfl ?_); clear S; intro w36 hk32 S
      refine l_done ?_
      refine d_next (hk32.sub (by intro y hy; simp at hy ⊢; simp [hy])) ?_
      refine d_end (by kernel_rfl) ?_
      clear hsel
      replace S := S.nk [.own v6 9 1 x1.length (x1.flatMap eStr), .blk b6 [sV r6.1, sV r7.1, sV r3.1, v6] 37, .own (.slice none 0 0) 9 1 ([] : List ByteArray).length (([] : List ByteArray).flatMap eStr), .blk b1 [sV k_empty, sV k_empty, sV k_empty, (.slice none 0 0)] 37, .blk b_p_s [v_p_s_L, iV r7.2] 25] [(0, .pointer (some ⟨b_p_s, 0, none⟩)), (2, .pointer (some ⟨b1, 0, none⟩)), (4, .pointer (some ⟨b6, 0, none⟩))] [false, false, true, true, true, true, true] rfl (subR rfl)
      refine then_n ?_
      exact ⟨r6.1, r7.1, r7.2, h, S.nf [true, true, true, true, true] rfl (subR rfl)⟩
     ·refine l_buildSlice S Tryz.underlying35 Tryz.sizeOf9 Tryz.zeroValue9 rfl rfl (pv := [(0, sV r2.1), (1, sV k_empty), (2, sV k_A)]) ⟨rfl, (S.tm rfl), rfl, rfl, rfl, rfl, trivial⟩ (cs := [sV r2.1, sV k_empty, sV k_A]) (by kernel_rfl) rfl ?_; clear S; intro a w37 b16 hz14 hk33 S
      refine l_done (d_next (Keep.none hk33) (d_loud1 4 (by kernel_rfl) rfl ?_))
      refine l_enter1 6 S (b := b_p_s) rfl rfl (fun _ => .blk b_p_s [v_p_s_L, iV r6.2] 25) (fun _ => run_call (vs := [.pointer (some ⟨b_p_s, 0, none⟩), .slice (some ⟨b14, 0, none⟩) 2 2]) ⟨(S.tm rfl), (S.tm rfl), trivial⟩ Tryz.call31) (Stream_Some_ok _ b_p_s v_p_s_L p_s_L (hs_p_s_L.mono (S.le_arg (fp_sub (i := 6) (e := .blk b_p_s [v_p_s_L, iV r5.2] 25) rfl))) r5.2 (S.holds _ (List.mem_of_getElem? (i := 6) rfl)) (.slice (some ⟨b14, 0, none⟩) 2 2) [r1.1, k_empty] (lit_slcT enc_str S (i := 1) rfl rfl rfl rfl ((ne_fp (i := 6) (j := 1) (e := .blk b_p_s [v_p_s_L, iV r5.2] 25) (e' := .blk b14 [sV r1.1, sV k_empty] 9) S rfl rfl rfl) _ rfl)) _ hr10) rfl (fun _ _ _ h => ⟨h.1, fun _ hc => by cases hc; rfl⟩) ?_; clear S; intro v15 a w38 hv10 hk34 hn10 S
      replace hv10 := hv10.2
      subst hv10
      refine l_done (d_next hk34 (d_pure 10 S hsel rfl rfl (by kernel_rfl) (by kernel_rfl) rfl (fun _ => (rn_fld fa_37_0 (S.tm rfl))) ?_)); clear S; intro a S
      refine d_loud1 9 (by kernel_rfl) rfl ?_
      refine l_enter1 6 S (b := b_p_s) rfl rfl (fun _ => .blk b_p_s [v_p_s_L, iV r7.2] 25) (fun _ => run_call (vs := [.pointer (some ⟨b_p_s, 0, none⟩), .slice (some ⟨b16, 0, none⟩) 3 3]) ⟨(S.tm rfl), (S.tm rfl), trivial⟩ Tryz.call31) (Stream_Some_ok _ b_p_s v_p_s_L p_s_L (hs_p_s_L.mono (S.le_arg (fp_sub (i := 6) (e := .blk b_p_s [v_p_s_L, iV r6.2] 25) rfl))) r6.2 (S.holds _ (List.mem_of_getElem? (i := 6) rfl)) (.slice (some ⟨b16, 0, none⟩) 3 3) [r2.1, k_empty, k_A] (lit_slcT enc_str S (i := 0) rfl rfl rfl rfl ((ne_fp (i := 6) (j := 0) (e := .blk b_p_s [v_p_s_L, iV r6.2] 25) (e' := .blk b16 [sV r2.1, sV k_empty, sV k_A] 9) S rfl rfl rfl) _ rfl)) _ hr11) rfl (fun _ _ _ h => ⟨h.1, fun _ hc => by cases hc; rfl⟩) ?_; clear S; intro v16 a w39 hv11 hk35 hn11 S
      replace hv11 := hv11.2
      subst hv11
      refine l_done (d_next hk35 (d_loudB 11 ([b_p_s] ++ [b6]) rfl (by kernel_rfl) rfl (l_store S (S.tm rfl) (S.tm rfl) (i := 3) (off := 0) rfl Tryz.sizeOf9 (vs := [sV r6.1]) rfl rfl rfl rfl ?_))); clear S; intro w40 hk36 S
      refine l_done (d_nextB (d_quiet 12 S hsel rfl rfl rfl (by kernel_rfl) (by kernel_rfl) rfl (fun _ hw => (rn_fld fa_37_1 (S.tm rfl))) ?_)); clear S; intro a S
      refine d_loud1 13 (by kernel_rfl) rfl (l_store S (S.tm rfl) (S.tm rfl) (i := 3) (off := 1) rfl Tryz.sizeOf9 (vs := [sV r7.1]) rfl rfl rfl rfl ?_); clear S; intro w41 hk37 S
      refine l_done ?_
      refine d_next (hk37.sub (by intro y hy; simp at hy ⊢; simp [hy])) ?_
      refine d_end (by kernel_rfl) ?_
      clear hsel
      replace S := S.nk [.own v6 9 1 x1.length (x1.flatMap eStr), .blk b6 [sV r6.1, sV r7.1, sV r3.1, v6] 37, .own (.slice none 0 0) 9 1 ([] : List ByteArray).length (([] : List ByteArray).flatMap eStr), .blk b1 [sV k_empty, sV k_empty, sV k_empty, (.slice none 0 0)] 37, .blk b_p_s [v_p_s_L, iV r7.2] 25] [(0, .pointer (some ⟨b_p_s, 0, none⟩)), (2, .pointer (some ⟨b1, 0, none⟩)), (4, .pointer (some ⟨b6, 0, none⟩))] [false, false, true, true, true, true, true] rfl (subR rfl)
      refine then_n ?_
      exact ⟨r6.1, r7.1, r7.2, h, S.nf [true, true, true, true, true] rfl (subR rfl)⟩
    ·refine l_buildSlice S Tryz.underlying35 Tryz.sizeOf9 Tryz.zeroValue9 rfl rfl (pv := [(0, sV r2.1), (1, sV k_empty), (2, sV k_A)]) ⟨rfl, (S.tm rfl), rfl, rfl, rfl, rfl, trivial⟩ (cs := [sV r2.1, sV k_empty, sV k_A]) (by kernel_rfl) rfl ?_; clear S; intro a w42 b17 hz15 hk38 S
     refine l_done (d_next (Keep.none hk38) (d_loud1 3 (by kernel_rfl) rfl (l_buildSlice S Tryz.underlying35 Tryz.sizeOf9 Tryz.zeroValue9 rfl rfl (pv := [(0, sV r1.1), (1, sV k_empty)]) ⟨rfl, (S.tm rfl), rfl, rfl, trivial⟩ (cs := [sV r1.1, sV k_empty]) (by kernel_rfl) rfl ?_))); clear S; intro a w43 b18 hz16 hk39 S
     refine l_done (d_next (Keep.none hk39) (d_loud1 4 (by kernel_rfl) rfl ?_))
     refine l_enter1 6 S (b := b_p_s) rfl rfl (fun _ => .blk b_p_s [v_p_s_L, iV r6.2] 25) (fun _ => run_call (vs := [.pointer (some ⟨b_p_s, 0, none⟩), .slice (some ⟨b18, 0, none⟩) 2 2]) ⟨(S.tm rfl), (S.tm rfl), trivial⟩ Tryz.call31) (Stream_Some_ok _ b_p_s v_p_s_L p_s_L (hs_p_s_L.mono (S.le_arg (fp_sub (i := 6) (e := .blk b_p_s [v_p_s_L, iV r5.2] 25) rfl))) r5.2 (S.holds _ (List.mem_of_getElem? (i := 6) rfl)) (.slice (some ⟨b18, 0, none⟩) 2 2) [r1.1, k_empty] (lit_slcT enc_str S (i := 0) rfl rfl rfl rfl ((ne_fp (i := 6) (j := 0) (e := .blk b_p_s [v_p_s_L, iV r5.2] 25) (e' := .blk b18 [sV r1.1, sV k_empty] 9) S rfl rfl rfl) _ rfl)) _ hr10) rfl (fun _ _ _ h => ⟨h.1, fun _ hc => by cases hc; rfl⟩) ?_; clear S; intro v17 a w44 hv12 hk40 hn12 S
     replace hv12 := hv12.2
     subst hv12
     refine l_done (d_next hk40 (d_pure 10 S hsel rfl rfl (by kernel_rfl) (by kernel_rfl) rfl (fun _ => (rn_fld fa_37_0 (S.tm rfl))) ?_)); clear S; intro a S
     refine d_loud1 9 (by kernel_rfl) rfl ?_
     refine l_enter1 6 S (b := b_p_s) rfl rfl (fun _ => .blk b_p_s [v_p_s_L, iV r7.2] 25) (fun _ => run_call (vs := [.pointer (some ⟨b_p_s, 0, none⟩), .slice (some ⟨b17, 0, none⟩) 3 3]) ⟨(S.tm rfl), (S.tm rfl), trivial⟩ Tryz.call31) (Stream_Some_ok _ b_p_s v_p_s_L p_s_L (hs_p_s_L.mono (S.le_arg (fp_sub (i := 6) (e := .blk b_p_s [v_p_s_L, iV r6.2] 25) rfl))) r6.2 (S.holds _ (List.mem_of_getElem? (i := 6) rfl)) (.slice (some ⟨b17, 0, none⟩) 3 3) [r2.1, k_empty, k_A] (lit_slcT enc_str S (i := 1) rfl rfl rfl rfl ((ne_fp (i := 6) (j := 1) (e := .blk b_p_s [v_p_s_L, iV r6.2] 25) (e' := .blk b17 [sV r2.1, sV k_empty, sV k_A] 9) S rfl rfl rfl) _ rfl)) _ hr11) rfl (fun _ _ _ h => ⟨h.1, fun _ hc => by cases hc; rfl⟩) ?_; clear S; intro v18 a w45 hv13 hk41 hn13 S
     replace hv13 := hv13.2
     subst hv13
     refine l_done (d_next hk41 (d_loudB 11 ([b_p_s] ++ [b6]) rfl (by kernel_rfl) rfl (l_store S (S.tm rfl) (S.tm rfl) (i := 3) (off := 0) rfl Tryz.sizeOf9 (vs := [sV r6.1]) rfl rfl rfl rfl ?_))); clear S; intro w46 hk42 S
     refine l_done (d_nextB (d_quiet 12 S hsel rfl rfl rfl (by kernel_rfl) (by kernel_rfl) rfl (fun _ hw => (rn_fld fa_37_1 (S.tm rfl))) ?_)); clear S; intro a S
     refine d_loud1 13 (by kernel_rfl) rfl (l_store S (S.tm rfl) (S.tm rfl) (i := 3) (off := 1) rfl Tryz.sizeOf9 (vs := [sV r7.1]) rfl rfl rfl rfl ?_); clear S; intro w47 hk43 S
     refine l_done ?_
     refine d_next (hk43.sub (by intro y hy; simp at hy ⊢; simp [hy])) ?_
     refine d_end (by kernel_rfl) ?_
     clear hsel
     replace S := S.nk [.own v6 9 1 x1.length (x1.flatMap eStr), .blk b6 [sV r6.1, sV r7.1, sV r3.1, v6] 37, .own (.slice none 0 0) 9 1 ([] : List ByteArray).length (([] : List ByteArray).flatMap eStr), .blk b1 [sV k_empty, sV k_empty, sV k_empty, (.slice none 0 0)] 37, .blk b_p_s [v_p_s_L, iV r7.2] 25] [(0, .pointer (some ⟨b_p_s, 0, none⟩)), (2, .pointer (some ⟨b1, 0, none⟩)), (4, .pointer (some ⟨b6, 0, none⟩))] [false, false, true, true, true, true, true] rfl (subR rfl)
     refine then_n ?_
     exact ⟨r6.1, r7.1, r7.2, h, S.nf [true, true, true, true, true] rfl (subR rfl)⟩
   clear S h; rintro a w23 ⟨x6, x7, x8, h, S⟩; rw [hj3] at h; clear hj3 j3
   refine then_n ?_
   obtain ⟨j4, hj4, h⟩ := joinE h
   refine f_join (fun a w' => ∃ x9 : List ByteArray, ∃ x10 : Int, ∃ v19 : Value, j4 x9 x10 = some r ∧ Sx w [b_p_s] φ2 [.own v19 9 1 x9.length (x9.flatMap eStr), .blk b6 [sV x6, sV x7, sV r3.1, v19] 37, .own (.slice none 0 0) 9 1 ([] : List ByteArray).length (([] : List ByteArray).flatMap eStr), .blk b1 [sV k_empty, sV k_empty, sV k_empty, (.slice none 0 0)] 37, .blk b_p_s [v_p_s_L, iV x10] 25] [(2, .pointer (some ⟨b1, 0, none⟩)), (4, .pointer (some ⟨b6, 0, none⟩))] 64 a w') ?_ ?_
   ·obtain ⟨r8, hr12, h⟩ := bindE h
    obtain ⟨hc4, h⟩ := chkE h
    obtain ⟨r9, hr14, h⟩ := bindE h
    obtain ⟨hc5, h⟩ := chkE h
    refine d_region [11] ([b_p_s] ++ v6.ownBlock.toList) Tryz.mixed S rfl (by kernel_rfl) ?_; clear S; intro w55 hk50 hsel S
    refine d_pure 0 S hsel rfl rfl (by kernel_rfl) (by kernel_rfl) rfl (fun _ => (rn_fld fa_37_3 (S.tm rfl))) ?_; clear S; intro a S
    refine d_quiet 1 S hsel rfl (by kernel_rfl) (by kernel_rfl) (by kernel_rfl) (by kernel_rfl) rfl (fun _ hw => (rn_ld Tryz.isAgg35 (off := 0) (o := 3) (S.tm rfl) ((S.blk_mem (i := 1) (cells := [sV x6, sV x7, sV r3.1, v6]) (b := b6) (T := 37) rfl (ne_app (ne_fp (i := 4) (j := 1) (e := .blk b_p_s [v_p_s_L, iV x8] 25) (e' := .blk b6 [sV x6, sV x7, sV r3.1, v6] 37) S rfl rfl rfl) (ne_fp (i := 0) (j := 1) (e := .own v6 9 1 x1.length (x1.flatMap eStr)) (e' := .blk b6 [sV x6, sV x7, sV r3.1, v6] 37) S rfl rfl rfl))).kept hw) rfl)) ?_; clear S; intro a S
    refine d_pure 2 S hsel rfl rfl (by kernel_rfl) (by kernel_rfl) rfl (fun _ => (rn_move (S.tm rfl))) ?_; clear S; intro a S
    refine d_pure 5 S hsel rfl rfl (by kernel_rfl) (by kernel_rfl) rfl (fun _ => (rn_move (S.tm rfl))) ?_; clear S; intro a S
    refine d_loud2 3 6 (by kernel_rfl) rfl rfl ?_ ?_
    ·refine l_enter1 4 S (b := b_p_s) rfl rfl (fun _ => .blk b_p_s [v_p_s_L, iV r8.2] 25) (fun _ => run_call (vs := [.pointer (some ⟨b_p_s, 0, none⟩), iV 2, iV 4]) ⟨(S.tm rfl), rfl, rfl, trivial⟩ Tryz.call36) (Stream_Range_ok _ b_p_s v_p_s_L p_s_L (hs_p_s_L.mono (S.le_arg (fp_sub (i := 4) (e := .blk b_p_s [v_p_s_L, iV x8] 25) rfl))) x8 (S.holds _ (List.mem_of_getElem? (i := 4) rfl)) 2 4 _ hr12) rfl (fun _ _ _ h => ⟨h.1, fun _ hc => by cases hc; rfl⟩) ?_; clear S; intro v23 a w56 hv16 hk51 hn16 S
     replace hv16 := hv16.2
     subst hv16
     refine l_done ?_
     refine d_next (hk51.sub (by intro y hy; simp at hy ⊢; simp [hy])) ?_
     obtain ⟨u3, hu2, hr15⟩ := rn_subh (a := a) (x := .tmp 53) (y' := .tmp 55) (ty := 35) sl_35 S (i := 0) rfl (S.tm rfl) (S.tm rfl) hc4
     refine d_pure 4 S hsel rfl rfl (by kernel_rfl) (by kernel_rfl) rfl (fun _ => (hr15 _)) ?_; clear S; intro a S
     clear hr15
     refine d_loud1 6 (by kernel_rfl) rfl (l_buildSlice S Tryz.underlying35 Tryz.sizeOf9 Tryz.zeroValue9 rfl rfl (pv := [(0, sV k_ann), (1, sV k_empty), (2, sV k_zed)]) ⟨rfl, rfl, rfl, rfl, rfl, rfl, trivial⟩ (cs := [sV k_ann, sV k_empty, sV k_zed]) (by kernel_rfl) rfl ?_); clear S; intro a w57 b21 hz20 hk52 S
     refine l_done (d_next (Keep.none hk52) (d_loud1 7 (by kernel_rfl) rfl ?_))
     refine l_enter1 5 S (b := b_p_s) rfl rfl (fun _ => .blk b_p_s [v_p_s_L, iV r9.2] 25) (fun _ => run_call (vs := [.pointer (some ⟨b_p_s, 0, none⟩), .slice (some ⟨b21, 0, none⟩) 3 3]) ⟨(S.tm rfl), (S.tm rfl), trivial⟩ Tryz.call31) (Stream_Some_ok _ b_p_s v_p_s_L p_s_L (hs_p_s_L.mono (S.le_arg (fp_sub (i := 5) (e := .blk b_p_s [v_p_s_L, iV r8.2] 25) rfl))) r8.2 (S.holds _ (List.mem_of_getElem? (i := 5) rfl)) (.slice (some ⟨b21, 0, none⟩) 3 3) [k_ann, k_empty, k_zed] (lit_slcT enc_str S (i := 0) rfl rfl rfl rfl ((ne_fp (i := 5) (j := 0) (e := .blk b_p_s [v_p_s_L, iV r8.2] 25) (e' := .blk b21 [sV k_ann, sV k_empty, sV k_zed] 9) S rfl rfl rfl) _ rfl)) _ hr14) rfl (fun _ _ _ h => ⟨h.1, fun _ hc => by cases hc; rfl⟩) ?_; clear S; intro v24 a w58 hv17 hk53 hn17 S
     replace hv17 := hv17.2
     subst hv17
     refine l_done ?_
     refine d_next (hk53.sub (by intro y hy; simp at hy ⊢; simp [hy])) ?_
     refine d_loud1 8 (by kernel_rfl) rfl (l_buildSlice S Tryz.underlying35 Tryz.sizeOf9 Tryz.zeroValue9 rfl rfl (pv := [(0, sV r9.1)]) ⟨rfl, (S.tm rfl), trivial⟩ (cs := [sV r9.1]) (by kernel_rfl) rfl ?_); clear S; intro a w59 b22 hz21 hk54 S
     refine l_done (d_next (Keep.none hk54) (d_loud1 9 (by kernel_rfl) rfl ?_))
     obtain ⟨S, hz22⟩ := S.ownCut (zh := r8.1) enc_str (i := 2) rfl hu2
     refine l_appendT sl_35 enc_str S (S.tm rfl) (i := 2) rfl (S.tm rfl) (j := 0) rfl (ys := [r9.1]) rfl rfl rfl rfl (by have := room_lt hc5; omega) rfl ?_; clear S; intro v25 a w60 hk55 S
     refine l_done ?_
     refine d_next (hk55.sub (by intro y hy; simp at hy ⊢; simp [hz22 _ hy])) ?_
     refine d_pure 10 S hsel rfl rfl (by kernel_rfl) (by kernel_rfl) rfl (fun _ => (rn_fld fa_37_3 (S.tm rfl))) ?_; clear S; intro a S
     refine d_loudB 11 ([b_p_s] ++ (v25.ownBlock.toList ++ [b6])) rfl (by kernel_rfl) rfl (l_store S (S.tm rfl) (S.tm rfl) (i := 3) (off := 3) rfl Tryz.sizeOf35 (vs := [v25]) (SlcLen.cells (own_len (S.own_at (i := 2) rfl))) rfl rfl (all1 (SlcLen.one (own_len (S.own_at (i := 2) rfl))) rfl) ?_); clear S; intro w61 hk56 S
     refine l_done (d_nextB (d_end (by kernel_rfl) ?_))
     clear hsel
     replace S := S.nk [.own v25 9 1 ((cut x1 (0 : Int) r8.1) ++ [r9.1]).length (((cut x1 (0 : Int) r8.1) ++ [r9.1]).flatMap eStr), .blk b6 [sV x6, sV x7, sV r3.1, v25] 37, .own (.slice none 0 0) 9 1 ([] : List ByteArray).length (([] : List ByteArray).flatMap eStr), .blk b1 [sV k_empty, sV k_empty, sV k_empty, (.slice none 0 0)] 37, .blk b_p_s [v_p_s_L, iV r9.2] 25] [(2, .pointer (some ⟨b1, 0, none⟩)), (4, .pointer (some ⟨b6, 0, none⟩))] [false, false, true, true, true, true, true] rfl (subR rfl)
     refine then_n ?_
     exact ⟨((cut x1 (0 : Int) r8.1) ++ [r9.1]), r9.2, v25, h, S.nf [true, true, true, true, true] rfl (subR rfl)⟩
    ·refine l_buildSlice S Tryz.underlying35 Tryz.sizeOf9 Tryz.zeroValue9 rfl rfl (pv := [(0, sV k_ann), (1, sV k_empty), (2, sV k_zed)]) ⟨rfl, rfl, rfl, rfl, rfl, rfl, trivial⟩ (cs := [sV k_ann, sV k_empty, sV k_zed]) (by kernel_rfl) rfl ?_; clear S; intro a w62 b23 hz23 hk57 S
     refine l_done (d_next (Keep.none hk57) (d_loud1 3 (by kernel_rfl) rfl ?_))
     refine l_enter1 5 S (b := b_p_s) rfl rfl (fun _ => .blk b_p_s [v_p_s_L, iV r8.2] 25) (fun _ => run_call (vs := [.pointer (some ⟨b_p_s, 0, none⟩), iV 2, iV 4]) ⟨(S.tm rfl), rfl, rfl, trivial⟩ Tryz.call36) (Stream_Range_ok _ b_p_s v_p_s_L p_s_L (hs_p_s_L.mono (S.le_arg (fp_sub (i := 5) (e := .blk b_p_s [v_p_s_L, iV x8] 25) rfl))) x8 (S.holds _ (List.mem_of_getElem? (i := 5) rfl)) 2 4 _ hr12) rfl (fun _ _ _ h => ⟨h.1, fun _ hc => by cases hc; rfl⟩) ?_; clear S; intro v26 a w63 hv18 hk58 hn18 S
     replace hv18 := hv18.2
     subst hv18
     refine l_done ?_
     refine d_next (hk58.sub (by intro y hy; simp at hy ⊢; simp [hy])) ?_
     obtain ⟨u4, hu3, hr16⟩ := rn_subh (a := a) (x := .tmp 53) (y' := .tmp 55) (ty := 35) sl_35 S (i := 1) rfl (S.tm rfl) (S.tm rfl) hc4
     refine d_pure 4 S hsel rfl rfl (by kernel_rfl) (by kernel_rfl) rfl (fun _ => (hr16 _)) ?_; clear S; intro a S
     clear hr16
     refine d_loud1 7 (by kernel_rfl) rfl ?_
     refine l_enter1 5 S (b := b_p_s) rfl rfl (fun _ => .blk b_p_s [v_p_s_L, iV r9.2] 25) (fun _ => run_call (vs := [.pointer (some ⟨b_p_s, 0, none⟩), .slice (some ⟨b23, 0, none⟩) 3 3]) ⟨(S.tm rfl), (S.tm rfl), trivial⟩ Tryz.call31) (Stream_Some_ok _ b_p_s v_p_s_L p_s_L (hs_p_s_L.mono (S.le_arg (fp_sub (i := 5) (e := .blk b_p_s [v_p_s_L, iV r8.2] 25) rfl))) r8.2 (S.holds _ (List.mem_of_getElem? (i := 5) rfl)) (.slice (some ⟨b23, 0, none⟩) 3 3) [k_ann, k_empty, k_zed] (lit_slcT enc_str S (i := 0) rfl rfl rfl rfl ((ne_fp (i := 5) (j := 0) (e := .blk b_p_s [v_p_s_L, iV r8.2] 25) (e' := .blk b23 [sV k_ann, sV k_empty, sV k_zed] 9) S rfl rfl rfl) _ rfl)) _ hr14) rfl (fun _ _ _ h => ⟨h.1, fun _ hc => by cases hc; rfl⟩) ?_; clear S; intro v27 a w64 hv19 hk59 hn19 S
     replace hv19 := hv19.2
     subst hv19
     refine l_done ?_
     refine d_next (hk59.sub (by intro y hy; simp at hy ⊢; simp [hy])) ?_
     refine d_loud1 8 (by kernel_rfl) rfl (l_buildSlice S Tryz.underlying35 Tryz.sizeOf9 Tryz.zeroValue9 rfl rfl (pv := [(0, sV r9.1)]) ⟨rfl, (S.tm rfl), trivial⟩ (cs := [sV r9.1]) (by kernel_rfl) rfl ?_); clear S; intro a w65 b24 hz24 hk60 S
     refine l_done (d_next (Keep.none hk60) (d_loud1 9 (by kernel_rfl) rfl ?_))
     obtain ⟨S, hz25⟩ := S.ownCut (zh := r8.1) enc_str (i := 2) rfl hu3
     refine l_appendT sl_35 enc_str S (S.tm rfl) (i := 2) rfl (S.tm rfl) (j := 0) rfl (ys := [r9.1]) rfl rfl rfl rfl (by have := room_lt hc5; omega) rfl ?_; clear S; intro v28 a w66 hk61 S
     refine l_done ?_
     refine d_next (hk61.sub (by intro y hy; simp at hy ⊢; simp [hz25 _ hy])) ?_
     refine d_pure 10 S hsel rfl rfl (by kernel_rfl) (by kernel_rfl) rfl (fun _ => (rn_fld fa_37_3 (S.tm rfl))) ?_; clear S; intro a S
     refine d_loudB 11 ([b_p_s] ++ (v28.ownBlock.toList ++ [b6])) rfl (by kernel_rfl) rfl (l_store S (S.tm rfl) (S.tm rfl) (i := 3) (off := 3) rfl Tryz.sizeOf35 (vs := [v28]) (SlcLen.cells (own_len (S.own_at (i := 2) rfl))) rfl rfl (all1 (SlcLen.one (own_len (S.own_at (i := 2) rfl))) rfl) ?_); clear S; intro w67 hk62 S
     refine l_done (d_nextB (d_end (by kernel_rfl) ?_))
     clear hsel
     replace S := S.nk [.own v28 9 1 ((cut x1 (0 : Int) r8.1) ++ [r9.1]).length (((cut x1 (0 : Int) r8.1) ++ [r9.1]).flatMap eStr), .blk b6 [sV x6, sV x7, sV r3.1, v28] 37, .own (.slice none 0 0) 9 1 ([] : List ByteArray).length (([] : List ByteArray).flatMap eStr), .blk b1 [sV k_empty, sV k_empty, sV k_empty, (.slice none 0 0)] 37, .blk b_p_s [v_p_s_L, iV r9.2] 25] [(2, .pointer (some ⟨b1, 0, none⟩)), (4, .pointer (some ⟨b6, 0, none⟩))] [false, false, true, true, true, true, true] rfl (subR rfl)
     refine then_n ?_
     exact ⟨((cut x1 (0 : Int) r8.1) ++ [r9.1]), r9.2, v28, h, S.nf [true, true, true, true, true] rfl (subR rfl)⟩
   clear S h; rintro a w48 ⟨x9, x10, v19, h, S⟩; rw [hj4] at h; clear hj4 j4
   refine then_n ?_
   exact ⟨x9, x6, x7, x10, v19, h, S.nf [true, true, true, true, true] rfl (subR rfl)⟩
  ·replace h := iteF h hb1
   refine wp_skip (then_n ?_)
   exact ⟨x1, r1.1, r2.1, r5.2, v6, h, S.nf [true, true, true, true, true] rfl (subR rfl)⟩
 clear S h; rintro a w22 ⟨x2, x3, x4, x5, v10, h, S⟩; rw [hj2] at h; clear hj2 j2
 refine then_n (f_seq (f_region (lv S (rn_ldA Tryz.isAgg37 Tryz.sizeOf37 (off := 0) (o := 0) (part := [sV x3, sV x4, sV r3.1, v10]) rfl rfl (S.tm rfl) (S.cellsAt (i := 1) rfl)) rfl ?_))); clear S; intro a S
 refine l_store S (S.tm rfl) (S.tm rfl) (i := 3) (off := 0) rfl Tryz.sizeOf37 (vs := [sV x3, sV x4, sV r3.1, v10]) rfl rfl rfl (all1 rfl (all1 rfl (all1 rfl (all1 (SlcLen.one (own_len (S.own_at (i := 0) rfl))) rfl)))) ?_; clear S; intro w68 hk63 S
 refine l_done (then_n (wp_ret ?_))
 obtain ⟨φ3, hl3, hs4, S⟩ := S.freezeT (xs := x2) (enc := eStr) (i := 0) rfl (fun c hc hh => not_fps S (i := 4) rfl rfl (j := 0) rfl rfl (by simp at hc; subst hc; exact hh))
 replace S := S.nk [.blk b6 [sV x3, sV x4, sV r3.1, v10] 37, .own (.slice none 0 0) 9 1 ([] : List ByteArray).length (([] : List ByteArray).flatMap eStr), .blk b1 [sV x3, sV x4, sV r3.1, v10] 37, .blk b_p_s [v_p_s_L, iV x5] 25] [(2, .pointer (some ⟨b1, 0, none⟩)), (4, .pointer (some ⟨b6, 0, none⟩)), (63, .agg #[sV x3, sV x4, sV r3.1, v10])] [] rfl (subR rfl)
 obtain rfl := Option.some.inj h
 exact f_retG S (rs := [.cell 2 37]) (vs := [.agg (R37.enc (R37.mk x3 x4 r3.1 ⟨v10, SlcLen.one (slc_len (ownV_slcT enc_str hs4))⟩)).toArray]) Tryz.results8 ⟨(res_cell (off := 0) S rfl Tryz.isAgg37 Tryz.sizeOf37 rfl (S.cellsAt (i := 2) rfl)), trivial⟩ rfl ⟨(S.holds _ (List.mem_of_getElem? (i := 3) rfl)), ⟨(R37.mk x3 x4 r3.1 ⟨v10, SlcLen.one (slc_len (ownV_slcT enc_str hs4))⟩), rfl, rel_37_mono S.le_newer _ _ ⟨⟨v10, SlcLen.one (slc_len (ownV_slcT enc_str hs4))⟩, rfl, (ownV_slcT enc_str hs4)⟩⟩⟩
theorem Stream_OneClub_ok (w : World) (b_p_s : Nat) (v_p_s_L : Value) (p_s_L : List Int) (hs_p_s_L : Slc (view w []) 1 v_p_s_L (p_s_L.map eInt)) (p_s_at : Int) (hb_b_p_s : (view w []) b_p_s = some (.cells [v_p_s_L, iV p_s_at].toArray 25 (0, 0))) (r : (List GMove)) (h : Stream_OneClub p_s_L p_s_at = some r) :
    Calls Tryz.prog 10 [.pointer (some ⟨b_p_s, 0, none⟩)].toArray w (Ret w [] fun τ v _ => OwnV τ 74 3 v r.length (r.flatMap GMove.enc)) := by
 refine f_enter [] [] Tryz.func10 rfl Tryz.ntmps10 rfl (by simp) (by simp [fps]) (by simp [fps]) fun a S => ?_
 unfold Stream_OneClub at h
 replace S := S.nk [] [] [] rfl trivial
 refine f_seq (f_region (lv S (rn_assign rfl) rfl ?_)); clear S; intro a S
 refine l_done (then_n (f_seq (f_region (lv S (rn_assign rfl) rfl ?_)))); clear S; intro a S
 replace S := S.nil 74 3
 refine l_done (then_n (f_seq (f_seq (f_region (l_buildSlice S Tryz.underlying35 Tryz.sizeOf9 Tryz.zeroValue9 rfl rfl (pv := [(0, sV k_ann), (1, sV k_bea), (2, sV k_cid), (3, sV k_dan), (4, sV k_eve), (5, sV k_fox)]) ⟨rfl, rfl, rfl, rfl, rfl, rfl, rfl, rfl, rfl, rfl, rfl, rfl, trivial⟩ (cs := [sV k_ann, sV k_bea, sV k_cid, sV k_dan, sV k_eve, sV k_fox]) (by kernel_rfl) rfl ?_))))); clear S; intro a w1 b1 hz1 hk1 S
 refine lv S (rn_lenT sl_35 (S.tm rfl) ⟨_, _, rfl⟩) rfl ?_; clear S; intro a S
 refine lv S (rn_move rfl) rfl ?_; clear S; intro a S
 refine l_done (then_n ?_)
 replace S := S.nk [.blk b1 [sV k_ann, sV k_bea, sV k_cid, sV k_dan, sV k_eve, sV k_fox] 9, .own (.slice none 0 0) 74 3 ([] : List GMove).length (([] : List GMove).flatMap GMove.enc)] [(3, (.slice none 0 0)), (6, .slice (some ⟨b1, 0, none⟩) 6 6), (7, iV (([k_ann, k_bea, k_cid, k_dan, k_eve, k_fox] : List ByteArray).length : Int)), (8, iV 0)] [true, true] rfl (subR rfl)
 replace S := S.litOwn (i := 0) (xs := [k_ann, k_bea, k_cid, k_dan, k_eve, k_fox]) rfl enc_str rfl rfl rfl
 replace S := S.nk [.own (.slice (some ⟨b1, 0, none⟩) 6 6) 9 1 ([k_ann, k_bea, k_cid, k_dan, k_eve, k_fox] : List ByteArray).length (([k_ann, k_bea, k_cid, k_dan, k_eve, k_fox] : List ByteArray).flatMap eStr), .own (.slice none 0 0) 74 3 ([] : List GMove).length (([] : List GMove).flatMap GMove.enc)] [(3, (.slice none 0 0)), (6, (.slice (some ⟨b1, 0, none⟩) 6 6)), (7, iV (([k_ann, k_bea, k_cid, k_dan, k_eve, k_fox] : List ByteArray).length : Int)), (8, iV 0)] [] rfl (subR rfl)
 obtain ⟨φ1, hl1, hs1, S⟩ := S.freezeT (xs := ([k_ann, k_bea, k_cid, k_dan, k_eve, k_fox] : List ByteArray)) (enc := eStr) (i := 0) rfl (fun _ h => by cases h)
 replace S := S.nk [.own (.slice none 0 0) 74 3 ([] : List GMove).length (([] : List GMove).flatMap GMove.enc)] [(3, (.slice none 0 0)), (6, (.slice (some ⟨b1, 0, none⟩) 6 6)), (7, iV (([k_ann, k_bea, k_cid, k_dan, k_eve, k_fox] : List ByteArray).length : Int)), (8, iV 0)] [] rfl (subR rfl)
 obtain ⟨j1, hj1, h⟩ := joinE h
 refine f_join (fun a w' => ∃ x1 : List GMove, ∃ v1 : Value, j1 x1 = some r ∧ Sx w [] φ1 [.own v1 74 3 x1.length (x1.flatMap GMove.enc)] [(3, v1)] 19 a w') ?_ ?_
 ·refine wp_block (f_loop (fun (ys1 : List ByteArray) a w' => ∃ i1 : Nat, ∃ x1 : List GMove, ∃ v1 : Value, (∃ dn, ([k_ann, k_bea, k_cid, k_dan, k_eve, k_fox] : List ByteArray) = dn ++ ys1 ∧ dn.length = i1) ∧ Stream_OneClub_l1 j1 ys1 i1 x1 = some r ∧ Sx w [] φ1 [.own v1 74 3 x1.length (x1.flatMap GMove.enc)] [(3, v1), (6, (.slice (some ⟨b1, 0, none⟩) 6 6)), (7, iV (([k_ann, k_bea, k_cid, k_dan, k_eve, k_fox] : List ByteArray).length : Int)), (8, iV (i1 : Int))] 19 a w') List.length ([k_ann, k_bea, k_cid, k_dan, k_eve, k_fox] : List ByteArray) ⟨0, ([] : List GMove), (.slice none 0 0), ⟨[], rfl, rfl⟩, h, S.nf [true] rfl (subR rfl)⟩ ?_)
  clear S h; rintro ys1 a w2 ⟨i1, x1, v1, ⟨dn, hd1, hi1⟩, h, S⟩
  cases ys1 with
  | nil =>
   rw [Stream_OneClub_l1.eq_1] at h
   refine f_seq (f_region (lv S (rn_lss (S.tm rfl) (S.tm rfl)) rfl ?_)); clear S; intro a S
   refine l_done ?_
   replace S := S.nk [.own v1 74 3 x1.length (x1.flatMap GMove.enc)] [(3, v1), (6, (.slice (some ⟨b1, 0, none⟩) 6 6)), (7, iV (([k_ann, k_bea, k_cid, k_dan, k_eve, k_fox] : List ByteArray).length : Int)), (8, iV (i1 : Int)), (9, bV (decide ((i1 : Int) < (([k_ann, k_bea, k_cid, k_dan, k_eve, k_fox] : List ByteArray).length : Int))))] [true] rfl (subR rfl)
   refine then_n (f_seq (wp_cond_false ((S.tm rfl).trans (congrArg Value.bool (rng_nil hd1 hi1))) (wp_exit (then_x (then_x (x_same ?_))))))
   refine then_n ?_
   exact ⟨x1, v1, h, S.nf [true] rfl ⟨rfl, trivial⟩⟩
  | cons y1 ys1 =>
   rw [Stream_OneClub_l1.eq_2] at h
   refine f_seq (f_region (lv S (rn_lss (S.tm rfl) (S.tm rfl)) rfl ?_)); clear S; intro a S
   refine l_done ?_
   replace S := S.nk [.own v1 74 3 x1.length (x1.flatMap GMove.enc)] [(3, v1), (6, (.slice (some ⟨b1, 0, none⟩) 6 6)), (7, iV (([k_ann, k_bea, k_cid, k_dan, k_eve, k_fox] : List ByteArray).length : Int)), (8, iV (i1 : Int)), (9, bV (decide ((i1 : Int) < (([k_ann, k_bea, k_cid, k_dan, k_eve, k_fox] : List ByteArray).length : Int))))] [true] rfl (subR rfl)
   refine then_n (f_seq (wp_cond_true ((S.tm rfl).trans (congrArg Value.bool (rng_cons hd1 hi1))) (wp_skip (then_n (f_seq (wp_block ?_))))))
   refine f_seq (f_region ?_)
   obtain ⟨b2, o1, hm1, hr1⟩ := rn_indexT (a := a) (x := .tmp 6) (y := .tmp 8) (ty := 0) sl_35 (ownV_slcT enc_str hs1) (get_mid hd1 hi1) rfl (S.tm rfl) (S.tm rfl)
   refine lv S (hr1 _) rfl ?_; clear S; intro a S
   clear hr1
   refine lv S (rn_ld Tryz.isAgg9 (off := o1) (o := 0) (S.tm rfl) (hm1.at S.emb) rfl) rfl ?_; clear S; intro a S
   refine lv S (rn_assign (S.tm rfl)) rfl ?_; clear S; intro a S
   refine l_done (then_n (f_region (lv S (rn_move (S.tm rfl)) rfl ?_))); clear S; intro a S
   refine lv S (rn_move (S.tm rfl)) rfl ?_; clear S; intro a S
   refine lv S (rn_bld bt_74 (pv := [(0, sV y1), (1, sV k_blue)]) ⟨rfl, (S.tm rfl), rfl, rfl, trivial⟩ (cs := [sV y1, sV k_blue, iV 0]) (by kernel_rfl)) rfl ?_; clear S; intro a S
   refine l_buildSlice S Tryz.underlying30 Tryz.sizeOf74 Tryz.zeroValue74 rfl rfl (pv := [(0, .agg #[sV y1, sV k_blue, iV 0])]) ⟨rfl, (S.tm rfl), trivial⟩ (cs := [sV y1, sV k_blue, iV 0]) (by kernel_rfl) rfl ?_; clear S; intro a w4 b3 hz2 hk2 S
   obtain ⟨hc1, h⟩ := chkE h
   refine l_appendT sl_30 GMove.enc_ok S (S.tm rfl) (i := 1) rfl (S.tm rfl) (j := 0) rfl (ys := [(GMove.mk y1 k_blue 0)]) rfl rfl rfl rfl (by have := room_lt hc1; omega) rfl ?_; clear S; intro v2 a w5 hk3 S
   refine lv S (rn_assign (S.tm rfl)) rfl ?_; clear S; intro a S
   refine l_done (blk_n (then_n (f_region (lv S (rn_add (S.tm rfl) rfl) rfl ?_)))); clear S; intro a S
   refine lv S (rn_move (S.tm rfl)) rfl ?_; clear S; intro a S
   refine l_done (then_n ?_)
   exact ⟨ys1, ⟨i1 + 1, (x1 ++ [(GMove.mk y1 k_blue 0)]), v2, ⟨_, (hd1).trans (List.append_cons _ _ _), by simp [hi1]⟩, h, S.nf [false, true] rfl ⟨rfl, rfl, rfl, (congrArg (fun z => some (Value.int .i64 z)) (rng_next hd1 hi1 (slc_max (ownV_slcT enc_str hs1)))), trivial⟩⟩, Nat.lt_succ_self _⟩
 clear S h; rintro a w3 ⟨x1, v1, h, S⟩; rw [hj1] at h; clear hj1 j1
 refine then_n (f_seq (f_region (lv S (rn_move (S.tm rfl)) rfl ?_))); clear S; intro a S
 refine lv S (rn_assign (S.tm rfl)) rfl ?_; clear S; intro a S
 refine l_done (then_n (wp_ret ?_))
 obtain rfl := Option.some.inj h
 exact f_ret S Tryz.results10 rfl (own_retT S (i := 0) rfl rfl)
theorem strings_Trim_ok (w : World) (s c : ByteArray) (r : ByteArray) (h : strings_Trim s c = some r) : Calls Tryz.prog 82 [.string s, .string c].toArray w (Ret w [] fun _ v _ => v = .string r) := by
  unfold strings_Trim at h
  obtain ⟨h1, h⟩ := chkE h
  obtain ⟨h2, h⟩ := chkE h
  obtain ⟨h3, h⟩ := chkE h
  obtain rfl := Option.some.inj h
  exact ret_of_below (Any.strings_Trim_laid Tryz.lays160 (by kernel_rfl) s c w (by simpa using h1) (by simpa using h2) (fun j b hb => by simpa using List.all_eq_true.1 h3 b (List.mem_of_getElem? hb)))
theorem words_IsKey_ok (w : World) (p_s : ByteArray) (r : Bool) (h : words_IsKey p_s = some r) :
    Calls Tryz.prog 53 [sV p_s].toArray w (Ret w [] fun _ v _ => v = bV r) := by
 refine f_enter [] [] Tryz.func53 rfl Tryz.ntmps53 rfl (by simp) (by simp [fps]) (by simp [fps]) fun a S => ?_
 unfold words_IsKey at h
 replace S := S.nk [] [(0, sV p_s)] [] rfl ⟨rfl, trivial⟩
 refine f_seq (f_region (lv S (rn_assign rfl) rfl ?_)); clear S; intro a S
 refine l_done (then_n (f_seq (f_region (lv S (rn_move (S.tm rfl)) rfl ?_)))); clear S; intro a S
 refine lv S (rn_len_str Tryz.underlying9 (S.tm rfl)) rfl ?_; clear S; intro a S
 refine lv S (rn_geq (S.tm rfl) rfl) rfl ?_; clear S; intro a S
 refine lv S (rn_move (S.tm rfl)) rfl ?_; clear S; intro a S
 refine f_cutm 4 (fun a w' => Keep [] w w' ∧ Sx w [] nov [] [(0, sV p_s), (10, bV ((decide (1 ≤ (p_s.size : Int))) && (decide ((p_s.size : Int) ≤ 40))))] 26 a w') ?_ ?_
 ·rcases Bool.eq_false_or_eq_true (decide (1 ≤ (p_s.size : Int))) with hb1 | hb1
  ·refine l_want S rfl rfl rfl hb1 (lv S (rn_move (S.tm rfl)) rfl ?_); clear S; intro a S
   refine l_want S rfl rfl rfl hb1 (lv S (rn_len_str Tryz.underlying9 (S.tm rfl)) rfl ?_); clear S; intro a S
   refine l_want S rfl rfl rfl hb1 (lv S (rn_leq (S.tm rfl) rfl) rfl ?_); clear S; intro a S
   refine lv S (rn_and_t hb1 (S.tm rfl) (S.tm rfl)) rfl ?_; clear S; intro a S
   refine l_done (then_n ?_)
   exact ⟨Keep.refl _ _, S.nf [] rfl (subR rfl)⟩
  ·iterate 3 (refine l_skip S rfl rfl rfl (neq_f hb1) rfl ?_ rfl; clear S; intro a S)
   refine lv S (rn_and_f (decide ((p_s.size : Int) ≤ 40)) hb1 (S.tm rfl) rfl) rfl ?_; clear S; intro a S
   refine l_done (then_n ?_)
   exact ⟨Keep.refl _ _, S.nf [] rfl (subR rfl)⟩
 clear S; rintro a w1 ⟨hk1, S⟩
 refine lv S (rn_move (S.tm rfl)) rfl ?_; clear S; intro a S
 obtain ⟨j1, hj1, h⟩ := joinE h
 refine f_cutm 4 (fun a w' => ∃ c1, j1 c1 = some r ∧ Keep [] w1 w' ∧ Sx w [] nov [] [(0, sV p_s), (15, bV c1)] 26 a w') ?_ ?_
 ·rcases Bool.eq_false_or_eq_true ((decide (1 ≤ (p_s.size : Int))) && (decide ((p_s.size : Int) ≤ 40))) with hb2 | hb2
  ·replace h := iteT h hb2
   refine l_want S rfl rfl rfl hb2 (lv S (rn_move (S.tm rfl)) rfl ?_); clear S; intro a S
   refine l_want S rfl rfl rfl hb2 ?_
   obtain ⟨hc1, h⟩ := chkE h
   refine lv S (rn_sindexT Tryz.underlying9 (S.tm rfl) rfl hc1) rfl ?_; clear S; intro a S
   refine l_want S rfl rfl rfl hb2 (lv S (rn_geq (S.tm rfl) rfl) rfl ?_); clear S; intro a S
   refine lv S (rn_and_t hb2 (S.tm rfl) (S.tm rfl)) rfl ?_; clear S; intro a S
   refine l_done (then_n ?_)
   exact ⟨_, h, Keep.refl _ _, S.nf [] rfl (subR rfl)⟩
  ·replace h := iteF h hb2
   iterate 3 (refine l_skip S rfl rfl rfl (neq_f hb2) rfl ?_ rfl; clear S; intro a S)
   refine lv S (rn_and_f true hb2 (S.tm rfl) rfl) rfl ?_; clear S; intro a S
   refine l_done (then_n ?_)
   exact ⟨_, h, Keep.refl _ _, S.nf [] rfl (subR rfl)⟩
 clear S h; rintro a w2 ⟨c1, h, hk2, S⟩; rw [hj1] at h; clear hj1 j1
 refine lv S (rn_move (S.tm rfl)) rfl ?_; clear S; intro a S
 obtain ⟨j2, hj2, h⟩ := joinE h
 refine f_cutm 4 (fun a w' => ∃ c2, j2 c2 = some r ∧ Keep [] w2 w' ∧ Sx w [] nov [] [(0, sV p_s), (20, bV c2)] 26 a w') ?_ ?_
 ·rcases Bool.eq_false_or_eq_true c1 with hb3 | hb3
  ·replace h := iteT h hb3
   refine l_want S rfl rfl rfl hb3 (lv S (rn_move (S.tm rfl)) rfl ?_); clear S; intro a S
   refine l_want S rfl rfl rfl hb3 ?_
   obtain ⟨hc2, h⟩ := chkE h
   refine lv S (rn_sindexT Tryz.underlying9 (S.tm rfl) rfl hc2) rfl ?_; clear S; intro a S
   refine l_want S rfl rfl rfl hb3 (lv S (rn_leq (S.tm rfl) rfl) rfl ?_); clear S; intro a S
   refine lv S (rn_and_t hb3 (S.tm rfl) (S.tm rfl)) rfl ?_; clear S; intro a S
   refine l_done (then_n ?_)
   exact ⟨_, h, Keep.refl _ _, S.nf [] rfl (subR rfl)⟩
  ·replace h := iteF h hb3
   iterate 3 (refine l_skip S rfl rfl rfl (neq_f hb3) rfl ?_ rfl; clear S; intro a S)
   refine lv S (rn_and_f true hb3 (S.tm rfl) rfl) rfl ?_; clear S; intro a S
   refine l_done (then_n ?_)
   exact ⟨_, h, Keep.refl _ _, S.nf [] rfl (subR rfl)⟩
 clear S h; rintro a w3 ⟨c2, h, hk3, S⟩; rw [hj2] at h; clear hj2 j2
 refine lv S (rn_move (S.tm rfl)) rfl ?_; clear S; intro a S
 obtain ⟨j3, hj3, h⟩ := joinE h
 refine f_cutm 4 (fun a w' => ∃ c3, j3 c3 = some r ∧ Keep [] w3 w' ∧ Sx w [] nov [] [(25, bV c3)] 26 a w') ?_ ?_
 ·rcases Bool.eq_false_or_eq_true c2 with hb4 | hb4
  ·replace h := iteT h hb4
   refine l_want S rfl rfl rfl hb4 (lv S (rn_move (S.tm rfl)) rfl ?_); clear S; intro a S
   refine l_want S rfl rfl rfl hb4 ?_
   obtain ⟨r1, hr1, h⟩ := bindE h
   refine l_enter S (fun _ => run_call (vs := [sV p_s, sV k_abcdefghijkl_h0e2e2c]) ⟨(S.tm rfl), rfl, trivial⟩ Tryz.call82) (strings_Trim_ok _ p_s k_abcdefghijkl_h0e2e2c _ hr1) rfl ?_; clear S; intro v1 a w5 hv1 hk4 hn1 S
   subst hv1
   refine l_want S rfl rfl rfl hb4 (lv S (rn_seql (S.tm rfl) rfl) rfl ?_); clear S; intro a S
   refine lv S (rn_and_t hb4 (S.tm rfl) (S.tm rfl)) rfl ?_; clear S; intro a S
   refine l_done (then_n ?_)
   exact ⟨_, h, hk4, S.nf [] rfl ⟨rfl, trivial⟩⟩
  ·replace h := iteF h hb4
   iterate 3 (refine l_skip S rfl rfl rfl (neq_f hb4) rfl ?_ rfl; clear S; intro a S)
   refine lv S (rn_and_f true hb4 (S.tm rfl) rfl) rfl ?_; clear S; intro a S
   refine l_done (then_n ?_)
   exact ⟨_, h, Keep.refl _ _, S.nf [] rfl ⟨rfl, trivial⟩⟩
 clear S h; rintro a w4 ⟨c3, h, hk5, S⟩; rw [hj3] at h; clear hj3 j3
 refine lv S (rn_assign (S.tm rfl)) rfl ?_; clear S; intro a S
 refine l_done (then_n (wp_ret ?_))
 obtain rfl := Option.some.inj h
 exact f_ret S Tryz.results53 rfl rfl
theorem words_Within_ok (w : World) (p_n : Int) (p_low : Int) (p_high : Int) (r : Bool) (h : words_Within p_n p_low p_high = r) :
    Calls Tryz.prog 41 [iV p_n, iV p_low, iV p_high].toArray w (Ret w [] fun _ v _ => v = bV r) := by
 refine f_enter [] [] Tryz.func41 rfl Tryz.ntmps41 rfl (by simp) (by simp [fps]) (by simp [fps]) fun a S => ?_
 unfold words_Within at h
 replace S := S.nk [] [(0, iV p_n), (1, iV p_low), (2, iV p_high)] [] rfl (subR rfl)
 refine f_seq (f_region (lv S (rn_assign rfl) rfl ?_)); clear S; intro a S
 refine l_done (then_n (f_seq (f_region (lv S (rn_move (S.tm rfl)) rfl ?_)))); clear S; intro a S
 refine lv S (rn_move (S.tm rfl)) rfl ?_; clear S; intro a S
 refine lv S (rn_geq (S.tm rfl) (S.tm rfl)) rfl ?_; clear S; intro a S
 refine lv S (rn_move (S.tm rfl)) rfl ?_; clear S; intro a S
 refine f_cutm 4 (fun a w' => Keep [] w w' ∧ Sx w [] nov [] [(14, bV ((decide (p_low ≤ p_n)) && (decide (p_n ≤ p_high))))] 15 a w') ?_ ?_
 ·rcases Bool.eq_false_or_eq_true (decide (p_low ≤ p_n)) with hb1 | hb1
  ·refine l_want S rfl rfl rfl hb1 (lv S (rn_move (S.tm rfl)) rfl ?_); clear S; intro a S
   refine l_want S rfl rfl rfl hb1 (lv S (rn_move (S.tm rfl)) rfl ?_); clear S; intro a S
   refine l_want S rfl rfl rfl hb1 (lv S (rn_leq (S.tm rfl) (S.tm rfl)) rfl ?_); clear S; intro a S
   refine lv S (rn_and_t hb1 (S.tm rfl) (S.tm rfl)) rfl ?_; clear S; intro a S
   refine l_done (then_n ?_)
   exact ⟨Keep.refl _ _, S.nf [] rfl ⟨rfl, trivial⟩⟩
  ·iterate 3 (refine l_skip S rfl rfl rfl (neq_f hb1) rfl ?_ rfl; clear S; intro a S)
   refine lv S (rn_and_f (decide (p_n ≤ p_high)) hb1 (S.tm rfl) rfl) rfl ?_; clear S; intro a S
   refine l_done (then_n ?_)
   exact ⟨Keep.refl _ _, S.nf [] rfl ⟨rfl, trivial⟩⟩
 clear S; rintro a w1 ⟨hk1, S⟩
 refine lv S (rn_assign (S.tm rfl)) rfl ?_; clear S; intro a S
 refine l_done (then_n (wp_ret ?_))
 subst h
 exact f_ret S Tryz.results41 rfl rfl
theorem timing_CheckRace_ok (w : World) (p_r : GRace) (r : Int) (h : timing_CheckRace p_r = some r) :
    Calls Tryz.prog 89 [.agg (GRace.enc p_r).toArray].toArray w (Ret w [] fun _ v _ => v = iV r) := by
 refine f_enter [] [] Tryz.func89 rfl Tryz.ntmps89 rfl (by simp) (by simp [fps]) (by simp [fps]) fun a S => ?_
 unfold timing_CheckRace at h
 replace S := S.nk [] [(0, .agg (GRace.enc p_r).toArray)] [] rfl ⟨rfl, trivial⟩
 refine f_seq (f_region (l_box S (S.tm rfl) (cs := (GRace.enc p_r)) rfl rfl ?_)); clear S; intro a w1 b1 hz1 hk1 S
 refine lv S (rn_assign rfl) rfl ?_; clear S; intro a S
 refine l_done (then_n (f_seq (wp_block (f_seq (f_region (lv S (rn_fld fa_42_0 (S.tm rfl)) rfl ?_)))))); clear S; intro a S
 refine lv S (rn_load Tryz.isAgg9 (S.tm rfl) (S.cell (i := 0) rfl rfl)) rfl ?_; clear S; intro a S
 obtain ⟨r1, hr1, h⟩ := bindE h
 refine l_enter S (fun _ => run_call (vs := [sV p_r.Key]) ⟨(S.tm rfl), trivial⟩ Tryz.call53) (words_IsKey_ok _ p_r.Key _ hr1) rfl ?_; clear S; intro v1 a w2 hv1 hk2 hn1 S
 subst hv1
 refine lv S (rn_not (S.tm rfl)) rfl ?_; clear S; intro a S
 refine lv S (rn_assign (S.tm rfl)) rfl ?_; clear S; intro a S
 refine l_done (then_n (f_cond (S.tm rfl) (fun hb1 => ?_) (fun hb1 => ?_)))
 ·replace h := iteT h hb1
  refine f_seq (f_region (lv S (rn_assign rfl) rfl ?_)); clear S; intro a S
  refine l_done (then_n (wp_ret (blk_r (then_r ?_))))
  obtain rfl := Option.some.inj h
  exact f_ret S Tryz.results89 rfl rfl
 ·replace h := iteF h hb1
  refine f_seq (f_region (lv S (rn_fld fa_42_2 (S.tm rfl)) rfl ?_)); clear S; intro a S
  refine lv S (rn_load Tryz.isAgg3 (S.tm rfl) (S.cell (i := 0) rfl rfl)) rfl ?_; clear S; intro a S
  refine l_enter S (fun _ => run_call (vs := [iV p_r.Stroke, iV 1, iV 5]) ⟨(S.tm rfl), rfl, rfl, trivial⟩ Tryz.call41) (words_Within_ok _ p_r.Stroke 1 5 _ rfl) rfl ?_; clear S; intro v2 a w3 hv2 hk3 hn2 S
  subst hv2
  refine lv S (rn_not (S.tm rfl)) rfl ?_; clear S; intro a S
  refine lv S (rn_move (S.tm rfl)) rfl ?_; clear S; intro a S
  refine f_cutm 5 (fun a w' => Keep [] w3 w' ∧ Sx w [] nov [.blk b1 (GRace.enc p_r) 42] [(1, .pointer (some ⟨b1, 0, none⟩)), (18, bV ((!(words_Within p_r.Stroke 1 5)) || (!(words_Within p_r.Sex 0 2))))] 95 a w') ?_ ?_
  ·rcases Bool.eq_false_or_eq_true (!(words_Within p_r.Stroke 1 5)) with hb2 | hb2
   ·iterate 4 (refine l_skip S rfl rfl rfl (neq_t hb2) rfl ?_ rfl; clear S; intro a S)
    refine lv S (rn_or_t (!(words_Within p_r.Sex 0 2)) hb2 (S.tm rfl) rfl) rfl ?_; clear S; intro a S
    refine l_done (then_n ?_)
    exact ⟨Keep.refl _ _, S.nf [true] rfl (subR rfl)⟩
   ·refine l_want S rfl rfl rfl hb2 (lv S (rn_fld fa_42_5 (S.tm rfl)) rfl ?_); clear S; intro a S
    refine l_want S rfl rfl rfl hb2 (lv S (rn_load Tryz.isAgg3 (S.tm rfl) (S.cell (i := 0) rfl rfl)) rfl ?_); clear S; intro a S
    refine l_want S rfl rfl rfl hb2 (l_enter S (fun _ => run_call (vs := [iV p_r.Sex, iV 0, iV 2]) ⟨(S.tm rfl), rfl, rfl, trivial⟩ Tryz.call41) (words_Within_ok _ p_r.Sex 0 2 _ rfl) rfl ?_); clear S; intro v3 a w5 hv3 hk4 hn3 S
    subst hv3
    refine l_want S rfl rfl rfl hb2 (lv S (rn_not (S.tm rfl)) rfl ?_); clear S; intro a S
    refine lv S (rn_or_f hb2 (S.tm rfl) (S.tm rfl)) rfl ?_; clear S; intro a S
    refine l_done (then_n ?_)
    exact ⟨hk4, S.nf [true] rfl (subR rfl)⟩
  clear S; rintro a w4 ⟨hk5, S⟩
  refine lv S (rn_assign (S.tm rfl)) rfl ?_; clear S; intro a S
  refine l_done (then_n (f_cond (S.tm rfl) (fun hb3 => ?_) (fun hb3 => ?_)))
  ·replace h := iteT h hb3
   refine f_seq (f_region (lv S (rn_assign rfl) rfl ?_)); clear S; intro a S
   refine l_done (then_n (wp_ret (blk_r (then_r ?_))))
   obtain rfl := Option.some.inj h
   exact f_ret S Tryz.results89 rfl rfl
  ·replace h := iteF h hb3
   refine f_seq (f_region (lv S (rn_fld fa_42_3 (S.tm rfl)) rfl ?_)); clear S; intro a S
   refine lv S (rn_load Tryz.isAgg3 (S.tm rfl) (S.cell (i := 0) rfl rfl)) rfl ?_; clear S; intro a S
   refine lv S (rn_neq (S.tm rfl) rfl) rfl ?_; clear S; intro a S
   refine lv S (rn_move (S.tm rfl)) rfl ?_; clear S; intro a S
   refine f_cutm 4 (fun a w' => Keep [] w4 w' ∧ Sx w [] nov [.blk b1 (GRace.enc p_r) 42] [(1, .pointer (some ⟨b1, 0, none⟩)), (27, bV ((!decide (p_r.Course = 25)) && (!decide (p_r.Course = 50))))] 95 a w') ?_ ?_
   ·rcases Bool.eq_false_or_eq_true (!decide (p_r.Course = 25)) with hb4 | hb4
    ·refine l_want S rfl rfl rfl hb4 (lv S (rn_fld fa_42_3 (S.tm rfl)) rfl ?_); clear S; intro a S
     refine l_want S rfl rfl rfl hb4 (lv S (rn_load Tryz.isAgg3 (S.tm rfl) (S.cell (i := 0) rfl rfl)) rfl ?_); clear S; intro a S
     refine l_want S rfl rfl rfl hb4 (lv S (rn_neq (S.tm rfl) rfl) rfl ?_); clear S; intro a S
     refine lv S (rn_and_t hb4 (S.tm rfl) (S.tm rfl)) rfl ?_; clear S; intro a S
     refine l_done (then_n ?_)
     exact ⟨Keep.refl _ _, S.nf [true] rfl (subR rfl)⟩
    ·iterate 3 (refine l_skip S rfl rfl rfl (neq_f hb4) rfl ?_ rfl; clear S; intro a S)
     refine lv S (rn_and_f (!decide (p_r.Course = 50)) hb4 (S.tm rfl) rfl) rfl ?_; clear S; intro a S
     refine l_done (then_n ?_)
     exact ⟨Keep.refl _ _, S.nf [true] rfl (subR rfl)⟩
   clear S; rintro a w6 ⟨hk6, S⟩
   refine lv S (rn_move (S.tm rfl)) rfl ?_; clear S; intro a S
   refine f_cutm 5 (fun a w' => Keep [] w6 w' ∧ Sx w [] nov [.blk b1 (GRace.enc p_r) 42] [(1, .pointer (some ⟨b1, 0, none⟩)), (33, bV (((!decide (p_r.Course = 25)) && (!decide (p_r.Course = 50))) || (!(words_Within p_r.Legs 1 4))))] 95 a w') ?_ ?_
   ·rcases Bool.eq_false_or_eq_true ((!decide (p_r.Course = 25)) && (!decide (p_r.Course = 50))) with hb5 | hb5
    ·iterate 4 (refine l_skip S rfl rfl rfl (neq_t hb5) rfl ?_ rfl; clear S; intro a S)
     refine lv S (rn_or_t (!(words_Within p_r.Legs 1 4)) hb5 (S.tm rfl) rfl) rfl ?_; clear S; intro a S
     refine l_done (then_n ?_)
     exact ⟨Keep.refl _ _, S.nf [true] rfl (subR rfl)⟩
    ·refine l_want S rfl rfl rfl hb5 (lv S (rn_fld fa_42_4 (S.tm rfl)) rfl ?_); clear S; intro a S
     refine l_want S rfl rfl rfl hb5 (lv S (rn_load Tryz.isAgg3 (S.tm rfl) (S.cell (i := 0) rfl rfl)) rfl ?_); clear S; intro a S
     refine l_want S rfl rfl rfl hb5 (l_enter S (fun _ => run_call (vs := [iV p_r.Legs, iV 1, iV 4]) ⟨(S.tm rfl), rfl, rfl, trivial⟩ Tryz.call41) (words_Within_ok _ p_r.Legs 1 4 _ rfl) rfl ?_); clear S; intro v4 a w8 hv4 hk7 hn4 S
     subst hv4
     refine l_want S rfl rfl rfl hb5 (lv S (rn_not (S.tm rfl)) rfl ?_); clear S; intro a S
     refine lv S (rn_or_f hb5 (S.tm rfl) (S.tm rfl)) rfl ?_; clear S; intro a S
     refine l_done (then_n ?_)
     exact ⟨hk7, S.nf [true] rfl (subR rfl)⟩
   clear S; rintro a w7 ⟨hk8, S⟩
   refine lv S (rn_move (S.tm rfl)) rfl ?_; clear S; intro a S
   refine f_cutm 5 (fun a w' => Keep [] w7 w' ∧ Sx w [] nov [.blk b1 (GRace.enc p_r) 42] [(1, .pointer (some ⟨b1, 0, none⟩)), (39, bV ((((!decide (p_r.Course = 25)) && (!decide (p_r.Course = 50))) || (!(words_Within p_r.Legs 1 4))) || (!(words_Within p_r.Metres 25 1500))))] 95 a w') ?_ ?_
   ·rcases Bool.eq_false_or_eq_true (((!decide (p_r.Course = 25)) && (!decide (p_r.Course = 50))) || (!(words_Within p_r.Legs 1 4))) with hb6 | hb6
    ·iterate 4 (refine l_skip S rfl rfl rfl (neq_t hb6) rfl ?_ rfl; clear S; intro a S)
     refine lv S (rn_or_t (!(words_Within p_r.Metres 25 1500)) hb6 (S.tm rfl) rfl) rfl ?_; clear S; intro a S
     refine l_done (then_n ?_)
     exact ⟨Keep.refl _ _, S.nf [true] rfl (subR rfl)⟩
    ·refine l_want S rfl rfl rfl hb6 (lv S (rn_fld fa_42_1 (S.tm rfl)) rfl ?_); clear S; intro a S
     refine l_want S rfl rfl rfl hb6 (lv S (rn_load Tryz.isAgg3 (S.tm rfl) (S.cell (i := 0) rfl rfl)) rfl ?_); clear S; intro a S
     refine l_want S rfl rfl rfl hb6 (l_enter S (fun _ => run_call (vs := [iV p_r.Metres, iV 25, iV 1500]) ⟨(S.tm rfl), rfl, rfl, trivial⟩ Tryz.call41) (words_Within_ok _ p_r.Metres 25 1500 _ rfl) rfl ?_); clear S; intro v5 a w10 hv5 hk9 hn5 S
     subst hv5
     refine l_want S rfl rfl rfl hb6 (lv S (rn_not (S.tm rfl)) rfl ?_); clear S; intro a S
     refine lv S (rn_or_f hb6 (S.tm rfl) (S.tm rfl)) rfl ?_; clear S; intro a S
     refine l_done (then_n ?_)
     exact ⟨hk9, S.nf [true] rfl (subR rfl)⟩
   clear S; rintro a w9 ⟨hk10, S⟩
   refine lv S (rn_move (S.tm rfl)) rfl ?_; clear S; intro a S
   refine f_cutm 4 (fun a w' => Keep [] w9 w' ∧ Sx w [] nov [.blk b1 (GRace.enc p_r) 42] [(1, .pointer (some ⟨b1, 0, none⟩)), (44, bV (((((!decide (p_r.Course = 25)) && (!decide (p_r.Course = 50))) || (!(words_Within p_r.Legs 1 4))) || (!(words_Within p_r.Metres 25 1500))) || (decide (p_r.Young < 0))))] 95 a w') ?_ ?_
   ·rcases Bool.eq_false_or_eq_true ((((!decide (p_r.Course = 25)) && (!decide (p_r.Course = 50))) || (!(words_Within p_r.Legs 1 4))) || (!(words_Within p_r.Metres 25 1500))) with hb7 | hb7
    ·iterate 3 (refine l_skip S rfl rfl rfl (neq_t hb7) rfl ?_ rfl; clear S; intro a S)
     refine lv S (rn_or_t (decide (p_r.Young < 0)) hb7 (S.tm rfl) rfl) rfl ?_; clear S; intro a S
     refine l_done (then_n ?_)
     exact ⟨Keep.refl _ _, S.nf [true] rfl (subR rfl)⟩
    ·refine l_want S rfl rfl rfl hb7 (lv S (rn_fld fa_42_6 (S.tm rfl)) rfl ?_); clear S; intro a S
     refine l_want S rfl rfl rfl hb7 (lv S (rn_load Tryz.isAgg3 (S.tm rfl) (S.cell (i := 0) rfl rfl)) rfl ?_); clear S; intro a S
     refine l_want S rfl rfl rfl hb7 (lv S (rn_lss (S.tm rfl) rfl) rfl ?_); clear S; intro a S
     refine lv S (rn_or_f hb7 (S.tm rfl) (S.tm rfl)) rfl ?_; clear S; intro a S
     refine l_done (then_n ?_)
     exact ⟨Keep.refl _ _, S.nf [true] rfl (subR rfl)⟩
   clear S; rintro a w11 ⟨hk11, S⟩
   refine lv S (rn_move (S.tm rfl)) rfl ?_; clear S; intro a S
   refine f_cutm 6 (fun a w' => Keep [] w11 w' ∧ Sx w [] nov [.blk b1 (GRace.enc p_r) 42] [(1, .pointer (some ⟨b1, 0, none⟩)), (51, bV ((((((!decide (p_r.Course = 25)) && (!decide (p_r.Course = 50))) || (!(words_Within p_r.Legs 1 4))) || (!(words_Within p_r.Metres 25 1500))) || (decide (p_r.Young < 0))) || (decide (p_r.Old < p_r.Young))))] 95 a w') ?_ ?_
   ·rcases Bool.eq_false_or_eq_true (((((!decide (p_r.Course = 25)) && (!decide (p_r.Course = 50))) || (!(words_Within p_r.Legs 1 4))) || (!(words_Within p_r.Metres 25 1500))) || (decide (p_r.Young < 0))) with hb8 | hb8
    ·iterate 5 (refine l_skip S rfl rfl rfl (neq_t hb8) rfl ?_ rfl; clear S; intro a S)
     refine lv S (rn_or_t (decide (p_r.Old < p_r.Young)) hb8 (S.tm rfl) rfl) rfl ?_; clear S; intro a S
     refine l_done (then_n ?_)
     exact ⟨Keep.refl _ _, S.nf [true] rfl (subR rfl)⟩
    ·refine l_want S rfl rfl rfl hb8 (lv S (rn_fld fa_42_6 (S.tm rfl)) rfl ?_); clear S; intro a S
     refine l_want S rfl rfl rfl hb8 (lv S (rn_load Tryz.isAgg3 (S.tm rfl) (S.cell (i := 0) rfl rfl)) rfl ?_); clear S; intro a S
     refine l_want S rfl rfl rfl hb8 (lv S (rn_fld fa_42_7 (S.tm rfl)) rfl ?_); clear S; intro a S
     refine l_want S rfl rfl rfl hb8 (lv S (rn_load Tryz.isAgg3 (S.tm rfl) (S.cell (i := 0) rfl rfl)) rfl ?_); clear S; intro a S
     refine l_want S rfl rfl rfl hb8 (lv S (rn_gtr (S.tm rfl) (S.tm rfl)) rfl ?_); clear S; intro a S
     refine lv S (rn_or_f hb8 (S.tm rfl) (S.tm rfl)) rfl ?_; clear S; intro a S
     refine l_done (then_n ?_)
     exact ⟨Keep.refl _ _, S.nf [true] rfl (subR rfl)⟩
   clear S; rintro a w12 ⟨hk12, S⟩
   refine lv S (rn_move (S.tm rfl)) rfl ?_; clear S; intro a S
   refine f_cutm 4 (fun a w' => Keep [] w12 w' ∧ Sx w [] nov [.blk b1 (GRace.enc p_r) 42] [(1, .pointer (some ⟨b1, 0, none⟩)), (56, bV (((((((!decide (p_r.Course = 25)) && (!decide (p_r.Course = 50))) || (!(words_Within p_r.Legs 1 4))) || (!(words_Within p_r.Metres 25 1500))) || (decide (p_r.Young < 0))) || (decide (p_r.Old < p_r.Young))) || (decide (120 < p_r.Old))))] 95 a w') ?_ ?_
   ·rcases Bool.eq_false_or_eq_true ((((((!decide (p_r.Course = 25)) && (!decide (p_r.Course = 50))) || (!(words_Within p_r.Legs 1 4))) || (!(words_Within p_r.Metres 25 1500))) || (decide (p_r.Young < 0))) || (decide (p_r.Old < p_r.Young))) with hb9 | hb9
    ·iterate 3 (refine l_skip S rfl rfl rfl (neq_t hb9) rfl ?_ rfl; clear S; intro a S)
     refine lv S (rn_or_t (decide (120 < p_r.Old)) hb9 (S.tm rfl) rfl) rfl ?_; clear S; intro a S
     refine l_done (then_n ?_)
     exact ⟨Keep.refl _ _, S.nf [true] rfl (subR rfl)⟩
    ·refine l_want S rfl rfl rfl hb9 (lv S (rn_fld fa_42_7 (S.tm rfl)) rfl ?_); clear S; intro a S
     refine l_want S rfl rfl rfl hb9 (lv S (rn_load Tryz.isAgg3 (S.tm rfl) (S.cell (i := 0) rfl rfl)) rfl ?_); clear S; intro a S
     refine l_want S rfl rfl rfl hb9 (lv S (rn_gtr (S.tm rfl) rfl) rfl ?_); clear S; intro a S
     refine lv S (rn_or_f hb9 (S.tm rfl) (S.tm rfl)) rfl ?_; clear S; intro a S
     refine l_done (then_n ?_)
     exact ⟨Keep.refl _ _, S.nf [true] rfl (subR rfl)⟩
   clear S; rintro a w13 ⟨hk13, S⟩
   refine lv S (rn_assign (S.tm rfl)) rfl ?_; clear S; intro a S
   refine l_done (then_n (f_cond (S.tm rfl) (fun hb10 => ?_) (fun hb10 => ?_)))
   ·replace h := iteT h hb10
    refine f_seq (f_region (lv S (rn_assign rfl) rfl ?_)); clear S; intro a S
    refine l_done (then_n (wp_ret (blk_r (then_r ?_))))
    obtain rfl := Option.some.inj h
    exact f_ret S Tryz.results89 rfl rfl
   ·replace h := iteF h hb10
    refine f_seq (f_region (lv S (rn_fld fa_42_1 (S.tm rfl)) rfl ?_)); clear S; intro a S
    refine lv S (rn_load Tryz.isAgg3 (S.tm rfl) (S.cell (i := 0) rfl rfl)) rfl ?_; clear S; intro a S
    refine lv S (rn_fld fa_42_3 (S.tm rfl)) rfl ?_; clear S; intro a S
    refine lv S (rn_load Tryz.isAgg3 (S.tm rfl) (S.cell (i := 0) rfl rfl)) rfl ?_; clear S; intro a S
    obtain ⟨hc1, h⟩ := chkE h
    refine lv S (rn_rem (S.tm rfl) (S.tm rfl) (ne0_of hc1)) rfl ?_; clear S; intro a S
    refine lv S (rn_neq (S.tm rfl) rfl) rfl ?_; clear S; intro a S
    refine lv S (rn_assign (S.tm rfl)) rfl ?_; clear S; intro a S
    refine l_done (then_n (f_cond (S.tm rfl) (fun hb11 => ?_) (fun hb11 => ?_)))
    ·replace h := iteT h hb11
     refine f_seq (f_region (lv S (rn_assign rfl) rfl ?_)); clear S; intro a S
     refine l_done (then_n (wp_ret (blk_r (then_r ?_))))
     obtain rfl := Option.some.inj h
     exact f_ret S Tryz.results89 rfl rfl
    ·replace h := iteF h hb11
     refine f_seq (f_seq (f_region (lv S (rn_fld fa_42_2 (S.tm rfl)) rfl ?_))); clear S; intro a S
     refine lv S (rn_load Tryz.isAgg3 (S.tm rfl) (S.cell (i := 0) rfl rfl)) rfl ?_; clear S; intro a S
     refine lv S (rn_eql (S.tm rfl) rfl) rfl ?_; clear S; intro a S
     refine lv S (rn_move (S.tm rfl)) rfl ?_; clear S; intro a S
     refine f_cutm 4 (fun a w' => Keep [] w13 w' ∧ Sx w [] nov [.blk b1 (GRace.enc p_r) 42] [(1, .pointer (some ⟨b1, 0, none⟩)), (72, bV ((decide (p_r.Stroke = 5)) && (decide (p_r.Legs = 1))))] 95 a w') ?_ ?_
     ·rcases Bool.eq_false_or_eq_true (decide (p_r.Stroke = 5)) with hb12 | hb12
      ·refine l_want S rfl rfl rfl hb12 (lv S (rn_fld fa_42_4 (S.tm rfl)) rfl ?_); clear S; intro a S
       refine l_want S rfl rfl rfl hb12 (lv S (rn_load Tryz.isAgg3 (S.tm rfl) (S.cell (i := 0) rfl rfl)) rfl ?_); clear S; intro a S
       refine l_want S rfl rfl rfl hb12 (lv S (rn_eql (S.tm rfl) rfl) rfl ?_); clear S; intro a S
       refine lv S (rn_and_t hb12 (S.tm rfl) (S.tm rfl)) rfl ?_; clear S; intro a S
       refine l_done (then_n ?_)
       exact ⟨Keep.refl _ _, S.nf [true] rfl (subR rfl)⟩
      ·iterate 3 (refine l_skip S rfl rfl rfl (neq_f hb12) rfl ?_ rfl; clear S; intro a S)
       refine lv S (rn_and_f (decide (p_r.Legs = 1)) hb12 (S.tm rfl) rfl) rfl ?_; clear S; intro a S
       refine l_done (then_n ?_)
       exact ⟨Keep.refl _ _, S.nf [true] rfl (subR rfl)⟩
     clear S; rintro a w14 ⟨hk14, S⟩
     refine lv S (rn_move (S.tm rfl)) rfl ?_; clear S; intro a S
     obtain ⟨j1, hj1, h⟩ := joinE h
     refine f_cutm 8 (fun a w' => ∃ c1, j1 c1 = some r ∧ Keep [] w14 w' ∧ Sx w [] nov [.blk b1 (GRace.enc p_r) 42] [(1, .pointer (some ⟨b1, 0, none⟩)), (81, bV c1)] 95 a w') ?_ ?_
     ·rcases Bool.eq_false_or_eq_true ((decide (p_r.Stroke = 5)) && (decide (p_r.Legs = 1))) with hb13 | hb13
      ·replace h := iteT h hb13
       refine l_want S rfl rfl rfl hb13 (lv S (rn_fld fa_42_1 (S.tm rfl)) rfl ?_); clear S; intro a S
       refine l_want S rfl rfl rfl hb13 (lv S (rn_load Tryz.isAgg3 (S.tm rfl) (S.cell (i := 0) rfl rfl)) rfl ?_); clear S; intro a S
       refine l_want S rfl rfl rfl hb13 (lv S (rn_fld fa_42_3 (S.tm rfl)) rfl ?_); clear S; intro a S
       refine l_want S rfl rfl rfl hb13 (lv S (rn_load Tryz.isAgg3 (S.tm rfl) (S.cell (i := 0) rfl rfl)) rfl ?_); clear S; intro a S
       refine l_want S rfl rfl rfl hb13 (lv S (rn_mul rfl (S.tm rfl)) rfl ?_); clear S; intro a S
       refine l_want S rfl rfl rfl hb13 ?_
       obtain ⟨hc2, h⟩ := chkE h
       refine lv S (rn_rem (S.tm rfl) (S.tm rfl) (ne0_of hc2)) rfl ?_; clear S; intro a S
       refine l_want S rfl rfl rfl hb13 (lv S (rn_neq (S.tm rfl) rfl) rfl ?_); clear S; intro a S
       refine lv S (rn_and_t hb13 (S.tm rfl) (S.tm rfl)) rfl ?_; clear S; intro a S
       refine l_done (then_n ?_)
       exact ⟨_, h, Keep.refl _ _, S.nf [true] rfl (subR rfl)⟩
      ·replace h := iteF h hb13
       iterate 7 (refine l_skip S rfl rfl rfl (neq_f hb13) rfl ?_ rfl; clear S; intro a S)
       refine lv S (rn_and_f true hb13 (S.tm rfl) rfl) rfl ?_; clear S; intro a S
       refine l_done (then_n ?_)
       exact ⟨_, h, Keep.refl _ _, S.nf [true] rfl (subR rfl)⟩
     clear S h; rintro a w15 ⟨c1, h, hk15, S⟩; rw [hj1] at h; clear hj1 j1
     refine lv S (rn_assign (S.tm rfl)) rfl ?_; clear S; intro a S
     refine l_done (then_n ?_)
     obtain ⟨j2, hj2, h⟩ := joinE h
     refine f_join (fun a w' => ∃ x1 : Bool, j2 x1 = some r ∧ Sx w [] nov [.blk b1 (GRace.enc p_r) 42] [(64, bV x1)] 95 a w') ?_ ?_
     ·refine f_cond (S.tm rfl) (fun hb14 => ?_) (fun hb14 => ?_)
      ·replace h := iteT h hb14
       refine wp_skip (then_n ?_)
       exact ⟨c1, h, S.nf [true] rfl ⟨rfl, trivial⟩⟩
      ·replace h := iteF h hb14
       refine f_region (lv S (rn_fld fa_42_2 (S.tm rfl)) rfl ?_); clear S; intro a S
       refine lv S (rn_load Tryz.isAgg3 (S.tm rfl) (S.cell (i := 0) rfl rfl)) rfl ?_; clear S; intro a S
       refine lv S (rn_eql (S.tm rfl) rfl) rfl ?_; clear S; intro a S
       refine lv S (rn_move (S.tm rfl)) rfl ?_; clear S; intro a S
       refine f_cutm 4 (fun a w' => Keep [] w15 w' ∧ Sx w [] nov [.blk b1 (GRace.enc p_r) 42] [(1, .pointer (some ⟨b1, 0, none⟩)), (89, bV ((decide (p_r.Stroke = 5)) && (decide (1 < p_r.Legs))))] 95 a w') ?_ ?_
       ·rcases Bool.eq_false_or_eq_true (decide (p_r.Stroke = 5)) with hb15 | hb15
        ·refine l_want S rfl rfl rfl hb15 (lv S (rn_fld fa_42_4 (S.tm rfl)) rfl ?_); clear S; intro a S
         refine l_want S rfl rfl rfl hb15 (lv S (rn_load Tryz.isAgg3 (S.tm rfl) (S.cell (i := 0) rfl rfl)) rfl ?_); clear S; intro a S
         refine l_want S rfl rfl rfl hb15 (lv S (rn_gtr (S.tm rfl) rfl) rfl ?_); clear S; intro a S
         refine lv S (rn_and_t hb15 (S.tm rfl) (S.tm rfl)) rfl ?_; clear S; intro a S
         refine l_done (then_n ?_)
         exact ⟨Keep.refl _ _, S.nf [true] rfl (subR rfl)⟩
        ·iterate 3 (refine l_skip S rfl rfl rfl (neq_f hb15) rfl ?_ rfl; clear S; intro a S)
         refine lv S (rn_and_f (decide (1 < p_r.Legs)) hb15 (S.tm rfl) rfl) rfl ?_; clear S; intro a S
         refine l_done (then_n ?_)
         exact ⟨Keep.refl _ _, S.nf [true] rfl (subR rfl)⟩
       clear S; rintro a w17 ⟨hk16, S⟩
       refine lv S (rn_move (S.tm rfl)) rfl ?_; clear S; intro a S
       refine f_cutm 4 (fun a w' => Keep [] w17 w' ∧ Sx w [] nov [.blk b1 (GRace.enc p_r) 42] [(94, bV (((decide (p_r.Stroke = 5)) && (decide (1 < p_r.Legs))) && (!decide (p_r.Legs = 4))))] 95 a w') ?_ ?_
       ·rcases Bool.eq_false_or_eq_true ((decide (p_r.Stroke = 5)) && (decide (1 < p_r.Legs))) with hb16 | hb16
        ·refine l_want S rfl rfl rfl hb16 (lv S (rn_fld fa_42_4 (S.tm rfl)) rfl ?_); clear S; intro a S
         refine l_want S rfl rfl rfl hb16 (lv S (rn_load Tryz.isAgg3 (S.tm rfl) (S.cell (i := 0) rfl rfl)) rfl ?_); clear S; intro a S
         refine l_want S rfl rfl rfl hb16 (lv S (rn_neq (S.tm rfl) rfl) rfl ?_); clear S; intro a S
         refine lv S (rn_and_t hb16 (S.tm rfl) (S.tm rfl)) rfl ?_; clear S; intro a S
         refine l_done (then_n ?_)
         exact ⟨Keep.refl _ _, S.nf [true] rfl ⟨rfl, trivial⟩⟩
        ·iterate 3 (refine l_skip S rfl rfl rfl (neq_f hb16) rfl ?_ rfl; clear S; intro a S)
         refine lv S (rn_and_f (!decide (p_r.Legs = 4)) hb16 (S.tm rfl) rfl) rfl ?_; clear S; intro a S
         refine l_done (then_n ?_)
         exact ⟨Keep.refl _ _, S.nf [true] rfl ⟨rfl, trivial⟩⟩
       clear S; rintro a w18 ⟨hk17, S⟩
       refine lv S (rn_assign (S.tm rfl)) rfl ?_; clear S; intro a S
       refine l_done (then_n ?_)
       exact ⟨(((decide (p_r.Stroke = 5)) && (decide (1 < p_r.Legs))) && (!decide (p_r.Legs = 4))), h, S.nf [true] rfl ⟨rfl, trivial⟩⟩
     clear S h; rintro a w16 ⟨x1, h, S⟩; rw [hj2] at h; clear hj2 j2
     refine then_n (f_cond (S.tm rfl) (fun hb17 => ?_) (fun hb17 => ?_))
     ·replace h := iteT h hb17
      refine f_seq (f_region (lv S (rn_assign rfl) rfl ?_)); clear S; intro a S
      refine l_done (then_n (wp_ret (blk_r (then_r ?_))))
      obtain rfl := Option.some.inj h
      exact f_ret S Tryz.results89 rfl rfl
     ·replace h := iteF h hb17
      refine wp_skip (blk_n (then_n (f_seq (f_region (lv S (rn_assign rfl) rfl ?_))))); clear S; intro a S
      refine l_done (then_n (wp_ret ?_))
      obtain rfl := Option.some.inj h
      exact f_ret S Tryz.results89 rfl rfl
set_option maxRecDepth 20000 in
theorem swimmer_checkRaces_ok (w : World) (v_p_r : Value) (p_r : List GRace) (hs_p_r : Slc (view w []) 8 v_p_r (p_r.map GRace.enc)) (r : Int) (h : swimmer_checkRaces p_r = some r) :
    Calls Tryz.prog 63 [v_p_r].toArray w (Ret w [] fun _ v _ => v = iV r) := by
 refine f_enter [] [] Tryz.func63 rfl Tryz.ntmps63 rfl (by simp) (by simp [fps]) (by simp [fps]) fun a S => ?_
 unfold swimmer_checkRaces at h
 replace S := S.nk [] [(0, v_p_r)] [] rfl ⟨rfl, trivial⟩
 refine f_seq (f_region (lv S (rn_assign rfl) rfl ?_)); clear S; intro a S
 refine l_done (then_n (f_seq (f_seq (f_region (lv S (rn_move (S.tm rfl)) rfl ?_))))); clear S; intro a S
 refine lv S (rn_lenT sl_26 (S.tm rfl) (slc_len hs_p_r)) rfl ?_; clear S; intro a S
 refine lv S (rn_gtr (S.tm rfl) rfl) rfl ?_; clear S; intro a S
 refine l_done (then_n (f_cond (S.tm rfl) (fun hb1 => ?_) (fun hb1 => ?_)))
 ·replace h := iteT h hb1
  refine f_seq (f_region (lv S (rn_assign rfl) rfl ?_)); clear S; intro a S
  refine l_done (then_n (wp_ret (then_r ?_)))
  obtain rfl := Option.some.inj h
  exact f_ret S Tryz.results63 rfl rfl
 ·replace h := iteF h hb1
  refine wp_skip (then_n (f_seq (f_seq (f_region (lv S (rn_move (S.tm rfl)) rfl ?_))))); clear S; intro a S
  refine lv S (rn_lenT sl_26 (S.tm rfl) (slc_len hs_p_r)) rfl ?_; clear S; intro a S
  refine lv S (rn_move rfl) rfl ?_; clear S; intro a S
  refine l_done (then_n ?_)
  replace S := S.nk [] [(0, v_p_r), (9, v_p_r), (10, iV (p_r.length : Int)), (11, iV 0)] [] rfl (subR rfl)
  obtain ⟨j1, hj1, h⟩ := joinE h
  refine f_join (fun a w' => j1 = some r ∧ Sx w [] nov [] [] 35 a w') ?_ ?_
  ·refine wp_block (f_loop (fun (ys1 : List GRace) a w' => ∃ i1 : Nat, (∃ dn, p_r = dn ++ ys1 ∧ dn.length = i1) ∧ swimmer_checkRaces_l1 p_r j1 ys1 i1 = some r ∧ Sx w [] nov [] [(0, v_p_r), (9, v_p_r), (10, iV (p_r.length : Int)), (11, iV (i1 : Int))] 35 a w') List.length p_r ⟨0, ⟨[], rfl, rfl⟩, h, S.nf [] rfl (subR rfl)⟩ ?_)
   clear S h; rintro ys1 a w1 ⟨i1, ⟨dn, hd1, hi1⟩, h, S⟩
   cases ys1 with
   | nil =>
    rw [swimmer_checkRaces_l1.eq_1] at h
    refine f_seq (f_region (lv S (rn_lss (S.tm rfl) (S.tm rfl)) rfl ?_)); clear S; intro a S
    refine l_done ?_
    replace S := S.nk [] [(0, v_p_r), (9, v_p_r), (10, iV (p_r.length : Int)), (11, iV (i1 : Int)), (12, bV (decide ((i1 : Int) < (p_r.length : Int))))] [] rfl (subR rfl)
    refine then_n (f_seq (wp_cond_false ((S.tm rfl).trans (congrArg Value.bool (rng_nil hd1 hi1))) (wp_exit (then_x (then_x (x_same ?_))))))
    refine then_n ?_
    exact ⟨h, S.nf [] rfl trivial⟩
   | cons y1 ys1 =>
    rw [swimmer_checkRaces_l1.eq_2] at h
    refine f_seq (f_region (lv S (rn_lss (S.tm rfl) (S.tm rfl)) rfl ?_)); clear S; intro a S
    refine l_done ?_
    replace S := S.nk [] [(0, v_p_r), (9, v_p_r), (10, iV (p_r.length : Int)), (11, iV (i1 : Int)), (12, bV (decide ((i1 : Int) < (p_r.length : Int))))] [] rfl (subR rfl)
    refine then_n (f_seq (wp_cond_true ((S.tm rfl).trans (congrArg Value.bool (rng_cons hd1 hi1))) (wp_skip (then_n (f_seq (wp_block ?_))))))
    refine f_seq (f_region (lv S (rn_move (S.tm rfl)) rfl ?_)); clear S; intro a S
    obtain ⟨b1, o1, hm1, hr1⟩ := rn_indexT (a := a) (x := .tmp 9) (y := .tmp 11) (ty := 0) sl_26 hs_p_r (get_mid hd1 hi1) rfl (S.tm rfl) (S.tm rfl)
    refine lv S (hr1 _) rfl ?_; clear S; intro a S
    clear hr1
    refine lv S (rn_ldA Tryz.isAgg42 Tryz.sizeOf42 (off := o1) (o := 0) (part := (GRace.enc y1)) rfl rfl (S.tm rfl) (hm1.at S.emb0)) rfl ?_; clear S; intro a S
    refine l_alloc S Tryz.zeroValue42 (cs := [sV k_empty, iV 0, iV 0, iV 0, iV 0, iV 0, iV 0, iV 0]) rfl rfl ?_; clear S; intro a w3 b2 hz1 hk1 S
    refine lv S (rn_assign (S.tm rfl)) rfl ?_; clear S; intro a S
    refine l_store S (S.tm rfl) (S.tm rfl) (i := 0) (off := 0) rfl Tryz.sizeOf42 (vs := (GRace.enc y1)) rfl rfl rfl rfl ?_; clear S; intro w4 hk2 S
    refine l_done (then_n (f_seq (f_seq (f_region (lv S (rn_ldA Tryz.isAgg42 Tryz.sizeOf42 (off := 0) (o := 0) (part := (GRace.enc y1)) rfl rfl (S.tm rfl) (S.cellsAt (i := 0) rfl)) rfl ?_))))); clear S; intro a S
    obtain ⟨r1, hr2, h⟩ := bindE h
    refine l_enter S (fun _ => run_call (vs := [.agg (GRace.enc y1).toArray]) ⟨(S.tm rfl), trivial⟩ Tryz.call89) (timing_CheckRace_ok _ y1 _ hr2) rfl ?_; clear S; intro v1 a w5 hv1 hk3 hn1 S
    subst hv1
    refine lv S (rn_assign (S.tm rfl)) rfl ?_; clear S; intro a S
    refine l_done (then_n (f_seq (f_region (lv S (rn_move (S.tm rfl)) rfl ?_)))); clear S; intro a S
    refine lv S (rn_neq (S.tm rfl) rfl) rfl ?_; clear S; intro a S
    refine l_done ?_
    replace S := S.nk [.blk b2 (GRace.enc y1) 42] [(0, v_p_r), (3, iV (i1 : Int)), (4, .pointer (some ⟨b2, 0, none⟩)), (5, iV r1), (9, v_p_r), (10, iV (p_r.length : Int)), (11, iV (i1 : Int)), (19, bV (!decide (r1 = 0)))] [true] rfl (subR rfl)
    refine then_n (f_cond (S.tm rfl) (fun hb2 => ?_) (fun hb2 => ?_))
    ·replace h := iteT h hb2
     refine f_seq (f_region (lv S (rn_move (S.tm rfl)) rfl ?_)); clear S; intro a S
     refine lv S (rn_assign (S.tm rfl)) rfl ?_; clear S; intro a S
     refine l_done (then_n (wp_ret (then_r (blk_r (then_r (then_r ?_))))))
     refine blk_r (then_r (then_r ?_))
     obtain rfl := Option.some.inj h
     exact f_ret S Tryz.results63 rfl rfl
    ·replace h := iteF h hb2
     refine wp_skip (then_n (f_seq (d_region [] ([]) Tryz.mixed S rfl (by kernel_rfl) ?_))); clear S; intro w6 hk4 hsel S
     refine d_rest [0, 1, 2, 3, 4, 5, 6, 7, 8, 9, 10, 11, 12] hsel (by kernel_rfl) rfl ?_
     clear hsel
     refine s_lv S rfl (rn_move (S.tm rfl)) rfl ?_; clear S; intro a S
     refine s_lv S rfl (rn_gtr (S.tm rfl) rfl) rfl ?_; clear S; intro a S
     refine s_lv S rfl (rn_move (S.tm rfl)) rfl ?_; clear S; intro a S
     obtain ⟨j2, hj2, h⟩ := joinE h
     refine s_cutm 10 (fun a w' => ∃ c1, j2 c1 = some r ∧ Keep [] w6 w' ∧ Sx w [] nov [.blk b2 (GRace.enc y1) 42] [(0, v_p_r), (9, v_p_r), (10, iV (p_r.length : Int)), (11, iV (i1 : Int)), (33, bV c1)] 35 a w') ?_ ?_
     ·rcases Bool.eq_false_or_eq_true (decide (0 < (i1 : Int))) with hb3 | hb3
      ·replace h := iteT h hb3
       refine s_want S rfl rfl rfl rfl hb3 (s_lv0 S (rn_fld fa_42_0 (S.tm rfl)) rfl ?_); clear S; intro a S
       refine s_want S rfl rfl rfl rfl hb3 (s_lv0 S (rn_load Tryz.isAgg9 (S.tm rfl) (S.cell (i := 0) rfl rfl)) rfl ?_); clear S; intro a S
       refine s_want S rfl rfl rfl rfl hb3 (s_lv0 S (rn_move (S.tm rfl)) rfl ?_); clear S; intro a S
       refine s_want S rfl rfl rfl rfl hb3 (s_lv0 S (rn_move (S.tm rfl)) rfl ?_); clear S; intro a S
       refine s_want S rfl rfl rfl rfl hb3 (s_lv0 S (rn_sub (S.tm rfl) rfl) rfl ?_); clear S; intro a S
       refine s_want S rfl rfl rfl rfl hb3 ?_
       obtain ⟨hc1, h⟩ := chkE h
       obtain ⟨b3, o2, hm2, hr3⟩ := rn_indexT (a := a) (x := .tmp 26) (y := .tmp 28) (ty := 0) sl_26 hs_p_r (inB_get hc1).1 (inB_get hc1).2 (S.tm rfl) (S.tm rfl)
       refine s_lv0 S (hr3 _) rfl ?_; clear S; intro a S
       clear hr3
       refine s_want S rfl rfl rfl rfl hb3 (s_lv0 S (rn_fld fa_42_0 (S.tm rfl)) rfl ?_); clear S; intro a S
       refine s_want S rfl rfl rfl rfl hb3 (s_lv0 S (rn_ld Tryz.isAgg9 (off := o2) (o := 0) (S.tm rfl) (hm2.at S.emb0) rfl) rfl ?_); clear S; intro a S
       refine s_want S rfl rfl rfl rfl hb3 (s_lv0 S (rn_sleq (S.tm rfl) (S.tm rfl)) rfl ?_); clear S; intro a S
       refine s_lv S rfl (rn_and_t hb3 (S.tm rfl) (S.tm rfl)) rfl ?_; clear S; intro a S
       refine s_done ?_
       exact ⟨_, h, Keep.refl _ _, S.nf [true] rfl (subR rfl)⟩
      ·replace h := iteF h hb3
       iterate 9 (refine s_skip S rfl rfl rfl rfl (neq_f hb3) rfl ?_ rfl; clear S; intro a S)
       refine s_lv S rfl (rn_and_f true hb3 (S.tm rfl) rfl) rfl ?_; clear S; intro a S
       refine s_done ?_
       exact ⟨_, h, Keep.refl _ _, S.nf [true] rfl (subR rfl)⟩
     clear S h; rintro a w7 ⟨c1, h, hk5, S⟩; rw [hj2] at h; clear hj2 j2
     refine s_done ?_
     replace S := S.nk [] [(0, v_p_r), (9, v_p_r), (10, iV (p_r.length : Int)), (11, iV (i1 : Int)), (33, bV c1)] [false] rfl (subR rfl)
     refine then_n (f_cond (S.tm rfl) (fun hb4 => ?_) (fun hb4 => ?_))
     ·replace h := iteT h hb4
      refine f_seq (f_region (lv S (rn_assign rfl) rfl ?_)); clear S; intro a S
      refine l_done (then_n (wp_ret (blk_r (then_r (then_r (blk_r ?_))))))
      refine then_r (then_r ?_)
      obtain rfl := Option.some.inj h
      exact f_ret S Tryz.results63 rfl rfl
     ·replace h := iteF h hb4
      refine wp_skip (blk_n (then_n (f_region (lv S (rn_add (S.tm rfl) rfl) rfl ?_)))); clear S; intro a S
      refine lv S (rn_move (S.tm rfl)) rfl ?_; clear S; intro a S
      refine l_done (then_n ?_)
      exact ⟨ys1, ⟨i1 + 1, ⟨_, (hd1).trans (List.append_cons _ _ _), by simp [hi1]⟩, h, S.nf [] rfl ⟨rfl, rfl, rfl, (congrArg (fun z => some (Value.int .i64 z)) (rng_next hd1 hi1 (slc_max hs_p_r))), trivial⟩⟩, Nat.lt_succ_self _⟩
  clear S h; rintro a w2 ⟨h, S⟩; rw [hj1] at h; clear hj1 j1
  refine then_n (f_seq (f_region (lv S (rn_assign rfl) rfl ?_))); clear S; intro a S
  refine l_done (then_n (wp_ret ?_))
  obtain rfl := Option.some.inj h
  exact f_ret S Tryz.results63 rfl rfl
theorem swimmer_isDay_ok (w : World) (p_n : Int) (r : Bool) (h : swimmer_isDay p_n = r) :
    Calls Tryz.prog 88 [iV p_n].toArray w (Ret w [] fun _ v _ => v = bV r) := by
 refine f_enter [] [] Tryz.func88 rfl Tryz.ntmps88 rfl (by simp) (by simp [fps]) (by simp [fps]) fun a S => ?_
 unfold swimmer_isDay at h
 replace S := S.nk [] [(0, iV p_n)] [] rfl ⟨rfl, trivial⟩
 refine f_seq (f_region (lv S (rn_assign rfl) rfl ?_)); clear S; intro a S
 refine l_done (then_n (f_seq (f_region (lv S (rn_move (S.tm rfl)) rfl ?_)))); clear S; intro a S
 refine l_enter S (fun _ => run_call (vs := [iV p_n, iV (-40000), iV 4000]) ⟨(S.tm rfl), rfl, rfl, trivial⟩ Tryz.call41) (words_Within_ok _ p_n (-40000) 4000 _ rfl) rfl ?_; clear S; intro v1 a w1 hv1 hk1 hn1 S
 subst hv1
 refine lv S (rn_assign (S.tm rfl)) rfl ?_; clear S; intro a S
 refine l_done (then_n (wp_ret ?_))
 subst h
 exact f_ret S Tryz.results88 rfl rfl
set_option maxRecDepth 20000 in
theorem swimmer_CheckSwimmers_ok (w : World) (v_p_l : Value) (p_l : List GSwimmer) (hs_p_l : Slc (view w []) 3 v_p_l (p_l.map GSwimmer.enc)) (r : Int) (h : swimmer_CheckSwimmers p_l = some r) :
    Calls Tryz.prog 64 [v_p_l].toArray w (Ret w [] fun _ v _ => v = iV r) := by
 refine f_enter [] [] Tryz.func64 rfl Tryz.ntmps64 rfl (by simp) (by simp [fps]) (by simp [fps]) fun a S => ?_
 unfold swimmer_CheckSwimmers at h
 replace S := S.nk [] [(0, v_p_l)] [] rfl ⟨rfl, trivial⟩
 refine f_seq (f_region (lv S (rn_assign rfl) rfl ?_)); clear S; intro a S
 refine l_done (then_n (f_seq (f_seq (f_region (lv S (rn_move (S.tm rfl)) rfl ?_))))); clear S; intro a S
 refine lv S (rn_lenT sl_28 (S.tm rfl) (slc_len hs_p_l)) rfl ?_; clear S; intro a S
 refine lv S (rn_gtr (S.tm rfl) rfl) rfl ?_; clear S; intro a S
 refine l_done (then_n (f_cond (S.tm rfl) (fun hb1 => ?_) (fun hb1 => ?_)))
 ·replace h := iteT h hb1
  refine f_seq (f_region (lv S (rn_assign rfl) rfl ?_)); clear S; intro a S
  refine l_done (then_n (wp_ret (then_r ?_)))
  obtain rfl := Option.some.inj h
  exact f_ret S Tryz.results64 rfl rfl
 ·replace h := iteF h hb1
  refine wp_skip (then_n (f_seq (f_seq (f_region (lv S (rn_move (S.tm rfl)) rfl ?_))))); clear S; intro a S
  refine lv S (rn_lenT sl_28 (S.tm rfl) (slc_len hs_p_l)) rfl ?_; clear S; intro a S
  refine lv S (rn_move rfl) rfl ?_; clear S; intro a S
  refine l_done (then_n ?_)
  replace S := S.nk [] [(0, v_p_l), (8, v_p_l), (9, iV (p_l.length : Int)), (10, iV 0)] [] rfl (subR rfl)
  obtain ⟨j1, hj1, h⟩ := joinE h
  refine f_join (fun a w' => j1 = some r ∧ Sx w [] nov [] [] 50 a w') ?_ ?_
  ·refine wp_block (f_loop (fun (ys1 : List GSwimmer) a w' => ∃ i1 : Nat, (∃ dn, p_l = dn ++ ys1 ∧ dn.length = i1) ∧ swimmer_CheckSwimmers_l1 p_l j1 ys1 i1 = some r ∧ Sx w [] nov [] [(0, v_p_l), (8, v_p_l), (9, iV (p_l.length : Int)), (10, iV (i1 : Int))] 50 a w') List.length p_l ⟨0, ⟨[], rfl, rfl⟩, h, S.nf [] rfl (subR rfl)⟩ ?_)
   clear S h; rintro ys1 a w1 ⟨i1, ⟨dn, hd1, hi1⟩, h, S⟩
   cases ys1 with
   | nil =>
    rw [swimmer_CheckSwimmers_l1.eq_1] at h
    refine f_seq (f_region (lv S (rn_lss (S.tm rfl) (S.tm rfl)) rfl ?_)); clear S; intro a S
    refine l_done ?_
    replace S := S.nk [] [(0, v_p_l), (8, v_p_l), (9, iV (p_l.length : Int)), (10, iV (i1 : Int)), (11, bV (decide ((i1 : Int) < (p_l.length : Int))))] [] rfl (subR rfl)
    refine then_n (f_seq (wp_cond_false ((S.tm rfl).trans (congrArg Value.bool (rng_nil hd1 hi1))) (wp_exit (then_x (then_x (x_same ?_))))))
    refine then_n ?_
    exact ⟨h, S.nf [] rfl trivial⟩
   | cons y1 ys1 =>
    rw [swimmer_CheckSwimmers_l1.eq_2] at h
    refine f_seq (f_region (lv S (rn_lss (S.tm rfl) (S.tm rfl)) rfl ?_)); clear S; intro a S
    refine l_done ?_
    replace S := S.nk [] [(0, v_p_l), (8, v_p_l), (9, iV (p_l.length : Int)), (10, iV (i1 : Int)), (11, bV (decide ((i1 : Int) < (p_l.length : Int))))] [] rfl (subR rfl)
    refine then_n (f_seq (wp_cond_true ((S.tm rfl).trans (congrArg Value.bool (rng_cons hd1 hi1))) (wp_skip (then_n (f_seq (wp_block ?_))))))
    refine f_seq (f_region (lv S (rn_move (S.tm rfl)) rfl ?_)); clear S; intro a S
    obtain ⟨b1, o1, hm1, hr1⟩ := rn_indexT (a := a) (x := .tmp 8) (y := .tmp 10) (ty := 0) sl_28 hs_p_l (get_mid hd1 hi1) rfl (S.tm rfl) (S.tm rfl)
    refine lv S (hr1 _) rfl ?_; clear S; intro a S
    clear hr1
    refine lv S (rn_ldA Tryz.isAgg71 Tryz.sizeOf71 (off := o1) (o := 0) (part := (GSwimmer.enc y1)) rfl rfl (S.tm rfl) (hm1.at S.emb0)) rfl ?_; clear S; intro a S
    refine l_alloc S Tryz.zeroValue71 (cs := [sV k_empty, iV 0, iV 0]) rfl rfl ?_; clear S; intro a w3 b2 hz1 hk1 S
    refine lv S (rn_assign (S.tm rfl)) rfl ?_; clear S; intro a S
    refine l_store S (S.tm rfl) (S.tm rfl) (i := 0) (off := 0) rfl Tryz.sizeOf71 (vs := (GSwimmer.enc y1)) rfl rfl rfl rfl ?_; clear S; intro w4 hk2 S
    refine l_done (then_n (wp_block (f_seq (f_region (lv S (rn_fld fa_71_0 (S.tm rfl)) rfl ?_))))); clear S; intro a S
    refine lv S (rn_load Tryz.isAgg9 (S.tm rfl) (S.cell (i := 0) rfl rfl)) rfl ?_; clear S; intro a S
    obtain ⟨r1, hr2, h⟩ := bindE h
    refine l_enter S (fun _ => run_call (vs := [sV y1.Key]) ⟨(S.tm rfl), trivial⟩ Tryz.call53) (words_IsKey_ok _ y1.Key _ hr2) rfl ?_; clear S; intro v1 a w5 hv1 hk3 hn1 S
    subst hv1
    refine lv S (rn_not (S.tm rfl)) rfl ?_; clear S; intro a S
    refine lv S (rn_assign (S.tm rfl)) rfl ?_; clear S; intro a S
    refine l_done ?_
    replace S := S.nk [.blk b2 (GSwimmer.enc y1) 71] [(0, v_p_l), (3, iV (i1 : Int)), (4, .pointer (some ⟨b2, 0, none⟩)), (8, v_p_l), (9, iV (p_l.length : Int)), (10, iV (i1 : Int)), (15, bV (!r1))] [true] rfl (subR rfl)
    refine then_n (f_cond (S.tm rfl) (fun hb2 => ?_) (fun hb2 => ?_))
    ·replace h := iteT h hb2
     refine f_seq (f_region (lv S (rn_assign rfl) rfl ?_)); clear S; intro a S
     refine l_done (then_n (wp_ret (blk_r (blk_r (then_r (then_r ?_))))))
     refine blk_r (then_r (then_r ?_))
     obtain rfl := Option.some.inj h
     exact f_ret S Tryz.results64 rfl rfl
    ·replace h := iteF h hb2
     refine f_seq (d_region [] ([]) Tryz.mixed S rfl (by kernel_rfl) ?_); clear S; intro w6 hk4 hsel S
     refine d_rest [0, 1, 2, 3, 4, 5, 6, 7, 8, 9, 10, 11, 12, 13] hsel (by kernel_rfl) rfl ?_
     clear hsel
     refine s_lv S rfl (rn_move (S.tm rfl)) rfl ?_; clear S; intro a S
     refine s_lv S rfl (rn_gtr (S.tm rfl) rfl) rfl ?_; clear S; intro a S
     refine s_lv S rfl (rn_move (S.tm rfl)) rfl ?_; clear S; intro a S
     obtain ⟨j2, hj2, h⟩ := joinE h
     refine s_cutm 10 (fun a w' => ∃ c1, j2 c1 = some r ∧ Keep [] w6 w' ∧ Sx w [] nov [.blk b2 (GSwimmer.enc y1) 71] [(0, v_p_l), (4, .pointer (some ⟨b2, 0, none⟩)), (8, v_p_l), (9, iV (p_l.length : Int)), (10, iV (i1 : Int)), (33, bV c1)] 50 a w') ?_ ?_
     ·rcases Bool.eq_false_or_eq_true (decide (0 < (i1 : Int))) with hb3 | hb3
      ·replace h := iteT h hb3
       refine s_want S rfl rfl rfl rfl hb3 (s_lv0 S (rn_fld fa_71_0 (S.tm rfl)) rfl ?_); clear S; intro a S
       refine s_want S rfl rfl rfl rfl hb3 (s_lv0 S (rn_load Tryz.isAgg9 (S.tm rfl) (S.cell (i := 0) rfl rfl)) rfl ?_); clear S; intro a S
       refine s_want S rfl rfl rfl rfl hb3 (s_lv0 S (rn_move (S.tm rfl)) rfl ?_); clear S; intro a S
       refine s_want S rfl rfl rfl rfl hb3 (s_lv0 S (rn_move (S.tm rfl)) rfl ?_); clear S; intro a S
       refine s_want S rfl rfl rfl rfl hb3 (s_lv0 S (rn_sub (S.tm rfl) rfl) rfl ?_); clear S; intro a S
       refine s_want S rfl rfl rfl rfl hb3 ?_
       obtain ⟨hc1, h⟩ := chkE h
       obtain ⟨b3, o2, hm2, hr3⟩ := rn_indexT (a := a) (x := .tmp 26) (y := .tmp 28) (ty := 0) sl_28 hs_p_l (inB_get hc1).1 (inB_get hc1).2 (S.tm rfl) (S.tm rfl)
       refine s_lv0 S (hr3 _) rfl ?_; clear S; intro a S
       clear hr3
       refine s_want S rfl rfl rfl rfl hb3 (s_lv0 S (rn_fld fa_71_0 (S.tm rfl)) rfl ?_); clear S; intro a S
       refine s_want S rfl rfl rfl rfl hb3 (s_lv0 S (rn_ld Tryz.isAgg9 (off := o2) (o := 0) (S.tm rfl) (hm2.at S.emb0) rfl) rfl ?_); clear S; intro a S
       refine s_want S rfl rfl rfl rfl hb3 (s_lv0 S (rn_sleq (S.tm rfl) (S.tm rfl)) rfl ?_); clear S; intro a S
       refine s_lv S rfl (rn_and_t hb3 (S.tm rfl) (S.tm rfl)) rfl ?_; clear S; intro a S
       refine s_done ?_
       exact ⟨_, h, Keep.refl _ _, S.nf [true] rfl (subR rfl)⟩
      ·replace h := iteF h hb3
       iterate 9 (refine s_skip S rfl rfl rfl rfl (neq_f hb3) rfl ?_ rfl; clear S; intro a S)
       refine s_lv S rfl (rn_and_f true hb3 (S.tm rfl) rfl) rfl ?_; clear S; intro a S
       refine s_done ?_
       exact ⟨_, h, Keep.refl _ _, S.nf [true] rfl (subR rfl)⟩
     clear S h; rintro a w7 ⟨c1, h, hk5, S⟩; rw [hj2] at h; clear hj2 j2
     refine s_lv S rfl (rn_assign (S.tm rfl)) rfl ?_; clear S; intro a S
     refine s_done ?_
     replace S := S.nk [.blk b2 (GSwimmer.enc y1) 71] [(0, v_p_l), (4, .pointer (some ⟨b2, 0, none⟩)), (8, v_p_l), (9, iV (p_l.length : Int)), (10, iV (i1 : Int)), (20, bV c1)] [true] rfl (subR rfl)
     refine then_n (f_cond (S.tm rfl) (fun hb4 => ?_) (fun hb4 => ?_))
     ·replace h := iteT h hb4
      refine f_seq (f_region (lv S (rn_assign rfl) rfl ?_)); clear S; intro a S
      refine l_done (then_n (wp_ret (blk_r (blk_r (then_r (then_r ?_))))))
      refine blk_r (then_r (then_r ?_))
      obtain rfl := Option.some.inj h
      exact f_ret S Tryz.results64 rfl rfl
     ·replace h := iteF h hb4
      refine f_seq (f_region (lv S (rn_fld fa_71_1 (S.tm rfl)) rfl ?_)); clear S; intro a S
      refine lv S (rn_load Tryz.isAgg3 (S.tm rfl) (S.cell (i := 0) rfl rfl)) rfl ?_; clear S; intro a S
      refine lv S (rn_neq (S.tm rfl) rfl) rfl ?_; clear S; intro a S
      refine lv S (rn_move (S.tm rfl)) rfl ?_; clear S; intro a S
      refine f_cutm 4 (fun a w' => Keep [] w7 w' ∧ Sx w [] nov [.blk b2 (GSwimmer.enc y1) 71] [(0, v_p_l), (4, .pointer (some ⟨b2, 0, none⟩)), (8, v_p_l), (9, iV (p_l.length : Int)), (10, iV (i1 : Int)), (42, bV ((!decide (y1.Sex = 1)) && (!decide (y1.Sex = 2))))] 50 a w') ?_ ?_
      ·rcases Bool.eq_false_or_eq_true (!decide (y1.Sex = 1)) with hb5 | hb5
       ·refine l_want S rfl rfl rfl hb5 (lv S (rn_fld fa_71_1 (S.tm rfl)) rfl ?_); clear S; intro a S
        refine l_want S rfl rfl rfl hb5 (lv S (rn_load Tryz.isAgg3 (S.tm rfl) (S.cell (i := 0) rfl rfl)) rfl ?_); clear S; intro a S
        refine l_want S rfl rfl rfl hb5 (lv S (rn_neq (S.tm rfl) rfl) rfl ?_); clear S; intro a S
        refine lv S (rn_and_t hb5 (S.tm rfl) (S.tm rfl)) rfl ?_; clear S; intro a S
        refine l_done (then_n ?_)
        exact ⟨Keep.refl _ _, S.nf [true] rfl (subR rfl)⟩
       ·iterate 3 (refine l_skip S rfl rfl rfl (neq_f hb5) rfl ?_ rfl; clear S; intro a S)
        refine lv S (rn_and_f (!decide (y1.Sex = 2)) hb5 (S.tm rfl) rfl) rfl ?_; clear S; intro a S
        refine l_done (then_n ?_)
        exact ⟨Keep.refl _ _, S.nf [true] rfl (subR rfl)⟩
      clear S; rintro a w8 ⟨hk6, S⟩
      refine lv S (rn_move (S.tm rfl)) rfl ?_; clear S; intro a S
      refine f_cutm 5 (fun a w' => Keep [] w8 w' ∧ Sx w [] nov [.blk b2 (GSwimmer.enc y1) 71] [(0, v_p_l), (8, v_p_l), (9, iV (p_l.length : Int)), (10, iV (i1 : Int)), (48, bV (((!decide (y1.Sex = 1)) && (!decide (y1.Sex = 2))) || (!(swimmer_isDay y1.Born))))] 50 a w') ?_ ?_
      ·rcases Bool.eq_false_or_eq_true ((!decide (y1.Sex = 1)) && (!decide (y1.Sex = 2))) with hb6 | hb6
       ·iterate 4 (refine l_skip S rfl rfl rfl (neq_t hb6) rfl ?_ rfl; clear S; intro a S)
        refine lv S (rn_or_t (!(swimmer_isDay y1.Born)) hb6 (S.tm rfl) rfl) rfl ?_; clear S; intro a S
        refine l_done (then_n ?_)
        exact ⟨Keep.refl _ _, S.nf [true] rfl (subR rfl)⟩
       ·refine l_want S rfl rfl rfl hb6 (lv S (rn_fld fa_71_2 (S.tm rfl)) rfl ?_); clear S; intro a S
        refine l_want S rfl rfl rfl hb6 (lv S (rn_load Tryz.isAgg3 (S.tm rfl) (S.cell (i := 0) rfl rfl)) rfl ?_); clear S; intro a S
        refine l_want S rfl rfl rfl hb6 (l_enter S (fun _ => run_call (vs := [iV y1.Born]) ⟨(S.tm rfl), trivial⟩ Tryz.call88) (swimmer_isDay_ok _ y1.Born _ rfl) rfl ?_); clear S; intro v2 a w10 hv2 hk7 hn2 S
        subst hv2
        refine l_want S rfl rfl rfl hb6 (lv S (rn_not (S.tm rfl)) rfl ?_); clear S; intro a S
        refine lv S (rn_or_f hb6 (S.tm rfl) (S.tm rfl)) rfl ?_; clear S; intro a S
        refine l_done (then_n ?_)
        exact ⟨hk7, S.nf [true] rfl (subR rfl)⟩
      clear S; rintro a w9 ⟨hk8, S⟩
      refine lv S (rn_assign (S.tm rfl)) rfl ?_; clear S; intro a S
      refine l_done (then_n (f_cond (S.tm rfl) (fun hb7 => ?_) (fun hb7 => ?_)))
      ·replace h := iteT h hb7
       refine f_seq (f_region (lv S (rn_assign rfl) rfl ?_)); clear S; intro a S
       refine l_done (then_n (wp_ret (blk_r (blk_r (then_r (then_r ?_))))))
       refine blk_r (then_r (then_r ?_))
       obtain rfl := Option.some.inj h
       exact f_ret S Tryz.results64 rfl rfl
      ·replace h := iteF h hb7
       refine wp_skip (blk_n (blk_n (then_n (f_region (lv S (rn_add (S.tm rfl) rfl) rfl ?_))))); clear S; intro a S
       refine lv S (rn_move (S.tm rfl)) rfl ?_; clear S; intro a S
       refine l_done (then_n ?_)
       exact ⟨ys1, ⟨i1 + 1, ⟨_, (hd1).trans (List.append_cons _ _ _), by simp [hi1]⟩, h, S.nf [false] rfl ⟨rfl, rfl, rfl, (congrArg (fun z => some (Value.int .i64 z)) (rng_next hd1 hi1 (slc_max hs_p_l))), trivial⟩⟩, Nat.lt_succ_self _⟩
  clear S h; rintro a w2 ⟨h, S⟩; rw [hj1] at h; clear hj1 j1
  refine then_n (f_seq (f_region (lv S (rn_assign rfl) rfl ?_))); clear S; intro a S
  refine l_done (then_n (wp_ret ?_))
  obtain rfl := Option.some.inj h
  exact f_ret S Tryz.results64 rfl rfl
theorem strings_Compare_ok (w : World) (s t : ByteArray) (r : Int) (h : strings_Compare s t = r) : Calls Tryz.prog 77 [.string s, .string t].toArray w (Ret w [] fun _ v _ => v = .int .i64 r) := by
  subst h
  exact ret_of_same (Any.strings_Compare Tryz.lays106 s t w)
theorem cmp_isNaN_int_ok (w : World) (p_x : Int) (r : Bool) (h : cmp_isNaN_int p_x = r) :
    Calls Tryz.prog 91 [iV p_x].toArray w (Ret w [] fun _ v _ => v = bV r) := by
 refine f_enter [] [] Tryz.func91 rfl Tryz.ntmps91 rfl (by simp) (by simp [fps]) (by simp [fps]) fun a S => ?_
 unfold cmp_isNaN_int at h
 replace S := S.nk [] [(0, iV p_x)] [] rfl ⟨rfl, trivial⟩
 refine f_seq (f_region (lv S (rn_assign rfl) rfl ?_)); clear S; intro a S
 refine l_done (then_n (f_seq (f_region (lv S (rn_move (S.tm rfl)) rfl ?_)))); clear S; intro a S
 refine lv S (rn_move (S.tm rfl)) rfl ?_; clear S; intro a S
 refine lv S (rn_neq (S.tm rfl) (S.tm rfl)) rfl ?_; clear S; intro a S
 refine lv S (rn_assign (S.tm rfl)) rfl ?_; clear S; intro a S
 refine l_done (then_n (wp_ret ?_))
 subst h
 exact f_ret S Tryz.results91 rfl rfl
end Go.Proofs.YtmngaaffadcccaaGreatDoor
