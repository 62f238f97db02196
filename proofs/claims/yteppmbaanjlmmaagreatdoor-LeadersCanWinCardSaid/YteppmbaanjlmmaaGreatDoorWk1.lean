/- Each Go function computes its plain twin, by program. -/
import Derived.Test.YteppmbaanjlmmaaGreatDoorTab
import Derived.Test.YteppmbaanjlmmaaGreatDoorLay
namespace Go.Proofs.YteppmbaanjlmmaaGreatDoor
open Go
theorem tumbmake_Below_ok (w : World) (p_x : Int) (p_n : Int) (r : Int) (h : tumbmake_Below p_x p_n = some r) :
    Calls Tryz.prog 47 [iV p_x, iV p_n].toArray w (Ret w [] fun _ v _ => v = iV r) := by
 refine f_enter [] [] Tryz.func47 rfl Tryz.ntmps47 rfl (by simp) (by simp [fps]) (by simp [fps]) fun a S => ?_
 unfold tumbmake_Below at h
 replace S := S.nk [] [(0, iV p_x), (1, iV p_n)] [] rfl (subR rfl)
 refine f_seq (f_region (lv S (rn_assign rfl) rfl ?_)); clear S; intro a S
 refine l_done (then_n (f_seq (f_seq (f_region (lv S (rn_move (S.tm rfl)) rfl ?_))))); clear S; intro a S
 refine lv S (rn_lss (S.tm rfl) rfl) rfl ?_; clear S; intro a S
 refine l_done (then_n (f_cond (S.tm rfl) (fun hb1 => ?_) (fun hb1 => ?_)))
 ·replace h := iteT h hb1
  refine f_seq (f_region (lv S (rn_assign rfl) rfl ?_)); clear S; intro a S
  refine l_done (then_n (wp_ret (then_r ?_)))
  obtain rfl := Option.some.inj h
  exact f_ret S Tryz.results47 rfl rfl
 ·replace h := iteF h hb1
  refine wp_skip (then_n (f_seq (f_region (lv S (rn_move (S.tm rfl)) rfl ?_)))); clear S; intro a S
  refine lv S (rn_move (S.tm rfl)) rfl ?_; clear S; intro a S
  obtain ⟨hc1, h⟩ := chkE h
  refine lv S (rn_rem (S.tm rfl) (S.tm rfl) (ne0_of hc1)) rfl ?_; clear S; intro a S
  refine lv S (rn_assign (S.tm rfl)) rfl ?_; clear S; intro a S
  refine l_done (then_n (f_seq (f_seq (f_region (lv S (rn_move (S.tm rfl)) rfl ?_))))); clear S; intro a S
  refine lv S (rn_lss (S.tm rfl) rfl) rfl ?_; clear S; intro a S
  refine l_done (then_n ?_)
  obtain ⟨j1, hj1, h⟩ := joinE h
  refine f_join (fun a w' => ∃ x1 : Int, j1 x1 = some r ∧ Sx w [] nov [] [(0, iV x1)] 16 a w') ?_ ?_
  ·refine f_cond (S.tm rfl) (fun hb2 => ?_) (fun hb2 => ?_)
   ·replace h := iteT h hb2
    refine f_region (lv S (rn_move (S.tm rfl)) rfl ?_); clear S; intro a S
    refine lv S (rn_move (S.tm rfl)) rfl ?_; clear S; intro a S
    refine lv S (rn_add (S.tm rfl) (S.tm rfl)) rfl ?_; clear S; intro a S
    refine lv S (rn_assign (S.tm rfl)) rfl ?_; clear S; intro a S
    refine l_done (then_n ?_)
    exact ⟨W ((Int.tmod p_x p_n) + p_n), h, S.nf [] rfl ⟨rfl, trivial⟩⟩
   ·replace h := iteF h hb2
    refine wp_skip (then_n ?_)
    exact ⟨Int.tmod p_x p_n, h, S.nf [] rfl ⟨rfl, trivial⟩⟩
  clear S h; rintro a w1 ⟨x1, h, S⟩; rw [hj1] at h; clear hj1 j1
  refine then_n (f_seq (f_region (lv S (rn_move (S.tm rfl)) rfl ?_))); clear S; intro a S
  refine lv S (rn_assign (S.tm rfl)) rfl ?_; clear S; intro a S
  refine l_done (then_n (wp_ret ?_))
  obtain rfl := Option.some.inj h
  exact f_ret S Tryz.results47 rfl rfl
set_option maxRecDepth 20000 in
theorem Stream_Next_ok (w : World) (b_p_s : Nat) (v_p_s_L : Value) (p_s_L : List Int) (hs_p_s_L : Slc (view w [b_p_s]) 1 v_p_s_L (p_s_L.map eInt)) (p_s_at : Int) (hb_b_p_s : (LEnt.blk b_p_s [v_p_s_L, iV p_s_at] 25).holds w) (p_n : Int) (r : Int × Int) (h : Stream_Next p_s_L p_s_at p_n = some r) :
    Calls Tryz.prog 28 [.pointer (some ⟨b_p_s, 0, none⟩), iV p_n].toArray w (Ret w [b_p_s] fun _ v w' => (LEnt.blk b_p_s [v_p_s_L, iV r.2] 25).holds w' ∧ v = iV r.1) := by
 refine f_enter [b_p_s] [.blk b_p_s [v_p_s_L, iV p_s_at] 25] Tryz.func28 rfl Tryz.ntmps28 rfl (fun e he => by simp only [List.mem_singleton] at he; subst he; exact hb_b_p_s) (by simp [fps, LEnt.fp]) (by simp [fps, LEnt.fp]) fun a S => ?_
 unfold Stream_Next at h
 replace S := S.nk [.blk b_p_s [v_p_s_L, iV p_s_at] 25] [(0, .pointer (some ⟨b_p_s, 0, none⟩)), (1, iV p_n)] [true] rfl (subR rfl)
 refine f_seq (f_region (lv S (rn_assign rfl) rfl ?_)); clear S; intro a S
 refine l_done (then_n (f_seq (f_region (lv S (rn_move (S.tm rfl)) rfl ?_)))); clear S; intro a S
 refine lv S (rn_nilCheck (S.tm rfl)) rfl ?_; clear S; intro a S
 refine lv S (rn_fld fa_25_1 (S.tm rfl)) rfl ?_; clear S; intro a S
 refine lv S (rn_load Tryz.isAgg3 (S.tm rfl) (S.cell (i := 0) rfl rfl)) rfl ?_; clear S; intro a S
 refine lv S (rn_add (S.tm rfl) rfl) rfl ?_; clear S; intro a S
 refine lv S (rn_nilCheck (S.tm rfl)) rfl ?_; clear S; intro a S
 refine lv S (rn_fld fa_25_1 (S.tm rfl)) rfl ?_; clear S; intro a S
 refine l_store S (S.tm rfl) (S.tm rfl) (i := 0) (off := 1) rfl Tryz.sizeOf3 (vs := [iV (W (p_s_at + 1))]) rfl rfl rfl rfl ?_; clear S; intro w1 hk1 S
 refine l_done (then_n (f_seq (f_seq (f_region (lv S (rn_move (S.tm rfl)) rfl ?_))))); clear S; intro a S
 refine lv S (rn_nilCheck (S.tm rfl)) rfl ?_; clear S; intro a S
 refine lv S (rn_fld fa_25_0 (S.tm rfl)) rfl ?_; clear S; intro a S
 refine lv S (rn_load Tryz.isAgg22 (S.tm rfl) (S.cell (i := 0) rfl rfl)) rfl ?_; clear S; intro a S
 refine lv S (rn_lenT sl_22 (S.tm rfl) (slc_len hs_p_s_L)) rfl ?_; clear S; intro a S
 refine lv S (rn_eql (S.tm rfl) rfl) rfl ?_; clear S; intro a S
 refine l_done ?_
 replace S := S.nk [.blk b_p_s [v_p_s_L, iV (W (p_s_at + 1))] 25] [(0, .pointer (some ⟨b_p_s, 0, none⟩)), (1, iV p_n), (19, bV (decide ((p_s_L.length : Int) = 0)))] [true] rfl (subR rfl)
 refine then_n (f_cond (S.tm rfl) (fun hb1 => ?_) (fun hb1 => ?_))
 ·replace h := iteT h hb1
  refine f_seq (f_region (lv S (rn_move (S.tm rfl)) rfl ?_)); clear S; intro a S
  refine lv S (rn_nilCheck (S.tm rfl)) rfl ?_; clear S; intro a S
  refine lv S (rn_fld fa_25_1 (S.tm rfl)) rfl ?_; clear S; intro a S
  refine lv S (rn_load Tryz.isAgg3 (S.tm rfl) (S.cell (i := 0) rfl rfl)) rfl ?_; clear S; intro a S
  refine lv S (rn_mul (S.tm rfl) rfl) rfl ?_; clear S; intro a S
  refine lv S (rn_move (S.tm rfl)) rfl ?_; clear S; intro a S
  obtain ⟨r1, hr1, h⟩ := bindE h
  refine l_enter S (fun _ => run_call (vs := [iV (W ((W (p_s_at + 1)) * 7919)), iV p_n]) ⟨(S.tm rfl), (S.tm rfl), trivial⟩ Tryz.call47) (tumbmake_Below_ok _ (W ((W (p_s_at + 1)) * 7919)) p_n _ hr1) rfl ?_; clear S; intro v1 a w2 hv1 hk2 hn1 S
  subst hv1
  refine lv S (rn_assign (S.tm rfl)) rfl ?_; clear S; intro a S
  refine l_done (then_n (wp_ret (then_r ?_)))
  obtain rfl := Option.some.inj h
  exact f_ret S Tryz.results28 rfl ⟨(S.holds _ (List.mem_of_getElem? (i := 0) rfl)), rfl⟩
 ·replace h := iteF h hb1
  refine wp_skip (then_n (f_seq (d_region [] ([]) Tryz.mixed S rfl (by kernel_rfl) ?_))); clear S; intro w3 hk3 hsel S
  refine d_rest [0, 1, 2, 3, 4, 5, 6, 7, 8, 9, 10, 11] hsel (by kernel_rfl) rfl ?_
  clear hsel
  refine s_lv S rfl (rn_move (S.tm rfl)) rfl ?_; clear S; intro a S
  refine s_lv S rfl (rn_nilCheck (S.tm rfl)) rfl ?_; clear S; intro a S
  refine s_lv S rfl (rn_fld fa_25_1 (S.tm rfl)) rfl ?_; clear S; intro a S
  refine s_lv S rfl (rn_load Tryz.isAgg3 (S.tm rfl) (S.cell (i := 0) rfl rfl)) rfl ?_; clear S; intro a S
  refine s_lv S rfl (rn_sub (S.tm rfl) rfl) rfl ?_; clear S; intro a S
  refine s_lv S rfl (rn_move (S.tm rfl)) rfl ?_; clear S; intro a S
  refine s_lv S rfl (rn_nilCheck (S.tm rfl)) rfl ?_; clear S; intro a S
  refine s_lv S rfl (rn_fld fa_25_0 (S.tm rfl)) rfl ?_; clear S; intro a S
  refine s_lv S rfl (rn_load Tryz.isAgg22 (S.tm rfl) (S.cell (i := 0) rfl rfl)) rfl ?_; clear S; intro a S
  refine s_lv S rfl (rn_lenT sl_22 (S.tm rfl) (slc_len hs_p_s_L)) rfl ?_; clear S; intro a S
  obtain ⟨hc1, h⟩ := chkE h
  refine s_lv S rfl (rn_rem (S.tm rfl) (S.tm rfl) (ne0_of hc1)) rfl ?_; clear S; intro a S
  refine s_lv S rfl (rn_assign (S.tm rfl)) rfl ?_; clear S; intro a S
  refine s_done ?_
  replace S := S.nk [.blk b_p_s [v_p_s_L, iV (W (p_s_at + 1))] 25] [(0, .pointer (some ⟨b_p_s, 0, none⟩)), (1, iV p_n), (5, iV (Int.tmod (W ((W (p_s_at + 1)) - 1)) (p_s_L.length : Int)))] [true] rfl (subR rfl)
  refine then_n (f_seq (d_region [] ([]) Tryz.mixed S rfl (by kernel_rfl) ?_)); clear S; intro w4 hk4 hsel S
  refine d_rest [0, 1, 2, 3, 4, 5, 6, 7, 8, 9, 10, 11] hsel (by kernel_rfl) rfl ?_
  clear hsel
  refine s_lv S rfl (rn_move (S.tm rfl)) rfl ?_; clear S; intro a S
  refine s_lv S rfl (rn_nilCheck (S.tm rfl)) rfl ?_; clear S; intro a S
  refine s_lv S rfl (rn_fld fa_25_1 (S.tm rfl)) rfl ?_; clear S; intro a S
  refine s_lv S rfl (rn_load Tryz.isAgg3 (S.tm rfl) (S.cell (i := 0) rfl rfl)) rfl ?_; clear S; intro a S
  refine s_lv S rfl (rn_sub (S.tm rfl) rfl) rfl ?_; clear S; intro a S
  refine s_lv S rfl (rn_move (S.tm rfl)) rfl ?_; clear S; intro a S
  refine s_lv S rfl (rn_nilCheck (S.tm rfl)) rfl ?_; clear S; intro a S
  refine s_lv S rfl (rn_fld fa_25_0 (S.tm rfl)) rfl ?_; clear S; intro a S
  refine s_lv S rfl (rn_load Tryz.isAgg22 (S.tm rfl) (S.cell (i := 0) rfl rfl)) rfl ?_; clear S; intro a S
  refine s_lv S rfl (rn_lenT sl_22 (S.tm rfl) (slc_len hs_p_s_L)) rfl ?_; clear S; intro a S
  obtain ⟨hc2, h⟩ := chkE h
  refine s_lv S rfl (rn_quo (S.tm rfl) (S.tm rfl) (ne0_of hc2)) rfl ?_; clear S; intro a S
  refine s_lv S rfl (rn_assign (S.tm rfl)) rfl ?_; clear S; intro a S
  refine s_done ?_
  replace S := S.nk [.blk b_p_s [v_p_s_L, iV (W (p_s_at + 1))] 25] [(0, .pointer (some ⟨b_p_s, 0, none⟩)), (1, iV p_n), (5, iV (Int.tmod (W ((W (p_s_at + 1)) - 1)) (p_s_L.length : Int))), (6, iV (W (Int.tdiv (W ((W (p_s_at + 1)) - 1)) (p_s_L.length : Int))))] [true] rfl (subR rfl)
  refine then_n (f_seq (f_region (lv S (rn_move (S.tm rfl)) rfl ?_))); clear S; intro a S
  refine lv S (rn_nilCheck (S.tm rfl)) rfl ?_; clear S; intro a S
  refine lv S (rn_fld fa_25_0 (S.tm rfl)) rfl ?_; clear S; intro a S
  refine lv S (rn_load Tryz.isAgg22 (S.tm rfl) (S.cell (i := 0) rfl rfl)) rfl ?_; clear S; intro a S
  refine lv S (rn_move (S.tm rfl)) rfl ?_; clear S; intro a S
  obtain ⟨hc3, h⟩ := chkE h
  obtain ⟨b1, o1, hm1, hr2⟩ := rn_indexT (a := a) (x := .tmp 52) (y := .tmp 53) (ty := 0) sl_22 hs_p_s_L (inB_get hc3).1 (inB_get hc3).2 (S.tm rfl) (S.tm rfl)
  refine lv S (hr2 _) rfl ?_; clear S; intro a S
  clear hr2
  refine lv S (rn_ld Tryz.isAgg3 (off := o1) (o := 0) (S.tm rfl) (hm1.at S.emb0) rfl) rfl ?_; clear S; intro a S
  obtain ⟨r2, hr3, h⟩ := bindE h
  refine l_enter S (fun _ => run_call (vs := [iV (nth p_s_L (Int.tmod (W ((W (p_s_at + 1)) - 1)) (p_s_L.length : Int))), iV 1073741824]) ⟨(S.tm rfl), rfl, trivial⟩ Tryz.call47) (tumbmake_Below_ok _ (nth p_s_L (Int.tmod (W ((W (p_s_at + 1)) - 1)) (p_s_L.length : Int))) 1073741824 _ hr3) rfl ?_; clear S; intro v2 a w5 hv2 hk5 hn2 S
  subst hv2
  refine lv S (rn_move (S.tm rfl)) rfl ?_; clear S; intro a S
  refine lv S (rn_move (S.tm rfl)) rfl ?_; clear S; intro a S
  refine lv S (rn_add rfl (S.tm rfl)) rfl ?_; clear S; intro a S
  refine lv S (rn_mul (S.tm rfl) (S.tm rfl)) rfl ?_; clear S; intro a S
  refine lv S (rn_add (S.tm rfl) (S.tm rfl)) rfl ?_; clear S; intro a S
  refine lv S (rn_move (S.tm rfl)) rfl ?_; clear S; intro a S
  obtain ⟨r3, hr4, h⟩ := bindE h
  refine l_enter S (fun _ => run_call (vs := [iV (W (r2 + (W ((W (Int.tdiv (W ((W (p_s_at + 1)) - 1)) (p_s_L.length : Int))) * (W (7919 + (Int.tmod (W ((W (p_s_at + 1)) - 1)) (p_s_L.length : Int)))))))), iV p_n]) ⟨(S.tm rfl), (S.tm rfl), trivial⟩ Tryz.call47) (tumbmake_Below_ok _ (W (r2 + (W ((W (Int.tdiv (W ((W (p_s_at + 1)) - 1)) (p_s_L.length : Int))) * (W (7919 + (Int.tmod (W ((W (p_s_at + 1)) - 1)) (p_s_L.length : Int)))))))) p_n _ hr4) rfl ?_; clear S; intro v3 a w6 hv3 hk6 hn3 S
  subst hv3
  refine lv S (rn_assign (S.tm rfl)) rfl ?_; clear S; intro a S
  refine l_done ?_
  replace S := S.nk [.blk b_p_s [v_p_s_L, iV (W (p_s_at + 1))] 25] [(4, iV r3)] [true] rfl ⟨rfl, trivial⟩
  refine then_n (wp_ret ?_)
  obtain rfl := Option.some.inj h
  exact f_ret S Tryz.results28 rfl ⟨(S.holds _ (List.mem_of_getElem? (i := 0) rfl)), rfl⟩
theorem Stream_Pick_ok (w : World) (b_p_s : Nat) (v_p_s_L : Value) (p_s_L : List Int) (hs_p_s_L : Slc (view w [b_p_s]) 1 v_p_s_L (p_s_L.map eInt)) (p_s_at : Int) (hb_b_p_s : (LEnt.blk b_p_s [v_p_s_L, iV p_s_at] 25).holds w) (v_p_l : Value) (p_l : List Int) (hs_p_l : Slc (view w [b_p_s]) 1 v_p_l (p_l.map eInt)) (r : Int × Int) (h : Stream_Pick p_s_L p_s_at p_l = some r) :
    Calls Tryz.prog 13 [.pointer (some ⟨b_p_s, 0, none⟩), v_p_l].toArray w (Ret w [b_p_s] fun _ v w' => (LEnt.blk b_p_s [v_p_s_L, iV r.2] 25).holds w' ∧ v = iV r.1) := by
 refine f_enter [b_p_s] [.blk b_p_s [v_p_s_L, iV p_s_at] 25] Tryz.func13 rfl Tryz.ntmps13 rfl (fun e he => by simp only [List.mem_singleton] at he; subst he; exact hb_b_p_s) (by simp [fps, LEnt.fp]) (by simp [fps, LEnt.fp]) fun a S => ?_
 unfold Stream_Pick at h
 replace S := S.nk [.blk b_p_s [v_p_s_L, iV p_s_at] 25] [(0, .pointer (some ⟨b_p_s, 0, none⟩)), (1, v_p_l)] [true] rfl (subR rfl)
 refine f_seq (f_region (lv S (rn_assign rfl) rfl ?_)); clear S; intro a S
 refine l_done (then_n (f_seq (f_region (lv S (rn_move (S.tm rfl)) rfl ?_)))); clear S; intro a S
 refine lv S (rn_move (S.tm rfl)) rfl ?_; clear S; intro a S
 refine lv S (rn_move (S.tm rfl)) rfl ?_; clear S; intro a S
 refine lv S (rn_lenT sl_22 (S.tm rfl) (slc_len hs_p_l)) rfl ?_; clear S; intro a S
 obtain ⟨r1, hr1, h⟩ := bindE h
 refine l_enter1 0 S (b := b_p_s) rfl rfl (fun _ => .blk b_p_s [v_p_s_L, iV r1.2] 25) (fun _ => run_call (vs := [.pointer (some ⟨b_p_s, 0, none⟩), iV (p_l.length : Int)]) ⟨(S.tm rfl), (S.tm rfl), trivial⟩ Tryz.call28) (Stream_Next_ok _ b_p_s v_p_s_L p_s_L (hs_p_s_L.mono (S.le_arg (fp_sub (i := 0) (e := .blk b_p_s [v_p_s_L, iV p_s_at] 25) rfl))) p_s_at (S.holds _ (List.mem_of_getElem? (i := 0) rfl)) (p_l.length : Int) _ hr1) rfl (fun _ _ _ h => ⟨h.1, fun _ hc => by cases hc; rfl⟩) ?_; clear S; intro v1 a w1 hv1 hk1 hn1 S
 replace hv1 := hv1.2
 subst hv1
 obtain ⟨hc1, h⟩ := chkE h
 obtain ⟨b1, o1, hm1, hr2⟩ := rn_indexT (a := a) (x := .tmp 5) (y := .tmp 9) (ty := 0) sl_22 hs_p_l (inB_get hc1).1 (inB_get hc1).2 (S.tm rfl) (S.tm rfl)
 refine lv S (hr2 _) rfl ?_; clear S; intro a S
 clear hr2
 refine lv S (rn_ld Tryz.isAgg3 (off := o1) (o := 0) (S.tm rfl) (hm1.at S.emb0) rfl) rfl ?_; clear S; intro a S
 refine lv S (rn_assign (S.tm rfl)) rfl ?_; clear S; intro a S
 refine l_done (then_n (wp_ret ?_))
 obtain rfl := Option.some.inj h
 exact f_ret S Tryz.results13 rfl ⟨(S.holds _ (List.mem_of_getElem? (i := 0) rfl)), rfl⟩
theorem Stream_Range_ok (w : World) (b_p_s : Nat) (v_p_s_L : Value) (p_s_L : List Int) (hs_p_s_L : Slc (view w [b_p_s]) 1 v_p_s_L (p_s_L.map eInt)) (p_s_at : Int) (hb_b_p_s : (LEnt.blk b_p_s [v_p_s_L, iV p_s_at] 25).holds w) (p_low : Int) (p_high : Int) (r : Int × Int) (h : Stream_Range p_s_L p_s_at p_low p_high = some r) :
    Calls Tryz.prog 9 [.pointer (some ⟨b_p_s, 0, none⟩), iV p_low, iV p_high].toArray w (Ret w [b_p_s] fun _ v w' => (LEnt.blk b_p_s [v_p_s_L, iV r.2] 25).holds w' ∧ v = iV r.1) := by
 refine f_enter [b_p_s] [.blk b_p_s [v_p_s_L, iV p_s_at] 25] Tryz.func9 rfl Tryz.ntmps9 rfl (fun e he => by simp only [List.mem_singleton] at he; subst he; exact hb_b_p_s) (by simp [fps, LEnt.fp]) (by simp [fps, LEnt.fp]) fun a S => ?_
 unfold Stream_Range at h
 replace S := S.nk [.blk b_p_s [v_p_s_L, iV p_s_at] 25] [(0, .pointer (some ⟨b_p_s, 0, none⟩)), (1, iV p_low), (2, iV p_high)] [true] rfl (subR rfl)
 refine f_seq (f_region (lv S (rn_assign rfl) rfl ?_)); clear S; intro a S
 refine l_done (then_n (f_seq (f_seq (f_region (lv S (rn_move (S.tm rfl)) rfl ?_))))); clear S; intro a S
 refine lv S (rn_move (S.tm rfl)) rfl ?_; clear S; intro a S
 refine lv S (rn_lss (S.tm rfl) (S.tm rfl)) rfl ?_; clear S; intro a S
 refine l_done (then_n (f_cond (S.tm rfl) (fun hb1 => ?_) (fun hb1 => ?_)))
 ·replace h := iteT h hb1
  refine f_seq (f_region (lv S (rn_move (S.tm rfl)) rfl ?_)); clear S; intro a S
  refine lv S (rn_assign (S.tm rfl)) rfl ?_; clear S; intro a S
  refine l_done (then_n (wp_ret (then_r ?_)))
  obtain rfl := Option.some.inj h
  exact f_ret S Tryz.results9 rfl ⟨(S.holds _ (List.mem_of_getElem? (i := 0) rfl)), rfl⟩
 ·replace h := iteF h hb1
  refine wp_skip (then_n (f_seq (f_region (lv S (rn_move (S.tm rfl)) rfl ?_)))); clear S; intro a S
  iterate 3 (refine lv S (rn_move (S.tm rfl)) rfl ?_; clear S; intro a S)
  refine lv S (rn_sub (S.tm rfl) (S.tm rfl)) rfl ?_; clear S; intro a S
  refine lv S (rn_add (S.tm rfl) rfl) rfl ?_; clear S; intro a S
  obtain ⟨r1, hr1, h⟩ := bindE h
  refine l_enter1 0 S (b := b_p_s) rfl rfl (fun _ => .blk b_p_s [v_p_s_L, iV r1.2] 25) (fun _ => run_call (vs := [.pointer (some ⟨b_p_s, 0, none⟩), iV (W ((W (p_high - p_low)) + 1))]) ⟨(S.tm rfl), (S.tm rfl), trivial⟩ Tryz.call28) (Stream_Next_ok _ b_p_s v_p_s_L p_s_L (hs_p_s_L.mono (S.le_arg (fp_sub (i := 0) (e := .blk b_p_s [v_p_s_L, iV p_s_at] 25) rfl))) p_s_at (S.holds _ (List.mem_of_getElem? (i := 0) rfl)) (W ((W (p_high - p_low)) + 1)) _ hr1) rfl (fun _ _ _ h => ⟨h.1, fun _ hc => by cases hc; rfl⟩) ?_; clear S; intro v1 a w1 hv1 hk1 hn1 S
  replace hv1 := hv1.2
  subst hv1
  refine lv S (rn_add (S.tm rfl) (S.tm rfl)) rfl ?_; clear S; intro a S
  refine lv S (rn_assign (S.tm rfl)) rfl ?_; clear S; intro a S
  refine l_done ?_
  replace S := S.nk [.blk b_p_s [v_p_s_L, iV r1.2] 25] [(6, iV (W (p_low + r1.1)))] [true] rfl ⟨rfl, trivial⟩
  refine then_n (wp_ret ?_)
  obtain rfl := Option.some.inj h
  exact f_ret S Tryz.results9 rfl ⟨(S.holds _ (List.mem_of_getElem? (i := 0) rfl)), rfl⟩
theorem Stream_RightTable_ok (w : World) (b_p_s : Nat) (v_p_s_L : Value) (p_s_L : List Int) (hs_p_s_L : Slc (view w [b_p_s]) 1 v_p_s_L (p_s_L.map eInt)) (p_s_at : Int) (hb_b_p_s : (LEnt.blk b_p_s [v_p_s_L, iV p_s_at] 25).holds w) (r : GTable × Int) (h : Stream_RightTable p_s_L p_s_at = some r) :
    Calls Tryz.prog 4 [.pointer (some ⟨b_p_s, 0, none⟩)].toArray w (Ret w [b_p_s] fun τ v w' => (LEnt.blk b_p_s [v_p_s_L, iV r.2] 25).holds w' ∧ ∃ q : R27, v = .agg (R27.enc q).toArray ∧ rel_27 τ r.1 q) := by
 refine f_enter [b_p_s] [.blk b_p_s [v_p_s_L, iV p_s_at] 25] Tryz.func4 rfl Tryz.ntmps4 rfl (fun e he => by simp only [List.mem_singleton] at he; subst he; exact hb_b_p_s) (by simp [fps, LEnt.fp]) (by simp [fps, LEnt.fp]) fun a S => ?_
 unfold Stream_RightTable at h
 replace S := S.nk [.blk b_p_s [v_p_s_L, iV p_s_at] 25] [(0, .pointer (some ⟨b_p_s, 0, none⟩))] [true] rfl ⟨rfl, trivial⟩
 refine f_seq (f_region (l_alloc S Tryz.zeroValue27 (cs := [.slice none 0 0, iV 0, iV 0]) rfl rfl ?_)); clear S; intro a w1 b1 hz1 hk1 S
 replace S := S.nil 3 1
 refine l_done (then_n (f_seq (f_region (lv S (rn_move (S.tm rfl)) rfl ?_)))); clear S; intro a S
 refine l_buildSlice S Tryz.underlying22 Tryz.sizeOf3 Tryz.zeroValue3 rfl rfl (pv := [(0, iV 1), (1, iV 2)]) ⟨rfl, rfl, rfl, rfl, trivial⟩ (cs := [iV 1, iV 2]) (by kernel_rfl) rfl ?_; clear S; intro a w2 b2 hz2 hk2 S
 obtain ⟨r1, hr1, h⟩ := bindE h
 refine l_enter1 3 S (b := b_p_s) rfl rfl (fun _ => .blk b_p_s [v_p_s_L, iV r1.2] 25) (fun _ => run_call (vs := [.pointer (some ⟨b_p_s, 0, none⟩), .slice (some ⟨b2, 0, none⟩) 2 2]) ⟨(S.tm rfl), (S.tm rfl), trivial⟩ Tryz.call13) (Stream_Pick_ok _ b_p_s v_p_s_L p_s_L (hs_p_s_L.mono (S.le_arg (fp_sub (i := 3) (e := .blk b_p_s [v_p_s_L, iV p_s_at] 25) rfl))) p_s_at (S.holds _ (List.mem_of_getElem? (i := 3) rfl)) (.slice (some ⟨b2, 0, none⟩) 2 2) [1, 2] (lit_slcT enc_int S (i := 0) rfl rfl rfl rfl ((ne_fp (i := 3) (j := 0) (e := .blk b_p_s [v_p_s_L, iV p_s_at] 25) (e' := .blk b2 [iV 1, iV 2] 3) S rfl rfl rfl) _ rfl)) _ hr1) rfl (fun _ _ _ h => ⟨h.1, fun _ hc => by cases hc; rfl⟩) ?_; clear S; intro v1 a w3 hv1 hk3 hn1 S
 replace hv1 := hv1.2
 subst hv1
 refine lv S (rn_move (S.tm rfl)) rfl ?_; clear S; intro a S
 refine l_buildSlice S Tryz.underlying22 Tryz.sizeOf3 Tryz.zeroValue3 rfl rfl (pv := [(0, iV 0), (1, iV 0), (2, iV 1), (3, iV 2)]) ⟨rfl, rfl, rfl, rfl, rfl, rfl, rfl, rfl, trivial⟩ (cs := [iV 0, iV 0, iV 1, iV 2]) (by kernel_rfl) rfl ?_; clear S; intro a w4 b3 hz3 hk4 S
 obtain ⟨r2, hr2, h⟩ := bindE h
 refine l_enter1 4 S (b := b_p_s) rfl rfl (fun _ => .blk b_p_s [v_p_s_L, iV r2.2] 25) (fun _ => run_call (vs := [.pointer (some ⟨b_p_s, 0, none⟩), .slice (some ⟨b3, 0, none⟩) 4 4]) ⟨(S.tm rfl), (S.tm rfl), trivial⟩ Tryz.call13) (Stream_Pick_ok _ b_p_s v_p_s_L p_s_L (hs_p_s_L.mono (S.le_arg (fp_sub (i := 4) (e := .blk b_p_s [v_p_s_L, iV r1.2] 25) rfl))) r1.2 (S.holds _ (List.mem_of_getElem? (i := 4) rfl)) (.slice (some ⟨b3, 0, none⟩) 4 4) [0, 0, 1, 2] (lit_slcT enc_int S (i := 0) rfl rfl rfl rfl ((ne_fp (i := 4) (j := 0) (e := .blk b_p_s [v_p_s_L, iV r1.2] 25) (e' := .blk b3 [iV 0, iV 0, iV 1, iV 2] 3) S rfl rfl rfl) _ rfl)) _ hr2) rfl (fun _ _ _ h => ⟨h.1, fun _ hc => by cases hc; rfl⟩) ?_; clear S; intro v2 a w5 hv2 hk5 hn2 S
 replace hv2 := hv2.2
 subst hv2
 refine lv S (rn_bld bt_27 (pv := [(1, iV r1.1), (2, iV r2.1)]) ⟨rfl, (S.tm rfl), rfl, (S.tm rfl), trivial⟩ (cs := [.slice none 0 0, iV r1.1, iV r2.1]) (by kernel_rfl)) rfl ?_; clear S; intro a S
 refine l_alloc S Tryz.zeroValue27 (cs := [.slice none 0 0, iV 0, iV 0]) rfl rfl ?_; clear S; intro a w6 b4 hz4 hk6 S
 replace S := S.nil 3 1
 refine l_store S (S.tm rfl) (S.tm rfl) (i := 1) (off := 0) rfl Tryz.sizeOf27 (vs := [.slice none 0 0, iV r1.1, iV r2.1]) rfl rfl rfl rfl ?_; clear S; intro w7 hk7 S
 replace S := S.nil 3 1
 refine l_done ?_
 replace S := S.nk [.own (.slice none 0 0) 3 1 ([] : List Int).length (([] : List Int).flatMap eInt), .blk b4 [(.slice none 0 0), iV r1.1, iV r2.1] 27, .own (.slice none 0 0) 3 1 ([] : List Int).length (([] : List Int).flatMap eInt), .blk b1 [(.slice none 0 0), iV 0, iV 0] 27, .blk b_p_s [v_p_s_L, iV r2.2] 25] [(0, .pointer (some ⟨b_p_s, 0, none⟩)), (2, .pointer (some ⟨b1, 0, none⟩)), (3, .pointer (some ⟨b4, 0, none⟩))] [true, false, true, false, false, true, true, true] rfl (subR rfl)
 refine then_n (f_seq (f_region (lv S (rn_move (S.tm rfl)) rfl ?_))); clear S; intro a S
 refine l_buildSlice S Tryz.underlying22 Tryz.sizeOf3 Tryz.zeroValue3 rfl rfl (pv := [(0, iV 10), (1, iV 9), (2, iV 7), (3, iV 5)]) ⟨rfl, rfl, rfl, rfl, rfl, rfl, rfl, rfl, trivial⟩ (cs := [iV 10, iV 9, iV 7, iV 5]) (by kernel_rfl) rfl ?_; clear S; intro a w8 b5 hz5 hk8 S
 obtain ⟨r3, hr3, h⟩ := bindE h
 refine l_enter1 5 S (b := b_p_s) rfl rfl (fun _ => .blk b_p_s [v_p_s_L, iV r3.2] 25) (fun _ => run_call (vs := [.pointer (some ⟨b_p_s, 0, none⟩), .slice (some ⟨b5, 0, none⟩) 4 4]) ⟨(S.tm rfl), (S.tm rfl), trivial⟩ Tryz.call13) (Stream_Pick_ok _ b_p_s v_p_s_L p_s_L (hs_p_s_L.mono (S.le_arg (fp_sub (i := 5) (e := .blk b_p_s [v_p_s_L, iV r2.2] 25) rfl))) r2.2 (S.holds _ (List.mem_of_getElem? (i := 5) rfl)) (.slice (some ⟨b5, 0, none⟩) 4 4) [10, 9, 7, 5] (lit_slcT enc_int S (i := 0) rfl rfl rfl rfl ((ne_fp (i := 5) (j := 0) (e := .blk b_p_s [v_p_s_L, iV r2.2] 25) (e' := .blk b5 [iV 10, iV 9, iV 7, iV 5] 3) S rfl rfl rfl) _ rfl)) _ hr3) rfl (fun _ _ _ h => ⟨h.1, fun _ hc => by cases hc; rfl⟩) ?_; clear S; intro v3 a w9 hv3 hk9 hn3 S
 replace hv3 := hv3.2
 subst hv3
 refine lv S (rn_assign (S.tm rfl)) rfl ?_; clear S; intro a S
 refine l_done ?_
 replace S := S.nk [.own (.slice none 0 0) 3 1 ([] : List Int).length (([] : List Int).flatMap eInt), .blk b4 [(.slice none 0 0), iV r1.1, iV r2.1] 27, .own (.slice none 0 0) 3 1 ([] : List Int).length (([] : List Int).flatMap eInt), .blk b1 [(.slice none 0 0), iV 0, iV 0] 27, .blk b_p_s [v_p_s_L, iV r3.2] 25] [(0, .pointer (some ⟨b_p_s, 0, none⟩)), (2, .pointer (some ⟨b1, 0, none⟩)), (3, .pointer (some ⟨b4, 0, none⟩)), (4, iV r3.1)] [false, true, true, true, true, true] rfl (subR rfl)
 refine then_n (f_seq (f_seq (f_region (lv S (rn_move (S.tm rfl)) rfl ?_)))); clear S; intro a S
 obtain ⟨r4, hr4, h⟩ := bindE h
 refine l_enter1 4 S (b := b_p_s) rfl rfl (fun _ => .blk b_p_s [v_p_s_L, iV r4.2] 25) (fun _ => run_call (vs := [.pointer (some ⟨b_p_s, 0, none⟩), iV 0, iV 5]) ⟨(S.tm rfl), rfl, rfl, trivial⟩ Tryz.call9) (Stream_Range_ok _ b_p_s v_p_s_L p_s_L (hs_p_s_L.mono (S.le_arg (fp_sub (i := 4) (e := .blk b_p_s [v_p_s_L, iV r3.2] 25) rfl))) r3.2 (S.holds _ (List.mem_of_getElem? (i := 4) rfl)) 0 5 _ hr4) rfl (fun _ _ _ h => ⟨h.1, fun _ hc => by cases hc; rfl⟩) ?_; clear S; intro v4 a w10 hv4 hk10 hn4 S
 replace hv4 := hv4.2
 subst hv4
 refine lv S (rn_move rfl) rfl ?_; clear S; intro a S
 refine l_done (then_n ?_)
 replace S := S.nk [.own (.slice none 0 0) 3 1 ([] : List Int).length (([] : List Int).flatMap eInt), .blk b4 [(.slice none 0 0), iV r1.1, iV r2.1] 27, .own (.slice none 0 0) 3 1 ([] : List Int).length (([] : List Int).flatMap eInt), .blk b1 [(.slice none 0 0), iV 0, iV 0] 27, .blk b_p_s [v_p_s_L, iV r4.2] 25] [(0, .pointer (some ⟨b_p_s, 0, none⟩)), (2, .pointer (some ⟨b1, 0, none⟩)), (3, .pointer (some ⟨b4, 0, none⟩)), (4, iV r3.1), (16, iV r4.1), (17, iV 0)] [true, true, true, true, true] rfl (subR rfl)
 obtain ⟨j1, hj1, h⟩ := joinE h
 refine f_join (fun a w' => ∃ x1 : List Int, ∃ x2 : Int, ∃ v5 : Value, j1 x1 x2 = some r ∧ Sx w [b_p_s] nov [.own v5 3 1 x1.length (x1.flatMap eInt), .blk b4 [v5, iV r1.1, iV r2.1] 27, .own (.slice none 0 0) 3 1 ([] : List Int).length (([] : List Int).flatMap eInt), .blk b1 [(.slice none 0 0), iV 0, iV 0] 27, .blk b_p_s [v_p_s_L, iV x2] 25] [(2, .pointer (some ⟨b1, 0, none⟩)), (3, .pointer (some ⟨b4, 0, none⟩))] 33 a w') ?_ ?_
 ·refine wp_block (f_loop (fun (m1 : Nat) a w' => ∃ x1 : List Int, ∃ x2 : Int, ∃ x3 : Int, ∃ x4 : Int, ∃ v5 : Value, Stream_RightTable_l1 r4 p_s_L j1 m1 x1 x2 x3 x4 = some r ∧ Sx w [b_p_s] nov [.own v5 3 1 x1.length (x1.flatMap eInt), .blk b4 [v5, iV r1.1, iV r2.1] 27, .own (.slice none 0 0) 3 1 ([] : List Int).length (([] : List Int).flatMap eInt), .blk b1 [(.slice none 0 0), iV 0, iV 0] 27, .blk b_p_s [v_p_s_L, iV x2] 25] [(0, .pointer (some ⟨b_p_s, 0, none⟩)), (2, .pointer (some ⟨b1, 0, none⟩)), (3, .pointer (some ⟨b4, 0, none⟩)), (4, iV x3), (16, iV r4.1), (17, iV x4)] 33 a w') id ((r4.1 - 0).toNat + 2) ⟨([] : List Int), r4.2, r3.1, 0, (.slice none 0 0), h, S.nf [true, true, true, true, true] rfl (subR rfl)⟩ ?_)
  clear S h; rintro m1 a w11 ⟨x1, x2, x3, x4, v5, h, S⟩
  cases m1 with
  | zero => rw [Stream_RightTable_l1.eq_1] at h; cases h
  | succ m1 =>
   rw [Stream_RightTable_l1.eq_2] at h
   refine f_seq (f_region (lv S (rn_lss (S.tm rfl) (S.tm rfl)) rfl ?_)); clear S; intro a S
   refine l_done (then_n (f_seq (f_cond (S.tm rfl) (fun hb1 => ?_) (fun hb1 => ?_))))
   ·replace h := iteT h hb1
    refine wp_skip (then_n (f_seq (wp_block (f_seq (f_region (lv S (rn_fld fa_27_0 (S.tm rfl)) rfl ?_)))))); clear S; intro a S
    refine lv S (rn_load Tryz.isAgg22 (S.tm rfl) (S.cell (i := 1) rfl rfl)) rfl ?_; clear S; intro a S
    refine lv S (rn_move (S.tm rfl)) rfl ?_; clear S; intro a S
    refine l_buildSlice S Tryz.underlying22 Tryz.sizeOf3 Tryz.zeroValue3 rfl rfl (pv := [(0, iV x3)]) ⟨rfl, (S.tm rfl), trivial⟩ (cs := [iV x3]) (by kernel_rfl) rfl ?_; clear S; intro a w13 b6 hz6 hk11 S
    obtain ⟨hc1, h⟩ := chkE h
    refine l_appendT sl_22 enc_int S (S.tm rfl) (i := 1) rfl (S.tm rfl) (j := 0) rfl (ys := [x3]) rfl rfl rfl rfl (by have := room_lt hc1; omega) rfl ?_; clear S; intro v6 a w14 hk12 S
    refine lv S (rn_fld fa_27_0 (S.tm rfl)) rfl ?_; clear S; intro a S
    refine l_store S (S.tm rfl) (S.tm rfl) (i := 2) (off := 0) rfl Tryz.sizeOf22 (vs := [v6]) (SlcLen.cells (own_len (S.own_at (i := 1) rfl))) rfl rfl (all1 (SlcLen.one (own_len (S.own_at (i := 1) rfl))) rfl) ?_; clear S; intro w15 hk13 S
    refine l_done ?_
    replace S := S.nk [.own v6 3 1 (x1 ++ [x3]).length ((x1 ++ [x3]).flatMap eInt), .blk b4 [v6, iV r1.1, iV r2.1] 27, .own (.slice none 0 0) 3 1 ([] : List Int).length (([] : List Int).flatMap eInt), .blk b1 [(.slice none 0 0), iV 0, iV 0] 27, .blk b_p_s [v_p_s_L, iV x2] 25] [(0, .pointer (some ⟨b_p_s, 0, none⟩)), (2, .pointer (some ⟨b1, 0, none⟩)), (3, .pointer (some ⟨b4, 0, none⟩)), (4, iV x3), (16, iV r4.1), (17, iV x4)] [false, true, true, true, true, true] rfl (subR rfl)
    refine then_n (f_region (lv S (rn_move (S.tm rfl)) rfl ?_)); clear S; intro a S
    refine lv S (rn_move (S.tm rfl)) rfl ?_; clear S; intro a S
    refine l_buildSlice S Tryz.underlying22 Tryz.sizeOf3 Tryz.zeroValue3 rfl rfl (pv := [(0, iV 0), (1, iV 1), (2, iV 2), (3, iV 3)]) ⟨rfl, rfl, rfl, rfl, rfl, rfl, rfl, rfl, trivial⟩ (cs := [iV 0, iV 1, iV 2, iV 3]) (by kernel_rfl) rfl ?_; clear S; intro a w16 b7 hz7 hk14 S
    obtain ⟨r5, hr5, h⟩ := bindE h
    refine l_enter1 5 S (b := b_p_s) rfl rfl (fun _ => .blk b_p_s [v_p_s_L, iV r5.2] 25) (fun _ => run_call (vs := [.pointer (some ⟨b_p_s, 0, none⟩), .slice (some ⟨b7, 0, none⟩) 4 4]) ⟨(S.tm rfl), (S.tm rfl), trivial⟩ Tryz.call13) (Stream_Pick_ok _ b_p_s v_p_s_L p_s_L (hs_p_s_L.mono (S.le_arg (fp_sub (i := 5) (e := .blk b_p_s [v_p_s_L, iV x2] 25) rfl))) x2 (S.holds _ (List.mem_of_getElem? (i := 5) rfl)) (.slice (some ⟨b7, 0, none⟩) 4 4) [0, 1, 2, 3] (lit_slcT enc_int S (i := 0) rfl rfl rfl rfl ((ne_fp (i := 5) (j := 0) (e := .blk b_p_s [v_p_s_L, iV x2] 25) (e' := .blk b7 [iV 0, iV 1, iV 2, iV 3] 3) S rfl rfl rfl) _ rfl)) _ hr5) rfl (fun _ _ _ h => ⟨h.1, fun _ hc => by cases hc; rfl⟩) ?_; clear S; intro v7 a w17 hv5 hk15 hn5 S
    replace hv5 := hv5.2
    subst hv5
    refine lv S (rn_sub (S.tm rfl) (S.tm rfl)) rfl ?_; clear S; intro a S
    refine lv S (rn_max2 rfl (S.tm rfl)) rfl ?_; clear S; intro a S
    refine lv S (rn_assign (S.tm rfl)) rfl ?_; clear S; intro a S
    refine l_done ?_
    replace S := S.nk [.own v6 3 1 (x1 ++ [x3]).length ((x1 ++ [x3]).flatMap eInt), .blk b4 [v6, iV r1.1, iV r2.1] 27, .own (.slice none 0 0) 3 1 ([] : List Int).length (([] : List Int).flatMap eInt), .blk b1 [(.slice none 0 0), iV 0, iV 0] 27, .blk b_p_s [v_p_s_L, iV r5.2] 25] [(0, .pointer (some ⟨b_p_s, 0, none⟩)), (2, .pointer (some ⟨b1, 0, none⟩)), (3, .pointer (some ⟨b4, 0, none⟩)), (4, iV (imax 0 (W (x3 - r5.1)))), (16, iV r4.1), (17, iV x4)] [false, true, true, true, true, true] rfl (subR rfl)
    refine blk_n (then_n (f_region (lv S (rn_add (S.tm rfl) rfl) rfl ?_))); clear S; intro a S
    refine lv S (rn_move (S.tm rfl)) rfl ?_; clear S; intro a S
    refine l_done (then_n ?_)
    exact ⟨m1, ⟨(x1 ++ [x3]), r5.2, imax 0 (W (x3 - r5.1)), W (x4 + 1), v6, h, S.nf [true, true, true, true, true] rfl ⟨rfl, rfl, rfl, rfl, rfl, rfl, trivial⟩⟩, Nat.lt_succ_self _⟩
   ·replace h := iteF h hb1
    refine wp_exit (then_x (then_x (x_same (then_n ?_))))
    exact ⟨x1, x2, v5, h, S.nf [true, true, true, true, true] rfl (subR rfl)⟩
 clear S h; rintro a w12 ⟨x1, x2, v5, h, S⟩; rw [hj1] at h; clear hj1 j1
 refine then_n (f_seq (f_region (lv S (rn_ldA Tryz.isAgg27 Tryz.sizeOf27 (off := 0) (o := 0) (part := [v5, iV r1.1, iV r2.1]) rfl rfl (S.tm rfl) (S.cellsAt (i := 1) rfl)) rfl ?_))); clear S; intro a S
 refine l_store S (S.tm rfl) (S.tm rfl) (i := 3) (off := 0) rfl Tryz.sizeOf27 (vs := [v5, iV r1.1, iV r2.1]) rfl rfl rfl (all1 (SlcLen.one (own_len (S.own_at (i := 0) rfl))) (all1 rfl (all1 rfl rfl))) ?_; clear S; intro w18 hk16 S
 refine l_done (then_n (wp_ret ?_))
 obtain ⟨φ1, hl1, hs1, S⟩ := S.freezeT (xs := x1) (enc := eInt) (i := 0) rfl (fun c hc hh => not_fps S (i := 4) rfl rfl (j := 0) rfl rfl (by simp at hc; subst hc; exact hh))
 replace S := S.nk [.blk b4 [v5, iV r1.1, iV r2.1] 27, .own (.slice none 0 0) 3 1 ([] : List Int).length (([] : List Int).flatMap eInt), .blk b1 [v5, iV r1.1, iV r2.1] 27, .blk b_p_s [v_p_s_L, iV x2] 25] [(2, .pointer (some ⟨b1, 0, none⟩)), (3, .pointer (some ⟨b4, 0, none⟩)), (32, .agg #[v5, iV r1.1, iV r2.1])] [] rfl (subR rfl)
 obtain rfl := Option.some.inj h
 exact f_retG S (rs := [.cell 2 27]) (vs := [.agg (R27.enc (R27.mk ⟨v5, SlcLen.one (slc_len (ownV_slcT enc_int hs1))⟩ r1.1 r2.1)).toArray]) Tryz.results4 ⟨(res_cell (off := 0) S rfl Tryz.isAgg27 Tryz.sizeOf27 rfl (S.cellsAt (i := 2) rfl)), trivial⟩ rfl ⟨(S.holds _ (List.mem_of_getElem? (i := 3) rfl)), ⟨(R27.mk ⟨v5, SlcLen.one (slc_len (ownV_slcT enc_int hs1))⟩ r1.1 r2.1), rfl, rel_27_mono S.le_newer _ _ ⟨⟨v5, SlcLen.one (slc_len (ownV_slcT enc_int hs1))⟩, rfl, (ownV_slcT enc_int hs1)⟩⟩⟩
theorem Stream_Flip_ok (w : World) (b_p_s : Nat) (v_p_s_L : Value) (p_s_L : List Int) (hs_p_s_L : Slc (view w [b_p_s]) 1 v_p_s_L (p_s_L.map eInt)) (p_s_at : Int) (hb_b_p_s : (LEnt.blk b_p_s [v_p_s_L, iV p_s_at] 25).holds w) (p_n : Int) (r : Bool × Int) (h : Stream_Flip p_s_L p_s_at p_n = some r) :
    Calls Tryz.prog 14 [.pointer (some ⟨b_p_s, 0, none⟩), iV p_n].toArray w (Ret w [b_p_s] fun _ v w' => (LEnt.blk b_p_s [v_p_s_L, iV r.2] 25).holds w' ∧ v = bV r.1) := by
 refine f_enter [b_p_s] [.blk b_p_s [v_p_s_L, iV p_s_at] 25] Tryz.func14 rfl Tryz.ntmps14 rfl (fun e he => by simp only [List.mem_singleton] at he; subst he; exact hb_b_p_s) (by simp [fps, LEnt.fp]) (by simp [fps, LEnt.fp]) fun a S => ?_
 unfold Stream_Flip at h
 replace S := S.nk [.blk b_p_s [v_p_s_L, iV p_s_at] 25] [(0, .pointer (some ⟨b_p_s, 0, none⟩)), (1, iV p_n)] [true] rfl (subR rfl)
 refine f_seq (f_region (lv S (rn_assign rfl) rfl ?_)); clear S; intro a S
 refine l_done (then_n (f_seq (f_region (lv S (rn_move (S.tm rfl)) rfl ?_)))); clear S; intro a S
 refine lv S (rn_move (S.tm rfl)) rfl ?_; clear S; intro a S
 obtain ⟨r1, hr1, h⟩ := bindE h
 refine l_enter1 0 S (b := b_p_s) rfl rfl (fun _ => .blk b_p_s [v_p_s_L, iV r1.2] 25) (fun _ => run_call (vs := [.pointer (some ⟨b_p_s, 0, none⟩), iV p_n]) ⟨(S.tm rfl), (S.tm rfl), trivial⟩ Tryz.call28) (Stream_Next_ok _ b_p_s v_p_s_L p_s_L (hs_p_s_L.mono (S.le_arg (fp_sub (i := 0) (e := .blk b_p_s [v_p_s_L, iV p_s_at] 25) rfl))) p_s_at (S.holds _ (List.mem_of_getElem? (i := 0) rfl)) p_n _ hr1) rfl (fun _ _ _ h => ⟨h.1, fun _ hc => by cases hc; rfl⟩) ?_; clear S; intro v1 a w1 hv1 hk1 hn1 S
 replace hv1 := hv1.2
 subst hv1
 refine lv S (rn_eql (S.tm rfl) rfl) rfl ?_; clear S; intro a S
 refine lv S (rn_assign (S.tm rfl)) rfl ?_; clear S; intro a S
 refine l_done (then_n (wp_ret ?_))
 obtain rfl := Option.some.inj h
 exact f_ret S Tryz.results14 rfl ⟨(S.holds _ (List.mem_of_getElem? (i := 0) rfl)), rfl⟩
theorem Stream_Some_ok (w : World) (b_p_s : Nat) (v_p_s_L : Value) (p_s_L : List Int) (hs_p_s_L : Slc (view w [b_p_s]) 1 v_p_s_L (p_s_L.map eInt)) (p_s_at : Int) (hb_b_p_s : (LEnt.blk b_p_s [v_p_s_L, iV p_s_at] 25).holds w) (v_p_l : Value) (p_l : List ByteArray) (hs_p_l : Slc (view w [b_p_s]) 1 v_p_l (p_l.map eStr)) (r : ByteArray × Int) (h : Stream_Some p_s_L p_s_at p_l = some r) :
    Calls Tryz.prog 15 [.pointer (some ⟨b_p_s, 0, none⟩), v_p_l].toArray w (Ret w [b_p_s] fun _ v w' => (LEnt.blk b_p_s [v_p_s_L, iV r.2] 25).holds w' ∧ v = sV r.1) := by
 refine f_enter [b_p_s] [.blk b_p_s [v_p_s_L, iV p_s_at] 25] Tryz.func15 rfl Tryz.ntmps15 rfl (fun e he => by simp only [List.mem_singleton] at he; subst he; exact hb_b_p_s) (by simp [fps, LEnt.fp]) (by simp [fps, LEnt.fp]) fun a S => ?_
 unfold Stream_Some at h
 replace S := S.nk [.blk b_p_s [v_p_s_L, iV p_s_at] 25] [(0, .pointer (some ⟨b_p_s, 0, none⟩)), (1, v_p_l)] [true] rfl (subR rfl)
 refine f_seq (f_region (lv S (rn_assign rfl) rfl ?_)); clear S; intro a S
 refine l_done (then_n (f_seq (f_region (lv S (rn_move (S.tm rfl)) rfl ?_)))); clear S; intro a S
 refine lv S (rn_move (S.tm rfl)) rfl ?_; clear S; intro a S
 refine lv S (rn_move (S.tm rfl)) rfl ?_; clear S; intro a S
 refine lv S (rn_lenT sl_37 (S.tm rfl) (slc_len hs_p_l)) rfl ?_; clear S; intro a S
 obtain ⟨r1, hr1, h⟩ := bindE h
 refine l_enter1 0 S (b := b_p_s) rfl rfl (fun _ => .blk b_p_s [v_p_s_L, iV r1.2] 25) (fun _ => run_call (vs := [.pointer (some ⟨b_p_s, 0, none⟩), iV (p_l.length : Int)]) ⟨(S.tm rfl), (S.tm rfl), trivial⟩ Tryz.call28) (Stream_Next_ok _ b_p_s v_p_s_L p_s_L (hs_p_s_L.mono (S.le_arg (fp_sub (i := 0) (e := .blk b_p_s [v_p_s_L, iV p_s_at] 25) rfl))) p_s_at (S.holds _ (List.mem_of_getElem? (i := 0) rfl)) (p_l.length : Int) _ hr1) rfl (fun _ _ _ h => ⟨h.1, fun _ hc => by cases hc; rfl⟩) ?_; clear S; intro v1 a w1 hv1 hk1 hn1 S
 replace hv1 := hv1.2
 subst hv1
 obtain ⟨hc1, h⟩ := chkE h
 obtain ⟨b1, o1, hm1, hr2⟩ := rn_indexT (a := a) (x := .tmp 5) (y := .tmp 9) (ty := 0) sl_37 hs_p_l (inB_get hc1).1 (inB_get hc1).2 (S.tm rfl) (S.tm rfl)
 refine lv S (hr2 _) rfl ?_; clear S; intro a S
 clear hr2
 refine lv S (rn_ld Tryz.isAgg9 (off := o1) (o := 0) (S.tm rfl) (hm1.at S.emb0) rfl) rfl ?_; clear S; intro a S
 refine lv S (rn_assign (S.tm rfl)) rfl ?_; clear S; intro a S
 refine l_done (then_n (wp_ret ?_))
 obtain rfl := Option.some.inj h
 exact f_ret S Tryz.results15 rfl ⟨(S.holds _ (List.mem_of_getElem? (i := 0) rfl)), rfl⟩
set_option maxRecDepth 20000 in
theorem bits_Len32_ok (w : World) (p_x : Int) (r : Int) (h : bits_Len32 p_x = some r) :
    Calls Tryz.prog 68 [.int .u32 p_x].toArray w (Ret w [] fun _ v _ => v = iV r) := by
 refine f_enter [] [] Tryz.func68 rfl Tryz.ntmps68 rfl (by simp) (by simp [fps]) (by simp [fps]) fun a S => ?_
 unfold bits_Len32 at h
 replace S := S.nk [] [(0, .int .u32 p_x)] [] rfl ⟨rfl, trivial⟩
 refine f_seq (f_region (lv S (rn_assign rfl) rfl ?_)); clear S; intro a S
 refine l_done (then_n (f_seq (f_seq (f_region (lv S (rn_move (S.tm rfl)) rfl ?_))))); clear S; intro a S
 refine lv S (rn_geq (S.tm rfl) rfl) rfl ?_; clear S; intro a S
 refine l_done (then_n ?_)
 obtain ⟨j1, hj1, h⟩ := joinE h
 refine f_join (fun a w' => ∃ x1 : Int, ∃ x2 : Int, j1 x1 x2 = some r ∧ Sx w [] nov [] [(0, .int .u32 x1), (2, iV x2)] 19 a w') ?_ ?_
 ·refine f_cond (S.tm rfl) (fun hb1 => ?_) (fun hb1 => ?_)
  ·replace h := iteT h hb1
   refine f_seq (f_region (lv S (rn_move (S.tm rfl)) rfl ?_)); clear S; intro a S
   refine lv S (rn_shr (S.tm rfl) rfl (by decide)) rfl ?_; clear S; intro a S
   refine lv S (rn_assign (S.tm rfl)) rfl ?_; clear S; intro a S
   refine l_done (then_n (f_region (lv S (rn_assign rfl) rfl ?_))); clear S; intro a S
   refine l_done (then_n ?_)
   exact ⟨bitShr .u32 p_x 16, 16, h, S.nf [] rfl (subR rfl)⟩
  ·replace h := iteF h hb1
   refine wp_skip (then_n ?_)
   exact ⟨p_x, 0, h, S.nf [] rfl (subR rfl)⟩
 clear S h; rintro a w1 ⟨x1, x2, h, S⟩; rw [hj1] at h; clear hj1 j1
 refine then_n (f_seq (f_seq (f_region (lv S (rn_move (S.tm rfl)) rfl ?_)))); clear S; intro a S
 refine lv S (rn_geq (S.tm rfl) rfl) rfl ?_; clear S; intro a S
 refine l_done (then_n ?_)
 obtain ⟨j2, hj2, h⟩ := joinE h
 refine f_join (fun a w' => ∃ x3 : Int, ∃ x4 : Int, j2 x3 x4 = some r ∧ Sx w [] nov [] [(0, .int .u32 x3), (2, iV x4)] 19 a w') ?_ ?_
 ·refine f_cond (S.tm rfl) (fun hb2 => ?_) (fun hb2 => ?_)
  ·replace h := iteT h hb2
   refine f_seq (f_region (lv S (rn_move (S.tm rfl)) rfl ?_)); clear S; intro a S
   refine lv S (rn_shr (S.tm rfl) rfl (by decide)) rfl ?_; clear S; intro a S
   refine lv S (rn_assign (S.tm rfl)) rfl ?_; clear S; intro a S
   refine l_done (then_n (f_region (lv S (rn_move (S.tm rfl)) rfl ?_))); clear S; intro a S
   refine lv S (rn_add (S.tm rfl) rfl) rfl ?_; clear S; intro a S
   refine lv S (rn_assign (S.tm rfl)) rfl ?_; clear S; intro a S
   refine l_done (then_n ?_)
   exact ⟨bitShr .u32 x1 8, W (x2 + 8), h, S.nf [] rfl (subR rfl)⟩
  ·replace h := iteF h hb2
   refine wp_skip (then_n ?_)
   exact ⟨x1, x2, h, S.nf [] rfl (subR rfl)⟩
 clear S h; rintro a w2 ⟨x3, x4, h, S⟩; rw [hj2] at h; clear hj2 j2
 refine then_n (f_seq (f_region (lv S (rn_move (S.tm rfl)) rfl ?_))); clear S; intro a S
 refine lv S (rn_move (S.tm rfl)) rfl ?_; clear S; intro a S
 refine lv S (rn_conv Tryz.underlying122 Tryz.underlying5 (S.tm rfl)) rfl ?_; clear S; intro a S
 obtain ⟨hc1, h⟩ := chkE h
 refine lv S (rn_sindexT Tryz.underlying9 rfl (S.tm rfl) hc1) rfl ?_; clear S; intro a S
 refine lv S (rn_conv Tryz.underlying5 Tryz.underlying3 (S.tm rfl)) rfl ?_; clear S; intro a S
 refine lv S (rn_add (S.tm rfl) (S.tm rfl)) rfl ?_; clear S; intro a S
 refine lv S (rn_assign (S.tm rfl)) rfl ?_; clear S; intro a S
 refine l_done (then_n (wp_ret ?_))
 obtain rfl := Option.some.inj h
 exact f_ret S Tryz.results68 rfl rfl
set_option maxRecDepth 20000 in
theorem bits_Len64_ok (w : World) (p_x : Int) (r : Int) (h : bits_Len64 p_x = some r) :
    Calls Tryz.prog 69 [.int .u64 p_x].toArray w (Ret w [] fun _ v _ => v = iV r) := by
 refine f_enter [] [] Tryz.func69 rfl Tryz.ntmps69 rfl (by simp) (by simp [fps]) (by simp [fps]) fun a S => ?_
 unfold bits_Len64 at h
 replace S := S.nk [] [(0, .int .u64 p_x)] [] rfl ⟨rfl, trivial⟩
 refine f_seq (f_region (lv S (rn_assign rfl) rfl ?_)); clear S; intro a S
 refine l_done (then_n (f_seq (f_seq (f_region (lv S (rn_move (S.tm rfl)) rfl ?_))))); clear S; intro a S
 refine lv S (rn_geq (S.tm rfl) rfl) rfl ?_; clear S; intro a S
 refine l_done (then_n ?_)
 obtain ⟨j1, hj1, h⟩ := joinE h
 refine f_join (fun a w' => ∃ x1 : Int, ∃ x2 : Int, j1 x1 x2 = some r ∧ Sx w [] nov [] [(0, .int .u64 x1), (2, iV x2)] 25 a w') ?_ ?_
 ·refine f_cond (S.tm rfl) (fun hb1 => ?_) (fun hb1 => ?_)
  ·replace h := iteT h hb1
   refine f_seq (f_region (lv S (rn_move (S.tm rfl)) rfl ?_)); clear S; intro a S
   refine lv S (rn_shr (S.tm rfl) rfl (by decide)) rfl ?_; clear S; intro a S
   refine lv S (rn_assign (S.tm rfl)) rfl ?_; clear S; intro a S
   refine l_done (then_n (f_region (lv S (rn_assign rfl) rfl ?_))); clear S; intro a S
   refine l_done (then_n ?_)
   exact ⟨bitShr .u64 p_x 32, 32, h, S.nf [] rfl (subR rfl)⟩
  ·replace h := iteF h hb1
   refine wp_skip (then_n ?_)
   exact ⟨p_x, 0, h, S.nf [] rfl (subR rfl)⟩
 clear S h; rintro a w1 ⟨x1, x2, h, S⟩; rw [hj1] at h; clear hj1 j1
 refine then_n (f_seq (f_seq (f_region (lv S (rn_move (S.tm rfl)) rfl ?_)))); clear S; intro a S
 refine lv S (rn_geq (S.tm rfl) rfl) rfl ?_; clear S; intro a S
 refine l_done (then_n ?_)
 obtain ⟨j2, hj2, h⟩ := joinE h
 refine f_join (fun a w' => ∃ x3 : Int, ∃ x4 : Int, j2 x3 x4 = some r ∧ Sx w [] nov [] [(0, .int .u64 x3), (2, iV x4)] 25 a w') ?_ ?_
 ·refine f_cond (S.tm rfl) (fun hb2 => ?_) (fun hb2 => ?_)
  ·replace h := iteT h hb2
   refine f_seq (f_region (lv S (rn_move (S.tm rfl)) rfl ?_)); clear S; intro a S
   refine lv S (rn_shr (S.tm rfl) rfl (by decide)) rfl ?_; clear S; intro a S
   refine lv S (rn_assign (S.tm rfl)) rfl ?_; clear S; intro a S
   refine l_done (then_n (f_region (lv S (rn_move (S.tm rfl)) rfl ?_))); clear S; intro a S
   refine lv S (rn_add (S.tm rfl) rfl) rfl ?_; clear S; intro a S
   refine lv S (rn_assign (S.tm rfl)) rfl ?_; clear S; intro a S
   refine l_done (then_n ?_)
   exact ⟨bitShr .u64 x1 16, W (x2 + 16), h, S.nf [] rfl (subR rfl)⟩
  ·replace h := iteF h hb2
   refine wp_skip (then_n ?_)
   exact ⟨x1, x2, h, S.nf [] rfl (subR rfl)⟩
 clear S h; rintro a w2 ⟨x3, x4, h, S⟩; rw [hj2] at h; clear hj2 j2
 refine then_n (f_seq (f_seq (f_region (lv S (rn_move (S.tm rfl)) rfl ?_)))); clear S; intro a S
 refine lv S (rn_geq (S.tm rfl) rfl) rfl ?_; clear S; intro a S
 refine l_done (then_n ?_)
 obtain ⟨j3, hj3, h⟩ := joinE h
 refine f_join (fun a w' => ∃ x5 : Int, ∃ x6 : Int, j3 x5 x6 = some r ∧ Sx w [] nov [] [(0, .int .u64 x5), (2, iV x6)] 25 a w') ?_ ?_
 ·refine f_cond (S.tm rfl) (fun hb3 => ?_) (fun hb3 => ?_)
  ·replace h := iteT h hb3
   refine f_seq (f_region (lv S (rn_move (S.tm rfl)) rfl ?_)); clear S; intro a S
   refine lv S (rn_shr (S.tm rfl) rfl (by decide)) rfl ?_; clear S; intro a S
   refine lv S (rn_assign (S.tm rfl)) rfl ?_; clear S; intro a S
   refine l_done (then_n (f_region (lv S (rn_move (S.tm rfl)) rfl ?_))); clear S; intro a S
   refine lv S (rn_add (S.tm rfl) rfl) rfl ?_; clear S; intro a S
   refine lv S (rn_assign (S.tm rfl)) rfl ?_; clear S; intro a S
   refine l_done (then_n ?_)
   exact ⟨bitShr .u64 x3 8, W (x4 + 8), h, S.nf [] rfl (subR rfl)⟩
  ·replace h := iteF h hb3
   refine wp_skip (then_n ?_)
   exact ⟨x3, x4, h, S.nf [] rfl (subR rfl)⟩
 clear S h; rintro a w3 ⟨x5, x6, h, S⟩; rw [hj3] at h; clear hj3 j3
 refine then_n (f_seq (f_region (lv S (rn_move (S.tm rfl)) rfl ?_))); clear S; intro a S
 refine lv S (rn_move (S.tm rfl)) rfl ?_; clear S; intro a S
 refine lv S (rn_conv Tryz.underlying124 Tryz.underlying5 (S.tm rfl)) rfl ?_; clear S; intro a S
 obtain ⟨hc1, h⟩ := chkE h
 refine lv S (rn_sindexT Tryz.underlying9 rfl (S.tm rfl) hc1) rfl ?_; clear S; intro a S
 refine lv S (rn_conv Tryz.underlying5 Tryz.underlying3 (S.tm rfl)) rfl ?_; clear S; intro a S
 refine lv S (rn_add (S.tm rfl) (S.tm rfl)) rfl ?_; clear S; intro a S
 refine lv S (rn_assign (S.tm rfl)) rfl ?_; clear S; intro a S
 refine l_done (then_n (wp_ret ?_))
 obtain rfl := Option.some.inj h
 exact f_ret S Tryz.results69 rfl rfl
theorem bits_Len_ok (w : World) (p_x : Int) (r : Int) (h : bits_Len p_x = some r) :
    Calls Tryz.prog 35 [.int .u64 p_x].toArray w (Ret w [] fun _ v _ => v = iV r) := by
 refine f_enter [] [] Tryz.func35 rfl Tryz.ntmps35 rfl (by simp) (by simp [fps]) (by simp [fps]) fun a S => ?_
 unfold bits_Len at h
 replace S := S.nk [] [(0, .int .u64 p_x)] [] rfl ⟨rfl, trivial⟩
 refine f_seq (f_region (lv S (rn_assign rfl) rfl ?_)); clear S; intro a S
 refine l_done (then_n (f_seq (f_cond rfl (fun hb1 => ?_) (fun hb1 => ?_))))
 ·replace h := iteT h hb1
  refine f_seq (f_region (lv S (rn_move (S.tm rfl)) rfl ?_)); clear S; intro a S
  refine lv S (rn_conv Tryz.underlying90 Tryz.underlying122 (S.tm rfl)) rfl ?_; clear S; intro a S
  obtain ⟨r1, hr1, h⟩ := bindE h
  refine l_enter S (fun _ => run_call (vs := [.int .u32 (IntKind.wrap .u32 p_x)]) ⟨(S.tm rfl), trivial⟩ Tryz.call68) (bits_Len32_ok _ (IntKind.wrap .u32 p_x) _ hr1) rfl ?_; clear S; intro v1 a w1 hv1 hk1 hn1 S
  subst hv1
  refine lv S (rn_assign (S.tm rfl)) rfl ?_; clear S; intro a S
  refine l_done (then_n (wp_ret (then_r ?_)))
  obtain rfl := Option.some.inj h
  exact f_ret S Tryz.results35 rfl rfl
 ·replace h := iteF h hb1
  refine wp_skip (then_n (f_seq (f_region (lv S (rn_move (S.tm rfl)) rfl ?_)))); clear S; intro a S
  obtain ⟨r2, hr2, h⟩ := bindE h
  refine l_enter S (fun _ => run_call (vs := [.int .u64 p_x]) ⟨(S.tm rfl), trivial⟩ Tryz.call69) (bits_Len64_ok _ p_x _ hr2) rfl ?_; clear S; intro v2 a w2 hv2 hk2 hn2 S
  subst hv2
  refine lv S (rn_assign (S.tm rfl)) rfl ?_; clear S; intro a S
  refine l_done (then_n (wp_ret ?_))
  obtain rfl := Option.some.inj h
  exact f_ret S Tryz.results35 rfl rfl
theorem strings_Compare_ok (w : World) (s t : ByteArray) (r : Int) (h : strings_Compare s t = r) : Calls Tryz.prog 37 [.string s, .string t].toArray w (Ret w [] fun _ v _ => v = .int .i64 r) := by
  subst h
  exact ret_of_same (Any.strings_Compare Tryz.lays106 s t w)
theorem tumbref2_ScoredOrder_c1_ok (w : World) (p_s : GScored) (r : Int) (h : tumbref2_ScoredOrder_c1 p_s = r) :
    Calls Tryz.prog 36 [.agg (GScored.enc p_s).toArray].toArray w (Ret w [] fun _ v _ => v = iV r) := by
 refine f_enter [] [] Tryz.func36 rfl Tryz.ntmps36 rfl (by simp) (by simp [fps]) (by simp [fps]) fun a S => ?_
 unfold tumbref2_ScoredOrder_c1 at h
 replace S := S.nk [] [(0, .agg (GScored.enc p_s).toArray)] [] rfl ⟨rfl, trivial⟩
 refine f_seq (f_region (l_box S (S.tm rfl) (cs := (GScored.enc p_s)) rfl rfl ?_)); clear S; intro a w1 b1 hz1 hk1 S
 refine lv S (rn_assign rfl) rfl ?_; clear S; intro a S
 refine l_done (then_n (f_seq (f_seq (f_region (lv S (rn_fld fa_53_3 (S.tm rfl)) rfl ?_))))); clear S; intro a S
 refine lv S (rn_load Tryz.isAgg3 (S.tm rfl) (S.cell (i := 0) rfl rfl)) rfl ?_; clear S; intro a S
 refine lv S (rn_eql (S.tm rfl) rfl) rfl ?_; clear S; intro a S
 refine l_done (then_n (f_cond (S.tm rfl) (fun hb1 => ?_) (fun hb1 => ?_)))
 ·replace h := iteT h hb1
  refine f_seq (f_region (lv S (rn_assign rfl) rfl ?_)); clear S; intro a S
  refine l_done (then_n (wp_ret (then_r ?_)))
  subst h
  exact f_ret S Tryz.results36 rfl rfl
 ·replace h := iteF h hb1
  refine wp_skip (then_n (f_seq (f_region (lv S (rn_fld fa_53_3 (S.tm rfl)) rfl ?_)))); clear S; intro a S
  refine lv S (rn_load Tryz.isAgg3 (S.tm rfl) (S.cell (i := 0) rfl rfl)) rfl ?_; clear S; intro a S
  refine lv S (rn_assign (S.tm rfl)) rfl ?_; clear S; intro a S
  refine l_done (then_n (wp_ret ?_))
  subst h
  exact f_ret S Tryz.results36 rfl rfl
theorem tumbref2_sign_ok (w : World) (p_n : Int) (r : Int) (h : tumbref2_sign p_n = r) :
    Calls Tryz.prog 38 [iV p_n].toArray w (Ret w [] fun _ v _ => v = iV r) := by
 refine f_enter [] [] Tryz.func38 rfl Tryz.ntmps38 rfl (by simp) (by simp [fps]) (by simp [fps]) fun a S => ?_
 unfold tumbref2_sign at h
 replace S := S.nk [] [(0, iV p_n)] [] rfl ⟨rfl, trivial⟩
 refine f_seq (f_region (lv S (rn_assign rfl) rfl ?_)); clear S; intro a S
 refine l_done (then_n (f_seq (wp_block (f_seq (f_region (lv S (rn_move (S.tm rfl)) rfl ?_)))))); clear S; intro a S
 refine lv S (rn_lss (S.tm rfl) rfl) rfl ?_; clear S; intro a S
 refine lv S (rn_assign (S.tm rfl)) rfl ?_; clear S; intro a S
 refine l_done (then_n (f_cond (S.tm rfl) (fun hb1 => ?_) (fun hb1 => ?_)))
 ·replace h := iteT h hb1
  refine f_seq (f_region (lv S (rn_assign rfl) rfl ?_)); clear S; intro a S
  refine l_done (then_n (wp_ret (blk_r (then_r ?_))))
  subst h
  exact f_ret S Tryz.results38 rfl rfl
 ·replace h := iteF h hb1
  refine f_seq (f_region (lv S (rn_move (S.tm rfl)) rfl ?_)); clear S; intro a S
  refine lv S (rn_gtr (S.tm rfl) rfl) rfl ?_; clear S; intro a S
  refine lv S (rn_assign (S.tm rfl)) rfl ?_; clear S; intro a S
  refine l_done (then_n (f_cond (S.tm rfl) (fun hb2 => ?_) (fun hb2 => ?_)))
  ·replace h := iteT h hb2
   refine f_seq (f_region (lv S (rn_assign rfl) rfl ?_)); clear S; intro a S
   refine l_done (then_n (wp_ret (blk_r (then_r ?_))))
   subst h
   exact f_ret S Tryz.results38 rfl rfl
  ·replace h := iteF h hb2
   refine wp_skip (blk_n (then_n (f_seq (f_region (lv S (rn_assign rfl) rfl ?_))))); clear S; intro a S
   refine l_done (then_n (wp_ret ?_))
   subst h
   exact f_ret S Tryz.results38 rfl rfl
set_option maxRecDepth 20000 in
theorem tumbref2_ScoredOrder_ok (w : World) (p_a : GScored) (p_b : GScored) (r : Int) (h : tumbref2_ScoredOrder p_a p_b = r) :
    Calls Tryz.prog 17 [.agg (GScored.enc p_a).toArray, .agg (GScored.enc p_b).toArray].toArray w (Ret w [] fun _ v _ => v = iV r) := by
 refine f_enter [] [] Tryz.func17 rfl Tryz.ntmps17 rfl (by simp) (by simp [fps]) (by simp [fps]) fun a S => ?_
 unfold tumbref2_ScoredOrder at h
 replace S := S.nk [] [(0, .agg (GScored.enc p_a).toArray), (1, .agg (GScored.enc p_b).toArray)] [] rfl (subR rfl)
 refine f_seq (f_region (l_box S (S.tm rfl) (cs := (GScored.enc p_a)) rfl rfl ?_)); clear S; intro a w1 b1 hz1 hk1 S
 refine l_box S (S.tm rfl) (cs := (GScored.enc p_b)) rfl rfl ?_; clear S; intro a w2 b2 hz2 hk2 S
 refine lv S (rn_assign rfl) rfl ?_; clear S; intro a S
 refine l_done (then_n (f_seq (f_region (lv S (rn_assign rfl) rfl ?_)))); clear S; intro a S
 refine l_done (then_n (f_seq (wp_block (f_seq (f_region (lv S (rn_fld fa_53_0 (S.tm rfl)) rfl ?_)))))); clear S; intro a S
 refine lv S (rn_load Tryz.isAgg9 (S.tm rfl) (S.cell (i := 1) rfl rfl)) rfl ?_; clear S; intro a S
 refine lv S (rn_fld fa_53_0 (S.tm rfl)) rfl ?_; clear S; intro a S
 refine lv S (rn_load Tryz.isAgg9 (S.tm rfl) (S.cell (i := 0) rfl rfl)) rfl ?_; clear S; intro a S
 refine lv S (rn_sneq (S.tm rfl) (S.tm rfl)) rfl ?_; clear S; intro a S
 refine lv S (rn_assign (S.tm rfl)) rfl ?_; clear S; intro a S
 refine l_done (then_n (f_cond (S.tm rfl) (fun hb1 => ?_) (fun hb1 => ?_)))
 ·replace h := iteT h hb1
  refine f_seq (f_region (lv S (rn_fld fa_53_0 (S.tm rfl)) rfl ?_)); clear S; intro a S
  refine lv S (rn_load Tryz.isAgg9 (S.tm rfl) (S.cell (i := 1) rfl rfl)) rfl ?_; clear S; intro a S
  refine lv S (rn_fld fa_53_0 (S.tm rfl)) rfl ?_; clear S; intro a S
  refine lv S (rn_load Tryz.isAgg9 (S.tm rfl) (S.cell (i := 0) rfl rfl)) rfl ?_; clear S; intro a S
  refine l_enter S (fun _ => run_call (vs := [sV p_a.Race, sV p_b.Race]) ⟨(S.tm rfl), (S.tm rfl), trivial⟩ Tryz.call37) (strings_Compare_ok _ p_a.Race p_b.Race _ rfl) rfl ?_; clear S; intro v1 a w3 hv1 hk3 hn1 S
  subst hv1
  refine lv S (rn_assign (S.tm rfl)) rfl ?_; clear S; intro a S
  refine l_done ?_
  replace S := S.nk [] [(4, iV (strings_Compare p_a.Race p_b.Race))] [false, false] rfl ⟨rfl, trivial⟩
  refine then_n (wp_ret (blk_r (then_r ?_)))
  subst h
  exact f_ret S Tryz.results17 rfl rfl
 ·replace h := iteF h hb1
  refine f_seq (d_region [] ([]) Tryz.mixed S rfl (by kernel_rfl) ?_); clear S; intro w6 hk6 hsel S
  refine d_quiet 0 S hsel rfl rfl rfl (by kernel_rfl) (by kernel_rfl) rfl (fun _ hw => (rn_move (S.tm rfl))) ?_; clear S; intro a S
  refine d_quiet 1 S hsel rfl rfl rfl (by kernel_rfl) (by kernel_rfl) rfl (fun _ hw => (rn_ldA Tryz.isAgg53 Tryz.sizeOf53 (off := 0) (o := 0) (part := (GScored.enc p_a)) rfl rfl (S.tm rfl) ((S.blk_mem (i := 1) (cells := (GScored.enc p_a)) (b := b1) (T := 53) rfl (ne_nil (e' := .blk b1 (GScored.enc p_a) 53))).kept hw))) ?_; clear S; intro a S
  refine d_quiet 3 S hsel rfl rfl rfl (by kernel_rfl) (by kernel_rfl) rfl (fun _ hw => (rn_move (S.tm rfl))) ?_; clear S; intro a S
  refine d_quiet 4 S hsel rfl rfl rfl (by kernel_rfl) (by kernel_rfl) rfl (fun _ hw => (rn_ldA Tryz.isAgg53 Tryz.sizeOf53 (off := 0) (o := 0) (part := (GScored.enc p_b)) rfl rfl (S.tm rfl) ((S.blk_mem (i := 0) (cells := (GScored.enc p_b)) (b := b2) (T := 53) rfl (ne_nil (e' := .blk b2 (GScored.enc p_b) 53))).kept hw))) ?_; clear S; intro a S
  refine d_loud1 2 (by kernel_rfl) rfl (l_enter S (fun _ => run_callV (cap := []) (S.tm rfl) (vs := [.agg (GScored.enc p_a).toArray]) ⟨(S.tm rfl), trivial⟩ Tryz.call36) (tumbref2_ScoredOrder_c1_ok _ p_a _ rfl) rfl ?_); clear S; intro v4 a w7 hv4 hk7 hn4 S
  subst hv4
  refine l_done (d_next hk7 (d_loud1 5 (by kernel_rfl) rfl (l_enter S (fun _ => run_callV (cap := []) (S.tm rfl) (vs := [.agg (GScored.enc p_b).toArray]) ⟨(S.tm rfl), trivial⟩ Tryz.call36) (tumbref2_ScoredOrder_c1_ok _ p_b _ rfl) rfl ?_))); clear S; intro v5 a w8 hv5 hk8 hn5 S
  subst hv5
  refine l_done (d_next hk8 (d_rest [6, 7] hsel (by kernel_rfl) rfl ?_))
  clear hsel
  refine s_lv S rfl (rn_neq (S.tm rfl) (S.tm rfl)) rfl ?_; clear S; intro a S
  refine s_lv S rfl (rn_assign (S.tm rfl)) rfl ?_; clear S; intro a S
  refine s_done ?_
  replace S := S.nk [.blk b2 (GScored.enc p_b) 53, .blk b1 (GScored.enc p_a) 53] [(2, .pointer (some ⟨b1, 0, none⟩)), (3, .pointer (some ⟨b2, 0, none⟩)), (5, .func (.func 36) #[] #[]), (17, bV (!decide ((tumbref2_ScoredOrder_c1 p_a) = (tumbref2_ScoredOrder_c1 p_b))))] [true, true] rfl (subR rfl)
  refine then_n (f_cond (S.tm rfl) (fun hb2 => ?_) (fun hb2 => ?_))
  ·replace h := iteT h hb2
   refine f_seq (d_region [] ([]) Tryz.mixed S rfl (by kernel_rfl) ?_); clear S; intro w12 hk12 hsel S
   refine d_quiet 0 S hsel rfl rfl rfl (by kernel_rfl) (by kernel_rfl) rfl (fun _ hw => (rn_move (S.tm rfl))) ?_; clear S; intro a S
   refine d_quiet 1 S hsel rfl rfl rfl (by kernel_rfl) (by kernel_rfl) rfl (fun _ hw => (rn_ldA Tryz.isAgg53 Tryz.sizeOf53 (off := 0) (o := 0) (part := (GScored.enc p_a)) rfl rfl (S.tm rfl) ((S.blk_mem (i := 1) (cells := (GScored.enc p_a)) (b := b1) (T := 53) rfl (ne_nil (e' := .blk b1 (GScored.enc p_a) 53))).kept hw))) ?_; clear S; intro a S
   refine d_quiet 3 S hsel rfl rfl rfl (by kernel_rfl) (by kernel_rfl) rfl (fun _ hw => (rn_move (S.tm rfl))) ?_; clear S; intro a S
   refine d_quiet 4 S hsel rfl rfl rfl (by kernel_rfl) (by kernel_rfl) rfl (fun _ hw => (rn_ldA Tryz.isAgg53 Tryz.sizeOf53 (off := 0) (o := 0) (part := (GScored.enc p_b)) rfl rfl (S.tm rfl) ((S.blk_mem (i := 0) (cells := (GScored.enc p_b)) (b := b2) (T := 53) rfl (ne_nil (e' := .blk b2 (GScored.enc p_b) 53))).kept hw))) ?_; clear S; intro a S
   refine d_loud1 2 (by kernel_rfl) rfl (l_enter S (fun _ => run_callV (cap := []) (S.tm rfl) (vs := [.agg (GScored.enc p_a).toArray]) ⟨(S.tm rfl), trivial⟩ Tryz.call36) (tumbref2_ScoredOrder_c1_ok _ p_a _ rfl) rfl ?_); clear S; intro v9 a w13 hv9 hk13 hn9 S
   subst hv9
   refine l_done (d_next hk13 (d_loud1 5 (by kernel_rfl) rfl (l_enter S (fun _ => run_callV (cap := []) (S.tm rfl) (vs := [.agg (GScored.enc p_b).toArray]) ⟨(S.tm rfl), trivial⟩ Tryz.call36) (tumbref2_ScoredOrder_c1_ok _ p_b _ rfl) rfl ?_))); clear S; intro v10 a w14 hv10 hk14 hn10 S
   subst hv10
   refine l_done (d_next hk14 (d_quiet 6 S hsel rfl rfl rfl (by kernel_rfl) (by kernel_rfl) rfl (fun _ hw => (rn_sub (S.tm rfl) (S.tm rfl))) ?_)); clear S; intro a S
   refine d_loud1 7 (by kernel_rfl) rfl (l_enter S (fun _ => run_call (vs := [iV (W ((tumbref2_ScoredOrder_c1 p_a) - (tumbref2_ScoredOrder_c1 p_b)))]) ⟨(S.tm rfl), trivial⟩ Tryz.call38) (tumbref2_sign_ok _ (W ((tumbref2_ScoredOrder_c1 p_a) - (tumbref2_ScoredOrder_c1 p_b))) _ rfl) rfl ?_); clear S; intro v11 a w15 hv11 hk15 hn11 S
   subst hv11
   refine l_done (d_next hk15 (d_rest [8] hsel (by kernel_rfl) rfl ?_))
   clear hsel
   refine s_lv S rfl (rn_assign (S.tm rfl)) rfl ?_; clear S; intro a S
   refine s_done ?_
   replace S := S.nk [] [(4, iV (tumbref2_sign (W ((tumbref2_ScoredOrder_c1 p_a) - (tumbref2_ScoredOrder_c1 p_b)))))] [false, false] rfl ⟨rfl, trivial⟩
   refine then_n (wp_ret (blk_r (then_r ?_)))
   subst h
   exact f_ret S Tryz.results17 rfl rfl
  ·replace h := iteF h hb2
   refine wp_skip (blk_n (then_n (f_seq (f_region (lv S (rn_fld fa_53_1 (S.tm rfl)) rfl ?_))))); clear S; intro a S
   refine lv S (rn_load Tryz.isAgg9 (S.tm rfl) (S.cell (i := 1) rfl rfl)) rfl ?_; clear S; intro a S
   refine lv S (rn_fld fa_53_1 (S.tm rfl)) rfl ?_; clear S; intro a S
   refine lv S (rn_load Tryz.isAgg9 (S.tm rfl) (S.cell (i := 0) rfl rfl)) rfl ?_; clear S; intro a S
   refine l_enter S (fun _ => run_call (vs := [sV p_a.Who, sV p_b.Who]) ⟨(S.tm rfl), (S.tm rfl), trivial⟩ Tryz.call37) (strings_Compare_ok _ p_a.Who p_b.Who _ rfl) rfl ?_; clear S; intro v12 a w16 hv12 hk16 hn12 S
   subst hv12
   refine lv S (rn_assign (S.tm rfl)) rfl ?_; clear S; intro a S
   refine l_done (then_n (wp_ret ?_))
   subst h
   exact f_ret S Tryz.results17 rfl rfl
set_option maxRecDepth 20000 in
theorem slices_insertionSortCmpFunc_Scored_tumbref2_ScoredOrder_ok (w : World) (v_p_data : Value) (p_data : List GScored) (hb_p_data : (LEnt.own v_p_data 53 5 p_data.length (p_data.flatMap GScored.enc)).holds w) (p_a : Int) (p_b : Int) (r : (List GScored)) (h : slices_insertionSortCmpFunc_Scored_tumbref2_ScoredOrder p_data p_a p_b = some r) :
    Calls Tryz.prog 60 [v_p_data, iV p_a, iV p_b, .func (.func 17) #[] #[]].toArray w (Ret w (v_p_data.ownBlock.toList) fun _ v w' => (LEnt.own v_p_data 53 5 r.length (r.flatMap GScored.enc)).holds w' ∧ v = .tuple #[]) := by
 refine f_enter (v_p_data.ownBlock.toList) [.own v_p_data 53 5 p_data.length (p_data.flatMap GScored.enc)] Tryz.func60 rfl Tryz.ntmps60 rfl (fun e he => by simp only [List.mem_singleton] at he; subst he; exact hb_p_data) (fps_one_nodup _) (fps_one_sub _) fun a S => ?_
 unfold slices_insertionSortCmpFunc_Scored_tumbref2_ScoredOrder at h
 replace S := S.nk [.own v_p_data 53 5 p_data.length (p_data.flatMap GScored.enc)] [(0, v_p_data), (1, iV p_a), (2, iV p_b), (3, .func (.func 17) #[] #[])] [true] rfl (subR rfl)
 refine f_seq (f_region (lv S (rn_move (S.tm rfl)) rfl ?_)); clear S; intro a S
 refine lv S (rn_add (S.tm rfl) rfl) rfl ?_; clear S; intro a S
 refine lv S (rn_assign (S.tm rfl)) rfl ?_; clear S; intro a S
 refine l_done (then_n ?_)
 replace S := S.nk [.own v_p_data 53 5 p_data.length (p_data.flatMap GScored.enc)] [(0, v_p_data), (1, iV p_a), (2, iV p_b), (3, .func (.func 17) #[] #[]), (8, iV (W (p_a + 1)))] [true] rfl (subR rfl)
 obtain ⟨j1, hj1, h⟩ := joinE h
 refine f_join (fun a w' => ∃ x1 : List GScored, j1 x1 = some r ∧ Sx w (v_p_data.ownBlock.toList) nov [.own v_p_data 53 5 x1.length (x1.flatMap GScored.enc)] [] 53 a w') ?_ ?_
 ·refine wp_block (f_loop (fun (m1 : Nat) a w' => ∃ x1 : List GScored, ∃ x2 : Int, slices_insertionSortCmpFunc_Scored_tumbref2_ScoredOrder_l1 p_b p_a j1 m1 x1 x2 = some r ∧ Sx w (v_p_data.ownBlock.toList) nov [.own v_p_data 53 5 x1.length (x1.flatMap GScored.enc)] [(0, v_p_data), (1, iV p_a), (2, iV p_b), (3, .func (.func 17) #[] #[]), (8, iV x2)] 53 a w') id ((p_b - (W (p_a + 1))).toNat + 2) ⟨p_data, W (p_a + 1), h, S.nf [true] rfl (subR rfl)⟩ ?_)
  clear S h; rintro m1 a w1 ⟨x1, x2, h, S⟩
  cases m1 with
  | zero => rw [slices_insertionSortCmpFunc_Scored_tumbref2_ScoredOrder_l1.eq_1] at h; cases h
  | succ m1 =>
   rw [slices_insertionSortCmpFunc_Scored_tumbref2_ScoredOrder_l1.eq_2] at h
   refine f_seq (f_seq (f_region (lv S (rn_move (S.tm rfl)) rfl ?_))); clear S; intro a S
   refine lv S (rn_move (S.tm rfl)) rfl ?_; clear S; intro a S
   refine lv S (rn_lss (S.tm rfl) (S.tm rfl)) rfl ?_; clear S; intro a S
   refine l_done (then_n (f_cond (S.tm rfl) (fun hb1 => ?_) (fun hb1 => ?_)))
   ·replace h := iteT h hb1
    refine wp_skip (then_n (f_seq (wp_block (f_seq (f_region (lv S (rn_move (S.tm rfl)) rfl ?_)))))); clear S; intro a S
    refine lv S (rn_assign (S.tm rfl)) rfl ?_; clear S; intro a S
    refine l_done (then_n ?_)
    replace S := S.nk [.own v_p_data 53 5 x1.length (x1.flatMap GScored.enc)] [(0, v_p_data), (1, iV p_a), (2, iV p_b), (3, .func (.func 17) #[] #[]), (8, iV x2), (9, iV x2)] [true] rfl (subR rfl)
    obtain ⟨j2, hj2, h⟩ := joinE h
    refine f_join (fun a w' => ∃ x3 : List GScored, j2 x3 = some r ∧ Sx w (v_p_data.ownBlock.toList) nov [.own v_p_data 53 5 x3.length (x3.flatMap GScored.enc)] [(0, v_p_data), (1, iV p_a), (2, iV p_b), (3, .func (.func 17) #[] #[]), (8, iV x2)] 53 a w') ?_ ?_
    ·refine wp_block (f_loop (fun (m2 : Nat) a w' => ∃ x3 : List GScored, ∃ x4 : Int, slices_insertionSortCmpFunc_Scored_tumbref2_ScoredOrder_l2 p_a j2 m2 x3 x4 = some r ∧ Sx w (v_p_data.ownBlock.toList) nov [.own v_p_data 53 5 x3.length (x3.flatMap GScored.enc)] [(0, v_p_data), (1, iV p_a), (2, iV p_b), (3, .func (.func 17) #[] #[]), (8, iV x2), (9, iV x4)] 53 a w') id ((x2 - p_a).toNat + 2) ⟨x1, x2, h, S.nf [true] rfl (subR rfl)⟩ ?_)
     clear S h; rintro m2 a w3 ⟨x3, x4, h, S⟩
     cases m2 with
     | zero => rw [slices_insertionSortCmpFunc_Scored_tumbref2_ScoredOrder_l2.eq_1] at h; cases h
     | succ m2 =>
      rw [slices_insertionSortCmpFunc_Scored_tumbref2_ScoredOrder_l2.eq_2] at h
      refine f_seq (f_seq ?_)
      obtain ⟨j3, hj3, h⟩ := joinE h
      refine f_join (fun a w' => ∃ x5 : Bool, j3 x5 = some r ∧ Sx w (v_p_data.ownBlock.toList) nov [.own v_p_data 53 5 x3.length (x3.flatMap GScored.enc)] [(0, v_p_data), (1, iV p_a), (2, iV p_b), (3, .func (.func 17) #[] #[]), (8, iV x2), (9, iV x4), (34, bV x5)] 53 a w') ?_ ?_
      ·rcases Bool.eq_false_or_eq_true (decide (p_a < x4)) with hb2 | hb2
       ·replace h := iteT h hb2
        obtain ⟨hc1, h⟩ := chkE h
        obtain ⟨hc2, h⟩ := chkE h
        refine d_region [] ([]) Tryz.mixed S rfl (by kernel_rfl) ?_; clear S; intro w7 hk2 hsel S
        refine d_quiet 0 S hsel rfl rfl rfl (by kernel_rfl) (by kernel_rfl) rfl (fun _ hw => (rn_move (S.tm rfl))) ?_; clear S; intro a S
        refine d_quiet 1 S hsel rfl rfl rfl (by kernel_rfl) (by kernel_rfl) rfl (fun _ hw => (rn_move (S.tm rfl))) ?_; clear S; intro a S
        refine d_quiet 2 S hsel rfl rfl rfl (by kernel_rfl) (by kernel_rfl) rfl (fun _ hw => (rn_gtr (S.tm rfl) (S.tm rfl))) ?_; clear S; intro a S
        refine d_quiet 3 S hsel rfl rfl rfl (by kernel_rfl) (by kernel_rfl) rfl (fun _ hw => (rn_move (S.tm rfl))) ?_; clear S; intro a S
        refine d_quiet_g 4 S hsel rfl rfl rfl rfl hb2 rfl rfl (by kernel_rfl) (by kernel_rfl) rfl (fun _ hw => (rn_move (S.tm rfl))) ?_; clear S; intro a S
        refine d_quiet_g 5 S hsel rfl rfl rfl rfl hb2 rfl rfl (by kernel_rfl) (by kernel_rfl) rfl (fun _ hw => (rn_move (S.tm rfl))) ?_; clear S; intro a S
        refine d_quiet_g 6 S hsel rfl rfl rfl rfl hb2 rfl rfl (by kernel_rfl) (by kernel_rfl) rfl (fun _ hw => (rn_move (S.tm rfl))) ?_; clear S; intro a S
        obtain ⟨b3, hg3, hr3⟩ := rn_indexS (a := a) (x := .tmp 23) (y := .tmp 24) (ty := 0) sl_29 GScored.enc_ok S (i := 0) rfl (inB_get hc1).1 (inB_get hc1).2 (S.tm rfl) (S.tm rfl)
        refine d_quiet_g 7 S hsel rfl rfl rfl rfl hb2 rfl rfl (by kernel_rfl) (by kernel_rfl) rfl (fun _ hw => (hr3 _)) ?_; clear S; intro a S
        clear hr3
        refine d_quiet_g 8 S hsel rfl rfl rfl rfl hb2 rfl rfl (by kernel_rfl) (by kernel_rfl) rfl (fun _ hw => (rn_ldA Tryz.isAgg53 Tryz.sizeOf53 (off := x4.toNat * 5) (o := 0) (part := (GScored.enc (nth x3 x4))) rfl rfl (S.tm rfl) ((own_mem GScored.enc_ok S (i := 0) rfl hg3 (inB_get hc1).1 (ne_nil (e' := .own v_p_data 53 5 x3.length (x3.flatMap GScored.enc)))).kept hw))) ?_; clear S; intro a S
        refine d_quiet_g 9 S hsel rfl rfl rfl rfl hb2 rfl rfl (by kernel_rfl) (by kernel_rfl) rfl (fun _ hw => (rn_move (S.tm rfl))) ?_; clear S; intro a S
        refine d_quiet_g 10 S hsel rfl rfl rfl rfl hb2 rfl rfl (by kernel_rfl) (by kernel_rfl) rfl (fun _ hw => (rn_move (S.tm rfl))) ?_; clear S; intro a S
        refine d_quiet_g 11 S hsel rfl rfl rfl rfl hb2 rfl rfl (by kernel_rfl) (by kernel_rfl) rfl (fun _ hw => (rn_sub (S.tm rfl) rfl)) ?_; clear S; intro a S
        obtain ⟨b4, hg4, hr4⟩ := rn_indexS (a := a) (x := .tmp 27) (y := .tmp 29) (ty := 0) sl_29 GScored.enc_ok S (i := 0) rfl (inB_get hc2).1 (inB_get hc2).2 (S.tm rfl) (S.tm rfl)
        refine d_quiet_g 12 S hsel rfl rfl rfl rfl hb2 rfl rfl (by kernel_rfl) (by kernel_rfl) rfl (fun _ hw => (hr4 _)) ?_; clear S; intro a S
        clear hr4
        refine d_quiet_g 13 S hsel rfl rfl rfl rfl hb2 rfl rfl (by kernel_rfl) (by kernel_rfl) rfl (fun _ hw => (rn_ldA Tryz.isAgg53 Tryz.sizeOf53 (off := ((W (x4 - 1)).toNat) * 5) (o := 0) (part := (GScored.enc (nth x3 (W (x4 - 1))))) rfl rfl (S.tm rfl) ((own_mem GScored.enc_ok S (i := 0) rfl hg4 (inB_get hc2).1 (ne_nil (e' := .own v_p_data 53 5 x3.length (x3.flatMap GScored.enc)))).kept hw))) ?_; clear S; intro a S
        refine d_loud1 14 (by kernel_rfl) rfl (l_want S rfl rfl rfl hb2 (l_enter S (fun _ => run_callV (cap := []) (S.tm rfl) (vs := [.agg (GScored.enc (nth x3 x4)).toArray, .agg (GScored.enc (nth x3 (W (x4 - 1)))).toArray]) ⟨(S.tm rfl), (S.tm rfl), trivial⟩ Tryz.call17) (tumbref2_ScoredOrder_ok _ (nth x3 x4) (nth x3 (W (x4 - 1))) _ rfl) rfl ?_)); clear S; intro v2 a w8 hv2 hk3 hn2 S
        subst hv2
        refine l_done (d_next hk3 (d_rest [15, 16] hsel (by kernel_rfl) rfl ?_))
        clear hsel
        refine s_want S rfl rfl rfl rfl hb2 (s_lv0 S (rn_lss (S.tm rfl) rfl) rfl ?_); clear S; intro a S
        refine s_lv S rfl (rn_pick_b hb2 (S.tm rfl) (S.tm rfl)) rfl ?_; clear S; intro a S
        refine s_done ?_
        replace S := S.nk [.own v_p_data 53 5 x3.length (x3.flatMap GScored.enc)] [(0, v_p_data), (1, iV p_a), (2, iV p_b), (3, .func (.func 17) #[] #[]), (8, iV x2), (9, iV x4), (22, .func (.func 17) #[] #[]), (23, v_p_data), (24, iV x4), (25, .pointer (some ⟨b3, x4.toNat * 5, none⟩)), (26, .agg (GScored.enc (nth x3 x4)).toArray), (27, v_p_data), (28, iV x4), (29, iV (W (x4 - 1))), (30, .pointer (some ⟨b4, ((W (x4 - 1)).toNat) * 5, none⟩)), (31, .agg (GScored.enc (nth x3 (W (x4 - 1)))).toArray), (32, iV (tumbref2_ScoredOrder (nth x3 x4) (nth x3 (W (x4 - 1))))), (33, bV (decide ((tumbref2_ScoredOrder (nth x3 x4) (nth x3 (W (x4 - 1)))) < 0))), (34, bV (decide ((tumbref2_ScoredOrder (nth x3 x4) (nth x3 (W (x4 - 1)))) < 0)))] [true] rfl (subR rfl)
        refine then_n ?_
        exact ⟨decide ((tumbref2_ScoredOrder (nth x3 x4) (nth x3 (W (x4 - 1)))) < 0), h, S.nf [true] rfl (subR rfl)⟩
       ·replace h := iteF h hb2
        refine d_region [] ([]) Tryz.mixed S rfl (by kernel_rfl) ?_; clear S; intro w9 hk4 hsel S
        refine d_rest [0, 1, 2, 3, 4, 5, 6, 7, 8, 9, 10, 11, 12, 13, 14, 15, 16] hsel (by kernel_rfl) rfl ?_
        clear hsel
        refine s_lv S rfl (rn_move (S.tm rfl)) rfl ?_; clear S; intro a S
        refine s_lv S rfl (rn_move (S.tm rfl)) rfl ?_; clear S; intro a S
        refine s_lv S rfl (rn_gtr (S.tm rfl) (S.tm rfl)) rfl ?_; clear S; intro a S
        refine s_lv S rfl (rn_move (S.tm rfl)) rfl ?_; clear S; intro a S
        iterate 12 (refine s_skip S rfl rfl rfl rfl (neq_f hb2) rfl ?_ rfl; clear S; intro a S)
        refine s_lv S rfl (rn_pick_c hb2 (S.tm rfl) rfl) rfl ?_; clear S; intro a S
        refine s_done ?_
        replace S := S.nk [.own v_p_data 53 5 x3.length (x3.flatMap GScored.enc)] [(0, v_p_data), (1, iV p_a), (2, iV p_b), (3, .func (.func 17) #[] #[]), (8, iV x2), (9, iV x4), (34, bV false)] [true] rfl (subR rfl)
        refine then_n ?_
        exact ⟨false, h, S.nf [true] rfl (subR rfl)⟩
      clear S h; rintro a w5 ⟨x5, h, S⟩; rw [hj3] at h; clear hj3 j3
      refine then_n (f_cond (S.tm rfl) (fun hb3 => ?_) (fun hb3 => ?_))
      ·replace h := iteT h hb3
       refine wp_skip (then_n (f_seq (wp_block ?_)))
       obtain ⟨hc3, h⟩ := chkE h
       obtain ⟨hc4, h⟩ := chkE h
       obtain ⟨hc5, h⟩ := chkE h
       obtain ⟨hc6, h⟩ := chkE h
       refine d_region [15, 17] ([]) Tryz.mixed S rfl (by kernel_rfl) ?_; clear S; intro w14 hk9 hsel S
       refine d_pure 0 S hsel rfl rfl (by kernel_rfl) (by kernel_rfl) rfl (fun _ => (rn_move (S.tm rfl))) ?_; clear S; intro a S
       refine d_pure 1 S hsel rfl rfl (by kernel_rfl) (by kernel_rfl) rfl (fun _ => (rn_move (S.tm rfl))) ?_; clear S; intro a S
       refine d_pure 2 S hsel rfl rfl (by kernel_rfl) (by kernel_rfl) rfl (fun _ => (rn_move (S.tm rfl))) ?_; clear S; intro a S
       refine d_pure 3 S hsel rfl rfl (by kernel_rfl) (by kernel_rfl) rfl (fun _ => (rn_move (S.tm rfl))) ?_; clear S; intro a S
       refine d_pure 4 S hsel rfl rfl (by kernel_rfl) (by kernel_rfl) rfl (fun _ => (rn_sub (S.tm rfl) rfl)) ?_; clear S; intro a S
       refine d_pure 5 S hsel rfl rfl (by kernel_rfl) (by kernel_rfl) rfl (fun _ => (rn_move (S.tm rfl))) ?_; clear S; intro a S
       refine d_pure 6 S hsel rfl rfl (by kernel_rfl) (by kernel_rfl) rfl (fun _ => (rn_move (S.tm rfl))) ?_; clear S; intro a S
       refine d_pure 7 S hsel rfl rfl (by kernel_rfl) (by kernel_rfl) rfl (fun _ => (rn_sub (S.tm rfl) rfl)) ?_; clear S; intro a S
       obtain ⟨b9, hg9, hr9⟩ := rn_indexS (a := a) (x := .tmp 42) (y := .tmp 44) (ty := 0) sl_29 GScored.enc_ok S (i := 0) rfl (inB_get hc3).1 (inB_get hc3).2 (S.tm rfl) (S.tm rfl)
       refine d_pure 8 S hsel rfl rfl (by kernel_rfl) (by kernel_rfl) rfl (fun _ => (hr9 _)) ?_; clear S; intro a S
       clear hr9
       refine d_quiet 9 S hsel rfl (by kernel_rfl) (by kernel_rfl) (by kernel_rfl) (by kernel_rfl) rfl (fun _ hw => (rn_ldA Tryz.isAgg53 Tryz.sizeOf53 (off := ((W (x4 - 1)).toNat) * 5) (o := 0) (part := (GScored.enc (nth x3 (W (x4 - 1))))) rfl rfl (S.tm rfl) ((own_mem GScored.enc_ok S (i := 0) rfl hg9 (inB_get hc3).1 (ne_nil (e' := .own v_p_data 53 5 x3.length (x3.flatMap GScored.enc)))).kept hw))) ?_; clear S; intro a S
       refine d_pure 10 S hsel rfl rfl (by kernel_rfl) (by kernel_rfl) rfl (fun _ => (rn_move (S.tm rfl))) ?_; clear S; intro a S
       refine d_pure 11 S hsel rfl rfl (by kernel_rfl) (by kernel_rfl) rfl (fun _ => (rn_move (S.tm rfl))) ?_; clear S; intro a S
       obtain ⟨b10, hg10, hr10⟩ := rn_indexS (a := a) (x := .tmp 47) (y := .tmp 48) (ty := 0) sl_29 GScored.enc_ok S (i := 0) rfl (inB_get hc4).1 (inB_get hc4).2 (S.tm rfl) (S.tm rfl)
       refine d_pure 12 S hsel rfl rfl (by kernel_rfl) (by kernel_rfl) rfl (fun _ => (hr10 _)) ?_; clear S; intro a S
       clear hr10
       refine d_quiet 13 S hsel rfl (by kernel_rfl) (by kernel_rfl) (by kernel_rfl) (by kernel_rfl) rfl (fun _ hw => (rn_ldA Tryz.isAgg53 Tryz.sizeOf53 (off := x4.toNat * 5) (o := 0) (part := (GScored.enc (nth x3 x4))) rfl rfl (S.tm rfl) ((own_mem GScored.enc_ok S (i := 0) rfl hg10 (inB_get hc4).1 (ne_nil (e' := .own v_p_data 53 5 x3.length (x3.flatMap GScored.enc)))).kept hw))) ?_; clear S; intro a S
       obtain ⟨b11, hg11, hr11⟩ := rn_indexS (a := a) (x := .tmp 37) (y := .tmp 38) (ty := 0) sl_29 GScored.enc_ok S (i := 0) rfl (inB_get hc5).1 (inB_get hc5).2 (S.tm rfl) (S.tm rfl)
       refine d_pure 14 S hsel rfl rfl (by kernel_rfl) (by kernel_rfl) rfl (fun _ => (hr11 _)) ?_; clear S; intro a S
       clear hr11
       refine d_loudB 15 (v_p_data.ownBlock.toList) rfl (by kernel_rfl) rfl (l_storeO (c := 0) (j := x4.toNat) (nth x3 (W (x4 - 1))) GScored.enc_ok S (S.tm rfl) (S.tm rfl) (i := 0) rfl hg11 (inB_get hc5).1 Tryz.sizeOf53 (vs := [sV ((nth x3 (W (x4 - 1))).Race), sV ((nth x3 (W (x4 - 1))).Who), sV ((nth x3 (W (x4 - 1))).Club), iV ((nth x3 (W (x4 - 1))).Rank), bV ((nth x3 (W (x4 - 1))).Relay)]) rfl rfl rfl rfl rfl ?_); clear S; intro w16 hk11 S
       refine l_done (d_nextB ?_)
       obtain ⟨b12, hg12, hr12⟩ := rn_indexS (a := a) (x := .tmp 39) (y := .tmp 41) (ty := 0) sl_29 GScored.enc_ok S (i := 0) rfl (inB_get hc6).1 (inB_get hc6).2 (S.tm rfl) (S.tm rfl)
       refine d_quiet 16 S hsel rfl rfl rfl (by kernel_rfl) (by kernel_rfl) rfl (fun _ hw => (hr12 _)) ?_; clear S; intro a S
       clear hr12
       refine d_loud1 17 (by kernel_rfl) rfl (l_storeO (c := 0) (j := (W (x4 - 1)).toNat) (nth x3 x4) GScored.enc_ok S (S.tm rfl) (S.tm rfl) (i := 0) rfl hg12 (inB_get hc6).1 Tryz.sizeOf53 (vs := [sV ((nth x3 x4).Race), sV ((nth x3 x4).Who), sV ((nth x3 x4).Club), iV ((nth x3 x4).Rank), bV ((nth x3 x4).Relay)]) rfl rfl rfl rfl rfl ?_); clear S; intro w18 hk13 S
       refine l_done (d_next hk13 (d_end (by kernel_rfl) ?_))
       clear hsel
       replace S := S.nk [.own v_p_data 53 5 ((x3.set x4.toNat (nth x3 (W (x4 - 1)))).set ((W (x4 - 1)).toNat) (nth x3 x4)).length (((x3.set x4.toNat (nth x3 (W (x4 - 1)))).set ((W (x4 - 1)).toNat) (nth x3 x4)).flatMap GScored.enc)] [(0, v_p_data), (1, iV p_a), (2, iV p_b), (3, .func (.func 17) #[] #[]), (8, iV x2), (9, iV x4)] [true] rfl (subR rfl)
       refine blk_n (then_n (f_region (lv S (rn_move (S.tm rfl)) rfl ?_))); clear S; intro a S
       refine lv S (rn_sub (S.tm rfl) rfl) rfl ?_; clear S; intro a S
       refine lv S (rn_assign (S.tm rfl)) rfl ?_; clear S; intro a S
       refine l_done (then_n ?_)
       exact ⟨m2, ⟨((x3.set x4.toNat (nth x3 (W (x4 - 1)))).set ((W (x4 - 1)).toNat) (nth x3 x4)), W (x4 - 1), h, S.nf [true] rfl ⟨rfl, rfl, rfl, rfl, rfl, rfl, trivial⟩⟩, Nat.lt_succ_self _⟩
      ·replace h := iteF h hb3
       refine wp_exit (then_x (then_x (x_same (then_n ?_))))
       exact ⟨x3, h, S.nf [true] rfl (subR rfl)⟩
    clear S h; rintro a w4 ⟨x3, h, S⟩; rw [hj2] at h; clear hj2 j2
    refine blk_n (then_n (f_region (lv S (rn_move (S.tm rfl)) rfl ?_))); clear S; intro a S
    refine lv S (rn_add (S.tm rfl) rfl) rfl ?_; clear S; intro a S
    refine lv S (rn_assign (S.tm rfl)) rfl ?_; clear S; intro a S
    refine l_done (then_n ?_)
    exact ⟨m1, ⟨x3, W (x2 + 1), h, S.nf [true] rfl ⟨rfl, rfl, rfl, rfl, rfl, trivial⟩⟩, Nat.lt_succ_self _⟩
   ·replace h := iteF h hb1
    refine wp_exit (then_x (then_x (x_same (then_n ?_))))
    exact ⟨x1, h, S.nf [true] rfl trivial⟩
 clear S h; rintro a w2 ⟨x1, h, S⟩; rw [hj1] at h; clear hj1 j1
 obtain rfl := Option.some.inj h
 exact f_ret0 S Tryz.results60 ⟨(S.holds _ (List.mem_of_getElem? (i := 0) rfl)), rfl⟩
theorem slices_pdqsortCmpFunc_Scored_tumbref2_ScoredOrder_ok (w : World) (v_p_data : Value) (p_data : List GScored) (hb_p_data : (LEnt.own v_p_data 53 5 p_data.length (p_data.flatMap GScored.enc)).holds w) (p_a : Int) (p_b : Int) (p_limit : Int) (r : (List GScored)) (h : slices_pdqsortCmpFunc_Scored_tumbref2_ScoredOrder p_data p_a p_b p_limit = some r) :
    Calls Tryz.prog 34 [v_p_data, iV p_a, iV p_b, iV p_limit, .func (.func 17) #[] #[]].toArray w (Ret w (v_p_data.ownBlock.toList) fun _ v w' => (LEnt.own v_p_data 53 5 r.length (r.flatMap GScored.enc)).holds w' ∧ v = .tuple #[]) := by
 refine f_enter (v_p_data.ownBlock.toList) [.own v_p_data 53 5 p_data.length (p_data.flatMap GScored.enc)] Tryz.func34 rfl Tryz.ntmps34 rfl (fun e he => by simp only [List.mem_singleton] at he; subst he; exact hb_p_data) (fps_one_nodup _) (fps_one_sub _) fun a S => ?_
 unfold slices_pdqsortCmpFunc_Scored_tumbref2_ScoredOrder at h
 replace S := S.nk [.own v_p_data 53 5 p_data.length (p_data.flatMap GScored.enc)] [(0, v_p_data), (1, iV p_a), (2, iV p_b), (3, iV p_limit), (4, .func (.func 17) #[] #[])] [true] rfl (subR rfl)
 refine f_seq (f_region (lv S (rn_assign rfl) rfl ?_)); clear S; intro a S
 refine l_done (then_n (f_seq (f_region (lv S (rn_assign rfl) rfl ?_)))); clear S; intro a S
 refine l_done (then_n ?_)
 replace S := S.nk [.own v_p_data 53 5 p_data.length (p_data.flatMap GScored.enc)] [(0, v_p_data), (1, iV p_a), (2, iV p_b), (3, iV p_limit), (4, .func (.func 17) #[] #[]), (10, bV true)] [true] rfl (subR rfl)
 refine f_join (fun a w' => False) ?_ ?_
 ·refine wp_block (f_loop (fun (m1 : Nat) a w' => ∃ x1 : Int, ∃ x2 : Int, ∃ x3 : Int, ∃ x4 : Bool, slices_pdqsortCmpFunc_Scored_tumbref2_ScoredOrder_l1 p_data m1 x1 x2 x3 x4 = some r ∧ Sx w (v_p_data.ownBlock.toList) nov [.own v_p_data 53 5 p_data.length (p_data.flatMap GScored.enc)] [(0, v_p_data), (1, iV x1), (2, iV x2), (3, iV x3), (4, .func (.func 17) #[] #[]), (10, bV x4)] 148 a w') id 4611686018427387904 ⟨p_a, p_b, p_limit, true, h, S.nf [true] rfl (subR rfl)⟩ ?_)
  clear S h; rintro m1 a w1 ⟨x1, x2, x3, x4, h, S⟩
  cases m1 with
  | zero => rw [slices_pdqsortCmpFunc_Scored_tumbref2_ScoredOrder_l1.eq_1] at h; cases h
  | succ m1 =>
   rw [slices_pdqsortCmpFunc_Scored_tumbref2_ScoredOrder_l1.eq_2] at h
   refine wp_block (f_seq (f_region (lv S (rn_move (S.tm rfl)) rfl ?_))); clear S; intro a S
   refine lv S (rn_move (S.tm rfl)) rfl ?_; clear S; intro a S
   refine lv S (rn_sub (S.tm rfl) (S.tm rfl)) rfl ?_; clear S; intro a S
   refine lv S (rn_assign (S.tm rfl)) rfl ?_; clear S; intro a S
   refine l_done (then_n (f_seq (f_seq (f_region (lv S (rn_move (S.tm rfl)) rfl ?_))))); clear S; intro a S
   refine lv S (rn_leq (S.tm rfl) rfl) rfl ?_; clear S; intro a S
   refine l_done (then_n (f_cond (S.tm rfl) (fun hb1 => ?_) (fun hb1 => ?_)))
   ·replace h := iteT h hb1
    refine f_seq (f_region (lv S (rn_move (S.tm rfl)) rfl ?_)); clear S; intro a S
    iterate 3 (refine lv S (rn_move (S.tm rfl)) rfl ?_; clear S; intro a S)
    obtain ⟨r1, hr1, h⟩ := bindE h
    refine l_enterO 0 S rfl (fun _ => .own v_p_data 53 5 r1.length (r1.flatMap GScored.enc)) (fun _ => run_call (vs := [v_p_data, iV x1, iV x2, .func (.func 17) #[] #[]]) ⟨(S.tm rfl), (S.tm rfl), (S.tm rfl), (S.tm rfl), trivial⟩ Tryz.call60) (slices_insertionSortCmpFunc_Scored_tumbref2_ScoredOrder_ok _ v_p_data p_data (S.holds _ (List.mem_of_getElem? (i := 0) rfl)) x1 x2 _ hr1) rfl (fun _ _ _ h => ⟨h.1, fun _ hc => hc⟩) ?_; clear S; intro v1 a w3 hv1 hk1 hn1 S
    replace hv1 := hv1.2
    subst hv1
    refine l_done ?_
    replace S := S.nk [.own v_p_data 53 5 r1.length (r1.flatMap GScored.enc)] [] [true] rfl trivial
    refine then_n (wp_ret (then_r (blk_r (then_r (blk_r (then_r ?_))))))
    obtain rfl := Option.some.inj h
    exact f_ret0 S Tryz.results34 ⟨(S.holds _ (List.mem_of_getElem? (i := 0) rfl)), rfl⟩
   ·replace h := iteF h hb1
    refine wp_skip (then_n (f_seq (f_seq (f_region (lv S (rn_move (S.tm rfl)) rfl ?_))))); clear S; intro a S
    refine lv S (rn_eql (S.tm rfl) rfl) rfl ?_; clear S; intro a S
    refine l_done (then_n (f_cond (S.tm rfl) (fun hb2 => ?_) (fun hb2 => ?_)))
    ·replace h := iteT h hb2
     refine f_seq ?_
     cases h
    ·replace h := iteF h hb2
     refine wp_skip (then_n (f_seq (f_seq (f_region (lv S (rn_move (S.tm rfl)) rfl ?_))))); clear S; intro a S
     refine lv S (rn_not (S.tm rfl)) rfl ?_; clear S; intro a S
     refine l_done ?_
     replace S := S.nk [.own v_p_data 53 5 p_data.length (p_data.flatMap GScored.enc)] [(39, bV (!x4))] [true] rfl ⟨rfl, trivial⟩
     refine then_n (f_cond (S.tm rfl) (fun hb3 => ?_) (fun hb3 => ?_))
     ·replace h := iteT h hb3
      refine f_seq ?_
      cases h
     ·replace h := iteF h hb3
      refine wp_skip (then_n (f_seq ?_))
      cases h
 exact fun _ _ h => h.elim
theorem slices_SortFunc_Scored_tumbref2_ScoredOrder_ok (w : World) (v_p_x : Value) (p_x : List GScored) (hb_p_x : (LEnt.own v_p_x 53 5 p_x.length (p_x.flatMap GScored.enc)).holds w) (r : (List GScored)) (h : slices_SortFunc_Scored_tumbref2_ScoredOrder p_x = some r) :
    Calls Tryz.prog 16 [v_p_x, .func (.func 17) #[] #[]].toArray w (Ret w (v_p_x.ownBlock.toList) fun _ v w' => (LEnt.own v_p_x 53 5 r.length (r.flatMap GScored.enc)).holds w' ∧ v = .tuple #[]) := by
 refine f_enter (v_p_x.ownBlock.toList) [.own v_p_x 53 5 p_x.length (p_x.flatMap GScored.enc)] Tryz.func16 rfl Tryz.ntmps16 rfl (fun e he => by simp only [List.mem_singleton] at he; subst he; exact hb_p_x) (fps_one_nodup _) (fps_one_sub _) fun a S => ?_
 unfold slices_SortFunc_Scored_tumbref2_ScoredOrder at h
 replace S := S.nk [.own v_p_x 53 5 p_x.length (p_x.flatMap GScored.enc)] [(0, v_p_x), (1, .func (.func 17) #[] #[])] [true] rfl (subR rfl)
 refine f_seq (f_region (lv S (rn_move (S.tm rfl)) rfl ?_)); clear S; intro a S
 refine lv S (rn_lenT sl_29 (S.tm rfl) (own_len (S.own_at (i := 0) rfl))) rfl ?_; clear S; intro a S
 refine lv S (rn_assign (S.tm rfl)) rfl ?_; clear S; intro a S
 refine l_done (then_n (f_region (lv S (rn_move (S.tm rfl)) rfl ?_))); clear S; intro a S
 refine lv S (rn_move (S.tm rfl)) rfl ?_; clear S; intro a S
 refine lv S (rn_move (S.tm rfl)) rfl ?_; clear S; intro a S
 refine lv S (rn_conv Tryz.underlying3 Tryz.underlying90 (S.tm rfl)) rfl ?_; clear S; intro a S
 obtain ⟨r1, hr1, h⟩ := bindE h
 refine l_enter S (fun _ => run_call (vs := [.int .u64 (IntKind.wrap .u64 (p_x.length : Int))]) ⟨(S.tm rfl), trivial⟩ Tryz.call35) (bits_Len_ok _ (IntKind.wrap .u64 (p_x.length : Int)) _ hr1) rfl ?_; clear S; intro v1 a w1 hv1 hk1 hn1 S
 subst hv1
 refine lv S (rn_move (S.tm rfl)) rfl ?_; clear S; intro a S
 obtain ⟨r2, hr2, h⟩ := bindE h
 refine l_enterO 0 S rfl (fun _ => .own v_p_x 53 5 r2.length (r2.flatMap GScored.enc)) (fun _ => run_call (vs := [v_p_x, iV 0, iV (p_x.length : Int), iV r1, .func (.func 17) #[] #[]]) ⟨(S.tm rfl), rfl, (S.tm rfl), (S.tm rfl), (S.tm rfl), trivial⟩ Tryz.call34) (slices_pdqsortCmpFunc_Scored_tumbref2_ScoredOrder_ok _ v_p_x p_x (S.holds _ (List.mem_of_getElem? (i := 0) rfl)) 0 (p_x.length : Int) r1 _ hr2) rfl (fun _ _ _ h => ⟨h.1, fun _ hc => hc⟩) ?_; clear S; intro v2 a w2 hv2 hk2 hn2 S
 replace hv2 := hv2.2
 subst hv2
 refine l_done ?_
 obtain rfl := Option.some.inj h
 exact f_ret0 S Tryz.results16 ⟨(S.holds _ (List.mem_of_getElem? (i := 0) rfl)), rfl⟩
theorem Stream_RightScored_ok (w : World) (b_p_s : Nat) (v_p_s_L : Value) (p_s_L : List Int) (hs_p_s_L : Slc (view w [b_p_s]) 1 v_p_s_L (p_s_L.map eInt)) (p_s_at : Int) (hb_b_p_s : (LEnt.blk b_p_s [v_p_s_L, iV p_s_at] 25).holds w) (r : (List GScored) × Int) (h : Stream_RightScored p_s_L p_s_at = some r) :
    Calls Tryz.prog 5 [.pointer (some ⟨b_p_s, 0, none⟩)].toArray w (Ret w [b_p_s] fun τ v w' => (LEnt.blk b_p_s [v_p_s_L, iV r.2] 25).holds w' ∧ OwnV τ 53 5 v r.1.length (r.1.flatMap GScored.enc)) := by
 refine f_enter [b_p_s] [.blk b_p_s [v_p_s_L, iV p_s_at] 25] Tryz.func5 rfl Tryz.ntmps5 rfl (fun e he => by simp only [List.mem_singleton] at he; subst he; exact hb_b_p_s) (by simp [fps, LEnt.fp]) (by simp [fps, LEnt.fp]) fun a S => ?_
 unfold Stream_RightScored at h
 replace S := S.nk [.blk b_p_s [v_p_s_L, iV p_s_at] 25] [(0, .pointer (some ⟨b_p_s, 0, none⟩))] [true] rfl ⟨rfl, trivial⟩
 refine f_seq (f_region (lv S (rn_assign rfl) rfl ?_)); clear S; intro a S
 refine l_done (then_n (f_seq (f_region (lv S (rn_assign rfl) rfl ?_)))); clear S; intro a S
 replace S := S.nil 53 5
 refine l_done (then_n (f_seq (f_seq (f_region (l_buildSlice S Tryz.underlying37 Tryz.sizeOf9 Tryz.zeroValue9 rfl rfl (pv := [(0, sV k_ra), (1, sV k_rb), (2, sV k_rc)]) ⟨rfl, rfl, rfl, rfl, rfl, rfl, trivial⟩ (cs := [sV k_ra, sV k_rb, sV k_rc]) (by kernel_rfl) rfl ?_))))); clear S; intro a w1 b1 hz1 hk1 S
 refine lv S (rn_lenT sl_37 (S.tm rfl) ⟨_, _, rfl⟩) rfl ?_; clear S; intro a S
 refine lv S (rn_move rfl) rfl ?_; clear S; intro a S
 refine l_done (then_n ?_)
 replace S := S.nk [.blk b1 [sV k_ra, sV k_rb, sV k_rc] 9, .own (.slice none 0 0) 53 5 ([] : List GScored).length (([] : List GScored).flatMap GScored.enc), .blk b_p_s [v_p_s_L, iV p_s_at] 25] [(0, .pointer (some ⟨b_p_s, 0, none⟩)), (3, (.slice none 0 0)), (16, .slice (some ⟨b1, 0, none⟩) 3 3), (17, iV (([k_ra, k_rb, k_rc] : List ByteArray).length : Int)), (18, iV 0)] [true, true, true] rfl (subR rfl)
 replace S := S.litOwn (i := 0) (xs := [k_ra, k_rb, k_rc]) rfl enc_str rfl rfl rfl
 replace S := S.nk [.own (.slice (some ⟨b1, 0, none⟩) 3 3) 9 1 ([k_ra, k_rb, k_rc] : List ByteArray).length (([k_ra, k_rb, k_rc] : List ByteArray).flatMap eStr), .own (.slice none 0 0) 53 5 ([] : List GScored).length (([] : List GScored).flatMap GScored.enc), .blk b_p_s [v_p_s_L, iV p_s_at] 25] [(0, .pointer (some ⟨b_p_s, 0, none⟩)), (3, (.slice none 0 0)), (16, (.slice (some ⟨b1, 0, none⟩) 3 3)), (17, iV (([k_ra, k_rb, k_rc] : List ByteArray).length : Int)), (18, iV 0)] [] rfl (subR rfl)
 obtain ⟨φ1, hl1, hs1, S⟩ := S.freezeT (xs := ([k_ra, k_rb, k_rc] : List ByteArray)) (enc := eStr) (i := 0) rfl (fun c hc hh => not_fps S (i := 2) rfl rfl (j := 0) rfl rfl (by simp at hc; subst hc; exact hh))
 replace S := S.nk [.own (.slice none 0 0) 53 5 ([] : List GScored).length (([] : List GScored).flatMap GScored.enc), .blk b_p_s [v_p_s_L, iV p_s_at] 25] [(0, .pointer (some ⟨b_p_s, 0, none⟩)), (3, (.slice none 0 0)), (16, (.slice (some ⟨b1, 0, none⟩) 3 3)), (17, iV (([k_ra, k_rb, k_rc] : List ByteArray).length : Int)), (18, iV 0)] [] rfl (subR rfl)
 obtain ⟨j1, hj1, h⟩ := joinE h
 refine f_join (fun a w' => ∃ x1 : List GScored, ∃ x2 : Int, ∃ φ2 : View, ∃ v1 : Value, j1 x1 x2 = some r ∧ View.le φ1 φ2 ∧ Sx w [b_p_s] φ2 [.own v1 53 5 x1.length (x1.flatMap GScored.enc), .blk b_p_s [v_p_s_L, iV x2] 25] [(3, v1)] 114 a w') ?_ ?_
 ·refine wp_block (f_loop (fun (ys1 : List ByteArray) a w' => ∃ i1 : Nat, ∃ x1 : List GScored, ∃ x2 : Int, ∃ φ2 : View, ∃ v1 : Value, (∃ dn, ([k_ra, k_rb, k_rc] : List ByteArray) = dn ++ ys1 ∧ dn.length = i1) ∧ Stream_RightScored_l1 p_s_L j1 ys1 i1 x1 x2 = some r ∧ View.le φ1 φ2 ∧ Sx w [b_p_s] φ2 [.own v1 53 5 x1.length (x1.flatMap GScored.enc), .blk b_p_s [v_p_s_L, iV x2] 25] [(0, .pointer (some ⟨b_p_s, 0, none⟩)), (3, v1), (16, (.slice (some ⟨b1, 0, none⟩) 3 3)), (17, iV (([k_ra, k_rb, k_rc] : List ByteArray).length : Int)), (18, iV (i1 : Int))] 114 a w') List.length ([k_ra, k_rb, k_rc] : List ByteArray) ⟨0, ([] : List GScored), p_s_at, φ1, (.slice none 0 0), ⟨[], rfl, rfl⟩, h, View.le_refl _, S.nf [true, true] rfl (subR rfl)⟩ ?_)
  clear S h; rintro ys1 a w2 ⟨i1, x1, x2, φ2, v1, ⟨dn, hd1, hi1⟩, h, hl2, S⟩
  cases ys1 with
  | nil =>
   rw [Stream_RightScored_l1.eq_1] at h
   refine f_seq (f_region (lv S (rn_lss (S.tm rfl) (S.tm rfl)) rfl ?_)); clear S; intro a S
   refine l_done ?_
   replace S := S.nk [.own v1 53 5 x1.length (x1.flatMap GScored.enc), .blk b_p_s [v_p_s_L, iV x2] 25] [(0, .pointer (some ⟨b_p_s, 0, none⟩)), (3, v1), (16, (.slice (some ⟨b1, 0, none⟩) 3 3)), (17, iV (([k_ra, k_rb, k_rc] : List ByteArray).length : Int)), (18, iV (i1 : Int)), (19, bV (decide ((i1 : Int) < (([k_ra, k_rb, k_rc] : List ByteArray).length : Int))))] [true, true] rfl (subR rfl)
   refine then_n (f_seq (wp_cond_false ((S.tm rfl).trans (congrArg Value.bool (rng_nil hd1 hi1))) (wp_exit (then_x (then_x (x_same ?_))))))
   refine then_n ?_
   exact ⟨x1, x2, φ2, v1, h, hl2, S.nf [true, true] rfl ⟨rfl, trivial⟩⟩
  | cons y1 ys1 =>
   rw [Stream_RightScored_l1.eq_2] at h
   refine f_seq (f_region (lv S (rn_lss (S.tm rfl) (S.tm rfl)) rfl ?_)); clear S; intro a S
   refine l_done ?_
   replace S := S.nk [.own v1 53 5 x1.length (x1.flatMap GScored.enc), .blk b_p_s [v_p_s_L, iV x2] 25] [(0, .pointer (some ⟨b_p_s, 0, none⟩)), (3, v1), (16, (.slice (some ⟨b1, 0, none⟩) 3 3)), (17, iV (([k_ra, k_rb, k_rc] : List ByteArray).length : Int)), (18, iV (i1 : Int)), (19, bV (decide ((i1 : Int) < (([k_ra, k_rb, k_rc] : List ByteArray).length : Int))))] [true, true] rfl (subR rfl)
   refine then_n (f_seq (wp_cond_true ((S.tm rfl).trans (congrArg Value.bool (rng_cons hd1 hi1))) (wp_skip (then_n (f_seq (wp_block ?_))))))
   refine f_seq (f_region ?_)
   obtain ⟨b2, o1, hm1, hr1⟩ := rn_indexT (a := a) (x := .tmp 16) (y := .tmp 18) (ty := 0) sl_37 (ownV_slcT enc_str hs1) (get_mid hd1 hi1) rfl (S.tm rfl) (S.tm rfl)
   refine lv S (hr1 _) rfl ?_; clear S; intro a S
   clear hr1
   refine lv S (rn_ld Tryz.isAgg9 (off := o1) (o := 0) (S.tm rfl) ((hm1.mono hl2).at S.emb) rfl) rfl ?_; clear S; intro a S
   refine lv S (rn_assign (S.tm rfl)) rfl ?_; clear S; intro a S
   refine l_done (then_n (f_seq (f_region (lv S (rn_move (S.tm rfl)) rfl ?_)))); clear S; intro a S
   obtain ⟨r1, hr2, h⟩ := bindE h
   refine l_enter1 1 S (b := b_p_s) rfl rfl (fun _ => .blk b_p_s [v_p_s_L, iV r1.2] 25) (fun _ => run_call (vs := [.pointer (some ⟨b_p_s, 0, none⟩), iV 3]) ⟨(S.tm rfl), rfl, trivial⟩ Tryz.call14) (Stream_Flip_ok _ b_p_s v_p_s_L p_s_L (hs_p_s_L.mono (S.le_arg (fp_sub (i := 1) (e := .blk b_p_s [v_p_s_L, iV x2] 25) rfl))) x2 (S.holds _ (List.mem_of_getElem? (i := 1) rfl)) 3 _ hr2) rfl (fun _ _ _ h => ⟨h.1, fun _ hc => by cases hc; rfl⟩) ?_; clear S; intro v2 a w4 hv1 hk2 hn1 S
   replace hv1 := hv1.2
   subst hv1
   refine lv S (rn_assign (S.tm rfl)) rfl ?_; clear S; intro a S
   refine l_done (then_n (f_seq (f_region (lv S (rn_assign rfl) rfl ?_)))); clear S; intro a S
   replace S := S.nil 53 5
   refine l_done (then_n (f_seq (f_seq (f_region (l_buildSlice S Tryz.underlying37 Tryz.sizeOf9 Tryz.zeroValue9 rfl rfl (pv := [(0, sV k_ann), (1, sV k_bea), (2, sV k_cid), (3, sV k_dan), (4, sV k_eve)]) ⟨rfl, rfl, rfl, rfl, rfl, rfl, rfl, rfl, rfl, rfl, trivial⟩ (cs := [sV k_ann, sV k_bea, sV k_cid, sV k_dan, sV k_eve]) (by kernel_rfl) rfl ?_))))); clear S; intro a w5 b3 hz2 hk3 S
   refine lv S (rn_lenT sl_37 (S.tm rfl) ⟨_, _, rfl⟩) rfl ?_; clear S; intro a S
   refine lv S (rn_move rfl) rfl ?_; clear S; intro a S
   refine l_done ?_
   replace S := S.nk [.blk b3 [sV k_ann, sV k_bea, sV k_cid, sV k_dan, sV k_eve] 9, .own (.slice none 0 0) 53 5 ([] : List GScored).length (([] : List GScored).flatMap GScored.enc), .own v1 53 5 x1.length (x1.flatMap GScored.enc), .blk b_p_s [v_p_s_L, iV r1.2] 25] [(0, .pointer (some ⟨b_p_s, 0, none⟩)), (3, v1), (5, sV y1), (6, bV r1.1), (7, (.slice none 0 0)), (16, (.slice (some ⟨b1, 0, none⟩) 3 3)), (17, iV (([k_ra, k_rb, k_rc] : List ByteArray).length : Int)), (18, iV (i1 : Int)), (24, .slice (some ⟨b3, 0, none⟩) 5 5), (25, iV (([k_ann, k_bea, k_cid, k_dan, k_eve] : List ByteArray).length : Int)), (26, iV 0)] [true, true, true, true] rfl (subR rfl)
   refine then_n ?_
   replace S := S.litOwn (i := 0) (xs := [k_ann, k_bea, k_cid, k_dan, k_eve]) rfl enc_str rfl rfl rfl
   replace S := S.nk [.own (.slice (some ⟨b3, 0, none⟩) 5 5) 9 1 ([k_ann, k_bea, k_cid, k_dan, k_eve] : List ByteArray).length (([k_ann, k_bea, k_cid, k_dan, k_eve] : List ByteArray).flatMap eStr), .own (.slice none 0 0) 53 5 ([] : List GScored).length (([] : List GScored).flatMap GScored.enc), .own v1 53 5 x1.length (x1.flatMap GScored.enc), .blk b_p_s [v_p_s_L, iV r1.2] 25] [(0, .pointer (some ⟨b_p_s, 0, none⟩)), (3, v1), (5, sV y1), (6, bV r1.1), (7, (.slice none 0 0)), (16, (.slice (some ⟨b1, 0, none⟩) 3 3)), (17, iV (([k_ra, k_rb, k_rc] : List ByteArray).length : Int)), (18, iV (i1 : Int)), (24, (.slice (some ⟨b3, 0, none⟩) 5 5)), (25, iV (([k_ann, k_bea, k_cid, k_dan, k_eve] : List ByteArray).length : Int)), (26, iV 0)] [] rfl (subR rfl)
   obtain ⟨φ3, hl3, hs2, S⟩ := S.freezeT (xs := ([k_ann, k_bea, k_cid, k_dan, k_eve] : List ByteArray)) (enc := eStr) (i := 0) rfl (fun c hc hh => not_fps S (i := 3) rfl rfl (j := 0) rfl rfl (by simp at hc; subst hc; exact hh))
   replace S := S.nk [.own (.slice none 0 0) 53 5 ([] : List GScored).length (([] : List GScored).flatMap GScored.enc), .own v1 53 5 x1.length (x1.flatMap GScored.enc), .blk b_p_s [v_p_s_L, iV r1.2] 25] [(0, .pointer (some ⟨b_p_s, 0, none⟩)), (3, v1), (5, sV y1), (6, bV r1.1), (7, (.slice none 0 0)), (16, (.slice (some ⟨b1, 0, none⟩) 3 3)), (17, iV (([k_ra, k_rb, k_rc] : List ByteArray).length : Int)), (18, iV (i1 : Int)), (24, (.slice (some ⟨b3, 0, none⟩) 5 5)), (25, iV (([k_ann, k_bea, k_cid, k_dan, k_eve] : List ByteArray).length : Int)), (26, iV 0)] [] rfl (subR rfl)
   obtain ⟨j2, hj2, h⟩ := joinE h
   refine f_join (fun a w' => ∃ x3 : List GScored, ∃ x4 : Int, ∃ v3 : Value, j2 x3 x4 = some r ∧ Sx w [b_p_s] φ3 [.own v3 53 5 x3.length (x3.flatMap GScored.enc), .own v1 53 5 x1.length (x1.flatMap GScored.enc), .blk b_p_s [v_p_s_L, iV x4] 25] [(0, .pointer (some ⟨b_p_s, 0, none⟩)), (3, v1), (7, v3), (16, (.slice (some ⟨b1, 0, none⟩) 3 3)), (17, iV (([k_ra, k_rb, k_rc] : List ByteArray).length : Int)), (18, iV (i1 : Int))] 114 a w') ?_ ?_
   ·refine wp_block (f_loop (fun (ys2 : List ByteArray) a w' => ∃ i2 : Nat, ∃ x3 : List GScored, ∃ x4 : Int, ∃ v3 : Value, (∃ dn, ([k_ann, k_bea, k_cid, k_dan, k_eve] : List ByteArray) = dn ++ ys2 ∧ dn.length = i2) ∧ Stream_RightScored_l2 p_s_L y1 r1 j2 ys2 i2 x3 x4 = some r ∧ Sx w [b_p_s] φ3 [.own v3 53 5 x3.length (x3.flatMap GScored.enc), .own v1 53 5 x1.length (x1.flatMap GScored.enc), .blk b_p_s [v_p_s_L, iV x4] 25] [(0, .pointer (some ⟨b_p_s, 0, none⟩)), (3, v1), (5, sV y1), (6, bV r1.1), (7, v3), (16, (.slice (some ⟨b1, 0, none⟩) 3 3)), (17, iV (([k_ra, k_rb, k_rc] : List ByteArray).length : Int)), (18, iV (i1 : Int)), (24, (.slice (some ⟨b3, 0, none⟩) 5 5)), (25, iV (([k_ann, k_bea, k_cid, k_dan, k_eve] : List ByteArray).length : Int)), (26, iV (i2 : Int))] 114 a w') List.length ([k_ann, k_bea, k_cid, k_dan, k_eve] : List ByteArray) ⟨0, ([] : List GScored), r1.2, (.slice none 0 0), ⟨[], rfl, rfl⟩, h, S.nf [true, true, true] rfl (subR rfl)⟩ ?_)
    clear S h; rintro ys2 a w6 ⟨i2, x3, x4, v3, ⟨dn, hd2, hi2⟩, h, S⟩
    cases ys2 with
    | nil =>
     rw [Stream_RightScored_l2.eq_1] at h
     refine f_seq (f_region (lv S (rn_lss (S.tm rfl) (S.tm rfl)) rfl ?_)); clear S; intro a S
     refine l_done ?_
     replace S := S.nk [.own v3 53 5 x3.length (x3.flatMap GScored.enc), .own v1 53 5 x1.length (x1.flatMap GScored.enc), .blk b_p_s [v_p_s_L, iV x4] 25] [(0, .pointer (some ⟨b_p_s, 0, none⟩)), (3, v1), (5, sV y1), (6, bV r1.1), (7, v3), (16, (.slice (some ⟨b1, 0, none⟩) 3 3)), (17, iV (([k_ra, k_rb, k_rc] : List ByteArray).length : Int)), (18, iV (i1 : Int)), (24, (.slice (some ⟨b3, 0, none⟩) 5 5)), (25, iV (([k_ann, k_bea, k_cid, k_dan, k_eve] : List ByteArray).length : Int)), (26, iV (i2 : Int)), (27, bV (decide ((i2 : Int) < (([k_ann, k_bea, k_cid, k_dan, k_eve] : List ByteArray).length : Int))))] [true, true, true] rfl (subR rfl)
     refine then_n (f_seq (wp_cond_false ((S.tm rfl).trans (congrArg Value.bool (rng_nil hd2 hi2))) (wp_exit (then_x (then_x (x_same ?_))))))
     refine then_n ?_
     exact ⟨x3, x4, v3, h, S.nf [true, true, true] rfl (subR rfl)⟩
    | cons y2 ys2 =>
     rw [Stream_RightScored_l2.eq_2] at h
     refine f_seq (f_region (lv S (rn_lss (S.tm rfl) (S.tm rfl)) rfl ?_)); clear S; intro a S
     refine l_done ?_
     replace S := S.nk [.own v3 53 5 x3.length (x3.flatMap GScored.enc), .own v1 53 5 x1.length (x1.flatMap GScored.enc), .blk b_p_s [v_p_s_L, iV x4] 25] [(0, .pointer (some ⟨b_p_s, 0, none⟩)), (3, v1), (5, sV y1), (6, bV r1.1), (7, v3), (16, (.slice (some ⟨b1, 0, none⟩) 3 3)), (17, iV (([k_ra, k_rb, k_rc] : List ByteArray).length : Int)), (18, iV (i1 : Int)), (24, (.slice (some ⟨b3, 0, none⟩) 5 5)), (25, iV (([k_ann, k_bea, k_cid, k_dan, k_eve] : List ByteArray).length : Int)), (26, iV (i2 : Int)), (27, bV (decide ((i2 : Int) < (([k_ann, k_bea, k_cid, k_dan, k_eve] : List ByteArray).length : Int))))] [true, true, true] rfl (subR rfl)
     refine then_n (f_seq (wp_cond_true ((S.tm rfl).trans (congrArg Value.bool (rng_cons hd2 hi2))) (wp_skip (then_n (f_seq ?_)))))
     obtain ⟨j3, hj3, h⟩ := joinE h
     refine f_join (fun a w' => ∃ x5 : List GScored, ∃ x6 : Int, ∃ v4 : Value, j3 x5 x6 = some r ∧ Sx w [b_p_s] φ3 [.own v4 53 5 x5.length (x5.flatMap GScored.enc), .own v1 53 5 x1.length (x1.flatMap GScored.enc), .blk b_p_s [v_p_s_L, iV x6] 25] [(0, .pointer (some ⟨b_p_s, 0, none⟩)), (3, v1), (5, sV y1), (6, bV r1.1), (7, v4), (16, (.slice (some ⟨b1, 0, none⟩) 3 3)), (17, iV (([k_ra, k_rb, k_rc] : List ByteArray).length : Int)), (18, iV (i1 : Int)), (24, (.slice (some ⟨b3, 0, none⟩) 5 5)), (25, iV (([k_ann, k_bea, k_cid, k_dan, k_eve] : List ByteArray).length : Int)), (26, iV (i2 : Int))] 114 a w') ?_ ?_
     ·refine wp_block (f_seq (f_region ?_))
      obtain ⟨b4, o2, hm2, hr3⟩ := rn_indexT (a := a) (x := .tmp 24) (y := .tmp 26) (ty := 0) sl_37 (ownV_slcT enc_str hs2) (get_mid hd2 hi2) rfl (S.tm rfl) (S.tm rfl)
      refine lv S (hr3 _) rfl ?_; clear S; intro a S
      clear hr3
      refine lv S (rn_ld Tryz.isAgg9 (off := o2) (o := 0) (S.tm rfl) (hm2.at S.emb) rfl) rfl ?_; clear S; intro a S
      refine lv S (rn_assign (S.tm rfl)) rfl ?_; clear S; intro a S
      refine l_done ?_
      replace S := S.nk [.own v3 53 5 x3.length (x3.flatMap GScored.enc), .own v1 53 5 x1.length (x1.flatMap GScored.enc), .blk b_p_s [v_p_s_L, iV x4] 25] [(0, .pointer (some ⟨b_p_s, 0, none⟩)), (3, v1), (5, sV y1), (6, bV r1.1), (7, v3), (9, sV y2), (16, (.slice (some ⟨b1, 0, none⟩) 3 3)), (17, iV (([k_ra, k_rb, k_rc] : List ByteArray).length : Int)), (18, iV (i1 : Int)), (24, (.slice (some ⟨b3, 0, none⟩) 5 5)), (25, iV (([k_ann, k_bea, k_cid, k_dan, k_eve] : List ByteArray).length : Int)), (26, iV (i2 : Int))] [true, true, true] rfl (subR rfl)
      refine then_n (f_seq (f_region (lv S (rn_move (S.tm rfl)) rfl ?_))); clear S; intro a S
      obtain ⟨r2, hr4, h⟩ := bindE h
      refine l_enter1 2 S (b := b_p_s) rfl rfl (fun _ => .blk b_p_s [v_p_s_L, iV r2.2] 25) (fun _ => run_call (vs := [.pointer (some ⟨b_p_s, 0, none⟩), iV 4]) ⟨(S.tm rfl), rfl, trivial⟩ Tryz.call14) (Stream_Flip_ok _ b_p_s v_p_s_L p_s_L (hs_p_s_L.mono (S.le_arg (fp_sub (i := 2) (e := .blk b_p_s [v_p_s_L, iV x4] 25) rfl))) x4 (S.holds _ (List.mem_of_getElem? (i := 2) rfl)) 4 _ hr4) rfl (fun _ _ _ h => ⟨h.1, fun _ hc => by cases hc; rfl⟩) ?_; clear S; intro v5 a w9 hv2 hk4 hn2 S
      replace hv2 := hv2.2
      subst hv2
      refine lv S (rn_not (S.tm rfl)) rfl ?_; clear S; intro a S
      refine l_done ?_
      replace S := S.nk [.own v3 53 5 x3.length (x3.flatMap GScored.enc), .own v1 53 5 x1.length (x1.flatMap GScored.enc), .blk b_p_s [v_p_s_L, iV r2.2] 25] [(0, .pointer (some ⟨b_p_s, 0, none⟩)), (3, v1), (5, sV y1), (6, bV r1.1), (7, v3), (9, sV y2), (16, (.slice (some ⟨b1, 0, none⟩) 3 3)), (17, iV (([k_ra, k_rb, k_rc] : List ByteArray).length : Int)), (18, iV (i1 : Int)), (24, (.slice (some ⟨b3, 0, none⟩) 5 5)), (25, iV (([k_ann, k_bea, k_cid, k_dan, k_eve] : List ByteArray).length : Int)), (26, iV (i2 : Int)), (32, bV (!r2.1))] [true, true, true] rfl (subR rfl)
      refine then_n ?_
      obtain ⟨j4, hj4, h⟩ := joinE h
      refine f_join (fun a w' => ∃ x7 : List GScored, ∃ x8 : Int, ∃ v6 : Value, j4 x7 x8 = some r ∧ Sx w [b_p_s] φ3 [.own v6 53 5 x7.length (x7.flatMap GScored.enc), .own v1 53 5 x1.length (x1.flatMap GScored.enc), .blk b_p_s [v_p_s_L, iV x8] 25] [(0, .pointer (some ⟨b_p_s, 0, none⟩)), (3, v1), (5, sV y1), (6, bV r1.1), (7, v6), (16, (.slice (some ⟨b1, 0, none⟩) 3 3)), (17, iV (([k_ra, k_rb, k_rc] : List ByteArray).length : Int)), (18, iV (i1 : Int)), (24, (.slice (some ⟨b3, 0, none⟩) 5 5)), (25, iV (([k_ann, k_bea, k_cid, k_dan, k_eve] : List ByteArray).length : Int)), (26, iV (i2 : Int))] 114 a w') ?_ ?_
      ·refine f_cond (S.tm rfl) (fun hb1 => ?_) (fun hb1 => ?_)
       ·replace h := iteT h hb1
        refine f_region (lv S (rn_move (S.tm rfl)) rfl ?_); clear S; intro a S
        iterate 3 (refine lv S (rn_move (S.tm rfl)) rfl ?_; clear S; intro a S)
        refine l_buildSlice S Tryz.underlying37 Tryz.sizeOf9 Tryz.zeroValue9 rfl rfl (pv := [(0, sV k_blue), (1, sV k_blue), (2, sV k_red), (3, sV k_grey), (4, sV k_empty)]) ⟨rfl, rfl, rfl, rfl, rfl, rfl, rfl, rfl, rfl, rfl, trivial⟩ (cs := [sV k_blue, sV k_blue, sV k_red, sV k_grey, sV k_empty]) (by kernel_rfl) rfl ?_; clear S; intro a w11 b5 hz3 hk5 S
        obtain ⟨r3, hr5, h⟩ := bindE h
        refine l_enter1 3 S (b := b_p_s) rfl rfl (fun _ => .blk b_p_s [v_p_s_L, iV r3.2] 25) (fun _ => run_call (vs := [.pointer (some ⟨b_p_s, 0, none⟩), .slice (some ⟨b5, 0, none⟩) 5 5]) ⟨(S.tm rfl), (S.tm rfl), trivial⟩ Tryz.call15) (Stream_Some_ok _ b_p_s v_p_s_L p_s_L (hs_p_s_L.mono (S.le_arg (fp_sub (i := 3) (e := .blk b_p_s [v_p_s_L, iV r2.2] 25) rfl))) r2.2 (S.holds _ (List.mem_of_getElem? (i := 3) rfl)) (.slice (some ⟨b5, 0, none⟩) 5 5) [k_blue, k_blue, k_red, k_grey, k_empty] (lit_slcT enc_str S (i := 0) rfl rfl rfl rfl ((ne_fp (i := 3) (j := 0) (e := .blk b_p_s [v_p_s_L, iV r2.2] 25) (e' := .blk b5 [sV k_blue, sV k_blue, sV k_red, sV k_grey, sV k_empty] 9) S rfl rfl rfl) _ rfl)) _ hr5) rfl (fun _ _ _ h => ⟨h.1, fun _ hc => by cases hc; rfl⟩) ?_; clear S; intro v7 a w12 hv3 hk6 hn3 S
        replace hv3 := hv3.2
        subst hv3
        refine lv S (rn_move (S.tm rfl)) rfl ?_; clear S; intro a S
        refine l_buildSlice S Tryz.underlying22 Tryz.sizeOf3 Tryz.zeroValue3 rfl rfl (pv := [(0, iV 0), (1, iV 1), (2, iV 2), (3, iV 2), (4, iV 3), (5, iV 4)]) ⟨rfl, rfl, rfl, rfl, rfl, rfl, rfl, rfl, rfl, rfl, rfl, rfl, trivial⟩ (cs := [iV 0, iV 1, iV 2, iV 2, iV 3, iV 4]) (by kernel_rfl) rfl ?_; clear S; intro a w13 b6 hz4 hk7 S
        obtain ⟨r4, hr6, h⟩ := bindE h
        refine l_enter1 4 S (b := b_p_s) rfl rfl (fun _ => .blk b_p_s [v_p_s_L, iV r4.2] 25) (fun _ => run_call (vs := [.pointer (some ⟨b_p_s, 0, none⟩), .slice (some ⟨b6, 0, none⟩) 6 6]) ⟨(S.tm rfl), (S.tm rfl), trivial⟩ Tryz.call13) (Stream_Pick_ok _ b_p_s v_p_s_L p_s_L (hs_p_s_L.mono (S.le_arg (fp_sub (i := 4) (e := .blk b_p_s [v_p_s_L, iV r3.2] 25) rfl))) r3.2 (S.holds _ (List.mem_of_getElem? (i := 4) rfl)) (.slice (some ⟨b6, 0, none⟩) 6 6) [0, 1, 2, 2, 3, 4] (lit_slcT enc_int S (i := 0) rfl rfl rfl rfl ((ne_fp (i := 4) (j := 0) (e := .blk b_p_s [v_p_s_L, iV r3.2] 25) (e' := .blk b6 [iV 0, iV 1, iV 2, iV 2, iV 3, iV 4] 3) S rfl rfl rfl) _ rfl)) _ hr6) rfl (fun _ _ _ h => ⟨h.1, fun _ hc => by cases hc; rfl⟩) ?_; clear S; intro v8 a w14 hv4 hk8 hn4 S
        replace hv4 := hv4.2
        subst hv4
        refine lv S (rn_move (S.tm rfl)) rfl ?_; clear S; intro a S
        refine lv S (rn_bld bt_53 (pv := [(0, sV y1), (1, sV y2), (2, sV r3.1), (3, iV r4.1), (4, bV r1.1)]) ⟨rfl, (S.tm rfl), rfl, (S.tm rfl), rfl, (S.tm rfl), rfl, (S.tm rfl), rfl, (S.tm rfl), trivial⟩ (cs := [sV y1, sV y2, sV r3.1, iV r4.1, bV r1.1]) (by kernel_rfl)) rfl ?_; clear S; intro a S
        refine l_buildSlice S Tryz.underlying29 Tryz.sizeOf53 Tryz.zeroValue53 rfl rfl (pv := [(0, .agg #[sV y1, sV y2, sV r3.1, iV r4.1, bV r1.1])]) ⟨rfl, (S.tm rfl), trivial⟩ (cs := [sV y1, sV y2, sV r3.1, iV r4.1, bV r1.1]) (by kernel_rfl) rfl ?_; clear S; intro a w15 b7 hz5 hk9 S
        obtain ⟨hc1, h⟩ := chkE h
        refine l_appendT sl_29 GScored.enc_ok S (S.tm rfl) (i := 3) rfl (S.tm rfl) (j := 0) rfl (ys := [(GScored.mk y1 y2 r3.1 r4.1 r1.1)]) rfl rfl rfl rfl (by have := room_lt hc1; omega) rfl ?_; clear S; intro v9 a w16 hk10 S
        refine lv S (rn_assign (S.tm rfl)) rfl ?_; clear S; intro a S
        refine l_done ?_
        replace S := S.nk [.own v9 53 5 (x3 ++ [(GScored.mk y1 y2 r3.1 r4.1 r1.1)]).length ((x3 ++ [(GScored.mk y1 y2 r3.1 r4.1 r1.1)]).flatMap GScored.enc), .own v1 53 5 x1.length (x1.flatMap GScored.enc), .blk b_p_s [v_p_s_L, iV r4.2] 25] [(0, .pointer (some ⟨b_p_s, 0, none⟩)), (3, v1), (5, sV y1), (6, bV r1.1), (7, v9), (16, (.slice (some ⟨b1, 0, none⟩) 3 3)), (17, iV (([k_ra, k_rb, k_rc] : List ByteArray).length : Int)), (18, iV (i1 : Int)), (24, (.slice (some ⟨b3, 0, none⟩) 5 5)), (25, iV (([k_ann, k_bea, k_cid, k_dan, k_eve] : List ByteArray).length : Int)), (26, iV (i2 : Int))] [false, false, false, true, true, true] rfl (subR rfl)
        refine then_n ?_
        exact ⟨(x3 ++ [(GScored.mk y1 y2 r3.1 r4.1 r1.1)]), r4.2, v9, h, S.nf [true, true, true] rfl (subR rfl)⟩
       ·replace h := iteF h hb1
        refine wp_skip (then_n ?_)
        exact ⟨x3, r2.2, v3, h, S.nf [true, true, true] rfl (subR rfl)⟩
      clear S h; rintro a w10 ⟨x7, x8, v6, h, S⟩; rw [hj4] at h; clear hj4 j4
      refine blk_n (then_n ?_)
      exact ⟨x7, x8, v6, h, S.nf [true, true, true] rfl (subR rfl)⟩
     clear S h; rintro a w8 ⟨x5, x6, v4, h, S⟩; rw [hj3] at h; clear hj3 j3
     refine then_n (f_region (lv S (rn_add (S.tm rfl) rfl) rfl ?_)); clear S; intro a S
     refine lv S (rn_move (S.tm rfl)) rfl ?_; clear S; intro a S
     refine l_done (then_n ?_)
     exact ⟨ys2, ⟨i2 + 1, x5, x6, v4, ⟨_, (hd2).trans (List.append_cons _ _ _), by simp [hi2]⟩, h, S.nf [true, true, true] rfl ⟨rfl, rfl, rfl, rfl, rfl, rfl, rfl, rfl, rfl, rfl, (congrArg (fun z => some (Value.int .i64 z)) (rng_next hd2 hi2 (slc_max (ownV_slcT enc_str hs2)))), trivial⟩⟩, Nat.lt_succ_self _⟩
   clear S h; rintro a w7 ⟨x3, x4, v3, h, S⟩; rw [hj2] at h; clear hj2 j2
   refine then_n (f_seq (f_seq (f_region (lv S (rn_move (S.tm rfl)) rfl ?_)))); clear S; intro a S
   refine lv S (rn_lenT sl_29 (S.tm rfl) (own_len (S.own_at (i := 0) rfl))) rfl ?_; clear S; intro a S
   refine lv S (rn_move rfl) rfl ?_; clear S; intro a S
   refine l_done (then_n ?_)
   replace S := S.nk [.own v3 53 5 x3.length (x3.flatMap GScored.enc), .own v1 53 5 x1.length (x1.flatMap GScored.enc), .blk b_p_s [v_p_s_L, iV x4] 25] [(0, .pointer (some ⟨b_p_s, 0, none⟩)), (3, v1), (7, v3), (16, (.slice (some ⟨b1, 0, none⟩) 3 3)), (17, iV (([k_ra, k_rb, k_rc] : List ByteArray).length : Int)), (18, iV (i1 : Int)), (47, v3), (48, iV (x3.length : Int)), (49, iV 0)] [true, true, true] rfl (subR rfl)
   have hm3 := own_max (S.own_at (i := 0) rfl)
   obtain ⟨j5, hj5, h⟩ := joinE h
   refine f_join (fun a w' => ∃ x9 : List GScored, ∃ v10 : Value, j5 x9 = some r ∧ Sx w [b_p_s] φ3 [.own v10 53 5 x9.length (x9.flatMap GScored.enc), .own v1 53 5 x1.length (x1.flatMap GScored.enc), .blk b_p_s [v_p_s_L, iV x4] 25] [(0, .pointer (some ⟨b_p_s, 0, none⟩)), (3, v1), (7, v10), (16, (.slice (some ⟨b1, 0, none⟩) 3 3)), (17, iV (([k_ra, k_rb, k_rc] : List ByteArray).length : Int)), (18, iV (i1 : Int))] 114 a w') ?_ ?_
   ·refine wp_block (f_loop (fun (ys3 : List GScored) a w' => ∃ i3 : Nat, ∃ x9 : List GScored, ∃ v10 : Value, (∃ dn, x3 = dn ++ ys3 ∧ dn.length = i3) ∧ Stream_RightScored_l3 j5 ys3 i3 x9 = some r ∧ Sx w [b_p_s] φ3 [.own v10 53 5 x9.length (x9.flatMap GScored.enc), .own v1 53 5 x1.length (x1.flatMap GScored.enc), .blk b_p_s [v_p_s_L, iV x4] 25] [(0, .pointer (some ⟨b_p_s, 0, none⟩)), (3, v1), (7, v10), (16, (.slice (some ⟨b1, 0, none⟩) 3 3)), (17, iV (([k_ra, k_rb, k_rc] : List ByteArray).length : Int)), (18, iV (i1 : Int)), (47, v10), (48, iV (x3.length : Int)), (49, iV (i3 : Int))] 114 a w') List.length x3 ⟨0, x3, v3, ⟨[], rfl, rfl⟩, h, S.nf [true, true, true] rfl (subR rfl)⟩ ?_)
    clear S h; rintro ys3 a w17 ⟨i3, x9, v10, ⟨dn, hd3, hi3⟩, h, S⟩
    cases ys3 with
    | nil =>
     rw [Stream_RightScored_l3.eq_1] at h
     refine f_seq (f_region (lv S (rn_lss (S.tm rfl) (S.tm rfl)) rfl ?_)); clear S; intro a S
     refine l_done ?_
     replace S := S.nk [.own v10 53 5 x9.length (x9.flatMap GScored.enc), .own v1 53 5 x1.length (x1.flatMap GScored.enc), .blk b_p_s [v_p_s_L, iV x4] 25] [(0, .pointer (some ⟨b_p_s, 0, none⟩)), (3, v1), (7, v10), (16, (.slice (some ⟨b1, 0, none⟩) 3 3)), (17, iV (([k_ra, k_rb, k_rc] : List ByteArray).length : Int)), (18, iV (i1 : Int)), (47, v10), (48, iV (x3.length : Int)), (49, iV (i3 : Int)), (50, bV (decide ((i3 : Int) < (x3.length : Int))))] [true, true, true] rfl (subR rfl)
     refine then_n (f_seq (wp_cond_false ((S.tm rfl).trans (congrArg Value.bool (rng_nil hd3 hi3))) (wp_exit (then_x (then_x (x_same ?_))))))
     refine then_n ?_
     exact ⟨x9, v10, h, S.nf [true, true, true] rfl (subR rfl)⟩
    | cons y3 ys3 =>
     rw [Stream_RightScored_l3.eq_2] at h
     refine f_seq (f_region (lv S (rn_lss (S.tm rfl) (S.tm rfl)) rfl ?_)); clear S; intro a S
     refine l_done ?_
     replace S := S.nk [.own v10 53 5 x9.length (x9.flatMap GScored.enc), .own v1 53 5 x1.length (x1.flatMap GScored.enc), .blk b_p_s [v_p_s_L, iV x4] 25] [(0, .pointer (some ⟨b_p_s, 0, none⟩)), (3, v1), (7, v10), (16, (.slice (some ⟨b1, 0, none⟩) 3 3)), (17, iV (([k_ra, k_rb, k_rc] : List ByteArray).length : Int)), (18, iV (i1 : Int)), (47, v10), (48, iV (x3.length : Int)), (49, iV (i3 : Int)), (50, bV (decide ((i3 : Int) < (x3.length : Int))))] [true, true, true] rfl (subR rfl)
     refine then_n (f_seq (wp_cond_true ((S.tm rfl).trans (congrArg Value.bool (rng_cons hd3 hi3))) (wp_skip (then_n (f_seq ?_)))))
     obtain ⟨j6, hj6, h⟩ := joinE h
     refine f_join (fun a w' => ∃ x10 : List GScored, j6 x10 = some r ∧ Sx w [b_p_s] φ3 [.own v10 53 5 x10.length (x10.flatMap GScored.enc), .own v1 53 5 x1.length (x1.flatMap GScored.enc), .blk b_p_s [v_p_s_L, iV x4] 25] [(0, .pointer (some ⟨b_p_s, 0, none⟩)), (3, v1), (7, v10), (16, (.slice (some ⟨b1, 0, none⟩) 3 3)), (17, iV (([k_ra, k_rb, k_rc] : List ByteArray).length : Int)), (18, iV (i1 : Int)), (47, v10), (48, iV (x3.length : Int)), (49, iV (i3 : Int))] 114 a w') ?_ ?_
     ·refine wp_block (f_seq (f_region (lv S (rn_move (S.tm rfl)) rfl ?_))); clear S; intro a S
      obtain ⟨hc2, h⟩ := chkE h
      obtain ⟨b8, hg1, hr7⟩ := rn_indexS (a := a) (x := .tmp 47) (y := .tmp 49) (ty := 0) sl_29 GScored.enc_ok S (i := 0) rfl (inB_get hc2).1 (inB_get hc2).2 (S.tm rfl) (S.tm rfl)
      refine lv S (hr7 _) rfl ?_; clear S; intro a S
      clear hr7
      refine lv S (rn_ldA Tryz.isAgg53 Tryz.sizeOf53 (off := ((i3 : Int).toNat) * 5) (o := 0) (part := (GScored.enc (nth x9 (i3 : Int)))) rfl rfl (S.tm rfl) (own_cells GScored.enc_ok S (i := 0) rfl hg1 (inB_get hc2).1)) rfl ?_; clear S; intro a S
      refine l_alloc S Tryz.zeroValue53 (cs := [sV k_empty, sV k_empty, sV k_empty, iV 0, bV false]) rfl rfl ?_; clear S; intro a w20 b9 hz6 hk11 S
      refine lv S (rn_assign (S.tm rfl)) rfl ?_; clear S; intro a S
      refine l_store S (S.tm rfl) (S.tm rfl) (i := 0) (off := 0) rfl Tryz.sizeOf53 (vs := (GScored.enc (nth x9 (i3 : Int)))) rfl rfl rfl rfl ?_; clear S; intro w21 hk12 S
      refine l_done ?_
      replace S := S.nk [.blk b9 (GScored.enc (nth x9 (i3 : Int))) 53, .own v10 53 5 x9.length (x9.flatMap GScored.enc), .own v1 53 5 x1.length (x1.flatMap GScored.enc), .blk b_p_s [v_p_s_L, iV x4] 25] [(0, .pointer (some ⟨b_p_s, 0, none⟩)), (3, v1), (7, v10), (10, iV (i3 : Int)), (11, .pointer (some ⟨b9, 0, none⟩)), (16, (.slice (some ⟨b1, 0, none⟩) 3 3)), (17, iV (([k_ra, k_rb, k_rc] : List ByteArray).length : Int)), (18, iV (i1 : Int)), (47, v10), (48, iV (x3.length : Int)), (49, iV (i3 : Int))] [true, true, true, true] rfl (subR rfl)
      refine then_n (f_seq (f_region (lv S (rn_assign rfl) rfl ?_))); clear S; intro a S
      refine l_done (then_n (f_seq (f_seq (f_region (lv S (rn_move (S.tm rfl)) rfl ?_))))); clear S; intro a S
      refine lv S (rn_lenT sl_29 (S.tm rfl) (own_len (S.own_at (i := 1) rfl))) rfl ?_; clear S; intro a S
      refine lv S (rn_move rfl) rfl ?_; clear S; intro a S
      refine l_done ?_
      replace S := S.nk [.blk b9 (GScored.enc (nth x9 (i3 : Int))) 53, .own v10 53 5 x9.length (x9.flatMap GScored.enc), .own v1 53 5 x1.length (x1.flatMap GScored.enc), .blk b_p_s [v_p_s_L, iV x4] 25] [(0, .pointer (some ⟨b_p_s, 0, none⟩)), (3, v1), (7, v10), (10, iV (i3 : Int)), (11, .pointer (some ⟨b9, 0, none⟩)), (12, iV 1), (16, (.slice (some ⟨b1, 0, none⟩) 3 3)), (17, iV (([k_ra, k_rb, k_rc] : List ByteArray).length : Int)), (18, iV (i1 : Int)), (47, v10), (48, iV (x3.length : Int)), (49, iV (i3 : Int)), (54, v10), (55, iV (x9.length : Int)), (56, iV 0)] [true, true, true, true] rfl (subR rfl)
      refine then_n ?_
      have hm5 := own_max (S.own_at (i := 1) rfl)
      obtain ⟨j7, hj7, h⟩ := joinE h
      refine f_join (fun a w' => ∃ x11 : Int, j7 x11 = some r ∧ Sx w [b_p_s] φ3 [.blk b9 (GScored.enc (nth x9 (i3 : Int))) 53, .own v10 53 5 x9.length (x9.flatMap GScored.enc), .own v1 53 5 x1.length (x1.flatMap GScored.enc), .blk b_p_s [v_p_s_L, iV x4] 25] [(0, .pointer (some ⟨b_p_s, 0, none⟩)), (3, v1), (7, v10), (10, iV (i3 : Int)), (11, .pointer (some ⟨b9, 0, none⟩)), (12, iV x11), (16, (.slice (some ⟨b1, 0, none⟩) 3 3)), (17, iV (([k_ra, k_rb, k_rc] : List ByteArray).length : Int)), (18, iV (i1 : Int)), (47, v10), (48, iV (x3.length : Int)), (49, iV (i3 : Int))] 114 a w') ?_ ?_
      ·refine wp_block (f_loop (fun (ys4 : List GScored) a w' => ∃ i4 : Nat, ∃ x11 : Int, (∃ dn, x9 = dn ++ ys4 ∧ dn.length = i4) ∧ Stream_RightScored_l4 x9 i3 j7 ys4 i4 x11 = some r ∧ Sx w [b_p_s] φ3 [.blk b9 (GScored.enc (nth x9 (i3 : Int))) 53, .own v10 53 5 x9.length (x9.flatMap GScored.enc), .own v1 53 5 x1.length (x1.flatMap GScored.enc), .blk b_p_s [v_p_s_L, iV x4] 25] [(0, .pointer (some ⟨b_p_s, 0, none⟩)), (3, v1), (7, v10), (10, iV (i3 : Int)), (11, .pointer (some ⟨b9, 0, none⟩)), (12, iV x11), (16, (.slice (some ⟨b1, 0, none⟩) 3 3)), (17, iV (([k_ra, k_rb, k_rc] : List ByteArray).length : Int)), (18, iV (i1 : Int)), (47, v10), (48, iV (x3.length : Int)), (49, iV (i3 : Int)), (54, v10), (55, iV (x9.length : Int)), (56, iV (i4 : Int))] 114 a w') List.length x9 ⟨0, 1, ⟨[], rfl, rfl⟩, h, S.nf [true, true, true, true] rfl (subR rfl)⟩ ?_)
       clear S h; rintro ys4 a w22 ⟨i4, x11, ⟨dn, hd4, hi4⟩, h, S⟩
       cases ys4 with
       | nil =>
        rw [Stream_RightScored_l4.eq_1] at h
        refine f_seq (f_region (lv S (rn_lss (S.tm rfl) (S.tm rfl)) rfl ?_)); clear S; intro a S
        refine l_done ?_
        replace S := S.nk [.blk b9 (GScored.enc (nth x9 (i3 : Int))) 53, .own v10 53 5 x9.length (x9.flatMap GScored.enc), .own v1 53 5 x1.length (x1.flatMap GScored.enc), .blk b_p_s [v_p_s_L, iV x4] 25] [(0, .pointer (some ⟨b_p_s, 0, none⟩)), (3, v1), (7, v10), (10, iV (i3 : Int)), (11, .pointer (some ⟨b9, 0, none⟩)), (12, iV x11), (16, (.slice (some ⟨b1, 0, none⟩) 3 3)), (17, iV (([k_ra, k_rb, k_rc] : List ByteArray).length : Int)), (18, iV (i1 : Int)), (47, v10), (48, iV (x3.length : Int)), (49, iV (i3 : Int)), (54, v10), (55, iV (x9.length : Int)), (56, iV (i4 : Int)), (57, bV (decide ((i4 : Int) < (x9.length : Int))))] [true, true, true, true] rfl (subR rfl)
        refine then_n (f_seq (wp_cond_false ((S.tm rfl).trans (congrArg Value.bool (rng_nil hd4 hi4))) (wp_exit (then_x (then_x (x_same ?_))))))
        refine then_n ?_
        exact ⟨x11, h, S.nf [true, true, true, true] rfl (subR rfl)⟩
       | cons y4 ys4 =>
        rw [Stream_RightScored_l4.eq_2] at h
        refine f_seq (f_region (lv S (rn_lss (S.tm rfl) (S.tm rfl)) rfl ?_)); clear S; intro a S
        refine l_done ?_
        replace S := S.nk [.blk b9 (GScored.enc (nth x9 (i3 : Int))) 53, .own v10 53 5 x9.length (x9.flatMap GScored.enc), .own v1 53 5 x1.length (x1.flatMap GScored.enc), .blk b_p_s [v_p_s_L, iV x4] 25] [(0, .pointer (some ⟨b_p_s, 0, none⟩)), (3, v1), (7, v10), (10, iV (i3 : Int)), (11, .pointer (some ⟨b9, 0, none⟩)), (12, iV x11), (16, (.slice (some ⟨b1, 0, none⟩) 3 3)), (17, iV (([k_ra, k_rb, k_rc] : List ByteArray).length : Int)), (18, iV (i1 : Int)), (47, v10), (48, iV (x3.length : Int)), (49, iV (i3 : Int)), (54, v10), (55, iV (x9.length : Int)), (56, iV (i4 : Int)), (57, bV (decide ((i4 : Int) < (x9.length : Int))))] [true, true, true, true] rfl (subR rfl)
        refine then_n (f_seq (wp_cond_true ((S.tm rfl).trans (congrArg Value.bool (rng_cons hd4 hi4))) (wp_skip (then_n (f_seq ?_)))))
        obtain ⟨j8, hj8, h⟩ := joinE h
        refine f_join (fun a w' => ∃ x12 : Int, j8 x12 = some r ∧ Sx w [b_p_s] φ3 [.blk b9 (GScored.enc (nth x9 (i3 : Int))) 53, .own v10 53 5 x9.length (x9.flatMap GScored.enc), .own v1 53 5 x1.length (x1.flatMap GScored.enc), .blk b_p_s [v_p_s_L, iV x4] 25] [(0, .pointer (some ⟨b_p_s, 0, none⟩)), (3, v1), (7, v10), (10, iV (i3 : Int)), (11, .pointer (some ⟨b9, 0, none⟩)), (12, iV x12), (16, (.slice (some ⟨b1, 0, none⟩) 3 3)), (17, iV (([k_ra, k_rb, k_rc] : List ByteArray).length : Int)), (18, iV (i1 : Int)), (47, v10), (48, iV (x3.length : Int)), (49, iV (i3 : Int)), (54, v10), (55, iV (x9.length : Int)), (56, iV (i4 : Int))] 114 a w') ?_ ?_
        ·refine wp_block (f_seq (f_region ?_))
         obtain ⟨b10, hg2, hr8⟩ := rn_indexS (a := a) (x := .tmp 54) (y := .tmp 56) (ty := 0) sl_29 GScored.enc_ok S (i := 1) rfl (get_mid hd4 hi4) rfl (S.tm rfl) (S.tm rfl)
         refine lv S (hr8 _) rfl ?_; clear S; intro a S
         clear hr8
         refine lv S (rn_ldA Tryz.isAgg53 Tryz.sizeOf53 (off := i4 * 5) (o := 0) (part := (GScored.enc y4)) rfl rfl (S.tm rfl) (own_cells GScored.enc_ok S (i := 1) rfl hg2 (get_mid hd4 hi4))) rfl ?_; clear S; intro a S
         refine l_alloc S Tryz.zeroValue53 (cs := [sV k_empty, sV k_empty, sV k_empty, iV 0, bV false]) rfl rfl ?_; clear S; intro a w25 b11 hz7 hk13 S
         refine l_store S (S.tm rfl) (S.tm rfl) (i := 0) (off := 0) rfl Tryz.sizeOf53 (vs := (GScored.enc y4)) rfl rfl rfl rfl ?_; clear S; intro w26 hk14 S
         refine l_done ?_
         replace S := S.nk [.blk b11 (GScored.enc y4) 53, .blk b9 (GScored.enc (nth x9 (i3 : Int))) 53, .own v10 53 5 x9.length (x9.flatMap GScored.enc), .own v1 53 5 x1.length (x1.flatMap GScored.enc), .blk b_p_s [v_p_s_L, iV x4] 25] [(0, .pointer (some ⟨b_p_s, 0, none⟩)), (3, v1), (7, v10), (10, iV (i3 : Int)), (11, .pointer (some ⟨b9, 0, none⟩)), (12, iV x11), (14, .pointer (some ⟨b11, 0, none⟩)), (16, (.slice (some ⟨b1, 0, none⟩) 3 3)), (17, iV (([k_ra, k_rb, k_rc] : List ByteArray).length : Int)), (18, iV (i1 : Int)), (47, v10), (48, iV (x3.length : Int)), (49, iV (i3 : Int)), (54, v10), (55, iV (x9.length : Int)), (56, iV (i4 : Int))] [true, true, true, true, true] rfl (subR rfl)
         refine then_n (f_seq (f_region (lv S (rn_fld fa_53_3 (S.tm rfl)) rfl ?_))); clear S; intro a S
         refine lv S (rn_load Tryz.isAgg3 (S.tm rfl) (S.cell (i := 0) rfl rfl)) rfl ?_; clear S; intro a S
         refine lv S (rn_gtr (S.tm rfl) rfl) rfl ?_; clear S; intro a S
         refine lv S (rn_move (S.tm rfl)) rfl ?_; clear S; intro a S
         refine f_cutm 8 (fun a w' => Keep [] w26 w' ∧ Sx w [b_p_s] φ3 [.blk b11 (GScored.enc y4) 53, .blk b9 (GScored.enc (nth x9 (i3 : Int))) 53, .own v10 53 5 x9.length (x9.flatMap GScored.enc), .own v1 53 5 x1.length (x1.flatMap GScored.enc), .blk b_p_s [v_p_s_L, iV x4] 25] [(0, .pointer (some ⟨b_p_s, 0, none⟩)), (3, v1), (7, v10), (10, iV (i3 : Int)), (11, .pointer (some ⟨b9, 0, none⟩)), (12, iV x11), (16, (.slice (some ⟨b1, 0, none⟩) 3 3)), (17, iV (([k_ra, k_rb, k_rc] : List ByteArray).length : Int)), (18, iV (i1 : Int)), (47, v10), (48, iV (x3.length : Int)), (49, iV (i3 : Int)), (54, v10), (55, iV (x9.length : Int)), (56, iV (i4 : Int)), (71, bV ((decide (0 < y4.Rank)) && (decide ((Int.tmod y4.Rank 10) < (Int.tmod ((nth x9 (i3 : Int)).Rank) 10)))))] 114 a w') ?_ ?_
         ·rcases Bool.eq_false_or_eq_true (decide (0 < y4.Rank)) with hb2 | hb2
          ·refine l_want S rfl rfl rfl hb2 (lv S (rn_fld fa_53_3 (S.tm rfl)) rfl ?_); clear S; intro a S
           refine l_want S rfl rfl rfl hb2 (lv S (rn_load Tryz.isAgg3 (S.tm rfl) (S.cell (i := 0) rfl rfl)) rfl ?_); clear S; intro a S
           refine l_want S rfl rfl rfl hb2 (lv S (rn_rem (S.tm rfl) rfl (by decide)) rfl ?_); clear S; intro a S
           refine l_want S rfl rfl rfl hb2 (lv S (rn_fld fa_53_3 (S.tm rfl)) rfl ?_); clear S; intro a S
           refine l_want S rfl rfl rfl hb2 (lv S (rn_load Tryz.isAgg3 (S.tm rfl) (S.cell (i := 1) rfl rfl)) rfl ?_); clear S; intro a S
           refine l_want S rfl rfl rfl hb2 (lv S (rn_rem (S.tm rfl) rfl (by decide)) rfl ?_); clear S; intro a S
           refine l_want S rfl rfl rfl hb2 (lv S (rn_lss (S.tm rfl) (S.tm rfl)) rfl ?_); clear S; intro a S
           refine lv S (rn_and_t hb2 (S.tm rfl) (S.tm rfl)) rfl ?_; clear S; intro a S
           refine l_done (then_n ?_)
           exact ⟨Keep.refl _ _, S.nf [true, true, true, true, true] rfl (subR rfl)⟩
          ·iterate 7 (refine l_skip S rfl rfl rfl (neq_f hb2) rfl ?_ rfl; clear S; intro a S)
           refine lv S (rn_and_f (decide ((Int.tmod y4.Rank 10) < (Int.tmod ((nth x9 (i3 : Int)).Rank) 10))) hb2 (S.tm rfl) rfl) rfl ?_; clear S; intro a S
           refine l_done (then_n ?_)
           exact ⟨Keep.refl _ _, S.nf [true, true, true, true, true] rfl (subR rfl)⟩
         clear S; rintro a w27 ⟨hk15, S⟩
         refine lv S (rn_move (S.tm rfl)) rfl ?_; clear S; intro a S
         refine f_cutm 4 (fun a w' => Keep [] w27 w' ∧ Sx w [b_p_s] φ3 [.blk b11 (GScored.enc y4) 53, .blk b9 (GScored.enc (nth x9 (i3 : Int))) 53, .own v10 53 5 x9.length (x9.flatMap GScored.enc), .own v1 53 5 x1.length (x1.flatMap GScored.enc), .blk b_p_s [v_p_s_L, iV x4] 25] [(0, .pointer (some ⟨b_p_s, 0, none⟩)), (3, v1), (7, v10), (10, iV (i3 : Int)), (11, .pointer (some ⟨b9, 0, none⟩)), (12, iV x11), (16, (.slice (some ⟨b1, 0, none⟩) 3 3)), (17, iV (([k_ra, k_rb, k_rc] : List ByteArray).length : Int)), (18, iV (i1 : Int)), (47, v10), (48, iV (x3.length : Int)), (49, iV (i3 : Int)), (54, v10), (55, iV (x9.length : Int)), (56, iV (i4 : Int)), (76, bV (((decide (0 < y4.Rank)) && (decide ((Int.tmod y4.Rank 10) < (Int.tmod ((nth x9 (i3 : Int)).Rank) 10)))) && (decide (0 < ((nth x9 (i3 : Int)).Rank)))))] 114 a w') ?_ ?_
         ·rcases Bool.eq_false_or_eq_true ((decide (0 < y4.Rank)) && (decide ((Int.tmod y4.Rank 10) < (Int.tmod ((nth x9 (i3 : Int)).Rank) 10)))) with hb3 | hb3
          ·refine l_want S rfl rfl rfl hb3 (lv S (rn_fld fa_53_3 (S.tm rfl)) rfl ?_); clear S; intro a S
           refine l_want S rfl rfl rfl hb3 (lv S (rn_load Tryz.isAgg3 (S.tm rfl) (S.cell (i := 1) rfl rfl)) rfl ?_); clear S; intro a S
           refine l_want S rfl rfl rfl hb3 (lv S (rn_gtr (S.tm rfl) rfl) rfl ?_); clear S; intro a S
           refine lv S (rn_and_t hb3 (S.tm rfl) (S.tm rfl)) rfl ?_; clear S; intro a S
           refine l_done (then_n ?_)
           exact ⟨Keep.refl _ _, S.nf [true, true, true, true, true] rfl (subR rfl)⟩
          ·iterate 3 (refine l_skip S rfl rfl rfl (neq_f hb3) rfl ?_ rfl; clear S; intro a S)
           refine lv S (rn_and_f (decide (0 < ((nth x9 (i3 : Int)).Rank))) hb3 (S.tm rfl) rfl) rfl ?_; clear S; intro a S
           refine l_done (then_n ?_)
           exact ⟨Keep.refl _ _, S.nf [true, true, true, true, true] rfl (subR rfl)⟩
         clear S; rintro a w28 ⟨hk16, S⟩
         refine l_done ?_
         replace S := S.nk [.blk b9 (GScored.enc (nth x9 (i3 : Int))) 53, .own v10 53 5 x9.length (x9.flatMap GScored.enc), .own v1 53 5 x1.length (x1.flatMap GScored.enc), .blk b_p_s [v_p_s_L, iV x4] 25] [(0, .pointer (some ⟨b_p_s, 0, none⟩)), (3, v1), (7, v10), (10, iV (i3 : Int)), (11, .pointer (some ⟨b9, 0, none⟩)), (12, iV x11), (16, (.slice (some ⟨b1, 0, none⟩) 3 3)), (17, iV (([k_ra, k_rb, k_rc] : List ByteArray).length : Int)), (18, iV (i1 : Int)), (47, v10), (48, iV (x3.length : Int)), (49, iV (i3 : Int)), (54, v10), (55, iV (x9.length : Int)), (56, iV (i4 : Int)), (76, bV (((decide (0 < y4.Rank)) && (decide ((Int.tmod y4.Rank 10) < (Int.tmod ((nth x9 (i3 : Int)).Rank) 10)))) && (decide (0 < ((nth x9 (i3 : Int)).Rank)))))] [false, true, true, true, true] rfl (subR rfl)
         refine then_n ?_
         obtain ⟨j9, hj9, h⟩ := joinE h
         refine f_join (fun a w' => ∃ x13 : Int, j9 x13 = some r ∧ Sx w [b_p_s] φ3 [.blk b9 (GScored.enc (nth x9 (i3 : Int))) 53, .own v10 53 5 x9.length (x9.flatMap GScored.enc), .own v1 53 5 x1.length (x1.flatMap GScored.enc), .blk b_p_s [v_p_s_L, iV x4] 25] [(0, .pointer (some ⟨b_p_s, 0, none⟩)), (3, v1), (7, v10), (10, iV (i3 : Int)), (11, .pointer (some ⟨b9, 0, none⟩)), (12, iV x13), (16, (.slice (some ⟨b1, 0, none⟩) 3 3)), (17, iV (([k_ra, k_rb, k_rc] : List ByteArray).length : Int)), (18, iV (i1 : Int)), (47, v10), (48, iV (x3.length : Int)), (49, iV (i3 : Int)), (54, v10), (55, iV (x9.length : Int)), (56, iV (i4 : Int))] 114 a w') ?_ ?_
         ·refine f_cond (S.tm rfl) (fun hb4 => ?_) (fun hb4 => ?_)
          ·replace h := iteT h hb4
           refine f_region (lv S (rn_move (S.tm rfl)) rfl ?_); clear S; intro a S
           refine lv S (rn_add (S.tm rfl) rfl) rfl ?_; clear S; intro a S
           refine lv S (rn_assign (S.tm rfl)) rfl ?_; clear S; intro a S
           refine l_done ?_
           replace S := S.nk [.blk b9 (GScored.enc (nth x9 (i3 : Int))) 53, .own v10 53 5 x9.length (x9.flatMap GScored.enc), .own v1 53 5 x1.length (x1.flatMap GScored.enc), .blk b_p_s [v_p_s_L, iV x4] 25] [(0, .pointer (some ⟨b_p_s, 0, none⟩)), (3, v1), (7, v10), (10, iV (i3 : Int)), (11, .pointer (some ⟨b9, 0, none⟩)), (12, iV (W (x11 + 1))), (16, (.slice (some ⟨b1, 0, none⟩) 3 3)), (17, iV (([k_ra, k_rb, k_rc] : List ByteArray).length : Int)), (18, iV (i1 : Int)), (47, v10), (48, iV (x3.length : Int)), (49, iV (i3 : Int)), (54, v10), (55, iV (x9.length : Int)), (56, iV (i4 : Int))] [true, true, true, true] rfl (subR rfl)
           refine then_n ?_
           exact ⟨W (x11 + 1), h, S.nf [true, true, true, true] rfl (subR rfl)⟩
          ·replace h := iteF h hb4
           refine wp_skip (then_n ?_)
           exact ⟨x11, h, S.nf [true, true, true, true] rfl (subR rfl)⟩
         clear S h; rintro a w29 ⟨x13, h, S⟩; rw [hj9] at h; clear hj9 j9
         refine blk_n (then_n ?_)
         exact ⟨x13, h, S.nf [true, true, true, true] rfl (subR rfl)⟩
        clear S h; rintro a w24 ⟨x12, h, S⟩; rw [hj8] at h; clear hj8 j8
        refine then_n (f_region (lv S (rn_add (S.tm rfl) rfl) rfl ?_)); clear S; intro a S
        refine lv S (rn_move (S.tm rfl)) rfl ?_; clear S; intro a S
        refine l_done ?_
        replace S := S.nk [.blk b9 (GScored.enc (nth x9 (i3 : Int))) 53, .own v10 53 5 x9.length (x9.flatMap GScored.enc), .own v1 53 5 x1.length (x1.flatMap GScored.enc), .blk b_p_s [v_p_s_L, iV x4] 25] [(0, .pointer (some ⟨b_p_s, 0, none⟩)), (3, v1), (7, v10), (10, iV (i3 : Int)), (11, .pointer (some ⟨b9, 0, none⟩)), (12, iV x12), (16, (.slice (some ⟨b1, 0, none⟩) 3 3)), (17, iV (([k_ra, k_rb, k_rc] : List ByteArray).length : Int)), (18, iV (i1 : Int)), (47, v10), (48, iV (x3.length : Int)), (49, iV (i3 : Int)), (54, v10), (55, iV (x9.length : Int)), (56, iV (W ((i4 : Int) + 1)))] [true, true, true, true] rfl (subR rfl)
        refine then_n ?_
        exact ⟨ys4, ⟨i4 + 1, x12, ⟨_, (hd4).trans (List.append_cons _ _ _), by simp [hi4]⟩, h, S.nf [true, true, true, true] rfl ⟨rfl, rfl, rfl, rfl, rfl, rfl, rfl, rfl, rfl, rfl, rfl, rfl, rfl, rfl, (congrArg (fun z => some (Value.int .i64 z)) (rng_next hd4 hi4 hm5)), trivial⟩⟩, Nat.lt_succ_self _⟩
      clear S h; rintro a w23 ⟨x11, h, S⟩; rw [hj7] at h; clear hj7 j7
      refine then_n (f_seq (f_region (lv S (rn_fld fa_53_3 (S.tm rfl)) rfl ?_))); clear S; intro a S
      refine lv S (rn_load Tryz.isAgg3 (S.tm rfl) (S.cell (i := 0) rfl rfl)) rfl ?_; clear S; intro a S
      refine lv S (rn_gtr (S.tm rfl) rfl) rfl ?_; clear S; intro a S
      refine l_done ?_
      replace S := S.nk [.blk b9 (GScored.enc (nth x9 (i3 : Int))) 53, .own v10 53 5 x9.length (x9.flatMap GScored.enc), .own v1 53 5 x1.length (x1.flatMap GScored.enc), .blk b_p_s [v_p_s_L, iV x4] 25] [(0, .pointer (some ⟨b_p_s, 0, none⟩)), (3, v1), (7, v10), (10, iV (i3 : Int)), (11, .pointer (some ⟨b9, 0, none⟩)), (12, iV x11), (16, (.slice (some ⟨b1, 0, none⟩) 3 3)), (17, iV (([k_ra, k_rb, k_rc] : List ByteArray).length : Int)), (18, iV (i1 : Int)), (47, v10), (48, iV (x3.length : Int)), (49, iV (i3 : Int)), (82, bV (decide (0 < ((nth x9 (i3 : Int)).Rank))))] [true, true, true, true] rfl (subR rfl)
      refine then_n ?_
      obtain ⟨j10, hj10, h⟩ := joinE h
      refine f_join (fun a w' => ∃ x14 : List GScored, j10 x14 = some r ∧ Sx w [b_p_s] φ3 [.own v10 53 5 x14.length (x14.flatMap GScored.enc), .own v1 53 5 x1.length (x1.flatMap GScored.enc), .blk b_p_s [v_p_s_L, iV x4] 25] [(0, .pointer (some ⟨b_p_s, 0, none⟩)), (3, v1), (7, v10), (16, (.slice (some ⟨b1, 0, none⟩) 3 3)), (17, iV (([k_ra, k_rb, k_rc] : List ByteArray).length : Int)), (18, iV (i1 : Int)), (47, v10), (48, iV (x3.length : Int)), (49, iV (i3 : Int))] 114 a w') ?_ ?_
      ·refine f_cond (S.tm rfl) (fun hb5 => ?_) (fun hb5 => ?_)
       ·replace h := iteT h hb5
        refine f_region (lv S (rn_move (S.tm rfl)) rfl ?_); clear S; intro a S
        refine lv S (rn_move (S.tm rfl)) rfl ?_; clear S; intro a S
        refine lv S (rn_fld fa_53_3 (S.tm rfl)) rfl ?_; clear S; intro a S
        refine lv S (rn_load Tryz.isAgg3 (S.tm rfl) (S.cell (i := 0) rfl rfl)) rfl ?_; clear S; intro a S
        refine lv S (rn_move (S.tm rfl)) rfl ?_; clear S; intro a S
        refine lv S (rn_mul rfl (S.tm rfl)) rfl ?_; clear S; intro a S
        refine lv S (rn_add (S.tm rfl) (S.tm rfl)) rfl ?_; clear S; intro a S
        obtain ⟨hc3, h⟩ := chkE h
        obtain ⟨b12, hg3, hr9⟩ := rn_indexS (a := a) (x := .tmp 83) (y := .tmp 84) (ty := 0) sl_29 GScored.enc_ok S (i := 1) rfl (inB_get hc3).1 (inB_get hc3).2 (S.tm rfl) (S.tm rfl)
        refine lv S (hr9 _) rfl ?_; clear S; intro a S
        clear hr9
        refine lv S (rn_fld fa_53_3 (S.tm rfl)) rfl ?_; clear S; intro a S
        refine l_storeO (c := 3) (j := (i3 : Int).toNat) (GScored.mk ((nth x9 (i3 : Int)).Race) ((nth x9 (i3 : Int)).Who) ((nth x9 (i3 : Int)).Club) (W (((nth x9 (i3 : Int)).Rank) + (W (10 * x11)))) ((nth x9 (i3 : Int)).Relay)) GScored.enc_ok S (S.tm rfl) (S.tm rfl) (i := 1) rfl hg3 (inB_get hc3).1 Tryz.sizeOf3 (vs := [iV (W (((nth x9 (i3 : Int)).Rank) + (W (10 * x11))))]) rfl rfl rfl rfl rfl ?_; clear S; intro w32 hk18 S
        refine l_done ?_
        replace S := S.nk [.own v10 53 5 (x9.set ((i3 : Int).toNat) (GScored.mk ((nth x9 (i3 : Int)).Race) ((nth x9 (i3 : Int)).Who) ((nth x9 (i3 : Int)).Club) (W (((nth x9 (i3 : Int)).Rank) + (W (10 * x11)))) ((nth x9 (i3 : Int)).Relay))).length ((x9.set ((i3 : Int).toNat) (GScored.mk ((nth x9 (i3 : Int)).Race) ((nth x9 (i3 : Int)).Who) ((nth x9 (i3 : Int)).Club) (W (((nth x9 (i3 : Int)).Rank) + (W (10 * x11)))) ((nth x9 (i3 : Int)).Relay))).flatMap GScored.enc), .own v1 53 5 x1.length (x1.flatMap GScored.enc), .blk b_p_s [v_p_s_L, iV x4] 25] [(0, .pointer (some ⟨b_p_s, 0, none⟩)), (3, v1), (7, v10), (16, (.slice (some ⟨b1, 0, none⟩) 3 3)), (17, iV (([k_ra, k_rb, k_rc] : List ByteArray).length : Int)), (18, iV (i1 : Int)), (47, v10), (48, iV (x3.length : Int)), (49, iV (i3 : Int))] [false, true, true, true] rfl (subR rfl)
        refine then_n ?_
        exact ⟨(x9.set ((i3 : Int).toNat) (GScored.mk ((nth x9 (i3 : Int)).Race) ((nth x9 (i3 : Int)).Who) ((nth x9 (i3 : Int)).Club) (W (((nth x9 (i3 : Int)).Rank) + (W (10 * x11)))) ((nth x9 (i3 : Int)).Relay))), h, S.nf [true, true, true] rfl (subR rfl)⟩
       ·replace h := iteF h hb5
        refine wp_skip (then_n ?_)
        exact ⟨x9, h, S.nf [false, true, true, true] rfl (subR rfl)⟩
      clear S h; rintro a w30 ⟨x14, h, S⟩; rw [hj10] at h; clear hj10 j10
      refine blk_n (then_n ?_)
      exact ⟨x14, h, S.nf [true, true, true] rfl (subR rfl)⟩
     clear S h; rintro a w19 ⟨x10, h, S⟩; rw [hj6] at h; clear hj6 j6
     refine then_n (f_region (lv S (rn_add (S.tm rfl) rfl) rfl ?_)); clear S; intro a S
     refine lv S (rn_move (S.tm rfl)) rfl ?_; clear S; intro a S
     refine l_done (then_n ?_)
     exact ⟨ys3, ⟨i3 + 1, x10, v10, ⟨_, (hd3).trans (List.append_cons _ _ _), by simp [hi3]⟩, h, S.nf [true, true, true] rfl ⟨rfl, rfl, rfl, rfl, rfl, rfl, rfl, rfl, (congrArg (fun z => some (Value.int .i64 z)) (rng_next hd3 hi3 hm3)), trivial⟩⟩, Nat.lt_succ_self _⟩
   clear S h; rintro a w18 ⟨x9, v10, h, S⟩; rw [hj5] at h; clear hj5 j5
   refine then_n (f_seq (f_seq (f_region (lv S (rn_move (S.tm rfl)) rfl ?_)))); clear S; intro a S
   refine lv S (rn_lenT sl_29 (S.tm rfl) (own_len (S.own_at (i := 0) rfl))) rfl ?_; clear S; intro a S
   refine lv S (rn_move rfl) rfl ?_; clear S; intro a S
   refine l_done (then_n ?_)
   replace S := S.nk [.own v10 53 5 x9.length (x9.flatMap GScored.enc), .own v1 53 5 x1.length (x1.flatMap GScored.enc), .blk b_p_s [v_p_s_L, iV x4] 25] [(0, .pointer (some ⟨b_p_s, 0, none⟩)), (3, v1), (7, v10), (16, (.slice (some ⟨b1, 0, none⟩) 3 3)), (17, iV (([k_ra, k_rb, k_rc] : List ByteArray).length : Int)), (18, iV (i1 : Int)), (94, iV (x9.length : Int)), (95, iV 0)] [true, true, true] rfl (subR rfl)
   have hm8 := own_max (S.own_at (i := 0) rfl)
   obtain ⟨j11, hj11, h⟩ := joinE h
   refine f_join (fun a w' => ∃ x15 : List GScored, ∃ v11 : Value, j11 x15 = some r ∧ Sx w [b_p_s] φ3 [.own v11 53 5 x15.length (x15.flatMap GScored.enc), .own v1 53 5 x1.length (x1.flatMap GScored.enc), .blk b_p_s [v_p_s_L, iV x4] 25] [(0, .pointer (some ⟨b_p_s, 0, none⟩)), (3, v1), (7, v11), (16, (.slice (some ⟨b1, 0, none⟩) 3 3)), (17, iV (([k_ra, k_rb, k_rc] : List ByteArray).length : Int)), (18, iV (i1 : Int))] 114 a w') ?_ ?_
   ·refine wp_block (f_loop (fun (ys5 : List GScored) a w' => ∃ i5 : Nat, ∃ x15 : List GScored, ∃ v11 : Value, (∃ dn, x9 = dn ++ ys5 ∧ dn.length = i5) ∧ Stream_RightScored_l5 j11 ys5 i5 x15 = some r ∧ Sx w [b_p_s] φ3 [.own v11 53 5 x15.length (x15.flatMap GScored.enc), .own v1 53 5 x1.length (x1.flatMap GScored.enc), .blk b_p_s [v_p_s_L, iV x4] 25] [(0, .pointer (some ⟨b_p_s, 0, none⟩)), (3, v1), (7, v11), (16, (.slice (some ⟨b1, 0, none⟩) 3 3)), (17, iV (([k_ra, k_rb, k_rc] : List ByteArray).length : Int)), (18, iV (i1 : Int)), (94, iV (x9.length : Int)), (95, iV (i5 : Int))] 114 a w') List.length x9 ⟨0, x9, v10, ⟨[], rfl, rfl⟩, h, S.nf [true, true, true] rfl (subR rfl)⟩ ?_)
    clear S h; rintro ys5 a w33 ⟨i5, x15, v11, ⟨dn, hd5, hi5⟩, h, S⟩
    cases ys5 with
    | nil =>
     rw [Stream_RightScored_l5.eq_1] at h
     refine f_seq (f_region (lv S (rn_lss (S.tm rfl) (S.tm rfl)) rfl ?_)); clear S; intro a S
     refine l_done ?_
     replace S := S.nk [.own v11 53 5 x15.length (x15.flatMap GScored.enc), .own v1 53 5 x1.length (x1.flatMap GScored.enc), .blk b_p_s [v_p_s_L, iV x4] 25] [(0, .pointer (some ⟨b_p_s, 0, none⟩)), (3, v1), (7, v11), (16, (.slice (some ⟨b1, 0, none⟩) 3 3)), (17, iV (([k_ra, k_rb, k_rc] : List ByteArray).length : Int)), (18, iV (i1 : Int)), (94, iV (x9.length : Int)), (95, iV (i5 : Int)), (96, bV (decide ((i5 : Int) < (x9.length : Int))))] [true, true, true] rfl (subR rfl)
     refine then_n (f_seq (wp_cond_false ((S.tm rfl).trans (congrArg Value.bool (rng_nil hd5 hi5))) (wp_exit (then_x (then_x (x_same ?_))))))
     refine then_n ?_
     exact ⟨x15, v11, h, S.nf [true, true, true] rfl (subR rfl)⟩
    | cons y5 ys5 =>
     rw [Stream_RightScored_l5.eq_2] at h
     refine f_seq (f_region (lv S (rn_lss (S.tm rfl) (S.tm rfl)) rfl ?_)); clear S; intro a S
     refine l_done ?_
     replace S := S.nk [.own v11 53 5 x15.length (x15.flatMap GScored.enc), .own v1 53 5 x1.length (x1.flatMap GScored.enc), .blk b_p_s [v_p_s_L, iV x4] 25] [(0, .pointer (some ⟨b_p_s, 0, none⟩)), (3, v1), (7, v11), (16, (.slice (some ⟨b1, 0, none⟩) 3 3)), (17, iV (([k_ra, k_rb, k_rc] : List ByteArray).length : Int)), (18, iV (i1 : Int)), (94, iV (x9.length : Int)), (95, iV (i5 : Int)), (96, bV (decide ((i5 : Int) < (x9.length : Int))))] [true, true, true] rfl (subR rfl)
     refine then_n (f_seq (wp_cond_true ((S.tm rfl).trans (congrArg Value.bool (rng_cons hd5 hi5))) (wp_skip (then_n (f_seq (wp_block ?_))))))
     refine f_seq (f_region (lv S (rn_move (S.tm rfl)) rfl ?_)); clear S; intro a S
     refine lv S (rn_assign (S.tm rfl)) rfl ?_; clear S; intro a S
     refine l_done (then_n (f_region (lv S (rn_move (S.tm rfl)) rfl ?_))); clear S; intro a S
     refine lv S (rn_move (S.tm rfl)) rfl ?_; clear S; intro a S
     obtain ⟨hc4, h⟩ := chkE h
     obtain ⟨b13, hg4, hr10⟩ := rn_indexS (a := a) (x := .tmp 98) (y := .tmp 99) (ty := 0) sl_29 GScored.enc_ok S (i := 0) rfl (inB_get hc4).1 (inB_get hc4).2 (S.tm rfl) (S.tm rfl)
     refine lv S (hr10 _) rfl ?_; clear S; intro a S
     clear hr10
     refine lv S (rn_fld fa_53_3 (S.tm rfl)) rfl ?_; clear S; intro a S
     refine lv S (rn_ld Tryz.isAgg3 (off := ((i5 : Int).toNat) * 5) (o := 3) (S.tm rfl) (own_cells GScored.enc_ok S (i := 0) rfl hg4 (inB_get hc4).1) rfl) rfl ?_; clear S; intro a S
     refine lv S (rn_quo (S.tm rfl) rfl (by decide)) rfl ?_; clear S; intro a S
     obtain ⟨hc5, h⟩ := chkE h
     obtain ⟨b14, hg5, hr11⟩ := rn_indexS (a := a) (x := .tmp 98) (y := .tmp 99) (ty := 0) sl_29 GScored.enc_ok S (i := 0) rfl (inB_get hc5).1 (inB_get hc5).2 (S.tm rfl) (S.tm rfl)
     refine lv S (hr11 _) rfl ?_; clear S; intro a S
     clear hr11
     refine lv S (rn_fld fa_53_3 (S.tm rfl)) rfl ?_; clear S; intro a S
     refine l_storeO (c := 3) (j := (i5 : Int).toNat) (GScored.mk ((nth x15 (i5 : Int)).Race) ((nth x15 (i5 : Int)).Who) ((nth x15 (i5 : Int)).Club) (W (Int.tdiv ((nth x15 (i5 : Int)).Rank) 10)) ((nth x15 (i5 : Int)).Relay)) GScored.enc_ok S (S.tm rfl) (S.tm rfl) (i := 0) rfl hg5 (inB_get hc5).1 Tryz.sizeOf3 (vs := [iV (W (Int.tdiv ((nth x15 (i5 : Int)).Rank) 10))]) rfl rfl rfl rfl rfl ?_; clear S; intro w36 hk20 S
     refine l_done ?_
     replace S := S.nk [.own v11 53 5 (x15.set ((i5 : Int).toNat) (GScored.mk ((nth x15 (i5 : Int)).Race) ((nth x15 (i5 : Int)).Who) ((nth x15 (i5 : Int)).Club) (W (Int.tdiv ((nth x15 (i5 : Int)).Rank) 10)) ((nth x15 (i5 : Int)).Relay))).length ((x15.set ((i5 : Int).toNat) (GScored.mk ((nth x15 (i5 : Int)).Race) ((nth x15 (i5 : Int)).Who) ((nth x15 (i5 : Int)).Club) (W (Int.tdiv ((nth x15 (i5 : Int)).Rank) 10)) ((nth x15 (i5 : Int)).Relay))).flatMap GScored.enc), .own v1 53 5 x1.length (x1.flatMap GScored.enc), .blk b_p_s [v_p_s_L, iV x4] 25] [(0, .pointer (some ⟨b_p_s, 0, none⟩)), (3, v1), (7, v11), (16, (.slice (some ⟨b1, 0, none⟩) 3 3)), (17, iV (([k_ra, k_rb, k_rc] : List ByteArray).length : Int)), (18, iV (i1 : Int)), (94, iV (x9.length : Int)), (95, iV (i5 : Int))] [true, true, true] rfl (subR rfl)
     refine blk_n (then_n (f_region (lv S (rn_add (S.tm rfl) rfl) rfl ?_))); clear S; intro a S
     refine lv S (rn_move (S.tm rfl)) rfl ?_; clear S; intro a S
     refine l_done (then_n ?_)
     exact ⟨ys5, ⟨i5 + 1, (x15.set ((i5 : Int).toNat) (GScored.mk ((nth x15 (i5 : Int)).Race) ((nth x15 (i5 : Int)).Who) ((nth x15 (i5 : Int)).Club) (W (Int.tdiv ((nth x15 (i5 : Int)).Rank) 10)) ((nth x15 (i5 : Int)).Relay))), v11, ⟨_, (hd5).trans (List.append_cons _ _ _), by simp [hi5]⟩, h, S.nf [true, true, true] rfl ⟨rfl, rfl, rfl, rfl, rfl, rfl, rfl, (congrArg (fun z => some (Value.int .i64 z)) (rng_next hd5 hi5 hm8)), trivial⟩⟩, Nat.lt_succ_self _⟩
   clear S h; rintro a w34 ⟨x15, v11, h, S⟩; rw [hj11] at h; clear hj11 j11
   refine then_n (f_seq (f_region (lv S (rn_move (S.tm rfl)) rfl ?_))); clear S; intro a S
   obtain ⟨r5, hr12, h⟩ := bindE h
   refine l_enterO 0 S rfl (fun _ => .own v11 53 5 r5.length (r5.flatMap GScored.enc)) (fun _ => run_call (vs := [v11, .func (.func 17) #[] #[]]) ⟨(S.tm rfl), rfl, trivial⟩ Tryz.call16) (slices_SortFunc_Scored_tumbref2_ScoredOrder_ok _ v11 x15 (S.holds _ (List.mem_of_getElem? (i := 0) rfl)) _ hr12) rfl (fun _ _ _ h => ⟨h.1, fun _ hc => hc⟩) ?_; clear S; intro v12 a w37 hv5 hk21 hn5 S
   replace hv5 := hv5.2
   subst hv5
   refine l_done (then_n (f_region (lv S (rn_move (S.tm rfl)) rfl ?_))); clear S; intro a S
   refine lv S (rn_move (S.tm rfl)) rfl ?_; clear S; intro a S
   obtain ⟨hc6, h⟩ := chkE h
   refine l_appendS (Y := []) sl_29 GScored.enc_ok S (S.tm rfl) (i := 1) rfl (S.tm rfl) (own_slcT GScored.enc_ok S (i := 0) rfl (fun _ _ h => by cases h)) rfl rfl (by have := room_lt hc6; omega) rfl ?_; clear S; intro v13 a w38 hk22 S
   refine lv S (rn_assign (S.tm rfl)) rfl ?_; clear S; intro a S
   refine l_done (blk_n (then_n (f_region (lv S (rn_add (S.tm rfl) rfl) rfl ?_)))); clear S; intro a S
   refine lv S (rn_move (S.tm rfl)) rfl ?_; clear S; intro a S
   refine l_done (then_n ?_)
   exact ⟨ys1, ⟨i1 + 1, (x1 ++ r5), x4, φ3, v13, ⟨_, (hd1).trans (List.append_cons _ _ _), by simp [hi1]⟩, h, (View.le_trans hl2 hl3), S.nf [false, true, true] rfl ⟨rfl, rfl, rfl, rfl, (congrArg (fun z => some (Value.int .i64 z)) (rng_next hd1 hi1 (slc_max (ownV_slcT enc_str hs1)))), trivial⟩⟩, Nat.lt_succ_self _⟩
 clear S h; rintro a w3 ⟨x1, x2, φ2, v1, h, hl2, S⟩; rw [hj1] at h; clear hj1 j1
 refine then_n (f_seq (f_region (lv S (rn_move (S.tm rfl)) rfl ?_))); clear S; intro a S
 refine lv S (rn_assign (S.tm rfl)) rfl ?_; clear S; intro a S
 refine l_done (then_n (wp_ret ?_))
 obtain rfl := Option.some.inj h
 exact f_ret S Tryz.results5 rfl ⟨(S.holds _ (List.mem_of_getElem? (i := 1) rfl)), (own_retX S (i := 0) rfl (fun c hc hh => not_fps S (i := 1) rfl rfl (j := 0) rfl rfl (by simp at hc; subst hc; exact hh)))⟩
theorem words_Within_ok (w : World) (p_n : Int) (p_low : Int) (p_high : Int) (r : Bool) (h : words_Within p_n p_low p_high = r) :
    Calls Tryz.prog 21 [iV p_n, iV p_low, iV p_high].toArray w (Ret w [] fun _ v _ => v = bV r) := by
 refine f_enter [] [] Tryz.func21 rfl Tryz.ntmps21 rfl (by simp) (by simp [fps]) (by simp [fps]) fun a S => ?_
 unfold words_Within at h
 replace S := S.nk [] [(0, iV p_n), (1, iV p_low), (2, iV p_high)] [] rfl (subR rfl)
 refine f_seq (f_region (lv S (rn_assign rfl) rfl ?_)); clear S; intro a S
 refine l_done (then_n (f_seq (f_region (lv S (rn_move (S.tm rfl)) rfl ?_)))); clear S; intro a S
 refine lv S (rn_move (S.tm rfl)) rfl ?_; clear S; intro a S
 refine lv S (rn_geq (S.tm rfl) (S.tm rfl)) rfl ?_; clear S; intro a S
 refine lv S (rn_move (S.tm rfl)) rfl ?_; clear S; intro a S
 refine f_cutm 4 (fun a w' => Keep [] w w' ∧ Sx w [] nov [] [(14, bV ((decide (p_low ≤ p_n)) && (decide (p_n ≤ p_high))))] 15 a w') ?_ ?_
 ·rcases Bool.eq_false_or_eq_true (decide (p_low ≤ p_n)) with hb1 | hb1
  ·refine l_want S rfl rfl rfl hb1 (lv S (rn_move (S.tm rfl)) rfl ?_); clear S; intro a S
   refine l_want S rfl rfl rfl hb1 (lv S (rn_move (S.tm rfl)) rfl ?_); clear S; intro a S
   refine l_want S rfl rfl rfl hb1 (lv S (rn_leq (S.tm rfl) (S.tm rfl)) rfl ?_); clear S; intro a S
   refine lv S (rn_and_t hb1 (S.tm rfl) (S.tm rfl)) rfl ?_; clear S; intro a S
   refine l_done (then_n ?_)
   exact ⟨Keep.refl _ _, S.nf [] rfl ⟨rfl, trivial⟩⟩
  ·iterate 3 (refine l_skip S rfl rfl rfl (neq_f hb1) rfl ?_ rfl; clear S; intro a S)
   refine lv S (rn_and_f (decide (p_n ≤ p_high)) hb1 (S.tm rfl) rfl) rfl ?_; clear S; intro a S
   refine l_done (then_n ?_)
   exact ⟨Keep.refl _ _, S.nf [] rfl ⟨rfl, trivial⟩⟩
 clear S; rintro a w1 ⟨hk1, S⟩
 refine lv S (rn_assign (S.tm rfl)) rfl ?_; clear S; intro a S
 refine l_done (then_n (wp_ret ?_))
 subst h
 exact f_ret S Tryz.results21 rfl rfl
theorem points_CheckTable_ok (w : World) (p_t : GTable) (q_p_t : R27) (hq_p_t : rel_27 (view w []) p_t q_p_t) (r : Int) (h : points_CheckTable p_t = some r) :
    Calls Tryz.prog 39 [.agg (R27.enc q_p_t).toArray].toArray w (Ret w [] fun _ v _ => v = iV r) := by
 obtain ⟨u1, rfl, hs1⟩ := hq_p_t
 refine f_enter [] [] Tryz.func39 rfl Tryz.ntmps39 rfl (by simp) (by simp [fps]) (by simp [fps]) fun a S => ?_
 unfold points_CheckTable at h
 replace S := S.nk [] [(0, .agg #[u1.val, iV p_t.Relay, iV p_t.Most])] [] rfl ⟨rfl, trivial⟩
 refine f_seq (f_region (l_box S (S.tm rfl) (cs := [u1.val, iV p_t.Relay, iV p_t.Most]) rfl rfl ?_)); clear S; intro a w1 b1 hz1 hk1 S
 refine lv S (rn_assign rfl) rfl ?_; clear S; intro a S
 refine l_done (then_n (f_seq (f_seq (f_region (lv S (rn_fld fa_27_0 (S.tm rfl)) rfl ?_))))); clear S; intro a S
 refine lv S (rn_load Tryz.isAgg22 (S.tm rfl) (S.cell (i := 0) rfl rfl)) rfl ?_; clear S; intro a S
 refine lv S (rn_lenT sl_22 (S.tm rfl) (slc_len hs1)) rfl ?_; clear S; intro a S
 refine lv S (rn_gtr (S.tm rfl) rfl) rfl ?_; clear S; intro a S
 refine l_done (then_n (f_cond (S.tm rfl) (fun hb1 => ?_) (fun hb1 => ?_)))
 ·replace h := iteT h hb1
  refine f_seq (f_region (lv S (rn_assign rfl) rfl ?_)); clear S; intro a S
  refine l_done (then_n (wp_ret (then_r ?_)))
  obtain rfl := Option.some.inj h
  exact f_ret S Tryz.results39 rfl rfl
 ·replace h := iteF h hb1
  refine wp_skip (then_n (f_seq (f_seq (f_region (lv S (rn_fld fa_27_0 (S.tm rfl)) rfl ?_))))); clear S; intro a S
  refine lv S (rn_load Tryz.isAgg22 (S.tm rfl) (S.cell (i := 0) rfl rfl)) rfl ?_; clear S; intro a S
  refine lv S (rn_lenT sl_22 (S.tm rfl) (slc_len hs1)) rfl ?_; clear S; intro a S
  refine lv S (rn_move rfl) rfl ?_; clear S; intro a S
  refine l_done (then_n ?_)
  replace S := S.nk [.blk b1 [u1.val, iV p_t.Relay, iV p_t.Most] 27] [(1, .pointer (some ⟨b1, 0, none⟩)), (10, u1.val), (11, iV (p_t.Points.length : Int)), (12, iV 0)] [true] rfl (subR rfl)
  obtain ⟨j1, hj1, h⟩ := joinE h
  refine f_join (fun a w' => j1 = some r ∧ Sx w [] nov [.blk b1 [u1.val, iV p_t.Relay, iV p_t.Most] 27] [(1, .pointer (some ⟨b1, 0, none⟩))] 43 a w') ?_ ?_
  ·refine wp_block (f_loop (fun (ys1 : List Int) a w' => ∃ i1 : Nat, (∃ dn, p_t.Points = dn ++ ys1 ∧ dn.length = i1) ∧ points_CheckTable_l1 p_t j1 ys1 i1 = some r ∧ Sx w [] nov [.blk b1 [u1.val, iV p_t.Relay, iV p_t.Most] 27] [(1, .pointer (some ⟨b1, 0, none⟩)), (10, u1.val), (11, iV (p_t.Points.length : Int)), (12, iV (i1 : Int))] 43 a w') List.length p_t.Points ⟨0, ⟨[], rfl, rfl⟩, h, S.nf [true] rfl (subR rfl)⟩ ?_)
   clear S h; rintro ys1 a w2 ⟨i1, ⟨dn, hd1, hi1⟩, h, S⟩
   cases ys1 with
   | nil =>
    rw [points_CheckTable_l1.eq_1] at h
    refine f_seq (f_region (lv S (rn_lss (S.tm rfl) (S.tm rfl)) rfl ?_)); clear S; intro a S
    refine l_done ?_
    replace S := S.nk [.blk b1 [u1.val, iV p_t.Relay, iV p_t.Most] 27] [(1, .pointer (some ⟨b1, 0, none⟩)), (10, u1.val), (11, iV (p_t.Points.length : Int)), (12, iV (i1 : Int)), (13, bV (decide ((i1 : Int) < (p_t.Points.length : Int))))] [true] rfl (subR rfl)
    refine then_n (f_seq (wp_cond_false ((S.tm rfl).trans (congrArg Value.bool (rng_nil hd1 hi1))) (wp_exit (then_x (then_x (x_same ?_))))))
    refine then_n ?_
    exact ⟨h, S.nf [true] rfl ⟨rfl, trivial⟩⟩
   | cons y1 ys1 =>
    rw [points_CheckTable_l1.eq_2] at h
    refine f_seq (f_region (lv S (rn_lss (S.tm rfl) (S.tm rfl)) rfl ?_)); clear S; intro a S
    refine l_done ?_
    replace S := S.nk [.blk b1 [u1.val, iV p_t.Relay, iV p_t.Most] 27] [(1, .pointer (some ⟨b1, 0, none⟩)), (10, u1.val), (11, iV (p_t.Points.length : Int)), (12, iV (i1 : Int)), (13, bV (decide ((i1 : Int) < (p_t.Points.length : Int))))] [true] rfl (subR rfl)
    refine then_n (f_seq (wp_cond_true ((S.tm rfl).trans (congrArg Value.bool (rng_cons hd1 hi1))) (wp_skip (then_n (f_seq (wp_block ?_))))))
    refine f_seq (f_region (lv S (rn_move (S.tm rfl)) rfl ?_)); clear S; intro a S
    obtain ⟨b2, o1, hm1, hr1⟩ := rn_indexT (a := a) (x := .tmp 10) (y := .tmp 12) (ty := 0) sl_22 hs1 (get_mid hd1 hi1) rfl (S.tm rfl) (S.tm rfl)
    refine lv S (hr1 _) rfl ?_; clear S; intro a S
    clear hr1
    refine lv S (rn_ld Tryz.isAgg3 (off := o1) (o := 0) (S.tm rfl) (hm1.at S.emb0) rfl) rfl ?_; clear S; intro a S
    refine lv S (rn_assign (S.tm rfl)) rfl ?_; clear S; intro a S
    refine lv S (rn_assign (S.tm rfl)) rfl ?_; clear S; intro a S
    refine l_done (then_n (f_seq (f_seq (f_region (lv S (rn_move (S.tm rfl)) rfl ?_))))); clear S; intro a S
    refine l_enter S (fun _ => run_call (vs := [iV y1, iV 0, iV 10000]) ⟨(S.tm rfl), rfl, rfl, trivial⟩ Tryz.call21) (words_Within_ok _ y1 0 10000 _ rfl) rfl ?_; clear S; intro v1 a w4 hv1 hk2 hn1 S
    subst hv1
    refine lv S (rn_not (S.tm rfl)) rfl ?_; clear S; intro a S
    refine l_done (then_n (f_cond (S.tm rfl) (fun hb2 => ?_) (fun hb2 => ?_)))
    ·replace h := iteT h hb2
     refine f_seq (f_region (lv S (rn_assign rfl) rfl ?_)); clear S; intro a S
     refine l_done (then_n (wp_ret (then_r (blk_r (then_r (then_r ?_))))))
     refine blk_r (then_r (then_r ?_))
     obtain rfl := Option.some.inj h
     exact f_ret S Tryz.results39 rfl rfl
    ·replace h := iteF h hb2
     refine wp_skip (then_n (f_seq (f_region (lv S (rn_move (S.tm rfl)) rfl ?_)))); clear S; intro a S
     refine lv S (rn_gtr (S.tm rfl) rfl) rfl ?_; clear S; intro a S
     refine lv S (rn_move (S.tm rfl)) rfl ?_; clear S; intro a S
     obtain ⟨j2, hj2, h⟩ := joinE h
     refine f_cutm 9 (fun a w' => ∃ c1, j2 c1 = some r ∧ Keep [] w4 w' ∧ Sx w [] nov [.blk b1 [u1.val, iV p_t.Relay, iV p_t.Most] 27] [(1, .pointer (some ⟨b1, 0, none⟩)), (10, u1.val), (11, iV (p_t.Points.length : Int)), (12, iV (i1 : Int)), (31, bV c1)] 43 a w') ?_ ?_
     ·rcases Bool.eq_false_or_eq_true (decide (0 < (i1 : Int))) with hb3 | hb3
      ·replace h := iteT h hb3
       refine l_want S rfl rfl rfl hb3 (lv S (rn_move (S.tm rfl)) rfl ?_); clear S; intro a S
       refine l_want S rfl rfl rfl hb3 (lv S (rn_fld fa_27_0 (S.tm rfl)) rfl ?_); clear S; intro a S
       refine l_want S rfl rfl rfl hb3 (lv S (rn_load Tryz.isAgg22 (S.tm rfl) (S.cell (i := 0) rfl rfl)) rfl ?_); clear S; intro a S
       refine l_want S rfl rfl rfl hb3 (lv S (rn_move (S.tm rfl)) rfl ?_); clear S; intro a S
       refine l_want S rfl rfl rfl hb3 (lv S (rn_sub (S.tm rfl) rfl) rfl ?_); clear S; intro a S
       refine l_want S rfl rfl rfl hb3 ?_
       obtain ⟨hc1, h⟩ := chkE h
       obtain ⟨b3, o2, hm2, hr2⟩ := rn_indexT (a := a) (x := .tmp 25) (y := .tmp 27) (ty := 0) sl_22 hs1 (inB_get hc1).1 (inB_get hc1).2 (S.tm rfl) (S.tm rfl)
       refine lv S (hr2 _) rfl ?_; clear S; intro a S
       clear hr2
       refine l_want S rfl rfl rfl hb3 (lv S (rn_ld Tryz.isAgg3 (off := o2) (o := 0) (S.tm rfl) (hm2.at S.emb0) rfl) rfl ?_); clear S; intro a S
       refine l_want S rfl rfl rfl hb3 (lv S (rn_gtr (S.tm rfl) (S.tm rfl)) rfl ?_); clear S; intro a S
       refine lv S (rn_and_t hb3 (S.tm rfl) (S.tm rfl)) rfl ?_; clear S; intro a S
       refine l_done (then_n ?_)
       exact ⟨_, h, Keep.refl _ _, S.nf [true] rfl (subR rfl)⟩
      ·replace h := iteF h hb3
       iterate 8 (refine l_skip S rfl rfl rfl (neq_f hb3) rfl ?_ rfl; clear S; intro a S)
       refine lv S (rn_and_f true hb3 (S.tm rfl) rfl) rfl ?_; clear S; intro a S
       refine l_done (then_n ?_)
       exact ⟨_, h, Keep.refl _ _, S.nf [true] rfl (subR rfl)⟩
     clear S h; rintro a w5 ⟨c1, h, hk3, S⟩; rw [hj2] at h; clear hj2 j2
     refine l_done (then_n (f_cond (S.tm rfl) (fun hb4 => ?_) (fun hb4 => ?_)))
     ·replace h := iteT h hb4
      refine f_seq (f_region (lv S (rn_assign rfl) rfl ?_)); clear S; intro a S
      refine l_done (then_n (wp_ret (blk_r (then_r (then_r (blk_r ?_))))))
      refine then_r (then_r ?_)
      obtain rfl := Option.some.inj h
      exact f_ret S Tryz.results39 rfl rfl
     ·replace h := iteF h hb4
      refine wp_skip (blk_n (then_n (f_region (lv S (rn_add (S.tm rfl) rfl) rfl ?_)))); clear S; intro a S
      refine lv S (rn_move (S.tm rfl)) rfl ?_; clear S; intro a S
      refine l_done (then_n ?_)
      exact ⟨ys1, ⟨i1 + 1, ⟨_, (hd1).trans (List.append_cons _ _ _), by simp [hi1]⟩, h, S.nf [true] rfl ⟨rfl, rfl, rfl, (congrArg (fun z => some (Value.int .i64 z)) (rng_next hd1 hi1 (slc_max hs1))), trivial⟩⟩, Nat.lt_succ_self _⟩
  clear S h; rintro a w3 ⟨h, S⟩; rw [hj1] at h; clear hj1 j1
  refine then_n (f_seq (f_seq (f_region (lv S (rn_fld fa_27_1 (S.tm rfl)) rfl ?_)))); clear S; intro a S
  refine lv S (rn_load Tryz.isAgg3 (S.tm rfl) (S.cell (i := 0) rfl rfl)) rfl ?_; clear S; intro a S
  refine l_enter S (fun _ => run_call (vs := [iV p_t.Relay, iV 1, iV 10]) ⟨(S.tm rfl), rfl, rfl, trivial⟩ Tryz.call21) (words_Within_ok _ p_t.Relay 1 10 _ rfl) rfl ?_; clear S; intro v2 a w6 hv2 hk4 hn2 S
  subst hv2
  refine lv S (rn_not (S.tm rfl)) rfl ?_; clear S; intro a S
  refine lv S (rn_move (S.tm rfl)) rfl ?_; clear S; intro a S
  refine f_cutm 5 (fun a w' => Keep [] w6 w' ∧ Sx w [] nov [.blk b1 [u1.val, iV p_t.Relay, iV p_t.Most] 27] [(42, bV ((!(words_Within p_t.Relay 1 10)) || (!(words_Within p_t.Most 0 10))))] 43 a w') ?_ ?_
  ·rcases Bool.eq_false_or_eq_true (!(words_Within p_t.Relay 1 10)) with hb5 | hb5
   ·iterate 4 (refine l_skip S rfl rfl rfl (neq_t hb5) rfl ?_ rfl; clear S; intro a S)
    refine lv S (rn_or_t (!(words_Within p_t.Most 0 10)) hb5 (S.tm rfl) rfl) rfl ?_; clear S; intro a S
    refine l_done (then_n ?_)
    exact ⟨Keep.refl _ _, S.nf [true] rfl ⟨rfl, trivial⟩⟩
   ·refine l_want S rfl rfl rfl hb5 (lv S (rn_fld fa_27_2 (S.tm rfl)) rfl ?_); clear S; intro a S
    refine l_want S rfl rfl rfl hb5 (lv S (rn_load Tryz.isAgg3 (S.tm rfl) (S.cell (i := 0) rfl rfl)) rfl ?_); clear S; intro a S
    refine l_want S rfl rfl rfl hb5 (l_enter S (fun _ => run_call (vs := [iV p_t.Most, iV 0, iV 10]) ⟨(S.tm rfl), rfl, rfl, trivial⟩ Tryz.call21) (words_Within_ok _ p_t.Most 0 10 _ rfl) rfl ?_); clear S; intro v3 a w8 hv3 hk5 hn3 S
    subst hv3
    refine l_want S rfl rfl rfl hb5 (lv S (rn_not (S.tm rfl)) rfl ?_); clear S; intro a S
    refine lv S (rn_or_f hb5 (S.tm rfl) (S.tm rfl)) rfl ?_; clear S; intro a S
    refine l_done (then_n ?_)
    exact ⟨hk5, S.nf [true] rfl ⟨rfl, trivial⟩⟩
  clear S; rintro a w7 ⟨hk6, S⟩
  refine l_done (then_n (f_cond (S.tm rfl) (fun hb6 => ?_) (fun hb6 => ?_)))
  ·replace h := iteT h hb6
   refine f_seq (f_region (lv S (rn_assign rfl) rfl ?_)); clear S; intro a S
   refine l_done (then_n (wp_ret (then_r ?_)))
   obtain rfl := Option.some.inj h
   exact f_ret S Tryz.results39 rfl rfl
  ·replace h := iteF h hb6
   refine wp_skip (then_n (f_seq (f_region (lv S (rn_assign rfl) rfl ?_)))); clear S; intro a S
   refine l_done (then_n (wp_ret ?_))
   obtain rfl := Option.some.inj h
   exact f_ret S Tryz.results39 rfl rfl
theorem strings_Trim_ok (w : World) (s c : ByteArray) (r : ByteArray) (h : strings_Trim s c = some r) : Calls Tryz.prog 89 [.string s, .string c].toArray w (Ret w [] fun _ v _ => v = .string r) := by
  unfold strings_Trim at h
  obtain ⟨h1, h⟩ := chkE h
  obtain ⟨h2, h⟩ := chkE h
  obtain ⟨h3, h⟩ := chkE h
  obtain rfl := Option.some.inj h
  exact ret_of_below (Any.strings_Trim_laid Tryz.lays160 (by kernel_rfl) s c w (by simpa using h1) (by simpa using h2) (fun j b hb => by simpa using List.all_eq_true.1 h3 b (List.mem_of_getElem? hb)))
theorem words_IsKey_ok (w : World) (p_s : ByteArray) (r : Bool) (h : words_IsKey p_s = some r) :
    Calls Tryz.prog 71 [sV p_s].toArray w (Ret w [] fun _ v _ => v = bV r) := by
 refine f_enter [] [] Tryz.func71 rfl Tryz.ntmps71 rfl (by simp) (by simp [fps]) (by simp [fps]) fun a S => ?_
 unfold words_IsKey at h
 replace S := S.nk [] [(0, sV p_s)] [] rfl ⟨rfl, trivial⟩
 refine f_seq (f_region (lv S (rn_assign rfl) rfl ?_)); clear S; intro a S
 refine l_done (then_n (f_seq (f_region (lv S (rn_move (S.tm rfl)) rfl ?_)))); clear S; intro a S
 refine lv S (rn_len_str Tryz.underlying9 (S.tm rfl)) rfl ?_; clear S; intro a S
 refine lv S (rn_geq (S.tm rfl) rfl) rfl ?_; clear S; intro a S
 refine lv S (rn_move (S.tm rfl)) rfl ?_; clear S; intro a S
 refine f_cutm 4 (fun a w' => Keep [] w w' ∧ Sx w [] nov [] [(0, sV p_s), (10, bV ((decide (1 ≤ (p_s.size : Int))) && (decide ((p_s.size : Int) ≤ 40))))] 26 a w') ?_ ?_
 ·rcases Bool.eq_false_or_eq_true (decide (1 ≤ (p_s.size : Int))) with hb1 | hb1
  ·refine l_want S rfl rfl rfl hb1 (lv S (rn_move (S.tm rfl)) rfl ?_); clear S; intro a S
   refine l_want S rfl rfl rfl hb1 (lv S (rn_len_str Tryz.underlying9 (S.tm rfl)) rfl ?_); clear S; intro a S
   refine l_want S rfl rfl rfl hb1 (lv S (rn_leq (S.tm rfl) rfl) rfl ?_); clear S; intro a S
   refine lv S (rn_and_t hb1 (S.tm rfl) (S.tm rfl)) rfl ?_; clear S; intro a S
   refine l_done (then_n ?_)
   exact ⟨Keep.refl _ _, S.nf [] rfl (subR rfl)⟩
  ·iterate 3 (refine l_skip S rfl rfl rfl (neq_f hb1) rfl ?_ rfl; clear S; intro a S)
   refine lv S (rn_and_f (decide ((p_s.size : Int) ≤ 40)) hb1 (S.tm rfl) rfl) rfl ?_; clear S; intro a S
   refine l_done (then_n ?_)
   exact ⟨Keep.refl _ _, S.nf [] rfl (subR rfl)⟩
 clear S; rintro a w1 ⟨hk1, S⟩
 refine lv S (rn_move (S.tm rfl)) rfl ?_; clear S; intro a S
 obtain ⟨j1, hj1, h⟩ := joinE h
 refine f_cutm 4 (fun a w' => ∃ c1, j1 c1 = some r ∧ Keep [] w1 w' ∧ Sx w [] nov [] [(0, sV p_s), (15, bV c1)] 26 a w') ?_ ?_
 ·rcases Bool.eq_false_or_eq_true ((decide (1 ≤ (p_s.size : Int))) && (decide ((p_s.size : Int) ≤ 40))) with hb2 | hb2
  ·replace h := iteT h hb2
   refine l_want S rfl rfl rfl hb2 (lv S (rn_move (S.tm rfl)) rfl ?_); clear S; intro a S
   refine l_want S rfl rfl rfl hb2 ?_
   obtain ⟨hc1, h⟩ := chkE h
   refine lv S (rn_sindexT Tryz.underlying9 (S.tm rfl) rfl hc1) rfl ?_; clear S; intro a S
   refine l_want S rfl rfl rfl hb2 (lv S (rn_geq (S.tm rfl) rfl) rfl ?_); clear S; intro a S
   refine lv S (rn_and_t hb2 (S.tm rfl) (S.tm rfl)) rfl ?_; clear S; intro a S
   refine l_done (then_n ?_)
   exact ⟨_, h, Keep.refl _ _, S.nf [] rfl (subR rfl)⟩
  ·replace h := iteF h hb2
   iterate 3 (refine l_skip S rfl rfl rfl (neq_f hb2) rfl ?_ rfl; clear S; intro a S)
   refine lv S (rn_and_f true hb2 (S.tm rfl) rfl) rfl ?_; clear S; intro a S
   refine l_done (then_n ?_)
   exact ⟨_, h, Keep.refl _ _, S.nf [] rfl (subR rfl)⟩
 clear S h; rintro a w2 ⟨c1, h, hk2, S⟩; rw [hj1] at h; clear hj1 j1
 refine lv S (rn_move (S.tm rfl)) rfl ?_; clear S; intro a S
 obtain ⟨j2, hj2, h⟩ := joinE h
 refine f_cutm 4 (fun a w' => ∃ c2, j2 c2 = some r ∧ Keep [] w2 w' ∧ Sx w [] nov [] [(0, sV p_s), (20, bV c2)] 26 a w') ?_ ?_
 ·rcases Bool.eq_false_or_eq_true c1 with hb3 | hb3
  ·replace h := iteT h hb3
   refine l_want S rfl rfl rfl hb3 (lv S (rn_move (S.tm rfl)) rfl ?_); clear S; intro a S
   refine l_want S rfl rfl rfl hb3 ?_
   obtain ⟨hc2, h⟩ := chkE h
   refine lv S (rn_sindexT Tryz.underlying9 (S.tm rfl) rfl hc2) rfl ?_; clear S; intro a S
   refine l_want S rfl rfl rfl hb3 (lv S (rn_leq (S.tm rfl) rfl) rfl ?_); clear S; intro a S
   refine lv S (rn_and_t hb3 (S.tm rfl) (S.tm rfl)) rfl ?_; clear S; intro a S
   refine l_done (then_n ?_)
   exact ⟨_, h, Keep.refl _ _, S.nf [] rfl (subR rfl)⟩
  ·replace h := iteF h hb3
   iterate 3 (refine l_skip S rfl rfl rfl (neq_f hb3) rfl ?_ rfl; clear S; intro a S)
   refine lv S (rn_and_f true hb3 (S.tm rfl) rfl) rfl ?_; clear S; intro a S
   refine l_done (then_n ?_)
   exact ⟨_, h, Keep.refl _ _, S.nf [] rfl (subR rfl)⟩
 clear S h; rintro a w3 ⟨c2, h, hk3, S⟩; rw [hj2] at h; clear hj2 j2
 refine lv S (rn_move (S.tm rfl)) rfl ?_; clear S; intro a S
 obtain ⟨j3, hj3, h⟩ := joinE h
 refine f_cutm 4 (fun a w' => ∃ c3, j3 c3 = some r ∧ Keep [] w3 w' ∧ Sx w [] nov [] [(25, bV c3)] 26 a w') ?_ ?_
 ·rcases Bool.eq_false_or_eq_true c2 with hb4 | hb4
  ·replace h := iteT h hb4
   refine l_want S rfl rfl rfl hb4 (lv S (rn_move (S.tm rfl)) rfl ?_); clear S; intro a S
   refine l_want S rfl rfl rfl hb4 ?_
   obtain ⟨r1, hr1, h⟩ := bindE h
   refine l_enter S (fun _ => run_call (vs := [sV p_s, sV k_abcdefghijkl_h0e2e2c]) ⟨(S.tm rfl), rfl, trivial⟩ Tryz.call89) (strings_Trim_ok _ p_s k_abcdefghijkl_h0e2e2c _ hr1) rfl ?_; clear S; intro v1 a w5 hv1 hk4 hn1 S
   subst hv1
   refine l_want S rfl rfl rfl hb4 (lv S (rn_seql (S.tm rfl) rfl) rfl ?_); clear S; intro a S
   refine lv S (rn_and_t hb4 (S.tm rfl) (S.tm rfl)) rfl ?_; clear S; intro a S
   refine l_done (then_n ?_)
   exact ⟨_, h, hk4, S.nf [] rfl ⟨rfl, trivial⟩⟩
  ·replace h := iteF h hb4
   iterate 3 (refine l_skip S rfl rfl rfl (neq_f hb4) rfl ?_ rfl; clear S; intro a S)
   refine lv S (rn_and_f true hb4 (S.tm rfl) rfl) rfl ?_; clear S; intro a S
   refine l_done (then_n ?_)
   exact ⟨_, h, Keep.refl _ _, S.nf [] rfl ⟨rfl, trivial⟩⟩
 clear S h; rintro a w4 ⟨c3, h, hk5, S⟩; rw [hj3] at h; clear hj3 j3
 refine lv S (rn_assign (S.tm rfl)) rfl ?_; clear S; intro a S
 refine l_done (then_n (wp_ret ?_))
 obtain rfl := Option.some.inj h
 exact f_ret S Tryz.results71 rfl rfl
theorem points_compareRanks_ok (w : World) (p_a : Int) (p_b : Int) (r : Int) (h : points_compareRanks p_a p_b = r) :
    Calls Tryz.prog 91 [iV p_a, iV p_b].toArray w (Ret w [] fun _ v _ => v = iV r) := by
 refine f_enter [] [] Tryz.func91 rfl Tryz.ntmps91 rfl (by simp) (by simp [fps]) (by simp [fps]) fun a S => ?_
 unfold points_compareRanks at h
 replace S := S.nk [] [(0, iV p_a), (1, iV p_b)] [] rfl (subR rfl)
 refine f_seq (f_region (lv S (rn_assign rfl) rfl ?_)); clear S; intro a S
 refine l_done (then_n (f_seq (f_seq (f_region (lv S (rn_move (S.tm rfl)) rfl ?_))))); clear S; intro a S
 refine lv S (rn_eql (S.tm rfl) rfl) rfl ?_; clear S; intro a S
 refine l_done (then_n ?_)
 obtain ⟨j1, hj1, h⟩ := joinE h
 refine f_join (fun a w' => ∃ x1 : Int, j1 x1 = r ∧ Sx w [] nov [] [(0, iV x1), (1, iV p_b)] 12 a w') ?_ ?_
 ·refine f_cond (S.tm rfl) (fun hb1 => ?_) (fun hb1 => ?_)
  ·replace h := iteT h hb1
   refine f_region (lv S (rn_assign rfl) rfl ?_); clear S; intro a S
   refine l_done (then_n ?_)
   exact ⟨301, h, S.nf [] rfl (subR rfl)⟩
  ·replace h := iteF h hb1
   refine wp_skip (then_n ?_)
   exact ⟨p_a, h, S.nf [] rfl (subR rfl)⟩
 clear S h; rintro a w1 ⟨x1, h, S⟩; rw [hj1] at h; clear hj1 j1
 refine then_n (f_seq (f_seq (f_region (lv S (rn_move (S.tm rfl)) rfl ?_)))); clear S; intro a S
 refine lv S (rn_eql (S.tm rfl) rfl) rfl ?_; clear S; intro a S
 refine l_done (then_n ?_)
 obtain ⟨j2, hj2, h⟩ := joinE h
 refine f_join (fun a w' => ∃ x2 : Int, j2 x2 = r ∧ Sx w [] nov [] [(0, iV x1), (1, iV x2)] 12 a w') ?_ ?_
 ·refine f_cond (S.tm rfl) (fun hb2 => ?_) (fun hb2 => ?_)
  ·replace h := iteT h hb2
   refine f_region (lv S (rn_assign rfl) rfl ?_); clear S; intro a S
   refine l_done (then_n ?_)
   exact ⟨301, h, S.nf [] rfl (subR rfl)⟩
  ·replace h := iteF h hb2
   refine wp_skip (then_n ?_)
   exact ⟨p_b, h, S.nf [] rfl (subR rfl)⟩
 clear S h; rintro a w2 ⟨x2, h, S⟩; rw [hj2] at h; clear hj2 j2
 refine then_n (f_seq (f_region (lv S (rn_move (S.tm rfl)) rfl ?_))); clear S; intro a S
 refine lv S (rn_move (S.tm rfl)) rfl ?_; clear S; intro a S
 refine lv S (rn_sub (S.tm rfl) (S.tm rfl)) rfl ?_; clear S; intro a S
 refine lv S (rn_assign (S.tm rfl)) rfl ?_; clear S; intro a S
 refine l_done (then_n (wp_ret ?_))
 subst h
 exact f_ret S Tryz.results91 rfl rfl
theorem cmp_Or_int_ok (w : World) (v_p_vals : Value) (p_vals : List Int) (hs_p_vals : Slc (view w []) 1 v_p_vals (p_vals.map eInt)) (r : Int) (h : cmp_Or_int p_vals = r) :
    Calls Tryz.prog 90 [v_p_vals].toArray w (Ret w [] fun _ v _ => v = iV r) := by
 refine f_enter [] [] Tryz.func90 rfl Tryz.ntmps90 rfl (by simp) (by simp [fps]) (by simp [fps]) fun a S => ?_
 unfold cmp_Or_int at h
 replace S := S.nk [] [(0, v_p_vals)] [] rfl ⟨rfl, trivial⟩
 refine f_seq (f_region (lv S (rn_assign rfl) rfl ?_)); clear S; intro a S
 refine l_done (then_n (f_seq (f_region (lv S (rn_assign rfl) rfl ?_)))); clear S; intro a S
 refine l_done (then_n (f_seq (f_seq (f_region (lv S (rn_move (S.tm rfl)) rfl ?_))))); clear S; intro a S
 refine lv S (rn_lenT sl_22 (S.tm rfl) (slc_len hs_p_vals)) rfl ?_; clear S; intro a S
 refine lv S (rn_move rfl) rfl ?_; clear S; intro a S
 refine l_done (then_n ?_)
 replace S := S.nk [] [(3, iV 0), (6, v_p_vals), (7, iV (p_vals.length : Int)), (8, iV 0)] [] rfl (subR rfl)
 obtain ⟨j1, hj1, h⟩ := joinE h
 refine f_join (fun a w' => j1 = r ∧ Sx w [] nov [] [(3, iV 0)] 18 a w') ?_ ?_
 ·refine wp_block (f_loop (fun (ys1 : List Int) a w' => ∃ i1 : Nat, (∃ dn, p_vals = dn ++ ys1 ∧ dn.length = i1) ∧ cmp_Or_int_l1 j1 ys1 i1 = r ∧ Sx w [] nov [] [(3, iV 0), (6, v_p_vals), (7, iV (p_vals.length : Int)), (8, iV (i1 : Int))] 18 a w') List.length p_vals ⟨0, ⟨[], rfl, rfl⟩, h, S.nf [] rfl (subR rfl)⟩ ?_)
  clear S h; rintro ys1 a w1 ⟨i1, ⟨dn, hd1, hi1⟩, h, S⟩
  cases ys1 with
  | nil =>
   rw [cmp_Or_int_l1.eq_1] at h
   refine f_seq (f_region (lv S (rn_lss (S.tm rfl) (S.tm rfl)) rfl ?_)); clear S; intro a S
   refine l_done ?_
   replace S := S.nk [] [(3, iV 0), (6, v_p_vals), (7, iV (p_vals.length : Int)), (8, iV (i1 : Int)), (9, bV (decide ((i1 : Int) < (p_vals.length : Int))))] [] rfl (subR rfl)
   refine then_n (f_seq (wp_cond_false ((S.tm rfl).trans (congrArg Value.bool (rng_nil hd1 hi1))) (wp_exit (then_x (then_x (x_same ?_))))))
   refine then_n ?_
   exact ⟨h, S.nf [] rfl ⟨rfl, trivial⟩⟩
  | cons y1 ys1 =>
   rw [cmp_Or_int_l1.eq_2] at h
   refine f_seq (f_region (lv S (rn_lss (S.tm rfl) (S.tm rfl)) rfl ?_)); clear S; intro a S
   refine l_done ?_
   replace S := S.nk [] [(3, iV 0), (6, v_p_vals), (7, iV (p_vals.length : Int)), (8, iV (i1 : Int)), (9, bV (decide ((i1 : Int) < (p_vals.length : Int))))] [] rfl (subR rfl)
   refine then_n (f_seq (wp_cond_true ((S.tm rfl).trans (congrArg Value.bool (rng_cons hd1 hi1))) (wp_skip (then_n (f_seq (wp_block ?_))))))
   refine f_seq (f_region ?_)
   obtain ⟨b1, o1, hm1, hr1⟩ := rn_indexT (a := a) (x := .tmp 6) (y := .tmp 8) (ty := 0) sl_22 hs_p_vals (get_mid hd1 hi1) rfl (S.tm rfl) (S.tm rfl)
   refine lv S (hr1 _) rfl ?_; clear S; intro a S
   clear hr1
   refine lv S (rn_ld Tryz.isAgg3 (off := o1) (o := 0) (S.tm rfl) (hm1.at S.emb0) rfl) rfl ?_; clear S; intro a S
   refine lv S (rn_assign (S.tm rfl)) rfl ?_; clear S; intro a S
   refine l_done (then_n (f_seq (f_region (lv S (rn_move (S.tm rfl)) rfl ?_)))); clear S; intro a S
   refine lv S (rn_move (S.tm rfl)) rfl ?_; clear S; intro a S
   refine lv S (rn_neq (S.tm rfl) (S.tm rfl)) rfl ?_; clear S; intro a S
   refine l_done (then_n (f_cond (S.tm rfl) (fun hb1 => ?_) (fun hb1 => ?_)))
   ·replace h := iteT h hb1
    refine f_seq (f_region (lv S (rn_move (S.tm rfl)) rfl ?_)); clear S; intro a S
    refine lv S (rn_assign (S.tm rfl)) rfl ?_; clear S; intro a S
    refine l_done (then_n (wp_ret (blk_r (then_r (then_r (blk_r ?_))))))
    refine then_r (then_r ?_)
    subst h
    exact f_ret S Tryz.results90 rfl rfl
   ·replace h := iteF h hb1
    refine wp_skip (blk_n (then_n (f_region (lv S (rn_add (S.tm rfl) rfl) rfl ?_)))); clear S; intro a S
    refine lv S (rn_move (S.tm rfl)) rfl ?_; clear S; intro a S
    refine l_done (then_n ?_)
    exact ⟨ys1, ⟨i1 + 1, ⟨_, (hd1).trans (List.append_cons _ _ _), by simp [hi1]⟩, h, S.nf [] rfl ⟨rfl, rfl, rfl, (congrArg (fun z => some (Value.int .i64 z)) (rng_next hd1 hi1 (slc_max hs_p_vals))), trivial⟩⟩, Nat.lt_succ_self _⟩
 clear S h; rintro a w2 ⟨h, S⟩; rw [hj1] at h; clear hj1 j1
 refine then_n (f_seq (f_region (lv S (rn_move (S.tm rfl)) rfl ?_))); clear S; intro a S
 refine lv S (rn_assign (S.tm rfl)) rfl ?_; clear S; intro a S
 refine l_done (then_n (wp_ret ?_))
 subst h
 exact f_ret S Tryz.results90 rfl rfl
set_option maxRecDepth 20000 in
theorem points_compare_ok (w : World) (p_a : GScored) (p_b : GScored) (r : Int) (h : points_compare p_a p_b = r) :
    Calls Tryz.prog 72 [.agg (GScored.enc p_a).toArray, .agg (GScored.enc p_b).toArray].toArray w (Ret w [] fun _ v _ => v = iV r) := by
 refine f_enter [] [] Tryz.func72 rfl Tryz.ntmps72 rfl (by simp) (by simp [fps]) (by simp [fps]) fun a S => ?_
 unfold points_compare at h
 replace S := S.nk [] [(0, .agg (GScored.enc p_a).toArray), (1, .agg (GScored.enc p_b).toArray)] [] rfl (subR rfl)
 refine f_seq (f_region (l_box S (S.tm rfl) (cs := (GScored.enc p_a)) rfl rfl ?_)); clear S; intro a w1 b1 hz1 hk1 S
 refine l_box S (S.tm rfl) (cs := (GScored.enc p_b)) rfl rfl ?_; clear S; intro a w2 b2 hz2 hk2 S
 refine lv S (rn_assign rfl) rfl ?_; clear S; intro a S
 refine l_done (then_n (f_seq (d_region [] ([]) Tryz.mixed S rfl (by kernel_rfl) ?_))); clear S; intro w8 hk8 hsel S
 refine d_quiet 0 S hsel rfl rfl rfl (by kernel_rfl) (by kernel_rfl) rfl (fun _ hw => (rn_fld fa_53_0 (S.tm rfl))) ?_; clear S; intro a S
 refine d_quiet 1 S hsel rfl rfl rfl (by kernel_rfl) (by kernel_rfl) rfl (fun _ hw => (rn_ld Tryz.isAgg9 (off := 0) (o := 0) (S.tm rfl) ((S.blk_mem (i := 1) (cells := (GScored.enc p_a)) (b := b1) (T := 53) rfl (ne_nil (e' := .blk b1 (GScored.enc p_a) 53))).kept hw) rfl)) ?_; clear S; intro a S
 refine d_quiet 2 S hsel rfl rfl rfl (by kernel_rfl) (by kernel_rfl) rfl (fun _ hw => (rn_fld fa_53_0 (S.tm rfl))) ?_; clear S; intro a S
 refine d_quiet 3 S hsel rfl rfl rfl (by kernel_rfl) (by kernel_rfl) rfl (fun _ hw => (rn_ld Tryz.isAgg9 (off := 0) (o := 0) (S.tm rfl) ((S.blk_mem (i := 0) (cells := (GScored.enc p_b)) (b := b2) (T := 53) rfl (ne_nil (e' := .blk b2 (GScored.enc p_b) 53))).kept hw) rfl)) ?_; clear S; intro a S
 refine d_quiet 5 S hsel rfl rfl rfl (by kernel_rfl) (by kernel_rfl) rfl (fun _ hw => (rn_fld fa_53_3 (S.tm rfl))) ?_; clear S; intro a S
 refine d_quiet 6 S hsel rfl rfl rfl (by kernel_rfl) (by kernel_rfl) rfl (fun _ hw => (rn_ld Tryz.isAgg3 (off := 0) (o := 3) (S.tm rfl) ((S.blk_mem (i := 1) (cells := (GScored.enc p_a)) (b := b1) (T := 53) rfl (ne_nil (e' := .blk b1 (GScored.enc p_a) 53))).kept hw) rfl)) ?_; clear S; intro a S
 refine d_quiet 7 S hsel rfl rfl rfl (by kernel_rfl) (by kernel_rfl) rfl (fun _ hw => (rn_fld fa_53_3 (S.tm rfl))) ?_; clear S; intro a S
 refine d_quiet 8 S hsel rfl rfl rfl (by kernel_rfl) (by kernel_rfl) rfl (fun _ hw => (rn_ld Tryz.isAgg3 (off := 0) (o := 3) (S.tm rfl) ((S.blk_mem (i := 0) (cells := (GScored.enc p_b)) (b := b2) (T := 53) rfl (ne_nil (e' := .blk b2 (GScored.enc p_b) 53))).kept hw) rfl)) ?_; clear S; intro a S
 refine d_quiet 10 S hsel rfl rfl rfl (by kernel_rfl) (by kernel_rfl) rfl (fun _ hw => (rn_fld fa_53_1 (S.tm rfl))) ?_; clear S; intro a S
 refine d_quiet 11 S hsel rfl rfl rfl (by kernel_rfl) (by kernel_rfl) rfl (fun _ hw => (rn_ld Tryz.isAgg9 (off := 0) (o := 1) (S.tm rfl) ((S.blk_mem (i := 1) (cells := (GScored.enc p_a)) (b := b1) (T := 53) rfl (ne_nil (e' := .blk b1 (GScored.enc p_a) 53))).kept hw) rfl)) ?_; clear S; intro a S
 refine d_quiet 12 S hsel rfl rfl rfl (by kernel_rfl) (by kernel_rfl) rfl (fun _ hw => (rn_fld fa_53_1 (S.tm rfl))) ?_; clear S; intro a S
 refine d_quiet 13 S hsel rfl rfl rfl (by kernel_rfl) (by kernel_rfl) rfl (fun _ hw => (rn_ld Tryz.isAgg9 (off := 0) (o := 1) (S.tm rfl) ((S.blk_mem (i := 0) (cells := (GScored.enc p_b)) (b := b2) (T := 53) rfl (ne_nil (e' := .blk b2 (GScored.enc p_b) 53))).kept hw) rfl)) ?_; clear S; intro a S
 refine d_loud1 4 (by kernel_rfl) rfl (l_enter S (fun _ => run_call (vs := [sV p_a.Race, sV p_b.Race]) ⟨(S.tm rfl), (S.tm rfl), trivial⟩ Tryz.call37) (strings_Compare_ok _ p_a.Race p_b.Race _ rfl) rfl ?_); clear S; intro v5 a w9 hv5 hk9 hn5 S
 subst hv5
 refine l_done (d_next hk9 (d_loud1 9 (by kernel_rfl) rfl (l_enter S (fun _ => run_call (vs := [iV p_a.Rank, iV p_b.Rank]) ⟨(S.tm rfl), (S.tm rfl), trivial⟩ Tryz.call91) (points_compareRanks_ok _ p_a.Rank p_b.Rank _ rfl) rfl ?_))); clear S; intro v6 a w10 hv6 hk10 hn6 S
 subst hv6
 refine l_done (d_next hk10 (d_loud1 14 (by kernel_rfl) rfl (l_enter S (fun _ => run_call (vs := [sV p_a.Who, sV p_b.Who]) ⟨(S.tm rfl), (S.tm rfl), trivial⟩ Tryz.call37) (strings_Compare_ok _ p_a.Who p_b.Who _ rfl) rfl ?_))); clear S; intro v7 a w11 hv7 hk11 hn7 S
 subst hv7
 refine l_done (d_next hk11 (d_loud1 15 (by kernel_rfl) rfl (l_buildSlice S Tryz.underlying22 Tryz.sizeOf3 Tryz.zeroValue3 rfl rfl (pv := [(0, iV (strings_Compare p_a.Race p_b.Race)), (1, iV (points_compareRanks p_a.Rank p_b.Rank)), (2, iV (strings_Compare p_a.Who p_b.Who))]) ⟨rfl, (S.tm rfl), rfl, (S.tm rfl), rfl, (S.tm rfl), trivial⟩ (cs := [iV (strings_Compare p_a.Race p_b.Race), iV (points_compareRanks p_a.Rank p_b.Rank), iV (strings_Compare p_a.Who p_b.Who)]) (by kernel_rfl) rfl ?_))); clear S; intro a w12 b4 hz4 hk12 S
 refine l_done (d_next hk12 (d_loud1 16 (by kernel_rfl) rfl (l_enter S (fun _ => run_call (vs := [.slice (some ⟨b4, 0, none⟩) 3 3]) ⟨(S.tm rfl), trivial⟩ Tryz.call90) (cmp_Or_int_ok _ (.slice (some ⟨b4, 0, none⟩) 3 3) [(strings_Compare p_a.Race p_b.Race), (points_compareRanks p_a.Rank p_b.Rank), (strings_Compare p_a.Who p_b.Who)] (lit_slcT enc_int S (i := 0) rfl rfl rfl rfl ((ne_nil (e' := .blk b4 [iV (strings_Compare p_a.Race p_b.Race), iV (points_compareRanks p_a.Rank p_b.Rank), iV (strings_Compare p_a.Who p_b.Who)] 3)) _ rfl)) _ rfl) rfl ?_))); clear S; intro v8 a w13 hv8 hk13 hn8 S
 subst hv8
 refine l_done (d_next hk13 (d_rest [17] hsel (by kernel_rfl) rfl ?_))
 clear hsel
 refine s_lv S rfl (rn_assign (S.tm rfl)) rfl ?_; clear S; intro a S
 refine s_done ?_
 replace S := S.nk [] [(4, iV (cmp_Or_int [(strings_Compare p_a.Race p_b.Race), (points_compareRanks p_a.Rank p_b.Rank), (strings_Compare p_a.Who p_b.Who)]))] [false, false, false] rfl ⟨rfl, trivial⟩
 refine then_n (wp_ret ?_)
 subst h
 exact f_ret S Tryz.results72 rfl rfl
set_option maxRecDepth 20000 in
theorem points_races_ok (w : World) (ψ : View) (hψ : View.le ψ (view w [])) (v_p_l : Value) (p_l : List GScored) (hs_p_l : Slc ψ 5 v_p_l (p_l.map GScored.enc)) (r : (List (List GScored))) (h : points_races p_l = some r) :
    Calls Tryz.prog 75 [v_p_l].toArray w (Ret w [] fun τ v _ => SlcD (join ψ τ) 1 RS.enc rel_29 v r) := by
 refine f_enter [] [] Tryz.func75 rfl Tryz.ntmps75 rfl (by simp) (by simp [fps]) (by simp [fps]) fun a S => ?_
 unfold points_races at h
 replace S := S.nk [] [(0, v_p_l)] [] rfl ⟨rfl, trivial⟩
 refine f_seq (f_region (lv S (rn_assign rfl) rfl ?_)); clear S; intro a S
 refine l_done (then_n (f_seq (f_region (lv S (rn_assign rfl) rfl ?_)))); clear S; intro a S
 replace S := S.nil 29 1
 refine l_done (then_n (f_seq (f_seq (f_region (lv S (rn_assign rfl) rfl ?_))))); clear S; intro a S
 refine l_done (then_n ?_)
 replace S := S.nk [.own (.slice none 0 0) 29 1 ([] : List RS).length (([] : List RS).flatMap RS.enc)] [(0, v_p_l), (3, (.slice none 0 0)), (4, iV 0)] [true] rfl (subR rfl)
 obtain ⟨j1, hj1, h⟩ := joinE h
 refine f_join (fun a w' => ∃ x1 : List (List GScored), ∃ v1 : Value, ∃ rs1 : List RS, j1 x1 = some r ∧ All2 (rel_29 (join ψ nov)) x1 rs1 ∧ Sx w [] nov [.own v1 29 1 rs1.length (rs1.flatMap RS.enc)] [(3, v1)] 41 a w') ?_ ?_
 ·refine wp_block (f_loop (fun (m1 : Nat) a w' => ∃ x1 : List (List GScored), ∃ x2 : Int, ∃ v1 : Value, ∃ rs1 : List RS, points_races_l1 p_l j1 m1 x1 x2 = some r ∧ All2 (rel_29 (join ψ nov)) x1 rs1 ∧ Sx w [] nov [.own v1 29 1 rs1.length (rs1.flatMap RS.enc)] [(0, v_p_l), (3, v1), (4, iV x2)] 41 a w') id (((p_l.length : Int) - 0).toNat + 2) ⟨([] : List (List GScored)), 0, (.slice none 0 0), ([] : List RS), h, .nil, S.nf [true] rfl (subR rfl)⟩ ?_)
  clear S h; rintro m1 a w1 ⟨x1, x2, v1, rs1, h, hr1, S⟩
  cases m1 with
  | zero => rw [points_races_l1.eq_1] at h; cases h
  | succ m1 =>
   rw [points_races_l1.eq_2] at h
   refine f_seq (f_seq (f_region (lv S (rn_move (S.tm rfl)) rfl ?_))); clear S; intro a S
   refine lv S (rn_move (S.tm rfl)) rfl ?_; clear S; intro a S
   refine lv S (rn_lenT sl_29 (S.tm rfl) (slc_len hs_p_l)) rfl ?_; clear S; intro a S
   refine lv S (rn_lss (S.tm rfl) (S.tm rfl)) rfl ?_; clear S; intro a S
   refine l_done (then_n (f_cond (S.tm rfl) (fun hb1 => ?_) (fun hb1 => ?_)))
   ·replace h := iteT h hb1
    refine wp_skip (then_n (wp_block (f_seq (f_region (lv S (rn_move (S.tm rfl)) rfl ?_))))); clear S; intro a S
    refine lv S (rn_add (S.tm rfl) rfl) rfl ?_; clear S; intro a S
    refine lv S (rn_assign (S.tm rfl)) rfl ?_; clear S; intro a S
    refine l_done (then_n (f_seq ?_))
    replace S := S.nk [.own v1 29 1 rs1.length (rs1.flatMap RS.enc)] [(0, v_p_l), (3, v1), (4, iV x2), (5, iV (W (x2 + 1)))] [true] rfl (subR rfl)
    obtain ⟨j2, hj2, h⟩ := joinE h
    refine f_join (fun a w' => ∃ x3 : Int, j2 x3 = some r ∧ Sx w [] nov [.own v1 29 1 rs1.length (rs1.flatMap RS.enc)] [(0, v_p_l), (3, v1), (4, iV x2), (5, iV x3)] 41 a w') ?_ ?_
    ·refine wp_block (f_loop (fun (m2 : Nat) a w' => ∃ x3 : Int, points_races_l2 p_l x2 j2 m2 x3 = some r ∧ Sx w [] nov [.own v1 29 1 rs1.length (rs1.flatMap RS.enc)] [(0, v_p_l), (3, v1), (4, iV x2), (5, iV x3)] 41 a w') id (((p_l.length : Int) - (W (x2 + 1))).toNat + 2) ⟨W (x2 + 1), h, S.nf [true] rfl (subR rfl)⟩ ?_)
     clear S h; rintro m2 a w3 ⟨x3, h, S⟩
     cases m2 with
     | zero => rw [points_races_l2.eq_1] at h; cases h
     | succ m2 =>
      rw [points_races_l2.eq_2] at h
      refine f_seq (f_seq (d_region [] ([]) Tryz.mixed S rfl (by kernel_rfl) ?_)); clear S; intro w5 hk1 hsel S
      refine d_rest [0, 1, 2, 3, 4, 5, 6, 7, 8, 9, 10, 11, 12, 13, 14, 15, 16] hsel (by kernel_rfl) rfl ?_
      clear hsel
      refine s_lv S rfl (rn_move (S.tm rfl)) rfl ?_; clear S; intro a S
      refine s_lv S rfl (rn_move (S.tm rfl)) rfl ?_; clear S; intro a S
      refine s_lv S rfl (rn_lenT sl_29 (S.tm rfl) (slc_len hs_p_l)) rfl ?_; clear S; intro a S
      refine s_lv S rfl (rn_lss (S.tm rfl) (S.tm rfl)) rfl ?_; clear S; intro a S
      refine s_lv S rfl (rn_move (S.tm rfl)) rfl ?_; clear S; intro a S
      obtain ⟨j3, hj3, h⟩ := joinE h
      refine s_cutm 12 (fun a w' => ∃ c1, j3 c1 = some r ∧ Keep [] w5 w' ∧ Sx w [] nov [.own v1 29 1 rs1.length (rs1.flatMap RS.enc)] [(0, v_p_l), (3, v1), (4, iV x2), (5, iV x3), (28, bV c1)] 41 a w') ?_ ?_
      ·rcases Bool.eq_false_or_eq_true (decide (x3 < (p_l.length : Int))) with hb2 | hb2
       ·replace h := iteT h hb2
        refine s_want S rfl rfl rfl rfl hb2 (s_lv0 S (rn_move (S.tm rfl)) rfl ?_); clear S; intro a S
        refine s_want S rfl rfl rfl rfl hb2 (s_lv0 S (rn_move (S.tm rfl)) rfl ?_); clear S; intro a S
        refine s_want S rfl rfl rfl rfl hb2 ?_
        obtain ⟨hc1, h⟩ := chkE h
        obtain ⟨b1, o1, hm1, hr2⟩ := rn_indexT (a := a) (x := .tmp 17) (y := .tmp 18) (ty := 0) sl_29 hs_p_l (inB_get hc1).1 (inB_get hc1).2 (S.tm rfl) (S.tm rfl)
        refine s_lv0 S (hr2 _) rfl ?_; clear S; intro a S
        clear hr2
        refine s_want S rfl rfl rfl rfl hb2 (s_lv0 S (rn_fld fa_53_0 (S.tm rfl)) rfl ?_); clear S; intro a S
        refine s_want S rfl rfl rfl rfl hb2 (s_lv0 S (rn_ld Tryz.isAgg9 (off := o1) (o := 0) (S.tm rfl) (hm1.at (emb_le hψ S.emb0)) rfl) rfl ?_); clear S; intro a S
        refine s_want S rfl rfl rfl rfl hb2 (s_lv0 S (rn_move (S.tm rfl)) rfl ?_); clear S; intro a S
        refine s_want S rfl rfl rfl rfl hb2 (s_lv0 S (rn_move (S.tm rfl)) rfl ?_); clear S; intro a S
        refine s_want S rfl rfl rfl rfl hb2 ?_
        obtain ⟨hc2, h⟩ := chkE h
        obtain ⟨b2, o2, hm2, hr3⟩ := rn_indexT (a := a) (x := .tmp 22) (y := .tmp 23) (ty := 0) sl_29 hs_p_l (inB_get hc2).1 (inB_get hc2).2 (S.tm rfl) (S.tm rfl)
        refine s_lv0 S (hr3 _) rfl ?_; clear S; intro a S
        clear hr3
        refine s_want S rfl rfl rfl rfl hb2 (s_lv0 S (rn_fld fa_53_0 (S.tm rfl)) rfl ?_); clear S; intro a S
        refine s_want S rfl rfl rfl rfl hb2 (s_lv0 S (rn_ld Tryz.isAgg9 (off := o2) (o := 0) (S.tm rfl) (hm2.at (emb_le hψ S.emb0)) rfl) rfl ?_); clear S; intro a S
        refine s_want S rfl rfl rfl rfl hb2 (s_lv0 S (rn_seql (S.tm rfl) (S.tm rfl)) rfl ?_); clear S; intro a S
        refine s_lv S rfl (rn_and_t hb2 (S.tm rfl) (S.tm rfl)) rfl ?_; clear S; intro a S
        refine s_done ?_
        exact ⟨_, h, Keep.refl _ _, S.nf [true] rfl (subR rfl)⟩
       ·replace h := iteF h hb2
        iterate 11 (refine s_skip S rfl rfl rfl rfl (neq_f hb2) rfl ?_ rfl; clear S; intro a S)
        refine s_lv S rfl (rn_and_f true hb2 (S.tm rfl) rfl) rfl ?_; clear S; intro a S
        refine s_done ?_
        exact ⟨_, h, Keep.refl _ _, S.nf [true] rfl (subR rfl)⟩
      clear S h; rintro a w6 ⟨c1, h, hk2, S⟩; rw [hj3] at h; clear hj3 j3
      refine s_done ?_
      replace S := S.nk [.own v1 29 1 rs1.length (rs1.flatMap RS.enc)] [(0, v_p_l), (3, v1), (4, iV x2), (5, iV x3), (28, bV c1)] [true] rfl (subR rfl)
      refine then_n (f_cond (S.tm rfl) (fun hb3 => ?_) (fun hb3 => ?_))
      ·replace h := iteT h hb3
       refine wp_skip (then_n (wp_block (f_region (lv S (rn_move (S.tm rfl)) rfl ?_)))); clear S; intro a S
       refine lv S (rn_add (S.tm rfl) rfl) rfl ?_; clear S; intro a S
       refine lv S (rn_assign (S.tm rfl)) rfl ?_; clear S; intro a S
       refine l_done (blk_n (then_n ?_))
       exact ⟨m2, ⟨W (x3 + 1), h, S.nf [true] rfl ⟨rfl, rfl, rfl, rfl, trivial⟩⟩, Nat.lt_succ_self _⟩
      ·replace h := iteF h hb3
       refine wp_exit (then_x (then_x (x_same (then_n ?_))))
       exact ⟨x3, h, S.nf [true] rfl (subR rfl)⟩
    clear S h; rintro a w4 ⟨x3, h, S⟩; rw [hj2] at h; clear hj2 j2
    refine then_n (f_seq (f_region (lv S (rn_move (S.tm rfl)) rfl ?_))); clear S; intro a S
    iterate 4 (refine lv S (rn_move (S.tm rfl)) rfl ?_; clear S; intro a S)
    obtain ⟨hc3, h⟩ := chkE h
    obtain ⟨v2, hs1, hr4⟩ := rn_cutT3 (y2 := .tmp 35) (a := a) (x := .tmp 32) (y := .tmp 33) (y' := .tmp 34) (ty := 29) sl_29 hs_p_l (S.tm rfl) (S.tm rfl) (S.tm rfl) (S.tm rfl) hc3
    refine lv S (hr4 _) rfl ?_; clear S; intro a S
    clear hr4
    refine l_buildSlice S Tryz.underlying127 Tryz.sizeOf29 Tryz.zeroValue29 rfl rfl (pv := [(0, v2)]) ⟨rfl, (S.tm rfl), trivial⟩ (cs := [v2]) (fill_slc hs1) rfl ?_; clear S; intro a w7 b3 hz1 hk3 S
    obtain ⟨hc4, h⟩ := chkE h
    have hr5 : All2 (rel_29 (join ψ nov)) (x1 ++ [cut p_l x2 x3]) (rs1 ++ [⟨v2, SlcLen.one (slc_len hs1)⟩]) := All2.app hr1 (All2.cons (hs1.mono (le_join_left _ _)) All2.nil)
    refine l_appendT sl_127 RS.enc_ok S (S.tm rfl) (i := 1) rfl (S.tm rfl) (j := 0) rfl (ys := [⟨v2, SlcLen.one (slc_len hs1)⟩]) rfl rfl rfl rfl (by have := room_lt hc4; have := All2.len hr1; simp at this ⊢; omega) rfl ?_; clear S; intro v3 a w8 hk4 S
    refine lv S (rn_assign (S.tm rfl)) rfl ?_; clear S; intro a S
    refine l_done (then_n (f_region (lv S (rn_move (S.tm rfl)) rfl ?_))); clear S; intro a S
    refine lv S (rn_assign (S.tm rfl)) rfl ?_; clear S; intro a S
    refine l_done (blk_n (then_n ?_))
    exact ⟨m1, ⟨(x1 ++ [cut p_l x2 x3]), x3, v3, (rs1 ++ [⟨v2, SlcLen.one (slc_len hs1)⟩]), h, hr5, S.nf [false, true] rfl ⟨rfl, rfl, rfl, trivial⟩⟩, Nat.lt_succ_self _⟩
   ·replace h := iteF h hb1
    refine wp_exit (then_x (then_x (x_same (then_n ?_))))
    exact ⟨x1, v1, rs1, h, hr1, S.nf [true] rfl ⟨rfl, trivial⟩⟩
 clear S h; rintro a w2 ⟨x1, v1, rs1, h, hr1, S⟩; rw [hj1] at h; clear hj1 j1
 refine then_n (f_seq (f_region (lv S (rn_move (S.tm rfl)) rfl ?_))); clear S; intro a S
 refine lv S (rn_assign (S.tm rfl)) rfl ?_; clear S; intro a S
 refine l_done (then_n (wp_ret ?_))
 obtain ⟨φ1, hl1, hs2, S⟩ := S.freezeT (xs := rs1) (enc := RS.enc) (i := 0) rfl (fun _ h => by cases h)
 have hr6 := (rels_29 (all_mono hl1) hr1)
 have hs3 := (ownV_slcT RS.enc_ok hs2).mono (S.all_right hψ)
 replace S := S.nk [] [(2, v1), (3, v1), (40, v1)] [] rfl (subR rfl)
 obtain rfl := Option.some.inj h
 exact f_ret S Tryz.results75 rfl ⟨_, (hs3.mono (all_out hψ S.le_newer)), rels_29 (all_out hψ S.le_newer) hr6⟩
set_option maxRecDepth 20000 in
theorem points_checkAll_c1_ok (w : World) (p_x : GScored) (b_p_a1 : Nat) (v_p_a1 : Value) (p_a1 : List GScored) (hs_p_a1 : Slc (view w []) 5 v_p_a1 (p_a1.map GScored.enc)) (hb_b_p_a1 : (view w []) b_p_a1 = some (.cells [v_p_a1].toArray 29 (0, 0))) (r : Bool) (h : points_checkAll_c1 p_x p_a1 = some r) :
    Calls Tryz.prog 93 [.agg (GScored.enc p_x).toArray, .pointer (some ⟨b_p_a1, 0, none⟩)].toArray w (Ret w [] fun _ v _ => v = bV r) := by
 refine f_enter [] [] Tryz.func93 rfl Tryz.ntmps93 rfl (by simp) (by simp [fps]) (by simp [fps]) fun a S => ?_
 unfold points_checkAll_c1 at h
 replace S := S.nk [] [(0, .agg (GScored.enc p_x).toArray), (1, .pointer (some ⟨b_p_a1, 0, none⟩))] [] rfl (subR rfl)
 refine f_seq (f_region (l_box S (S.tm rfl) (cs := (GScored.enc p_x)) rfl rfl ?_)); clear S; intro a w1 b1 hz1 hk1 S
 refine lv S (rn_assign rfl) rfl ?_; clear S; intro a S
 refine l_done (then_n (f_seq (d_region [] ([]) Tryz.mixed S rfl (by kernel_rfl) ?_))); clear S; intro w2 hk2 hsel S
 refine d_rest [0, 1, 2, 3, 4, 5, 6, 7] hsel (by kernel_rfl) rfl ?_
 clear hsel
 refine s_lv S rfl (rn_fld fa_53_4 (S.tm rfl)) rfl ?_; clear S; intro a S
 refine s_lv S rfl (rn_load Tryz.isAgg4 (S.tm rfl) (S.cell (i := 0) rfl rfl)) rfl ?_; clear S; intro a S
 refine s_lv S rfl (rn_ld Tryz.isAgg29 (off := 0) (o := 0) (S.tm rfl) ((mem_blk hb_b_p_a1).at S.emb0) rfl) rfl ?_; clear S; intro a S
 obtain ⟨hc1, h⟩ := chkE h
 obtain ⟨b2, o1, hm1, hr1⟩ := rn_indexT (a := a) (x := .tmp 6) (y := .const (iV 0)) (ty := 0) sl_29 hs_p_a1 (inB_get hc1).1 (inB_get hc1).2 (S.tm rfl) rfl
 refine s_lv S rfl (hr1 _) rfl ?_; clear S; intro a S
 clear hr1
 refine s_lv S rfl (rn_fld fa_53_4 (S.tm rfl)) rfl ?_; clear S; intro a S
 refine s_lv S rfl (rn_ld Tryz.isAgg4 (off := o1) (o := 4) (S.tm rfl) (hm1.at S.emb0) rfl) rfl ?_; clear S; intro a S
 refine s_lv S rfl (rn_bneq Tryz.underlying4 (S.tm rfl) (S.tm rfl)) rfl ?_; clear S; intro a S
 refine s_lv S rfl (rn_assign (S.tm rfl)) rfl ?_; clear S; intro a S
 refine s_done ?_
 replace S := S.nk [] [(3, bV (!decide (p_x.Relay = ((nth p_a1 0).Relay))))] [false] rfl ⟨rfl, trivial⟩
 refine then_n (wp_ret ?_)
 obtain rfl := Option.some.inj h
 exact f_ret S Tryz.results93 rfl rfl
theorem slices_IndexFunc_Scored_points_checkAll_c1_ok (w : World) (v_p_s : Value) (p_s : List GScored) (hs_p_s : Slc (view w []) 5 v_p_s (p_s.map GScored.enc)) (b_p_f_0 : Nat) (v_p_f_0 : Value) (p_f_0 : List GScored) (hs_p_f_0 : Slc (view w []) 5 v_p_f_0 (p_f_0.map GScored.enc)) (hb_b_p_f_0 : (view w []) b_p_f_0 = some (.cells [v_p_f_0].toArray 29 (0, 0))) (r : Int) (h : slices_IndexFunc_Scored_points_checkAll_c1 p_s p_f_0 = some r) :
    Calls Tryz.prog 113 [v_p_s, .func (.func 93) #[] #[.pointer (some ⟨b_p_f_0, 0, none⟩)]].toArray w (Ret w [] fun _ v _ => v = iV r) := by
 refine f_enter [] [] Tryz.func113 rfl Tryz.ntmps113 rfl (by simp) (by simp [fps]) (by simp [fps]) fun a S => ?_
 unfold slices_IndexFunc_Scored_points_checkAll_c1 at h
 replace S := S.nk [] [(0, v_p_s), (1, .func (.func 93) #[] #[.pointer (some ⟨b_p_f_0, 0, none⟩)])] [] rfl (subR rfl)
 refine f_seq (f_region (lv S (rn_assign rfl) rfl ?_)); clear S; intro a S
 refine l_done (then_n (f_seq (f_seq (f_region (lv S (rn_move (S.tm rfl)) rfl ?_))))); clear S; intro a S
 refine lv S (rn_lenT sl_29 (S.tm rfl) (slc_len hs_p_s)) rfl ?_; clear S; intro a S
 refine lv S (rn_move rfl) rfl ?_; clear S; intro a S
 refine l_done (then_n ?_)
 replace S := S.nk [] [(0, v_p_s), (1, .func (.func 93) #[] #[.pointer (some ⟨b_p_f_0, 0, none⟩)]), (7, iV (p_s.length : Int)), (8, iV 0)] [] rfl (subR rfl)
 obtain ⟨j1, hj1, h⟩ := joinE h
 refine f_join (fun a w' => j1 = some r ∧ Sx w [] nov [] [] 19 a w') ?_ ?_
 ·refine wp_block (f_loop (fun (ys1 : List GScored) a w' => ∃ i1 : Nat, (∃ dn, p_s = dn ++ ys1 ∧ dn.length = i1) ∧ slices_IndexFunc_Scored_points_checkAll_c1_l1 p_f_0 j1 ys1 i1 = some r ∧ Sx w [] nov [] [(0, v_p_s), (1, .func (.func 93) #[] #[.pointer (some ⟨b_p_f_0, 0, none⟩)]), (7, iV (p_s.length : Int)), (8, iV (i1 : Int))] 19 a w') List.length p_s ⟨0, ⟨[], rfl, rfl⟩, h, S.nf [] rfl (subR rfl)⟩ ?_)
  clear S h; rintro ys1 a w1 ⟨i1, ⟨dn, hd1, hi1⟩, h, S⟩
  cases ys1 with
  | nil =>
   rw [slices_IndexFunc_Scored_points_checkAll_c1_l1.eq_1] at h
   refine f_seq (f_region (lv S (rn_lss (S.tm rfl) (S.tm rfl)) rfl ?_)); clear S; intro a S
   refine l_done ?_
   replace S := S.nk [] [(0, v_p_s), (1, .func (.func 93) #[] #[.pointer (some ⟨b_p_f_0, 0, none⟩)]), (7, iV (p_s.length : Int)), (8, iV (i1 : Int)), (9, bV (decide ((i1 : Int) < (p_s.length : Int))))] [] rfl (subR rfl)
   refine then_n (f_seq (wp_cond_false ((S.tm rfl).trans (congrArg Value.bool (rng_nil hd1 hi1))) (wp_exit (then_x (then_x (x_same ?_))))))
   refine then_n ?_
   exact ⟨h, S.nf [] rfl trivial⟩
  | cons y1 ys1 =>
   rw [slices_IndexFunc_Scored_points_checkAll_c1_l1.eq_2] at h
   refine f_seq (f_region (lv S (rn_lss (S.tm rfl) (S.tm rfl)) rfl ?_)); clear S; intro a S
   refine l_done ?_
   replace S := S.nk [] [(0, v_p_s), (1, .func (.func 93) #[] #[.pointer (some ⟨b_p_f_0, 0, none⟩)]), (7, iV (p_s.length : Int)), (8, iV (i1 : Int)), (9, bV (decide ((i1 : Int) < (p_s.length : Int))))] [] rfl (subR rfl)
   refine then_n (f_seq (wp_cond_true ((S.tm rfl).trans (congrArg Value.bool (rng_cons hd1 hi1))) (wp_skip (then_n (f_seq (wp_block ?_))))))
   refine f_seq (f_region (lv S (rn_move (S.tm rfl)) rfl ?_)); clear S; intro a S
   refine lv S (rn_assign (S.tm rfl)) rfl ?_; clear S; intro a S
   refine l_done (then_n (f_seq (f_region (lv S (rn_move (S.tm rfl)) rfl ?_)))); clear S; intro a S
   refine lv S (rn_move (S.tm rfl)) rfl ?_; clear S; intro a S
   refine lv S (rn_move (S.tm rfl)) rfl ?_; clear S; intro a S
   obtain ⟨b1, o1, hm1, hr1⟩ := rn_indexT (a := a) (x := .tmp 12) (y := .tmp 13) (ty := 0) sl_29 hs_p_s (get_mid hd1 hi1) rfl (S.tm rfl) (S.tm rfl)
   refine lv S (hr1 _) rfl ?_; clear S; intro a S
   clear hr1
   refine lv S (rn_ldA Tryz.isAgg53 Tryz.sizeOf53 (off := o1) (o := 0) (part := (GScored.enc y1)) rfl rfl (S.tm rfl) (hm1.at S.emb0)) rfl ?_; clear S; intro a S
   obtain ⟨r1, hr2, h⟩ := bindE h
   refine l_enter S (fun _ => run_callV (cap := [.pointer (some ⟨b_p_f_0, 0, none⟩)]) (S.tm rfl) (vs := [.agg (GScored.enc y1).toArray]) ⟨(S.tm rfl), trivial⟩ Tryz.call93) (points_checkAll_c1_ok _ y1 b_p_f_0 v_p_f_0 p_f_0 (hs_p_f_0.mono (S.le_arg nil_sub)) ((S.le_arg nil_sub) _ _ hb_b_p_f_0) _ hr2) rfl ?_; clear S; intro v1 a w3 hv1 hk1 hn1 S
   subst hv1
   refine l_done (then_n (f_cond (S.tm rfl) (fun hb1 => ?_) (fun hb1 => ?_)))
   ·replace h := iteT h hb1
    refine f_seq (f_region (lv S (rn_move (S.tm rfl)) rfl ?_)); clear S; intro a S
    refine lv S (rn_assign (S.tm rfl)) rfl ?_; clear S; intro a S
    refine l_done ?_
    replace S := S.nk [] [(4, iV (i1 : Int))] [] rfl ⟨rfl, trivial⟩
    refine then_n (wp_ret (blk_r (then_r (then_r (blk_r (then_r ?_))))))
    refine then_r ?_
    obtain rfl := Option.some.inj h
    exact f_ret S Tryz.results113 rfl rfl
   ·replace h := iteF h hb1
    refine wp_skip (blk_n (then_n (f_region (lv S (rn_add (S.tm rfl) rfl) rfl ?_)))); clear S; intro a S
    refine lv S (rn_move (S.tm rfl)) rfl ?_; clear S; intro a S
    refine l_done (then_n ?_)
    exact ⟨ys1, ⟨i1 + 1, ⟨_, (hd1).trans (List.append_cons _ _ _), by simp [hi1]⟩, h, S.nf [] rfl ⟨rfl, rfl, rfl, (congrArg (fun z => some (Value.int .i64 z)) (rng_next hd1 hi1 (slc_max hs_p_s))), trivial⟩⟩, Nat.lt_succ_self _⟩
 clear S h; rintro a w2 ⟨h, S⟩; rw [hj1] at h; clear hj1 j1
 refine then_n (f_seq (f_region (lv S (rn_assign rfl) rfl ?_))); clear S; intro a S
 refine l_done (then_n (wp_ret ?_))
 obtain rfl := Option.some.inj h
 exact f_ret S Tryz.results113 rfl rfl
theorem slices_ContainsFunc_Scored_points_checkAll_c1_ok (w : World) (v_p_s : Value) (p_s : List GScored) (hs_p_s : Slc (view w []) 5 v_p_s (p_s.map GScored.enc)) (b_p_f_0 : Nat) (v_p_f_0 : Value) (p_f_0 : List GScored) (hs_p_f_0 : Slc (view w []) 5 v_p_f_0 (p_f_0.map GScored.enc)) (hb_b_p_f_0 : (view w []) b_p_f_0 = some (.cells [v_p_f_0].toArray 29 (0, 0))) (r : Bool) (h : slices_ContainsFunc_Scored_points_checkAll_c1 p_s p_f_0 = some r) :
    Calls Tryz.prog 92 [v_p_s, .func (.func 93) #[] #[.pointer (some ⟨b_p_f_0, 0, none⟩)]].toArray w (Ret w [] fun _ v _ => v = bV r) := by
 refine f_enter [] [] Tryz.func92 rfl Tryz.ntmps92 rfl (by simp) (by simp [fps]) (by simp [fps]) fun a S => ?_
 unfold slices_ContainsFunc_Scored_points_checkAll_c1 at h
 replace S := S.nk [] [(0, v_p_s), (1, .func (.func 93) #[] #[.pointer (some ⟨b_p_f_0, 0, none⟩)])] [] rfl (subR rfl)
 refine f_seq (f_region (lv S (rn_assign rfl) rfl ?_)); clear S; intro a S
 refine l_done (then_n (f_seq (f_region (lv S (rn_move (S.tm rfl)) rfl ?_)))); clear S; intro a S
 refine lv S (rn_move (S.tm rfl)) rfl ?_; clear S; intro a S
 obtain ⟨r1, hr1, h⟩ := bindE h
 refine l_enter S (fun _ => run_call (vs := [v_p_s, .func (.func 93) #[] #[.pointer (some ⟨b_p_f_0, 0, none⟩)]]) ⟨(S.tm rfl), (S.tm rfl), trivial⟩ Tryz.call113) (slices_IndexFunc_Scored_points_checkAll_c1_ok _ v_p_s p_s (hs_p_s.mono (S.le_arg nil_sub)) b_p_f_0 v_p_f_0 p_f_0 (hs_p_f_0.mono (S.le_arg nil_sub)) ((S.le_arg nil_sub) _ _ hb_b_p_f_0) _ hr1) rfl ?_; clear S; intro v1 a w1 hv1 hk1 hn1 S
 subst hv1
 refine lv S (rn_geq (S.tm rfl) rfl) rfl ?_; clear S; intro a S
 refine lv S (rn_assign (S.tm rfl)) rfl ?_; clear S; intro a S
 refine l_done (then_n (wp_ret ?_))
 obtain rfl := Option.some.inj h
 exact f_ret S Tryz.results92 rfl rfl
set_option maxRecDepth 20000 in
theorem points_checkAll_ok (w : World) (v_p_l : Value) (p_l : List GScored) (hs_p_l : Slc (view w []) 5 v_p_l (p_l.map GScored.enc)) (r : Int) (h : points_checkAll p_l = some r) :
    Calls Tryz.prog 73 [v_p_l].toArray w (Ret w [] fun _ v _ => v = iV r) := by
 refine f_enter [] [] Tryz.func73 rfl Tryz.ntmps73 rfl (by simp) (by simp [fps]) (by simp [fps]) fun a S => ?_
 unfold points_checkAll at h
 replace S := S.nk [] [(0, v_p_l)] [] rfl ⟨rfl, trivial⟩
 refine f_seq (f_region (lv S (rn_assign rfl) rfl ?_)); clear S; intro a S
 refine l_done (then_n (f_seq (f_region (l_makeMap (κ := Gpoints_entry) (ν := Bool) S rfl (fun x => Value.agg (Gpoints_entry.enc x).toArray) Value.bool ?_)))); clear S; intro a w1 b1 hz1 hk1 S
 refine lv S (rn_assign (S.tm rfl)) rfl ?_; clear S; intro a S
 refine l_done (then_n (f_seq (f_seq (f_region (lv S (rn_move (S.tm rfl)) rfl ?_))))); clear S; intro a S
 refine lv S (rn_lenT sl_29 (S.tm rfl) (slc_len hs_p_l)) rfl ?_; clear S; intro a S
 refine lv S (rn_move rfl) rfl ?_; clear S; intro a S
 refine l_done (then_n ?_)
 replace S := S.nk [.map b1 (ments (fun x => Value.agg (Gpoints_entry.enc x).toArray) Value.bool ([] : List (Gpoints_entry × Bool))) ([] : List (Gpoints_entry × Bool)).length] [(0, v_p_l), (3, .map (some b1)), (17, v_p_l), (18, iV (p_l.length : Int)), (19, iV 0)] [true] rfl (subR rfl)
 obtain ⟨j1, hj1, h⟩ := joinE h
 refine f_join (fun a w' => ∃ x1 : List (Gpoints_entry × Bool), j1 x1 = some r ∧ Sx w [] nov [.map b1 (ments (fun x => Value.agg (Gpoints_entry.enc x).toArray) Value.bool x1) x1.length] [(0, v_p_l)] 122 a w') ?_ ?_
 ·refine wp_block (f_loop (fun (ys1 : List GScored) a w' => ∃ i1 : Nat, ∃ x1 : List (Gpoints_entry × Bool), (∃ dn, p_l = dn ++ ys1 ∧ dn.length = i1) ∧ points_checkAll_l1 j1 ys1 i1 x1 = some r ∧ Sx w [] nov [.map b1 (ments (fun x => Value.agg (Gpoints_entry.enc x).toArray) Value.bool x1) x1.length] [(0, v_p_l), (3, .map (some b1)), (17, v_p_l), (18, iV (p_l.length : Int)), (19, iV (i1 : Int))] 122 a w') List.length p_l ⟨0, ([] : List (Gpoints_entry × Bool)), ⟨[], rfl, rfl⟩, h, S.nf [true] rfl (subR rfl)⟩ ?_)
  clear S h; rintro ys1 a w2 ⟨i1, x1, ⟨dn, hd1, hi1⟩, h, S⟩
  cases ys1 with
  | nil =>
   rw [points_checkAll_l1.eq_1] at h
   refine f_seq (f_region (lv S (rn_lss (S.tm rfl) (S.tm rfl)) rfl ?_)); clear S; intro a S
   refine l_done ?_
   replace S := S.nk [.map b1 (ments (fun x => Value.agg (Gpoints_entry.enc x).toArray) Value.bool x1) x1.length] [(0, v_p_l), (3, .map (some b1)), (17, v_p_l), (18, iV (p_l.length : Int)), (19, iV (i1 : Int)), (20, bV (decide ((i1 : Int) < (p_l.length : Int))))] [true] rfl (subR rfl)
   refine then_n (f_seq (wp_cond_false ((S.tm rfl).trans (congrArg Value.bool (rng_nil hd1 hi1))) (wp_exit (then_x (then_x (x_same ?_))))))
   refine then_n ?_
   exact ⟨x1, h, S.nf [true] rfl ⟨rfl, trivial⟩⟩
  | cons y1 ys1 =>
   rw [points_checkAll_l1.eq_2] at h
   refine f_seq (f_region (lv S (rn_lss (S.tm rfl) (S.tm rfl)) rfl ?_)); clear S; intro a S
   refine l_done ?_
   replace S := S.nk [.map b1 (ments (fun x => Value.agg (Gpoints_entry.enc x).toArray) Value.bool x1) x1.length] [(0, v_p_l), (3, .map (some b1)), (17, v_p_l), (18, iV (p_l.length : Int)), (19, iV (i1 : Int)), (20, bV (decide ((i1 : Int) < (p_l.length : Int))))] [true] rfl (subR rfl)
   refine then_n (f_seq (wp_cond_true ((S.tm rfl).trans (congrArg Value.bool (rng_cons hd1 hi1))) (wp_skip (then_n (f_seq (wp_block ?_))))))
   refine f_seq (f_region ?_)
   obtain ⟨b2, o1, hm1, hr1⟩ := rn_indexT (a := a) (x := .tmp 17) (y := .tmp 19) (ty := 0) sl_29 hs_p_l (get_mid hd1 hi1) rfl (S.tm rfl) (S.tm rfl)
   refine lv S (hr1 _) rfl ?_; clear S; intro a S
   clear hr1
   refine lv S (rn_ldA Tryz.isAgg53 Tryz.sizeOf53 (off := o1) (o := 0) (part := (GScored.enc y1)) rfl rfl (S.tm rfl) (hm1.at S.emb0)) rfl ?_; clear S; intro a S
   refine l_alloc S Tryz.zeroValue53 (cs := [sV k_empty, sV k_empty, sV k_empty, iV 0, bV false]) rfl rfl ?_; clear S; intro a w4 b3 hz2 hk2 S
   refine l_store S (S.tm rfl) (S.tm rfl) (i := 0) (off := 0) rfl Tryz.sizeOf53 (vs := (GScored.enc y1)) rfl rfl rfl rfl ?_; clear S; intro w5 hk3 S
   refine l_done (then_n (f_seq (f_seq (f_region (lv S (rn_move (S.tm rfl)) rfl ?_))))); clear S; intro a S
   refine lv S (rn_fld fa_53_0 (S.tm rfl)) rfl ?_; clear S; intro a S
   refine lv S (rn_load Tryz.isAgg9 (S.tm rfl) (S.cell (i := 0) rfl rfl)) rfl ?_; clear S; intro a S
   refine lv S (rn_fld fa_53_1 (S.tm rfl)) rfl ?_; clear S; intro a S
   refine lv S (rn_load Tryz.isAgg9 (S.tm rfl) (S.cell (i := 0) rfl rfl)) rfl ?_; clear S; intro a S
   refine lv S (rn_bld bt_146 (pv := [(0, sV y1.Race), (1, sV y1.Who)]) ⟨rfl, (S.tm rfl), rfl, (S.tm rfl), trivial⟩ (cs := [sV y1.Race, sV y1.Who]) (by kernel_rfl)) rfl ?_; clear S; intro a S
   refine lv S (rn_lookup (kv := (fun x => Value.agg (Gpoints_entry.enc x).toArray)) (vv := Value.bool) (m := x1) (key := (Gpoints_entry.mk y1.Race y1.Who)) (z := false) (S.map_at (i := 1) rfl) Tryz.underlying144 keyT_146 Tryz.zeroValue4 (S.tm rfl) (S.tm rfl)) rfl ?_; clear S; intro a S
   refine l_done ?_
   replace S := S.nk [.blk b3 (GScored.enc y1) 53, .map b1 (ments (fun x => Value.agg (Gpoints_entry.enc x).toArray) Value.bool x1) x1.length] [(0, v_p_l), (3, .map (some b1)), (5, .pointer (some ⟨b3, 0, none⟩)), (17, v_p_l), (18, iV (p_l.length : Int)), (19, iV (i1 : Int)), (29, bV (mgetD x1 (Gpoints_entry.mk y1.Race y1.Who) false))] [true, true] rfl (subR rfl)
   refine then_n (f_cond (S.tm rfl) (fun hb1 => ?_) (fun hb1 => ?_))
   ·replace h := iteT h hb1
    refine f_seq (f_region (lv S (rn_assign rfl) rfl ?_)); clear S; intro a S
    refine l_done (then_n (wp_ret (then_r (blk_r (then_r (then_r ?_))))))
    refine blk_r (then_r (then_r ?_))
    obtain rfl := Option.some.inj h
    exact f_ret S Tryz.results73 rfl rfl
   ·replace h := iteF h hb1
    refine wp_skip (then_n (f_region (lv S (rn_move (S.tm rfl)) rfl ?_))); clear S; intro a S
    refine lv S (rn_fld fa_53_0 (S.tm rfl)) rfl ?_; clear S; intro a S
    refine lv S (rn_load Tryz.isAgg9 (S.tm rfl) (S.cell (i := 0) rfl rfl)) rfl ?_; clear S; intro a S
    refine lv S (rn_fld fa_53_1 (S.tm rfl)) rfl ?_; clear S; intro a S
    refine lv S (rn_load Tryz.isAgg9 (S.tm rfl) (S.cell (i := 0) rfl rfl)) rfl ?_; clear S; intro a S
    refine lv S (rn_bld bt_146 (pv := [(0, sV y1.Race), (1, sV y1.Who)]) ⟨rfl, (S.tm rfl), rfl, (S.tm rfl), trivial⟩ (cs := [sV y1.Race, sV y1.Who]) (by kernel_rfl)) rfl ?_; clear S; intro a S
    refine l_mapUpdate (kv := (fun x => Value.agg (Gpoints_entry.enc x).toArray)) (vv := Value.bool) (m := x1) (key := (Gpoints_entry.mk y1.Race y1.Who)) (val := true) S (i := 1) rfl Tryz.underlying144 keyT_146 (S.tm rfl) (S.tm rfl) rfl ?_; clear S; intro w6 hk4 S
    refine l_done (blk_n (then_n (f_region (lv S (rn_add (S.tm rfl) rfl) rfl ?_)))); clear S; intro a S
    refine lv S (rn_move (S.tm rfl)) rfl ?_; clear S; intro a S
    refine l_done (then_n ?_)
    exact ⟨ys1, ⟨i1 + 1, (mput x1 (Gpoints_entry.mk y1.Race y1.Who) true), ⟨_, (hd1).trans (List.append_cons _ _ _), by simp [hi1]⟩, h, S.nf [false, true] rfl ⟨rfl, rfl, rfl, rfl, (congrArg (fun z => some (Value.int .i64 z)) (rng_next hd1 hi1 (slc_max hs_p_l))), trivial⟩⟩, Nat.lt_succ_self _⟩
 clear S h; rintro a w3 ⟨x1, h, S⟩; rw [hj1] at h; clear hj1 j1
 refine then_n (f_seq (f_region (lv S (rn_move (S.tm rfl)) rfl ?_))); clear S; intro a S
 obtain ⟨r1, hr2, h⟩ := bindE h
 have hz3 := S.keep.size
 refine l_enter S (fun _ => run_call (vs := [v_p_l]) ⟨(S.tm rfl), trivial⟩ Tryz.call75) (points_races_ok _ (join (view w []) nov) (join_le (S.le_arg nil_sub) (S.le_new nil_sub)) v_p_l p_l (hs_p_l.mono (le_join_left _ _)) _ hr2) rfl ?_; clear S; intro v1 a w7 hv1 hk5 hn1 S
 obtain ⟨φ1, hl1, hm2, S⟩ := S.see' hn1 hz3
 obtain ⟨rs1, ho2, hr3⟩ := hv1
 have hs1 := ho2.mono (all_step hl1 hm2)
 have hr4 := rels_29 (all_step hl1 hm2) hr3
 refine lv S (rn_assign (S.tm rfl)) rfl ?_; clear S; intro a S
 refine l_done (then_n (f_seq (f_seq (f_region (lv S (rn_move (S.tm rfl)) rfl ?_))))); clear S; intro a S
 refine lv S (rn_lenT sl_127 (S.tm rfl) (slc_lenD hs1 hr4)) rfl ?_; clear S; intro a S
 refine lv S (rn_move rfl) rfl ?_; clear S; intro a S
 refine l_done (then_n ?_)
 replace S := S.nk [] [(6, v1), (39, v1), (40, iV (r1.length : Int)), (41, iV 0)] [false] rfl (subR rfl)
 obtain ⟨j2, hj2, h⟩ := joinE h
 refine f_join (fun a w' => j2 = some r ∧ Sx w [] φ1 [] [(6, v1)] 122 a w') ?_ ?_
 ·refine wp_block (f_loop (fun (ys2 : List (List GScored)) a w' => ∃ i2 : Nat, (∃ dn, r1 = dn ++ ys2 ∧ dn.length = i2) ∧ points_checkAll_l2 j2 ys2 i2 = some r ∧ Sx w [] φ1 [] [(6, v1), (39, v1), (40, iV (r1.length : Int)), (41, iV (i2 : Int))] 122 a w') List.length r1 ⟨0, ⟨[], rfl, rfl⟩, h, S.nf [] rfl (subR rfl)⟩ ?_)
  clear S h; rintro ys2 a w8 ⟨i2, ⟨dn, hd2, hi2⟩, h, S⟩
  cases ys2 with
  | nil =>
   rw [points_checkAll_l2.eq_1] at h
   refine f_seq (f_region (lv S (rn_lss (S.tm rfl) (S.tm rfl)) rfl ?_)); clear S; intro a S
   refine l_done ?_
   replace S := S.nk [] [(6, v1), (39, v1), (40, iV (r1.length : Int)), (41, iV (i2 : Int)), (42, bV (decide ((i2 : Int) < (r1.length : Int))))] [] rfl (subR rfl)
   refine then_n (f_seq (wp_cond_false ((S.tm rfl).trans (congrArg Value.bool (rng_nil hd2 hi2))) (wp_exit (then_x (then_x (x_same ?_))))))
   refine then_n ?_
   exact ⟨h, S.nf [] rfl ⟨rfl, trivial⟩⟩
  | cons y2 ys2 =>
   rw [points_checkAll_l2.eq_2] at h
   refine f_seq (f_region (lv S (rn_lss (S.tm rfl) (S.tm rfl)) rfl ?_)); clear S; intro a S
   refine l_done ?_
   replace S := S.nk [] [(6, v1), (39, v1), (40, iV (r1.length : Int)), (41, iV (i2 : Int)), (42, bV (decide ((i2 : Int) < (r1.length : Int))))] [] rfl (subR rfl)
   refine then_n (f_seq (wp_cond_true ((S.tm rfl).trans (congrArg Value.bool (rng_cons hd2 hi2))) (wp_skip (then_n (f_seq (wp_block ?_))))))
   refine f_seq (f_region ?_)
   obtain ⟨r2, hg1, hl2⟩ := All2.at hr4 (get_mid hd2 hi2)
   have hs2 := hl2
   obtain ⟨b4, o2, hm3, hr5⟩ := rn_indexT (a := a) (x := .tmp 39) (y := .tmp 41) (ty := 0) sl_127 hs1 hg1 rfl (S.tm rfl) (S.tm rfl)
   refine lv S (hr5 _) rfl ?_; clear S; intro a S
   clear hr5
   refine lv S (rn_ld Tryz.isAgg29 (off := o2) (o := 0) (S.tm rfl) (hm3.at (emb_join S.emb0 S.emb)) rfl) rfl ?_; clear S; intro a S
   refine l_alloc S Tryz.zeroValue29 (cs := [.slice none 0 0]) rfl rfl ?_; clear S; intro a w10 b5 hz4 hk6 S
   refine l_store S (S.tm rfl) (S.tm rfl) (i := 0) (off := 0) rfl Tryz.sizeOf29 (vs := [r2.val]) (SlcLen.cells (slc_len hs2)) rfl rfl (all1 (SlcLen.one (slc_len hs2)) rfl) ?_; clear S; intro w11 hk7 S
   refine l_done (then_n (f_seq (f_region (lv S (rn_load Tryz.isAgg29 (S.tm rfl) (S.cell (i := 0) rfl rfl)) rfl ?_)))); clear S; intro a S
   refine lv S (rn_makeFunc (us := #[]) (xs := [].toArray) (ys := [.tmp 8].toArray) (by simp) (evA ⟨(S.tm rfl), trivial⟩ (vs := [.pointer (some ⟨b5, 0, none⟩)]))) rfl ?_; clear S; intro a S
   obtain ⟨r3, hr6, h⟩ := bindE h
   refine l_enter S (fun _ => run_call (vs := [r2.val, .func (.func 93) #[] #[.pointer (some ⟨b5, 0, none⟩)]]) ⟨(S.tm rfl), (S.tm rfl), trivial⟩ Tryz.call92) (slices_ContainsFunc_Scored_points_checkAll_c1_ok _ r2.val y2 (hs2.mono (join_le (S.le_arg nil_sub) (S.le_new nil_sub))) b5 r2.val y2 (hs2.mono (join_le (S.le_arg nil_sub) (S.le_new nil_sub))) (S.blk_view (i := 0) rfl ((ne_nil (e' := .blk b5 [r2.val] 29)) _ rfl)) _ hr6) rfl ?_; clear S; intro v2 a w12 hv2 hk8 hn2 S
   subst hv2
   refine l_done (then_n (f_cond (S.tm rfl) (fun hb2 => ?_) (fun hb2 => ?_)))
   ·replace h := iteT h hb2
    refine f_seq (f_region (lv S (rn_assign rfl) rfl ?_)); clear S; intro a S
    refine l_done (then_n (wp_ret (blk_r (then_r (then_r (blk_r ?_))))))
    refine then_r (then_r ?_)
    obtain rfl := Option.some.inj h
    exact f_ret S Tryz.results73 rfl rfl
   ·replace h := iteF h hb2
    refine wp_skip (blk_n (then_n (f_region (lv S (rn_add (S.tm rfl) rfl) rfl ?_)))); clear S; intro a S
    refine lv S (rn_move (S.tm rfl)) rfl ?_; clear S; intro a S
    refine l_done (then_n ?_)
    exact ⟨ys2, ⟨i2 + 1, ⟨_, (hd2).trans (List.append_cons _ _ _), by simp [hi2]⟩, h, S.nf [false] rfl ⟨rfl, rfl, rfl, (congrArg (fun z => some (Value.int .i64 z)) (rng_next hd2 hi2 (slc_maxD hs1 hr4))), trivial⟩⟩, Nat.lt_succ_self _⟩
 clear S h; rintro a w9 ⟨h, S⟩; rw [hj2] at h; clear hj2 j2
 refine then_n (f_seq (f_seq (f_region (lv S (rn_move (S.tm rfl)) rfl ?_)))); clear S; intro a S
 refine lv S (rn_lenT sl_127 (S.tm rfl) (slc_lenD hs1 hr4)) rfl ?_; clear S; intro a S
 refine lv S (rn_move rfl) rfl ?_; clear S; intro a S
 refine l_done (then_n ?_)
 replace S := S.nk [] [(6, v1), (49, v1), (50, iV (r1.length : Int)), (51, iV 0)] [] rfl (subR rfl)
 obtain ⟨j3, hj3, h⟩ := joinE h
 refine f_join (fun a w' => j3 = some r ∧ Sx w [] φ1 [] [(6, v1)] 122 a w') ?_ ?_
 ·refine wp_block (f_loop (fun (ys3 : List (List GScored)) a w' => ∃ i3 : Nat, (∃ dn, r1 = dn ++ ys3 ∧ dn.length = i3) ∧ points_checkAll_l3 j3 ys3 i3 = some r ∧ Sx w [] φ1 [] [(6, v1), (49, v1), (50, iV (r1.length : Int)), (51, iV (i3 : Int))] 122 a w') List.length r1 ⟨0, ⟨[], rfl, rfl⟩, h, S.nf [] rfl (subR rfl)⟩ ?_)
  clear S h; rintro ys3 a w13 ⟨i3, ⟨dn, hd3, hi3⟩, h, S⟩
  cases ys3 with
  | nil =>
   rw [points_checkAll_l3.eq_1] at h
   refine f_seq (f_region (lv S (rn_lss (S.tm rfl) (S.tm rfl)) rfl ?_)); clear S; intro a S
   refine l_done ?_
   replace S := S.nk [] [(6, v1), (49, v1), (50, iV (r1.length : Int)), (51, iV (i3 : Int)), (52, bV (decide ((i3 : Int) < (r1.length : Int))))] [] rfl (subR rfl)
   refine then_n (f_seq (wp_cond_false ((S.tm rfl).trans (congrArg Value.bool (rng_nil hd3 hi3))) (wp_exit (then_x (then_x (x_same ?_))))))
   refine then_n ?_
   exact ⟨h, S.nf [] rfl ⟨rfl, trivial⟩⟩
  | cons y3 ys3 =>
   rw [points_checkAll_l3.eq_2] at h
   refine f_seq (f_region (lv S (rn_lss (S.tm rfl) (S.tm rfl)) rfl ?_)); clear S; intro a S
   refine l_done ?_
   replace S := S.nk [] [(6, v1), (49, v1), (50, iV (r1.length : Int)), (51, iV (i3 : Int)), (52, bV (decide ((i3 : Int) < (r1.length : Int))))] [] rfl (subR rfl)
   refine then_n (f_seq (wp_cond_true ((S.tm rfl).trans (congrArg Value.bool (rng_cons hd3 hi3))) (wp_skip (then_n (f_seq (wp_block ?_))))))
   refine f_seq (f_region ?_)
   obtain ⟨r4, hg2, hl3⟩ := All2.at hr4 (get_mid hd3 hi3)
   have hs3 := hl3
   obtain ⟨b6, o3, hm4, hr7⟩ := rn_indexT (a := a) (x := .tmp 49) (y := .tmp 51) (ty := 0) sl_127 hs1 hg2 rfl (S.tm rfl) (S.tm rfl)
   refine lv S (hr7 _) rfl ?_; clear S; intro a S
   clear hr7
   refine lv S (rn_ld Tryz.isAgg29 (off := o3) (o := 0) (S.tm rfl) (hm4.at (emb_join S.emb0 S.emb)) rfl) rfl ?_; clear S; intro a S
   refine lv S (rn_assign (S.tm rfl)) rfl ?_; clear S; intro a S
   refine l_done (then_n (f_seq (f_region (lv S (rn_move (S.tm rfl)) rfl ?_)))); clear S; intro a S
   refine lv S (rn_lenT sl_29 (S.tm rfl) (slc_len hs3)) rfl ?_; clear S; intro a S
   refine lv S (rn_move rfl) rfl ?_; clear S; intro a S
   refine l_done (then_n ?_)
   replace S := S.nk [] [(6, v1), (10, r4.val), (49, v1), (50, iV (r1.length : Int)), (51, iV (i3 : Int)), (55, r4.val), (56, iV (y3.length : Int)), (57, iV 0)] [] rfl (subR rfl)
   obtain ⟨j4, hj4, h⟩ := joinE h
   refine f_join (fun a w' => j4 = some r ∧ Sx w [] φ1 [] [(6, v1), (49, v1), (50, iV (r1.length : Int)), (51, iV (i3 : Int))] 122 a w') ?_ ?_
   ·refine wp_block (f_loop (fun (ys4 : List GScored) a w' => ∃ i4 : Nat, (∃ dn, y3 = dn ++ ys4 ∧ dn.length = i4) ∧ points_checkAll_l4 y3 j4 ys4 i4 = some r ∧ Sx w [] φ1 [] [(6, v1), (10, r4.val), (49, v1), (50, iV (r1.length : Int)), (51, iV (i3 : Int)), (55, r4.val), (56, iV (y3.length : Int)), (57, iV (i4 : Int))] 122 a w') List.length y3 ⟨0, ⟨[], rfl, rfl⟩, h, S.nf [] rfl (subR rfl)⟩ ?_)
    clear S h; rintro ys4 a w15 ⟨i4, ⟨dn, hd4, hi4⟩, h, S⟩
    cases ys4 with
    | nil =>
     rw [points_checkAll_l4.eq_1] at h
     refine f_seq (f_region (lv S (rn_lss (S.tm rfl) (S.tm rfl)) rfl ?_)); clear S; intro a S
     refine l_done ?_
     replace S := S.nk [] [(6, v1), (10, r4.val), (49, v1), (50, iV (r1.length : Int)), (51, iV (i3 : Int)), (55, r4.val), (56, iV (y3.length : Int)), (57, iV (i4 : Int)), (58, bV (decide ((i4 : Int) < (y3.length : Int))))] [] rfl (subR rfl)
     refine then_n (f_seq (wp_cond_false ((S.tm rfl).trans (congrArg Value.bool (rng_nil hd4 hi4))) (wp_exit (then_x (then_x (x_same ?_))))))
     refine then_n ?_
     exact ⟨h, S.nf [] rfl (subR rfl)⟩
    | cons y4 ys4 =>
     rw [points_checkAll_l4.eq_2] at h
     refine f_seq (f_region (lv S (rn_lss (S.tm rfl) (S.tm rfl)) rfl ?_)); clear S; intro a S
     refine l_done ?_
     replace S := S.nk [] [(6, v1), (10, r4.val), (49, v1), (50, iV (r1.length : Int)), (51, iV (i3 : Int)), (55, r4.val), (56, iV (y3.length : Int)), (57, iV (i4 : Int)), (58, bV (decide ((i4 : Int) < (y3.length : Int))))] [] rfl (subR rfl)
     refine then_n (f_seq (wp_cond_true ((S.tm rfl).trans (congrArg Value.bool (rng_cons hd4 hi4))) (wp_skip (then_n (f_seq (wp_block ?_))))))
     refine f_seq (f_region (lv S (rn_move (S.tm rfl)) rfl ?_)); clear S; intro a S
     obtain ⟨b7, o4, hm5, hr8⟩ := rn_indexT (a := a) (x := .tmp 55) (y := .tmp 57) (ty := 0) sl_29 hs3 (get_mid hd4 hi4) rfl (S.tm rfl) (S.tm rfl)
     refine lv S (hr8 _) rfl ?_; clear S; intro a S
     clear hr8
     refine lv S (rn_ldA Tryz.isAgg53 Tryz.sizeOf53 (off := o4) (o := 0) (part := (GScored.enc y4)) rfl rfl (S.tm rfl) (hm5.at (emb_join S.emb0 S.emb))) rfl ?_; clear S; intro a S
     refine l_alloc S Tryz.zeroValue53 (cs := [sV k_empty, sV k_empty, sV k_empty, iV 0, bV false]) rfl rfl ?_; clear S; intro a w17 b8 hz5 hk9 S
     refine lv S (rn_assign (S.tm rfl)) rfl ?_; clear S; intro a S
     refine l_store S (S.tm rfl) (S.tm rfl) (i := 0) (off := 0) rfl Tryz.sizeOf53 (vs := (GScored.enc y4)) rfl rfl rfl rfl ?_; clear S; intro w18 hk10 S
     refine l_done (then_n (f_seq (d_region [] ([]) Tryz.mixed S rfl (by kernel_rfl) ?_))); clear S; intro w19 hk11 hsel S
     refine d_rest [0, 1, 2, 3, 4, 5, 6, 7, 8, 9, 10, 11, 12, 13, 14, 15, 16, 17, 18, 19, 20, 21, 22, 23, 24] hsel (by kernel_rfl) rfl ?_
     clear hsel
     refine s_lv S rfl (rn_fld fa_53_3 (S.tm rfl)) rfl ?_; clear S; intro a S
     refine s_lv S rfl (rn_load Tryz.isAgg3 (S.tm rfl) (S.cell (i := 0) rfl rfl)) rfl ?_; clear S; intro a S
     refine s_lv S rfl (rn_gtr (S.tm rfl) rfl) rfl ?_; clear S; intro a S
     refine s_lv S rfl (rn_move (S.tm rfl)) rfl ?_; clear S; intro a S
     refine s_cutm 6 (fun a w' => Keep [] w19 w' ∧ Sx w [] φ1 [.blk b8 (GScored.enc y4) 53] [(6, v1), (10, r4.val), (11, iV (i4 : Int)), (12, .pointer (some ⟨b8, 0, none⟩)), (49, v1), (50, iV (r1.length : Int)), (51, iV (i3 : Int)), (55, r4.val), (56, iV (y3.length : Int)), (57, iV (i4 : Int)), (71, bV ((decide (0 < y4.Rank)) && (!decide (y4.Rank = (W ((i4 : Int) + 1))))))] 122 a w') ?_ ?_
     ·rcases Bool.eq_false_or_eq_true (decide (0 < y4.Rank)) with hb3 | hb3
      ·refine s_want S rfl rfl rfl rfl hb3 (s_lv0 S (rn_fld fa_53_3 (S.tm rfl)) rfl ?_); clear S; intro a S
       refine s_want S rfl rfl rfl rfl hb3 (s_lv0 S (rn_load Tryz.isAgg3 (S.tm rfl) (S.cell (i := 0) rfl rfl)) rfl ?_); clear S; intro a S
       refine s_want S rfl rfl rfl rfl hb3 (s_lv0 S (rn_move (S.tm rfl)) rfl ?_); clear S; intro a S
       refine s_want S rfl rfl rfl rfl hb3 (s_lv0 S (rn_add (S.tm rfl) rfl) rfl ?_); clear S; intro a S
       refine s_want S rfl rfl rfl rfl hb3 (s_lv0 S (rn_neq (S.tm rfl) (S.tm rfl)) rfl ?_); clear S; intro a S
       refine s_lv S rfl (rn_and_t hb3 (S.tm rfl) (S.tm rfl)) rfl ?_; clear S; intro a S
       refine s_done ?_
       exact ⟨Keep.refl _ _, S.nf [true] rfl (subR rfl)⟩
      ·iterate 5 (refine s_skip S rfl rfl rfl rfl (neq_f hb3) rfl ?_ rfl; clear S; intro a S)
       refine s_lv S rfl (rn_and_f (!decide (y4.Rank = (W ((i4 : Int) + 1)))) hb3 (S.tm rfl) rfl) rfl ?_; clear S; intro a S
       refine s_done ?_
       exact ⟨Keep.refl _ _, S.nf [true] rfl (subR rfl)⟩
     clear S; rintro a w20 ⟨hk12, S⟩
     refine s_lv S rfl (rn_move (S.tm rfl)) rfl ?_; clear S; intro a S
     obtain ⟨j5, hj5, h⟩ := joinE h
     refine s_cutm 14 (fun a w' => ∃ c1, j5 c1 = some r ∧ Keep [] w20 w' ∧ Sx w [] φ1 [.blk b8 (GScored.enc y4) 53] [(6, v1), (10, r4.val), (49, v1), (50, iV (r1.length : Int)), (51, iV (i3 : Int)), (55, r4.val), (56, iV (y3.length : Int)), (57, iV (i4 : Int)), (86, bV c1)] 122 a w') ?_ ?_
     ·rcases Bool.eq_false_or_eq_true ((decide (0 < y4.Rank)) && (!decide (y4.Rank = (W ((i4 : Int) + 1))))) with hb4 | hb4
      ·replace h := iteT h hb4
       refine s_want S rfl rfl rfl rfl hb4 (s_lv0 S (rn_move (S.tm rfl)) rfl ?_); clear S; intro a S
       refine s_want S rfl rfl rfl rfl hb4 (s_lv0 S (rn_eql (S.tm rfl) rfl) rfl ?_); clear S; intro a S
       refine s_want S rfl rfl rfl rfl hb4 (s_lv0 S (rn_move (S.tm rfl)) rfl ?_); clear S; intro a S
       obtain ⟨j6, hj6, h⟩ := joinE h
       refine s_cutm 10 (fun a w' => ∃ c2, j6 c2 = some r ∧ Keep [] w20 w' ∧ Sx w [] φ1 [.blk b8 (GScored.enc y4) 53] [(6, v1), (10, r4.val), (49, v1), (50, iV (r1.length : Int)), (51, iV (i3 : Int)), (55, r4.val), (56, iV (y3.length : Int)), (57, iV (i4 : Int)), (72, bV ((decide (0 < y4.Rank)) && (!decide (y4.Rank = (W ((i4 : Int) + 1)))))), (73, iV (i4 : Int)), (74, bV (decide ((i4 : Int) = 0))), (75, bV (decide ((i4 : Int) = 0))), (85, bV c2)] 122 a w') ?_ ?_
       ·rcases Bool.eq_false_or_eq_true (decide ((i4 : Int) = 0)) with hb5 | hb5
        ·replace h := iteT h hb5
         iterate 9 (refine s_skip S rfl rfl rfl rfl (neq_t hb5) rfl ?_ rfl; clear S; intro a S)
         refine s_want S rfl rfl rfl rfl hb4 (s_lv0 S (rn_or_t true hb5 (S.tm rfl) rfl) rfl ?_); clear S; intro a S
         refine s_done ?_
         exact ⟨_, h, Keep.refl _ _, S.nf [true] rfl (subR rfl)⟩
        ·replace h := iteF h hb5
         refine s_want S rfl rfl rfl rfl hb5 (s_lv0 S (rn_fld fa_53_3 (S.tm rfl)) rfl ?_); clear S; intro a S
         refine s_want S rfl rfl rfl rfl hb5 (s_lv0 S (rn_load Tryz.isAgg3 (S.tm rfl) (S.cell (i := 0) rfl rfl)) rfl ?_); clear S; intro a S
         refine s_want S rfl rfl rfl rfl hb5 (s_lv0 S (rn_move (S.tm rfl)) rfl ?_); clear S; intro a S
         refine s_want S rfl rfl rfl rfl hb5 (s_lv0 S (rn_move (S.tm rfl)) rfl ?_); clear S; intro a S
         refine s_want S rfl rfl rfl rfl hb5 (s_lv0 S (rn_sub (S.tm rfl) rfl) rfl ?_); clear S; intro a S
         refine s_want S rfl rfl rfl rfl hb5 ?_
         obtain ⟨hc1, h⟩ := chkE h
         obtain ⟨b9, o5, hm6, hr9⟩ := rn_indexT (a := a) (x := .tmp 78) (y := .tmp 80) (ty := 0) sl_29 hs3 (inB_get hc1).1 (inB_get hc1).2 (S.tm rfl) (S.tm rfl)
         refine s_lv0 S (hr9 _) rfl ?_; clear S; intro a S
         clear hr9
         refine s_want S rfl rfl rfl rfl hb5 (s_lv0 S (rn_fld fa_53_3 (S.tm rfl)) rfl ?_); clear S; intro a S
         refine s_want S rfl rfl rfl rfl hb5 (s_lv0 S (rn_ld Tryz.isAgg3 (off := o5) (o := 3) (S.tm rfl) (hm6.at (emb_join S.emb0 S.emb)) rfl) rfl ?_); clear S; intro a S
         refine s_want S rfl rfl rfl rfl hb5 (s_lv0 S (rn_neq (S.tm rfl) (S.tm rfl)) rfl ?_); clear S; intro a S
         refine s_want S rfl rfl rfl rfl hb4 (s_lv0 S (rn_or_f hb5 (S.tm rfl) (S.tm rfl)) rfl ?_); clear S; intro a S
         refine s_done ?_
         exact ⟨_, h, Keep.refl _ _, S.nf [true] rfl (subR rfl)⟩
       clear S h; rintro a w22 ⟨c2, h, hk13, S⟩; rw [hj6] at h; clear hj6 j6
       refine s_lv S rfl (rn_and_t hb4 (S.tm rfl) (S.tm rfl)) rfl ?_; clear S; intro a S
       refine s_done ?_
       exact ⟨_, h, hk13, S.nf [true] rfl (subR rfl)⟩
      ·replace h := iteF h hb4
       iterate 3 (refine s_skip S rfl rfl rfl rfl (neq_f hb4) rfl ?_ rfl; clear S; intro a S)
       iterate 9 (refine s_skipU S rfl rfl rfl rfl rfl ?_; clear S; intro a S)
       refine s_skip S rfl rfl rfl rfl (neq_f hb4) rfl ?_ rfl; clear S; intro a S
       refine s_lv S rfl (rn_and_f true hb4 (S.tm rfl) rfl) rfl ?_; clear S; intro a S
       refine s_done ?_
       exact ⟨_, h, Keep.refl _ _, S.nf [true] rfl (subR rfl)⟩
     clear S h; rintro a w21 ⟨c1, h, hk14, S⟩; rw [hj5] at h; clear hj5 j5
     refine s_done ?_
     replace S := S.nk [] [(6, v1), (10, r4.val), (49, v1), (50, iV (r1.length : Int)), (51, iV (i3 : Int)), (55, r4.val), (56, iV (y3.length : Int)), (57, iV (i4 : Int)), (86, bV c1)] [false] rfl (subR rfl)
     refine then_n (f_cond (S.tm rfl) (fun hb6 => ?_) (fun hb6 => ?_))
     ·replace h := iteT h hb6
      refine f_seq (f_region (lv S (rn_assign rfl) rfl ?_)); clear S; intro a S
      refine l_done (then_n (wp_ret (blk_r (then_r (then_r (blk_r ?_))))))
      refine then_r (blk_r (then_r (then_r (blk_r (then_r (then_r ?_))))))
      obtain rfl := Option.some.inj h
      exact f_ret S Tryz.results73 rfl rfl
     ·replace h := iteF h hb6
      refine wp_skip (blk_n (then_n (f_region (lv S (rn_add (S.tm rfl) rfl) rfl ?_)))); clear S; intro a S
      refine lv S (rn_move (S.tm rfl)) rfl ?_; clear S; intro a S
      refine l_done (then_n ?_)
      exact ⟨ys4, ⟨i4 + 1, ⟨_, (hd4).trans (List.append_cons _ _ _), by simp [hi4]⟩, h, S.nf [] rfl ⟨rfl, rfl, rfl, rfl, rfl, rfl, rfl, (congrArg (fun z => some (Value.int .i64 z)) (rng_next hd4 hi4 (slc_max hs3))), trivial⟩⟩, Nat.lt_succ_self _⟩
   clear S h; rintro a w16 ⟨h, S⟩; rw [hj4] at h; clear hj4 j4
   refine blk_n (then_n (f_region (lv S (rn_add (S.tm rfl) rfl) rfl ?_))); clear S; intro a S
   refine lv S (rn_move (S.tm rfl)) rfl ?_; clear S; intro a S
   refine l_done (then_n ?_)
   exact ⟨ys3, ⟨i3 + 1, ⟨_, (hd3).trans (List.append_cons _ _ _), by simp [hi3]⟩, h, S.nf [] rfl ⟨rfl, rfl, rfl, (congrArg (fun z => some (Value.int .i64 z)) (rng_next hd3 hi3 (slc_maxD hs1 hr4))), trivial⟩⟩, Nat.lt_succ_self _⟩
 clear S h; rintro a w14 ⟨h, S⟩; rw [hj3] at h; clear hj3 j3
 refine then_n (f_seq (f_seq (f_region (lv S (rn_move (S.tm rfl)) rfl ?_)))); clear S; intro a S
 refine lv S (rn_lenT sl_127 (S.tm rfl) (slc_lenD hs1 hr4)) rfl ?_; clear S; intro a S
 refine lv S (rn_move rfl) rfl ?_; clear S; intro a S
 refine l_done (then_n ?_)
 replace S := S.nk [] [(89, v1), (90, iV (r1.length : Int)), (91, iV 0)] [] rfl (subR rfl)
 obtain ⟨j7, hj7, h⟩ := joinE h
 refine f_join (fun a w' => j7 = some r ∧ Sx w [] φ1 [] [] 122 a w') ?_ ?_
 ·refine wp_block (f_loop (fun (ys5 : List (List GScored)) a w' => ∃ i5 : Nat, (∃ dn, r1 = dn ++ ys5 ∧ dn.length = i5) ∧ points_checkAll_l5 j7 ys5 i5 = some r ∧ Sx w [] φ1 [] [(89, v1), (90, iV (r1.length : Int)), (91, iV (i5 : Int))] 122 a w') List.length r1 ⟨0, ⟨[], rfl, rfl⟩, h, S.nf [] rfl (subR rfl)⟩ ?_)
  clear S h; rintro ys5 a w23 ⟨i5, ⟨dn, hd5, hi5⟩, h, S⟩
  cases ys5 with
  | nil =>
   rw [points_checkAll_l5.eq_1] at h
   refine f_seq (f_region (lv S (rn_lss (S.tm rfl) (S.tm rfl)) rfl ?_)); clear S; intro a S
   refine l_done ?_
   replace S := S.nk [] [(89, v1), (90, iV (r1.length : Int)), (91, iV (i5 : Int)), (92, bV (decide ((i5 : Int) < (r1.length : Int))))] [] rfl (subR rfl)
   refine then_n (f_seq (wp_cond_false ((S.tm rfl).trans (congrArg Value.bool (rng_nil hd5 hi5))) (wp_exit (then_x (then_x (x_same ?_))))))
   refine then_n ?_
   exact ⟨h, S.nf [] rfl trivial⟩
  | cons y5 ys5 =>
   rw [points_checkAll_l5.eq_2] at h
   refine f_seq (f_region (lv S (rn_lss (S.tm rfl) (S.tm rfl)) rfl ?_)); clear S; intro a S
   refine l_done ?_
   replace S := S.nk [] [(89, v1), (90, iV (r1.length : Int)), (91, iV (i5 : Int)), (92, bV (decide ((i5 : Int) < (r1.length : Int))))] [] rfl (subR rfl)
   refine then_n (f_seq (wp_cond_true ((S.tm rfl).trans (congrArg Value.bool (rng_cons hd5 hi5))) (wp_skip (then_n (f_seq (wp_block ?_))))))
   refine f_seq (f_region ?_)
   obtain ⟨r5, hg3, hl4⟩ := All2.at hr4 (get_mid hd5 hi5)
   have hs4 := hl4
   obtain ⟨b10, o6, hm7, hr10⟩ := rn_indexT (a := a) (x := .tmp 89) (y := .tmp 91) (ty := 0) sl_127 hs1 hg3 rfl (S.tm rfl) (S.tm rfl)
   refine lv S (hr10 _) rfl ?_; clear S; intro a S
   clear hr10
   refine lv S (rn_ld Tryz.isAgg29 (off := o6) (o := 0) (S.tm rfl) (hm7.at (emb_join S.emb0 S.emb)) rfl) rfl ?_; clear S; intro a S
   refine lv S (rn_assign (S.tm rfl)) rfl ?_; clear S; intro a S
   refine l_done (then_n (f_seq (f_region (lv S (rn_assign rfl) rfl ?_)))); clear S; intro a S
   refine l_done (then_n ?_)
   replace S := S.nk [] [(14, r5.val), (15, iV 10), (89, v1), (90, iV (r1.length : Int)), (91, iV (i5 : Int))] [] rfl (subR rfl)
   obtain ⟨j8, hj8, h⟩ := joinE h
   refine f_join (fun a w' => j8 = some r ∧ Sx w [] φ1 [] [(89, v1), (90, iV (r1.length : Int)), (91, iV (i5 : Int))] 122 a w') ?_ ?_
   ·refine wp_block (f_loop (fun (m1 : Nat) a w' => ∃ x2 : Int, points_checkAll_l6 y5 j8 m1 x2 = some r ∧ Sx w [] φ1 [] [(14, r5.val), (15, iV x2), (89, v1), (90, iV (r1.length : Int)), (91, iV (i5 : Int))] 122 a w') id (((y5.length : Int) - 10).toNat + 2) ⟨10, h, S.nf [] rfl (subR rfl)⟩ ?_)
    clear S h; rintro m1 a w25 ⟨x2, h, S⟩
    cases m1 with
    | zero => rw [points_checkAll_l6.eq_1] at h; cases h
    | succ m1 =>
     rw [points_checkAll_l6.eq_2] at h
     refine f_seq (f_seq (f_region (lv S (rn_move (S.tm rfl)) rfl ?_))); clear S; intro a S
     refine lv S (rn_move (S.tm rfl)) rfl ?_; clear S; intro a S
     refine lv S (rn_lenT sl_29 (S.tm rfl) (slc_len hs4)) rfl ?_; clear S; intro a S
     refine lv S (rn_lss (S.tm rfl) (S.tm rfl)) rfl ?_; clear S; intro a S
     refine l_done (then_n (f_cond (S.tm rfl) (fun hb7 => ?_) (fun hb7 => ?_)))
     ·replace h := iteT h hb7
      refine wp_skip (then_n (f_seq (wp_block (f_seq (d_region [] ([]) Tryz.mixed S rfl (by kernel_rfl) ?_))))); clear S; intro w27 hk15 hsel S
      refine d_rest [0, 1, 2, 3, 4, 5, 6, 7, 8, 9, 10, 11, 12, 13, 14, 15, 16, 17, 18, 19] hsel (by kernel_rfl) rfl ?_
      clear hsel
      refine s_lv S rfl (rn_move (S.tm rfl)) rfl ?_; clear S; intro a S
      refine s_lv S rfl (rn_move (S.tm rfl)) rfl ?_; clear S; intro a S
      obtain ⟨hc2, h⟩ := chkE h
      obtain ⟨b11, o7, hm8, hr11⟩ := rn_indexT (a := a) (x := .tmp 101) (y := .tmp 102) (ty := 0) sl_29 hs4 (inB_get hc2).1 (inB_get hc2).2 (S.tm rfl) (S.tm rfl)
      refine s_lv S rfl (hr11 _) rfl ?_; clear S; intro a S
      clear hr11
      refine s_lv S rfl (rn_fld fa_53_3 (S.tm rfl)) rfl ?_; clear S; intro a S
      refine s_lv S rfl (rn_ld Tryz.isAgg3 (off := o7) (o := 3) (S.tm rfl) (hm8.at (emb_join S.emb0 S.emb)) rfl) rfl ?_; clear S; intro a S
      refine s_lv S rfl (rn_gtr (S.tm rfl) rfl) rfl ?_; clear S; intro a S
      refine s_lv S rfl (rn_move (S.tm rfl)) rfl ?_; clear S; intro a S
      obtain ⟨j9, hj9, h⟩ := joinE h
      refine s_cutm 13 (fun a w' => ∃ c3, j9 c3 = some r ∧ Keep [] w27 w' ∧ Sx w [] φ1 [] [(14, r5.val), (15, iV x2), (89, v1), (90, iV (r1.length : Int)), (91, iV (i5 : Int)), (120, bV c3)] 122 a w') ?_ ?_
      ·rcases Bool.eq_false_or_eq_true (decide (0 < ((nth y5 x2).Rank))) with hb8 | hb8
       ·replace h := iteT h hb8
        refine s_want S rfl rfl rfl rfl hb8 (s_lv0 S (rn_move (S.tm rfl)) rfl ?_); clear S; intro a S
        refine s_want S rfl rfl rfl rfl hb8 (s_lv0 S (rn_move (S.tm rfl)) rfl ?_); clear S; intro a S
        refine s_want S rfl rfl rfl rfl hb8 ?_
        obtain ⟨hc3, h⟩ := chkE h
        obtain ⟨b12, o8, hm9, hr12⟩ := rn_indexT (a := a) (x := .tmp 108) (y := .tmp 109) (ty := 0) sl_29 hs4 (inB_get hc3).1 (inB_get hc3).2 (S.tm rfl) (S.tm rfl)
        refine s_lv0 S (hr12 _) rfl ?_; clear S; intro a S
        clear hr12
        refine s_want S rfl rfl rfl rfl hb8 (s_lv0 S (rn_fld fa_53_3 (S.tm rfl)) rfl ?_); clear S; intro a S
        refine s_want S rfl rfl rfl rfl hb8 (s_lv0 S (rn_ld Tryz.isAgg3 (off := o8) (o := 3) (S.tm rfl) (hm9.at (emb_join S.emb0 S.emb)) rfl) rfl ?_); clear S; intro a S
        refine s_want S rfl rfl rfl rfl hb8 (s_lv0 S (rn_move (S.tm rfl)) rfl ?_); clear S; intro a S
        refine s_want S rfl rfl rfl rfl hb8 (s_lv0 S (rn_move (S.tm rfl)) rfl ?_); clear S; intro a S
        refine s_want S rfl rfl rfl rfl hb8 (s_lv0 S (rn_sub (S.tm rfl) rfl) rfl ?_); clear S; intro a S
        refine s_want S rfl rfl rfl rfl hb8 ?_
        obtain ⟨hc4, h⟩ := chkE h
        obtain ⟨b13, o9, hm10, hr13⟩ := rn_indexT (a := a) (x := .tmp 113) (y := .tmp 115) (ty := 0) sl_29 hs4 (inB_get hc4).1 (inB_get hc4).2 (S.tm rfl) (S.tm rfl)
        refine s_lv0 S (hr13 _) rfl ?_; clear S; intro a S
        clear hr13
        refine s_want S rfl rfl rfl rfl hb8 (s_lv0 S (rn_fld fa_53_3 (S.tm rfl)) rfl ?_); clear S; intro a S
        refine s_want S rfl rfl rfl rfl hb8 (s_lv0 S (rn_ld Tryz.isAgg3 (off := o9) (o := 3) (S.tm rfl) (hm10.at (emb_join S.emb0 S.emb)) rfl) rfl ?_); clear S; intro a S
        refine s_want S rfl rfl rfl rfl hb8 (s_lv0 S (rn_eql (S.tm rfl) (S.tm rfl)) rfl ?_); clear S; intro a S
        refine s_lv S rfl (rn_and_t hb8 (S.tm rfl) (S.tm rfl)) rfl ?_; clear S; intro a S
        refine s_done ?_
        exact ⟨_, h, Keep.refl _ _, S.nf [] rfl (subR rfl)⟩
       ·replace h := iteF h hb8
        iterate 12 (refine s_skip S rfl rfl rfl rfl (neq_f hb8) rfl ?_ rfl; clear S; intro a S)
        refine s_lv S rfl (rn_and_f true hb8 (S.tm rfl) rfl) rfl ?_; clear S; intro a S
        refine s_done ?_
        exact ⟨_, h, Keep.refl _ _, S.nf [] rfl (subR rfl)⟩
      clear S h; rintro a w28 ⟨c3, h, hk16, S⟩; rw [hj9] at h; clear hj9 j9
      refine s_done ?_
      replace S := S.nk [] [(14, r5.val), (15, iV x2), (89, v1), (90, iV (r1.length : Int)), (91, iV (i5 : Int)), (120, bV c3)] [] rfl (subR rfl)
      refine then_n (f_cond (S.tm rfl) (fun hb9 => ?_) (fun hb9 => ?_))
      ·replace h := iteT h hb9
       refine f_seq (f_region (lv S (rn_assign rfl) rfl ?_)); clear S; intro a S
       refine l_done (then_n (wp_ret (blk_r (then_r (then_r (blk_r ?_))))))
       refine then_r (blk_r (then_r (then_r (blk_r (then_r (then_r ?_))))))
       obtain rfl := Option.some.inj h
       exact f_ret S Tryz.results73 rfl rfl
      ·replace h := iteF h hb9
       refine wp_skip (blk_n (then_n (f_region (lv S (rn_move (S.tm rfl)) rfl ?_)))); clear S; intro a S
       refine lv S (rn_add (S.tm rfl) rfl) rfl ?_; clear S; intro a S
       refine lv S (rn_assign (S.tm rfl)) rfl ?_; clear S; intro a S
       refine l_done (then_n ?_)
       exact ⟨m1, ⟨W (x2 + 1), h, S.nf [] rfl ⟨rfl, rfl, rfl, rfl, rfl, trivial⟩⟩, Nat.lt_succ_self _⟩
     ·replace h := iteF h hb7
      refine wp_exit (then_x (then_x (x_same (then_n ?_))))
      exact ⟨h, S.nf [] rfl (subR rfl)⟩
   clear S h; rintro a w26 ⟨h, S⟩; rw [hj8] at h; clear hj8 j8
   refine blk_n (then_n (f_region (lv S (rn_add (S.tm rfl) rfl) rfl ?_))); clear S; intro a S
   refine lv S (rn_move (S.tm rfl)) rfl ?_; clear S; intro a S
   refine l_done (then_n ?_)
   exact ⟨ys5, ⟨i5 + 1, ⟨_, (hd5).trans (List.append_cons _ _ _), by simp [hi5]⟩, h, S.nf [] rfl ⟨rfl, rfl, (congrArg (fun z => some (Value.int .i64 z)) (rng_next hd5 hi5 (slc_maxD hs1 hr4))), trivial⟩⟩, Nat.lt_succ_self _⟩
 clear S h; rintro a w24 ⟨h, S⟩; rw [hj7] at h; clear hj7 j7
 refine then_n (f_seq (f_region (lv S (rn_assign rfl) rfl ?_))); clear S; intro a S
 refine l_done (then_n (wp_ret ?_))
 obtain rfl := Option.some.inj h
 exact f_ret S Tryz.results73 rfl rfl
set_option maxRecDepth 20000 in
theorem points_CheckScored_ok (w : World) (v_p_l : Value) (p_l : List GScored) (hs_p_l : Slc (view w []) 5 v_p_l (p_l.map GScored.enc)) (r : Int) (h : points_CheckScored p_l = some r) :
    Calls Tryz.prog 40 [v_p_l].toArray w (Ret w [] fun _ v _ => v = iV r) := by
 refine f_enter [] [] Tryz.func40 rfl Tryz.ntmps40 rfl (by simp) (by simp [fps]) (by simp [fps]) fun a S => ?_
 unfold points_CheckScored at h
 replace S := S.nk [] [(0, v_p_l)] [] rfl ⟨rfl, trivial⟩
 refine f_seq (f_region (lv S (rn_assign rfl) rfl ?_)); clear S; intro a S
 refine l_done (then_n (f_seq (f_seq (f_region (lv S (rn_move (S.tm rfl)) rfl ?_))))); clear S; intro a S
 refine lv S (rn_lenT sl_29 (S.tm rfl) (slc_len hs_p_l)) rfl ?_; clear S; intro a S
 refine lv S (rn_gtr (S.tm rfl) rfl) rfl ?_; clear S; intro a S
 refine l_done (then_n (f_cond (S.tm rfl) (fun hb1 => ?_) (fun hb1 => ?_)))
 ·replace h := iteT h hb1
  refine f_seq (f_region (lv S (rn_assign rfl) rfl ?_)); clear S; intro a S
  refine l_done (then_n (wp_ret (then_r ?_)))
  obtain rfl := Option.some.inj h
  exact f_ret S Tryz.results40 rfl rfl
 ·replace h := iteF h hb1
  refine wp_skip (then_n (f_seq (f_seq (f_region (lv S (rn_move (S.tm rfl)) rfl ?_))))); clear S; intro a S
  refine lv S (rn_lenT sl_29 (S.tm rfl) (slc_len hs_p_l)) rfl ?_; clear S; intro a S
  refine lv S (rn_move rfl) rfl ?_; clear S; intro a S
  refine l_done (then_n ?_)
  replace S := S.nk [] [(0, v_p_l), (8, v_p_l), (9, iV (p_l.length : Int)), (10, iV 0)] [] rfl (subR rfl)
  obtain ⟨j1, hj1, h⟩ := joinE h
  refine f_join (fun a w' => j1 = some r ∧ Sx w [] nov [] [(0, v_p_l)] 58 a w') ?_ ?_
  ·refine wp_block (f_loop (fun (ys1 : List GScored) a w' => ∃ i1 : Nat, (∃ dn, p_l = dn ++ ys1 ∧ dn.length = i1) ∧ points_CheckScored_l1 p_l j1 ys1 i1 = some r ∧ Sx w [] nov [] [(0, v_p_l), (8, v_p_l), (9, iV (p_l.length : Int)), (10, iV (i1 : Int))] 58 a w') List.length p_l ⟨0, ⟨[], rfl, rfl⟩, h, S.nf [] rfl (subR rfl)⟩ ?_)
   clear S h; rintro ys1 a w1 ⟨i1, ⟨dn, hd1, hi1⟩, h, S⟩
   cases ys1 with
   | nil =>
    rw [points_CheckScored_l1.eq_1] at h
    refine f_seq (f_region (lv S (rn_lss (S.tm rfl) (S.tm rfl)) rfl ?_)); clear S; intro a S
    refine l_done ?_
    replace S := S.nk [] [(0, v_p_l), (8, v_p_l), (9, iV (p_l.length : Int)), (10, iV (i1 : Int)), (11, bV (decide ((i1 : Int) < (p_l.length : Int))))] [] rfl (subR rfl)
    refine then_n (f_seq (wp_cond_false ((S.tm rfl).trans (congrArg Value.bool (rng_nil hd1 hi1))) (wp_exit (then_x (then_x (x_same ?_))))))
    refine then_n ?_
    exact ⟨h, S.nf [] rfl ⟨rfl, trivial⟩⟩
   | cons y1 ys1 =>
    rw [points_CheckScored_l1.eq_2] at h
    refine f_seq (f_region (lv S (rn_lss (S.tm rfl) (S.tm rfl)) rfl ?_)); clear S; intro a S
    refine l_done ?_
    replace S := S.nk [] [(0, v_p_l), (8, v_p_l), (9, iV (p_l.length : Int)), (10, iV (i1 : Int)), (11, bV (decide ((i1 : Int) < (p_l.length : Int))))] [] rfl (subR rfl)
    refine then_n (f_seq (wp_cond_true ((S.tm rfl).trans (congrArg Value.bool (rng_cons hd1 hi1))) (wp_skip (then_n (f_seq (wp_block ?_))))))
    refine f_seq (f_region (lv S (rn_move (S.tm rfl)) rfl ?_)); clear S; intro a S
    obtain ⟨b1, o1, hm1, hr1⟩ := rn_indexT (a := a) (x := .tmp 8) (y := .tmp 10) (ty := 0) sl_29 hs_p_l (get_mid hd1 hi1) rfl (S.tm rfl) (S.tm rfl)
    refine lv S (hr1 _) rfl ?_; clear S; intro a S
    clear hr1
    refine lv S (rn_ldA Tryz.isAgg53 Tryz.sizeOf53 (off := o1) (o := 0) (part := (GScored.enc y1)) rfl rfl (S.tm rfl) (hm1.at S.emb0)) rfl ?_; clear S; intro a S
    refine l_alloc S Tryz.zeroValue53 (cs := [sV k_empty, sV k_empty, sV k_empty, iV 0, bV false]) rfl rfl ?_; clear S; intro a w3 b2 hz1 hk1 S
    refine lv S (rn_assign (S.tm rfl)) rfl ?_; clear S; intro a S
    refine l_store S (S.tm rfl) (S.tm rfl) (i := 0) (off := 0) rfl Tryz.sizeOf53 (vs := (GScored.enc y1)) rfl rfl rfl rfl ?_; clear S; intro w4 hk2 S
    refine l_done (then_n (wp_block (f_seq (f_region (lv S (rn_fld fa_53_0 (S.tm rfl)) rfl ?_))))); clear S; intro a S
    refine lv S (rn_load Tryz.isAgg9 (S.tm rfl) (S.cell (i := 0) rfl rfl)) rfl ?_; clear S; intro a S
    obtain ⟨r1, hr2, h⟩ := bindE h
    refine l_enter S (fun _ => run_call (vs := [sV y1.Race]) ⟨(S.tm rfl), trivial⟩ Tryz.call71) (words_IsKey_ok _ y1.Race _ hr2) rfl ?_; clear S; intro v1 a w5 hv1 hk3 hn1 S
    subst hv1
    refine lv S (rn_not (S.tm rfl)) rfl ?_; clear S; intro a S
    refine lv S (rn_move (S.tm rfl)) rfl ?_; clear S; intro a S
    obtain ⟨j2, hj2, h⟩ := joinE h
    refine f_cutm 5 (fun a w' => ∃ c1, j2 c1 = some r ∧ Keep [] w5 w' ∧ Sx w [] nov [.blk b2 (GScored.enc y1) 53] [(0, v_p_l), (3, iV (i1 : Int)), (4, .pointer (some ⟨b2, 0, none⟩)), (8, v_p_l), (9, iV (p_l.length : Int)), (10, iV (i1 : Int)), (25, bV c1)] 58 a w') ?_ ?_
    ·rcases Bool.eq_false_or_eq_true (!r1) with hb2 | hb2
     ·replace h := iteT h hb2
      iterate 4 (refine l_skip S rfl rfl rfl (neq_t hb2) rfl ?_ rfl; clear S; intro a S)
      refine lv S (rn_or_t true hb2 (S.tm rfl) rfl) rfl ?_; clear S; intro a S
      refine l_done (then_n ?_)
      exact ⟨_, h, Keep.refl _ _, S.nf [true] rfl (subR rfl)⟩
     ·replace h := iteF h hb2
      refine l_want S rfl rfl rfl hb2 (lv S (rn_fld fa_53_1 (S.tm rfl)) rfl ?_); clear S; intro a S
      refine l_want S rfl rfl rfl hb2 (lv S (rn_load Tryz.isAgg9 (S.tm rfl) (S.cell (i := 0) rfl rfl)) rfl ?_); clear S; intro a S
      refine l_want S rfl rfl rfl hb2 ?_
      obtain ⟨r2, hr3, h⟩ := bindE h
      refine l_enter S (fun _ => run_call (vs := [sV y1.Who]) ⟨(S.tm rfl), trivial⟩ Tryz.call71) (words_IsKey_ok _ y1.Who _ hr3) rfl ?_; clear S; intro v2 a w7 hv2 hk4 hn2 S
      subst hv2
      refine l_want S rfl rfl rfl hb2 (lv S (rn_not (S.tm rfl)) rfl ?_); clear S; intro a S
      refine lv S (rn_or_f hb2 (S.tm rfl) (S.tm rfl)) rfl ?_; clear S; intro a S
      refine l_done (then_n ?_)
      exact ⟨_, h, hk4, S.nf [true] rfl (subR rfl)⟩
    clear S h; rintro a w6 ⟨c1, h, hk5, S⟩; rw [hj2] at h; clear hj2 j2
    refine lv S (rn_move (S.tm rfl)) rfl ?_; clear S; intro a S
    obtain ⟨j3, hj3, h⟩ := joinE h
    refine f_cutm 10 (fun a w' => ∃ c2, j3 c2 = some r ∧ Keep [] w6 w' ∧ Sx w [] nov [.blk b2 (GScored.enc y1) 53] [(0, v_p_l), (3, iV (i1 : Int)), (4, .pointer (some ⟨b2, 0, none⟩)), (8, v_p_l), (9, iV (p_l.length : Int)), (10, iV (i1 : Int)), (36, bV c2)] 58 a w') ?_ ?_
    ·rcases Bool.eq_false_or_eq_true c1 with hb3 | hb3
     ·replace h := iteT h hb3
      iterate 4 (refine l_skip S rfl rfl rfl (neq_t hb3) rfl ?_ rfl; clear S; intro a S)
      iterate 4 (refine l_skipU S rfl rfl rfl rfl ?_; clear S; intro a S)
      refine l_skip S rfl rfl rfl (neq_t hb3) rfl ?_ rfl; clear S; intro a S
      refine lv S (rn_or_t true hb3 (S.tm rfl) rfl) rfl ?_; clear S; intro a S
      refine l_done (then_n ?_)
      exact ⟨_, h, Keep.refl _ _, S.nf [true] rfl (subR rfl)⟩
     ·replace h := iteF h hb3
      refine l_want S rfl rfl rfl hb3 (lv S (rn_fld fa_53_2 (S.tm rfl)) rfl ?_); clear S; intro a S
      refine l_want S rfl rfl rfl hb3 (lv S (rn_load Tryz.isAgg9 (S.tm rfl) (S.cell (i := 0) rfl rfl)) rfl ?_); clear S; intro a S
      refine l_want S rfl rfl rfl hb3 (lv S (rn_sneq (S.tm rfl) rfl) rfl ?_); clear S; intro a S
      refine l_want S rfl rfl rfl hb3 (lv S (rn_move (S.tm rfl)) rfl ?_); clear S; intro a S
      obtain ⟨j4, hj4, h⟩ := joinE h
      refine f_cutm 5 (fun a w' => ∃ c3, j4 c3 = some r ∧ Keep [] w6 w' ∧ Sx w [] nov [.blk b2 (GScored.enc y1) 53] [(0, v_p_l), (3, iV (i1 : Int)), (4, .pointer (some ⟨b2, 0, none⟩)), (8, v_p_l), (9, iV (p_l.length : Int)), (10, iV (i1 : Int)), (26, bV c1), (27, .pointer (some ⟨b2, 2, none⟩)), (28, sV y1.Club), (29, bV (!decide (y1.Club = k_empty))), (30, bV (!decide (y1.Club = k_empty))), (35, bV c3)] 58 a w') ?_ ?_
      ·rcases Bool.eq_false_or_eq_true (!decide (y1.Club = k_empty)) with hb4 | hb4
       ·replace h := iteT h hb4
        refine l_want S rfl rfl rfl hb4 (lv S (rn_fld fa_53_2 (S.tm rfl)) rfl ?_); clear S; intro a S
        refine l_want S rfl rfl rfl hb4 (lv S (rn_load Tryz.isAgg9 (S.tm rfl) (S.cell (i := 0) rfl rfl)) rfl ?_); clear S; intro a S
        refine l_want S rfl rfl rfl hb4 ?_
        obtain ⟨r3, hr4, h⟩ := bindE h
        refine l_enter S (fun _ => run_call (vs := [sV y1.Club]) ⟨(S.tm rfl), trivial⟩ Tryz.call71) (words_IsKey_ok _ y1.Club _ hr4) rfl ?_; clear S; intro v3 a w10 hv3 hk6 hn3 S
        subst hv3
        refine l_want S rfl rfl rfl hb4 (lv S (rn_not (S.tm rfl)) rfl ?_); clear S; intro a S
        refine l_want S rfl rfl rfl hb3 (lv S (rn_and_t hb4 (S.tm rfl) (S.tm rfl)) rfl ?_); clear S; intro a S
        refine l_done (then_n ?_)
        exact ⟨_, h, hk6, S.nf [true] rfl (subR rfl)⟩
       ·replace h := iteF h hb4
        iterate 4 (refine l_skip S rfl rfl rfl (neq_f hb4) rfl ?_ rfl; clear S; intro a S)
        refine l_want S rfl rfl rfl hb3 (lv S (rn_and_f true hb4 (S.tm rfl) rfl) rfl ?_); clear S; intro a S
        refine l_done (then_n ?_)
        exact ⟨_, h, Keep.refl _ _, S.nf [true] rfl (subR rfl)⟩
      clear S h; rintro a w9 ⟨c3, h, hk7, S⟩; rw [hj4] at h; clear hj4 j4
      refine lv S (rn_or_f hb3 (S.tm rfl) (S.tm rfl)) rfl ?_; clear S; intro a S
      refine l_done (then_n ?_)
      exact ⟨_, h, hk7, S.nf [true] rfl (subR rfl)⟩
    clear S h; rintro a w8 ⟨c2, h, hk8, S⟩; rw [hj3] at h; clear hj3 j3
    refine lv S (rn_assign (S.tm rfl)) rfl ?_; clear S; intro a S
    refine l_done (then_n (f_cond (S.tm rfl) (fun hb5 => ?_) (fun hb5 => ?_)))
    ·replace h := iteT h hb5
     refine f_seq (f_region (lv S (rn_assign rfl) rfl ?_)); clear S; intro a S
     refine l_done (then_n (wp_ret (blk_r (blk_r (then_r (then_r ?_))))))
     refine blk_r (then_r (then_r ?_))
     obtain rfl := Option.some.inj h
     exact f_ret S Tryz.results40 rfl rfl
    ·replace h := iteF h hb5
     refine f_seq (f_region (lv S (rn_fld fa_53_3 (S.tm rfl)) rfl ?_)); clear S; intro a S
     refine lv S (rn_load Tryz.isAgg3 (S.tm rfl) (S.cell (i := 0) rfl rfl)) rfl ?_; clear S; intro a S
     refine l_enter S (fun _ => run_call (vs := [iV y1.Rank, iV 0, iV 300]) ⟨(S.tm rfl), rfl, rfl, trivial⟩ Tryz.call21) (words_Within_ok _ y1.Rank 0 300 _ rfl) rfl ?_; clear S; intro v4 a w11 hv4 hk9 hn4 S
     subst hv4
     refine lv S (rn_not (S.tm rfl)) rfl ?_; clear S; intro a S
     refine lv S (rn_assign (S.tm rfl)) rfl ?_; clear S; intro a S
     refine l_done (then_n (f_cond (S.tm rfl) (fun hb6 => ?_) (fun hb6 => ?_)))
     ·replace h := iteT h hb6
      refine f_seq (f_region (lv S (rn_assign rfl) rfl ?_)); clear S; intro a S
      refine l_done (then_n (wp_ret (blk_r (blk_r (then_r (then_r ?_))))))
      refine blk_r (then_r (then_r ?_))
      obtain rfl := Option.some.inj h
      exact f_ret S Tryz.results40 rfl rfl
     ·replace h := iteF h hb6
      refine f_seq ?_
      obtain ⟨j5, hj5, h⟩ := joinE h
      refine f_join (fun a w' => ∃ x1 : Bool, j5 x1 = some r ∧ Sx w [] nov [] [(0, v_p_l), (8, v_p_l), (9, iV (p_l.length : Int)), (10, iV (i1 : Int)), (42, bV x1)] 58 a w') ?_ ?_
      ·rcases Bool.eq_false_or_eq_true (decide (0 < (i1 : Int))) with hb7 | hb7
       ·replace h := iteT h hb7
        obtain ⟨hc1, h⟩ := chkE h
        refine d_region [] ([]) Tryz.mixed S rfl (by kernel_rfl) ?_; clear S; intro w14 hk11 hsel S
        refine d_quiet 0 S hsel rfl rfl rfl (by kernel_rfl) (by kernel_rfl) rfl (fun _ hw => (rn_move (S.tm rfl))) ?_; clear S; intro a S
        refine d_quiet 1 S hsel rfl rfl rfl (by kernel_rfl) (by kernel_rfl) rfl (fun _ hw => (rn_gtr (S.tm rfl) rfl)) ?_; clear S; intro a S
        refine d_quiet 2 S hsel rfl rfl rfl (by kernel_rfl) (by kernel_rfl) rfl (fun _ hw => (rn_move (S.tm rfl))) ?_; clear S; intro a S
        refine d_quiet_g 3 S hsel rfl rfl rfl rfl hb7 rfl rfl (by kernel_rfl) (by kernel_rfl) rfl (fun _ hw => (rn_move (S.tm rfl))) ?_; clear S; intro a S
        refine d_quiet_g 4 S hsel rfl rfl rfl rfl hb7 rfl rfl (by kernel_rfl) (by kernel_rfl) rfl (fun _ hw => (rn_move (S.tm rfl))) ?_; clear S; intro a S
        refine d_quiet_g 5 S hsel rfl rfl rfl rfl hb7 rfl rfl (by kernel_rfl) (by kernel_rfl) rfl (fun _ hw => (rn_sub (S.tm rfl) rfl)) ?_; clear S; intro a S
        obtain ⟨b4, o3, hm3, hr6⟩ := rn_indexT (a := a) (x := .tmp 46) (y := .tmp 48) (ty := 0) sl_29 (hs_p_l.mono (S.le_arg nil_sub)) (inB_get hc1).1 (inB_get hc1).2 (S.tm rfl) (S.tm rfl)
        refine d_quiet_g 6 S hsel rfl rfl rfl rfl hb7 rfl rfl (by kernel_rfl) (by kernel_rfl) rfl (fun _ hw => hr6 _) ?_; clear S; intro a S
        clear hr6
        refine d_quiet_g 7 S hsel rfl rfl rfl rfl hb7 rfl rfl (by kernel_rfl) (by kernel_rfl) rfl (fun _ hw => (rn_ldA Tryz.isAgg53 Tryz.sizeOf53 (off := o3) (o := 0) (part := (GScored.enc (nth p_l (W ((i1 : Int) - 1))))) rfl rfl (S.tm rfl) (hm3.kept hw))) ?_; clear S; intro a S
        refine d_quiet_g 8 S hsel rfl rfl rfl rfl hb7 rfl rfl (by kernel_rfl) (by kernel_rfl) rfl (fun _ hw => (rn_ldA Tryz.isAgg53 Tryz.sizeOf53 (off := 0) (o := 0) (part := (GScored.enc y1)) rfl rfl (S.tm rfl) ((S.blk_mem (i := 0) (cells := (GScored.enc y1)) (b := b2) (T := 53) rfl (ne_nil (e' := .blk b2 (GScored.enc y1) 53))).kept hw))) ?_; clear S; intro a S
        refine d_loud1 9 (by kernel_rfl) rfl (l_want S rfl rfl rfl hb7 (l_enter S (fun _ => run_call (vs := [.agg (GScored.enc (nth p_l (W ((i1 : Int) - 1)))).toArray, .agg (GScored.enc y1).toArray]) ⟨(S.tm rfl), (S.tm rfl), trivial⟩ Tryz.call72) (points_compare_ok _ (nth p_l (W ((i1 : Int) - 1))) y1 _ rfl) rfl ?_)); clear S; intro v6 a w15 hv6 hk12 hn6 S
        subst hv6
        refine l_done (d_next hk12 (d_rest [10, 11, 12] hsel (by kernel_rfl) rfl ?_))
        clear hsel
        refine s_want S rfl rfl rfl rfl hb7 (s_lv0 S (rn_geq (S.tm rfl) rfl) rfl ?_); clear S; intro a S
        refine s_lv S rfl (rn_pick_b hb7 (S.tm rfl) (S.tm rfl)) rfl ?_; clear S; intro a S
        refine s_lv S rfl (rn_assign (S.tm rfl)) rfl ?_; clear S; intro a S
        refine s_done ?_
        replace S := S.nk [] [(0, v_p_l), (8, v_p_l), (9, iV (p_l.length : Int)), (10, iV (i1 : Int)), (42, bV (decide (0 ≤ (points_compare (nth p_l (W ((i1 : Int) - 1))) y1)))), (46, v_p_l), (47, iV (i1 : Int)), (48, iV (W ((i1 : Int) - 1))), (49, .pointer (some ⟨b4, o3, none⟩)), (50, .agg (GScored.enc (nth p_l (W ((i1 : Int) - 1)))).toArray), (51, .agg (GScored.enc y1).toArray), (52, iV (points_compare (nth p_l (W ((i1 : Int) - 1))) y1)), (53, bV (decide (0 ≤ (points_compare (nth p_l (W ((i1 : Int) - 1))) y1))))] [false] rfl (subR rfl)
        refine then_n ?_
        exact ⟨decide (0 ≤ (points_compare (nth p_l (W ((i1 : Int) - 1))) y1)), h, S.nf [] rfl (subR rfl)⟩
       ·replace h := iteF h hb7
        refine d_region [] ([]) Tryz.mixed S rfl (by kernel_rfl) ?_; clear S; intro w16 hk13 hsel S
        refine d_rest [0, 1, 2, 3, 4, 5, 6, 7, 8, 9, 10, 11, 12] hsel (by kernel_rfl) rfl ?_
        clear hsel
        refine s_lv S rfl (rn_move (S.tm rfl)) rfl ?_; clear S; intro a S
        refine s_lv S rfl (rn_gtr (S.tm rfl) rfl) rfl ?_; clear S; intro a S
        refine s_lv S rfl (rn_move (S.tm rfl)) rfl ?_; clear S; intro a S
        iterate 8 (refine s_skip S rfl rfl rfl rfl (neq_f hb7) rfl ?_ rfl; clear S; intro a S)
        refine s_lv S rfl (rn_pick_c hb7 (S.tm rfl) rfl) rfl ?_; clear S; intro a S
        refine s_lv S rfl (rn_assign (S.tm rfl)) rfl ?_; clear S; intro a S
        refine s_done ?_
        replace S := S.nk [] [(0, v_p_l), (8, v_p_l), (9, iV (p_l.length : Int)), (10, iV (i1 : Int)), (42, bV false)] [false] rfl (subR rfl)
        refine then_n ?_
        exact ⟨false, h, S.nf [] rfl (subR rfl)⟩
      clear S h; rintro a w12 ⟨x1, h, S⟩; rw [hj5] at h; clear hj5 j5
      refine then_n (f_cond (S.tm rfl) (fun hb8 => ?_) (fun hb8 => ?_))
      ·replace h := iteT h hb8
       refine f_seq (f_region (lv S (rn_assign rfl) rfl ?_)); clear S; intro a S
       refine l_done (then_n (wp_ret (blk_r (blk_r (then_r (then_r ?_))))))
       refine blk_r (then_r (then_r ?_))
       obtain rfl := Option.some.inj h
       exact f_ret S Tryz.results40 rfl rfl
      ·replace h := iteF h hb8
       refine wp_skip (blk_n (blk_n (then_n (f_region (lv S (rn_add (S.tm rfl) rfl) rfl ?_))))); clear S; intro a S
       refine lv S (rn_move (S.tm rfl)) rfl ?_; clear S; intro a S
       refine l_done (then_n ?_)
       exact ⟨ys1, ⟨i1 + 1, ⟨_, (hd1).trans (List.append_cons _ _ _), by simp [hi1]⟩, h, S.nf [] rfl ⟨rfl, rfl, rfl, (congrArg (fun z => some (Value.int .i64 z)) (rng_next hd1 hi1 (slc_max hs_p_l))), trivial⟩⟩, Nat.lt_succ_self _⟩
  clear S h; rintro a w2 ⟨h, S⟩; rw [hj1] at h; clear hj1 j1
  refine then_n (f_seq (f_region (lv S (rn_move (S.tm rfl)) rfl ?_))); clear S; intro a S
  obtain ⟨r4, hr7, h⟩ := bindE h
  refine l_enter S (fun _ => run_call (vs := [v_p_l]) ⟨(S.tm rfl), trivial⟩ Tryz.call73) (points_checkAll_ok _ v_p_l p_l (hs_p_l.mono (S.le_arg nil_sub)) _ hr7) rfl ?_; clear S; intro v7 a w17 hv7 hk14 hn7 S
  subst hv7
  refine lv S (rn_assign (S.tm rfl)) rfl ?_; clear S; intro a S
  refine l_done (then_n (wp_ret ?_))
  obtain rfl := Option.some.inj h
  exact f_ret S Tryz.results40 rfl rfl
theorem points_checkBoth_ok (w : World) (p_t : GTable) (q_p_t : R27) (hq_p_t : rel_27 (view w []) p_t q_p_t) (v_p_l : Value) (p_l : List GScored) (hs_p_l : Slc (view w []) 5 v_p_l (p_l.map GScored.enc)) (r : Int) (h : points_checkBoth p_t p_l = some r) :
    Calls Tryz.prog 18 [.agg (R27.enc q_p_t).toArray, v_p_l].toArray w (Ret w [] fun _ v _ => v = iV r) := by
 obtain ⟨u1, rfl, hs1⟩ := hq_p_t
 refine f_enter [] [] Tryz.func18 rfl Tryz.ntmps18 rfl (by simp) (by simp [fps]) (by simp [fps]) fun a S => ?_
 unfold points_checkBoth at h
 replace S := S.nk [] [(0, .agg #[u1.val, iV p_t.Relay, iV p_t.Most]), (1, v_p_l)] [] rfl (subR rfl)
 refine f_seq (f_region (l_box S (S.tm rfl) (cs := [u1.val, iV p_t.Relay, iV p_t.Most]) rfl rfl ?_)); clear S; intro a w1 b1 hz1 hk1 S
 refine lv S (rn_assign rfl) rfl ?_; clear S; intro a S
 refine l_done (then_n (f_seq (f_seq (f_region (lv S (rn_ldA Tryz.isAgg27 Tryz.sizeOf27 (off := 0) (o := 0) (part := [u1.val, iV p_t.Relay, iV p_t.Most]) rfl rfl (S.tm rfl) (S.cellsAt (i := 0) rfl)) rfl ?_))))); clear S; intro a S
 obtain ⟨r1, hr1, h⟩ := bindE h
 refine l_enter S (fun _ => run_call (vs := [.agg (R27.enc (R27.mk u1 p_t.Relay p_t.Most)).toArray]) ⟨(S.tm rfl), trivial⟩ Tryz.call39) (points_CheckTable_ok _ p_t (R27.mk u1 p_t.Relay p_t.Most) ⟨u1, rfl, (hs1.mono (S.le_arg nil_sub))⟩ _ hr1) rfl ?_; clear S; intro v1 a w2 hv1 hk2 hn1 S
 subst hv1
 refine lv S (rn_assign (S.tm rfl)) rfl ?_; clear S; intro a S
 refine l_done (then_n (f_seq (f_region (lv S (rn_move (S.tm rfl)) rfl ?_)))); clear S; intro a S
 refine lv S (rn_neq (S.tm rfl) rfl) rfl ?_; clear S; intro a S
 refine l_done (then_n (f_cond (S.tm rfl) (fun hb1 => ?_) (fun hb1 => ?_)))
 ·replace h := iteT h hb1
  refine f_seq (f_region (lv S (rn_move (S.tm rfl)) rfl ?_)); clear S; intro a S
  refine lv S (rn_assign (S.tm rfl)) rfl ?_; clear S; intro a S
  refine l_done (then_n (wp_ret (then_r ?_)))
  obtain rfl := Option.some.inj h
  exact f_ret S Tryz.results18 rfl rfl
 ·replace h := iteF h hb1
  refine wp_skip (then_n (f_seq (f_region (lv S (rn_move (S.tm rfl)) rfl ?_)))); clear S; intro a S
  obtain ⟨r2, hr2, h⟩ := bindE h
  refine l_enter S (fun _ => run_call (vs := [v_p_l]) ⟨(S.tm rfl), trivial⟩ Tryz.call40) (points_CheckScored_ok _ v_p_l p_l (hs_p_l.mono (S.le_arg nil_sub)) _ hr2) rfl ?_; clear S; intro v2 a w3 hv2 hk3 hn2 S
  subst hv2
  refine lv S (rn_assign (S.tm rfl)) rfl ?_; clear S; intro a S
  refine l_done (then_n (wp_ret ?_))
  obtain rfl := Option.some.inj h
  exact f_ret S Tryz.results18 rfl rfl
theorem points_none_ok (w : World) (r : GFraction) (h : points_none = r) :
    Calls Tryz.prog 43 [].toArray w (Ret w [] fun _ v _ => v = .agg (GFraction.enc r).toArray) := by
 refine f_enter [] [] Tryz.func43 rfl Tryz.ntmps43 rfl (by simp) (by simp [fps]) (by simp [fps]) fun a S => ?_
 unfold points_none at h
 replace S := S.nk [] [] [] rfl trivial
 refine f_seq (f_region (l_alloc S Tryz.zeroValue43 (cs := [iV 0, iV 0]) rfl rfl ?_)); clear S; intro a w1 b1 hz1 hk1 S
 refine l_done (then_n (f_seq (f_region (lv S (rn_bld bt_43 (pv := [(0, iV 0), (1, iV 1)]) ⟨rfl, rfl, rfl, rfl, trivial⟩ (cs := [iV 0, iV 1]) (by kernel_rfl)) rfl ?_)))); clear S; intro a S
 refine l_store S (S.tm rfl) (S.tm rfl) (i := 0) (off := 0) rfl Tryz.sizeOf43 (vs := [iV 0, iV 1]) rfl rfl rfl rfl ?_; clear S; intro w2 hk2 S
 refine l_done (then_n (wp_ret ?_))
 subst h
 exact f_retG S (rs := [.cell 0 43]) (vs := [.agg #[iV 0, iV 1]]) Tryz.results43 ⟨(res_cell (off := 0) S rfl Tryz.isAgg43 Tryz.sizeOf43 rfl (S.cellsAt (i := 0) rfl)), trivial⟩ rfl rfl
theorem words_Fraction_ok (w : World) (p_a : Int) (p_b : Int) (r : GFraction) (h : words_Fraction p_a p_b = some r) :
    Calls Tryz.prog 46 [iV p_a, iV p_b].toArray w (Ret w [] fun _ v _ => v = .agg (GFraction.enc r).toArray) := by
 refine f_enter [] [] Tryz.func46 rfl Tryz.ntmps46 rfl (by simp) (by simp [fps]) (by simp [fps]) fun a S => ?_
 unfold words_Fraction at h
 replace S := S.nk [] [(0, iV p_a), (1, iV p_b)] [] rfl (subR rfl)
 refine f_seq (f_region (l_alloc S Tryz.zeroValue43 (cs := [iV 0, iV 0]) rfl rfl ?_)); clear S; intro a w1 b1 hz1 hk1 S
 refine l_done (then_n (f_seq (f_region (lv S (rn_move (S.tm rfl)) rfl ?_)))); clear S; intro a S
 refine lv S (rn_move (S.tm rfl)) rfl ?_; clear S; intro a S
 refine lv S (rn_assign (S.tm rfl)) rfl ?_; clear S; intro a S
 refine lv S (rn_assign (S.tm rfl)) rfl ?_; clear S; intro a S
 refine l_done (then_n (f_seq ?_))
 replace S := S.nk [.blk b1 [iV 0, iV 0] 43] [(0, iV p_a), (1, iV p_b), (4, .pointer (some ⟨b1, 0, none⟩)), (5, iV p_a), (6, iV p_b)] [true] rfl (subR rfl)
 obtain ⟨j1, hj1, h⟩ := joinE h
 refine f_join (fun a w' => ∃ x2 : Int, j1 x2 = some r ∧ Sx w [] nov [.blk b1 [iV 0, iV 0] 43] [(0, iV p_a), (1, iV p_b), (4, .pointer (some ⟨b1, 0, none⟩)), (6, iV x2)] 22 a w') ?_ ?_
 ·refine wp_block (f_loop (fun (m1 : Nat) a w' => ∃ x1 : Int, ∃ x2 : Int, words_Fraction_l1 j1 m1 x1 x2 = some r ∧ Sx w [] nov [.blk b1 [iV 0, iV 0] 43] [(0, iV p_a), (1, iV p_b), (4, .pointer (some ⟨b1, 0, none⟩)), (5, iV x1), (6, iV x2)] 22 a w') id ((p_a - 0).toNat + 2) ⟨p_a, p_b, h, S.nf [true] rfl (subR rfl)⟩ ?_)
  clear S h; rintro m1 a w2 ⟨x1, x2, h, S⟩
  cases m1 with
  | zero => rw [words_Fraction_l1.eq_1] at h; cases h
  | succ m1 =>
   rw [words_Fraction_l1.eq_2] at h
   refine f_seq (f_seq (f_region (lv S (rn_move (S.tm rfl)) rfl ?_))); clear S; intro a S
   refine lv S (rn_gtr (S.tm rfl) rfl) rfl ?_; clear S; intro a S
   refine l_done (then_n (f_cond (S.tm rfl) (fun hb1 => ?_) (fun hb1 => ?_)))
   ·replace h := iteT h hb1
    refine wp_skip (then_n (wp_block (f_region (lv S (rn_move (S.tm rfl)) rfl ?_)))); clear S; intro a S
    refine lv S (rn_move (S.tm rfl)) rfl ?_; clear S; intro a S
    obtain ⟨hc1, h⟩ := chkE h
    refine lv S (rn_rem (S.tm rfl) (S.tm rfl) (ne0_of hc1)) rfl ?_; clear S; intro a S
    refine lv S (rn_move (S.tm rfl)) rfl ?_; clear S; intro a S
    refine lv S (rn_assign (S.tm rfl)) rfl ?_; clear S; intro a S
    refine lv S (rn_assign (S.tm rfl)) rfl ?_; clear S; intro a S
    refine l_done (blk_n (then_n ?_))
    exact ⟨m1, ⟨Int.tmod x2 x1, x1, h, S.nf [true] rfl ⟨rfl, rfl, rfl, rfl, rfl, trivial⟩⟩, Nat.lt_succ_self _⟩
   ·replace h := iteF h hb1
    refine wp_exit (then_x (then_x (x_same (then_n ?_))))
    exact ⟨x2, h, S.nf [true] rfl (subR rfl)⟩
 clear S h; rintro a w3 ⟨x2, h, S⟩; rw [hj1] at h; clear hj1 j1
 refine then_n (f_seq ?_)
 obtain ⟨hc2, h⟩ := chkE h
 obtain ⟨hc3, h⟩ := chkE h
 refine d_region [] ([b1]) Tryz.mixed S rfl (by kernel_rfl) ?_; clear S; intro w5 hk3 hsel S
 refine d_quiet 0 S hsel rfl rfl rfl (by kernel_rfl) (by kernel_rfl) rfl (fun _ hw => (rn_move (S.tm rfl))) ?_; clear S; intro a S
 refine d_quiet 1 S hsel rfl rfl rfl (by kernel_rfl) (by kernel_rfl) rfl (fun _ hw => (rn_move (S.tm rfl))) ?_; clear S; intro a S
 refine d_quiet 2 S hsel rfl rfl rfl (by kernel_rfl) (by kernel_rfl) rfl (fun _ hw => (rn_quo (S.tm rfl) (S.tm rfl) (ne0_of hc2))) ?_; clear S; intro a S
 refine d_quiet 3 S hsel rfl rfl rfl (by kernel_rfl) (by kernel_rfl) rfl (fun _ hw => (rn_move (S.tm rfl))) ?_; clear S; intro a S
 refine d_quiet 4 S hsel rfl rfl rfl (by kernel_rfl) (by kernel_rfl) rfl (fun _ hw => (rn_move (S.tm rfl))) ?_; clear S; intro a S
 refine d_quiet 5 S hsel rfl rfl rfl (by kernel_rfl) (by kernel_rfl) rfl (fun _ hw => (rn_quo (S.tm rfl) (S.tm rfl) (ne0_of hc3))) ?_; clear S; intro a S
 refine d_quiet 6 S hsel rfl rfl rfl (by kernel_rfl) (by kernel_rfl) rfl (fun _ hw => (rn_bld bt_43 (pv := [(0, iV (W (Int.tdiv p_a x2))), (1, iV (W (Int.tdiv p_b x2)))]) ⟨rfl, (S.tm rfl), rfl, (S.tm rfl), trivial⟩ (cs := [iV (W (Int.tdiv p_a x2)), iV (W (Int.tdiv p_b x2))]) (by kernel_rfl))) ?_; clear S; intro a S
 refine d_loud1 7 (by kernel_rfl) rfl (l_store S (S.tm rfl) (S.tm rfl) (i := 0) (off := 0) rfl Tryz.sizeOf43 (vs := [iV (W (Int.tdiv p_a x2)), iV (W (Int.tdiv p_b x2))]) rfl rfl rfl rfl ?_); clear S; intro w6 hk4 S
 refine l_done (d_next hk4 (d_end (by kernel_rfl) ?_))
 clear hsel
 replace S := S.nk [.blk b1 [iV (W (Int.tdiv p_a x2)), iV (W (Int.tdiv p_b x2))] 43] [(4, .pointer (some ⟨b1, 0, none⟩))] [true] rfl ⟨rfl, trivial⟩
 refine then_n (wp_ret ?_)
 obtain rfl := Option.some.inj h
 exact f_retG S (rs := [.cell 4 43]) (vs := [.agg #[iV (W (Int.tdiv p_a x2)), iV (W (Int.tdiv p_b x2))]]) Tryz.results46 ⟨(res_cell (off := 0) S rfl Tryz.isAgg43 Tryz.sizeOf43 rfl (S.cellsAt (i := 0) rfl)), trivial⟩ rfl rfl
end Go.Proofs.YteppmbaanjlmmaaGreatDoor
