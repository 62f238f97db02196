/- Each Go function computes its plain twin, by program. -/
import Derived.Test.YtolmdpjkmjfjdaaGreatDoorTab
import Derived.Test.YtolmdpjkmjfjdaaGreatDoorLay
namespace Go.Proofs.YtolmdpjkmjfjdaaGreatDoor
open Go
theorem tumbmake_Below_ok (w : World) (p_x : Int) (p_n : Int) (r : Int) (h : tumbmake_Below p_x p_n = some r) :
    Calls Tryz.prog 33 [iV p_x, iV p_n].toArray w (Ret w [] fun _ v _ => v = iV r) := by
 refine f_enter [] [] Tryz.func33 rfl Tryz.ntmps33 rfl (by simp) (by simp [fps]) (by simp [fps]) fun a S => ?_
 unfold tumbmake_Below at h
 replace S := S.nk [] [(0, iV p_x), (1, iV p_n)] [] rfl (subR rfl)
 refine f_seq (f_region (lv S (rn_assign rfl) rfl ?_)); clear S; intro a S
 refine l_done (then_n (f_seq (f_seq (f_region (lv S (rn_move (S.tm rfl)) rfl ?_))))); clear S; intro a S
 refine lv S (rn_lss (S.tm rfl) rfl) rfl ?_; clear S; intro a S
 refine l_done (then_n (f_cond (S.tm rfl) (fun hb1 => ?_) (fun hb1 => ?_)))
 ·replace h := iteT h hb1
  refine f_seq (f_region (lv S (rn_assign rfl) rfl ?_)); clear S; intro a S
  refine l_done (then_n (wp_ret (then_r ?_)))
  obtain rfl := Option.some.inj h
  exact f_ret S Tryz.results33 rfl rfl
 ·replace h := iteF h hb1
  refine wp_skip (then_n (f_seq (f_region (lv S (rn_move (S.tm rfl)) rfl ?_)))); clear S; intro a S
  refine lv S (rn_move (S.tm rfl)) rfl ?_; clear S; intro a S
  obtain ⟨hc1, h⟩ := chkE h
  refine lv S (rn_rem (S.tm rfl) (S.tm rfl) (ne0_of hc1)) rfl ?_; clear S; intro a S
  refine lv S (rn_assign (S.tm rfl)) rfl ?_; clear S; intro a S
  refine l_done (then_n (f_seq (f_seq (f_region (lv S (rn_move (S.tm rfl)) rfl ?_))))); clear S; intro a S
  refine lv S (rn_lss (S.tm rfl) rfl) rfl ?_; clear S; intro a S
  refine l_done (then_n ?_)
  obtain ⟨j1, hj1, h⟩ := joinE h
  refine f_join (fun a w' => ∃ x1 : Int, j1 x1 = some r ∧ Sx w [] nov [] [(0, iV x1)] 16 a w') ?_ ?_
  ·refine f_cond (S.tm rfl) (fun hb2 => ?_) (fun hb2 => ?_)
   ·replace h := iteT h hb2
    refine f_region (lv S (rn_move (S.tm rfl)) rfl ?_); clear S; intro a S
    refine lv S (rn_move (S.tm rfl)) rfl ?_; clear S; intro a S
    refine lv S (rn_add (S.tm rfl) (S.tm rfl)) rfl ?_; clear S; intro a S
    refine lv S (rn_assign (S.tm rfl)) rfl ?_; clear S; intro a S
    refine l_done (then_n ?_)
    exact ⟨W ((Int.tmod p_x p_n) + p_n), h, S.nf [] rfl ⟨rfl, trivial⟩⟩
   ·replace h := iteF h hb2
    refine wp_skip (then_n ?_)
    exact ⟨Int.tmod p_x p_n, h, S.nf [] rfl ⟨rfl, trivial⟩⟩
  clear S h; rintro a w1 ⟨x1, h, S⟩; rw [hj1] at h; clear hj1 j1
  refine then_n (f_seq (f_region (lv S (rn_move (S.tm rfl)) rfl ?_))); clear S; intro a S
  refine lv S (rn_assign (S.tm rfl)) rfl ?_; clear S; intro a S
  refine l_done (then_n (wp_ret ?_))
  obtain rfl := Option.some.inj h
  exact f_ret S Tryz.results33 rfl rfl
set_option maxRecDepth 20000 in
theorem Stream_Next_ok (w : World) (b_p_s : Nat) (v_p_s_L : Value) (p_s_L : List Int) (hs_p_s_L : Slc (view w [b_p_s]) 1 v_p_s_L (p_s_L.map eInt)) (p_s_at : Int) (hb_b_p_s : (LEnt.blk b_p_s [v_p_s_L, iV p_s_at] 25).holds w) (p_n : Int) (r : Int × Int) (h : Stream_Next p_s_L p_s_at p_n = some r) :
    Calls Tryz.prog 17 [.pointer (some ⟨b_p_s, 0, none⟩), iV p_n].toArray w (Ret w [b_p_s] fun _ v w' => (LEnt.blk b_p_s [v_p_s_L, iV r.2] 25).holds w' ∧ v = iV r.1) := by
 refine f_enter [b_p_s] [.blk b_p_s [v_p_s_L, iV p_s_at] 25] Tryz.func17 rfl Tryz.ntmps17 rfl (fun e he => by simp only [List.mem_singleton] at he; subst he; exact hb_b_p_s) (by simp [fps, LEnt.fp]) (by simp [fps, LEnt.fp]) fun a S => ?_
 unfold Stream_Next at h
 replace S := S.nk [.blk b_p_s [v_p_s_L, iV p_s_at] 25] [(0, .pointer (some ⟨b_p_s, 0, none⟩)), (1, iV p_n)] [true] rfl (subR rfl)
 refine f_seq (f_region (lv S (rn_assign rfl) rfl ?_)); clear S; intro a S
 refine l_done (then_n (f_seq (f_region (lv S (rn_move (S.tm rfl)) rfl ?_)))); clear S; intro a S
 refine lv S (rn_nilCheck (S.tm rfl)) rfl ?_; clear S; intro a S
 refine lv S (rn_fld fa_25_1 (S.tm rfl)) rfl ?_; clear S; intro a S
 refine lv S (rn_load Tryz.isAgg3 (S.tm rfl) (S.cell (i := 0) rfl rfl)) rfl ?_; clear S; intro a S
 refine lv S (rn_add (S.tm rfl) rfl) rfl ?_; clear S; intro a S
 refine lv S (rn_nilCheck (S.tm rfl)) rfl ?_; clear S; intro a S
 refine lv S (rn_fld fa_25_1 (S.tm rfl)) rfl ?_; clear S; intro a S
 refine l_store S (S.tm rfl) (S.tm rfl) (i := 0) (off := 1) rfl Tryz.sizeOf3 (vs := [iV (W (p_s_at + 1))]) rfl rfl rfl rfl ?_; clear S; intro w1 hk1 S
 refine l_done (then_n (f_seq (f_seq (f_region (lv S (rn_move (S.tm rfl)) rfl ?_))))); clear S; intro a S
 refine lv S (rn_nilCheck (S.tm rfl)) rfl ?_; clear S; intro a S
 refine lv S (rn_fld fa_25_0 (S.tm rfl)) rfl ?_; clear S; intro a S
 refine lv S (rn_load Tryz.isAgg22 (S.tm rfl) (S.cell (i := 0) rfl rfl)) rfl ?_; clear S; intro a S
 refine lv S (rn_lenT sl_22 (S.tm rfl) (slc_len hs_p_s_L)) rfl ?_; clear S; intro a S
 refine lv S (rn_eql (S.tm rfl) rfl) rfl ?_; clear S; intro a S
 refine l_done ?_
 replace S := S.nk [.blk b_p_s [v_p_s_L, iV (W (p_s_at + 1))] 25] [(0, .pointer (some ⟨b_p_s, 0, none⟩)), (1, iV p_n), (19, bV (decide ((p_s_L.length : Int) = 0)))] [true] rfl (subR rfl)
 refine then_n (f_cond (S.tm rfl) (fun hb1 => ?_) (fun hb1 => ?_))
 ·replace h := iteT h hb1
  refine f_seq (f_region (lv S (rn_move (S.tm rfl)) rfl ?_)); clear S; intro a S
  refine lv S (rn_nilCheck (S.tm rfl)) rfl ?_; clear S; intro a S
  refine lv S (rn_fld fa_25_1 (S.tm rfl)) rfl ?_; clear S; intro a S
  refine lv S (rn_load Tryz.isAgg3 (S.tm rfl) (S.cell (i := 0) rfl rfl)) rfl ?_; clear S; intro a S
  refine lv S (rn_mul (S.tm rfl) rfl) rfl ?_; clear S; intro a S
  refine lv S (rn_move (S.tm rfl)) rfl ?_; clear S; intro a S
  obtain ⟨r1, hr1, h⟩ := bindE h
  refine l_enter S (fun _ => run_call (vs := [iV (W ((W (p_s_at + 1)) * 7919)), iV p_n]) ⟨(S.tm rfl), (S.tm rfl), trivial⟩ Tryz.call33) (tumbmake_Below_ok _ (W ((W (p_s_at + 1)) * 7919)) p_n _ hr1) rfl ?_; clear S; intro v1 a w2 hv1 hk2 hn1 S
  subst hv1
  refine lv S (rn_assign (S.tm rfl)) rfl ?_; clear S; intro a S
  refine l_done (then_n (wp_ret (then_r ?_)))
  obtain rfl := Option.some.inj h
  exact f_ret S Tryz.results17 rfl ⟨(S.holds _ (List.mem_of_getElem? (i := 0) rfl)), rfl⟩
 ·replace h := iteF h hb1
  refine wp_skip (then_n (f_seq (d_region [] ([]) Tryz.mixed S rfl (by kernel_rfl) ?_))); clear S; intro w3 hk3 hsel S
  refine d_rest [0, 1, 2, 3, 4, 5, 6, 7, 8, 9, 10, 11] hsel (by kernel_rfl) rfl ?_
  clear hsel
  refine s_lv S rfl (rn_move (S.tm rfl)) rfl ?_; clear S; intro a S
  refine s_lv S rfl (rn_nilCheck (S.tm rfl)) rfl ?_; clear S; intro a S
  refine s_lv S rfl (rn_fld fa_25_1 (S.tm rfl)) rfl ?_; clear S; intro a S
  refine s_lv S rfl (rn_load Tryz.isAgg3 (S.tm rfl) (S.cell (i := 0) rfl rfl)) rfl ?_; clear S; intro a S
  refine s_lv S rfl (rn_sub (S.tm rfl) rfl) rfl ?_; clear S; intro a S
  refine s_lv S rfl (rn_move (S.tm rfl)) rfl ?_; clear S; intro a S
  refine s_lv S rfl (rn_nilCheck (S.tm rfl)) rfl ?_; clear S; intro a S
  refine s_lv S rfl (rn_fld fa_25_0 (S.tm rfl)) rfl ?_; clear S; intro a S
  refine s_lv S rfl (rn_load Tryz.isAgg22 (S.tm rfl) (S.cell (i := 0) rfl rfl)) rfl ?_; clear S; intro a S
  refine s_lv S rfl (rn_lenT sl_22 (S.tm rfl) (slc_len hs_p_s_L)) rfl ?_; clear S; intro a S
  obtain ⟨hc1, h⟩ := chkE h
  refine s_lv S rfl (rn_rem (S.tm rfl) (S.tm rfl) (ne0_of hc1)) rfl ?_; clear S; intro a S
  refine s_lv S rfl (rn_assign (S.tm rfl)) rfl ?_; clear S; intro a S
  refine s_done ?_
  replace S := S.nk [.blk b_p_s [v_p_s_L, iV (W (p_s_at + 1))] 25] [(0, .pointer (some ⟨b_p_s, 0, none⟩)), (1, iV p_n), (5, iV (Int.tmod (W ((W (p_s_at + 1)) - 1)) (p_s_L.length : Int)))] [true] rfl (subR rfl)
  refine then_n (f_seq (d_region [] ([]) Tryz.mixed S rfl (by kernel_rfl) ?_)); clear S; intro w4 hk4 hsel S
  refine d_rest [0, 1, 2, 3, 4, 5, 6, 7, 8, 9, 10, 11] hsel (by kernel_rfl) rfl ?_
  clear hsel
  refine s_lv S rfl (rn_move (S.tm rfl)) rfl ?_; clear S; intro a S
  refine s_lv S rfl (rn_nilCheck (S.tm rfl)) rfl ?_; clear S; intro a S
  refine s_lv S rfl (rn_fld fa_25_1 (S.tm rfl)) rfl ?_; clear S; intro a S
  refine s_lv S rfl (rn_load Tryz.isAgg3 (S.tm rfl) (S.cell (i := 0) rfl rfl)) rfl ?_; clear S; intro a S
  refine s_lv S rfl (rn_sub (S.tm rfl) rfl) rfl ?_; clear S; intro a S
  refine s_lv S rfl (rn_move (S.tm rfl)) rfl ?_; clear S; intro a S
  refine s_lv S rfl (rn_nilCheck (S.tm rfl)) rfl ?_; clear S; intro a S
  refine s_lv S rfl (rn_fld fa_25_0 (S.tm rfl)) rfl ?_; clear S; intro a S
  refine s_lv S rfl (rn_load Tryz.isAgg22 (S.tm rfl) (S.cell (i := 0) rfl rfl)) rfl ?_; clear S; intro a S
  refine s_lv S rfl (rn_lenT sl_22 (S.tm rfl) (slc_len hs_p_s_L)) rfl ?_; clear S; intro a S
  obtain ⟨hc2, h⟩ := chkE h
  refine s_lv S rfl (rn_quo (S.tm rfl) (S.tm rfl) (ne0_of hc2)) rfl ?_; clear S; intro a S
  refine s_lv S rfl (rn_assign (S.tm rfl)) rfl ?_; clear S; intro a S
  refine s_done ?_
  replace S := S.nk [.blk b_p_s [v_p_s_L, iV (W (p_s_at + 1))] 25] [(0, .pointer (some ⟨b_p_s, 0, none⟩)), (1, iV p_n), (5, iV (Int.tmod (W ((W (p_s_at + 1)) - 1)) (p_s_L.length : Int))), (6, iV (W (Int.tdiv (W ((W (p_s_at + 1)) - 1)) (p_s_L.length : Int))))] [true] rfl (subR rfl)
  refine then_n (f_seq (f_region (lv S (rn_move (S.tm rfl)) rfl ?_))); clear S; intro a S
  refine lv S (rn_nilCheck (S.tm rfl)) rfl ?_; clear S; intro a S
  refine lv S (rn_fld fa_25_0 (S.tm rfl)) rfl ?_; clear S; intro a S
  refine lv S (rn_load Tryz.isAgg22 (S.tm rfl) (S.cell (i := 0) rfl rfl)) rfl ?_; clear S; intro a S
  refine lv S (rn_move (S.tm rfl)) rfl ?_; clear S; intro a S
  obtain ⟨hc3, h⟩ := chkE h
  obtain ⟨b1, o1, hm1, hr2⟩ := rn_indexT (a := a) (x := .tmp 52) (y := .tmp 53) (ty := 0) sl_22 hs_p_s_L (inB_get hc3).1 (inB_get hc3).2 (S.tm rfl) (S.tm rfl)
  refine lv S (hr2 _) rfl ?_; clear S; intro a S
  clear hr2
  refine lv S (rn_ld Tryz.isAgg3 (off := o1) (o := 0) (S.tm rfl) (hm1.at S.emb0) rfl) rfl ?_; clear S; intro a S
  obtain ⟨r2, hr3, h⟩ := bindE h
  refine l_enter S (fun _ => run_call (vs := [iV (nth p_s_L (Int.tmod (W ((W (p_s_at + 1)) - 1)) (p_s_L.length : Int))), iV 1073741824]) ⟨(S.tm rfl), rfl, trivial⟩ Tryz.call33) (tumbmake_Below_ok _ (nth p_s_L (Int.tmod (W ((W (p_s_at + 1)) - 1)) (p_s_L.length : Int))) 1073741824 _ hr3) rfl ?_; clear S; intro v2 a w5 hv2 hk5 hn2 S
  subst hv2
  refine lv S (rn_move (S.tm rfl)) rfl ?_; clear S; intro a S
  refine lv S (rn_move (S.tm rfl)) rfl ?_; clear S; intro a S
  refine lv S (rn_add rfl (S.tm rfl)) rfl ?_; clear S; intro a S
  refine lv S (rn_mul (S.tm rfl) (S.tm rfl)) rfl ?_; clear S; intro a S
  refine lv S (rn_add (S.tm rfl) (S.tm rfl)) rfl ?_; clear S; intro a S
  refine lv S (rn_move (S.tm rfl)) rfl ?_; clear S; intro a S
  obtain ⟨r3, hr4, h⟩ := bindE h
  refine l_enter S (fun _ => run_call (vs := [iV (W (r2 + (W ((W (Int.tdiv (W ((W (p_s_at + 1)) - 1)) (p_s_L.length : Int))) * (W (7919 + (Int.tmod (W ((W (p_s_at + 1)) - 1)) (p_s_L.length : Int)))))))), iV p_n]) ⟨(S.tm rfl), (S.tm rfl), trivial⟩ Tryz.call33) (tumbmake_Below_ok _ (W (r2 + (W ((W (Int.tdiv (W ((W (p_s_at + 1)) - 1)) (p_s_L.length : Int))) * (W (7919 + (Int.tmod (W ((W (p_s_at + 1)) - 1)) (p_s_L.length : Int)))))))) p_n _ hr4) rfl ?_; clear S; intro v3 a w6 hv3 hk6 hn3 S
  subst hv3
  refine lv S (rn_assign (S.tm rfl)) rfl ?_; clear S; intro a S
  refine l_done ?_
  replace S := S.nk [.blk b_p_s [v_p_s_L, iV (W (p_s_at + 1))] 25] [(4, iV r3)] [true] rfl ⟨rfl, trivial⟩
  refine then_n (wp_ret ?_)
  obtain rfl := Option.some.inj h
  exact f_ret S Tryz.results17 rfl ⟨(S.holds _ (List.mem_of_getElem? (i := 0) rfl)), rfl⟩
theorem Stream_Flip_ok (w : World) (b_p_s : Nat) (v_p_s_L : Value) (p_s_L : List Int) (hs_p_s_L : Slc (view w [b_p_s]) 1 v_p_s_L (p_s_L.map eInt)) (p_s_at : Int) (hb_b_p_s : (LEnt.blk b_p_s [v_p_s_L, iV p_s_at] 25).holds w) (p_n : Int) (r : Bool × Int) (h : Stream_Flip p_s_L p_s_at p_n = some r) :
    Calls Tryz.prog 12 [.pointer (some ⟨b_p_s, 0, none⟩), iV p_n].toArray w (Ret w [b_p_s] fun _ v w' => (LEnt.blk b_p_s [v_p_s_L, iV r.2] 25).holds w' ∧ v = bV r.1) := by
 refine f_enter [b_p_s] [.blk b_p_s [v_p_s_L, iV p_s_at] 25] Tryz.func12 rfl Tryz.ntmps12 rfl (fun e he => by simp only [List.mem_singleton] at he; subst he; exact hb_b_p_s) (by simp [fps, LEnt.fp]) (by simp [fps, LEnt.fp]) fun a S => ?_
 unfold Stream_Flip at h
 replace S := S.nk [.blk b_p_s [v_p_s_L, iV p_s_at] 25] [(0, .pointer (some ⟨b_p_s, 0, none⟩)), (1, iV p_n)] [true] rfl (subR rfl)
 refine f_seq (f_region (lv S (rn_assign rfl) rfl ?_)); clear S; intro a S
 refine l_done (then_n (f_seq (f_region (lv S (rn_move (S.tm rfl)) rfl ?_)))); clear S; intro a S
 refine lv S (rn_move (S.tm rfl)) rfl ?_; clear S; intro a S
 obtain ⟨r1, hr1, h⟩ := bindE h
 refine l_enter1 0 S (b := b_p_s) rfl rfl (fun _ => .blk b_p_s [v_p_s_L, iV r1.2] 25) (fun _ => run_call (vs := [.pointer (some ⟨b_p_s, 0, none⟩), iV p_n]) ⟨(S.tm rfl), (S.tm rfl), trivial⟩ Tryz.call17) (Stream_Next_ok _ b_p_s v_p_s_L p_s_L (hs_p_s_L.mono (S.le_arg (fp_sub (i := 0) (e := .blk b_p_s [v_p_s_L, iV p_s_at] 25) rfl))) p_s_at (S.holds _ (List.mem_of_getElem? (i := 0) rfl)) p_n _ hr1) rfl (fun _ _ _ h => ⟨h.1, fun _ hc => by cases hc; rfl⟩) ?_; clear S; intro v1 a w1 hv1 hk1 hn1 S
 replace hv1 := hv1.2
 subst hv1
 refine lv S (rn_eql (S.tm rfl) rfl) rfl ?_; clear S; intro a S
 refine lv S (rn_assign (S.tm rfl)) rfl ?_; clear S; intro a S
 refine l_done (then_n (wp_ret ?_))
 obtain rfl := Option.some.inj h
 exact f_ret S Tryz.results12 rfl ⟨(S.holds _ (List.mem_of_getElem? (i := 0) rfl)), rfl⟩
theorem Stream_Pick_ok (w : World) (b_p_s : Nat) (v_p_s_L : Value) (p_s_L : List Int) (hs_p_s_L : Slc (view w [b_p_s]) 1 v_p_s_L (p_s_L.map eInt)) (p_s_at : Int) (hb_b_p_s : (LEnt.blk b_p_s [v_p_s_L, iV p_s_at] 25).holds w) (v_p_l : Value) (p_l : List Int) (hs_p_l : Slc (view w [b_p_s]) 1 v_p_l (p_l.map eInt)) (r : Int × Int) (h : Stream_Pick p_s_L p_s_at p_l = some r) :
    Calls Tryz.prog 13 [.pointer (some ⟨b_p_s, 0, none⟩), v_p_l].toArray w (Ret w [b_p_s] fun _ v w' => (LEnt.blk b_p_s [v_p_s_L, iV r.2] 25).holds w' ∧ v = iV r.1) := by
 refine f_enter [b_p_s] [.blk b_p_s [v_p_s_L, iV p_s_at] 25] Tryz.func13 rfl Tryz.ntmps13 rfl (fun e he => by simp only [List.mem_singleton] at he; subst he; exact hb_b_p_s) (by simp [fps, LEnt.fp]) (by simp [fps, LEnt.fp]) fun a S => ?_
 unfold Stream_Pick at h
 replace S := S.nk [.blk b_p_s [v_p_s_L, iV p_s_at] 25] [(0, .pointer (some ⟨b_p_s, 0, none⟩)), (1, v_p_l)] [true] rfl (subR rfl)
 refine f_seq (f_region (lv S (rn_assign rfl) rfl ?_)); clear S; intro a S
 refine l_done (then_n (f_seq (f_region (lv S (rn_move (S.tm rfl)) rfl ?_)))); clear S; intro a S
 refine lv S (rn_move (S.tm rfl)) rfl ?_; clear S; intro a S
 refine lv S (rn_move (S.tm rfl)) rfl ?_; clear S; intro a S
 refine lv S (rn_lenT sl_22 (S.tm rfl) (slc_len hs_p_l)) rfl ?_; clear S; intro a S
 obtain ⟨r1, hr1, h⟩ := bindE h
 refine l_enter1 0 S (b := b_p_s) rfl rfl (fun _ => .blk b_p_s [v_p_s_L, iV r1.2] 25) (fun _ => run_call (vs := [.pointer (some ⟨b_p_s, 0, none⟩), iV (p_l.length : Int)]) ⟨(S.tm rfl), (S.tm rfl), trivial⟩ Tryz.call17) (Stream_Next_ok _ b_p_s v_p_s_L p_s_L (hs_p_s_L.mono (S.le_arg (fp_sub (i := 0) (e := .blk b_p_s [v_p_s_L, iV p_s_at] 25) rfl))) p_s_at (S.holds _ (List.mem_of_getElem? (i := 0) rfl)) (p_l.length : Int) _ hr1) rfl (fun _ _ _ h => ⟨h.1, fun _ hc => by cases hc; rfl⟩) ?_; clear S; intro v1 a w1 hv1 hk1 hn1 S
 replace hv1 := hv1.2
 subst hv1
 obtain ⟨hc1, h⟩ := chkE h
 obtain ⟨b1, o1, hm1, hr2⟩ := rn_indexT (a := a) (x := .tmp 5) (y := .tmp 9) (ty := 0) sl_22 hs_p_l (inB_get hc1).1 (inB_get hc1).2 (S.tm rfl) (S.tm rfl)
 refine lv S (hr2 _) rfl ?_; clear S; intro a S
 clear hr2
 refine lv S (rn_ld Tryz.isAgg3 (off := o1) (o := 0) (S.tm rfl) (hm1.at S.emb0) rfl) rfl ?_; clear S; intro a S
 refine lv S (rn_assign (S.tm rfl)) rfl ?_; clear S; intro a S
 refine l_done (then_n (wp_ret ?_))
 obtain rfl := Option.some.inj h
 exact f_ret S Tryz.results13 rfl ⟨(S.holds _ (List.mem_of_getElem? (i := 0) rfl)), rfl⟩
theorem Stream_RightItems_ok (w : World) (b_p_s : Nat) (v_p_s_L : Value) (p_s_L : List Int) (hs_p_s_L : Slc (view w [b_p_s]) 1 v_p_s_L (p_s_L.map eInt)) (p_s_at : Int) (hb_b_p_s : (LEnt.blk b_p_s [v_p_s_L, iV p_s_at] 25).holds w) (p_most : Int) (r : (List GItem) × Int) (h : Stream_RightItems p_s_L p_s_at p_most = some r) :
    Calls Tryz.prog 4 [.pointer (some ⟨b_p_s, 0, none⟩), iV p_most].toArray w (Ret w [b_p_s] fun τ v w' => (LEnt.blk b_p_s [v_p_s_L, iV r.2] 25).holds w' ∧ OwnV τ 52 5 v r.1.length (r.1.flatMap GItem.enc)) := by
 refine f_enter [b_p_s] [.blk b_p_s [v_p_s_L, iV p_s_at] 25] Tryz.func4 rfl Tryz.ntmps4 rfl (fun e he => by simp only [List.mem_singleton] at he; subst he; exact hb_b_p_s) (by simp [fps, LEnt.fp]) (by simp [fps, LEnt.fp]) fun a S => ?_
 unfold Stream_RightItems at h
 replace S := S.nk [.blk b_p_s [v_p_s_L, iV p_s_at] 25] [(0, .pointer (some ⟨b_p_s, 0, none⟩)), (1, iV p_most)] [true] rfl (subR rfl)
 refine f_seq (f_region (lv S (rn_assign rfl) rfl ?_)); clear S; intro a S
 refine l_done (then_n (f_seq (f_region (lv S (rn_assign rfl) rfl ?_)))); clear S; intro a S
 replace S := S.nil 52 5
 refine l_done (then_n (f_seq (f_seq (f_region (l_buildSlice S Tryz.underlying37 Tryz.sizeOf9 Tryz.zeroValue9 rfl rfl (pv := [(0, sV k_ic), (1, sV k_ia), (2, sV k_id), (3, sV k_ib), (4, sV k_ie)]) ⟨rfl, rfl, rfl, rfl, rfl, rfl, rfl, rfl, rfl, rfl, trivial⟩ (cs := [sV k_ic, sV k_ia, sV k_id, sV k_ib, sV k_ie]) (by kernel_rfl) rfl ?_))))); clear S; intro a w1 b1 hz1 hk1 S
 refine lv S (rn_move (S.tm rfl)) rfl ?_; clear S; intro a S
 replace S := S.litOwn (i := 0) (xs := [k_ic, k_ia, k_id, k_ib, k_ie]) rfl enc_str rfl rfl rfl
 replace S := S.nk [.own (.slice (some ⟨b1, 0, none⟩) 5 5) 9 1 ([k_ic, k_ia, k_id, k_ib, k_ie] : List ByteArray).length (([k_ic, k_ia, k_id, k_ib, k_ie] : List ByteArray).flatMap eStr), .own (.slice none 0 0) 52 5 ([] : List GItem).length (([] : List GItem).flatMap GItem.enc), .blk b_p_s [v_p_s_L, iV p_s_at] 25] [(0, .pointer (some ⟨b_p_s, 0, none⟩)), (1, iV p_most), (4, .slice none 0 0), (5, (.slice none 0 0)), (8, (.slice (some ⟨b1, 0, none⟩) 5 5)), (9, iV p_most)] [] rfl (subR rfl)
 obtain ⟨φ1, hl1, hs1, S⟩ := S.freezeT (xs := ([k_ic, k_ia, k_id, k_ib, k_ie] : List ByteArray)) (enc := eStr) (i := 0) rfl (fun c hc hh => not_fps S (i := 2) rfl rfl (j := 0) rfl rfl (by simp at hc; subst hc; exact hh))
 replace S := S.nk [.own (.slice none 0 0) 52 5 ([] : List GItem).length (([] : List GItem).flatMap GItem.enc), .blk b_p_s [v_p_s_L, iV p_s_at] 25] [(0, .pointer (some ⟨b_p_s, 0, none⟩)), (1, iV p_most), (4, .slice none 0 0), (5, (.slice none 0 0)), (8, (.slice (some ⟨b1, 0, none⟩) 5 5)), (9, iV p_most)] [] rfl (subR rfl)
 obtain ⟨hc1, h⟩ := chkE h
 obtain ⟨v1, hs2, hr1⟩ := rn_cutTh (a := a) (x := .tmp 8) (y' := .tmp 9) (ty := 37) sl_37 (ownV_slcT enc_str hs1) (S.tm rfl) (S.tm rfl) hc1
 refine lv S (hr1 _) rfl ?_; clear S; intro a S
 clear hr1
 refine lv S (rn_lenT sl_37 (S.tm rfl) (slc_len hs2)) rfl ?_; clear S; intro a S
 refine lv S (rn_move rfl) rfl ?_; clear S; intro a S
 refine l_done (then_n ?_)
 replace S := S.nk [.own (.slice none 0 0) 52 5 ([] : List GItem).length (([] : List GItem).flatMap GItem.enc), .blk b_p_s [v_p_s_L, iV p_s_at] 25] [(0, .pointer (some ⟨b_p_s, 0, none⟩)), (5, (.slice none 0 0)), (10, v1), (11, iV ((cut ([k_ic, k_ia, k_id, k_ib, k_ie] : List ByteArray) 0 p_most).length : Int)), (12, iV 0)] [true, true] rfl (subR rfl)
 obtain ⟨j1, hj1, h⟩ := joinE h
 refine f_join (fun a w' => ∃ x1 : List GItem, ∃ x2 : Int, ∃ v2 : Value, j1 x1 x2 = some r ∧ Sx w [b_p_s] φ1 [.own v2 52 5 x1.length (x1.flatMap GItem.enc), .blk b_p_s [v_p_s_L, iV x2] 25] [(5, v2)] 38 a w') ?_ ?_
 ·refine wp_block (f_loop (fun (ys1 : List ByteArray) a w' => ∃ i1 : Nat, ∃ x1 : List GItem, ∃ x2 : Int, ∃ v2 : Value, (∃ dn, cut ([k_ic, k_ia, k_id, k_ib, k_ie] : List ByteArray) 0 p_most = dn ++ ys1 ∧ dn.length = i1) ∧ Stream_RightItems_l1 p_s_L j1 ys1 i1 x1 x2 = some r ∧ Sx w [b_p_s] φ1 [.own v2 52 5 x1.length (x1.flatMap GItem.enc), .blk b_p_s [v_p_s_L, iV x2] 25] [(0, .pointer (some ⟨b_p_s, 0, none⟩)), (5, v2), (10, v1), (11, iV ((cut ([k_ic, k_ia, k_id, k_ib, k_ie] : List ByteArray) 0 p_most).length : Int)), (12, iV (i1 : Int))] 38 a w') List.length (cut ([k_ic, k_ia, k_id, k_ib, k_ie] : List ByteArray) 0 p_most) ⟨0, ([] : List GItem), p_s_at, (.slice none 0 0), ⟨[], rfl, rfl⟩, h, S.nf [true, true] rfl (subR rfl)⟩ ?_)
  clear S h; rintro ys1 a w2 ⟨i1, x1, x2, v2, ⟨dn, hd1, hi1⟩, h, S⟩
  cases ys1 with
  | nil =>
   rw [Stream_RightItems_l1.eq_1] at h
   refine f_seq (f_region (lv S (rn_lss (S.tm rfl) (S.tm rfl)) rfl ?_)); clear S; intro a S
   refine l_done ?_
   replace S := S.nk [.own v2 52 5 x1.length (x1.flatMap GItem.enc), .blk b_p_s [v_p_s_L, iV x2] 25] [(0, .pointer (some ⟨b_p_s, 0, none⟩)), (5, v2), (10, v1), (11, iV ((cut ([k_ic, k_ia, k_id, k_ib, k_ie] : List ByteArray) 0 p_most).length : Int)), (12, iV (i1 : Int)), (13, bV (decide ((i1 : Int) < ((cut ([k_ic, k_ia, k_id, k_ib, k_ie] : List ByteArray) 0 p_most).length : Int))))] [true, true] rfl (subR rfl)
   refine then_n (f_seq (wp_cond_false ((S.tm rfl).trans (congrArg Value.bool (rng_nil hd1 hi1))) (wp_exit (then_x (then_x (x_same ?_))))))
   refine then_n ?_
   exact ⟨x1, x2, v2, h, S.nf [true, true] rfl ⟨rfl, trivial⟩⟩
  | cons y1 ys1 =>
   rw [Stream_RightItems_l1.eq_2] at h
   refine f_seq (f_region (lv S (rn_lss (S.tm rfl) (S.tm rfl)) rfl ?_)); clear S; intro a S
   refine l_done ?_
   replace S := S.nk [.own v2 52 5 x1.length (x1.flatMap GItem.enc), .blk b_p_s [v_p_s_L, iV x2] 25] [(0, .pointer (some ⟨b_p_s, 0, none⟩)), (5, v2), (10, v1), (11, iV ((cut ([k_ic, k_ia, k_id, k_ib, k_ie] : List ByteArray) 0 p_most).length : Int)), (12, iV (i1 : Int)), (13, bV (decide ((i1 : Int) < ((cut ([k_ic, k_ia, k_id, k_ib, k_ie] : List ByteArray) 0 p_most).length : Int))))] [true, true] rfl (subR rfl)
   refine then_n (f_seq (wp_cond_true ((S.tm rfl).trans (congrArg Value.bool (rng_cons hd1 hi1))) (wp_skip (then_n (f_seq ?_)))))
   obtain ⟨j2, hj2, h⟩ := joinE h
   refine f_join (fun a w' => ∃ x3 : List GItem, ∃ x4 : Int, ∃ v3 : Value, j2 x3 x4 = some r ∧ Sx w [b_p_s] φ1 [.own v3 52 5 x3.length (x3.flatMap GItem.enc), .blk b_p_s [v_p_s_L, iV x4] 25] [(0, .pointer (some ⟨b_p_s, 0, none⟩)), (5, v3), (10, v1), (11, iV ((cut ([k_ic, k_ia, k_id, k_ib, k_ie] : List ByteArray) 0 p_most).length : Int)), (12, iV (i1 : Int))] 38 a w') ?_ ?_
   ·refine wp_block (f_seq (f_region ?_))
    obtain ⟨b2, o1, hm1, hr2⟩ := rn_indexT (a := a) (x := .tmp 10) (y := .tmp 12) (ty := 0) sl_37 hs2 (get_mid hd1 hi1) rfl (S.tm rfl) (S.tm rfl)
    refine lv S (hr2 _) rfl ?_; clear S; intro a S
    clear hr2
    refine lv S (rn_ld Tryz.isAgg9 (off := o1) (o := 0) (S.tm rfl) (hm1.at S.emb) rfl) rfl ?_; clear S; intro a S
    refine lv S (rn_assign (S.tm rfl)) rfl ?_; clear S; intro a S
    refine l_done (then_n (f_seq (f_region (lv S (rn_move (S.tm rfl)) rfl ?_)))); clear S; intro a S
    obtain ⟨r1, hr3, h⟩ := bindE h
    refine l_enter1 1 S (b := b_p_s) rfl rfl (fun _ => .blk b_p_s [v_p_s_L, iV r1.2] 25) (fun _ => run_call (vs := [.pointer (some ⟨b_p_s, 0, none⟩), iV 6]) ⟨(S.tm rfl), rfl, trivial⟩ Tryz.call12) (Stream_Flip_ok _ b_p_s v_p_s_L p_s_L (hs_p_s_L.mono (S.le_arg (fp_sub (i := 1) (e := .blk b_p_s [v_p_s_L, iV x2] 25) rfl))) x2 (S.holds _ (List.mem_of_getElem? (i := 1) rfl)) 6 _ hr3) rfl (fun _ _ _ h => ⟨h.1, fun _ hc => by cases hc; rfl⟩) ?_; clear S; intro v4 a w5 hv1 hk2 hn1 S
    replace hv1 := hv1.2
    subst hv1
    refine lv S (rn_not (S.tm rfl)) rfl ?_; clear S; intro a S
    refine l_done (then_n ?_)
    obtain ⟨j3, hj3, h⟩ := joinE h
    refine f_join (fun a w' => ∃ x5 : List GItem, ∃ x6 : Int, ∃ v5 : Value, j3 x5 x6 = some r ∧ Sx w [b_p_s] φ1 [.own v5 52 5 x5.length (x5.flatMap GItem.enc), .blk b_p_s [v_p_s_L, iV x6] 25] [(0, .pointer (some ⟨b_p_s, 0, none⟩)), (5, v5), (10, v1), (11, iV ((cut ([k_ic, k_ia, k_id, k_ib, k_ie] : List ByteArray) 0 p_most).length : Int)), (12, iV (i1 : Int))] 38 a w') ?_ ?_
    ·refine f_cond (S.tm rfl) (fun hb1 => ?_) (fun hb1 => ?_)
     ·replace h := iteT h hb1
      refine f_region (lv S (rn_move (S.tm rfl)) rfl ?_); clear S; intro a S
      refine lv S (rn_move (S.tm rfl)) rfl ?_; clear S; intro a S
      refine lv S (rn_move (S.tm rfl)) rfl ?_; clear S; intro a S
      refine l_buildSlice S Tryz.underlying22 Tryz.sizeOf3 Tryz.zeroValue3 rfl rfl (pv := [(0, iV 1), (1, iV 1), (2, iV 2), (3, iV 3)]) ⟨rfl, rfl, rfl, rfl, rfl, rfl, rfl, rfl, trivial⟩ (cs := [iV 1, iV 1, iV 2, iV 3]) (by kernel_rfl) rfl ?_; clear S; intro a w7 b3 hz2 hk3 S
      obtain ⟨r2, hr4, h⟩ := bindE h
      refine l_enter1 2 S (b := b_p_s) rfl rfl (fun _ => .blk b_p_s [v_p_s_L, iV r2.2] 25) (fun _ => run_call (vs := [.pointer (some ⟨b_p_s, 0, none⟩), .slice (some ⟨b3, 0, none⟩) 4 4]) ⟨(S.tm rfl), (S.tm rfl), trivial⟩ Tryz.call13) (Stream_Pick_ok _ b_p_s v_p_s_L p_s_L (hs_p_s_L.mono (S.le_arg (fp_sub (i := 2) (e := .blk b_p_s [v_p_s_L, iV r1.2] 25) rfl))) r1.2 (S.holds _ (List.mem_of_getElem? (i := 2) rfl)) (.slice (some ⟨b3, 0, none⟩) 4 4) [1, 1, 2, 3] (lit_slcT enc_int S (i := 0) rfl rfl rfl rfl ((ne_fp (i := 2) (j := 0) (e := .blk b_p_s [v_p_s_L, iV r1.2] 25) (e' := .blk b3 [iV 1, iV 1, iV 2, iV 3] 3) S rfl rfl rfl) _ rfl)) _ hr4) rfl (fun _ _ _ h => ⟨h.1, fun _ hc => by cases hc; rfl⟩) ?_; clear S; intro v6 a w8 hv2 hk4 hn2 S
      replace hv2 := hv2.2
      subst hv2
      refine lv S (rn_move (S.tm rfl)) rfl ?_; clear S; intro a S
      refine l_buildSlice S Tryz.underlying22 Tryz.sizeOf3 Tryz.zeroValue3 rfl rfl (pv := [(0, iV 50), (1, iV 100)]) ⟨rfl, rfl, rfl, rfl, trivial⟩ (cs := [iV 50, iV 100]) (by kernel_rfl) rfl ?_; clear S; intro a w9 b4 hz3 hk5 S
      obtain ⟨r3, hr5, h⟩ := bindE h
      refine l_enter1 3 S (b := b_p_s) rfl rfl (fun _ => .blk b_p_s [v_p_s_L, iV r3.2] 25) (fun _ => run_call (vs := [.pointer (some ⟨b_p_s, 0, none⟩), .slice (some ⟨b4, 0, none⟩) 2 2]) ⟨(S.tm rfl), (S.tm rfl), trivial⟩ Tryz.call13) (Stream_Pick_ok _ b_p_s v_p_s_L p_s_L (hs_p_s_L.mono (S.le_arg (fp_sub (i := 3) (e := .blk b_p_s [v_p_s_L, iV r2.2] 25) rfl))) r2.2 (S.holds _ (List.mem_of_getElem? (i := 3) rfl)) (.slice (some ⟨b4, 0, none⟩) 2 2) [50, 100] (lit_slcT enc_int S (i := 0) rfl rfl rfl rfl ((ne_fp (i := 3) (j := 0) (e := .blk b_p_s [v_p_s_L, iV r2.2] 25) (e' := .blk b4 [iV 50, iV 100] 3) S rfl rfl rfl) _ rfl)) _ hr5) rfl (fun _ _ _ h => ⟨h.1, fun _ hc => by cases hc; rfl⟩) ?_; clear S; intro v7 a w10 hv3 hk6 hn3 S
      replace hv3 := hv3.2
      subst hv3
      refine lv S (rn_move (S.tm rfl)) rfl ?_; clear S; intro a S
      refine l_buildSlice S Tryz.underlying22 Tryz.sizeOf3 Tryz.zeroValue3 rfl rfl (pv := [(0, iV 0), (1, iV 10), (2, iV 60)]) ⟨rfl, rfl, rfl, rfl, rfl, rfl, trivial⟩ (cs := [iV 0, iV 10, iV 60]) (by kernel_rfl) rfl ?_; clear S; intro a w11 b5 hz4 hk7 S
      obtain ⟨r4, hr6, h⟩ := bindE h
      refine l_enter1 4 S (b := b_p_s) rfl rfl (fun _ => .blk b_p_s [v_p_s_L, iV r4.2] 25) (fun _ => run_call (vs := [.pointer (some ⟨b_p_s, 0, none⟩), .slice (some ⟨b5, 0, none⟩) 3 3]) ⟨(S.tm rfl), (S.tm rfl), trivial⟩ Tryz.call13) (Stream_Pick_ok _ b_p_s v_p_s_L p_s_L (hs_p_s_L.mono (S.le_arg (fp_sub (i := 4) (e := .blk b_p_s [v_p_s_L, iV r3.2] 25) rfl))) r3.2 (S.holds _ (List.mem_of_getElem? (i := 4) rfl)) (.slice (some ⟨b5, 0, none⟩) 3 3) [0, 10, 60] (lit_slcT enc_int S (i := 0) rfl rfl rfl rfl ((ne_fp (i := 4) (j := 0) (e := .blk b_p_s [v_p_s_L, iV r3.2] 25) (e' := .blk b5 [iV 0, iV 10, iV 60] 3) S rfl rfl rfl) _ rfl)) _ hr6) rfl (fun _ _ _ h => ⟨h.1, fun _ hc => by cases hc; rfl⟩) ?_; clear S; intro v8 a w12 hv4 hk8 hn4 S
      replace hv4 := hv4.2
      subst hv4
      refine lv S (rn_move (S.tm rfl)) rfl ?_; clear S; intro a S
      refine l_buildSlice S Tryz.underlying22 Tryz.sizeOf3 Tryz.zeroValue3 rfl rfl (pv := [(0, iV 0), (1, iV 20), (2, iV 50), (3, iV 200)]) ⟨rfl, rfl, rfl, rfl, rfl, rfl, rfl, rfl, trivial⟩ (cs := [iV 0, iV 20, iV 50, iV 200]) (by kernel_rfl) rfl ?_; clear S; intro a w13 b6 hz5 hk9 S
      obtain ⟨r5, hr7, h⟩ := bindE h
      refine l_enter1 5 S (b := b_p_s) rfl rfl (fun _ => .blk b_p_s [v_p_s_L, iV r5.2] 25) (fun _ => run_call (vs := [.pointer (some ⟨b_p_s, 0, none⟩), .slice (some ⟨b6, 0, none⟩) 4 4]) ⟨(S.tm rfl), (S.tm rfl), trivial⟩ Tryz.call13) (Stream_Pick_ok _ b_p_s v_p_s_L p_s_L (hs_p_s_L.mono (S.le_arg (fp_sub (i := 5) (e := .blk b_p_s [v_p_s_L, iV r4.2] 25) rfl))) r4.2 (S.holds _ (List.mem_of_getElem? (i := 5) rfl)) (.slice (some ⟨b6, 0, none⟩) 4 4) [0, 20, 50, 200] (lit_slcT enc_int S (i := 0) rfl rfl rfl rfl ((ne_fp (i := 5) (j := 0) (e := .blk b_p_s [v_p_s_L, iV r4.2] 25) (e' := .blk b6 [iV 0, iV 20, iV 50, iV 200] 3) S rfl rfl rfl) _ rfl)) _ hr7) rfl (fun _ _ _ h => ⟨h.1, fun _ hc => by cases hc; rfl⟩) ?_; clear S; intro v9 a w14 hv5 hk10 hn5 S
      replace hv5 := hv5.2
      subst hv5
      refine lv S (rn_bld bt_52 (pv := [(0, sV y1), (1, iV r2.1), (2, iV r3.1), (3, iV r4.1), (4, iV r5.1)]) ⟨rfl, (S.tm rfl), rfl, (S.tm rfl), rfl, (S.tm rfl), rfl, (S.tm rfl), rfl, (S.tm rfl), trivial⟩ (cs := [sV y1, iV r2.1, iV r3.1, iV r4.1, iV r5.1]) (by kernel_rfl)) rfl ?_; clear S; intro a S
      refine l_buildSlice S Tryz.underlying26 Tryz.sizeOf52 Tryz.zeroValue52 rfl rfl (pv := [(0, .agg #[sV y1, iV r2.1, iV r3.1, iV r4.1, iV r5.1])]) ⟨rfl, (S.tm rfl), trivial⟩ (cs := [sV y1, iV r2.1, iV r3.1, iV r4.1, iV r5.1]) (by kernel_rfl) rfl ?_; clear S; intro a w15 b7 hz6 hk11 S
      obtain ⟨hc2, h⟩ := chkE h
      refine l_appendT sl_26 GItem.enc_ok S (S.tm rfl) (i := 5) rfl (S.tm rfl) (j := 0) rfl (ys := [(GItem.mk y1 r2.1 r3.1 r4.1 r5.1)]) rfl rfl rfl rfl (by have := room_lt hc2; omega) rfl ?_; clear S; intro v10 a w16 hk12 S
      refine lv S (rn_assign (S.tm rfl)) rfl ?_; clear S; intro a S
      refine l_done ?_
      replace S := S.nk [.own v10 52 5 (x1 ++ [(GItem.mk y1 r2.1 r3.1 r4.1 r5.1)]).length ((x1 ++ [(GItem.mk y1 r2.1 r3.1 r4.1 r5.1)]).flatMap GItem.enc), .blk b_p_s [v_p_s_L, iV r5.2] 25] [(0, .pointer (some ⟨b_p_s, 0, none⟩)), (5, v10), (10, v1), (11, iV ((cut ([k_ic, k_ia, k_id, k_ib, k_ie] : List ByteArray) 0 p_most).length : Int)), (12, iV (i1 : Int))] [false, false, false, false, false, true, true] rfl (subR rfl)
      refine then_n ?_
      exact ⟨(x1 ++ [(GItem.mk y1 r2.1 r3.1 r4.1 r5.1)]), r5.2, v10, h, S.nf [true, true] rfl (subR rfl)⟩
     ·replace h := iteF h hb1
      refine wp_skip (then_n ?_)
      exact ⟨x1, r1.2, v2, h, S.nf [true, true] rfl (subR rfl)⟩
    clear S h; rintro a w6 ⟨x5, x6, v5, h, S⟩; rw [hj3] at h; clear hj3 j3
    refine blk_n (then_n ?_)
    exact ⟨x5, x6, v5, h, S.nf [true, true] rfl (subR rfl)⟩
   clear S h; rintro a w4 ⟨x3, x4, v3, h, S⟩; rw [hj2] at h; clear hj2 j2
   refine then_n (f_region (lv S (rn_add (S.tm rfl) rfl) rfl ?_)); clear S; intro a S
   refine lv S (rn_move (S.tm rfl)) rfl ?_; clear S; intro a S
   refine l_done (then_n ?_)
   exact ⟨ys1, ⟨i1 + 1, x3, x4, v3, ⟨_, (hd1).trans (List.append_cons _ _ _), by simp [hi1]⟩, h, S.nf [true, true] rfl ⟨rfl, rfl, rfl, rfl, (congrArg (fun z => some (Value.int .i64 z)) (rng_next hd1 hi1 (slc_max hs2))), trivial⟩⟩, Nat.lt_succ_self _⟩
 clear S h; rintro a w3 ⟨x1, x2, v2, h, S⟩; rw [hj1] at h; clear hj1 j1
 refine then_n (f_seq (f_region (lv S (rn_move (S.tm rfl)) rfl ?_))); clear S; intro a S
 refine lv S (rn_assign (S.tm rfl)) rfl ?_; clear S; intro a S
 refine l_done (then_n (wp_ret ?_))
 obtain rfl := Option.some.inj h
 exact f_ret S Tryz.results4 rfl ⟨(S.holds _ (List.mem_of_getElem? (i := 1) rfl)), (own_retX S (i := 0) rfl (fun c hc hh => not_fps S (i := 1) rfl rfl (j := 0) rfl rfl (by simp at hc; subst hc; exact hh)))⟩
theorem slices_Clone_Item_ok (w : World) (v_p_s : Value) (p_s : List GItem) (hs_p_s : Slc (view w []) 5 v_p_s (p_s.map GItem.enc)) (r : (List GItem)) (h : slices_Clone_Item p_s = some r) :
    Calls Tryz.prog 14 [v_p_s].toArray w (Ret w [] fun τ v _ => OwnV τ 52 5 v r.length (r.flatMap GItem.enc)) := by
 refine f_enter [] [] Tryz.func14 rfl Tryz.ntmps14 rfl (by simp) (by simp [fps]) (by simp [fps]) fun a S => ?_
 unfold slices_Clone_Item at h
 replace S := S.nk [] [(0, v_p_s)] [] rfl ⟨rfl, trivial⟩
 refine f_seq (f_region (lv S (rn_assign rfl) rfl ?_)); clear S; intro a S
 refine l_done (then_n (f_seq (f_seq (f_region (lv S (rn_move (S.tm rfl)) rfl ?_))))); clear S; intro a S
 refine lv S (rn_nileq Tryz.underlying26 (slc_len hs_p_s) (S.tm rfl) rfl) rfl ?_; clear S; intro a S
 refine l_done (then_n (f_cond (S.tm rfl) (fun hb1 => ?_) (fun hb1 => ?_)))
 ·have hx1 := slc_nilB hs_p_s hb1
  subst hx1
  replace h : some ([] : List GItem) = some r := h
  refine f_seq (f_region (lv S (rn_assign rfl) rfl ?_)); clear S; intro a S
  refine l_done (then_n (wp_ret (then_r ?_)))
  obtain rfl := Option.some.inj h
  exact f_ret S Tryz.results14 rfl (ownV_nil _ _ _)
 ·refine wp_skip (then_n (f_seq (f_region (l_buildSlice0 S Tryz.underlying26 Tryz.sizeOf52 rfl ?_)))); clear S; intro a w1 b1 hz1 hk1 S
  refine lv S (rn_move (S.tm rfl)) rfl ?_; clear S; intro a S
  replace S := S.litOwn (i := 0) (xs := ([] : List GItem)) rfl GItem.enc_ok rfl rfl rfl
  replace S := S.nk [.own (.slice (some ⟨b1, 0, none⟩) 0 0) 52 5 (([] : List GItem) : List GItem).length ((([] : List GItem) : List GItem).flatMap GItem.enc)] [(0, v_p_s), (2, .slice none 0 0), (3, v_p_s), (4, bV (nilB v_p_s)), (5, (.slice (some ⟨b1, 0, none⟩) 0 0)), (6, v_p_s)] [] rfl (subR rfl)
  obtain ⟨hc1, h⟩ := chkE h
  refine l_appendS (Y := []) sl_26 GItem.enc_ok S (S.tm rfl) (i := 0) rfl (S.tm rfl) (hs_p_s.mono (S.le_arg (fun _ h => by cases h))) rfl rfl (by have := room_lt hc1; omega) rfl ?_; clear S; intro v1 a w2 hk2 S
  refine lv S (rn_assign (S.tm rfl)) rfl ?_; clear S; intro a S
  refine l_done (then_n (wp_ret ?_))
  obtain rfl := Option.some.inj h
  exact f_ret S Tryz.results14 rfl (own_retT S (i := 0) rfl rfl)
set_option maxRecDepth 20000 in
theorem bits_Len32_ok (w : World) (p_x : Int) (r : Int) (h : bits_Len32 p_x = some r) :
    Calls Tryz.prog 64 [.int .u32 p_x].toArray w (Ret w [] fun _ v _ => v = iV r) := by
 refine f_enter [] [] Tryz.func64 rfl Tryz.ntmps64 rfl (by simp) (by simp [fps]) (by simp [fps]) fun a S => ?_
 unfold bits_Len32 at h
 replace S := S.nk [] [(0, .int .u32 p_x)] [] rfl ⟨rfl, trivial⟩
 refine f_seq (f_region (lv S (rn_assign rfl) rfl ?_)); clear S; intro a S
 refine l_done (then_n (f_seq (f_seq (f_region (lv S (rn_move (S.tm rfl)) rfl ?_))))); clear S; intro a S
 refine lv S (rn_geq (S.tm rfl) rfl) rfl ?_; clear S; intro a S
 refine l_done (then_n ?_)
 obtain ⟨j1, hj1, h⟩ := joinE h
 refine f_join (fun a w' => ∃ x1 : Int, ∃ x2 : Int, j1 x1 x2 = some r ∧ Sx w [] nov [] [(0, .int .u32 x1), (2, iV x2)] 19 a w') ?_ ?_
 ·refine f_cond (S.tm rfl) (fun hb1 => ?_) (fun hb1 => ?_)
  ·replace h := iteT h hb1
   refine f_seq (f_region (lv S (rn_move (S.tm rfl)) rfl ?_)); clear S; intro a S
   refine lv S (rn_shr (S.tm rfl) rfl (by decide)) rfl ?_; clear S; intro a S
   refine lv S (rn_assign (S.tm rfl)) rfl ?_; clear S; intro a S
   refine l_done (then_n (f_region (lv S (rn_assign rfl) rfl ?_))); clear S; intro a S
   refine l_done (then_n ?_)
   exact ⟨bitShr .u32 p_x 16, 16, h, S.nf [] rfl (subR rfl)⟩
  ·replace h := iteF h hb1
   refine wp_skip (then_n ?_)
   exact ⟨p_x, 0, h, S.nf [] rfl (subR rfl)⟩
 clear S h; rintro a w1 ⟨x1, x2, h, S⟩; rw [hj1] at h; clear hj1 j1
 refine then_n (f_seq (f_seq (f_region (lv S (rn_move (S.tm rfl)) rfl ?_)))); clear S; intro a S
 refine lv S (rn_geq (S.tm rfl) rfl) rfl ?_; clear S; intro a S
 refine l_done (then_n ?_)
 obtain ⟨j2, hj2, h⟩ := joinE h
 refine f_join (fun a w' => ∃ x3 : Int, ∃ x4 : Int, j2 x3 x4 = some r ∧ Sx w [] nov [] [(0, .int .u32 x3), (2, iV x4)] 19 a w') ?_ ?_
 ·refine f_cond (S.tm rfl) (fun hb2 => ?_) (fun hb2 => ?_)
  ·replace h := iteT h hb2
   refine f_seq (f_region (lv S (rn_move (S.tm rfl)) rfl ?_)); clear S; intro a S
   refine lv S (rn_shr (S.tm rfl) rfl (by decide)) rfl ?_; clear S; intro a S
   refine lv S (rn_assign (S.tm rfl)) rfl ?_; clear S; intro a S
   refine l_done (then_n (f_region (lv S (rn_move (S.tm rfl)) rfl ?_))); clear S; intro a S
   refine lv S (rn_add (S.tm rfl) rfl) rfl ?_; clear S; intro a S
   refine lv S (rn_assign (S.tm rfl)) rfl ?_; clear S; intro a S
   refine l_done (then_n ?_)
   exact ⟨bitShr .u32 x1 8, W (x2 + 8), h, S.nf [] rfl (subR rfl)⟩
  ·replace h := iteF h hb2
   refine wp_skip (then_n ?_)
   exact ⟨x1, x2, h, S.nf [] rfl (subR rfl)⟩
 clear S h; rintro a w2 ⟨x3, x4, h, S⟩; rw [hj2] at h; clear hj2 j2
 refine then_n (f_seq (f_region (lv S (rn_move (S.tm rfl)) rfl ?_))); clear S; intro a S
 refine lv S (rn_move (S.tm rfl)) rfl ?_; clear S; intro a S
 refine lv S (rn_conv Tryz.underlying114 Tryz.underlying5 (S.tm rfl)) rfl ?_; clear S; intro a S
 obtain ⟨hc1, h⟩ := chkE h
 refine lv S (rn_sindexT Tryz.underlying9 rfl (S.tm rfl) hc1) rfl ?_; clear S; intro a S
 refine lv S (rn_conv Tryz.underlying5 Tryz.underlying3 (S.tm rfl)) rfl ?_; clear S; intro a S
 refine lv S (rn_add (S.tm rfl) (S.tm rfl)) rfl ?_; clear S; intro a S
 refine lv S (rn_assign (S.tm rfl)) rfl ?_; clear S; intro a S
 refine l_done (then_n (wp_ret ?_))
 obtain rfl := Option.some.inj h
 exact f_ret S Tryz.results64 rfl rfl
set_option maxRecDepth 20000 in
theorem bits_Len64_ok (w : World) (p_x : Int) (r : Int) (h : bits_Len64 p_x = some r) :
    Calls Tryz.prog 65 [.int .u64 p_x].toArray w (Ret w [] fun _ v _ => v = iV r) := by
 refine f_enter [] [] Tryz.func65 rfl Tryz.ntmps65 rfl (by simp) (by simp [fps]) (by simp [fps]) fun a S => ?_
 unfold bits_Len64 at h
 replace S := S.nk [] [(0, .int .u64 p_x)] [] rfl ⟨rfl, trivial⟩
 refine f_seq (f_region (lv S (rn_assign rfl) rfl ?_)); clear S; intro a S
 refine l_done (then_n (f_seq (f_seq (f_region (lv S (rn_move (S.tm rfl)) rfl ?_))))); clear S; intro a S
 refine lv S (rn_geq (S.tm rfl) rfl) rfl ?_; clear S; intro a S
 refine l_done (then_n ?_)
 obtain ⟨j1, hj1, h⟩ := joinE h
 refine f_join (fun a w' => ∃ x1 : Int, ∃ x2 : Int, j1 x1 x2 = some r ∧ Sx w [] nov [] [(0, .int .u64 x1), (2, iV x2)] 25 a w') ?_ ?_
 ·refine f_cond (S.tm rfl) (fun hb1 => ?_) (fun hb1 => ?_)
  ·replace h := iteT h hb1
   refine f_seq (f_region (lv S (rn_move (S.tm rfl)) rfl ?_)); clear S; intro a S
   refine lv S (rn_shr (S.tm rfl) rfl (by decide)) rfl ?_; clear S; intro a S
   refine lv S (rn_assign (S.tm rfl)) rfl ?_; clear S; intro a S
   refine l_done (then_n (f_region (lv S (rn_assign rfl) rfl ?_))); clear S; intro a S
   refine l_done (then_n ?_)
   exact ⟨bitShr .u64 p_x 32, 32, h, S.nf [] rfl (subR rfl)⟩
  ·replace h := iteF h hb1
   refine wp_skip (then_n ?_)
   exact ⟨p_x, 0, h, S.nf [] rfl (subR rfl)⟩
 clear S h; rintro a w1 ⟨x1, x2, h, S⟩; rw [hj1] at h; clear hj1 j1
 refine then_n (f_seq (f_seq (f_region (lv S (rn_move (S.tm rfl)) rfl ?_)))); clear S; intro a S
 refine lv S (rn_geq (S.tm rfl) rfl) rfl ?_; clear S; intro a S
 refine l_done (then_n ?_)
 obtain ⟨j2, hj2, h⟩ := joinE h
 refine f_join (fun a w' => ∃ x3 : Int, ∃ x4 : Int, j2 x3 x4 = some r ∧ Sx w [] nov [] [(0, .int .u64 x3), (2, iV x4)] 25 a w') ?_ ?_
 ·refine f_cond (S.tm rfl) (fun hb2 => ?_) (fun hb2 => ?_)
  ·replace h := iteT h hb2
   refine f_seq (f_region (lv S (rn_move (S.tm rfl)) rfl ?_)); clear S; intro a S
   refine lv S (rn_shr (S.tm rfl) rfl (by decide)) rfl ?_; clear S; intro a S
   refine lv S (rn_assign (S.tm rfl)) rfl ?_; clear S; intro a S
   refine l_done (then_n (f_region (lv S (rn_move (S.tm rfl)) rfl ?_))); clear S; intro a S
   refine lv S (rn_add (S.tm rfl) rfl) rfl ?_; clear S; intro a S
   refine lv S (rn_assign (S.tm rfl)) rfl ?_; clear S; intro a S
   refine l_done (then_n ?_)
   exact ⟨bitShr .u64 x1 16, W (x2 + 16), h, S.nf [] rfl (subR rfl)⟩
  ·replace h := iteF h hb2
   refine wp_skip (then_n ?_)
   exact ⟨x1, x2, h, S.nf [] rfl (subR rfl)⟩
 clear S h; rintro a w2 ⟨x3, x4, h, S⟩; rw [hj2] at h; clear hj2 j2
 refine then_n (f_seq (f_seq (f_region (lv S (rn_move (S.tm rfl)) rfl ?_)))); clear S; intro a S
 refine lv S (rn_geq (S.tm rfl) rfl) rfl ?_; clear S; intro a S
 refine l_done (then_n ?_)
 obtain ⟨j3, hj3, h⟩ := joinE h
 refine f_join (fun a w' => ∃ x5 : Int, ∃ x6 : Int, j3 x5 x6 = some r ∧ Sx w [] nov [] [(0, .int .u64 x5), (2, iV x6)] 25 a w') ?_ ?_
 ·refine f_cond (S.tm rfl) (fun hb3 => ?_) (fun hb3 => ?_)
  ·replace h := iteT h hb3
   refine f_seq (f_region (lv S (rn_move (S.tm rfl)) rfl ?_)); clear S; intro a S
   refine lv S (rn_shr (S.tm rfl) rfl (by decide)) rfl ?_; clear S; intro a S
   refine lv S (rn_assign (S.tm rfl)) rfl ?_; clear S; intro a S
   refine l_done (then_n (f_region (lv S (rn_move (S.tm rfl)) rfl ?_))); clear S; intro a S
   refine lv S (rn_add (S.tm rfl) rfl) rfl ?_; clear S; intro a S
   refine lv S (rn_assign (S.tm rfl)) rfl ?_; clear S; intro a S
   refine l_done (then_n ?_)
   exact ⟨bitShr .u64 x3 8, W (x4 + 8), h, S.nf [] rfl (subR rfl)⟩
  ·replace h := iteF h hb3
   refine wp_skip (then_n ?_)
   exact ⟨x3, x4, h, S.nf [] rfl (subR rfl)⟩
 clear S h; rintro a w3 ⟨x5, x6, h, S⟩; rw [hj3] at h; clear hj3 j3
 refine then_n (f_seq (f_region (lv S (rn_move (S.tm rfl)) rfl ?_))); clear S; intro a S
 refine lv S (rn_move (S.tm rfl)) rfl ?_; clear S; intro a S
 refine lv S (rn_conv Tryz.underlying116 Tryz.underlying5 (S.tm rfl)) rfl ?_; clear S; intro a S
 obtain ⟨hc1, h⟩ := chkE h
 refine lv S (rn_sindexT Tryz.underlying9 rfl (S.tm rfl) hc1) rfl ?_; clear S; intro a S
 refine lv S (rn_conv Tryz.underlying5 Tryz.underlying3 (S.tm rfl)) rfl ?_; clear S; intro a S
 refine lv S (rn_add (S.tm rfl) (S.tm rfl)) rfl ?_; clear S; intro a S
 refine lv S (rn_assign (S.tm rfl)) rfl ?_; clear S; intro a S
 refine l_done (then_n (wp_ret ?_))
 obtain rfl := Option.some.inj h
 exact f_ret S Tryz.results65 rfl rfl
theorem bits_Len_ok (w : World) (p_x : Int) (r : Int) (h : bits_Len p_x = some r) :
    Calls Tryz.prog 32 [.int .u64 p_x].toArray w (Ret w [] fun _ v _ => v = iV r) := by
 refine f_enter [] [] Tryz.func32 rfl Tryz.ntmps32 rfl (by simp) (by simp [fps]) (by simp [fps]) fun a S => ?_
 unfold bits_Len at h
 replace S := S.nk [] [(0, .int .u64 p_x)] [] rfl ⟨rfl, trivial⟩
 refine f_seq (f_region (lv S (rn_assign rfl) rfl ?_)); clear S; intro a S
 refine l_done (then_n (f_seq (f_cond rfl (fun hb1 => ?_) (fun hb1 => ?_))))
 ·replace h := iteT h hb1
  refine f_seq (f_region (lv S (rn_move (S.tm rfl)) rfl ?_)); clear S; intro a S
  refine lv S (rn_conv Tryz.underlying88 Tryz.underlying114 (S.tm rfl)) rfl ?_; clear S; intro a S
  obtain ⟨r1, hr1, h⟩ := bindE h
  refine l_enter S (fun _ => run_call (vs := [.int .u32 (IntKind.wrap .u32 p_x)]) ⟨(S.tm rfl), trivial⟩ Tryz.call64) (bits_Len32_ok _ (IntKind.wrap .u32 p_x) _ hr1) rfl ?_; clear S; intro v1 a w1 hv1 hk1 hn1 S
  subst hv1
  refine lv S (rn_assign (S.tm rfl)) rfl ?_; clear S; intro a S
  refine l_done (then_n (wp_ret (then_r ?_)))
  obtain rfl := Option.some.inj h
  exact f_ret S Tryz.results32 rfl rfl
 ·replace h := iteF h hb1
  refine wp_skip (then_n (f_seq (f_region (lv S (rn_move (S.tm rfl)) rfl ?_)))); clear S; intro a S
  obtain ⟨r2, hr2, h⟩ := bindE h
  refine l_enter S (fun _ => run_call (vs := [.int .u64 p_x]) ⟨(S.tm rfl), trivial⟩ Tryz.call65) (bits_Len64_ok _ p_x _ hr2) rfl ?_; clear S; intro v2 a w2 hv2 hk2 hn2 S
  subst hv2
  refine lv S (rn_assign (S.tm rfl)) rfl ?_; clear S; intro a S
  refine l_done (then_n (wp_ret ?_))
  obtain rfl := Option.some.inj h
  exact f_ret S Tryz.results32 rfl rfl
theorem Stream_RightCalls_c1_ok (w : World) (p_a : GItem) (p_b : GItem) (r : Int) (h : Stream_RightCalls_c1 p_a p_b = r) :
    Calls Tryz.prog 16 [.agg (GItem.enc p_a).toArray, .agg (GItem.enc p_b).toArray].toArray w (Ret w [] fun _ v _ => v = iV r) := by
 refine f_enter [] [] Tryz.func16 rfl Tryz.ntmps16 rfl (by simp) (by simp [fps]) (by simp [fps]) fun a S => ?_
 unfold Stream_RightCalls_c1 at h
 replace S := S.nk [] [(0, .agg (GItem.enc p_a).toArray), (1, .agg (GItem.enc p_b).toArray)] [] rfl (subR rfl)
 refine f_seq (f_region (l_box S (S.tm rfl) (cs := (GItem.enc p_a)) rfl rfl ?_)); clear S; intro a w1 b1 hz1 hk1 S
 refine l_box S (S.tm rfl) (cs := (GItem.enc p_b)) rfl rfl ?_; clear S; intro a w2 b2 hz2 hk2 S
 refine lv S (rn_assign rfl) rfl ?_; clear S; intro a S
 refine l_done (then_n (f_seq (f_seq (f_region (lv S (rn_fld fa_52_0 (S.tm rfl)) rfl ?_))))); clear S; intro a S
 refine lv S (rn_load Tryz.isAgg9 (S.tm rfl) (S.cell (i := 1) rfl rfl)) rfl ?_; clear S; intro a S
 refine lv S (rn_fld fa_52_0 (S.tm rfl)) rfl ?_; clear S; intro a S
 refine lv S (rn_load Tryz.isAgg9 (S.tm rfl) (S.cell (i := 0) rfl rfl)) rfl ?_; clear S; intro a S
 refine lv S (rn_slss (S.tm rfl) (S.tm rfl)) rfl ?_; clear S; intro a S
 refine l_done (then_n (f_cond (S.tm rfl) (fun hb1 => ?_) (fun hb1 => ?_)))
 ·replace h := iteT h hb1
  refine f_seq (f_region (lv S (rn_assign rfl) rfl ?_)); clear S; intro a S
  refine l_done (then_n (wp_ret (then_r ?_)))
  subst h
  exact f_ret S Tryz.results16 rfl rfl
 ·replace h := iteF h hb1
  refine wp_skip (then_n (f_seq (f_region (lv S (rn_assign rfl) rfl ?_)))); clear S; intro a S
  refine l_done (then_n (wp_ret ?_))
  subst h
  exact f_ret S Tryz.results16 rfl rfl
set_option maxRecDepth 20000 in
theorem slices_insertionSortCmpFunc_Item_Stream_RightCalls_c1_ok (w : World) (v_p_data : Value) (p_data : List GItem) (hb_p_data : (LEnt.own v_p_data 52 5 p_data.length (p_data.flatMap GItem.enc)).holds w) (p_a : Int) (p_b : Int) (r : (List GItem)) (h : slices_insertionSortCmpFunc_Item_Stream_RightCalls_c1 p_data p_a p_b = some r) :
    Calls Tryz.prog 56 [v_p_data, iV p_a, iV p_b, .func (.func 16) #[] #[]].toArray w (Ret w (v_p_data.ownBlock.toList) fun _ v w' => (LEnt.own v_p_data 52 5 r.length (r.flatMap GItem.enc)).holds w' ∧ v = .tuple #[]) := by
 refine f_enter (v_p_data.ownBlock.toList) [.own v_p_data 52 5 p_data.length (p_data.flatMap GItem.enc)] Tryz.func56 rfl Tryz.ntmps56 rfl (fun e he => by simp only [List.mem_singleton] at he; subst he; exact hb_p_data) (fps_one_nodup _) (fps_one_sub _) fun a S => ?_
 unfold slices_insertionSortCmpFunc_Item_Stream_RightCalls_c1 at h
 replace S := S.nk [.own v_p_data 52 5 p_data.length (p_data.flatMap GItem.enc)] [(0, v_p_data), (1, iV p_a), (2, iV p_b), (3, .func (.func 16) #[] #[])] [true] rfl (subR rfl)
 refine f_seq (f_region (lv S (rn_move (S.tm rfl)) rfl ?_)); clear S; intro a S
 refine lv S (rn_add (S.tm rfl) rfl) rfl ?_; clear S; intro a S
 refine lv S (rn_assign (S.tm rfl)) rfl ?_; clear S; intro a S
 refine l_done (then_n ?_)
 replace S := S.nk [.own v_p_data 52 5 p_data.length (p_data.flatMap GItem.enc)] [(0, v_p_data), (1, iV p_a), (2, iV p_b), (3, .func (.func 16) #[] #[]), (8, iV (W (p_a + 1)))] [true] rfl (subR rfl)
 obtain ⟨j1, hj1, h⟩ := joinE h
 refine f_join (fun a w' => ∃ x1 : List GItem, j1 x1 = some r ∧ Sx w (v_p_data.ownBlock.toList) nov [.own v_p_data 52 5 x1.length (x1.flatMap GItem.enc)] [] 53 a w') ?_ ?_
 ·refine wp_block (f_loop (fun (m1 : Nat) a w' => ∃ x1 : List GItem, ∃ x2 : Int, slices_insertionSortCmpFunc_Item_Stream_RightCalls_c1_l1 p_b p_a j1 m1 x1 x2 = some r ∧ Sx w (v_p_data.ownBlock.toList) nov [.own v_p_data 52 5 x1.length (x1.flatMap GItem.enc)] [(0, v_p_data), (1, iV p_a), (2, iV p_b), (3, .func (.func 16) #[] #[]), (8, iV x2)] 53 a w') id ((p_b - (W (p_a + 1))).toNat + 2) ⟨p_data, W (p_a + 1), h, S.nf [true] rfl (subR rfl)⟩ ?_)
  clear S h; rintro m1 a w1 ⟨x1, x2, h, S⟩
  cases m1 with
  | zero => rw [slices_insertionSortCmpFunc_Item_Stream_RightCalls_c1_l1.eq_1] at h; cases h
  | succ m1 =>
   rw [slices_insertionSortCmpFunc_Item_Stream_RightCalls_c1_l1.eq_2] at h
   refine f_seq (f_seq (f_region (lv S (rn_move (S.tm rfl)) rfl ?_))); clear S; intro a S
   refine lv S (rn_move (S.tm rfl)) rfl ?_; clear S; intro a S
   refine lv S (rn_lss (S.tm rfl) (S.tm rfl)) rfl ?_; clear S; intro a S
   refine l_done (then_n (f_cond (S.tm rfl) (fun hb1 => ?_) (fun hb1 => ?_)))
   ·replace h := iteT h hb1
    refine wp_skip (then_n (f_seq (wp_block (f_seq (f_region (lv S (rn_move (S.tm rfl)) rfl ?_)))))); clear S; intro a S
    refine lv S (rn_assign (S.tm rfl)) rfl ?_; clear S; intro a S
    refine l_done (then_n ?_)
    replace S := S.nk [.own v_p_data 52 5 x1.length (x1.flatMap GItem.enc)] [(0, v_p_data), (1, iV p_a), (2, iV p_b), (3, .func (.func 16) #[] #[]), (8, iV x2), (9, iV x2)] [true] rfl (subR rfl)
    obtain ⟨j2, hj2, h⟩ := joinE h
    refine f_join (fun a w' => ∃ x3 : List GItem, j2 x3 = some r ∧ Sx w (v_p_data.ownBlock.toList) nov [.own v_p_data 52 5 x3.length (x3.flatMap GItem.enc)] [(0, v_p_data), (1, iV p_a), (2, iV p_b), (3, .func (.func 16) #[] #[]), (8, iV x2)] 53 a w') ?_ ?_
    ·refine wp_block (f_loop (fun (m2 : Nat) a w' => ∃ x3 : List GItem, ∃ x4 : Int, slices_insertionSortCmpFunc_Item_Stream_RightCalls_c1_l2 p_a j2 m2 x3 x4 = some r ∧ Sx w (v_p_data.ownBlock.toList) nov [.own v_p_data 52 5 x3.length (x3.flatMap GItem.enc)] [(0, v_p_data), (1, iV p_a), (2, iV p_b), (3, .func (.func 16) #[] #[]), (8, iV x2), (9, iV x4)] 53 a w') id ((x2 - p_a).toNat + 2) ⟨x1, x2, h, S.nf [true] rfl (subR rfl)⟩ ?_)
     clear S h; rintro m2 a w3 ⟨x3, x4, h, S⟩
     cases m2 with
     | zero => rw [slices_insertionSortCmpFunc_Item_Stream_RightCalls_c1_l2.eq_1] at h; cases h
     | succ m2 =>
      rw [slices_insertionSortCmpFunc_Item_Stream_RightCalls_c1_l2.eq_2] at h
      refine f_seq (f_seq ?_)
      obtain ⟨j3, hj3, h⟩ := joinE h
      refine f_join (fun a w' => ∃ x5 : Bool, j3 x5 = some r ∧ Sx w (v_p_data.ownBlock.toList) nov [.own v_p_data 52 5 x3.length (x3.flatMap GItem.enc)] [(0, v_p_data), (1, iV p_a), (2, iV p_b), (3, .func (.func 16) #[] #[]), (8, iV x2), (9, iV x4), (34, bV x5)] 53 a w') ?_ ?_
      ·rcases Bool.eq_false_or_eq_true (decide (p_a < x4)) with hb2 | hb2
       ·replace h := iteT h hb2
        obtain ⟨hc1, h⟩ := chkE h
        obtain ⟨hc2, h⟩ := chkE h
        refine d_region [] ([]) Tryz.mixed S rfl (by kernel_rfl) ?_; clear S; intro w7 hk2 hsel S
        refine d_quiet 0 S hsel rfl rfl rfl (by kernel_rfl) (by kernel_rfl) rfl (fun _ hw => (rn_move (S.tm rfl))) ?_; clear S; intro a S
        refine d_quiet 1 S hsel rfl rfl rfl (by kernel_rfl) (by kernel_rfl) rfl (fun _ hw => (rn_move (S.tm rfl))) ?_; clear S; intro a S
        refine d_quiet 2 S hsel rfl rfl rfl (by kernel_rfl) (by kernel_rfl) rfl (fun _ hw => (rn_gtr (S.tm rfl) (S.tm rfl))) ?_; clear S; intro a S
        refine d_quiet 3 S hsel rfl rfl rfl (by kernel_rfl) (by kernel_rfl) rfl (fun _ hw => (rn_move (S.tm rfl))) ?_; clear S; intro a S
        refine d_quiet_g 4 S hsel rfl rfl rfl rfl hb2 rfl rfl (by kernel_rfl) (by kernel_rfl) rfl (fun _ hw => (rn_move (S.tm rfl))) ?_; clear S; intro a S
        refine d_quiet_g 5 S hsel rfl rfl rfl rfl hb2 rfl rfl (by kernel_rfl) (by kernel_rfl) rfl (fun _ hw => (rn_move (S.tm rfl))) ?_; clear S; intro a S
        refine d_quiet_g 6 S hsel rfl rfl rfl rfl hb2 rfl rfl (by kernel_rfl) (by kernel_rfl) rfl (fun _ hw => (rn_move (S.tm rfl))) ?_; clear S; intro a S
        obtain ⟨b3, hg3, hr3⟩ := rn_indexS (a := a) (x := .tmp 23) (y := .tmp 24) (ty := 0) sl_26 GItem.enc_ok S (i := 0) rfl (inB_get hc1).1 (inB_get hc1).2 (S.tm rfl) (S.tm rfl)
        refine d_quiet_g 7 S hsel rfl rfl rfl rfl hb2 rfl rfl (by kernel_rfl) (by kernel_rfl) rfl (fun _ hw => (hr3 _)) ?_; clear S; intro a S
        clear hr3
        refine d_quiet_g 8 S hsel rfl rfl rfl rfl hb2 rfl rfl (by kernel_rfl) (by kernel_rfl) rfl (fun _ hw => (rn_ldA Tryz.isAgg52 Tryz.sizeOf52 (off := x4.toNat * 5) (o := 0) (part := (GItem.enc (nth x3 x4))) rfl rfl (S.tm rfl) ((own_mem GItem.enc_ok S (i := 0) rfl hg3 (inB_get hc1).1 (ne_nil (e' := .own v_p_data 52 5 x3.length (x3.flatMap GItem.enc)))).kept hw))) ?_; clear S; intro a S
        refine d_quiet_g 9 S hsel rfl rfl rfl rfl hb2 rfl rfl (by kernel_rfl) (by kernel_rfl) rfl (fun _ hw => (rn_move (S.tm rfl))) ?_; clear S; intro a S
        refine d_quiet_g 10 S hsel rfl rfl rfl rfl hb2 rfl rfl (by kernel_rfl) (by kernel_rfl) rfl (fun _ hw => (rn_move (S.tm rfl))) ?_; clear S; intro a S
        refine d_quiet_g 11 S hsel rfl rfl rfl rfl hb2 rfl rfl (by kernel_rfl) (by kernel_rfl) rfl (fun _ hw => (rn_sub (S.tm rfl) rfl)) ?_; clear S; intro a S
        obtain ⟨b4, hg4, hr4⟩ := rn_indexS (a := a) (x := .tmp 27) (y := .tmp 29) (ty := 0) sl_26 GItem.enc_ok S (i := 0) rfl (inB_get hc2).1 (inB_get hc2).2 (S.tm rfl) (S.tm rfl)
        refine d_quiet_g 12 S hsel rfl rfl rfl rfl hb2 rfl rfl (by kernel_rfl) (by kernel_rfl) rfl (fun _ hw => (hr4 _)) ?_; clear S; intro a S
        clear hr4
        refine d_quiet_g 13 S hsel rfl rfl rfl rfl hb2 rfl rfl (by kernel_rfl) (by kernel_rfl) rfl (fun _ hw => (rn_ldA Tryz.isAgg52 Tryz.sizeOf52 (off := ((W (x4 - 1)).toNat) * 5) (o := 0) (part := (GItem.enc (nth x3 (W (x4 - 1))))) rfl rfl (S.tm rfl) ((own_mem GItem.enc_ok S (i := 0) rfl hg4 (inB_get hc2).1 (ne_nil (e' := .own v_p_data 52 5 x3.length (x3.flatMap GItem.enc)))).kept hw))) ?_; clear S; intro a S
        refine d_loud1 14 (by kernel_rfl) rfl (l_want S rfl rfl rfl hb2 (l_enter S (fun _ => run_callV (cap := []) (S.tm rfl) (vs := [.agg (GItem.enc (nth x3 x4)).toArray, .agg (GItem.enc (nth x3 (W (x4 - 1)))).toArray]) ⟨(S.tm rfl), (S.tm rfl), trivial⟩ Tryz.call16) (Stream_RightCalls_c1_ok _ (nth x3 x4) (nth x3 (W (x4 - 1))) _ rfl) rfl ?_)); clear S; intro v2 a w8 hv2 hk3 hn2 S
        subst hv2
        refine l_done (d_next hk3 (d_rest [15, 16] hsel (by kernel_rfl) rfl ?_))
        clear hsel
        refine s_want S rfl rfl rfl rfl hb2 (s_lv0 S (rn_lss (S.tm rfl) rfl) rfl ?_); clear S; intro a S
        refine s_lv S rfl (rn_pick_b hb2 (S.tm rfl) (S.tm rfl)) rfl ?_; clear S; intro a S
        refine s_done ?_
        replace S := S.nk [.own v_p_data 52 5 x3.length (x3.flatMap GItem.enc)] [(0, v_p_data), (1, iV p_a), (2, iV p_b), (3, .func (.func 16) #[] #[]), (8, iV x2), (9, iV x4), (22, .func (.func 16) #[] #[]), (23, v_p_data), (24, iV x4), (25, .pointer (some ⟨b3, x4.toNat * 5, none⟩)), (26, .agg (GItem.enc (nth x3 x4)).toArray), (27, v_p_data), (28, iV x4), (29, iV (W (x4 - 1))), (30, .pointer (some ⟨b4, ((W (x4 - 1)).toNat) * 5, none⟩)), (31, .agg (GItem.enc (nth x3 (W (x4 - 1)))).toArray), (32, iV (Stream_RightCalls_c1 (nth x3 x4) (nth x3 (W (x4 - 1))))), (33, bV (decide ((Stream_RightCalls_c1 (nth x3 x4) (nth x3 (W (x4 - 1)))) < 0))), (34, bV (decide ((Stream_RightCalls_c1 (nth x3 x4) (nth x3 (W (x4 - 1)))) < 0)))] [true] rfl (subR rfl)
        refine then_n ?_
        exact ⟨decide ((Stream_RightCalls_c1 (nth x3 x4) (nth x3 (W (x4 - 1)))) < 0), h, S.nf [true] rfl (subR rfl)⟩
       ·replace h := iteF h hb2
        refine d_region [] ([]) Tryz.mixed S rfl (by kernel_rfl) ?_; clear S; intro w9 hk4 hsel S
        refine d_rest [0, 1, 2, 3, 4, 5, 6, 7, 8, 9, 10, 11, 12, 13, 14, 15, 16] hsel (by kernel_rfl) rfl ?_
        clear hsel
        refine s_lv S rfl (rn_move (S.tm rfl)) rfl ?_; clear S; intro a S
        refine s_lv S rfl (rn_move (S.tm rfl)) rfl ?_; clear S; intro a S
        refine s_lv S rfl (rn_gtr (S.tm rfl) (S.tm rfl)) rfl ?_; clear S; intro a S
        refine s_lv S rfl (rn_move (S.tm rfl)) rfl ?_; clear S; intro a S
        iterate 12 (refine s_skip S rfl rfl rfl rfl (neq_f hb2) rfl ?_ rfl; clear S; intro a S)
        refine s_lv S rfl (rn_pick_c hb2 (S.tm rfl) rfl) rfl ?_; clear S; intro a S
        refine s_done ?_
        replace S := S.nk [.own v_p_data 52 5 x3.length (x3.flatMap GItem.enc)] [(0, v_p_data), (1, iV p_a), (2, iV p_b), (3, .func (.func 16) #[] #[]), (8, iV x2), (9, iV x4), (34, bV false)] [true] rfl (subR rfl)
        refine then_n ?_
        exact ⟨false, h, S.nf [true] rfl (subR rfl)⟩
      clear S h; rintro a w5 ⟨x5, h, S⟩; rw [hj3] at h; clear hj3 j3
      refine then_n (f_cond (S.tm rfl) (fun hb3 => ?_) (fun hb3 => ?_))
      ·replace h := iteT h hb3
       refine wp_skip (then_n (f_seq (wp_block ?_)))
       obtain ⟨hc3, h⟩ := chkE h
       obtain ⟨hc4, h⟩ := chkE h
       obtain ⟨hc5, h⟩ := chkE h
       obtain ⟨hc6, h⟩ := chkE h
       refine d_region [15, 17] ([]) Tryz.mixed S rfl (by kernel_rfl) ?_; clear S; intro w14 hk9 hsel S
       refine d_pure 0 S hsel rfl rfl (by kernel_rfl) (by kernel_rfl) rfl (fun _ => (rn_move (S.tm rfl))) ?_; clear S; intro a S
       refine d_pure 1 S hsel rfl rfl (by kernel_rfl) (by kernel_rfl) rfl (fun _ => (rn_move (S.tm rfl))) ?_; clear S; intro a S
       refine d_pure 2 S hsel rfl rfl (by kernel_rfl) (by kernel_rfl) rfl (fun _ => (rn_move (S.tm rfl))) ?_; clear S; intro a S
       refine d_pure 3 S hsel rfl rfl (by kernel_rfl) (by kernel_rfl) rfl (fun _ => (rn_move (S.tm rfl))) ?_; clear S; intro a S
       refine d_pure 4 S hsel rfl rfl (by kernel_rfl) (by kernel_rfl) rfl (fun _ => (rn_sub (S.tm rfl) rfl)) ?_; clear S; intro a S
       refine d_pure 5 S hsel rfl rfl (by kernel_rfl) (by kernel_rfl) rfl (fun _ => (rn_move (S.tm rfl))) ?_; clear S; intro a S
       refine d_pure 6 S hsel rfl rfl (by kernel_rfl) (by kernel_rfl) rfl (fun _ => (rn_move (S.tm rfl))) ?_; clear S; intro a S
       refine d_pure 7 S hsel rfl rfl (by kernel_rfl) (by kernel_rfl) rfl (fun _ => (rn_sub (S.tm rfl) rfl)) ?_; clear S; intro a S
       obtain ⟨b9, hg9, hr9⟩ := rn_indexS (a := a) (x := .tmp 42) (y := .tmp 44) (ty := 0) sl_26 GItem.enc_ok S (i := 0) rfl (inB_get hc3).1 (inB_get hc3).2 (S.tm rfl) (S.tm rfl)
       refine d_pure 8 S hsel rfl rfl (by kernel_rfl) (by kernel_rfl) rfl (fun _ => (hr9 _)) ?_; clear S; intro a S
       clear hr9
       refine d_quiet 9 S hsel rfl (by kernel_rfl) (by kernel_rfl) (by kernel_rfl) (by kernel_rfl) rfl (fun _ hw => (rn_ldA Tryz.isAgg52 Tryz.sizeOf52 (off := ((W (x4 - 1)).toNat) * 5) (o := 0) (part := (GItem.enc (nth x3 (W (x4 - 1))))) rfl rfl (S.tm rfl) ((own_mem GItem.enc_ok S (i := 0) rfl hg9 (inB_get hc3).1 (ne_nil (e' := .own v_p_data 52 5 x3.length (x3.flatMap GItem.enc)))).kept hw))) ?_; clear S; intro a S
       refine d_pure 10 S hsel rfl rfl (by kernel_rfl) (by kernel_rfl) rfl (fun _ => (rn_move (S.tm rfl))) ?_; clear S; intro a S
       refine d_pure 11 S hsel rfl rfl (by kernel_rfl) (by kernel_rfl) rfl (fun _ => (rn_move (S.tm rfl))) ?_; clear S; intro a S
       obtain ⟨b10, hg10, hr10⟩ := rn_indexS (a := a) (x := .tmp 47) (y := .tmp 48) (ty := 0) sl_26 GItem.enc_ok S (i := 0) rfl (inB_get hc4).1 (inB_get hc4).2 (S.tm rfl) (S.tm rfl)
       refine d_pure 12 S hsel rfl rfl (by kernel_rfl) (by kernel_rfl) rfl (fun _ => (hr10 _)) ?_; clear S; intro a S
       clear hr10
       refine d_quiet 13 S hsel rfl (by kernel_rfl) (by kernel_rfl) (by kernel_rfl) (by kernel_rfl) rfl (fun _ hw => (rn_ldA Tryz.isAgg52 Tryz.sizeOf52 (off := x4.toNat * 5) (o := 0) (part := (GItem.enc (nth x3 x4))) rfl rfl (S.tm rfl) ((own_mem GItem.enc_ok S (i := 0) rfl hg10 (inB_get hc4).1 (ne_nil (e' := .own v_p_data 52 5 x3.length (x3.flatMap GItem.enc)))).kept hw))) ?_; clear S; intro a S
       obtain ⟨b11, hg11, hr11⟩ := rn_indexS (a := a) (x := .tmp 37) (y := .tmp 38) (ty := 0) sl_26 GItem.enc_ok S (i := 0) rfl (inB_get hc5).1 (inB_get hc5).2 (S.tm rfl) (S.tm rfl)
       refine d_pure 14 S hsel rfl rfl (by kernel_rfl) (by kernel_rfl) rfl (fun _ => (hr11 _)) ?_; clear S; intro a S
       clear hr11
       refine d_loudB 15 (v_p_data.ownBlock.toList) rfl (by kernel_rfl) rfl (l_storeO (c := 0) (j := x4.toNat) (nth x3 (W (x4 - 1))) GItem.enc_ok S (S.tm rfl) (S.tm rfl) (i := 0) rfl hg11 (inB_get hc5).1 Tryz.sizeOf52 (vs := [sV ((nth x3 (W (x4 - 1))).Key), iV ((nth x3 (W (x4 - 1))).Heats), iV ((nth x3 (W (x4 - 1))).Long), iV ((nth x3 (W (x4 - 1))).Gap), iV ((nth x3 (W (x4 - 1))).Break)]) rfl rfl rfl rfl rfl ?_); clear S; intro w16 hk11 S
       refine l_done (d_nextB ?_)
       obtain ⟨b12, hg12, hr12⟩ := rn_indexS (a := a) (x := .tmp 39) (y := .tmp 41) (ty := 0) sl_26 GItem.enc_ok S (i := 0) rfl (inB_get hc6).1 (inB_get hc6).2 (S.tm rfl) (S.tm rfl)
       refine d_quiet 16 S hsel rfl rfl rfl (by kernel_rfl) (by kernel_rfl) rfl (fun _ hw => (hr12 _)) ?_; clear S; intro a S
       clear hr12
       refine d_loud1 17 (by kernel_rfl) rfl (l_storeO (c := 0) (j := (W (x4 - 1)).toNat) (nth x3 x4) GItem.enc_ok S (S.tm rfl) (S.tm rfl) (i := 0) rfl hg12 (inB_get hc6).1 Tryz.sizeOf52 (vs := [sV ((nth x3 x4).Key), iV ((nth x3 x4).Heats), iV ((nth x3 x4).Long), iV ((nth x3 x4).Gap), iV ((nth x3 x4).Break)]) rfl rfl rfl rfl rfl ?_); clear S; intro w18 hk13 S
       refine l_done (d_next hk13 (d_end (by kernel_rfl) ?_))
       clear hsel
       replace S := S.nk [.own v_p_data 52 5 ((x3.set x4.toNat (nth x3 (W (x4 - 1)))).set ((W (x4 - 1)).toNat) (nth x3 x4)).length (((x3.set x4.toNat (nth x3 (W (x4 - 1)))).set ((W (x4 - 1)).toNat) (nth x3 x4)).flatMap GItem.enc)] [(0, v_p_data), (1, iV p_a), (2, iV p_b), (3, .func (.func 16) #[] #[]), (8, iV x2), (9, iV x4)] [true] rfl (subR rfl)
       refine blk_n (then_n (f_region (lv S (rn_move (S.tm rfl)) rfl ?_))); clear S; intro a S
       refine lv S (rn_sub (S.tm rfl) rfl) rfl ?_; clear S; intro a S
       refine lv S (rn_assign (S.tm rfl)) rfl ?_; clear S; intro a S
       refine l_done (then_n ?_)
       exact ⟨m2, ⟨((x3.set x4.toNat (nth x3 (W (x4 - 1)))).set ((W (x4 - 1)).toNat) (nth x3 x4)), W (x4 - 1), h, S.nf [true] rfl ⟨rfl, rfl, rfl, rfl, rfl, rfl, trivial⟩⟩, Nat.lt_succ_self _⟩
      ·replace h := iteF h hb3
       refine wp_exit (then_x (then_x (x_same (then_n ?_))))
       exact ⟨x3, h, S.nf [true] rfl (subR rfl)⟩
    clear S h; rintro a w4 ⟨x3, h, S⟩; rw [hj2] at h; clear hj2 j2
    refine blk_n (then_n (f_region (lv S (rn_move (S.tm rfl)) rfl ?_))); clear S; intro a S
    refine lv S (rn_add (S.tm rfl) rfl) rfl ?_; clear S; intro a S
    refine lv S (rn_assign (S.tm rfl)) rfl ?_; clear S; intro a S
    refine l_done (then_n ?_)
    exact ⟨m1, ⟨x3, W (x2 + 1), h, S.nf [true] rfl ⟨rfl, rfl, rfl, rfl, rfl, trivial⟩⟩, Nat.lt_succ_self _⟩
   ·replace h := iteF h hb1
    refine wp_exit (then_x (then_x (x_same (then_n ?_))))
    exact ⟨x1, h, S.nf [true] rfl trivial⟩
 clear S h; rintro a w2 ⟨x1, h, S⟩; rw [hj1] at h; clear hj1 j1
 obtain rfl := Option.some.inj h
 exact f_ret0 S Tryz.results56 ⟨(S.holds _ (List.mem_of_getElem? (i := 0) rfl)), rfl⟩
theorem slices_pdqsortCmpFunc_Item_Stream_RightCalls_c1_ok (w : World) (v_p_data : Value) (p_data : List GItem) (hb_p_data : (LEnt.own v_p_data 52 5 p_data.length (p_data.flatMap GItem.enc)).holds w) (p_a : Int) (p_b : Int) (p_limit : Int) (r : (List GItem)) (h : slices_pdqsortCmpFunc_Item_Stream_RightCalls_c1 p_data p_a p_b p_limit = some r) :
    Calls Tryz.prog 31 [v_p_data, iV p_a, iV p_b, iV p_limit, .func (.func 16) #[] #[]].toArray w (Ret w (v_p_data.ownBlock.toList) fun _ v w' => (LEnt.own v_p_data 52 5 r.length (r.flatMap GItem.enc)).holds w' ∧ v = .tuple #[]) := by
 refine f_enter (v_p_data.ownBlock.toList) [.own v_p_data 52 5 p_data.length (p_data.flatMap GItem.enc)] Tryz.func31 rfl Tryz.ntmps31 rfl (fun e he => by simp only [List.mem_singleton] at he; subst he; exact hb_p_data) (fps_one_nodup _) (fps_one_sub _) fun a S => ?_
 unfold slices_pdqsortCmpFunc_Item_Stream_RightCalls_c1 at h
 replace S := S.nk [.own v_p_data 52 5 p_data.length (p_data.flatMap GItem.enc)] [(0, v_p_data), (1, iV p_a), (2, iV p_b), (3, iV p_limit), (4, .func (.func 16) #[] #[])] [true] rfl (subR rfl)
 refine f_seq (f_region (lv S (rn_assign rfl) rfl ?_)); clear S; intro a S
 refine l_done (then_n (f_seq (f_region (lv S (rn_assign rfl) rfl ?_)))); clear S; intro a S
 refine l_done (then_n ?_)
 replace S := S.nk [.own v_p_data 52 5 p_data.length (p_data.flatMap GItem.enc)] [(0, v_p_data), (1, iV p_a), (2, iV p_b), (3, iV p_limit), (4, .func (.func 16) #[] #[]), (10, bV true)] [true] rfl (subR rfl)
 refine f_join (fun a w' => False) ?_ ?_
 ·refine wp_block (f_loop (fun (m1 : Nat) a w' => ∃ x1 : Int, ∃ x2 : Int, ∃ x3 : Int, ∃ x4 : Bool, slices_pdqsortCmpFunc_Item_Stream_RightCalls_c1_l1 p_data m1 x1 x2 x3 x4 = some r ∧ Sx w (v_p_data.ownBlock.toList) nov [.own v_p_data 52 5 p_data.length (p_data.flatMap GItem.enc)] [(0, v_p_data), (1, iV x1), (2, iV x2), (3, iV x3), (4, .func (.func 16) #[] #[]), (10, bV x4)] 148 a w') id 4611686018427387904 ⟨p_a, p_b, p_limit, true, h, S.nf [true] rfl (subR rfl)⟩ ?_)
  clear S h; rintro m1 a w1 ⟨x1, x2, x3, x4, h, S⟩
  cases m1 with
  | zero => rw [slices_pdqsortCmpFunc_Item_Stream_RightCalls_c1_l1.eq_1] at h; cases h
  | succ m1 =>
   rw [slices_pdqsortCmpFunc_Item_Stream_RightCalls_c1_l1.eq_2] at h
   refine wp_block (f_seq (f_region (lv S (rn_move (S.tm rfl)) rfl ?_))); clear S; intro a S
   refine lv S (rn_move (S.tm rfl)) rfl ?_; clear S; intro a S
   refine lv S (rn_sub (S.tm rfl) (S.tm rfl)) rfl ?_; clear S; intro a S
   refine lv S (rn_assign (S.tm rfl)) rfl ?_; clear S; intro a S
   refine l_done (then_n (f_seq (f_seq (f_region (lv S (rn_move (S.tm rfl)) rfl ?_))))); clear S; intro a S
   refine lv S (rn_leq (S.tm rfl) rfl) rfl ?_; clear S; intro a S
   refine l_done (then_n (f_cond (S.tm rfl) (fun hb1 => ?_) (fun hb1 => ?_)))
   ·replace h := iteT h hb1
    refine f_seq (f_region (lv S (rn_move (S.tm rfl)) rfl ?_)); clear S; intro a S
    iterate 3 (refine lv S (rn_move (S.tm rfl)) rfl ?_; clear S; intro a S)
    obtain ⟨r1, hr1, h⟩ := bindE h
    refine l_enterO 0 S rfl (fun _ => .own v_p_data 52 5 r1.length (r1.flatMap GItem.enc)) (fun _ => run_call (vs := [v_p_data, iV x1, iV x2, .func (.func 16) #[] #[]]) ⟨(S.tm rfl), (S.tm rfl), (S.tm rfl), (S.tm rfl), trivial⟩ Tryz.call56) (slices_insertionSortCmpFunc_Item_Stream_RightCalls_c1_ok _ v_p_data p_data (S.holds _ (List.mem_of_getElem? (i := 0) rfl)) x1 x2 _ hr1) rfl (fun _ _ _ h => ⟨h.1, fun _ hc => hc⟩) ?_; clear S; intro v1 a w3 hv1 hk1 hn1 S
    replace hv1 := hv1.2
    subst hv1
    refine l_done ?_
    replace S := S.nk [.own v_p_data 52 5 r1.length (r1.flatMap GItem.enc)] [] [true] rfl trivial
    refine then_n (wp_ret (then_r (blk_r (then_r (blk_r (then_r ?_))))))
    obtain rfl := Option.some.inj h
    exact f_ret0 S Tryz.results31 ⟨(S.holds _ (List.mem_of_getElem? (i := 0) rfl)), rfl⟩
   ·replace h := iteF h hb1
    refine wp_skip (then_n (f_seq (f_seq (f_region (lv S (rn_move (S.tm rfl)) rfl ?_))))); clear S; intro a S
    refine lv S (rn_eql (S.tm rfl) rfl) rfl ?_; clear S; intro a S
    refine l_done (then_n (f_cond (S.tm rfl) (fun hb2 => ?_) (fun hb2 => ?_)))
    ·replace h := iteT h hb2
     refine f_seq ?_
     cases h
    ·replace h := iteF h hb2
     refine wp_skip (then_n (f_seq (f_seq (f_region (lv S (rn_move (S.tm rfl)) rfl ?_))))); clear S; intro a S
     refine lv S (rn_not (S.tm rfl)) rfl ?_; clear S; intro a S
     refine l_done ?_
     replace S := S.nk [.own v_p_data 52 5 p_data.length (p_data.flatMap GItem.enc)] [(39, bV (!x4))] [true] rfl ⟨rfl, trivial⟩
     refine then_n (f_cond (S.tm rfl) (fun hb3 => ?_) (fun hb3 => ?_))
     ·replace h := iteT h hb3
      refine f_seq ?_
      cases h
     ·replace h := iteF h hb3
      refine wp_skip (then_n (f_seq ?_))
      cases h
 exact fun _ _ h => h.elim
theorem slices_SortFunc_Item_Stream_RightCalls_c1_ok (w : World) (v_p_x : Value) (p_x : List GItem) (hb_p_x : (LEnt.own v_p_x 52 5 p_x.length (p_x.flatMap GItem.enc)).holds w) (r : (List GItem)) (h : slices_SortFunc_Item_Stream_RightCalls_c1 p_x = some r) :
    Calls Tryz.prog 15 [v_p_x, .func (.func 16) #[] #[]].toArray w (Ret w (v_p_x.ownBlock.toList) fun _ v w' => (LEnt.own v_p_x 52 5 r.length (r.flatMap GItem.enc)).holds w' ∧ v = .tuple #[]) := by
 refine f_enter (v_p_x.ownBlock.toList) [.own v_p_x 52 5 p_x.length (p_x.flatMap GItem.enc)] Tryz.func15 rfl Tryz.ntmps15 rfl (fun e he => by simp only [List.mem_singleton] at he; subst he; exact hb_p_x) (fps_one_nodup _) (fps_one_sub _) fun a S => ?_
 unfold slices_SortFunc_Item_Stream_RightCalls_c1 at h
 replace S := S.nk [.own v_p_x 52 5 p_x.length (p_x.flatMap GItem.enc)] [(0, v_p_x), (1, .func (.func 16) #[] #[])] [true] rfl (subR rfl)
 refine f_seq (f_region (lv S (rn_move (S.tm rfl)) rfl ?_)); clear S; intro a S
 refine lv S (rn_lenT sl_26 (S.tm rfl) (own_len (S.own_at (i := 0) rfl))) rfl ?_; clear S; intro a S
 refine lv S (rn_assign (S.tm rfl)) rfl ?_; clear S; intro a S
 refine l_done (then_n (f_region (lv S (rn_move (S.tm rfl)) rfl ?_))); clear S; intro a S
 refine lv S (rn_move (S.tm rfl)) rfl ?_; clear S; intro a S
 refine lv S (rn_move (S.tm rfl)) rfl ?_; clear S; intro a S
 refine lv S (rn_conv Tryz.underlying3 Tryz.underlying88 (S.tm rfl)) rfl ?_; clear S; intro a S
 obtain ⟨r1, hr1, h⟩ := bindE h
 refine l_enter S (fun _ => run_call (vs := [.int .u64 (IntKind.wrap .u64 (p_x.length : Int))]) ⟨(S.tm rfl), trivial⟩ Tryz.call32) (bits_Len_ok _ (IntKind.wrap .u64 (p_x.length : Int)) _ hr1) rfl ?_; clear S; intro v1 a w1 hv1 hk1 hn1 S
 subst hv1
 refine lv S (rn_move (S.tm rfl)) rfl ?_; clear S; intro a S
 obtain ⟨r2, hr2, h⟩ := bindE h
 refine l_enterO 0 S rfl (fun _ => .own v_p_x 52 5 r2.length (r2.flatMap GItem.enc)) (fun _ => run_call (vs := [v_p_x, iV 0, iV (p_x.length : Int), iV r1, .func (.func 16) #[] #[]]) ⟨(S.tm rfl), rfl, (S.tm rfl), (S.tm rfl), (S.tm rfl), trivial⟩ Tryz.call31) (slices_pdqsortCmpFunc_Item_Stream_RightCalls_c1_ok _ v_p_x p_x (S.holds _ (List.mem_of_getElem? (i := 0) rfl)) 0 (p_x.length : Int) r1 _ hr2) rfl (fun _ _ _ h => ⟨h.1, fun _ hc => hc⟩) ?_; clear S; intro v2 a w2 hv2 hk2 hn2 S
 replace hv2 := hv2.2
 subst hv2
 refine l_done ?_
 obtain rfl := Option.some.inj h
 exact f_ret0 S Tryz.results15 ⟨(S.holds _ (List.mem_of_getElem? (i := 0) rfl)), rfl⟩
theorem Stream_Range_ok (w : World) (b_p_s : Nat) (v_p_s_L : Value) (p_s_L : List Int) (hs_p_s_L : Slc (view w [b_p_s]) 1 v_p_s_L (p_s_L.map eInt)) (p_s_at : Int) (hb_b_p_s : (LEnt.blk b_p_s [v_p_s_L, iV p_s_at] 25).holds w) (p_low : Int) (p_high : Int) (r : Int × Int) (h : Stream_Range p_s_L p_s_at p_low p_high = some r) :
    Calls Tryz.prog 6 [.pointer (some ⟨b_p_s, 0, none⟩), iV p_low, iV p_high].toArray w (Ret w [b_p_s] fun _ v w' => (LEnt.blk b_p_s [v_p_s_L, iV r.2] 25).holds w' ∧ v = iV r.1) := by
 refine f_enter [b_p_s] [.blk b_p_s [v_p_s_L, iV p_s_at] 25] Tryz.func6 rfl Tryz.ntmps6 rfl (fun e he => by simp only [List.mem_singleton] at he; subst he; exact hb_b_p_s) (by simp [fps, LEnt.fp]) (by simp [fps, LEnt.fp]) fun a S => ?_
 unfold Stream_Range at h
 replace S := S.nk [.blk b_p_s [v_p_s_L, iV p_s_at] 25] [(0, .pointer (some ⟨b_p_s, 0, none⟩)), (1, iV p_low), (2, iV p_high)] [true] rfl (subR rfl)
 refine f_seq (f_region (lv S (rn_assign rfl) rfl ?_)); clear S; intro a S
 refine l_done (then_n (f_seq (f_seq (f_region (lv S (rn_move (S.tm rfl)) rfl ?_))))); clear S; intro a S
 refine lv S (rn_move (S.tm rfl)) rfl ?_; clear S; intro a S
 refine lv S (rn_lss (S.tm rfl) (S.tm rfl)) rfl ?_; clear S; intro a S
 refine l_done (then_n (f_cond (S.tm rfl) (fun hb1 => ?_) (fun hb1 => ?_)))
 ·replace h := iteT h hb1
  refine f_seq (f_region (lv S (rn_move (S.tm rfl)) rfl ?_)); clear S; intro a S
  refine lv S (rn_assign (S.tm rfl)) rfl ?_; clear S; intro a S
  refine l_done (then_n (wp_ret (then_r ?_)))
  obtain rfl := Option.some.inj h
  exact f_ret S Tryz.results6 rfl ⟨(S.holds _ (List.mem_of_getElem? (i := 0) rfl)), rfl⟩
 ·replace h := iteF h hb1
  refine wp_skip (then_n (f_seq (f_region (lv S (rn_move (S.tm rfl)) rfl ?_)))); clear S; intro a S
  iterate 3 (refine lv S (rn_move (S.tm rfl)) rfl ?_; clear S; intro a S)
  refine lv S (rn_sub (S.tm rfl) (S.tm rfl)) rfl ?_; clear S; intro a S
  refine lv S (rn_add (S.tm rfl) rfl) rfl ?_; clear S; intro a S
  obtain ⟨r1, hr1, h⟩ := bindE h
  refine l_enter1 0 S (b := b_p_s) rfl rfl (fun _ => .blk b_p_s [v_p_s_L, iV r1.2] 25) (fun _ => run_call (vs := [.pointer (some ⟨b_p_s, 0, none⟩), iV (W ((W (p_high - p_low)) + 1))]) ⟨(S.tm rfl), (S.tm rfl), trivial⟩ Tryz.call17) (Stream_Next_ok _ b_p_s v_p_s_L p_s_L (hs_p_s_L.mono (S.le_arg (fp_sub (i := 0) (e := .blk b_p_s [v_p_s_L, iV p_s_at] 25) rfl))) p_s_at (S.holds _ (List.mem_of_getElem? (i := 0) rfl)) (W ((W (p_high - p_low)) + 1)) _ hr1) rfl (fun _ _ _ h => ⟨h.1, fun _ hc => by cases hc; rfl⟩) ?_; clear S; intro v1 a w1 hv1 hk1 hn1 S
  replace hv1 := hv1.2
  subst hv1
  refine lv S (rn_add (S.tm rfl) (S.tm rfl)) rfl ?_; clear S; intro a S
  refine lv S (rn_assign (S.tm rfl)) rfl ?_; clear S; intro a S
  refine l_done ?_
  replace S := S.nk [.blk b_p_s [v_p_s_L, iV r1.2] 25] [(6, iV (W (p_low + r1.1)))] [true] rfl ⟨rfl, trivial⟩
  refine then_n (wp_ret ?_)
  obtain rfl := Option.some.inj h
  exact f_ret S Tryz.results6 rfl ⟨(S.holds _ (List.mem_of_getElem? (i := 0) rfl)), rfl⟩
set_option maxRecDepth 20000 in
theorem Stream_RightCalls_ok (w : World) (b_p_s : Nat) (v_p_s_L : Value) (p_s_L : List Int) (hs_p_s_L : Slc (view w [b_p_s]) 1 v_p_s_L (p_s_L.map eInt)) (p_s_at : Int) (hb_b_p_s : (LEnt.blk b_p_s [v_p_s_L, iV p_s_at] 25).holds w) (v_p_items : Value) (p_items : List GItem) (hs_p_items : Slc (view w [b_p_s]) 5 v_p_items (p_items.map GItem.enc)) (r : (List GCall) × Int) (h : Stream_RightCalls p_s_L p_s_at p_items = some r) :
    Calls Tryz.prog 5 [.pointer (some ⟨b_p_s, 0, none⟩), v_p_items].toArray w (Ret w [b_p_s] fun τ v w' => (LEnt.blk b_p_s [v_p_s_L, iV r.2] 25).holds w' ∧ OwnV τ 57 3 v r.1.length (r.1.flatMap GCall.enc)) := by
 refine f_enter [b_p_s] [.blk b_p_s [v_p_s_L, iV p_s_at] 25] Tryz.func5 rfl Tryz.ntmps5 rfl (fun e he => by simp only [List.mem_singleton] at he; subst he; exact hb_b_p_s) (by simp [fps, LEnt.fp]) (by simp [fps, LEnt.fp]) fun a S => ?_
 unfold Stream_RightCalls at h
 replace S := S.nk [.blk b_p_s [v_p_s_L, iV p_s_at] 25] [(0, .pointer (some ⟨b_p_s, 0, none⟩)), (1, v_p_items)] [true] rfl (subR rfl)
 refine f_seq (f_region (lv S (rn_assign rfl) rfl ?_)); clear S; intro a S
 refine l_done (then_n (f_seq (f_region (lv S (rn_assign rfl) rfl ?_)))); clear S; intro a S
 replace S := S.nil 57 3
 refine l_done (then_n (f_seq (f_seq (f_region (l_buildSlice S Tryz.underlying37 Tryz.sizeOf9 Tryz.zeroValue9 rfl rfl (pv := [(0, sV k_ann), (1, sV k_bea), (2, sV k_cid)]) ⟨rfl, rfl, rfl, rfl, rfl, rfl, trivial⟩ (cs := [sV k_ann, sV k_bea, sV k_cid]) (by kernel_rfl) rfl ?_))))); clear S; intro a w1 b1 hz1 hk1 S
 refine lv S (rn_lenT sl_37 (S.tm rfl) ⟨_, _, rfl⟩) rfl ?_; clear S; intro a S
 refine lv S (rn_move rfl) rfl ?_; clear S; intro a S
 refine l_done (then_n ?_)
 replace S := S.nk [.blk b1 [sV k_ann, sV k_bea, sV k_cid] 9, .own (.slice none 0 0) 57 3 ([] : List GCall).length (([] : List GCall).flatMap GCall.enc), .blk b_p_s [v_p_s_L, iV p_s_at] 25] [(0, .pointer (some ⟨b_p_s, 0, none⟩)), (1, v_p_items), (5, (.slice none 0 0)), (11, .slice (some ⟨b1, 0, none⟩) 3 3), (12, iV (([k_ann, k_bea, k_cid] : List ByteArray).length : Int)), (13, iV 0)] [true, true, true] rfl (subR rfl)
 replace S := S.litOwn (i := 0) (xs := [k_ann, k_bea, k_cid]) rfl enc_str rfl rfl rfl
 replace S := S.nk [.own (.slice (some ⟨b1, 0, none⟩) 3 3) 9 1 ([k_ann, k_bea, k_cid] : List ByteArray).length (([k_ann, k_bea, k_cid] : List ByteArray).flatMap eStr), .own (.slice none 0 0) 57 3 ([] : List GCall).length (([] : List GCall).flatMap GCall.enc), .blk b_p_s [v_p_s_L, iV p_s_at] 25] [(0, .pointer (some ⟨b_p_s, 0, none⟩)), (1, v_p_items), (5, (.slice none 0 0)), (11, (.slice (some ⟨b1, 0, none⟩) 3 3)), (12, iV (([k_ann, k_bea, k_cid] : List ByteArray).length : Int)), (13, iV 0)] [] rfl (subR rfl)
 obtain ⟨φ1, hl1, hs1, S⟩ := S.freezeT (xs := ([k_ann, k_bea, k_cid] : List ByteArray)) (enc := eStr) (i := 0) rfl (fun c hc hh => not_fps S (i := 2) rfl rfl (j := 0) rfl rfl (by simp at hc; subst hc; exact hh))
 replace S := S.nk [.own (.slice none 0 0) 57 3 ([] : List GCall).length (([] : List GCall).flatMap GCall.enc), .blk b_p_s [v_p_s_L, iV p_s_at] 25] [(0, .pointer (some ⟨b_p_s, 0, none⟩)), (1, v_p_items), (5, (.slice none 0 0)), (11, (.slice (some ⟨b1, 0, none⟩) 3 3)), (12, iV (([k_ann, k_bea, k_cid] : List ByteArray).length : Int)), (13, iV 0)] [] rfl (subR rfl)
 obtain ⟨j1, hj1, h⟩ := joinE h
 refine f_join (fun a w' => ∃ x1 : List GCall, ∃ x2 : Int, ∃ v1 : Value, j1 x1 x2 = some r ∧ Sx w [b_p_s] φ1 [.own v1 57 3 x1.length (x1.flatMap GCall.enc), .blk b_p_s [v_p_s_L, iV x2] 25] [(5, v1)] 49 a w') ?_ ?_
 ·refine wp_block (f_loop (fun (ys1 : List ByteArray) a w' => ∃ i1 : Nat, ∃ x1 : List GCall, ∃ x2 : Int, ∃ v1 : Value, (∃ dn, ([k_ann, k_bea, k_cid] : List ByteArray) = dn ++ ys1 ∧ dn.length = i1) ∧ Stream_RightCalls_l1 p_items p_s_L j1 ys1 i1 x1 x2 = some r ∧ Sx w [b_p_s] φ1 [.own v1 57 3 x1.length (x1.flatMap GCall.enc), .blk b_p_s [v_p_s_L, iV x2] 25] [(0, .pointer (some ⟨b_p_s, 0, none⟩)), (1, v_p_items), (5, v1), (11, (.slice (some ⟨b1, 0, none⟩) 3 3)), (12, iV (([k_ann, k_bea, k_cid] : List ByteArray).length : Int)), (13, iV (i1 : Int))] 49 a w') List.length ([k_ann, k_bea, k_cid] : List ByteArray) ⟨0, ([] : List GCall), p_s_at, (.slice none 0 0), ⟨[], rfl, rfl⟩, h, S.nf [true, true] rfl (subR rfl)⟩ ?_)
  clear S h; rintro ys1 a w2 ⟨i1, x1, x2, v1, ⟨dn, hd1, hi1⟩, h, S⟩
  cases ys1 with
  | nil =>
   rw [Stream_RightCalls_l1.eq_1] at h
   refine f_seq (f_region (lv S (rn_lss (S.tm rfl) (S.tm rfl)) rfl ?_)); clear S; intro a S
   refine l_done ?_
   replace S := S.nk [.own v1 57 3 x1.length (x1.flatMap GCall.enc), .blk b_p_s [v_p_s_L, iV x2] 25] [(0, .pointer (some ⟨b_p_s, 0, none⟩)), (1, v_p_items), (5, v1), (11, (.slice (some ⟨b1, 0, none⟩) 3 3)), (12, iV (([k_ann, k_bea, k_cid] : List ByteArray).length : Int)), (13, iV (i1 : Int)), (14, bV (decide ((i1 : Int) < (([k_ann, k_bea, k_cid] : List ByteArray).length : Int))))] [true, true] rfl (subR rfl)
   refine then_n (f_seq (wp_cond_false ((S.tm rfl).trans (congrArg Value.bool (rng_nil hd1 hi1))) (wp_exit (then_x (then_x (x_same ?_))))))
   refine then_n ?_
   exact ⟨x1, x2, v1, h, S.nf [true, true] rfl ⟨rfl, trivial⟩⟩
  | cons y1 ys1 =>
   rw [Stream_RightCalls_l1.eq_2] at h
   refine f_seq (f_region (lv S (rn_lss (S.tm rfl) (S.tm rfl)) rfl ?_)); clear S; intro a S
   refine l_done ?_
   replace S := S.nk [.own v1 57 3 x1.length (x1.flatMap GCall.enc), .blk b_p_s [v_p_s_L, iV x2] 25] [(0, .pointer (some ⟨b_p_s, 0, none⟩)), (1, v_p_items), (5, v1), (11, (.slice (some ⟨b1, 0, none⟩) 3 3)), (12, iV (([k_ann, k_bea, k_cid] : List ByteArray).length : Int)), (13, iV (i1 : Int)), (14, bV (decide ((i1 : Int) < (([k_ann, k_bea, k_cid] : List ByteArray).length : Int))))] [true, true] rfl (subR rfl)
   refine then_n (f_seq (wp_cond_true ((S.tm rfl).trans (congrArg Value.bool (rng_cons hd1 hi1))) (wp_skip (then_n (f_seq (wp_block ?_))))))
   refine f_seq (f_region ?_)
   obtain ⟨b2, o1, hm1, hr1⟩ := rn_indexT (a := a) (x := .tmp 11) (y := .tmp 13) (ty := 0) sl_37 (ownV_slcT enc_str hs1) (get_mid hd1 hi1) rfl (S.tm rfl) (S.tm rfl)
   refine lv S (hr1 _) rfl ?_; clear S; intro a S
   clear hr1
   refine lv S (rn_ld Tryz.isAgg9 (off := o1) (o := 0) (S.tm rfl) (hm1.at S.emb) rfl) rfl ?_; clear S; intro a S
   refine lv S (rn_assign (S.tm rfl)) rfl ?_; clear S; intro a S
   refine l_done (then_n (f_seq (f_region (lv S (rn_move (S.tm rfl)) rfl ?_)))); clear S; intro a S
   obtain ⟨r1, hr2, h⟩ := bindE h
   have hz2 := S.keep.size
   refine l_enter S (fun _ => run_call (vs := [v_p_items]) ⟨(S.tm rfl), trivial⟩ Tryz.call14) (slices_Clone_Item_ok _ v_p_items p_items (hs_p_items.mono (S.le_arg nil_sub)) _ hr2) rfl ?_; clear S; intro v2 a w4 hv1 hk2 hn1 S
   replace S := S.take hn1 hz2 hv1
   refine lv S (rn_assign (S.tm rfl)) rfl ?_; clear S; intro a S
   refine l_done (then_n (f_seq (f_region (lv S (rn_move (S.tm rfl)) rfl ?_)))); clear S; intro a S
   obtain ⟨r2, hr3, h⟩ := bindE h
   refine l_enterO 0 S rfl (fun _ => .own v2 52 5 r2.length (r2.flatMap GItem.enc)) (fun _ => run_call (vs := [v2, .func (.func 16) #[] #[]]) ⟨(S.tm rfl), rfl, trivial⟩ Tryz.call15) (slices_SortFunc_Item_Stream_RightCalls_c1_ok _ v2 r1 (S.holds _ (List.mem_of_getElem? (i := 0) rfl)) _ hr3) rfl (fun _ _ _ h => ⟨h.1, fun _ hc => hc⟩) ?_; clear S; intro v3 a w5 hv2 hk3 hn2 S
   replace hv2 := hv2.2
   subst hv2
   refine l_done ?_
   replace S := S.nk [.own v2 52 5 r2.length (r2.flatMap GItem.enc), .own v1 57 3 x1.length (x1.flatMap GCall.enc), .blk b_p_s [v_p_s_L, iV x2] 25] [(0, .pointer (some ⟨b_p_s, 0, none⟩)), (1, v_p_items), (5, v1), (7, sV y1), (8, v2), (11, (.slice (some ⟨b1, 0, none⟩) 3 3)), (12, iV (([k_ann, k_bea, k_cid] : List ByteArray).length : Int)), (13, iV (i1 : Int))] [true, true, true] rfl (subR rfl)
   refine then_n (f_seq (f_region (lv S (rn_move (S.tm rfl)) rfl ?_))); clear S; intro a S
   refine lv S (rn_lenT sl_26 (S.tm rfl) (own_len (S.own_at (i := 0) rfl))) rfl ?_; clear S; intro a S
   refine lv S (rn_move rfl) rfl ?_; clear S; intro a S
   refine l_done (then_n ?_)
   replace S := S.nk [.own v2 52 5 r2.length (r2.flatMap GItem.enc), .own v1 57 3 x1.length (x1.flatMap GCall.enc), .blk b_p_s [v_p_s_L, iV x2] 25] [(0, .pointer (some ⟨b_p_s, 0, none⟩)), (1, v_p_items), (5, v1), (7, sV y1), (11, (.slice (some ⟨b1, 0, none⟩) 3 3)), (12, iV (([k_ann, k_bea, k_cid] : List ByteArray).length : Int)), (13, iV (i1 : Int)), (21, v2), (22, iV (r2.length : Int)), (23, iV 0)] [true, true, true] rfl (subR rfl)
   have hm2 := own_max (S.own_at (i := 0) rfl)
   obtain ⟨j2, hj2, h⟩ := joinE h
   refine f_join (fun a w' => ∃ x3 : List GCall, ∃ x4 : Int, ∃ v4 : Value, j2 x3 x4 = some r ∧ Sx w [b_p_s] φ1 [.own v2 52 5 r2.length (r2.flatMap GItem.enc), .own v4 57 3 x3.length (x3.flatMap GCall.enc), .blk b_p_s [v_p_s_L, iV x4] 25] [(0, .pointer (some ⟨b_p_s, 0, none⟩)), (1, v_p_items), (5, v4), (11, (.slice (some ⟨b1, 0, none⟩) 3 3)), (12, iV (([k_ann, k_bea, k_cid] : List ByteArray).length : Int)), (13, iV (i1 : Int))] 49 a w') ?_ ?_
   ·refine wp_block (f_loop (fun (ys2 : List GItem) a w' => ∃ i2 : Nat, ∃ x3 : List GCall, ∃ x4 : Int, ∃ v4 : Value, (∃ dn, r2 = dn ++ ys2 ∧ dn.length = i2) ∧ Stream_RightCalls_l2 p_s_L y1 j2 ys2 i2 x3 x4 = some r ∧ Sx w [b_p_s] φ1 [.own v2 52 5 r2.length (r2.flatMap GItem.enc), .own v4 57 3 x3.length (x3.flatMap GCall.enc), .blk b_p_s [v_p_s_L, iV x4] 25] [(0, .pointer (some ⟨b_p_s, 0, none⟩)), (1, v_p_items), (5, v4), (7, sV y1), (11, (.slice (some ⟨b1, 0, none⟩) 3 3)), (12, iV (([k_ann, k_bea, k_cid] : List ByteArray).length : Int)), (13, iV (i1 : Int)), (21, v2), (22, iV (r2.length : Int)), (23, iV (i2 : Int))] 49 a w') List.length r2 ⟨0, x1, x2, v1, ⟨[], rfl, rfl⟩, h, S.nf [true, true, true] rfl (subR rfl)⟩ ?_)
    clear S h; rintro ys2 a w6 ⟨i2, x3, x4, v4, ⟨dn, hd2, hi2⟩, h, S⟩
    cases ys2 with
    | nil =>
     rw [Stream_RightCalls_l2.eq_1] at h
     refine f_seq (f_region (lv S (rn_lss (S.tm rfl) (S.tm rfl)) rfl ?_)); clear S; intro a S
     refine l_done ?_
     replace S := S.nk [.own v2 52 5 r2.length (r2.flatMap GItem.enc), .own v4 57 3 x3.length (x3.flatMap GCall.enc), .blk b_p_s [v_p_s_L, iV x4] 25] [(0, .pointer (some ⟨b_p_s, 0, none⟩)), (1, v_p_items), (5, v4), (7, sV y1), (11, (.slice (some ⟨b1, 0, none⟩) 3 3)), (12, iV (([k_ann, k_bea, k_cid] : List ByteArray).length : Int)), (13, iV (i1 : Int)), (21, v2), (22, iV (r2.length : Int)), (23, iV (i2 : Int)), (24, bV (decide ((i2 : Int) < (r2.length : Int))))] [true, true, true] rfl (subR rfl)
     refine then_n (f_seq (wp_cond_false ((S.tm rfl).trans (congrArg Value.bool (rng_nil hd2 hi2))) (wp_exit (then_x (then_x (x_same ?_))))))
     refine then_n ?_
     exact ⟨x3, x4, v4, h, S.nf [true, true, true] rfl (subR rfl)⟩
    | cons y2 ys2 =>
     rw [Stream_RightCalls_l2.eq_2] at h
     refine f_seq (f_region (lv S (rn_lss (S.tm rfl) (S.tm rfl)) rfl ?_)); clear S; intro a S
     refine l_done ?_
     replace S := S.nk [.own v2 52 5 r2.length (r2.flatMap GItem.enc), .own v4 57 3 x3.length (x3.flatMap GCall.enc), .blk b_p_s [v_p_s_L, iV x4] 25] [(0, .pointer (some ⟨b_p_s, 0, none⟩)), (1, v_p_items), (5, v4), (7, sV y1), (11, (.slice (some ⟨b1, 0, none⟩) 3 3)), (12, iV (([k_ann, k_bea, k_cid] : List ByteArray).length : Int)), (13, iV (i1 : Int)), (21, v2), (22, iV (r2.length : Int)), (23, iV (i2 : Int)), (24, bV (decide ((i2 : Int) < (r2.length : Int))))] [true, true, true] rfl (subR rfl)
     refine then_n (f_seq (wp_cond_true ((S.tm rfl).trans (congrArg Value.bool (rng_cons hd2 hi2))) (wp_skip (then_n (f_seq ?_)))))
     obtain ⟨j3, hj3, h⟩ := joinE h
     refine f_join (fun a w' => ∃ x5 : List GCall, ∃ x6 : Int, ∃ v5 : Value, j3 x5 x6 = some r ∧ Sx w [b_p_s] φ1 [.own v2 52 5 r2.length (r2.flatMap GItem.enc), .own v5 57 3 x5.length (x5.flatMap GCall.enc), .blk b_p_s [v_p_s_L, iV x6] 25] [(0, .pointer (some ⟨b_p_s, 0, none⟩)), (1, v_p_items), (5, v5), (7, sV y1), (11, (.slice (some ⟨b1, 0, none⟩) 3 3)), (12, iV (([k_ann, k_bea, k_cid] : List ByteArray).length : Int)), (13, iV (i1 : Int)), (21, v2), (22, iV (r2.length : Int)), (23, iV (i2 : Int))] 49 a w') ?_ ?_
     ·refine wp_block (f_seq (f_region ?_))
      obtain ⟨b3, hg1, hr4⟩ := rn_indexS (a := a) (x := .tmp 21) (y := .tmp 23) (ty := 0) sl_26 GItem.enc_ok S (i := 0) rfl (get_mid hd2 hi2) rfl (S.tm rfl) (S.tm rfl)
      refine lv S (hr4 _) rfl ?_; clear S; intro a S
      clear hr4
      refine lv S (rn_ldA Tryz.isAgg52 Tryz.sizeOf52 (off := i2 * 5) (o := 0) (part := (GItem.enc y2)) rfl rfl (S.tm rfl) (own_cells GItem.enc_ok S (i := 0) rfl hg1 (get_mid hd2 hi2))) rfl ?_; clear S; intro a S
      refine l_alloc S Tryz.zeroValue52 (cs := [sV k_empty, iV 0, iV 0, iV 0, iV 0]) rfl rfl ?_; clear S; intro a w9 b4 hz3 hk4 S
      refine l_store S (S.tm rfl) (S.tm rfl) (i := 0) (off := 0) rfl Tryz.sizeOf52 (vs := (GItem.enc y2)) rfl rfl rfl rfl ?_; clear S; intro w10 hk5 S
      refine l_done (then_n (f_seq (f_region (lv S (rn_move (S.tm rfl)) rfl ?_)))); clear S; intro a S
      obtain ⟨r3, hr5, h⟩ := bindE h
      refine l_enter1 3 S (b := b_p_s) rfl rfl (fun _ => .blk b_p_s [v_p_s_L, iV r3.2] 25) (fun _ => run_call (vs := [.pointer (some ⟨b_p_s, 0, none⟩), iV 2]) ⟨(S.tm rfl), rfl, trivial⟩ Tryz.call12) (Stream_Flip_ok _ b_p_s v_p_s_L p_s_L (hs_p_s_L.mono (S.le_arg (fp_sub (i := 3) (e := .blk b_p_s [v_p_s_L, iV x4] 25) rfl))) x4 (S.holds _ (List.mem_of_getElem? (i := 3) rfl)) 2 _ hr5) rfl (fun _ _ _ h => ⟨h.1, fun _ hc => by cases hc; rfl⟩) ?_; clear S; intro v6 a w11 hv3 hk6 hn3 S
      replace hv3 := hv3.2
      subst hv3
      refine lv S (rn_move (S.tm rfl)) rfl ?_; clear S; intro a S
      refine f_cutm 4 (fun a w' => Keep [] w11 w' ∧ Sx w [b_p_s] φ1 [.blk b4 (GItem.enc y2) 52, .own v2 52 5 r2.length (r2.flatMap GItem.enc), .own v4 57 3 x3.length (x3.flatMap GCall.enc), .blk b_p_s [v_p_s_L, iV r3.2] 25] [(0, .pointer (some ⟨b_p_s, 0, none⟩)), (1, v_p_items), (5, v4), (7, sV y1), (10, .pointer (some ⟨b4, 0, none⟩)), (11, (.slice (some ⟨b1, 0, none⟩) 3 3)), (12, iV (([k_ann, k_bea, k_cid] : List ByteArray).length : Int)), (13, iV (i1 : Int)), (21, v2), (22, iV (r2.length : Int)), (23, iV (i2 : Int)), (33, bV (r3.1 && (decide (0 < y2.Heats))))] 49 a w') ?_ ?_
      ·rcases Bool.eq_false_or_eq_true r3.1 with hb1 | hb1
       ·refine l_want S rfl rfl rfl hb1 (lv S (rn_fld fa_52_1 (S.tm rfl)) rfl ?_); clear S; intro a S
        refine l_want S rfl rfl rfl hb1 (lv S (rn_load Tryz.isAgg3 (S.tm rfl) (S.cell (i := 0) rfl rfl)) rfl ?_); clear S; intro a S
        refine l_want S rfl rfl rfl hb1 (lv S (rn_gtr (S.tm rfl) rfl) rfl ?_); clear S; intro a S
        refine lv S (rn_and_t hb1 (S.tm rfl) (S.tm rfl)) rfl ?_; clear S; intro a S
        refine l_done (then_n ?_)
        exact ⟨Keep.refl _ _, S.nf [true, true, true, true] rfl (subR rfl)⟩
       ·iterate 3 (refine l_skip S rfl rfl rfl (neq_f hb1) rfl ?_ rfl; clear S; intro a S)
        refine lv S (rn_and_f (decide (0 < y2.Heats)) hb1 (S.tm rfl) rfl) rfl ?_; clear S; intro a S
        refine l_done (then_n ?_)
        exact ⟨Keep.refl _ _, S.nf [true, true, true, true] rfl (subR rfl)⟩
      clear S; rintro a w12 ⟨hk7, S⟩
      refine l_done (then_n ?_)
      obtain ⟨j4, hj4, h⟩ := joinE h
      refine f_join (fun a w' => ∃ x7 : List GCall, ∃ x8 : Int, ∃ v7 : Value, j4 x7 x8 = some r ∧ Sx w [b_p_s] φ1 [.own v2 52 5 r2.length (r2.flatMap GItem.enc), .own v7 57 3 x7.length (x7.flatMap GCall.enc), .blk b_p_s [v_p_s_L, iV x8] 25] [(0, .pointer (some ⟨b_p_s, 0, none⟩)), (1, v_p_items), (5, v7), (7, sV y1), (11, (.slice (some ⟨b1, 0, none⟩) 3 3)), (12, iV (([k_ann, k_bea, k_cid] : List ByteArray).length : Int)), (13, iV (i1 : Int)), (21, v2), (22, iV (r2.length : Int)), (23, iV (i2 : Int))] 49 a w') ?_ ?_
      ·refine f_cond (S.tm rfl) (fun hb2 => ?_) (fun hb2 => ?_)
       ·replace h := iteT h hb2
        obtain ⟨r4, hr6, h⟩ := bindE h
        obtain ⟨hc1, h⟩ := chkE h
        refine d_region [] ([b_p_s] ++ v4.ownBlock.toList) Tryz.mixed S rfl (by kernel_rfl) ?_; clear S; intro w17 hk11 hsel S
        refine d_quiet 0 S hsel rfl rfl rfl (by kernel_rfl) (by kernel_rfl) rfl (fun _ hw => (rn_move (S.tm rfl))) ?_; clear S; intro a S
        refine d_quiet 1 S hsel rfl rfl rfl (by kernel_rfl) (by kernel_rfl) rfl (fun _ hw => (rn_move (S.tm rfl))) ?_; clear S; intro a S
        refine d_quiet 2 S hsel rfl rfl rfl (by kernel_rfl) (by kernel_rfl) rfl (fun _ hw => (rn_fld fa_52_0 (S.tm rfl))) ?_; clear S; intro a S
        refine d_quiet 3 S hsel rfl rfl rfl (by kernel_rfl) (by kernel_rfl) rfl (fun _ hw => (rn_ld Tryz.isAgg9 (off := 0) (o := 0) (S.tm rfl) ((S.blk_mem (i := 0) (cells := (GItem.enc y2)) (b := b4) (T := 52) rfl (ne_app (ne_fp (i := 3) (j := 0) (e := .blk b_p_s [v_p_s_L, iV r3.2] 25) (e' := .blk b4 (GItem.enc y2) 52) S rfl rfl rfl) (ne_fp (i := 2) (j := 0) (e := .own v4 57 3 x3.length (x3.flatMap GCall.enc)) (e' := .blk b4 (GItem.enc y2) 52) S rfl rfl rfl))).kept hw) rfl)) ?_; clear S; intro a S
        refine d_quiet 4 S hsel rfl rfl rfl (by kernel_rfl) (by kernel_rfl) rfl (fun _ hw => (rn_move (S.tm rfl))) ?_; clear S; intro a S
        refine d_quiet 5 S hsel rfl rfl rfl (by kernel_rfl) (by kernel_rfl) rfl (fun _ hw => (rn_fld fa_52_1 (S.tm rfl))) ?_; clear S; intro a S
        refine d_quiet 6 S hsel rfl rfl rfl (by kernel_rfl) (by kernel_rfl) rfl (fun _ hw => (rn_ld Tryz.isAgg3 (off := 0) (o := 1) (S.tm rfl) ((S.blk_mem (i := 0) (cells := (GItem.enc y2)) (b := b4) (T := 52) rfl (ne_app (ne_fp (i := 3) (j := 0) (e := .blk b_p_s [v_p_s_L, iV r3.2] 25) (e' := .blk b4 (GItem.enc y2) 52) S rfl rfl rfl) (ne_fp (i := 2) (j := 0) (e := .own v4 57 3 x3.length (x3.flatMap GCall.enc)) (e' := .blk b4 (GItem.enc y2) 52) S rfl rfl rfl))).kept hw) rfl)) ?_; clear S; intro a S
        refine d_quiet 7 S hsel rfl rfl rfl (by kernel_rfl) (by kernel_rfl) rfl (fun _ hw => (rn_min2 (S.tm rfl) rfl)) ?_; clear S; intro a S
        refine d_loud1 8 (by kernel_rfl) rfl ?_
        refine l_enter1 3 S (b := b_p_s) rfl rfl (fun _ => .blk b_p_s [v_p_s_L, iV r4.2] 25) (fun _ => run_call (vs := [.pointer (some ⟨b_p_s, 0, none⟩), iV 1, iV (imin y2.Heats 3)]) ⟨(S.tm rfl), rfl, (S.tm rfl), trivial⟩ Tryz.call6) (Stream_Range_ok _ b_p_s v_p_s_L p_s_L (hs_p_s_L.mono (S.le_arg (fp_sub (i := 3) (e := .blk b_p_s [v_p_s_L, iV r3.2] 25) rfl))) r3.2 (S.holds _ (List.mem_of_getElem? (i := 3) rfl)) 1 (imin y2.Heats 3) _ hr6) rfl (fun _ _ _ h => ⟨h.1, fun _ hc => by cases hc; rfl⟩) ?_; clear S; intro v10 a w18 hv5 hk12 hn5 S
        replace hv5 := hv5.2
        subst hv5
        refine l_done ?_
        refine d_next (hk12.sub (by intro y hy; simp at hy ⊢; simp [hy])) ?_
        refine d_quiet 9 S hsel rfl rfl rfl (by kernel_rfl) (by kernel_rfl) rfl (fun _ hw => (rn_bld bt_57 (pv := [(0, sV y1), (1, sV y2.Key), (2, iV r4.1)]) ⟨rfl, (S.tm rfl), rfl, (S.tm rfl), rfl, (S.tm rfl), trivial⟩ (cs := [sV y1, sV y2.Key, iV r4.1]) (by kernel_rfl))) ?_; clear S; intro a S
        refine d_loud1 10 (by kernel_rfl) rfl (l_buildSlice S Tryz.underlying28 Tryz.sizeOf57 Tryz.zeroValue57 rfl rfl (pv := [(0, .agg #[sV y1, sV y2.Key, iV r4.1])]) ⟨rfl, (S.tm rfl), trivial⟩ (cs := [sV y1, sV y2.Key, iV r4.1]) (by kernel_rfl) rfl ?_); clear S; intro a w19 b6 hz5 hk13 S
        refine l_done (d_next (Keep.none hk13) (d_loud1 11 (by kernel_rfl) rfl ?_))
        refine l_appendT sl_28 GCall.enc_ok S (S.tm rfl) (i := 3) rfl (S.tm rfl) (j := 0) rfl (ys := [(GCall.mk y1 y2.Key r4.1)]) rfl rfl rfl rfl (by have := room_lt hc1; omega) rfl ?_; clear S; intro v11 a w20 hk14 S
        refine l_done ?_
        refine d_next (hk14.sub (by intro y hy; simp at hy ⊢; simp [hy])) ?_
        refine d_rest [12] hsel (by kernel_rfl) rfl ?_
        clear hsel
        refine s_lv S rfl (rn_assign (S.tm rfl)) rfl ?_; clear S; intro a S
        refine s_done ?_
        replace S := S.nk [.own v2 52 5 r2.length (r2.flatMap GItem.enc), .own v11 57 3 (x3 ++ [(GCall.mk y1 y2.Key r4.1)]).length ((x3 ++ [(GCall.mk y1 y2.Key r4.1)]).flatMap GCall.enc), .blk b_p_s [v_p_s_L, iV r4.2] 25] [(0, .pointer (some ⟨b_p_s, 0, none⟩)), (1, v_p_items), (5, v11), (7, sV y1), (11, (.slice (some ⟨b1, 0, none⟩) 3 3)), (12, iV (([k_ann, k_bea, k_cid] : List ByteArray).length : Int)), (13, iV (i1 : Int)), (21, v2), (22, iV (r2.length : Int)), (23, iV (i2 : Int))] [false, false, true, true, true] rfl (subR rfl)
        refine then_n ?_
        exact ⟨(x3 ++ [(GCall.mk y1 y2.Key r4.1)]), r4.2, v11, h, S.nf [true, true, true] rfl (subR rfl)⟩
       ·replace h := iteF h hb2
        refine wp_skip (then_n ?_)
        exact ⟨x3, r3.2, v4, h, S.nf [false, true, true, true] rfl (subR rfl)⟩
      clear S h; rintro a w13 ⟨x7, x8, v7, h, S⟩; rw [hj4] at h; clear hj4 j4
      refine blk_n (then_n ?_)
      exact ⟨x7, x8, v7, h, S.nf [true, true, true] rfl (subR rfl)⟩
     clear S h; rintro a w8 ⟨x5, x6, v5, h, S⟩; rw [hj3] at h; clear hj3 j3
     refine then_n (f_region (lv S (rn_add (S.tm rfl) rfl) rfl ?_)); clear S; intro a S
     refine lv S (rn_move (S.tm rfl)) rfl ?_; clear S; intro a S
     refine l_done (then_n ?_)
     exact ⟨ys2, ⟨i2 + 1, x5, x6, v5, ⟨_, (hd2).trans (List.append_cons _ _ _), by simp [hi2]⟩, h, S.nf [true, true, true] rfl ⟨rfl, rfl, rfl, rfl, rfl, rfl, rfl, rfl, rfl, (congrArg (fun z => some (Value.int .i64 z)) (rng_next hd2 hi2 hm2)), trivial⟩⟩, Nat.lt_succ_self _⟩
   clear S h; rintro a w7 ⟨x3, x4, v4, h, S⟩; rw [hj2] at h; clear hj2 j2
   refine blk_n (then_n (f_region (lv S (rn_add (S.tm rfl) rfl) rfl ?_))); clear S; intro a S
   refine lv S (rn_move (S.tm rfl)) rfl ?_; clear S; intro a S
   refine l_done (then_n ?_)
   exact ⟨ys1, ⟨i1 + 1, x3, x4, v4, ⟨_, (hd1).trans (List.append_cons _ _ _), by simp [hi1]⟩, h, S.nf [false, true, true] rfl ⟨rfl, rfl, rfl, rfl, rfl, (congrArg (fun z => some (Value.int .i64 z)) (rng_next hd1 hi1 (slc_max (ownV_slcT enc_str hs1)))), trivial⟩⟩, Nat.lt_succ_self _⟩
 clear S h; rintro a w3 ⟨x1, x2, v1, h, S⟩; rw [hj1] at h; clear hj1 j1
 refine then_n (f_seq (f_region (lv S (rn_move (S.tm rfl)) rfl ?_))); clear S; intro a S
 refine lv S (rn_assign (S.tm rfl)) rfl ?_; clear S; intro a S
 refine l_done (then_n (wp_ret ?_))
 obtain rfl := Option.some.inj h
 exact f_ret S Tryz.results5 rfl ⟨(S.holds _ (List.mem_of_getElem? (i := 1) rfl)), (own_retX S (i := 0) rfl (fun c hc hh => not_fps S (i := 1) rfl rfl (j := 0) rfl rfl (by simp at hc; subst hc; exact hh)))⟩
theorem strings_Trim_ok (w : World) (s c : ByteArray) (r : ByteArray) (h : strings_Trim s c = some r) : Calls Tryz.prog 41 [.string s, .string c].toArray w (Ret w [] fun _ v _ => v = .string r) := by
  unfold strings_Trim at h
  obtain ⟨h1, h⟩ := chkE h
  obtain ⟨h2, h⟩ := chkE h
  obtain ⟨h3, h⟩ := chkE h
  obtain rfl := Option.some.inj h
  exact ret_of_below (Any.strings_Trim_laid Tryz.lays160 (by kernel_rfl) s c w (by simpa using h1) (by simpa using h2) (fun j b hb => by simpa using List.all_eq_true.1 h3 b (List.mem_of_getElem? hb)))
theorem words_IsKey_ok (w : World) (p_s : ByteArray) (r : Bool) (h : words_IsKey p_s = some r) :
    Calls Tryz.prog 24 [sV p_s].toArray w (Ret w [] fun _ v _ => v = bV r) := by
 refine f_enter [] [] Tryz.func24 rfl Tryz.ntmps24 rfl (by simp) (by simp [fps]) (by simp [fps]) fun a S => ?_
 unfold words_IsKey at h
 replace S := S.nk [] [(0, sV p_s)] [] rfl ⟨rfl, trivial⟩
 refine f_seq (f_region (lv S (rn_assign rfl) rfl ?_)); clear S; intro a S
 refine l_done (then_n (f_seq (f_region (lv S (rn_move (S.tm rfl)) rfl ?_)))); clear S; intro a S
 refine lv S (rn_len_str Tryz.underlying9 (S.tm rfl)) rfl ?_; clear S; intro a S
 refine lv S (rn_geq (S.tm rfl) rfl) rfl ?_; clear S; intro a S
 refine lv S (rn_move (S.tm rfl)) rfl ?_; clear S; intro a S
 refine f_cutm 4 (fun a w' => Keep [] w w' ∧ Sx w [] nov [] [(0, sV p_s), (10, bV ((decide (1 ≤ (p_s.size : Int))) && (decide ((p_s.size : Int) ≤ 40))))] 26 a w') ?_ ?_
 ·rcases Bool.eq_false_or_eq_true (decide (1 ≤ (p_s.size : Int))) with hb1 | hb1
  ·refine l_want S rfl rfl rfl hb1 (lv S (rn_move (S.tm rfl)) rfl ?_); clear S; intro a S
   refine l_want S rfl rfl rfl hb1 (lv S (rn_len_str Tryz.underlying9 (S.tm rfl)) rfl ?_); clear S; intro a S
   refine l_want S rfl rfl rfl hb1 (lv S (rn_leq (S.tm rfl) rfl) rfl ?_); clear S; intro a S
   refine lv S (rn_and_t hb1 (S.tm rfl) (S.tm rfl)) rfl ?_; clear S; intro a S
   refine l_done (then_n ?_)
   exact ⟨Keep.refl _ _, S.nf [] rfl (subR rfl)⟩
  ·iterate 3 (refine l_skip S rfl rfl rfl (neq_f hb1) rfl ?_ rfl; clear S; intro a S)
   refine lv S (rn_and_f (decide ((p_s.size : Int) ≤ 40)) hb1 (S.tm rfl) rfl) rfl ?_; clear S; intro a S
   refine l_done (then_n ?_)
   exact ⟨Keep.refl _ _, S.nf [] rfl (subR rfl)⟩
 clear S; rintro a w1 ⟨hk1, S⟩
 refine lv S (rn_move (S.tm rfl)) rfl ?_; clear S; intro a S
 obtain ⟨j1, hj1, h⟩ := joinE h
 refine f_cutm 4 (fun a w' => ∃ c1, j1 c1 = some r ∧ Keep [] w1 w' ∧ Sx w [] nov [] [(0, sV p_s), (15, bV c1)] 26 a w') ?_ ?_
 ·rcases Bool.eq_false_or_eq_true ((decide (1 ≤ (p_s.size : Int))) && (decide ((p_s.size : Int) ≤ 40))) with hb2 | hb2
  ·replace h := iteT h hb2
   refine l_want S rfl rfl rfl hb2 (lv S (rn_move (S.tm rfl)) rfl ?_); clear S; intro a S
   refine l_want S rfl rfl rfl hb2 ?_
   obtain ⟨hc1, h⟩ := chkE h
   refine lv S (rn_sindexT Tryz.underlying9 (S.tm rfl) rfl hc1) rfl ?_; clear S; intro a S
   refine l_want S rfl rfl rfl hb2 (lv S (rn_geq (S.tm rfl) rfl) rfl ?_); clear S; intro a S
   refine lv S (rn_and_t hb2 (S.tm rfl) (S.tm rfl)) rfl ?_; clear S; intro a S
   refine l_done (then_n ?_)
   exact ⟨_, h, Keep.refl _ _, S.nf [] rfl (subR rfl)⟩
  ·replace h := iteF h hb2
   iterate 3 (refine l_skip S rfl rfl rfl (neq_f hb2) rfl ?_ rfl; clear S; intro a S)
   refine lv S (rn_and_f true hb2 (S.tm rfl) rfl) rfl ?_; clear S; intro a S
   refine l_done (then_n ?_)
   exact ⟨_, h, Keep.refl _ _, S.nf [] rfl (subR rfl)⟩
 clear S h; rintro a w2 ⟨c1, h, hk2, S⟩; rw [hj1] at h; clear hj1 j1
 refine lv S (rn_move (S.tm rfl)) rfl ?_; clear S; intro a S
 obtain ⟨j2, hj2, h⟩ := joinE h
 refine f_cutm 4 (fun a w' => ∃ c2, j2 c2 = some r ∧ Keep [] w2 w' ∧ Sx w [] nov [] [(0, sV p_s), (20, bV c2)] 26 a w') ?_ ?_
 ·rcases Bool.eq_false_or_eq_true c1 with hb3 | hb3
  ·replace h := iteT h hb3
   refine l_want S rfl rfl rfl hb3 (lv S (rn_move (S.tm rfl)) rfl ?_); clear S; intro a S
   refine l_want S rfl rfl rfl hb3 ?_
   obtain ⟨hc2, h⟩ := chkE h
   refine lv S (rn_sindexT Tryz.underlying9 (S.tm rfl) rfl hc2) rfl ?_; clear S; intro a S
   refine l_want S rfl rfl rfl hb3 (lv S (rn_leq (S.tm rfl) rfl) rfl ?_); clear S; intro a S
   refine lv S (rn_and_t hb3 (S.tm rfl) (S.tm rfl)) rfl ?_; clear S; intro a S
   refine l_done (then_n ?_)
   exact ⟨_, h, Keep.refl _ _, S.nf [] rfl (subR rfl)⟩
  ·replace h := iteF h hb3
   iterate 3 (refine l_skip S rfl rfl rfl (neq_f hb3) rfl ?_ rfl; clear S; intro a S)
   refine lv S (rn_and_f true hb3 (S.tm rfl) rfl) rfl ?_; clear S; intro a S
   refine l_done (then_n ?_)
   exact ⟨_, h, Keep.refl _ _, S.nf [] rfl (subR rfl)⟩
 clear S h; rintro a w3 ⟨c2, h, hk3, S⟩; rw [hj2] at h; clear hj2 j2
 refine lv S (rn_move (S.tm rfl)) rfl ?_; clear S; intro a S
 obtain ⟨j3, hj3, h⟩ := joinE h
 refine f_cutm 4 (fun a w' => ∃ c3, j3 c3 = some r ∧ Keep [] w3 w' ∧ Sx w [] nov [] [(25, bV c3)] 26 a w') ?_ ?_
 ·rcases Bool.eq_false_or_eq_true c2 with hb4 | hb4
  ·replace h := iteT h hb4
   refine l_want S rfl rfl rfl hb4 (lv S (rn_move (S.tm rfl)) rfl ?_); clear S; intro a S
   refine l_want S rfl rfl rfl hb4 ?_
   obtain ⟨r1, hr1, h⟩ := bindE h
   refine l_enter S (fun _ => run_call (vs := [sV p_s, sV k_abcdefghijkl_h0e2e2c]) ⟨(S.tm rfl), rfl, trivial⟩ Tryz.call41) (strings_Trim_ok _ p_s k_abcdefghijkl_h0e2e2c _ hr1) rfl ?_; clear S; intro v1 a w5 hv1 hk4 hn1 S
   subst hv1
   refine l_want S rfl rfl rfl hb4 (lv S (rn_seql (S.tm rfl) rfl) rfl ?_); clear S; intro a S
   refine lv S (rn_and_t hb4 (S.tm rfl) (S.tm rfl)) rfl ?_; clear S; intro a S
   refine l_done (then_n ?_)
   exact ⟨_, h, hk4, S.nf [] rfl ⟨rfl, trivial⟩⟩
  ·replace h := iteF h hb4
   iterate 3 (refine l_skip S rfl rfl rfl (neq_f hb4) rfl ?_ rfl; clear S; intro a S)
   refine lv S (rn_and_f true hb4 (S.tm rfl) rfl) rfl ?_; clear S; intro a S
   refine l_done (then_n ?_)
   exact ⟨_, h, Keep.refl _ _, S.nf [] rfl ⟨rfl, trivial⟩⟩
 clear S h; rintro a w4 ⟨c3, h, hk5, S⟩; rw [hj3] at h; clear hj3 j3
 refine lv S (rn_assign (S.tm rfl)) rfl ?_; clear S; intro a S
 refine l_done (then_n (wp_ret ?_))
 obtain rfl := Option.some.inj h
 exact f_ret S Tryz.results24 rfl rfl
theorem words_Within_ok (w : World) (p_n : Int) (p_low : Int) (p_high : Int) (r : Bool) (h : words_Within p_n p_low p_high = r) :
    Calls Tryz.prog 21 [iV p_n, iV p_low, iV p_high].toArray w (Ret w [] fun _ v _ => v = bV r) := by
 refine f_enter [] [] Tryz.func21 rfl Tryz.ntmps21 rfl (by simp) (by simp [fps]) (by simp [fps]) fun a S => ?_
 unfold words_Within at h
 replace S := S.nk [] [(0, iV p_n), (1, iV p_low), (2, iV p_high)] [] rfl (subR rfl)
 refine f_seq (f_region (lv S (rn_assign rfl) rfl ?_)); clear S; intro a S
 refine l_done (then_n (f_seq (f_region (lv S (rn_move (S.tm rfl)) rfl ?_)))); clear S; intro a S
 refine lv S (rn_move (S.tm rfl)) rfl ?_; clear S; intro a S
 refine lv S (rn_geq (S.tm rfl) (S.tm rfl)) rfl ?_; clear S; intro a S
 refine lv S (rn_move (S.tm rfl)) rfl ?_; clear S; intro a S
 refine f_cutm 4 (fun a w' => Keep [] w w' ∧ Sx w [] nov [] [(14, bV ((decide (p_low ≤ p_n)) && (decide (p_n ≤ p_high))))] 15 a w') ?_ ?_
 ·rcases Bool.eq_false_or_eq_true (decide (p_low ≤ p_n)) with hb1 | hb1
  ·refine l_want S rfl rfl rfl hb1 (lv S (rn_move (S.tm rfl)) rfl ?_); clear S; intro a S
   refine l_want S rfl rfl rfl hb1 (lv S (rn_move (S.tm rfl)) rfl ?_); clear S; intro a S
   refine l_want S rfl rfl rfl hb1 (lv S (rn_leq (S.tm rfl) (S.tm rfl)) rfl ?_); clear S; intro a S
   refine lv S (rn_and_t hb1 (S.tm rfl) (S.tm rfl)) rfl ?_; clear S; intro a S
   refine l_done (then_n ?_)
   exact ⟨Keep.refl _ _, S.nf [] rfl ⟨rfl, trivial⟩⟩
  ·iterate 3 (refine l_skip S rfl rfl rfl (neq_f hb1) rfl ?_ rfl; clear S; intro a S)
   refine lv S (rn_and_f (decide (p_n ≤ p_high)) hb1 (S.tm rfl) rfl) rfl ?_; clear S; intro a S
   refine l_done (then_n ?_)
   exact ⟨Keep.refl _ _, S.nf [] rfl ⟨rfl, trivial⟩⟩
 clear S; rintro a w1 ⟨hk1, S⟩
 refine lv S (rn_assign (S.tm rfl)) rfl ?_; clear S; intro a S
 refine l_done (then_n (wp_ret ?_))
 subst h
 exact f_ret S Tryz.results21 rfl rfl
theorem session_CheckItems_ok (w : World) (v_p_l : Value) (p_l : List GItem) (hs_p_l : Slc (view w []) 5 v_p_l (p_l.map GItem.enc)) (r : Int) (h : session_CheckItems p_l = some r) :
    Calls Tryz.prog 34 [v_p_l].toArray w (Ret w [] fun _ v _ => v = iV r) := by
 refine f_enter [] [] Tryz.func34 rfl Tryz.ntmps34 rfl (by simp) (by simp [fps]) (by simp [fps]) fun a S => ?_
 unfold session_CheckItems at h
 replace S := S.nk [] [(0, v_p_l)] [] rfl ⟨rfl, trivial⟩
 refine f_seq (f_region (lv S (rn_assign rfl) rfl ?_)); clear S; intro a S
 refine l_done (then_n (f_seq (f_seq (f_region (lv S (rn_move (S.tm rfl)) rfl ?_))))); clear S; intro a S
 refine lv S (rn_lenT sl_26 (S.tm rfl) (slc_len hs_p_l)) rfl ?_; clear S; intro a S
 refine lv S (rn_gtr (S.tm rfl) rfl) rfl ?_; clear S; intro a S
 refine l_done (then_n (f_cond (S.tm rfl) (fun hb1 => ?_) (fun hb1 => ?_)))
 ·replace h := iteT h hb1
  refine f_seq (f_region (lv S (rn_assign rfl) rfl ?_)); clear S; intro a S
  refine l_done (then_n (wp_ret (then_r ?_)))
  obtain rfl := Option.some.inj h
  exact f_ret S Tryz.results34 rfl rfl
 ·replace h := iteF h hb1
  refine wp_skip (then_n (f_seq (f_region (l_makeMap (κ := ByteArray) (ν := Bool) S rfl Value.string Value.bool ?_)))); clear S; intro a w1 b1 hz1 hk1 S
  refine lv S (rn_assign (S.tm rfl)) rfl ?_; clear S; intro a S
  refine l_done (then_n (f_seq (f_seq (f_region (lv S (rn_move (S.tm rfl)) rfl ?_))))); clear S; intro a S
  refine lv S (rn_lenT sl_26 (S.tm rfl) (slc_len hs_p_l)) rfl ?_; clear S; intro a S
  refine lv S (rn_move rfl) rfl ?_; clear S; intro a S
  refine l_done (then_n ?_)
  replace S := S.nk [.map b1 (ments Value.string Value.bool ([] : List (ByteArray × Bool))) ([] : List (ByteArray × Bool)).length] [(3, .map (some b1)), (10, v_p_l), (11, iV (p_l.length : Int)), (12, iV 0)] [true] rfl (subR rfl)
  obtain ⟨j1, hj1, h⟩ := joinE h
  refine f_join (fun a w' => ∃ x1 : List (ByteArray × Bool), j1 x1 = some r ∧ Sx w [] nov [.map b1 (ments Value.string Value.bool x1) x1.length] [] 53 a w') ?_ ?_
  ·refine wp_block (f_loop (fun (ys1 : List GItem) a w' => ∃ i1 : Nat, ∃ x1 : List (ByteArray × Bool), (∃ dn, p_l = dn ++ ys1 ∧ dn.length = i1) ∧ session_CheckItems_l1 j1 ys1 i1 x1 = some r ∧ Sx w [] nov [.map b1 (ments Value.string Value.bool x1) x1.length] [(3, .map (some b1)), (10, v_p_l), (11, iV (p_l.length : Int)), (12, iV (i1 : Int))] 53 a w') List.length p_l ⟨0, ([] : List (ByteArray × Bool)), ⟨[], rfl, rfl⟩, h, S.nf [true] rfl (subR rfl)⟩ ?_)
   clear S h; rintro ys1 a w2 ⟨i1, x1, ⟨dn, hd1, hi1⟩, h, S⟩
   cases ys1 with
   | nil =>
    rw [session_CheckItems_l1.eq_1] at h
    refine f_seq (f_region (lv S (rn_lss (S.tm rfl) (S.tm rfl)) rfl ?_)); clear S; intro a S
    refine l_done ?_
    replace S := S.nk [.map b1 (ments Value.string Value.bool x1) x1.length] [(3, .map (some b1)), (10, v_p_l), (11, iV (p_l.length : Int)), (12, iV (i1 : Int)), (13, bV (decide ((i1 : Int) < (p_l.length : Int))))] [true] rfl (subR rfl)
    refine then_n (f_seq (wp_cond_false ((S.tm rfl).trans (congrArg Value.bool (rng_nil hd1 hi1))) (wp_exit (then_x (then_x (x_same ?_))))))
    refine then_n ?_
    exact ⟨x1, h, S.nf [true] rfl trivial⟩
   | cons y1 ys1 =>
    rw [session_CheckItems_l1.eq_2] at h
    refine f_seq (f_region (lv S (rn_lss (S.tm rfl) (S.tm rfl)) rfl ?_)); clear S; intro a S
    refine l_done ?_
    replace S := S.nk [.map b1 (ments Value.string Value.bool x1) x1.length] [(3, .map (some b1)), (10, v_p_l), (11, iV (p_l.length : Int)), (12, iV (i1 : Int)), (13, bV (decide ((i1 : Int) < (p_l.length : Int))))] [true] rfl (subR rfl)
    refine then_n (f_seq (wp_cond_true ((S.tm rfl).trans (congrArg Value.bool (rng_cons hd1 hi1))) (wp_skip (then_n (f_seq (wp_block ?_))))))
    refine f_seq (f_region ?_)
    obtain ⟨b2, o1, hm1, hr1⟩ := rn_indexT (a := a) (x := .tmp 10) (y := .tmp 12) (ty := 0) sl_26 hs_p_l (get_mid hd1 hi1) rfl (S.tm rfl) (S.tm rfl)
    refine lv S (hr1 _) rfl ?_; clear S; intro a S
    clear hr1
    refine lv S (rn_ldA Tryz.isAgg52 Tryz.sizeOf52 (off := o1) (o := 0) (part := (GItem.enc y1)) rfl rfl (S.tm rfl) (hm1.at S.emb0)) rfl ?_; clear S; intro a S
    refine l_alloc S Tryz.zeroValue52 (cs := [sV k_empty, iV 0, iV 0, iV 0, iV 0]) rfl rfl ?_; clear S; intro a w4 b3 hz2 hk2 S
    refine l_store S (S.tm rfl) (S.tm rfl) (i := 0) (off := 0) rfl Tryz.sizeOf52 (vs := (GItem.enc y1)) rfl rfl rfl rfl ?_; clear S; intro w5 hk3 S
    refine l_done (then_n (f_seq (wp_block (f_seq (f_region (lv S (rn_fld fa_52_0 (S.tm rfl)) rfl ?_)))))); clear S; intro a S
    refine lv S (rn_load Tryz.isAgg9 (S.tm rfl) (S.cell (i := 0) rfl rfl)) rfl ?_; clear S; intro a S
    obtain ⟨r1, hr2, h⟩ := bindE h
    refine l_enter S (fun _ => run_call (vs := [sV y1.Key]) ⟨(S.tm rfl), trivial⟩ Tryz.call24) (words_IsKey_ok _ y1.Key _ hr2) rfl ?_; clear S; intro v1 a w6 hv1 hk4 hn1 S
    subst hv1
    refine lv S (rn_not (S.tm rfl)) rfl ?_; clear S; intro a S
    refine lv S (rn_assign (S.tm rfl)) rfl ?_; clear S; intro a S
    refine l_done (then_n (f_cond (S.tm rfl) (fun hb2 => ?_) (fun hb2 => ?_)))
    ·replace h := iteT h hb2
     refine f_seq (f_region (lv S (rn_assign rfl) rfl ?_)); clear S; intro a S
     refine l_done (then_n (wp_ret (blk_r (then_r (blk_r (then_r ?_))))))
     refine then_r (blk_r (then_r (then_r ?_)))
     obtain rfl := Option.some.inj h
     exact f_ret S Tryz.results34 rfl rfl
    ·replace h := iteF h hb2
     refine f_seq (f_region (lv S (rn_move (S.tm rfl)) rfl ?_)); clear S; intro a S
     refine lv S (rn_fld fa_52_0 (S.tm rfl)) rfl ?_; clear S; intro a S
     refine lv S (rn_load Tryz.isAgg9 (S.tm rfl) (S.cell (i := 0) rfl rfl)) rfl ?_; clear S; intro a S
     refine lv S (rn_lookup (kv := Value.string) (vv := Value.bool) (m := x1) (key := y1.Key) (z := false) (S.map_at (i := 1) rfl) Tryz.underlying117 (keyT_str Tryz.underlying9) Tryz.zeroValue4 (S.tm rfl) (S.tm rfl)) rfl ?_; clear S; intro a S
     refine lv S (rn_assign (S.tm rfl)) rfl ?_; clear S; intro a S
     refine l_done ?_
     replace S := S.nk [.blk b3 (GItem.enc y1) 52, .map b1 (ments Value.string Value.bool x1) x1.length] [(3, .map (some b1)), (5, .pointer (some ⟨b3, 0, none⟩)), (10, v_p_l), (11, iV (p_l.length : Int)), (12, iV (i1 : Int)), (21, bV (mgetD x1 y1.Key false))] [true, true] rfl (subR rfl)
     refine then_n (f_cond (S.tm rfl) (fun hb3 => ?_) (fun hb3 => ?_))
     ·replace h := iteT h hb3
      refine f_seq (f_region (lv S (rn_assign rfl) rfl ?_)); clear S; intro a S
      refine l_done (then_n (wp_ret (blk_r (then_r (blk_r (then_r ?_))))))
      refine then_r (blk_r (then_r (then_r ?_)))
      obtain rfl := Option.some.inj h
      exact f_ret S Tryz.results34 rfl rfl
     ·replace h := iteF h hb3
      refine f_seq (f_region (lv S (rn_fld fa_52_1 (S.tm rfl)) rfl ?_)); clear S; intro a S
      refine lv S (rn_load Tryz.isAgg3 (S.tm rfl) (S.cell (i := 0) rfl rfl)) rfl ?_; clear S; intro a S
      refine l_enter S (fun _ => run_call (vs := [iV y1.Heats, iV 1, iV 60]) ⟨(S.tm rfl), rfl, rfl, trivial⟩ Tryz.call21) (words_Within_ok _ y1.Heats 1 60 _ rfl) rfl ?_; clear S; intro v2 a w7 hv2 hk5 hn2 S
      subst hv2
      refine lv S (rn_not (S.tm rfl)) rfl ?_; clear S; intro a S
      refine lv S (rn_move (S.tm rfl)) rfl ?_; clear S; intro a S
      refine f_cutm 5 (fun a w' => Keep [] w7 w' ∧ Sx w [] nov [.blk b3 (GItem.enc y1) 52, .map b1 (ments Value.string Value.bool x1) x1.length] [(3, .map (some b1)), (5, .pointer (some ⟨b3, 0, none⟩)), (10, v_p_l), (11, iV (p_l.length : Int)), (12, iV (i1 : Int)), (36, bV ((!(words_Within y1.Heats 1 60)) || (!(words_Within y1.Long 1 3600000))))] 53 a w') ?_ ?_
      ·rcases Bool.eq_false_or_eq_true (!(words_Within y1.Heats 1 60)) with hb4 | hb4
       ·iterate 4 (refine l_skip S rfl rfl rfl (neq_t hb4) rfl ?_ rfl; clear S; intro a S)
        refine lv S (rn_or_t (!(words_Within y1.Long 1 3600000)) hb4 (S.tm rfl) rfl) rfl ?_; clear S; intro a S
        refine l_done (then_n ?_)
        exact ⟨Keep.refl _ _, S.nf [true, true] rfl (subR rfl)⟩
       ·refine l_want S rfl rfl rfl hb4 (lv S (rn_fld fa_52_2 (S.tm rfl)) rfl ?_); clear S; intro a S
        refine l_want S rfl rfl rfl hb4 (lv S (rn_load Tryz.isAgg3 (S.tm rfl) (S.cell (i := 0) rfl rfl)) rfl ?_); clear S; intro a S
        refine l_want S rfl rfl rfl hb4 (l_enter S (fun _ => run_call (vs := [iV y1.Long, iV 1, iV 3600000]) ⟨(S.tm rfl), rfl, rfl, trivial⟩ Tryz.call21) (words_Within_ok _ y1.Long 1 3600000 _ rfl) rfl ?_); clear S; intro v3 a w9 hv3 hk6 hn3 S
        subst hv3
        refine l_want S rfl rfl rfl hb4 (lv S (rn_not (S.tm rfl)) rfl ?_); clear S; intro a S
        refine lv S (rn_or_f hb4 (S.tm rfl) (S.tm rfl)) rfl ?_; clear S; intro a S
        refine l_done (then_n ?_)
        exact ⟨hk6, S.nf [true, true] rfl (subR rfl)⟩
      clear S; rintro a w8 ⟨hk7, S⟩
      refine lv S (rn_move (S.tm rfl)) rfl ?_; clear S; intro a S
      refine f_cutm 5 (fun a w' => Keep [] w8 w' ∧ Sx w [] nov [.blk b3 (GItem.enc y1) 52, .map b1 (ments Value.string Value.bool x1) x1.length] [(3, .map (some b1)), (5, .pointer (some ⟨b3, 0, none⟩)), (10, v_p_l), (11, iV (p_l.length : Int)), (12, iV (i1 : Int)), (42, bV (((!(words_Within y1.Heats 1 60)) || (!(words_Within y1.Long 1 3600000))) || (!(words_Within y1.Gap 0 3600000))))] 53 a w') ?_ ?_
      ·rcases Bool.eq_false_or_eq_true ((!(words_Within y1.Heats 1 60)) || (!(words_Within y1.Long 1 3600000))) with hb5 | hb5
       ·iterate 4 (refine l_skip S rfl rfl rfl (neq_t hb5) rfl ?_ rfl; clear S; intro a S)
        refine lv S (rn_or_t (!(words_Within y1.Gap 0 3600000)) hb5 (S.tm rfl) rfl) rfl ?_; clear S; intro a S
        refine l_done (then_n ?_)
        exact ⟨Keep.refl _ _, S.nf [true, true] rfl (subR rfl)⟩
       ·refine l_want S rfl rfl rfl hb5 (lv S (rn_fld fa_52_3 (S.tm rfl)) rfl ?_); clear S; intro a S
        refine l_want S rfl rfl rfl hb5 (lv S (rn_load Tryz.isAgg3 (S.tm rfl) (S.cell (i := 0) rfl rfl)) rfl ?_); clear S; intro a S
        refine l_want S rfl rfl rfl hb5 (l_enter S (fun _ => run_call (vs := [iV y1.Gap, iV 0, iV 3600000]) ⟨(S.tm rfl), rfl, rfl, trivial⟩ Tryz.call21) (words_Within_ok _ y1.Gap 0 3600000 _ rfl) rfl ?_); clear S; intro v4 a w11 hv4 hk8 hn4 S
        subst hv4
        refine l_want S rfl rfl rfl hb5 (lv S (rn_not (S.tm rfl)) rfl ?_); clear S; intro a S
        refine lv S (rn_or_f hb5 (S.tm rfl) (S.tm rfl)) rfl ?_; clear S; intro a S
        refine l_done (then_n ?_)
        exact ⟨hk8, S.nf [true, true] rfl (subR rfl)⟩
      clear S; rintro a w10 ⟨hk9, S⟩
      refine lv S (rn_move (S.tm rfl)) rfl ?_; clear S; intro a S
      refine f_cutm 5 (fun a w' => Keep [] w10 w' ∧ Sx w [] nov [.blk b3 (GItem.enc y1) 52, .map b1 (ments Value.string Value.bool x1) x1.length] [(3, .map (some b1)), (5, .pointer (some ⟨b3, 0, none⟩)), (10, v_p_l), (11, iV (p_l.length : Int)), (12, iV (i1 : Int)), (48, bV ((((!(words_Within y1.Heats 1 60)) || (!(words_Within y1.Long 1 3600000))) || (!(words_Within y1.Gap 0 3600000))) || (!(words_Within y1.Break 0 3600000))))] 53 a w') ?_ ?_
      ·rcases Bool.eq_false_or_eq_true (((!(words_Within y1.Heats 1 60)) || (!(words_Within y1.Long 1 3600000))) || (!(words_Within y1.Gap 0 3600000))) with hb6 | hb6
       ·iterate 4 (refine l_skip S rfl rfl rfl (neq_t hb6) rfl ?_ rfl; clear S; intro a S)
        refine lv S (rn_or_t (!(words_Within y1.Break 0 3600000)) hb6 (S.tm rfl) rfl) rfl ?_; clear S; intro a S
        refine l_done (then_n ?_)
        exact ⟨Keep.refl _ _, S.nf [true, true] rfl (subR rfl)⟩
       ·refine l_want S rfl rfl rfl hb6 (lv S (rn_fld fa_52_4 (S.tm rfl)) rfl ?_); clear S; intro a S
        refine l_want S rfl rfl rfl hb6 (lv S (rn_load Tryz.isAgg3 (S.tm rfl) (S.cell (i := 0) rfl rfl)) rfl ?_); clear S; intro a S
        refine l_want S rfl rfl rfl hb6 (l_enter S (fun _ => run_call (vs := [iV y1.Break, iV 0, iV 3600000]) ⟨(S.tm rfl), rfl, rfl, trivial⟩ Tryz.call21) (words_Within_ok _ y1.Break 0 3600000 _ rfl) rfl ?_); clear S; intro v5 a w13 hv5 hk10 hn5 S
        subst hv5
        refine l_want S rfl rfl rfl hb6 (lv S (rn_not (S.tm rfl)) rfl ?_); clear S; intro a S
        refine lv S (rn_or_f hb6 (S.tm rfl) (S.tm rfl)) rfl ?_; clear S; intro a S
        refine l_done (then_n ?_)
        exact ⟨hk10, S.nf [true, true] rfl (subR rfl)⟩
      clear S; rintro a w12 ⟨hk11, S⟩
      refine lv S (rn_assign (S.tm rfl)) rfl ?_; clear S; intro a S
      refine l_done (then_n (f_cond (S.tm rfl) (fun hb7 => ?_) (fun hb7 => ?_)))
      ·replace h := iteT h hb7
       refine f_seq (f_region (lv S (rn_assign rfl) rfl ?_)); clear S; intro a S
       refine l_done (then_n (wp_ret (blk_r (then_r (blk_r (then_r ?_))))))
       refine then_r (blk_r (then_r (then_r ?_)))
       obtain rfl := Option.some.inj h
       exact f_ret S Tryz.results34 rfl rfl
      ·replace h := iteF h hb7
       refine wp_skip (blk_n (then_n (f_region (lv S (rn_move (S.tm rfl)) rfl ?_)))); clear S; intro a S
       refine lv S (rn_fld fa_52_0 (S.tm rfl)) rfl ?_; clear S; intro a S
       refine lv S (rn_load Tryz.isAgg9 (S.tm rfl) (S.cell (i := 0) rfl rfl)) rfl ?_; clear S; intro a S
       refine l_mapUpdate (kv := Value.string) (vv := Value.bool) (m := x1) (key := y1.Key) (val := true) S (i := 1) rfl Tryz.underlying117 (keyT_str Tryz.underlying9) (S.tm rfl) (S.tm rfl) rfl ?_; clear S; intro w14 hk12 S
       refine l_done (blk_n (then_n (f_region (lv S (rn_add (S.tm rfl) rfl) rfl ?_)))); clear S; intro a S
       refine lv S (rn_move (S.tm rfl)) rfl ?_; clear S; intro a S
       refine l_done (then_n ?_)
       exact ⟨ys1, ⟨i1 + 1, (mput x1 y1.Key true), ⟨_, (hd1).trans (List.append_cons _ _ _), by simp [hi1]⟩, h, S.nf [false, true] rfl ⟨rfl, rfl, rfl, (congrArg (fun z => some (Value.int .i64 z)) (rng_next hd1 hi1 (slc_max hs_p_l))), trivial⟩⟩, Nat.lt_succ_self _⟩
  clear S h; rintro a w3 ⟨x1, h, S⟩; rw [hj1] at h; clear hj1 j1
  refine then_n (f_seq (f_region (lv S (rn_assign rfl) rfl ?_))); clear S; intro a S
  refine l_done (then_n (wp_ret ?_))
  obtain rfl := Option.some.inj h
  exact f_ret S Tryz.results34 rfl rfl
theorem session_itemAt_c1_ok (w : World) (p_x : GItem) (b_p_a1 : Nat) (p_a1 : ByteArray) (hb_b_p_a1 : (view w []) b_p_a1 = some (.cells [sV p_a1].toArray 9 (0, 0))) (r : Bool) (h : session_itemAt_c1 p_x p_a1 = r) :
    Calls Tryz.prog 67 [.agg (GItem.enc p_x).toArray, .pointer (some ⟨b_p_a1, 0, none⟩)].toArray w (Ret w [] fun _ v _ => v = bV r) := by
 refine f_enter [] [] Tryz.func67 rfl Tryz.ntmps67 rfl (by simp) (by simp [fps]) (by simp [fps]) fun a S => ?_
 unfold session_itemAt_c1 at h
 replace S := S.nk [] [(0, .agg (GItem.enc p_x).toArray), (1, .pointer (some ⟨b_p_a1, 0, none⟩))] [] rfl (subR rfl)
 refine f_seq (f_region (l_box S (S.tm rfl) (cs := (GItem.enc p_x)) rfl rfl ?_)); clear S; intro a w1 b1 hz1 hk1 S
 refine lv S (rn_assign rfl) rfl ?_; clear S; intro a S
 refine l_done (then_n (f_seq (f_region (lv S (rn_fld fa_52_0 (S.tm rfl)) rfl ?_)))); clear S; intro a S
 refine lv S (rn_load Tryz.isAgg9 (S.tm rfl) (S.cell (i := 0) rfl rfl)) rfl ?_; clear S; intro a S
 refine lv S (rn_ld Tryz.isAgg9 (off := 0) (o := 0) (S.tm rfl) ((mem_blk hb_b_p_a1).at S.emb0) rfl) rfl ?_; clear S; intro a S
 refine lv S (rn_seql (S.tm rfl) (S.tm rfl)) rfl ?_; clear S; intro a S
 refine lv S (rn_assign (S.tm rfl)) rfl ?_; clear S; intro a S
 refine l_done (then_n (wp_ret ?_))
 subst h
 exact f_ret S Tryz.results67 rfl rfl
theorem slices_IndexFunc_Item_session_itemAt_c1_ok (w : World) (v_p_s : Value) (p_s : List GItem) (hs_p_s : Slc (view w []) 5 v_p_s (p_s.map GItem.enc)) (b_p_f_0 : Nat) (p_f_0 : ByteArray) (hb_b_p_f_0 : (view w []) b_p_f_0 = some (.cells [sV p_f_0].toArray 9 (0, 0))) (r : Int) (h : slices_IndexFunc_Item_session_itemAt_c1 p_s p_f_0 = r) :
    Calls Tryz.prog 66 [v_p_s, .func (.func 67) #[] #[.pointer (some ⟨b_p_f_0, 0, none⟩)]].toArray w (Ret w [] fun _ v _ => v = iV r) := by
 refine f_enter [] [] Tryz.func66 rfl Tryz.ntmps66 rfl (by simp) (by simp [fps]) (by simp [fps]) fun a S => ?_
 unfold slices_IndexFunc_Item_session_itemAt_c1 at h
 replace S := S.nk [] [(0, v_p_s), (1, .func (.func 67) #[] #[.pointer (some ⟨b_p_f_0, 0, none⟩)])] [] rfl (subR rfl)
 refine f_seq (f_region (lv S (rn_assign rfl) rfl ?_)); clear S; intro a S
 refine l_done (then_n (f_seq (f_seq (f_region (lv S (rn_move (S.tm rfl)) rfl ?_))))); clear S; intro a S
 refine lv S (rn_lenT sl_26 (S.tm rfl) (slc_len hs_p_s)) rfl ?_; clear S; intro a S
 refine lv S (rn_move rfl) rfl ?_; clear S; intro a S
 refine l_done (then_n ?_)
 replace S := S.nk [] [(0, v_p_s), (1, .func (.func 67) #[] #[.pointer (some ⟨b_p_f_0, 0, none⟩)]), (7, iV (p_s.length : Int)), (8, iV 0)] [] rfl (subR rfl)
 obtain ⟨j1, hj1, h⟩ := joinE h
 refine f_join (fun a w' => j1 = r ∧ Sx w [] nov [] [] 19 a w') ?_ ?_
 ·refine wp_block (f_loop (fun (ys1 : List GItem) a w' => ∃ i1 : Nat, (∃ dn, p_s = dn ++ ys1 ∧ dn.length = i1) ∧ slices_IndexFunc_Item_session_itemAt_c1_l1 p_f_0 j1 ys1 i1 = r ∧ Sx w [] nov [] [(0, v_p_s), (1, .func (.func 67) #[] #[.pointer (some ⟨b_p_f_0, 0, none⟩)]), (7, iV (p_s.length : Int)), (8, iV (i1 : Int))] 19 a w') List.length p_s ⟨0, ⟨[], rfl, rfl⟩, h, S.nf [] rfl (subR rfl)⟩ ?_)
  clear S h; rintro ys1 a w1 ⟨i1, ⟨dn, hd1, hi1⟩, h, S⟩
  cases ys1 with
  | nil =>
   rw [slices_IndexFunc_Item_session_itemAt_c1_l1.eq_1] at h
   refine f_seq (f_region (lv S (rn_lss (S.tm rfl) (S.tm rfl)) rfl ?_)); clear S; intro a S
   refine l_done ?_
   replace S := S.nk [] [(0, v_p_s), (1, .func (.func 67) #[] #[.pointer (some ⟨b_p_f_0, 0, none⟩)]), (7, iV (p_s.length : Int)), (8, iV (i1 : Int)), (9, bV (decide ((i1 : Int) < (p_s.length : Int))))] [] rfl (subR rfl)
   refine then_n (f_seq (wp_cond_false ((S.tm rfl).trans (congrArg Value.bool (rng_nil hd1 hi1))) (wp_exit (then_x (then_x (x_same ?_))))))
   refine then_n ?_
   exact ⟨h, S.nf [] rfl trivial⟩
  | cons y1 ys1 =>
   rw [slices_IndexFunc_Item_session_itemAt_c1_l1.eq_2] at h
   refine f_seq (f_region (lv S (rn_lss (S.tm rfl) (S.tm rfl)) rfl ?_)); clear S; intro a S
   refine l_done ?_
   replace S := S.nk [] [(0, v_p_s), (1, .func (.func 67) #[] #[.pointer (some ⟨b_p_f_0, 0, none⟩)]), (7, iV (p_s.length : Int)), (8, iV (i1 : Int)), (9, bV (decide ((i1 : Int) < (p_s.length : Int))))] [] rfl (subR rfl)
   refine then_n (f_seq (wp_cond_true ((S.tm rfl).trans (congrArg Value.bool (rng_cons hd1 hi1))) (wp_skip (then_n (f_seq (wp_block ?_))))))
   refine f_seq (f_region (lv S (rn_move (S.tm rfl)) rfl ?_)); clear S; intro a S
   refine lv S (rn_assign (S.tm rfl)) rfl ?_; clear S; intro a S
   refine l_done (then_n (f_seq (f_region (lv S (rn_move (S.tm rfl)) rfl ?_)))); clear S; intro a S
   refine lv S (rn_move (S.tm rfl)) rfl ?_; clear S; intro a S
   refine lv S (rn_move (S.tm rfl)) rfl ?_; clear S; intro a S
   obtain ⟨b1, o1, hm1, hr1⟩ := rn_indexT (a := a) (x := .tmp 12) (y := .tmp 13) (ty := 0) sl_26 hs_p_s (get_mid hd1 hi1) rfl (S.tm rfl) (S.tm rfl)
   refine lv S (hr1 _) rfl ?_; clear S; intro a S
   clear hr1
   refine lv S (rn_ldA Tryz.isAgg52 Tryz.sizeOf52 (off := o1) (o := 0) (part := (GItem.enc y1)) rfl rfl (S.tm rfl) (hm1.at S.emb0)) rfl ?_; clear S; intro a S
   refine l_enter S (fun _ => run_callV (cap := [.pointer (some ⟨b_p_f_0, 0, none⟩)]) (S.tm rfl) (vs := [.agg (GItem.enc y1).toArray]) ⟨(S.tm rfl), trivial⟩ Tryz.call67) (session_itemAt_c1_ok _ y1 b_p_f_0 p_f_0 ((S.le_arg nil_sub) _ _ hb_b_p_f_0) _ rfl) rfl ?_; clear S; intro v1 a w3 hv1 hk1 hn1 S
   subst hv1
   refine l_done (then_n (f_cond (S.tm rfl) (fun hb1 => ?_) (fun hb1 => ?_)))
   ·replace h := iteT h hb1
    refine f_seq (f_region (lv S (rn_move (S.tm rfl)) rfl ?_)); clear S; intro a S
    refine lv S (rn_assign (S.tm rfl)) rfl ?_; clear S; intro a S
    refine l_done ?_
    replace S := S.nk [] [(4, iV (i1 : Int))] [] rfl ⟨rfl, trivial⟩
    refine then_n (wp_ret (blk_r (then_r (then_r (blk_r (then_r ?_))))))
    refine then_r ?_
    subst h
    exact f_ret S Tryz.results66 rfl rfl
   ·replace h := iteF h hb1
    refine wp_skip (blk_n (then_n (f_region (lv S (rn_add (S.tm rfl) rfl) rfl ?_)))); clear S; intro a S
    refine lv S (rn_move (S.tm rfl)) rfl ?_; clear S; intro a S
    refine l_done (then_n ?_)
    exact ⟨ys1, ⟨i1 + 1, ⟨_, (hd1).trans (List.append_cons _ _ _), by simp [hi1]⟩, h, S.nf [] rfl ⟨rfl, rfl, rfl, (congrArg (fun z => some (Value.int .i64 z)) (rng_next hd1 hi1 (slc_max hs_p_s))), trivial⟩⟩, Nat.lt_succ_self _⟩
 clear S h; rintro a w2 ⟨h, S⟩; rw [hj1] at h; clear hj1 j1
 refine then_n (f_seq (f_region (lv S (rn_assign rfl) rfl ?_))); clear S; intro a S
 refine l_done (then_n (wp_ret ?_))
 subst h
 exact f_ret S Tryz.results66 rfl rfl
theorem session_itemAt_ok (w : World) (v_p_l : Value) (p_l : List GItem) (hs_p_l : Slc (view w []) 5 v_p_l (p_l.map GItem.enc)) (p_key : ByteArray) (r : Int) (h : session_itemAt p_l p_key = r) :
    Calls Tryz.prog 35 [v_p_l, sV p_key].toArray w (Ret w [] fun _ v _ => v = iV r) := by
 refine f_enter [] [] Tryz.func35 rfl Tryz.ntmps35 rfl (by simp) (by simp [fps]) (by simp [fps]) fun a S => ?_
 unfold session_itemAt at h
 replace S := S.nk [] [(0, v_p_l), (1, sV p_key)] [] rfl (subR rfl)
 refine f_seq (f_region (l_box S (S.tm rfl) (cs := [sV p_key]) rfl rfl ?_)); clear S; intro a w1 b1 hz1 hk1 S
 refine lv S (rn_assign rfl) rfl ?_; clear S; intro a S
 refine l_done (then_n (f_seq (f_region (lv S (rn_move (S.tm rfl)) rfl ?_)))); clear S; intro a S
 refine lv S (rn_makeFunc (us := #[]) (xs := [].toArray) (ys := [.tmp 3].toArray) (by simp) (evA ⟨(S.tm rfl), trivial⟩ (vs := [.pointer (some ⟨b1, 0, none⟩)]))) rfl ?_; clear S; intro a S
 refine l_enter S (fun _ => run_call (vs := [v_p_l, .func (.func 67) #[] #[.pointer (some ⟨b1, 0, none⟩)]]) ⟨(S.tm rfl), (S.tm rfl), trivial⟩ Tryz.call66) (slices_IndexFunc_Item_session_itemAt_c1_ok _ v_p_l p_l (hs_p_l.mono (S.le_arg nil_sub)) b1 p_key (S.blk_view (i := 0) rfl ((ne_nil (e' := .blk b1 [sV p_key] 9)) _ rfl)) _ rfl) rfl ?_; clear S; intro v1 a w2 hv1 hk2 hn1 S
 subst hv1
 refine lv S (rn_assign (S.tm rfl)) rfl ?_; clear S; intro a S
 refine l_done (then_n (wp_ret ?_))
 subst h
 exact f_ret S Tryz.results35 rfl rfl
theorem strings_Compare_ok (w : World) (s t : ByteArray) (r : Int) (h : strings_Compare s t = r) : Calls Tryz.prog 69 [.string s, .string t].toArray w (Ret w [] fun _ v _ => v = .int .i64 r) := by
  subst h
  exact ret_of_same (Any.strings_Compare Tryz.lays106 s t w)
theorem cmp_isNaN_int_ok (w : World) (p_x : Int) (r : Bool) (h : cmp_isNaN_int p_x = r) :
    Calls Tryz.prog 78 [iV p_x].toArray w (Ret w [] fun _ v _ => v = bV r) := by
 refine f_enter [] [] Tryz.func78 rfl Tryz.ntmps78 rfl (by simp) (by simp [fps]) (by simp [fps]) fun a S => ?_
 unfold cmp_isNaN_int at h
 replace S := S.nk [] [(0, iV p_x)] [] rfl ⟨rfl, trivial⟩
 refine f_seq (f_region (lv S (rn_assign rfl) rfl ?_)); clear S; intro a S
 refine l_done (then_n (f_seq (f_region (lv S (rn_move (S.tm rfl)) rfl ?_)))); clear S; intro a S
 refine lv S (rn_move (S.tm rfl)) rfl ?_; clear S; intro a S
 refine lv S (rn_neq (S.tm rfl) (S.tm rfl)) rfl ?_; clear S; intro a S
 refine lv S (rn_assign (S.tm rfl)) rfl ?_; clear S; intro a S
 refine l_done (then_n (wp_ret ?_))
 subst h
 exact f_ret S Tryz.results78 rfl rfl
theorem cmp_Compare_int_ok (w : World) (p_x : Int) (p_y : Int) (r : Int) (h : cmp_Compare_int p_x p_y = r) :
    Calls Tryz.prog 44 [iV p_x, iV p_y].toArray w (Ret w [] fun _ v _ => v = iV r) := by
 refine f_enter [] [] Tryz.func44 rfl Tryz.ntmps44 rfl (by simp) (by simp [fps]) (by simp [fps]) fun a S => ?_
 unfold cmp_Compare_int at h
 replace S := S.nk [] [(0, iV p_x), (1, iV p_y)] [] rfl (subR rfl)
 refine f_seq (f_region (lv S (rn_assign rfl) rfl ?_)); clear S; intro a S
 refine l_done (then_n (f_seq (f_region (lv S (rn_move (S.tm rfl)) rfl ?_)))); clear S; intro a S
 refine l_enter S (fun _ => run_call (vs := [iV p_x]) ⟨(S.tm rfl), trivial⟩ Tryz.call78) (cmp_isNaN_int_ok _ p_x _ rfl) rfl ?_; clear S; intro v1 a w1 hv1 hk1 hn1 S
 subst hv1
 refine lv S (rn_assign (S.tm rfl)) rfl ?_; clear S; intro a S
 refine l_done (then_n (f_seq (f_region (lv S (rn_move (S.tm rfl)) rfl ?_)))); clear S; intro a S
 refine l_enter S (fun _ => run_call (vs := [iV p_y]) ⟨(S.tm rfl), trivial⟩ Tryz.call78) (cmp_isNaN_int_ok _ p_y _ rfl) rfl ?_; clear S; intro v2 a w2 hv2 hk2 hn2 S
 subst hv2
 refine lv S (rn_assign (S.tm rfl)) rfl ?_; clear S; intro a S
 refine l_done (then_n (f_seq (f_seq (f_region (lv S (rn_move (S.tm rfl)) rfl ?_))))); clear S; intro a S
 refine l_done (then_n (f_cond (S.tm rfl) (fun hb1 => ?_) (fun hb1 => ?_)))
 ·replace h := iteT h hb1
  refine f_seq (f_seq (f_region (lv S (rn_move (S.tm rfl)) rfl ?_))); clear S; intro a S
  refine l_done (then_n (f_cond (S.tm rfl) (fun hb2 => ?_) (fun hb2 => ?_)))
  ·replace h := iteT h hb2
   refine f_seq (f_region (lv S (rn_assign rfl) rfl ?_)); clear S; intro a S
   refine l_done (then_n (wp_ret (then_r (then_r ?_))))
   subst h
   exact f_ret S Tryz.results44 rfl rfl
  ·replace h := iteF h hb2
   refine wp_skip (then_n (f_seq (f_region (lv S (rn_assign rfl) rfl ?_)))); clear S; intro a S
   refine l_done (then_n (wp_ret (then_r ?_)))
   subst h
   exact f_ret S Tryz.results44 rfl rfl
 ·replace h := iteF h hb1
  refine wp_skip (then_n (f_seq (f_seq (f_region (lv S (rn_move (S.tm rfl)) rfl ?_))))); clear S; intro a S
  refine l_done (then_n (f_cond (S.tm rfl) (fun hb3 => ?_) (fun hb3 => ?_)))
  ·replace h := iteT h hb3
   refine f_seq (f_region (lv S (rn_assign rfl) rfl ?_)); clear S; intro a S
   refine l_done (then_n (wp_ret (then_r ?_)))
   subst h
   exact f_ret S Tryz.results44 rfl rfl
  ·replace h := iteF h hb3
   refine wp_skip (then_n (f_seq (f_seq (f_region (lv S (rn_move (S.tm rfl)) rfl ?_))))); clear S; intro a S
   refine lv S (rn_move (S.tm rfl)) rfl ?_; clear S; intro a S
   refine lv S (rn_lss (S.tm rfl) (S.tm rfl)) rfl ?_; clear S; intro a S
   refine l_done (then_n (f_cond (S.tm rfl) (fun hb4 => ?_) (fun hb4 => ?_)))
   ·replace h := iteT h hb4
    refine f_seq (f_region (lv S (rn_assign rfl) rfl ?_)); clear S; intro a S
    refine l_done (then_n (wp_ret (then_r ?_)))
    subst h
    exact f_ret S Tryz.results44 rfl rfl
   ·replace h := iteF h hb4
    refine wp_skip (then_n (f_seq (f_seq (f_region (lv S (rn_move (S.tm rfl)) rfl ?_))))); clear S; intro a S
    refine lv S (rn_move (S.tm rfl)) rfl ?_; clear S; intro a S
    refine lv S (rn_gtr (S.tm rfl) (S.tm rfl)) rfl ?_; clear S; intro a S
    refine l_done ?_
    replace S := S.nk [] [(19, bV (decide (p_y < p_x)))] [] rfl ⟨rfl, trivial⟩
    refine then_n (f_cond (S.tm rfl) (fun hb5 => ?_) (fun hb5 => ?_))
    ·replace h := iteT h hb5
     refine f_seq (f_region (lv S (rn_assign rfl) rfl ?_)); clear S; intro a S
     refine l_done (then_n (wp_ret (then_r ?_)))
     subst h
     exact f_ret S Tryz.results44 rfl rfl
    ·replace h := iteF h hb5
     refine wp_skip (then_n (f_seq (f_region (lv S (rn_assign rfl) rfl ?_)))); clear S; intro a S
     refine l_done (then_n (wp_ret ?_))
     subst h
     exact f_ret S Tryz.results44 rfl rfl
theorem cmp_Or_int_ok (w : World) (v_p_vals : Value) (p_vals : List Int) (hs_p_vals : Slc (view w []) 1 v_p_vals (p_vals.map eInt)) (r : Int) (h : cmp_Or_int p_vals = r) :
    Calls Tryz.prog 68 [v_p_vals].toArray w (Ret w [] fun _ v _ => v = iV r) := by
 refine f_enter [] [] Tryz.func68 rfl Tryz.ntmps68 rfl (by simp) (by simp [fps]) (by simp [fps]) fun a S => ?_
 unfold cmp_Or_int at h
 replace S := S.nk [] [(0, v_p_vals)] [] rfl ⟨rfl, trivial⟩
 refine f_seq (f_region (lv S (rn_assign rfl) rfl ?_)); clear S; intro a S
 refine l_done (then_n (f_seq (f_region (lv S (rn_assign rfl) rfl ?_)))); clear S; intro a S
 refine l_done (then_n (f_seq (f_seq (f_region (lv S (rn_move (S.tm rfl)) rfl ?_))))); clear S; intro a S
 refine lv S (rn_lenT sl_22 (S.tm rfl) (slc_len hs_p_vals)) rfl ?_; clear S; intro a S
 refine lv S (rn_move rfl) rfl ?_; clear S; intro a S
 refine l_done (then_n ?_)
 replace S := S.nk [] [(3, iV 0), (6, v_p_vals), (7, iV (p_vals.length : Int)), (8, iV 0)] [] rfl (subR rfl)
 obtain ⟨j1, hj1, h⟩ := joinE h
 refine f_join (fun a w' => j1 = r ∧ Sx w [] nov [] [(3, iV 0)] 18 a w') ?_ ?_
 ·refine wp_block (f_loop (fun (ys1 : List Int) a w' => ∃ i1 : Nat, (∃ dn, p_vals = dn ++ ys1 ∧ dn.length = i1) ∧ cmp_Or_int_l1 j1 ys1 i1 = r ∧ Sx w [] nov [] [(3, iV 0), (6, v_p_vals), (7, iV (p_vals.length : Int)), (8, iV (i1 : Int))] 18 a w') List.length p_vals ⟨0, ⟨[], rfl, rfl⟩, h, S.nf [] rfl (subR rfl)⟩ ?_)
  clear S h; rintro ys1 a w1 ⟨i1, ⟨dn, hd1, hi1⟩, h, S⟩
  cases ys1 with
  | nil =>
   rw [cmp_Or_int_l1.eq_1] at h
   refine f_seq (f_region (lv S (rn_lss (S.tm rfl) (S.tm rfl)) rfl ?_)); clear S; intro a S
   refine l_done ?_
   replace S := S.nk [] [(3, iV 0), (6, v_p_vals), (7, iV (p_vals.length : Int)), (8, iV (i1 : Int)), (9, bV (decide ((i1 : Int) < (p_vals.length : Int))))] [] rfl (subR rfl)
   refine then_n (f_seq (wp_cond_false ((S.tm rfl).trans (congrArg Value.bool (rng_nil hd1 hi1))) (wp_exit (then_x (then_x (x_same ?_))))))
   refine then_n ?_
   exact ⟨h, S.nf [] rfl ⟨rfl, trivial⟩⟩
  | cons y1 ys1 =>
   rw [cmp_Or_int_l1.eq_2] at h
   refine f_seq (f_region (lv S (rn_lss (S.tm rfl) (S.tm rfl)) rfl ?_)); clear S; intro a S
   refine l_done ?_
   replace S := S.nk [] [(3, iV 0), (6, v_p_vals), (7, iV (p_vals.length : Int)), (8, iV (i1 : Int)), (9, bV (decide ((i1 : Int) < (p_vals.length : Int))))] [] rfl (subR rfl)
   refine then_n (f_seq (wp_cond_true ((S.tm rfl).trans (congrArg Value.bool (rng_cons hd1 hi1))) (wp_skip (then_n (f_seq (wp_block ?_))))))
   refine f_seq (f_region ?_)
   obtain ⟨b1, o1, hm1, hr1⟩ := rn_indexT (a := a) (x := .tmp 6) (y := .tmp 8) (ty := 0) sl_22 hs_p_vals (get_mid hd1 hi1) rfl (S.tm rfl) (S.tm rfl)
   refine lv S (hr1 _) rfl ?_; clear S; intro a S
   clear hr1
   refine lv S (rn_ld Tryz.isAgg3 (off := o1) (o := 0) (S.tm rfl) (hm1.at S.emb0) rfl) rfl ?_; clear S; intro a S
   refine lv S (rn_assign (S.tm rfl)) rfl ?_; clear S; intro a S
   refine l_done (then_n (f_seq (f_region (lv S (rn_move (S.tm rfl)) rfl ?_)))); clear S; intro a S
   refine lv S (rn_move (S.tm rfl)) rfl ?_; clear S; intro a S
   refine lv S (rn_neq (S.tm rfl) (S.tm rfl)) rfl ?_; clear S; intro a S
   refine l_done (then_n (f_cond (S.tm rfl) (fun hb1 => ?_) (fun hb1 => ?_)))
   ·replace h := iteT h hb1
    refine f_seq (f_region (lv S (rn_move (S.tm rfl)) rfl ?_)); clear S; intro a S
    refine lv S (rn_assign (S.tm rfl)) rfl ?_; clear S; intro a S
    refine l_done (then_n (wp_ret (blk_r (then_r (then_r (blk_r ?_))))))
    refine then_r (then_r ?_)
    subst h
    exact f_ret S Tryz.results68 rfl rfl
   ·replace h := iteF h hb1
    refine wp_skip (blk_n (then_n (f_region (lv S (rn_add (S.tm rfl) rfl) rfl ?_)))); clear S; intro a S
    refine lv S (rn_move (S.tm rfl)) rfl ?_; clear S; intro a S
    refine l_done (then_n ?_)
    exact ⟨ys1, ⟨i1 + 1, ⟨_, (hd1).trans (List.append_cons _ _ _), by simp [hi1]⟩, h, S.nf [] rfl ⟨rfl, rfl, rfl, (congrArg (fun z => some (Value.int .i64 z)) (rng_next hd1 hi1 (slc_max hs_p_vals))), trivial⟩⟩, Nat.lt_succ_self _⟩
 clear S h; rintro a w2 ⟨h, S⟩; rw [hj1] at h; clear hj1 j1
 refine then_n (f_seq (f_region (lv S (rn_move (S.tm rfl)) rfl ?_))); clear S; intro a S
 refine lv S (rn_assign (S.tm rfl)) rfl ?_; clear S; intro a S
 refine l_done (then_n (wp_ret ?_))
 subst h
 exact f_ret S Tryz.results68 rfl rfl
set_option maxRecDepth 20000 in
theorem session_compareCalls_ok (w : World) (p_a : GCall) (p_b : GCall) (r : Int) (h : session_compareCalls p_a p_b = r) :
    Calls Tryz.prog 36 [.agg (GCall.enc p_a).toArray, .agg (GCall.enc p_b).toArray].toArray w (Ret w [] fun _ v _ => v = iV r) := by
 refine f_enter [] [] Tryz.func36 rfl Tryz.ntmps36 rfl (by simp) (by simp [fps]) (by simp [fps]) fun a S => ?_
 unfold session_compareCalls at h
 replace S := S.nk [] [(0, .agg (GCall.enc p_a).toArray), (1, .agg (GCall.enc p_b).toArray)] [] rfl (subR rfl)
 refine f_seq (f_region (l_box S (S.tm rfl) (cs := (GCall.enc p_a)) rfl rfl ?_)); clear S; intro a w1 b1 hz1 hk1 S
 refine l_box S (S.tm rfl) (cs := (GCall.enc p_b)) rfl rfl ?_; clear S; intro a w2 b2 hz2 hk2 S
 refine lv S (rn_assign rfl) rfl ?_; clear S; intro a S
 refine l_done (then_n (f_seq (d_region [] ([]) Tryz.mixed S rfl (by kernel_rfl) ?_))); clear S; intro w8 hk8 hsel S
 refine d_quiet 0 S hsel rfl rfl rfl (by kernel_rfl) (by kernel_rfl) rfl (fun _ hw => (rn_fld fa_57_0 (S.tm rfl))) ?_; clear S; intro a S
 refine d_quiet 1 S hsel rfl rfl rfl (by kernel_rfl) (by kernel_rfl) rfl (fun _ hw => (rn_ld Tryz.isAgg9 (off := 0) (o := 0) (S.tm rfl) ((S.blk_mem (i := 1) (cells := (GCall.enc p_a)) (b := b1) (T := 57) rfl (ne_nil (e' := .blk b1 (GCall.enc p_a) 57))).kept hw) rfl)) ?_; clear S; intro a S
 refine d_quiet 2 S hsel rfl rfl rfl (by kernel_rfl) (by kernel_rfl) rfl (fun _ hw => (rn_fld fa_57_0 (S.tm rfl))) ?_; clear S; intro a S
 refine d_quiet 3 S hsel rfl rfl rfl (by kernel_rfl) (by kernel_rfl) rfl (fun _ hw => (rn_ld Tryz.isAgg9 (off := 0) (o := 0) (S.tm rfl) ((S.blk_mem (i := 0) (cells := (GCall.enc p_b)) (b := b2) (T := 57) rfl (ne_nil (e' := .blk b2 (GCall.enc p_b) 57))).kept hw) rfl)) ?_; clear S; intro a S
 refine d_quiet 5 S hsel rfl rfl rfl (by kernel_rfl) (by kernel_rfl) rfl (fun _ hw => (rn_fld fa_57_1 (S.tm rfl))) ?_; clear S; intro a S
 refine d_quiet 6 S hsel rfl rfl rfl (by kernel_rfl) (by kernel_rfl) rfl (fun _ hw => (rn_ld Tryz.isAgg9 (off := 0) (o := 1) (S.tm rfl) ((S.blk_mem (i := 1) (cells := (GCall.enc p_a)) (b := b1) (T := 57) rfl (ne_nil (e' := .blk b1 (GCall.enc p_a) 57))).kept hw) rfl)) ?_; clear S; intro a S
 refine d_quiet 7 S hsel rfl rfl rfl (by kernel_rfl) (by kernel_rfl) rfl (fun _ hw => (rn_fld fa_57_1 (S.tm rfl))) ?_; clear S; intro a S
 refine d_quiet 8 S hsel rfl rfl rfl (by kernel_rfl) (by kernel_rfl) rfl (fun _ hw => (rn_ld Tryz.isAgg9 (off := 0) (o := 1) (S.tm rfl) ((S.blk_mem (i := 0) (cells := (GCall.enc p_b)) (b := b2) (T := 57) rfl (ne_nil (e' := .blk b2 (GCall.enc p_b) 57))).kept hw) rfl)) ?_; clear S; intro a S
 refine d_quiet 10 S hsel rfl rfl rfl (by kernel_rfl) (by kernel_rfl) rfl (fun _ hw => (rn_fld fa_57_2 (S.tm rfl))) ?_; clear S; intro a S
 refine d_quiet 11 S hsel rfl rfl rfl (by kernel_rfl) (by kernel_rfl) rfl (fun _ hw => (rn_ld Tryz.isAgg3 (off := 0) (o := 2) (S.tm rfl) ((S.blk_mem (i := 1) (cells := (GCall.enc p_a)) (b := b1) (T := 57) rfl (ne_nil (e' := .blk b1 (GCall.enc p_a) 57))).kept hw) rfl)) ?_; clear S; intro a S
 refine d_quiet 12 S hsel rfl rfl rfl (by kernel_rfl) (by kernel_rfl) rfl (fun _ hw => (rn_fld fa_57_2 (S.tm rfl))) ?_; clear S; intro a S
 refine d_quiet 13 S hsel rfl rfl rfl (by kernel_rfl) (by kernel_rfl) rfl (fun _ hw => (rn_ld Tryz.isAgg3 (off := 0) (o := 2) (S.tm rfl) ((S.blk_mem (i := 0) (cells := (GCall.enc p_b)) (b := b2) (T := 57) rfl (ne_nil (e' := .blk b2 (GCall.enc p_b) 57))).kept hw) rfl)) ?_; clear S; intro a S
 refine d_loud1 4 (by kernel_rfl) rfl (l_enter S (fun _ => run_call (vs := [sV p_a.Who, sV p_b.Who]) ⟨(S.tm rfl), (S.tm rfl), trivial⟩ Tryz.call69) (strings_Compare_ok _ p_a.Who p_b.Who _ rfl) rfl ?_); clear S; intro v5 a w9 hv5 hk9 hn5 S
 subst hv5
 refine l_done (d_next hk9 (d_loud1 9 (by kernel_rfl) rfl (l_enter S (fun _ => run_call (vs := [sV p_a.Item, sV p_b.Item]) ⟨(S.tm rfl), (S.tm rfl), trivial⟩ Tryz.call69) (strings_Compare_ok _ p_a.Item p_b.Item _ rfl) rfl ?_))); clear S; intro v6 a w10 hv6 hk10 hn6 S
 subst hv6
 refine l_done (d_next hk10 (d_loud1 14 (by kernel_rfl) rfl (l_enter S (fun _ => run_call (vs := [iV p_a.Heat, iV p_b.Heat]) ⟨(S.tm rfl), (S.tm rfl), trivial⟩ Tryz.call44) (cmp_Compare_int_ok _ p_a.Heat p_b.Heat _ rfl) rfl ?_))); clear S; intro v7 a w11 hv7 hk11 hn7 S
 subst hv7
 refine l_done (d_next hk11 (d_loud1 15 (by kernel_rfl) rfl (l_buildSlice S Tryz.underlying22 Tryz.sizeOf3 Tryz.zeroValue3 rfl rfl (pv := [(0, iV (strings_Compare p_a.Who p_b.Who)), (1, iV (strings_Compare p_a.Item p_b.Item)), (2, iV (cmp_Compare_int p_a.Heat p_b.Heat))]) ⟨rfl, (S.tm rfl), rfl, (S.tm rfl), rfl, (S.tm rfl), trivial⟩ (cs := [iV (strings_Compare p_a.Who p_b.Who), iV (strings_Compare p_a.Item p_b.Item), iV (cmp_Compare_int p_a.Heat p_b.Heat)]) (by kernel_rfl) rfl ?_))); clear S; intro a w12 b4 hz4 hk12 S
 refine l_done (d_next hk12 (d_loud1 16 (by kernel_rfl) rfl (l_enter S (fun _ => run_call (vs := [.slice (some ⟨b4, 0, none⟩) 3 3]) ⟨(S.tm rfl), trivial⟩ Tryz.call68) (cmp_Or_int_ok _ (.slice (some ⟨b4, 0, none⟩) 3 3) [(strings_Compare p_a.Who p_b.Who), (strings_Compare p_a.Item p_b.Item), (cmp_Compare_int p_a.Heat p_b.Heat)] (lit_slcT enc_int S (i := 0) rfl rfl rfl rfl ((ne_nil (e' := .blk b4 [iV (strings_Compare p_a.Who p_b.Who), iV (strings_Compare p_a.Item p_b.Item), iV (cmp_Compare_int p_a.Heat p_b.Heat)] 3)) _ rfl)) _ rfl) rfl ?_))); clear S; intro v8 a w13 hv8 hk13 hn8 S
 subst hv8
 refine l_done (d_next hk13 (d_rest [17] hsel (by kernel_rfl) rfl ?_))
 clear hsel
 refine s_lv S rfl (rn_assign (S.tm rfl)) rfl ?_; clear S; intro a S
 refine s_done ?_
 replace S := S.nk [] [(4, iV (cmp_Or_int [(strings_Compare p_a.Who p_b.Who), (strings_Compare p_a.Item p_b.Item), (cmp_Compare_int p_a.Heat p_b.Heat)]))] [false, false, false] rfl ⟨rfl, trivial⟩
 refine then_n (wp_ret ?_)
 subst h
 exact f_ret S Tryz.results36 rfl rfl
set_option maxRecDepth 20000 in
theorem session_CheckSwims_ok (w : World) (v_p_items : Value) (p_items : List GItem) (hs_p_items : Slc (view w []) 5 v_p_items (p_items.map GItem.enc)) (v_p_l : Value) (p_l : List GCall) (hs_p_l : Slc (view w []) 3 v_p_l (p_l.map GCall.enc)) (r : Int) (h : session_CheckSwims p_items p_l = some r) :
    Calls Tryz.prog 18 [v_p_items, v_p_l].toArray w (Ret w [] fun _ v _ => v = iV r) := by
 refine f_enter [] [] Tryz.func18 rfl Tryz.ntmps18 rfl (by simp) (by simp [fps]) (by simp [fps]) fun a S => ?_
 unfold session_CheckSwims at h
 replace S := S.nk [] [(0, v_p_items), (1, v_p_l)] [] rfl (subR rfl)
 refine f_seq (f_region (lv S (rn_assign rfl) rfl ?_)); clear S; intro a S
 refine l_done (then_n (f_seq (f_seq (f_region (lv S (rn_move (S.tm rfl)) rfl ?_))))); clear S; intro a S
 obtain ⟨r1, hr1, h⟩ := bindE h
 refine l_enter S (fun _ => run_call (vs := [v_p_items]) ⟨(S.tm rfl), trivial⟩ Tryz.call34) (session_CheckItems_ok _ v_p_items p_items (hs_p_items.mono (S.le_arg nil_sub)) _ hr1) rfl ?_; clear S; intro v1 a w1 hv1 hk1 hn1 S
 subst hv1
 refine lv S (rn_assign (S.tm rfl)) rfl ?_; clear S; intro a S
 refine l_done (then_n (f_seq (f_region (lv S (rn_move (S.tm rfl)) rfl ?_)))); clear S; intro a S
 refine lv S (rn_neq (S.tm rfl) rfl) rfl ?_; clear S; intro a S
 refine l_done (then_n (f_cond (S.tm rfl) (fun hb1 => ?_) (fun hb1 => ?_)))
 ·replace h := iteT h hb1
  refine f_seq (f_region (lv S (rn_move (S.tm rfl)) rfl ?_)); clear S; intro a S
  refine lv S (rn_assign (S.tm rfl)) rfl ?_; clear S; intro a S
  refine l_done (then_n (wp_ret (then_r ?_)))
  obtain rfl := Option.some.inj h
  exact f_ret S Tryz.results18 rfl rfl
 ·replace h := iteF h hb1
  refine wp_skip (then_n (f_seq (f_seq (f_region (lv S (rn_move (S.tm rfl)) rfl ?_))))); clear S; intro a S
  refine lv S (rn_lenT sl_28 (S.tm rfl) (slc_len hs_p_l)) rfl ?_; clear S; intro a S
  refine lv S (rn_gtr (S.tm rfl) rfl) rfl ?_; clear S; intro a S
  refine l_done (then_n (f_cond (S.tm rfl) (fun hb2 => ?_) (fun hb2 => ?_)))
  ·replace h := iteT h hb2
   refine f_seq (f_region (lv S (rn_assign rfl) rfl ?_)); clear S; intro a S
   refine l_done (then_n (wp_ret (then_r ?_)))
   obtain rfl := Option.some.inj h
   exact f_ret S Tryz.results18 rfl rfl
  ·replace h := iteF h hb2
   refine wp_skip (then_n (f_seq (f_seq (f_region (lv S (rn_move (S.tm rfl)) rfl ?_))))); clear S; intro a S
   refine lv S (rn_lenT sl_28 (S.tm rfl) (slc_len hs_p_l)) rfl ?_; clear S; intro a S
   refine lv S (rn_move rfl) rfl ?_; clear S; intro a S
   refine l_done (then_n ?_)
   replace S := S.nk [] [(0, v_p_items), (1, v_p_l), (17, v_p_l), (18, iV (p_l.length : Int)), (19, iV 0)] [] rfl (subR rfl)
   obtain ⟨j1, hj1, h⟩ := joinE h
   refine f_join (fun a w' => j1 = some r ∧ Sx w [] nov [] [] 56 a w') ?_ ?_
   ·refine wp_block (f_loop (fun (ys1 : List GCall) a w' => ∃ i1 : Nat, (∃ dn, p_l = dn ++ ys1 ∧ dn.length = i1) ∧ session_CheckSwims_l1 p_items p_l j1 ys1 i1 = some r ∧ Sx w [] nov [] [(0, v_p_items), (1, v_p_l), (17, v_p_l), (18, iV (p_l.length : Int)), (19, iV (i1 : Int))] 56 a w') List.length p_l ⟨0, ⟨[], rfl, rfl⟩, h, S.nf [] rfl (subR rfl)⟩ ?_)
    clear S h; rintro ys1 a w2 ⟨i1, ⟨dn, hd1, hi1⟩, h, S⟩
    cases ys1 with
    | nil =>
     rw [session_CheckSwims_l1.eq_1] at h
     refine f_seq (f_region (lv S (rn_lss (S.tm rfl) (S.tm rfl)) rfl ?_)); clear S; intro a S
     refine l_done ?_
     replace S := S.nk [] [(0, v_p_items), (1, v_p_l), (17, v_p_l), (18, iV (p_l.length : Int)), (19, iV (i1 : Int)), (20, bV (decide ((i1 : Int) < (p_l.length : Int))))] [] rfl (subR rfl)
     refine then_n (f_seq (wp_cond_false ((S.tm rfl).trans (congrArg Value.bool (rng_nil hd1 hi1))) (wp_exit (then_x (then_x (x_same ?_))))))
     refine then_n ?_
     exact ⟨h, S.nf [] rfl trivial⟩
    | cons y1 ys1 =>
     rw [session_CheckSwims_l1.eq_2] at h
     refine f_seq (f_region (lv S (rn_lss (S.tm rfl) (S.tm rfl)) rfl ?_)); clear S; intro a S
     refine l_done ?_
     replace S := S.nk [] [(0, v_p_items), (1, v_p_l), (17, v_p_l), (18, iV (p_l.length : Int)), (19, iV (i1 : Int)), (20, bV (decide ((i1 : Int) < (p_l.length : Int))))] [] rfl (subR rfl)
     refine then_n (f_seq (wp_cond_true ((S.tm rfl).trans (congrArg Value.bool (rng_cons hd1 hi1))) (wp_skip (then_n (f_seq (wp_block ?_))))))
     refine f_seq (f_region (lv S (rn_move (S.tm rfl)) rfl ?_)); clear S; intro a S
     obtain ⟨b1, o1, hm1, hr2⟩ := rn_indexT (a := a) (x := .tmp 17) (y := .tmp 19) (ty := 0) sl_28 hs_p_l (get_mid hd1 hi1) rfl (S.tm rfl) (S.tm rfl)
     refine lv S (hr2 _) rfl ?_; clear S; intro a S
     clear hr2
     refine lv S (rn_ldA Tryz.isAgg57 Tryz.sizeOf57 (off := o1) (o := 0) (part := (GCall.enc y1)) rfl rfl (S.tm rfl) (hm1.at S.emb0)) rfl ?_; clear S; intro a S
     refine l_alloc S Tryz.zeroValue57 (cs := [sV k_empty, sV k_empty, iV 0]) rfl rfl ?_; clear S; intro a w4 b2 hz1 hk2 S
     refine lv S (rn_assign (S.tm rfl)) rfl ?_; clear S; intro a S
     refine l_store S (S.tm rfl) (S.tm rfl) (i := 0) (off := 0) rfl Tryz.sizeOf57 (vs := (GCall.enc y1)) rfl rfl rfl rfl ?_; clear S; intro w5 hk3 S
     refine l_done (then_n (f_seq (f_seq (f_region (lv S (rn_fld fa_57_0 (S.tm rfl)) rfl ?_))))); clear S; intro a S
     refine lv S (rn_load Tryz.isAgg9 (S.tm rfl) (S.cell (i := 0) rfl rfl)) rfl ?_; clear S; intro a S
     obtain ⟨r2, hr3, h⟩ := bindE h
     refine l_enter S (fun _ => run_call (vs := [sV y1.Who]) ⟨(S.tm rfl), trivial⟩ Tryz.call24) (words_IsKey_ok _ y1.Who _ hr3) rfl ?_; clear S; intro v2 a w6 hv2 hk4 hn2 S
     subst hv2
     refine lv S (rn_not (S.tm rfl)) rfl ?_; clear S; intro a S
     refine l_done ?_
     replace S := S.nk [.blk b2 (GCall.enc y1) 57] [(0, v_p_items), (1, v_p_l), (6, iV (i1 : Int)), (7, .pointer (some ⟨b2, 0, none⟩)), (17, v_p_l), (18, iV (p_l.length : Int)), (19, iV (i1 : Int)), (27, bV (!r2))] [true] rfl (subR rfl)
     refine then_n (f_cond (S.tm rfl) (fun hb3 => ?_) (fun hb3 => ?_))
     ·replace h := iteT h hb3
      refine f_seq (f_region (lv S (rn_assign rfl) rfl ?_)); clear S; intro a S
      refine l_done (then_n (wp_ret (then_r (blk_r (then_r (then_r ?_))))))
      refine blk_r (then_r (then_r ?_))
      obtain rfl := Option.some.inj h
      exact f_ret S Tryz.results18 rfl rfl
     ·replace h := iteF h hb3
      refine wp_skip (then_n (f_seq (f_region (lv S (rn_move (S.tm rfl)) rfl ?_)))); clear S; intro a S
      refine lv S (rn_fld fa_57_1 (S.tm rfl)) rfl ?_; clear S; intro a S
      refine lv S (rn_load Tryz.isAgg9 (S.tm rfl) (S.cell (i := 0) rfl rfl)) rfl ?_; clear S; intro a S
      refine l_enter S (fun _ => run_call (vs := [v_p_items, sV y1.Item]) ⟨(S.tm rfl), (S.tm rfl), trivial⟩ Tryz.call35) (session_itemAt_ok _ v_p_items p_items (hs_p_items.mono (S.le_arg nil_sub)) y1.Item _ rfl) rfl ?_; clear S; intro v3 a w7 hv3 hk5 hn3 S
      subst hv3
      refine lv S (rn_assign (S.tm rfl)) rfl ?_; clear S; intro a S
      refine l_done (then_n (f_seq (f_seq (f_region (lv S (rn_move (S.tm rfl)) rfl ?_))))); clear S; intro a S
      refine lv S (rn_lss (S.tm rfl) rfl) rfl ?_; clear S; intro a S
      refine l_done ?_
      replace S := S.nk [.blk b2 (GCall.enc y1) 57] [(0, v_p_items), (1, v_p_l), (6, iV (i1 : Int)), (7, .pointer (some ⟨b2, 0, none⟩)), (8, iV (session_itemAt p_items y1.Item)), (17, v_p_l), (18, iV (p_l.length : Int)), (19, iV (i1 : Int)), (33, bV (decide ((session_itemAt p_items y1.Item) < 0)))] [true] rfl (subR rfl)
      refine then_n (f_cond (S.tm rfl) (fun hb4 => ?_) (fun hb4 => ?_))
      ·replace h := iteT h hb4
       refine f_seq (f_region (lv S (rn_assign rfl) rfl ?_)); clear S; intro a S
       refine l_done (then_n (wp_ret (then_r (blk_r (then_r (then_r ?_))))))
       refine blk_r (then_r (then_r ?_))
       obtain rfl := Option.some.inj h
       exact f_ret S Tryz.results18 rfl rfl
      ·replace h := iteF h hb4
       refine wp_skip (then_n (f_seq (f_seq ?_)))
       obtain ⟨hc1, h⟩ := chkE h
       refine d_region [] ([]) Tryz.mixed S rfl (by kernel_rfl) ?_; clear S; intro w9 hk7 hsel S
       refine d_quiet 0 S hsel rfl rfl rfl (by kernel_rfl) (by kernel_rfl) rfl (fun _ hw => (rn_fld fa_57_2 (S.tm rfl))) ?_; clear S; intro a S
       refine d_quiet 1 S hsel rfl rfl rfl (by kernel_rfl) (by kernel_rfl) rfl (fun _ hw => (rn_ld Tryz.isAgg3 (off := 0) (o := 2) (S.tm rfl) ((S.blk_mem (i := 0) (cells := (GCall.enc y1)) (b := b2) (T := 57) rfl (ne_nil (e' := .blk b2 (GCall.enc y1) 57))).kept hw) rfl)) ?_; clear S; intro a S
       refine d_quiet 2 S hsel rfl rfl rfl (by kernel_rfl) (by kernel_rfl) rfl (fun _ hw => (rn_move (S.tm rfl))) ?_; clear S; intro a S
       refine d_quiet 3 S hsel rfl rfl rfl (by kernel_rfl) (by kernel_rfl) rfl (fun _ hw => (rn_move (S.tm rfl))) ?_; clear S; intro a S
       obtain ⟨b4, o3, hm3, hr5⟩ := rn_indexT (a := a) (x := .tmp 36) (y := .tmp 37) (ty := 0) sl_26 (hs_p_items.mono (S.le_arg nil_sub)) (inB_get hc1).1 (inB_get hc1).2 (S.tm rfl) (S.tm rfl)
       refine d_quiet 4 S hsel rfl rfl rfl (by kernel_rfl) (by kernel_rfl) rfl (fun _ hw => hr5 _) ?_; clear S; intro a S
       clear hr5
       refine d_quiet 5 S hsel rfl rfl rfl (by kernel_rfl) (by kernel_rfl) rfl (fun _ hw => (rn_fld fa_52_1 (S.tm rfl))) ?_; clear S; intro a S
       refine d_quiet 6 S hsel rfl rfl rfl (by kernel_rfl) (by kernel_rfl) rfl (fun _ hw => (rn_ld Tryz.isAgg3 (off := o3) (o := 1) (S.tm rfl) (hm3.kept hw) rfl)) ?_; clear S; intro a S
       refine d_loud1 7 (by kernel_rfl) rfl (l_enter S (fun _ => run_call (vs := [iV y1.Heat, iV 1, iV ((nth p_items (session_itemAt p_items y1.Item)).Heats)]) ⟨(S.tm rfl), rfl, (S.tm rfl), trivial⟩ Tryz.call21) (words_Within_ok _ y1.Heat 1 ((nth p_items (session_itemAt p_items y1.Item)).Heats) _ rfl) rfl ?_); clear S; intro v5 a w10 hv5 hk8 hn5 S
       subst hv5
       refine l_done (d_next hk8 (d_rest [8] hsel (by kernel_rfl) rfl ?_))
       clear hsel
       refine s_lv S rfl (rn_not (S.tm rfl)) rfl ?_; clear S; intro a S
       refine s_done ?_
       replace S := S.nk [.blk b2 (GCall.enc y1) 57] [(0, v_p_items), (1, v_p_l), (6, iV (i1 : Int)), (7, .pointer (some ⟨b2, 0, none⟩)), (17, v_p_l), (18, iV (p_l.length : Int)), (19, iV (i1 : Int)), (42, bV (!(words_Within y1.Heat 1 ((nth p_items (session_itemAt p_items y1.Item)).Heats))))] [true] rfl (subR rfl)
       refine then_n (f_cond (S.tm rfl) (fun hb5 => ?_) (fun hb5 => ?_))
       ·replace h := iteT h hb5
        refine f_seq (f_region (lv S (rn_assign rfl) rfl ?_)); clear S; intro a S
        refine l_done (then_n (wp_ret (then_r (blk_r (then_r (then_r ?_))))))
        refine blk_r (then_r (then_r ?_))
        obtain rfl := Option.some.inj h
        exact f_ret S Tryz.results18 rfl rfl
       ·replace h := iteF h hb5
        refine wp_skip (then_n (f_seq ?_))
        obtain ⟨j2, hj2, h⟩ := joinE h
        refine f_join (fun a w' => ∃ x1 : Bool, j2 x1 = some r ∧ Sx w [] nov [] [(0, v_p_items), (1, v_p_l), (17, v_p_l), (18, iV (p_l.length : Int)), (19, iV (i1 : Int)), (54, bV x1)] 56 a w') ?_ ?_
        ·rcases Bool.eq_false_or_eq_true (decide (0 < (i1 : Int))) with hb6 | hb6
         ·replace h := iteT h hb6
          obtain ⟨hc2, h⟩ := chkE h
          refine d_region [] ([]) Tryz.mixed S rfl (by kernel_rfl) ?_; clear S; intro w13 hk10 hsel S
          refine d_quiet 0 S hsel rfl rfl rfl (by kernel_rfl) (by kernel_rfl) rfl (fun _ hw => (rn_move (S.tm rfl))) ?_; clear S; intro a S
          refine d_quiet 1 S hsel rfl rfl rfl (by kernel_rfl) (by kernel_rfl) rfl (fun _ hw => (rn_gtr (S.tm rfl) rfl)) ?_; clear S; intro a S
          refine d_quiet 2 S hsel rfl rfl rfl (by kernel_rfl) (by kernel_rfl) rfl (fun _ hw => (rn_move (S.tm rfl))) ?_; clear S; intro a S
          refine d_quiet_g 3 S hsel rfl rfl rfl rfl hb6 rfl rfl (by kernel_rfl) (by kernel_rfl) rfl (fun _ hw => (rn_move (S.tm rfl))) ?_; clear S; intro a S
          refine d_quiet_g 4 S hsel rfl rfl rfl rfl hb6 rfl rfl (by kernel_rfl) (by kernel_rfl) rfl (fun _ hw => (rn_move (S.tm rfl))) ?_; clear S; intro a S
          refine d_quiet_g 5 S hsel rfl rfl rfl rfl hb6 rfl rfl (by kernel_rfl) (by kernel_rfl) rfl (fun _ hw => (rn_sub (S.tm rfl) rfl)) ?_; clear S; intro a S
          obtain ⟨b6, o5, hm5, hr7⟩ := rn_indexT (a := a) (x := .tmp 46) (y := .tmp 48) (ty := 0) sl_28 (hs_p_l.mono (S.le_arg nil_sub)) (inB_get hc2).1 (inB_get hc2).2 (S.tm rfl) (S.tm rfl)
          refine d_quiet_g 6 S hsel rfl rfl rfl rfl hb6 rfl rfl (by kernel_rfl) (by kernel_rfl) rfl (fun _ hw => hr7 _) ?_; clear S; intro a S
          clear hr7
          refine d_quiet_g 7 S hsel rfl rfl rfl rfl hb6 rfl rfl (by kernel_rfl) (by kernel_rfl) rfl (fun _ hw => (rn_ldA Tryz.isAgg57 Tryz.sizeOf57 (off := o5) (o := 0) (part := (GCall.enc (nth p_l (W ((i1 : Int) - 1))))) rfl rfl (S.tm rfl) (hm5.kept hw))) ?_; clear S; intro a S
          refine d_quiet_g 8 S hsel rfl rfl rfl rfl hb6 rfl rfl (by kernel_rfl) (by kernel_rfl) rfl (fun _ hw => (rn_ldA Tryz.isAgg57 Tryz.sizeOf57 (off := 0) (o := 0) (part := (GCall.enc y1)) rfl rfl (S.tm rfl) ((S.blk_mem (i := 0) (cells := (GCall.enc y1)) (b := b2) (T := 57) rfl (ne_nil (e' := .blk b2 (GCall.enc y1) 57))).kept hw))) ?_; clear S; intro a S
          refine d_loud1 9 (by kernel_rfl) rfl (l_want S rfl rfl rfl hb6 (l_enter S (fun _ => run_call (vs := [.agg (GCall.enc (nth p_l (W ((i1 : Int) - 1)))).toArray, .agg (GCall.enc y1).toArray]) ⟨(S.tm rfl), (S.tm rfl), trivial⟩ Tryz.call36) (session_compareCalls_ok _ (nth p_l (W ((i1 : Int) - 1))) y1 _ rfl) rfl ?_)); clear S; intro v7 a w14 hv7 hk11 hn7 S
          subst hv7
          refine l_done (d_next hk11 (d_rest [10, 11] hsel (by kernel_rfl) rfl ?_))
          clear hsel
          refine s_want S rfl rfl rfl rfl hb6 (s_lv0 S (rn_geq (S.tm rfl) rfl) rfl ?_); clear S; intro a S
          refine s_lv S rfl (rn_pick_b hb6 (S.tm rfl) (S.tm rfl)) rfl ?_; clear S; intro a S
          refine s_done ?_
          replace S := S.nk [] [(0, v_p_items), (1, v_p_l), (17, v_p_l), (18, iV (p_l.length : Int)), (19, iV (i1 : Int)), (46, v_p_l), (47, iV (i1 : Int)), (48, iV (W ((i1 : Int) - 1))), (49, .pointer (some ⟨b6, o5, none⟩)), (50, .agg (GCall.enc (nth p_l (W ((i1 : Int) - 1)))).toArray), (51, .agg (GCall.enc y1).toArray), (52, iV (session_compareCalls (nth p_l (W ((i1 : Int) - 1))) y1)), (53, bV (decide (0 ≤ (session_compareCalls (nth p_l (W ((i1 : Int) - 1))) y1)))), (54, bV (decide (0 ≤ (session_compareCalls (nth p_l (W ((i1 : Int) - 1))) y1))))] [false] rfl (subR rfl)
          refine then_n ?_
          exact ⟨decide (0 ≤ (session_compareCalls (nth p_l (W ((i1 : Int) - 1))) y1)), h, S.nf [] rfl (subR rfl)⟩
         ·replace h := iteF h hb6
          refine d_region [] ([]) Tryz.mixed S rfl (by kernel_rfl) ?_; clear S; intro w15 hk12 hsel S
          refine d_rest [0, 1, 2, 3, 4, 5, 6, 7, 8, 9, 10, 11] hsel (by kernel_rfl) rfl ?_
          clear hsel
          refine s_lv S rfl (rn_move (S.tm rfl)) rfl ?_; clear S; intro a S
          refine s_lv S rfl (rn_gtr (S.tm rfl) rfl) rfl ?_; clear S; intro a S
          refine s_lv S rfl (rn_move (S.tm rfl)) rfl ?_; clear S; intro a S
          iterate 8 (refine s_skip S rfl rfl rfl rfl (neq_f hb6) rfl ?_ rfl; clear S; intro a S)
          refine s_lv S rfl (rn_pick_c hb6 (S.tm rfl) rfl) rfl ?_; clear S; intro a S
          refine s_done ?_
          replace S := S.nk [] [(0, v_p_items), (1, v_p_l), (17, v_p_l), (18, iV (p_l.length : Int)), (19, iV (i1 : Int)), (54, bV false)] [false] rfl (subR rfl)
          refine then_n ?_
          exact ⟨false, h, S.nf [] rfl (subR rfl)⟩
        clear S h; rintro a w11 ⟨x1, h, S⟩; rw [hj2] at h; clear hj2 j2
        refine then_n (f_cond (S.tm rfl) (fun hb7 => ?_) (fun hb7 => ?_))
        ·replace h := iteT h hb7
         refine f_seq (f_region (lv S (rn_assign rfl) rfl ?_)); clear S; intro a S
         refine l_done (then_n (wp_ret (blk_r (then_r (then_r (blk_r ?_))))))
         refine then_r (then_r ?_)
         obtain rfl := Option.some.inj h
         exact f_ret S Tryz.results18 rfl rfl
        ·replace h := iteF h hb7
         refine wp_skip (blk_n (then_n (f_region (lv S (rn_add (S.tm rfl) rfl) rfl ?_)))); clear S; intro a S
         refine lv S (rn_move (S.tm rfl)) rfl ?_; clear S; intro a S
         refine l_done (then_n ?_)
         exact ⟨ys1, ⟨i1 + 1, ⟨_, (hd1).trans (List.append_cons _ _ _), by simp [hi1]⟩, h, S.nf [] rfl ⟨rfl, rfl, rfl, rfl, (congrArg (fun z => some (Value.int .i64 z)) (rng_next hd1 hi1 (slc_max hs_p_l))), trivial⟩⟩, Nat.lt_succ_self _⟩
   clear S h; rintro a w3 ⟨h, S⟩; rw [hj1] at h; clear hj1 j1
   refine then_n (f_seq (f_region (lv S (rn_assign rfl) rfl ?_))); clear S; intro a S
   refine l_done (then_n (wp_ret ?_))
   obtain rfl := Option.some.inj h
   exact f_ret S Tryz.results18 rfl rfl
theorem words_IsMoment_ok (w : World) (p_n : Int) (r : Bool) (h : words_IsMoment p_n = r) :
    Calls Tryz.prog 37 [iV p_n].toArray w (Ret w [] fun _ v _ => v = bV r) := by
 refine f_enter [] [] Tryz.func37 rfl Tryz.ntmps37 rfl (by simp) (by simp [fps]) (by simp [fps]) fun a S => ?_
 unfold words_IsMoment at h
 replace S := S.nk [] [(0, iV p_n)] [] rfl ⟨rfl, trivial⟩
 refine f_seq (f_region (lv S (rn_assign rfl) rfl ?_)); clear S; intro a S
 refine l_done (then_n (f_seq (f_region (lv S (rn_move (S.tm rfl)) rfl ?_)))); clear S; intro a S
 refine lv S (rn_geq (S.tm rfl) rfl) rfl ?_; clear S; intro a S
 refine lv S (rn_move (S.tm rfl)) rfl ?_; clear S; intro a S
 refine f_cutm 3 (fun a w' => Keep [] w w' ∧ Sx w [] nov [] [(8, bV ((decide (0 ≤ p_n)) && (decide (p_n < 345686400000))))] 9 a w') ?_ ?_
 ·rcases Bool.eq_false_or_eq_true (decide (0 ≤ p_n)) with hb1 | hb1
  ·refine l_want S rfl rfl rfl hb1 (lv S (rn_move (S.tm rfl)) rfl ?_); clear S; intro a S
   refine l_want S rfl rfl rfl hb1 (lv S (rn_lss (S.tm rfl) rfl) rfl ?_); clear S; intro a S
   refine lv S (rn_and_t hb1 (S.tm rfl) (S.tm rfl)) rfl ?_; clear S; intro a S
   refine l_done (then_n ?_)
   exact ⟨Keep.refl _ _, S.nf [] rfl ⟨rfl, trivial⟩⟩
  ·refine l_skip S rfl rfl rfl (neq_f hb1) rfl ?_ rfl; clear S; intro a S
   refine l_skip S rfl rfl rfl (neq_f hb1) rfl ?_ rfl; clear S; intro a S
   refine lv S (rn_and_f (decide (p_n < 345686400000)) hb1 (S.tm rfl) rfl) rfl ?_; clear S; intro a S
   refine l_done (then_n ?_)
   exact ⟨Keep.refl _ _, S.nf [] rfl ⟨rfl, trivial⟩⟩
 clear S; rintro a w1 ⟨hk1, S⟩
 refine lv S (rn_assign (S.tm rfl)) rfl ?_; clear S; intro a S
 refine l_done (then_n (wp_ret ?_))
 subst h
 exact f_ret S Tryz.results37 rfl rfl
theorem session_timetable_ok (w : World) (v_p_l : Value) (p_l : List GItem) (hs_p_l : Slc (view w []) 5 v_p_l (p_l.map GItem.enc)) (p_from : Int) (r : (List GSlot)) (h : session_timetable p_l p_from = some r) :
    Calls Tryz.prog 38 [v_p_l, iV p_from].toArray w (Ret w [] fun τ v _ => OwnV τ 44 4 v r.length (r.flatMap GSlot.enc)) := by
 refine f_enter [] [] Tryz.func38 rfl Tryz.ntmps38 rfl (by simp) (by simp [fps]) (by simp [fps]) fun a S => ?_
 unfold session_timetable at h
 replace S := S.nk [] [(0, v_p_l), (1, iV p_from)] [] rfl (subR rfl)
 refine f_seq (f_region (lv S (rn_assign rfl) rfl ?_)); clear S; intro a S
 refine l_done (then_n (f_seq (f_region (lv S (rn_assign rfl) rfl ?_)))); clear S; intro a S
 replace S := S.nil 44 4
 refine l_done (then_n (f_seq (f_region (lv S (rn_move (S.tm rfl)) rfl ?_)))); clear S; intro a S
 refine lv S (rn_assign (S.tm rfl)) rfl ?_; clear S; intro a S
 refine l_done (then_n (f_seq (f_seq (f_region (lv S (rn_move (S.tm rfl)) rfl ?_))))); clear S; intro a S
 refine lv S (rn_lenT sl_26 (S.tm rfl) (slc_len hs_p_l)) rfl ?_; clear S; intro a S
 refine lv S (rn_move rfl) rfl ?_; clear S; intro a S
 refine l_done (then_n ?_)
 replace S := S.nk [.own (.slice none 0 0) 44 4 ([] : List GSlot).length (([] : List GSlot).flatMap GSlot.enc)] [(5, (.slice none 0 0)), (6, iV p_from), (11, v_p_l), (12, iV (p_l.length : Int)), (13, iV 0)] [true] rfl (subR rfl)
 obtain ⟨j1, hj1, h⟩ := joinE h
 refine f_join (fun a w' => ∃ x1 : List GSlot, ∃ v1 : Value, j1 x1 = some r ∧ Sx w [] nov [.own v1 44 4 x1.length (x1.flatMap GSlot.enc)] [(5, v1)] 54 a w') ?_ ?_
 ·refine wp_block (f_loop (fun (ys1 : List GItem) a w' => ∃ i1 : Nat, ∃ x1 : List GSlot, ∃ x2 : Int, ∃ v1 : Value, (∃ dn, p_l = dn ++ ys1 ∧ dn.length = i1) ∧ session_timetable_l1 j1 ys1 i1 x1 x2 = some r ∧ Sx w [] nov [.own v1 44 4 x1.length (x1.flatMap GSlot.enc)] [(5, v1), (6, iV x2), (11, v_p_l), (12, iV (p_l.length : Int)), (13, iV (i1 : Int))] 54 a w') List.length p_l ⟨0, ([] : List GSlot), p_from, (.slice none 0 0), ⟨[], rfl, rfl⟩, h, S.nf [true] rfl (subR rfl)⟩ ?_)
  clear S h; rintro ys1 a w1 ⟨i1, x1, x2, v1, ⟨dn, hd1, hi1⟩, h, S⟩
  cases ys1 with
  | nil =>
   rw [session_timetable_l1.eq_1] at h
   refine f_seq (f_region (lv S (rn_lss (S.tm rfl) (S.tm rfl)) rfl ?_)); clear S; intro a S
   refine l_done ?_
   replace S := S.nk [.own v1 44 4 x1.length (x1.flatMap GSlot.enc)] [(5, v1), (6, iV x2), (11, v_p_l), (12, iV (p_l.length : Int)), (13, iV (i1 : Int)), (14, bV (decide ((i1 : Int) < (p_l.length : Int))))] [true] rfl (subR rfl)
   refine then_n (f_seq (wp_cond_false ((S.tm rfl).trans (congrArg Value.bool (rng_nil hd1 hi1))) (wp_exit (then_x (then_x (x_same ?_))))))
   refine then_n ?_
   exact ⟨x1, v1, h, S.nf [true] rfl ⟨rfl, trivial⟩⟩
  | cons y1 ys1 =>
   rw [session_timetable_l1.eq_2] at h
   refine f_seq (f_region (lv S (rn_lss (S.tm rfl) (S.tm rfl)) rfl ?_)); clear S; intro a S
   refine l_done ?_
   replace S := S.nk [.own v1 44 4 x1.length (x1.flatMap GSlot.enc)] [(5, v1), (6, iV x2), (11, v_p_l), (12, iV (p_l.length : Int)), (13, iV (i1 : Int)), (14, bV (decide ((i1 : Int) < (p_l.length : Int))))] [true] rfl (subR rfl)
   refine then_n (f_seq (wp_cond_true ((S.tm rfl).trans (congrArg Value.bool (rng_cons hd1 hi1))) (wp_skip (then_n (f_seq (wp_block ?_))))))
   refine f_seq (f_region ?_)
   obtain ⟨b1, o1, hm1, hr1⟩ := rn_indexT (a := a) (x := .tmp 11) (y := .tmp 13) (ty := 0) sl_26 hs_p_l (get_mid hd1 hi1) rfl (S.tm rfl) (S.tm rfl)
   refine lv S (hr1 _) rfl ?_; clear S; intro a S
   clear hr1
   refine lv S (rn_ldA Tryz.isAgg52 Tryz.sizeOf52 (off := o1) (o := 0) (part := (GItem.enc y1)) rfl rfl (S.tm rfl) (hm1.at S.emb0)) rfl ?_; clear S; intro a S
   refine l_alloc S Tryz.zeroValue52 (cs := [sV k_empty, iV 0, iV 0, iV 0, iV 0]) rfl rfl ?_; clear S; intro a w3 b2 hz1 hk1 S
   refine l_store S (S.tm rfl) (S.tm rfl) (i := 0) (off := 0) rfl Tryz.sizeOf52 (vs := (GItem.enc y1)) rfl rfl rfl rfl ?_; clear S; intro w4 hk2 S
   refine l_done (then_n (f_seq (f_seq (f_region (lv S (rn_assign rfl) rfl ?_))))); clear S; intro a S
   refine l_done (then_n ?_)
   replace S := S.nk [.blk b2 (GItem.enc y1) 52, .own v1 44 4 x1.length (x1.flatMap GSlot.enc)] [(5, v1), (6, iV x2), (8, .pointer (some ⟨b2, 0, none⟩)), (9, iV 1), (11, v_p_l), (12, iV (p_l.length : Int)), (13, iV (i1 : Int))] [true, true] rfl (subR rfl)
   obtain ⟨j2, hj2, h⟩ := joinE h
   refine f_join (fun a w' => ∃ x3 : List GSlot, ∃ x4 : Int, ∃ v2 : Value, j2 x3 x4 = some r ∧ Sx w [] nov [.blk b2 (GItem.enc y1) 52, .own v2 44 4 x3.length (x3.flatMap GSlot.enc)] [(5, v2), (6, iV x4), (8, .pointer (some ⟨b2, 0, none⟩)), (11, v_p_l), (12, iV (p_l.length : Int)), (13, iV (i1 : Int))] 54 a w') ?_ ?_
   ·refine wp_block (f_loop (fun (m1 : Nat) a w' => ∃ x3 : List GSlot, ∃ x4 : Int, ∃ x5 : Int, ∃ v2 : Value, session_timetable_l2 y1 j2 m1 x3 x4 x5 = some r ∧ Sx w [] nov [.blk b2 (GItem.enc y1) 52, .own v2 44 4 x3.length (x3.flatMap GSlot.enc)] [(5, v2), (6, iV x4), (8, .pointer (some ⟨b2, 0, none⟩)), (9, iV x5), (11, v_p_l), (12, iV (p_l.length : Int)), (13, iV (i1 : Int))] 54 a w') id ((y1.Heats - 1).toNat + 2) ⟨x1, x2, 1, v1, h, S.nf [true, true] rfl (subR rfl)⟩ ?_)
    clear S h; rintro m1 a w5 ⟨x3, x4, x5, v2, h, S⟩
    cases m1 with
    | zero => rw [session_timetable_l2.eq_1] at h; cases h
    | succ m1 =>
     rw [session_timetable_l2.eq_2] at h
     refine f_seq (f_seq (f_region (lv S (rn_move (S.tm rfl)) rfl ?_))); clear S; intro a S
     refine lv S (rn_fld fa_52_1 (S.tm rfl)) rfl ?_; clear S; intro a S
     refine lv S (rn_load Tryz.isAgg3 (S.tm rfl) (S.cell (i := 0) rfl rfl)) rfl ?_; clear S; intro a S
     refine lv S (rn_leq (S.tm rfl) (S.tm rfl)) rfl ?_; clear S; intro a S
     refine l_done (then_n (f_cond (S.tm rfl) (fun hb1 => ?_) (fun hb1 => ?_)))
     ·replace h := iteT h hb1
      refine wp_skip (then_n (f_seq ?_))
      obtain ⟨j3, hj3, h⟩ := joinE h
      refine f_join (fun a w' => ∃ x6 : List GSlot, ∃ x7 : Int, ∃ v3 : Value, j3 x6 x7 = some r ∧ Sx w [] nov [.blk b2 (GItem.enc y1) 52, .own v3 44 4 x6.length (x6.flatMap GSlot.enc)] [(5, v3), (6, iV x7), (8, .pointer (some ⟨b2, 0, none⟩)), (9, iV x5), (11, v_p_l), (12, iV (p_l.length : Int)), (13, iV (i1 : Int))] 54 a w') ?_ ?_
      ·refine wp_block (f_seq (f_region (lv S (rn_move (S.tm rfl)) rfl ?_))); clear S; intro a S
       refine lv S (rn_fld fa_52_0 (S.tm rfl)) rfl ?_; clear S; intro a S
       refine lv S (rn_load Tryz.isAgg9 (S.tm rfl) (S.cell (i := 0) rfl rfl)) rfl ?_; clear S; intro a S
       iterate 3 (refine lv S (rn_move (S.tm rfl)) rfl ?_; clear S; intro a S)
       refine lv S (rn_fld fa_52_2 (S.tm rfl)) rfl ?_; clear S; intro a S
       refine lv S (rn_load Tryz.isAgg3 (S.tm rfl) (S.cell (i := 0) rfl rfl)) rfl ?_; clear S; intro a S
       refine lv S (rn_add (S.tm rfl) (S.tm rfl)) rfl ?_; clear S; intro a S
       refine lv S (rn_bld bt_42 (pv := [(0, iV x4), (1, iV (W (x4 + y1.Long)))]) ⟨rfl, (S.tm rfl), rfl, (S.tm rfl), trivial⟩ (cs := [iV x4, iV (W (x4 + y1.Long))]) (by kernel_rfl)) rfl ?_; clear S; intro a S
       refine lv S (rn_bld bt_44 (pv := [(0, sV y1.Key), (1, iV x5), (2, .agg #[iV x4, iV (W (x4 + y1.Long))])]) ⟨rfl, (S.tm rfl), rfl, (S.tm rfl), rfl, (S.tm rfl), trivial⟩ (cs := [sV y1.Key, iV x5, iV x4, iV (W (x4 + y1.Long))]) (by kernel_rfl)) rfl ?_; clear S; intro a S
       refine l_buildSlice S Tryz.underlying38 Tryz.sizeOf44 Tryz.zeroValue44 rfl rfl (pv := [(0, .agg #[sV y1.Key, iV x5, iV x4, iV (W (x4 + y1.Long))])]) ⟨rfl, (S.tm rfl), trivial⟩ (cs := [sV y1.Key, iV x5, iV x4, iV (W (x4 + y1.Long))]) (by kernel_rfl) rfl ?_; clear S; intro a w8 b3 hz2 hk3 S
       obtain ⟨hc1, h⟩ := chkE h
       refine l_appendT sl_38 GSlot.enc_ok S (S.tm rfl) (i := 2) rfl (S.tm rfl) (j := 0) rfl (ys := [(GSlot.mk y1.Key x5 (GWindow.mk x4 (W (x4 + y1.Long))))]) rfl rfl rfl rfl (by have := room_lt hc1; omega) rfl ?_; clear S; intro v4 a w9 hk4 S
       refine lv S (rn_assign (S.tm rfl)) rfl ?_; clear S; intro a S
       refine l_done ?_
       replace S := S.nk [.blk b2 (GItem.enc y1) 52, .own v4 44 4 (x3 ++ [(GSlot.mk y1.Key x5 (GWindow.mk x4 (W (x4 + y1.Long))))]).length ((x3 ++ [(GSlot.mk y1.Key x5 (GWindow.mk x4 (W (x4 + y1.Long))))]).flatMap GSlot.enc)] [(5, v4), (6, iV x4), (8, .pointer (some ⟨b2, 0, none⟩)), (9, iV x5), (11, v_p_l), (12, iV (p_l.length : Int)), (13, iV (i1 : Int))] [false, true, true] rfl (subR rfl)
       refine then_n (f_seq (f_region (lv S (rn_move (S.tm rfl)) rfl ?_))); clear S; intro a S
       refine lv S (rn_fld fa_52_2 (S.tm rfl)) rfl ?_; clear S; intro a S
       refine lv S (rn_load Tryz.isAgg3 (S.tm rfl) (S.cell (i := 0) rfl rfl)) rfl ?_; clear S; intro a S
       refine lv S (rn_add (S.tm rfl) (S.tm rfl)) rfl ?_; clear S; intro a S
       refine lv S (rn_assign (S.tm rfl)) rfl ?_; clear S; intro a S
       refine l_done (then_n (f_seq (f_region (lv S (rn_move (S.tm rfl)) rfl ?_)))); clear S; intro a S
       refine lv S (rn_fld fa_52_1 (S.tm rfl)) rfl ?_; clear S; intro a S
       refine lv S (rn_load Tryz.isAgg3 (S.tm rfl) (S.cell (i := 0) rfl rfl)) rfl ?_; clear S; intro a S
       refine lv S (rn_lss (S.tm rfl) (S.tm rfl)) rfl ?_; clear S; intro a S
       refine l_done ?_
       replace S := S.nk [.blk b2 (GItem.enc y1) 52, .own v4 44 4 (x3 ++ [(GSlot.mk y1.Key x5 (GWindow.mk x4 (W (x4 + y1.Long))))]).length ((x3 ++ [(GSlot.mk y1.Key x5 (GWindow.mk x4 (W (x4 + y1.Long))))]).flatMap GSlot.enc)] [(5, v4), (6, iV (W (x4 + y1.Long))), (8, .pointer (some ⟨b2, 0, none⟩)), (9, iV x5), (11, v_p_l), (12, iV (p_l.length : Int)), (13, iV (i1 : Int)), (43, bV (decide (x5 < y1.Heats)))] [true, true] rfl (subR rfl)
       refine then_n ?_
       obtain ⟨j4, hj4, h⟩ := joinE h
       refine f_join (fun a w' => ∃ x8 : Int, j4 x8 = some r ∧ Sx w [] nov [.blk b2 (GItem.enc y1) 52, .own v4 44 4 (x3 ++ [(GSlot.mk y1.Key x5 (GWindow.mk x4 (W (x4 + y1.Long))))]).length ((x3 ++ [(GSlot.mk y1.Key x5 (GWindow.mk x4 (W (x4 + y1.Long))))]).flatMap GSlot.enc)] [(5, v4), (6, iV x8), (8, .pointer (some ⟨b2, 0, none⟩)), (9, iV x5), (11, v_p_l), (12, iV (p_l.length : Int)), (13, iV (i1 : Int))] 54 a w') ?_ ?_
       ·refine f_cond (S.tm rfl) (fun hb2 => ?_) (fun hb2 => ?_)
        ·replace h := iteT h hb2
         refine f_region (lv S (rn_move (S.tm rfl)) rfl ?_); clear S; intro a S
         refine lv S (rn_fld fa_52_3 (S.tm rfl)) rfl ?_; clear S; intro a S
         refine lv S (rn_load Tryz.isAgg3 (S.tm rfl) (S.cell (i := 0) rfl rfl)) rfl ?_; clear S; intro a S
         refine lv S (rn_add (S.tm rfl) (S.tm rfl)) rfl ?_; clear S; intro a S
         refine lv S (rn_assign (S.tm rfl)) rfl ?_; clear S; intro a S
         refine l_done (then_n ?_)
         exact ⟨W ((W (x4 + y1.Long)) + y1.Gap), h, S.nf [true, true] rfl (subR rfl)⟩
        ·replace h := iteF h hb2
         refine wp_skip (then_n ?_)
         exact ⟨W (x4 + y1.Long), h, S.nf [true, true] rfl (subR rfl)⟩
       clear S h; rintro a w10 ⟨x8, h, S⟩; rw [hj4] at h; clear hj4 j4
       refine blk_n (then_n ?_)
       exact ⟨(x3 ++ [(GSlot.mk y1.Key x5 (GWindow.mk x4 (W (x4 + y1.Long))))]), x8, v4, h, S.nf [true, true] rfl (subR rfl)⟩
      clear S h; rintro a w7 ⟨x6, x7, v3, h, S⟩; rw [hj3] at h; clear hj3 j3
      refine then_n (f_region (lv S (rn_move (S.tm rfl)) rfl ?_)); clear S; intro a S
      refine lv S (rn_add (S.tm rfl) rfl) rfl ?_; clear S; intro a S
      refine lv S (rn_assign (S.tm rfl)) rfl ?_; clear S; intro a S
      refine l_done (then_n ?_)
      exact ⟨m1, ⟨x6, x7, W (x5 + 1), v3, h, S.nf [true, true] rfl ⟨rfl, rfl, rfl, rfl, rfl, rfl, rfl, trivial⟩⟩, Nat.lt_succ_self _⟩
     ·replace h := iteF h hb1
      refine wp_exit (then_x (then_x (x_same (then_n ?_))))
      exact ⟨x3, x4, v2, h, S.nf [true, true] rfl (subR rfl)⟩
   clear S h; rintro a w6 ⟨x3, x4, v2, h, S⟩; rw [hj2] at h; clear hj2 j2
   refine then_n (f_region (lv S (rn_move (S.tm rfl)) rfl ?_)); clear S; intro a S
   refine lv S (rn_fld fa_52_4 (S.tm rfl)) rfl ?_; clear S; intro a S
   refine lv S (rn_load Tryz.isAgg3 (S.tm rfl) (S.cell (i := 0) rfl rfl)) rfl ?_; clear S; intro a S
   refine lv S (rn_add (S.tm rfl) (S.tm rfl)) rfl ?_; clear S; intro a S
   refine lv S (rn_assign (S.tm rfl)) rfl ?_; clear S; intro a S
   refine l_done (blk_n (then_n (f_region (lv S (rn_add (S.tm rfl) rfl) rfl ?_)))); clear S; intro a S
   refine lv S (rn_move (S.tm rfl)) rfl ?_; clear S; intro a S
   refine l_done (then_n ?_)
   exact ⟨ys1, ⟨i1 + 1, x3, W (x4 + y1.Break), v2, ⟨_, (hd1).trans (List.append_cons _ _ _), by simp [hi1]⟩, h, S.nf [false, true] rfl ⟨rfl, rfl, rfl, rfl, (congrArg (fun z => some (Value.int .i64 z)) (rng_next hd1 hi1 (slc_max hs_p_l))), trivial⟩⟩, Nat.lt_succ_self _⟩
 clear S h; rintro a w2 ⟨x1, v1, h, S⟩; rw [hj1] at h; clear hj1 j1
 refine then_n (f_seq (f_region (lv S (rn_move (S.tm rfl)) rfl ?_))); clear S; intro a S
 refine lv S (rn_assign (S.tm rfl)) rfl ?_; clear S; intro a S
 refine l_done (then_n (wp_ret ?_))
 obtain rfl := Option.some.inj h
 exact f_ret S Tryz.results38 rfl (own_retT S (i := 0) rfl rfl)
theorem session_end_ok (w : World) (v_p_l : Value) (p_l : List GSlot) (hs_p_l : Slc (view w []) 4 v_p_l (p_l.map GSlot.enc)) (p_from : Int) (r : Int) (h : session_end p_l p_from = some r) :
    Calls Tryz.prog 39 [v_p_l, iV p_from].toArray w (Ret w [] fun _ v _ => v = iV r) := by
 refine f_enter [] [] Tryz.func39 rfl Tryz.ntmps39 rfl (by simp) (by simp [fps]) (by simp [fps]) fun a S => ?_
 unfold session_end at h
 replace S := S.nk [] [(0, v_p_l), (1, iV p_from)] [] rfl (subR rfl)
 refine f_seq (f_region (lv S (rn_assign rfl) rfl ?_)); clear S; intro a S
 refine l_done (then_n (f_seq (f_seq (f_region (lv S (rn_move (S.tm rfl)) rfl ?_))))); clear S; intro a S
 refine lv S (rn_lenT sl_38 (S.tm rfl) (slc_len hs_p_l)) rfl ?_; clear S; intro a S
 refine lv S (rn_eql (S.tm rfl) rfl) rfl ?_; clear S; intro a S
 refine l_done (then_n (f_cond (S.tm rfl) (fun hb1 => ?_) (fun hb1 => ?_)))
 ·replace h := iteT h hb1
  refine f_seq (f_region (lv S (rn_move (S.tm rfl)) rfl ?_)); clear S; intro a S
  refine lv S (rn_assign (S.tm rfl)) rfl ?_; clear S; intro a S
  refine l_done (then_n (wp_ret (then_r ?_)))
  obtain rfl := Option.some.inj h
  exact f_ret S Tryz.results39 rfl rfl
 ·replace h := iteF h hb1
  refine wp_skip (then_n (f_seq (f_region (lv S (rn_move (S.tm rfl)) rfl ?_)))); clear S; intro a S
  refine lv S (rn_move (S.tm rfl)) rfl ?_; clear S; intro a S
  refine lv S (rn_lenT sl_38 (S.tm rfl) (slc_len hs_p_l)) rfl ?_; clear S; intro a S
  refine lv S (rn_sub (S.tm rfl) rfl) rfl ?_; clear S; intro a S
  obtain ⟨hc1, h⟩ := chkE h
  obtain ⟨b1, o1, hm1, hr1⟩ := rn_indexT (a := a) (x := .tmp 9) (y := .tmp 12) (ty := 0) sl_38 hs_p_l (inB_get hc1).1 (inB_get hc1).2 (S.tm rfl) (S.tm rfl)
  refine lv S (hr1 _) rfl ?_; clear S; intro a S
  clear hr1
  refine lv S (rn_fld fa_44_2 (S.tm rfl)) rfl ?_; clear S; intro a S
  refine lv S (rn_fld fa_42_1 (S.tm rfl)) rfl ?_; clear S; intro a S
  refine lv S (rn_ld Tryz.isAgg3 (off := o1) (o := 3) (S.tm rfl) (hm1.at S.emb0) rfl) rfl ?_; clear S; intro a S
  refine lv S (rn_assign (S.tm rfl)) rfl ?_; clear S; intro a S
  refine l_done (then_n (wp_ret ?_))
  obtain rfl := Option.some.inj h
  exact f_ret S Tryz.results39 rfl rfl
theorem session_begin_ok (w : World) (v_p_l : Value) (p_l : List GItem) (hs_p_l : Slc (view w []) 5 v_p_l (p_l.map GItem.enc)) (p_from : Int) (r : (List GSlot) × Int) (h : session_begin p_l p_from = some r) :
    Calls Tryz.prog 19 [v_p_l, iV p_from].toArray w (Ret w [] fun τ v _ => ∃ u1 : Value, v = .tuple #[u1, iV r.2] ∧ OwnV τ 44 4 u1 r.1.length (r.1.flatMap GSlot.enc)) := by
 refine f_enter [] [] Tryz.func19 rfl Tryz.ntmps19 rfl (by simp) (by simp [fps]) (by simp [fps]) fun a S => ?_
 unfold session_begin at h
 replace S := S.nk [] [(0, v_p_l), (1, iV p_from)] [] rfl (subR rfl)
 refine f_seq (f_region (lv S (rn_assign rfl) rfl ?_)); clear S; intro a S
 refine lv S (rn_assign rfl) rfl ?_; clear S; intro a S
 refine l_done (then_n (f_seq (f_seq (f_region (lv S (rn_move (S.tm rfl)) rfl ?_))))); clear S; intro a S
 refine l_enter S (fun _ => run_call (vs := [iV p_from]) ⟨(S.tm rfl), trivial⟩ Tryz.call37) (words_IsMoment_ok _ p_from _ rfl) rfl ?_; clear S; intro v1 a w1 hv1 hk1 hn1 S
 subst hv1
 refine lv S (rn_not (S.tm rfl)) rfl ?_; clear S; intro a S
 refine l_done (then_n (f_cond (S.tm rfl) (fun hb1 => ?_) (fun hb1 => ?_)))
 ·replace h := iteT h hb1
  refine f_seq (f_region (lv S (rn_assign rfl) rfl ?_)); clear S; intro a S
  refine lv S (rn_assign rfl) rfl ?_; clear S; intro a S
  refine l_done (then_n (wp_ret (then_r ?_)))
  obtain rfl := Option.some.inj h
  exact f_ret2 S Tryz.results19 rfl rfl ⟨_, rfl, (ownV_nil _ _ _)⟩
 ·replace h := iteF h hb1
  refine wp_skip (then_n (f_seq (f_region (lv S (rn_move (S.tm rfl)) rfl ?_)))); clear S; intro a S
  refine lv S (rn_move (S.tm rfl)) rfl ?_; clear S; intro a S
  obtain ⟨r1, hr1, h⟩ := bindE h
  have hz1 := S.keep.size
  refine l_enter S (fun _ => run_call (vs := [v_p_l, iV p_from]) ⟨(S.tm rfl), (S.tm rfl), trivial⟩ Tryz.call38) (session_timetable_ok _ v_p_l p_l (hs_p_l.mono (S.le_arg nil_sub)) p_from _ hr1) rfl ?_; clear S; intro v2 a w2 hv2 hk2 hn2 S
  obtain ⟨φ1, hl1, hm1, S⟩ := S.see' hn2 hz1
  have hs1 := hv2.mono hm1
  refine lv S (rn_assign (S.tm rfl)) rfl ?_; clear S; intro a S
  refine l_done (then_n (f_seq (f_seq (f_region (lv S (rn_move (S.tm rfl)) rfl ?_))))); clear S; intro a S
  refine lv S (rn_move (S.tm rfl)) rfl ?_; clear S; intro a S
  obtain ⟨r2, hr2, h⟩ := bindE h
  refine l_enter S (fun _ => run_call (vs := [v2, iV p_from]) ⟨(S.tm rfl), (S.tm rfl), trivial⟩ Tryz.call39) (session_end_ok _ v2 r1 ((ownV_slcT GSlot.enc_ok hs1).mono (S.le_new nil_sub)) p_from _ hr2) rfl ?_; clear S; intro v3 a w3 hv3 hk3 hn3 S
  subst hv3
  refine lv S (rn_gtr (S.tm rfl) rfl) rfl ?_; clear S; intro a S
  refine l_done ?_
  replace S := S.nk [] [(6, v2), (16, bV (decide (345686400000 < r2)))] [] rfl (subR rfl)
  refine then_n (f_cond (S.tm rfl) (fun hb2 => ?_) (fun hb2 => ?_))
  ·replace h := iteT h hb2
   refine f_seq (f_region (lv S (rn_assign rfl) rfl ?_)); clear S; intro a S
   refine lv S (rn_assign rfl) rfl ?_; clear S; intro a S
   refine l_done (then_n (wp_ret (then_r ?_)))
   obtain rfl := Option.some.inj h
   exact f_ret2 S Tryz.results19 rfl rfl ⟨_, rfl, (ownV_nil _ _ _)⟩
  ·replace h := iteF h hb2
   refine wp_skip (then_n (f_seq (f_region (lv S (rn_move (S.tm rfl)) rfl ?_)))); clear S; intro a S
   refine lv S (rn_assign (S.tm rfl)) rfl ?_; clear S; intro a S
   refine lv S (rn_assign rfl) rfl ?_; clear S; intro a S
   refine l_done (then_n (wp_ret ?_))
   obtain rfl := Option.some.inj h
   exact f_ret2 S Tryz.results19 rfl rfl ⟨_, rfl, ((hs1).mono S.le_newer)⟩
theorem session_slots_ok (w : World) (v_p_t : Value) (p_t : List GSlot) (hs_p_t : Slc (view w []) 4 v_p_t (p_t.map GSlot.enc)) (r : (List (Gsession_heat × GSlot))) (h : session_slots p_t = r) :
    Calls Tryz.prog 26 [v_p_t].toArray w (Ret w [] fun τ v _ => ∃ b : Nat, v = .map (some b) ∧ τ b = some (.map (ments (fun x => Value.agg (Gsession_heat.enc x).toArray) (fun x => Value.agg (GSlot.enc x).toArray) r) r.length)) := by
 refine f_enter [] [] Tryz.func26 rfl Tryz.ntmps26 rfl (by simp) (by simp [fps]) (by simp [fps]) fun a S => ?_
 unfold session_slots at h
 replace S := S.nk [] [(0, v_p_t)] [] rfl ⟨rfl, trivial⟩
 refine f_seq (f_region (lv S (rn_assign rfl) rfl ?_)); clear S; intro a S
 refine l_done (then_n (f_seq (f_region (l_makeMap (κ := Gsession_heat) (ν := GSlot) S rfl (fun x => Value.agg (Gsession_heat.enc x).toArray) (fun x => Value.agg (GSlot.enc x).toArray) ?_)))); clear S; intro a w1 b1 hz1 hk1 S
 refine lv S (rn_assign (S.tm rfl)) rfl ?_; clear S; intro a S
 refine l_done (then_n (f_seq (f_seq (f_region (lv S (rn_move (S.tm rfl)) rfl ?_))))); clear S; intro a S
 refine lv S (rn_lenT sl_38 (S.tm rfl) (slc_len hs_p_t)) rfl ?_; clear S; intro a S
 refine lv S (rn_move rfl) rfl ?_; clear S; intro a S
 refine l_done (then_n ?_)
 replace S := S.nk [.map b1 (ments (fun x => Value.agg (Gsession_heat.enc x).toArray) (fun x => Value.agg (GSlot.enc x).toArray) ([] : List (Gsession_heat × GSlot))) ([] : List (Gsession_heat × GSlot)).length] [(3, .map (some b1)), (7, v_p_t), (8, iV (p_t.length : Int)), (9, iV 0)] [true] rfl (subR rfl)
 obtain ⟨j1, hj1, h⟩ := joinE h
 refine f_join (fun a w' => ∃ x1 : List (Gsession_heat × GSlot), j1 x1 = r ∧ Sx w [] nov [.map b1 (ments (fun x => Value.agg (Gsession_heat.enc x).toArray) (fun x => Value.agg (GSlot.enc x).toArray) x1) x1.length] [(3, .map (some b1))] 22 a w') ?_ ?_
 ·refine wp_block (f_loop (fun (ys1 : List GSlot) a w' => ∃ i1 : Nat, ∃ x1 : List (Gsession_heat × GSlot), (∃ dn, p_t = dn ++ ys1 ∧ dn.length = i1) ∧ session_slots_l1 j1 ys1 i1 x1 = r ∧ Sx w [] nov [.map b1 (ments (fun x => Value.agg (Gsession_heat.enc x).toArray) (fun x => Value.agg (GSlot.enc x).toArray) x1) x1.length] [(3, .map (some b1)), (7, v_p_t), (8, iV (p_t.length : Int)), (9, iV (i1 : Int))] 22 a w') List.length p_t ⟨0, ([] : List (Gsession_heat × GSlot)), ⟨[], rfl, rfl⟩, h, S.nf [true] rfl (subR rfl)⟩ ?_)
  clear S h; rintro ys1 a w2 ⟨i1, x1, ⟨dn, hd1, hi1⟩, h, S⟩
  cases ys1 with
  | nil =>
   rw [session_slots_l1.eq_1] at h
   refine f_seq (f_region (lv S (rn_lss (S.tm rfl) (S.tm rfl)) rfl ?_)); clear S; intro a S
   refine l_done ?_
   replace S := S.nk [.map b1 (ments (fun x => Value.agg (Gsession_heat.enc x).toArray) (fun x => Value.agg (GSlot.enc x).toArray) x1) x1.length] [(3, .map (some b1)), (7, v_p_t), (8, iV (p_t.length : Int)), (9, iV (i1 : Int)), (10, bV (decide ((i1 : Int) < (p_t.length : Int))))] [true] rfl (subR rfl)
   refine then_n (f_seq (wp_cond_false ((S.tm rfl).trans (congrArg Value.bool (rng_nil hd1 hi1))) (wp_exit (then_x (then_x (x_same ?_))))))
   refine then_n ?_
   exact ⟨x1, h, S.nf [true] rfl ⟨rfl, trivial⟩⟩
  | cons y1 ys1 =>
   rw [session_slots_l1.eq_2] at h
   refine f_seq (f_region (lv S (rn_lss (S.tm rfl) (S.tm rfl)) rfl ?_)); clear S; intro a S
   refine l_done ?_
   replace S := S.nk [.map b1 (ments (fun x => Value.agg (Gsession_heat.enc x).toArray) (fun x => Value.agg (GSlot.enc x).toArray) x1) x1.length] [(3, .map (some b1)), (7, v_p_t), (8, iV (p_t.length : Int)), (9, iV (i1 : Int)), (10, bV (decide ((i1 : Int) < (p_t.length : Int))))] [true] rfl (subR rfl)
   refine then_n (f_seq (wp_cond_true ((S.tm rfl).trans (congrArg Value.bool (rng_cons hd1 hi1))) (wp_skip (then_n (f_seq (wp_block ?_))))))
   refine f_seq (f_region ?_)
   obtain ⟨b2, o1, hm1, hr1⟩ := rn_indexT (a := a) (x := .tmp 7) (y := .tmp 9) (ty := 0) sl_38 hs_p_t (get_mid hd1 hi1) rfl (S.tm rfl) (S.tm rfl)
   refine lv S (hr1 _) rfl ?_; clear S; intro a S
   clear hr1
   refine lv S (rn_ldA Tryz.isAgg44 Tryz.sizeOf44 (off := o1) (o := 0) (part := (GSlot.enc y1)) rfl rfl (S.tm rfl) (hm1.at S.emb0)) rfl ?_; clear S; intro a S
   refine l_alloc S Tryz.zeroValue44 (cs := [sV k_empty, iV 0, iV 0, iV 0]) rfl rfl ?_; clear S; intro a w4 b3 hz2 hk2 S
   refine l_store S (S.tm rfl) (S.tm rfl) (i := 0) (off := 0) rfl Tryz.sizeOf44 (vs := (GSlot.enc y1)) rfl rfl rfl rfl ?_; clear S; intro w5 hk3 S
   refine l_done (then_n (f_region (lv S (rn_move (S.tm rfl)) rfl ?_))); clear S; intro a S
   refine lv S (rn_fld fa_44_0 (S.tm rfl)) rfl ?_; clear S; intro a S
   refine lv S (rn_load Tryz.isAgg9 (S.tm rfl) (S.cell (i := 0) rfl rfl)) rfl ?_; clear S; intro a S
   refine lv S (rn_fld fa_44_1 (S.tm rfl)) rfl ?_; clear S; intro a S
   refine lv S (rn_load Tryz.isAgg3 (S.tm rfl) (S.cell (i := 0) rfl rfl)) rfl ?_; clear S; intro a S
   refine lv S (rn_bld bt_97 (pv := [(0, sV y1.Item), (1, iV y1.Heat)]) ⟨rfl, (S.tm rfl), rfl, (S.tm rfl), trivial⟩ (cs := [sV y1.Item, iV y1.Heat]) (by kernel_rfl)) rfl ?_; clear S; intro a S
   refine lv S (rn_ldA Tryz.isAgg44 Tryz.sizeOf44 (off := 0) (o := 0) (part := (GSlot.enc y1)) rfl rfl (S.tm rfl) (S.cellsAt (i := 0) rfl)) rfl ?_; clear S; intro a S
   refine l_mapUpdate (kv := (fun x => Value.agg (Gsession_heat.enc x).toArray)) (vv := (fun x => Value.agg (GSlot.enc x).toArray)) (m := x1) (key := (Gsession_heat.mk y1.Item y1.Heat)) (val := y1) S (i := 1) rfl Tryz.underlying68 keyT_97 (S.tm rfl) (S.tm rfl) (S.tm rfl) ?_; clear S; intro w6 hk4 S
   refine l_done ?_
   replace S := S.nk [.map b1 (ments (fun x => Value.agg (Gsession_heat.enc x).toArray) (fun x => Value.agg (GSlot.enc x).toArray) (mput x1 (Gsession_heat.mk y1.Item y1.Heat) y1)) (mput x1 (Gsession_heat.mk y1.Item y1.Heat) y1).length] [(3, .map (some b1)), (7, v_p_t), (8, iV (p_t.length : Int)), (9, iV (i1 : Int))] [false, true] rfl (subR rfl)
   refine blk_n (then_n (f_region (lv S (rn_add (S.tm rfl) rfl) rfl ?_))); clear S; intro a S
   refine lv S (rn_move (S.tm rfl)) rfl ?_; clear S; intro a S
   refine l_done (then_n ?_)
   exact ⟨ys1, ⟨i1 + 1, (mput x1 (Gsession_heat.mk y1.Item y1.Heat) y1), ⟨_, (hd1).trans (List.append_cons _ _ _), by simp [hi1]⟩, h, S.nf [true] rfl ⟨rfl, rfl, rfl, (congrArg (fun z => some (Value.int .i64 z)) (rng_next hd1 hi1 (slc_max hs_p_t))), trivial⟩⟩, Nat.lt_succ_self _⟩
 clear S h; rintro a w3 ⟨x1, h, S⟩; rw [hj1] at h; clear hj1 j1
 refine then_n (f_seq (f_region (lv S (rn_move (S.tm rfl)) rfl ?_))); clear S; intro a S
 refine lv S (rn_assign (S.tm rfl)) rfl ?_; clear S; intro a S
 refine l_done (then_n (wp_ret ?_))
 subst h
 exact f_ret S Tryz.results26 rfl ⟨_, rfl, S.map_ret (i := 0) rfl rfl⟩
theorem session_calls_c1_ok (w : World) (p_a : GSlot) (p_b : GSlot) (r : Int) (h : session_calls_c1 p_a p_b = r) :
    Calls Tryz.prog 43 [.agg (GSlot.enc p_a).toArray, .agg (GSlot.enc p_b).toArray].toArray w (Ret w [] fun _ v _ => v = iV r) := by
 refine f_enter [] [] Tryz.func43 rfl Tryz.ntmps43 rfl (by simp) (by simp [fps]) (by simp [fps]) fun a S => ?_
 unfold session_calls_c1 at h
 replace S := S.nk [] [(0, .agg (GSlot.enc p_a).toArray), (1, .agg (GSlot.enc p_b).toArray)] [] rfl (subR rfl)
 refine f_seq (f_region (l_box S (S.tm rfl) (cs := (GSlot.enc p_a)) rfl rfl ?_)); clear S; intro a w1 b1 hz1 hk1 S
 refine l_box S (S.tm rfl) (cs := (GSlot.enc p_b)) rfl rfl ?_; clear S; intro a w2 b2 hz2 hk2 S
 refine lv S (rn_assign rfl) rfl ?_; clear S; intro a S
 refine l_done (then_n (f_seq (f_region (lv S (rn_fld fa_44_2 (S.tm rfl)) rfl ?_)))); clear S; intro a S
 refine lv S (rn_fld fa_42_0 (S.tm rfl)) rfl ?_; clear S; intro a S
 refine lv S (rn_load Tryz.isAgg3 (S.tm rfl) (S.cell (i := 1) rfl rfl)) rfl ?_; clear S; intro a S
 refine lv S (rn_fld fa_44_2 (S.tm rfl)) rfl ?_; clear S; intro a S
 refine lv S (rn_fld fa_42_0 (S.tm rfl)) rfl ?_; clear S; intro a S
 refine lv S (rn_load Tryz.isAgg3 (S.tm rfl) (S.cell (i := 0) rfl rfl)) rfl ?_; clear S; intro a S
 refine l_enter S (fun _ => run_call (vs := [iV p_a.Time.From, iV p_b.Time.From]) ⟨(S.tm rfl), (S.tm rfl), trivial⟩ Tryz.call44) (cmp_Compare_int_ok _ p_a.Time.From p_b.Time.From _ rfl) rfl ?_; clear S; intro v1 a w3 hv1 hk3 hn1 S
 subst hv1
 refine lv S (rn_assign (S.tm rfl)) rfl ?_; clear S; intro a S
 refine l_done (then_n (wp_ret ?_))
 subst h
 exact f_ret S Tryz.results43 rfl rfl
set_option maxRecDepth 20000 in
theorem slices_insertionSortCmpFunc_Slot_session_calls_c1_ok (w : World) (v_p_data : Value) (p_data : List GSlot) (hb_p_data : (LEnt.own v_p_data 44 4 p_data.length (p_data.flatMap GSlot.enc)).holds w) (p_a : Int) (p_b : Int) (r : (List GSlot)) (h : slices_insertionSortCmpFunc_Slot_session_calls_c1 p_data p_a p_b = some r) :
    Calls Tryz.prog 94 [v_p_data, iV p_a, iV p_b, .func (.func 43) #[] #[]].toArray w (Ret w (v_p_data.ownBlock.toList) fun _ v w' => (LEnt.own v_p_data 44 4 r.length (r.flatMap GSlot.enc)).holds w' ∧ v = .tuple #[]) := by
 refine f_enter (v_p_data.ownBlock.toList) [.own v_p_data 44 4 p_data.length (p_data.flatMap GSlot.enc)] Tryz.func94 rfl Tryz.ntmps94 rfl (fun e he => by simp only [List.mem_singleton] at he; subst he; exact hb_p_data) (fps_one_nodup _) (fps_one_sub _) fun a S => ?_
 unfold slices_insertionSortCmpFunc_Slot_session_calls_c1 at h
 replace S := S.nk [.own v_p_data 44 4 p_data.length (p_data.flatMap GSlot.enc)] [(0, v_p_data), (1, iV p_a), (2, iV p_b), (3, .func (.func 43) #[] #[])] [true] rfl (subR rfl)
 refine f_seq (f_region (lv S (rn_move (S.tm rfl)) rfl ?_)); clear S; intro a S
 refine lv S (rn_add (S.tm rfl) rfl) rfl ?_; clear S; intro a S
 refine lv S (rn_assign (S.tm rfl)) rfl ?_; clear S; intro a S
 refine l_done (then_n ?_)
 replace S := S.nk [.own v_p_data 44 4 p_data.length (p_data.flatMap GSlot.enc)] [(0, v_p_data), (1, iV p_a), (2, iV p_b), (3, .func (.func 43) #[] #[]), (8, iV (W (p_a + 1)))] [true] rfl (subR rfl)
 obtain ⟨j1, hj1, h⟩ := joinE h
 refine f_join (fun a w' => ∃ x1 : List GSlot, j1 x1 = some r ∧ Sx w (v_p_data.ownBlock.toList) nov [.own v_p_data 44 4 x1.length (x1.flatMap GSlot.enc)] [] 53 a w') ?_ ?_
 ·refine wp_block (f_loop (fun (m1 : Nat) a w' => ∃ x1 : List GSlot, ∃ x2 : Int, slices_insertionSortCmpFunc_Slot_session_calls_c1_l1 p_b p_a j1 m1 x1 x2 = some r ∧ Sx w (v_p_data.ownBlock.toList) nov [.own v_p_data 44 4 x1.length (x1.flatMap GSlot.enc)] [(0, v_p_data), (1, iV p_a), (2, iV p_b), (3, .func (.func 43) #[] #[]), (8, iV x2)] 53 a w') id ((p_b - (W (p_a + 1))).toNat + 2) ⟨p_data, W (p_a + 1), h, S.nf [true] rfl (subR rfl)⟩ ?_)
  clear S h; rintro m1 a w1 ⟨x1, x2, h, S⟩
  cases m1 with
  | zero => rw [slices_insertionSortCmpFunc_Slot_session_calls_c1_l1.eq_1] at h; cases h
  | succ m1 =>
   rw [slices_insertionSortCmpFunc_Slot_session_calls_c1_l1.eq_2] at h
   refine f_seq (f_seq (f_region (lv S (rn_move (S.tm rfl)) rfl ?_))); clear S; intro a S
   refine lv S (rn_move (S.tm rfl)) rfl ?_; clear S; intro a S
   refine lv S (rn_lss (S.tm rfl) (S.tm rfl)) rfl ?_; clear S; intro a S
   refine l_done (then_n (f_cond (S.tm rfl) (fun hb1 => ?_) (fun hb1 => ?_)))
   ·replace h := iteT h hb1
    refine wp_skip (then_n (f_seq (wp_block (f_seq (f_region (lv S (rn_move (S.tm rfl)) rfl ?_)))))); clear S; intro a S
    refine lv S (rn_assign (S.tm rfl)) rfl ?_; clear S; intro a S
    refine l_done (then_n ?_)
    replace S := S.nk [.own v_p_data 44 4 x1.length (x1.flatMap GSlot.enc)] [(0, v_p_data), (1, iV p_a), (2, iV p_b), (3, .func (.func 43) #[] #[]), (8, iV x2), (9, iV x2)] [true] rfl (subR rfl)
    obtain ⟨j2, hj2, h⟩ := joinE h
    refine f_join (fun a w' => ∃ x3 : List GSlot, j2 x3 = some r ∧ Sx w (v_p_data.ownBlock.toList) nov [.own v_p_data 44 4 x3.length (x3.flatMap GSlot.enc)] [(0, v_p_data), (1, iV p_a), (2, iV p_b), (3, .func (.func 43) #[] #[]), (8, iV x2)] 53 a w') ?_ ?_
    ·refine wp_block (f_loop (fun (m2 : Nat) a w' => ∃ x3 : List GSlot, ∃ x4 : Int, slices_insertionSortCmpFunc_Slot_session_calls_c1_l2 p_a j2 m2 x3 x4 = some r ∧ Sx w (v_p_data.ownBlock.toList) nov [.own v_p_data 44 4 x3.length (x3.flatMap GSlot.enc)] [(0, v_p_data), (1, iV p_a), (2, iV p_b), (3, .func (.func 43) #[] #[]), (8, iV x2), (9, iV x4)] 53 a w') id ((x2 - p_a).toNat + 2) ⟨x1, x2, h, S.nf [true] rfl (subR rfl)⟩ ?_)
     clear S h; rintro m2 a w3 ⟨x3, x4, h, S⟩
     cases m2 with
     | zero => rw [slices_insertionSortCmpFunc_Slot_session_calls_c1_l2.eq_1] at h; cases h
     | succ m2 =>
      rw [slices_insertionSortCmpFunc_Slot_session_calls_c1_l2.eq_2] at h
      refine f_seq (f_seq ?_)
      obtain ⟨j3, hj3, h⟩ := joinE h
      refine f_join (fun a w' => ∃ x5 : Bool, j3 x5 = some r ∧ Sx w (v_p_data.ownBlock.toList) nov [.own v_p_data 44 4 x3.length (x3.flatMap GSlot.enc)] [(0, v_p_data), (1, iV p_a), (2, iV p_b), (3, .func (.func 43) #[] #[]), (8, iV x2), (9, iV x4), (34, bV x5)] 53 a w') ?_ ?_
      ·rcases Bool.eq_false_or_eq_true (decide (p_a < x4)) with hb2 | hb2
       ·replace h := iteT h hb2
        obtain ⟨hc1, h⟩ := chkE h
        obtain ⟨hc2, h⟩ := chkE h
        refine d_region [] ([]) Tryz.mixed S rfl (by kernel_rfl) ?_; clear S; intro w7 hk2 hsel S
        refine d_quiet 0 S hsel rfl rfl rfl (by kernel_rfl) (by kernel_rfl) rfl (fun _ hw => (rn_move (S.tm rfl))) ?_; clear S; intro a S
        refine d_quiet 1 S hsel rfl rfl rfl (by kernel_rfl) (by kernel_rfl) rfl (fun _ hw => (rn_move (S.tm rfl))) ?_; clear S; intro a S
        refine d_quiet 2 S hsel rfl rfl rfl (by kernel_rfl) (by kernel_rfl) rfl (fun _ hw => (rn_gtr (S.tm rfl) (S.tm rfl))) ?_; clear S; intro a S
        refine d_quiet 3 S hsel rfl rfl rfl (by kernel_rfl) (by kernel_rfl) rfl (fun _ hw => (rn_move (S.tm rfl))) ?_; clear S; intro a S
        refine d_quiet_g 4 S hsel rfl rfl rfl rfl hb2 rfl rfl (by kernel_rfl) (by kernel_rfl) rfl (fun _ hw => (rn_move (S.tm rfl))) ?_; clear S; intro a S
        refine d_quiet_g 5 S hsel rfl rfl rfl rfl hb2 rfl rfl (by kernel_rfl) (by kernel_rfl) rfl (fun _ hw => (rn_move (S.tm rfl))) ?_; clear S; intro a S
        refine d_quiet_g 6 S hsel rfl rfl rfl rfl hb2 rfl rfl (by kernel_rfl) (by kernel_rfl) rfl (fun _ hw => (rn_move (S.tm rfl))) ?_; clear S; intro a S
        obtain ⟨b3, hg3, hr3⟩ := rn_indexS (a := a) (x := .tmp 23) (y := .tmp 24) (ty := 0) sl_38 GSlot.enc_ok S (i := 0) rfl (inB_get hc1).1 (inB_get hc1).2 (S.tm rfl) (S.tm rfl)
        refine d_quiet_g 7 S hsel rfl rfl rfl rfl hb2 rfl rfl (by kernel_rfl) (by kernel_rfl) rfl (fun _ hw => (hr3 _)) ?_; clear S; intro a S
        clear hr3
        refine d_quiet_g 8 S hsel rfl rfl rfl rfl hb2 rfl rfl (by kernel_rfl) (by kernel_rfl) rfl (fun _ hw => (rn_ldA Tryz.isAgg44 Tryz.sizeOf44 (off := x4.toNat * 4) (o := 0) (part := (GSlot.enc (GSlot.mk ((nth x3 x4).Item) ((nth x3 x4).Heat) ((nth x3 x4).Time)))) rfl rfl (S.tm rfl) ((own_mem GSlot.enc_ok S (i := 0) rfl hg3 (inB_get hc1).1 (ne_nil (e' := .own v_p_data 44 4 x3.length (x3.flatMap GSlot.enc)))).kept hw))) ?_; clear S; intro a S
        refine d_quiet_g 9 S hsel rfl rfl rfl rfl hb2 rfl rfl (by kernel_rfl) (by kernel_rfl) rfl (fun _ hw => (rn_move (S.tm rfl))) ?_; clear S; intro a S
        refine d_quiet_g 10 S hsel rfl rfl rfl rfl hb2 rfl rfl (by kernel_rfl) (by kernel_rfl) rfl (fun _ hw => (rn_move (S.tm rfl))) ?_; clear S; intro a S
        refine d_quiet_g 11 S hsel rfl rfl rfl rfl hb2 rfl rfl (by kernel_rfl) (by kernel_rfl) rfl (fun _ hw => (rn_sub (S.tm rfl) rfl)) ?_; clear S; intro a S
        obtain ⟨b4, hg4, hr4⟩ := rn_indexS (a := a) (x := .tmp 27) (y := .tmp 29) (ty := 0) sl_38 GSlot.enc_ok S (i := 0) rfl (inB_get hc2).1 (inB_get hc2).2 (S.tm rfl) (S.tm rfl)
        refine d_quiet_g 12 S hsel rfl rfl rfl rfl hb2 rfl rfl (by kernel_rfl) (by kernel_rfl) rfl (fun _ hw => (hr4 _)) ?_; clear S; intro a S
        clear hr4
        refine d_quiet_g 13 S hsel rfl rfl rfl rfl hb2 rfl rfl (by kernel_rfl) (by kernel_rfl) rfl (fun _ hw => (rn_ldA Tryz.isAgg44 Tryz.sizeOf44 (off := ((W (x4 - 1)).toNat) * 4) (o := 0) (part := (GSlot.enc (GSlot.mk ((nth x3 (W (x4 - 1))).Item) ((nth x3 (W (x4 - 1))).Heat) ((nth x3 (W (x4 - 1))).Time)))) rfl rfl (S.tm rfl) ((own_mem GSlot.enc_ok S (i := 0) rfl hg4 (inB_get hc2).1 (ne_nil (e' := .own v_p_data 44 4 x3.length (x3.flatMap GSlot.enc)))).kept hw))) ?_; clear S; intro a S
        refine d_loud1 14 (by kernel_rfl) rfl (l_want S rfl rfl rfl hb2 (l_enter S (fun _ => run_callV (cap := []) (S.tm rfl) (vs := [.agg (GSlot.enc (GSlot.mk ((nth x3 x4).Item) ((nth x3 x4).Heat) ((nth x3 x4).Time))).toArray, .agg (GSlot.enc (GSlot.mk ((nth x3 (W (x4 - 1))).Item) ((nth x3 (W (x4 - 1))).Heat) ((nth x3 (W (x4 - 1))).Time))).toArray]) ⟨(S.tm rfl), (S.tm rfl), trivial⟩ Tryz.call43) (session_calls_c1_ok _ (GSlot.mk ((nth x3 x4).Item) ((nth x3 x4).Heat) ((nth x3 x4).Time)) (GSlot.mk ((nth x3 (W (x4 - 1))).Item) ((nth x3 (W (x4 - 1))).Heat) ((nth x3 (W (x4 - 1))).Time)) _ rfl) rfl ?_)); clear S; intro v2 a w8 hv2 hk3 hn2 S
        subst hv2
        refine l_done (d_next hk3 (d_rest [15, 16] hsel (by kernel_rfl) rfl ?_))
        clear hsel
        refine s_want S rfl rfl rfl rfl hb2 (s_lv0 S (rn_lss (S.tm rfl) rfl) rfl ?_); clear S; intro a S
        refine s_lv S rfl (rn_pick_b hb2 (S.tm rfl) (S.tm rfl)) rfl ?_; clear S; intro a S
        refine s_done ?_
        replace S := S.nk [.own v_p_data 44 4 x3.length (x3.flatMap GSlot.enc)] [(0, v_p_data), (1, iV p_a), (2, iV p_b), (3, .func (.func 43) #[] #[]), (8, iV x2), (9, iV x4), (22, .func (.func 43) #[] #[]), (23, v_p_data), (24, iV x4), (25, .pointer (some ⟨b3, x4.toNat * 4, none⟩)), (26, .agg (GSlot.enc (GSlot.mk ((nth x3 x4).Item) ((nth x3 x4).Heat) ((nth x3 x4).Time))).toArray), (27, v_p_data), (28, iV x4), (29, iV (W (x4 - 1))), (30, .pointer (some ⟨b4, ((W (x4 - 1)).toNat) * 4, none⟩)), (31, .agg (GSlot.enc (GSlot.mk ((nth x3 (W (x4 - 1))).Item) ((nth x3 (W (x4 - 1))).Heat) ((nth x3 (W (x4 - 1))).Time))).toArray), (32, iV (session_calls_c1 (GSlot.mk ((nth x3 x4).Item) ((nth x3 x4).Heat) ((nth x3 x4).Time)) (GSlot.mk ((nth x3 (W (x4 - 1))).Item) ((nth x3 (W (x4 - 1))).Heat) ((nth x3 (W (x4 - 1))).Time)))), (33, bV (decide ((session_calls_c1 (GSlot.mk ((nth x3 x4).Item) ((nth x3 x4).Heat) ((nth x3 x4).Time)) (GSlot.mk ((nth x3 (W (x4 - 1))).Item) ((nth x3 (W (x4 - 1))).Heat) ((nth x3 (W (x4 - 1))).Time))) < 0))), (34, bV (decide ((session_calls_c1 (GSlot.mk ((nth x3 x4).Item) ((nth x3 x4).Heat) ((nth x3 x4).Time)) (GSlot.mk ((nth x3 (W (x4 - 1))).Item) ((nth x3 (W (x4 - 1))).Heat) ((nth x3 (W (x4 - 1))).Time))) < 0)))] [true] rfl (subR rfl)
        refine then_n ?_
        exact ⟨decide ((session_calls_c1 (GSlot.mk ((nth x3 x4).Item) ((nth x3 x4).Heat) ((nth x3 x4).Time)) (GSlot.mk ((nth x3 (W (x4 - 1))).Item) ((nth x3 (W (x4 - 1))).Heat) ((nth x3 (W (x4 - 1))).Time))) < 0), h, S.nf [true] rfl (subR rfl)⟩
       ·replace h := iteF h hb2
        refine d_region [] ([]) Tryz.mixed S rfl (by kernel_rfl) ?_; clear S; intro w9 hk4 hsel S
        refine d_rest [0, 1, 2, 3, 4, 5, 6, 7, 8, 9, 10, 11, 12, 13, 14, 15, 16] hsel (by kernel_rfl) rfl ?_
        clear hsel
        refine s_lv S rfl (rn_move (S.tm rfl)) rfl ?_; clear S; intro a S
        refine s_lv S rfl (rn_move (S.tm rfl)) rfl ?_; clear S; intro a S
        refine s_lv S rfl (rn_gtr (S.tm rfl) (S.tm rfl)) rfl ?_; clear S; intro a S
        refine s_lv S rfl (rn_move (S.tm rfl)) rfl ?_; clear S; intro a S
        iterate 12 (refine s_skip S rfl rfl rfl rfl (neq_f hb2) rfl ?_ rfl; clear S; intro a S)
        refine s_lv S rfl (rn_pick_c hb2 (S.tm rfl) rfl) rfl ?_; clear S; intro a S
        refine s_done ?_
        replace S := S.nk [.own v_p_data 44 4 x3.length (x3.flatMap GSlot.enc)] [(0, v_p_data), (1, iV p_a), (2, iV p_b), (3, .func (.func 43) #[] #[]), (8, iV x2), (9, iV x4), (34, bV false)] [true] rfl (subR rfl)
        refine then_n ?_
        exact ⟨false, h, S.nf [true] rfl (subR rfl)⟩
      clear S h; rintro a w5 ⟨x5, h, S⟩; rw [hj3] at h; clear hj3 j3
      refine then_n (f_cond (S.tm rfl) (fun hb3 => ?_) (fun hb3 => ?_))
      ·replace h := iteT h hb3
       refine wp_skip (then_n (f_seq (wp_block ?_)))
       obtain ⟨hc3, h⟩ := chkE h
       obtain ⟨hc4, h⟩ := chkE h
       obtain ⟨hc5, h⟩ := chkE h
       obtain ⟨hc6, h⟩ := chkE h
       refine d_region [15, 17] ([]) Tryz.mixed S rfl (by kernel_rfl) ?_; clear S; intro w14 hk9 hsel S
       refine d_pure 0 S hsel rfl rfl (by kernel_rfl) (by kernel_rfl) rfl (fun _ => (rn_move (S.tm rfl))) ?_; clear S; intro a S
       refine d_pure 1 S hsel rfl rfl (by kernel_rfl) (by kernel_rfl) rfl (fun _ => (rn_move (S.tm rfl))) ?_; clear S; intro a S
       refine d_pure 2 S hsel rfl rfl (by kernel_rfl) (by kernel_rfl) rfl (fun _ => (rn_move (S.tm rfl))) ?_; clear S; intro a S
       refine d_pure 3 S hsel rfl rfl (by kernel_rfl) (by kernel_rfl) rfl (fun _ => (rn_move (S.tm rfl))) ?_; clear S; intro a S
       refine d_pure 4 S hsel rfl rfl (by kernel_rfl) (by kernel_rfl) rfl (fun _ => (rn_sub (S.tm rfl) rfl)) ?_; clear S; intro a S
       refine d_pure 5 S hsel rfl rfl (by kernel_rfl) (by kernel_rfl) rfl (fun _ => (rn_move (S.tm rfl))) ?_; clear S; intro a S
       refine d_pure 6 S hsel rfl rfl (by kernel_rfl) (by kernel_rfl) rfl (fun _ => (rn_move (S.tm rfl))) ?_; clear S; intro a S
       refine d_pure 7 S hsel rfl rfl (by kernel_rfl) (by kernel_rfl) rfl (fun _ => (rn_sub (S.tm rfl) rfl)) ?_; clear S; intro a S
       obtain ⟨b9, hg9, hr9⟩ := rn_indexS (a := a) (x := .tmp 42) (y := .tmp 44) (ty := 0) sl_38 GSlot.enc_ok S (i := 0) rfl (inB_get hc3).1 (inB_get hc3).2 (S.tm rfl) (S.tm rfl)
       refine d_pure 8 S hsel rfl rfl (by kernel_rfl) (by kernel_rfl) rfl (fun _ => (hr9 _)) ?_; clear S; intro a S
       clear hr9
       refine d_quiet 9 S hsel rfl (by kernel_rfl) (by kernel_rfl) (by kernel_rfl) (by kernel_rfl) rfl (fun _ hw => (rn_ldA Tryz.isAgg44 Tryz.sizeOf44 (off := ((W (x4 - 1)).toNat) * 4) (o := 0) (part := (GSlot.enc (GSlot.mk ((nth x3 (W (x4 - 1))).Item) ((nth x3 (W (x4 - 1))).Heat) ((nth x3 (W (x4 - 1))).Time)))) rfl rfl (S.tm rfl) ((own_mem GSlot.enc_ok S (i := 0) rfl hg9 (inB_get hc3).1 (ne_nil (e' := .own v_p_data 44 4 x3.length (x3.flatMap GSlot.enc)))).kept hw))) ?_; clear S; intro a S
       refine d_pure 10 S hsel rfl rfl (by kernel_rfl) (by kernel_rfl) rfl (fun _ => (rn_move (S.tm rfl))) ?_; clear S; intro a S
       refine d_pure 11 S hsel rfl rfl (by kernel_rfl) (by kernel_rfl) rfl (fun _ => (rn_move (S.tm rfl))) ?_; clear S; intro a S
       obtain ⟨b10, hg10, hr10⟩ := rn_indexS (a := a) (x := .tmp 47) (y := .tmp 48) (ty := 0) sl_38 GSlot.enc_ok S (i := 0) rfl (inB_get hc4).1 (inB_get hc4).2 (S.tm rfl) (S.tm rfl)
       refine d_pure 12 S hsel rfl rfl (by kernel_rfl) (by kernel_rfl) rfl (fun _ => (hr10 _)) ?_; clear S; intro a S
       clear hr10
       refine d_quiet 13 S hsel rfl (by kernel_rfl) (by kernel_rfl) (by kernel_rfl) (by kernel_rfl) rfl (fun _ hw => (rn_ldA Tryz.isAgg44 Tryz.sizeOf44 (off := x4.toNat * 4) (o := 0) (part := (GSlot.enc (GSlot.mk ((nth x3 x4).Item) ((nth x3 x4).Heat) ((nth x3 x4).Time)))) rfl rfl (S.tm rfl) ((own_mem GSlot.enc_ok S (i := 0) rfl hg10 (inB_get hc4).1 (ne_nil (e' := .own v_p_data 44 4 x3.length (x3.flatMap GSlot.enc)))).kept hw))) ?_; clear S; intro a S
       obtain ⟨b11, hg11, hr11⟩ := rn_indexS (a := a) (x := .tmp 37) (y := .tmp 38) (ty := 0) sl_38 GSlot.enc_ok S (i := 0) rfl (inB_get hc5).1 (inB_get hc5).2 (S.tm rfl) (S.tm rfl)
       refine d_pure 14 S hsel rfl rfl (by kernel_rfl) (by kernel_rfl) rfl (fun _ => (hr11 _)) ?_; clear S; intro a S
       clear hr11
       refine d_loudB 15 (v_p_data.ownBlock.toList) rfl (by kernel_rfl) rfl (l_storeO (c := 0) (j := x4.toNat) (GSlot.mk ((nth x3 (W (x4 - 1))).Item) ((nth x3 (W (x4 - 1))).Heat) ((nth x3 (W (x4 - 1))).Time)) GSlot.enc_ok S (S.tm rfl) (S.tm rfl) (i := 0) rfl hg11 (inB_get hc5).1 Tryz.sizeOf44 (vs := [sV ((nth x3 (W (x4 - 1))).Item), iV ((nth x3 (W (x4 - 1))).Heat), iV (((nth x3 (W (x4 - 1))).Time).From), iV (((nth x3 (W (x4 - 1))).Time).To)]) rfl rfl rfl rfl rfl ?_); clear S; intro w16 hk11 S
       refine l_done (d_nextB ?_)
       obtain ⟨b12, hg12, hr12⟩ := rn_indexS (a := a) (x := .tmp 39) (y := .tmp 41) (ty := 0) sl_38 GSlot.enc_ok S (i := 0) rfl (inB_get hc6).1 (inB_get hc6).2 (S.tm rfl) (S.tm rfl)
       refine d_quiet 16 S hsel rfl rfl rfl (by kernel_rfl) (by kernel_rfl) rfl (fun _ hw => (hr12 _)) ?_; clear S; intro a S
       clear hr12
       refine d_loud1 17 (by kernel_rfl) rfl (l_storeO (c := 0) (j := (W (x4 - 1)).toNat) (GSlot.mk ((nth x3 x4).Item) ((nth x3 x4).Heat) ((nth x3 x4).Time)) GSlot.enc_ok S (S.tm rfl) (S.tm rfl) (i := 0) rfl hg12 (inB_get hc6).1 Tryz.sizeOf44 (vs := [sV ((nth x3 x4).Item), iV ((nth x3 x4).Heat), iV (((nth x3 x4).Time).From), iV (((nth x3 x4).Time).To)]) rfl rfl rfl rfl rfl ?_); clear S; intro w18 hk13 S
       refine l_done (d_next hk13 (d_end (by kernel_rfl) ?_))
       clear hsel
       replace S := S.nk [.own v_p_data 44 4 ((x3.set x4.toNat (GSlot.mk ((nth x3 (W (x4 - 1))).Item) ((nth x3 (W (x4 - 1))).Heat) ((nth x3 (W (x4 - 1))).Time))).set ((W (x4 - 1)).toNat) (GSlot.mk ((nth x3 x4).Item) ((nth x3 x4).Heat) ((nth x3 x4).Time))).length (((x3.set x4.toNat (GSlot.mk ((nth x3 (W (x4 - 1))).Item) ((nth x3 (W (x4 - 1))).Heat) ((nth x3 (W (x4 - 1))).Time))).set ((W (x4 - 1)).toNat) (GSlot.mk ((nth x3 x4).Item) ((nth x3 x4).Heat) ((nth x3 x4).Time))).flatMap GSlot.enc)] [(0, v_p_data), (1, iV p_a), (2, iV p_b), (3, .func (.func 43) #[] #[]), (8, iV x2), (9, iV x4)] [true] rfl (subR rfl)
       refine blk_n (then_n (f_region (lv S (rn_move (S.tm rfl)) rfl ?_))); clear S; intro a S
       refine lv S (rn_sub (S.tm rfl) rfl) rfl ?_; clear S; intro a S
       refine lv S (rn_assign (S.tm rfl)) rfl ?_; clear S; intro a S
       refine l_done (then_n ?_)
       exact ⟨m2, ⟨((x3.set x4.toNat (GSlot.mk ((nth x3 (W (x4 - 1))).Item) ((nth x3 (W (x4 - 1))).Heat) ((nth x3 (W (x4 - 1))).Time))).set ((W (x4 - 1)).toNat) (GSlot.mk ((nth x3 x4).Item) ((nth x3 x4).Heat) ((nth x3 x4).Time))), W (x4 - 1), h, S.nf [true] rfl ⟨rfl, rfl, rfl, rfl, rfl, rfl, trivial⟩⟩, Nat.lt_succ_self _⟩
      ·replace h := iteF h hb3
       refine wp_exit (then_x (then_x (x_same (then_n ?_))))
       exact ⟨x3, h, S.nf [true] rfl (subR rfl)⟩
    clear S h; rintro a w4 ⟨x3, h, S⟩; rw [hj2] at h; clear hj2 j2
    refine blk_n (then_n (f_region (lv S (rn_move (S.tm rfl)) rfl ?_))); clear S; intro a S
    refine lv S (rn_add (S.tm rfl) rfl) rfl ?_; clear S; intro a S
    refine lv S (rn_assign (S.tm rfl)) rfl ?_; clear S; intro a S
    refine l_done (then_n ?_)
    exact ⟨m1, ⟨x3, W (x2 + 1), h, S.nf [true] rfl ⟨rfl, rfl, rfl, rfl, rfl, trivial⟩⟩, Nat.lt_succ_self _⟩
   ·replace h := iteF h hb1
    refine wp_exit (then_x (then_x (x_same (then_n ?_))))
    exact ⟨x1, h, S.nf [true] rfl trivial⟩
 clear S h; rintro a w2 ⟨x1, h, S⟩; rw [hj1] at h; clear hj1 j1
 obtain rfl := Option.some.inj h
 exact f_ret0 S Tryz.results94 ⟨(S.holds _ (List.mem_of_getElem? (i := 0) rfl)), rfl⟩
theorem slices_pdqsortCmpFunc_Slot_session_calls_c1_ok (w : World) (v_p_data : Value) (p_data : List GSlot) (hb_p_data : (LEnt.own v_p_data 44 4 p_data.length (p_data.flatMap GSlot.enc)).holds w) (p_a : Int) (p_b : Int) (p_limit : Int) (r : (List GSlot)) (h : slices_pdqsortCmpFunc_Slot_session_calls_c1 p_data p_a p_b p_limit = some r) :
    Calls Tryz.prog 77 [v_p_data, iV p_a, iV p_b, iV p_limit, .func (.func 43) #[] #[]].toArray w (Ret w (v_p_data.ownBlock.toList) fun _ v w' => (LEnt.own v_p_data 44 4 r.length (r.flatMap GSlot.enc)).holds w' ∧ v = .tuple #[]) := by
 refine f_enter (v_p_data.ownBlock.toList) [.own v_p_data 44 4 p_data.length (p_data.flatMap GSlot.enc)] Tryz.func77 rfl Tryz.ntmps77 rfl (fun e he => by simp only [List.mem_singleton] at he; subst he; exact hb_p_data) (fps_one_nodup _) (fps_one_sub _) fun a S => ?_
 unfold slices_pdqsortCmpFunc_Slot_session_calls_c1 at h
 replace S := S.nk [.own v_p_data 44 4 p_data.length (p_data.flatMap GSlot.enc)] [(0, v_p_data), (1, iV p_a), (2, iV p_b), (3, iV p_limit), (4, .func (.func 43) #[] #[])] [true] rfl (subR rfl)
 refine f_seq (f_region (lv S (rn_assign rfl) rfl ?_)); clear S; intro a S
 refine l_done (then_n (f_seq (f_region (lv S (rn_assign rfl) rfl ?_)))); clear S; intro a S
 refine l_done (then_n ?_)
 replace S := S.nk [.own v_p_data 44 4 p_data.length (p_data.flatMap GSlot.enc)] [(0, v_p_data), (1, iV p_a), (2, iV p_b), (3, iV p_limit), (4, .func (.func 43) #[] #[]), (10, bV true)] [true] rfl (subR rfl)
 refine f_join (fun a w' => False) ?_ ?_
 ·refine wp_block (f_loop (fun (m1 : Nat) a w' => ∃ x1 : Int, ∃ x2 : Int, ∃ x3 : Int, ∃ x4 : Bool, slices_pdqsortCmpFunc_Slot_session_calls_c1_l1 p_data m1 x1 x2 x3 x4 = some r ∧ Sx w (v_p_data.ownBlock.toList) nov [.own v_p_data 44 4 p_data.length (p_data.flatMap GSlot.enc)] [(0, v_p_data), (1, iV x1), (2, iV x2), (3, iV x3), (4, .func (.func 43) #[] #[]), (10, bV x4)] 148 a w') id 4611686018427387904 ⟨p_a, p_b, p_limit, true, h, S.nf [true] rfl (subR rfl)⟩ ?_)
  clear S h; rintro m1 a w1 ⟨x1, x2, x3, x4, h, S⟩
  cases m1 with
  | zero => rw [slices_pdqsortCmpFunc_Slot_session_calls_c1_l1.eq_1] at h; cases h
  | succ m1 =>
   rw [slices_pdqsortCmpFunc_Slot_session_calls_c1_l1.eq_2] at h
   refine wp_block (f_seq (f_region (lv S (rn_move (S.tm rfl)) rfl ?_))); clear S; intro a S
   refine lv S (rn_move (S.tm rfl)) rfl ?_; clear S; intro a S
   refine lv S (rn_sub (S.tm rfl) (S.tm rfl)) rfl ?_; clear S; intro a S
   refine lv S (rn_assign (S.tm rfl)) rfl ?_; clear S; intro a S
   refine l_done (then_n (f_seq (f_seq (f_region (lv S (rn_move (S.tm rfl)) rfl ?_))))); clear S; intro a S
   refine lv S (rn_leq (S.tm rfl) rfl) rfl ?_; clear S; intro a S
   refine l_done (then_n (f_cond (S.tm rfl) (fun hb1 => ?_) (fun hb1 => ?_)))
   ·replace h := iteT h hb1
    refine f_seq (f_region (lv S (rn_move (S.tm rfl)) rfl ?_)); clear S; intro a S
    iterate 3 (refine lv S (rn_move (S.tm rfl)) rfl ?_; clear S; intro a S)
    obtain ⟨r1, hr1, h⟩ := bindE h
    refine l_enterO 0 S rfl (fun _ => .own v_p_data 44 4 r1.length (r1.flatMap GSlot.enc)) (fun _ => run_call (vs := [v_p_data, iV x1, iV x2, .func (.func 43) #[] #[]]) ⟨(S.tm rfl), (S.tm rfl), (S.tm rfl), (S.tm rfl), trivial⟩ Tryz.call94) (slices_insertionSortCmpFunc_Slot_session_calls_c1_ok _ v_p_data p_data (S.holds _ (List.mem_of_getElem? (i := 0) rfl)) x1 x2 _ hr1) rfl (fun _ _ _ h => ⟨h.1, fun _ hc => hc⟩) ?_; clear S; intro v1 a w3 hv1 hk1 hn1 S
    replace hv1 := hv1.2
    subst hv1
    refine l_done ?_
    replace S := S.nk [.own v_p_data 44 4 r1.length (r1.flatMap GSlot.enc)] [] [true] rfl trivial
    refine then_n (wp_ret (then_r (blk_r (then_r (blk_r (then_r ?_))))))
    obtain rfl := Option.some.inj h
    exact f_ret0 S Tryz.results77 ⟨(S.holds _ (List.mem_of_getElem? (i := 0) rfl)), rfl⟩
   ·replace h := iteF h hb1
    refine wp_skip (then_n (f_seq (f_seq (f_region (lv S (rn_move (S.tm rfl)) rfl ?_))))); clear S; intro a S
    refine lv S (rn_eql (S.tm rfl) rfl) rfl ?_; clear S; intro a S
    refine l_done (then_n (f_cond (S.tm rfl) (fun hb2 => ?_) (fun hb2 => ?_)))
    ·replace h := iteT h hb2
     refine f_seq ?_
     cases h
    ·replace h := iteF h hb2
     refine wp_skip (then_n (f_seq (f_seq (f_region (lv S (rn_move (S.tm rfl)) rfl ?_))))); clear S; intro a S
     refine lv S (rn_not (S.tm rfl)) rfl ?_; clear S; intro a S
     refine l_done ?_
     replace S := S.nk [.own v_p_data 44 4 p_data.length (p_data.flatMap GSlot.enc)] [(39, bV (!x4))] [true] rfl ⟨rfl, trivial⟩
     refine then_n (f_cond (S.tm rfl) (fun hb3 => ?_) (fun hb3 => ?_))
     ·replace h := iteT h hb3
      refine f_seq ?_
      cases h
     ·replace h := iteF h hb3
      refine wp_skip (then_n (f_seq ?_))
      cases h
 exact fun _ _ h => h.elim
theorem slices_SortFunc_Slot_session_calls_c1_ok (w : World) (v_p_x : Value) (p_x : List GSlot) (hb_p_x : (LEnt.own v_p_x 44 4 p_x.length (p_x.flatMap GSlot.enc)).holds w) (r : (List GSlot)) (h : slices_SortFunc_Slot_session_calls_c1 p_x = some r) :
    Calls Tryz.prog 42 [v_p_x, .func (.func 43) #[] #[]].toArray w (Ret w (v_p_x.ownBlock.toList) fun _ v w' => (LEnt.own v_p_x 44 4 r.length (r.flatMap GSlot.enc)).holds w' ∧ v = .tuple #[]) := by
 refine f_enter (v_p_x.ownBlock.toList) [.own v_p_x 44 4 p_x.length (p_x.flatMap GSlot.enc)] Tryz.func42 rfl Tryz.ntmps42 rfl (fun e he => by simp only [List.mem_singleton] at he; subst he; exact hb_p_x) (fps_one_nodup _) (fps_one_sub _) fun a S => ?_
 unfold slices_SortFunc_Slot_session_calls_c1 at h
 replace S := S.nk [.own v_p_x 44 4 p_x.length (p_x.flatMap GSlot.enc)] [(0, v_p_x), (1, .func (.func 43) #[] #[])] [true] rfl (subR rfl)
 refine f_seq (f_region (lv S (rn_move (S.tm rfl)) rfl ?_)); clear S; intro a S
 refine lv S (rn_lenT sl_38 (S.tm rfl) (own_len (S.own_at (i := 0) rfl))) rfl ?_; clear S; intro a S
 refine lv S (rn_assign (S.tm rfl)) rfl ?_; clear S; intro a S
 refine l_done (then_n (f_region (lv S (rn_move (S.tm rfl)) rfl ?_))); clear S; intro a S
 refine lv S (rn_move (S.tm rfl)) rfl ?_; clear S; intro a S
 refine lv S (rn_move (S.tm rfl)) rfl ?_; clear S; intro a S
 refine lv S (rn_conv Tryz.underlying3 Tryz.underlying88 (S.tm rfl)) rfl ?_; clear S; intro a S
 obtain ⟨r1, hr1, h⟩ := bindE h
 refine l_enter S (fun _ => run_call (vs := [.int .u64 (IntKind.wrap .u64 (p_x.length : Int))]) ⟨(S.tm rfl), trivial⟩ Tryz.call32) (bits_Len_ok _ (IntKind.wrap .u64 (p_x.length : Int)) _ hr1) rfl ?_; clear S; intro v1 a w1 hv1 hk1 hn1 S
 subst hv1
 refine lv S (rn_move (S.tm rfl)) rfl ?_; clear S; intro a S
 obtain ⟨r2, hr2, h⟩ := bindE h
 refine l_enterO 0 S rfl (fun _ => .own v_p_x 44 4 r2.length (r2.flatMap GSlot.enc)) (fun _ => run_call (vs := [v_p_x, iV 0, iV (p_x.length : Int), iV r1, .func (.func 43) #[] #[]]) ⟨(S.tm rfl), rfl, (S.tm rfl), (S.tm rfl), (S.tm rfl), trivial⟩ Tryz.call77) (slices_pdqsortCmpFunc_Slot_session_calls_c1_ok _ v_p_x p_x (S.holds _ (List.mem_of_getElem? (i := 0) rfl)) 0 (p_x.length : Int) r1 _ hr2) rfl (fun _ _ _ h => ⟨h.1, fun _ hc => hc⟩) ?_; clear S; intro v2 a w2 hv2 hk2 hn2 S
 replace hv2 := hv2.2
 subst hv2
 refine l_done ?_
 obtain rfl := Option.some.inj h
 exact f_ret0 S Tryz.results42 ⟨(S.holds _ (List.mem_of_getElem? (i := 0) rfl)), rfl⟩
theorem session_calls_ok (w : World) (b_p_at : Nat) (p_at : List (Gsession_heat × GSlot)) (hb_p_at : (view w []) b_p_at = some (.map (ments (fun x => Value.agg (Gsession_heat.enc x).toArray) (fun x => Value.agg (GSlot.enc x).toArray) p_at) p_at.length)) (v_p_l : Value) (p_l : List GCall) (hs_p_l : Slc (view w []) 3 v_p_l (p_l.map GCall.enc)) (p_who : ByteArray) (r : (List GSlot)) (h : session_calls p_at p_l p_who = some r) :
    Calls Tryz.prog 25 [.map (some b_p_at), v_p_l, sV p_who].toArray w (Ret w [] fun τ v _ => OwnV τ 44 4 v r.length (r.flatMap GSlot.enc)) := by
 refine f_enter [] [] Tryz.func25 rfl Tryz.ntmps25 rfl (by simp) (by simp [fps]) (by simp [fps]) fun a S => ?_
 unfold session_calls at h
 replace S := S.nk [] [(0, .map (some b_p_at)), (1, v_p_l), (2, sV p_who)] [] rfl (subR rfl)
 refine f_seq (f_region (lv S (rn_assign rfl) rfl ?_)); clear S; intro a S
 refine l_done (then_n (f_seq (f_region (lv S (rn_assign rfl) rfl ?_)))); clear S; intro a S
 replace S := S.nil 44 4
 refine l_done (then_n (f_seq (f_seq (f_region (lv S (rn_move (S.tm rfl)) rfl ?_))))); clear S; intro a S
 refine lv S (rn_lenT sl_28 (S.tm rfl) (slc_len hs_p_l)) rfl ?_; clear S; intro a S
 refine lv S (rn_move rfl) rfl ?_; clear S; intro a S
 refine l_done (then_n ?_)
 replace S := S.nk [.own (.slice none 0 0) 44 4 ([] : List GSlot).length (([] : List GSlot).flatMap GSlot.enc)] [(0, .map (some b_p_at)), (2, sV p_who), (7, (.slice none 0 0)), (10, v_p_l), (11, iV (p_l.length : Int)), (12, iV 0)] [true] rfl (subR rfl)
 obtain ⟨j1, hj1, h⟩ := joinE h
 refine f_join (fun a w' => ∃ x1 : List GSlot, ∃ v1 : Value, j1 x1 = some r ∧ Sx w [] nov [.own v1 44 4 x1.length (x1.flatMap GSlot.enc)] [(7, v1)] 34 a w') ?_ ?_
 ·refine wp_block (f_loop (fun (ys1 : List GCall) a w' => ∃ i1 : Nat, ∃ x1 : List GSlot, ∃ v1 : Value, (∃ dn, p_l = dn ++ ys1 ∧ dn.length = i1) ∧ session_calls_l1 p_who p_at j1 ys1 i1 x1 = some r ∧ Sx w [] nov [.own v1 44 4 x1.length (x1.flatMap GSlot.enc)] [(0, .map (some b_p_at)), (2, sV p_who), (7, v1), (10, v_p_l), (11, iV (p_l.length : Int)), (12, iV (i1 : Int))] 34 a w') List.length p_l ⟨0, ([] : List GSlot), (.slice none 0 0), ⟨[], rfl, rfl⟩, h, S.nf [true] rfl (subR rfl)⟩ ?_)
  clear S h; rintro ys1 a w1 ⟨i1, x1, v1, ⟨dn, hd1, hi1⟩, h, S⟩
  cases ys1 with
  | nil =>
   rw [session_calls_l1.eq_1] at h
   refine f_seq (f_region (lv S (rn_lss (S.tm rfl) (S.tm rfl)) rfl ?_)); clear S; intro a S
   refine l_done ?_
   replace S := S.nk [.own v1 44 4 x1.length (x1.flatMap GSlot.enc)] [(0, .map (some b_p_at)), (2, sV p_who), (7, v1), (10, v_p_l), (11, iV (p_l.length : Int)), (12, iV (i1 : Int)), (13, bV (decide ((i1 : Int) < (p_l.length : Int))))] [true] rfl (subR rfl)
   refine then_n (f_seq (wp_cond_false ((S.tm rfl).trans (congrArg Value.bool (rng_nil hd1 hi1))) (wp_exit (then_x (then_x (x_same ?_))))))
   refine then_n ?_
   exact ⟨x1, v1, h, S.nf [true] rfl ⟨rfl, trivial⟩⟩
  | cons y1 ys1 =>
   rw [session_calls_l1.eq_2] at h
   refine f_seq (f_region (lv S (rn_lss (S.tm rfl) (S.tm rfl)) rfl ?_)); clear S; intro a S
   refine l_done ?_
   replace S := S.nk [.own v1 44 4 x1.length (x1.flatMap GSlot.enc)] [(0, .map (some b_p_at)), (2, sV p_who), (7, v1), (10, v_p_l), (11, iV (p_l.length : Int)), (12, iV (i1 : Int)), (13, bV (decide ((i1 : Int) < (p_l.length : Int))))] [true] rfl (subR rfl)
   refine then_n (f_seq (wp_cond_true ((S.tm rfl).trans (congrArg Value.bool (rng_cons hd1 hi1))) (wp_skip (then_n (f_seq ?_)))))
   obtain ⟨j2, hj2, h⟩ := joinE h
   refine f_join (fun a w' => ∃ x2 : List GSlot, ∃ v2 : Value, j2 x2 = some r ∧ Sx w [] nov [.own v2 44 4 x2.length (x2.flatMap GSlot.enc)] [(0, .map (some b_p_at)), (2, sV p_who), (7, v2), (10, v_p_l), (11, iV (p_l.length : Int)), (12, iV (i1 : Int))] 34 a w') ?_ ?_
   ·refine wp_block (f_seq (f_region ?_))
    obtain ⟨b1, o1, hm1, hr1⟩ := rn_indexT (a := a) (x := .tmp 10) (y := .tmp 12) (ty := 0) sl_28 hs_p_l (get_mid hd1 hi1) rfl (S.tm rfl) (S.tm rfl)
    refine lv S (hr1 _) rfl ?_; clear S; intro a S
    clear hr1
    refine lv S (rn_ldA Tryz.isAgg57 Tryz.sizeOf57 (off := o1) (o := 0) (part := (GCall.enc y1)) rfl rfl (S.tm rfl) (hm1.at S.emb0)) rfl ?_; clear S; intro a S
    refine l_alloc S Tryz.zeroValue57 (cs := [sV k_empty, sV k_empty, iV 0]) rfl rfl ?_; clear S; intro a w4 b2 hz1 hk1 S
    refine l_store S (S.tm rfl) (S.tm rfl) (i := 0) (off := 0) rfl Tryz.sizeOf57 (vs := (GCall.enc y1)) rfl rfl rfl rfl ?_; clear S; intro w5 hk2 S
    refine l_done (then_n (f_seq (f_region (lv S (rn_fld fa_57_0 (S.tm rfl)) rfl ?_)))); clear S; intro a S
    refine lv S (rn_load Tryz.isAgg9 (S.tm rfl) (S.cell (i := 0) rfl rfl)) rfl ?_; clear S; intro a S
    refine lv S (rn_move (S.tm rfl)) rfl ?_; clear S; intro a S
    refine lv S (rn_seql (S.tm rfl) (S.tm rfl)) rfl ?_; clear S; intro a S
    refine l_done (then_n ?_)
    obtain ⟨j3, hj3, h⟩ := joinE h
    refine f_join (fun a w' => ∃ x3 : List GSlot, ∃ v3 : Value, j3 x3 = some r ∧ Sx w [] nov [.own v3 44 4 x3.length (x3.flatMap GSlot.enc)] [(0, .map (some b_p_at)), (2, sV p_who), (7, v3), (10, v_p_l), (11, iV (p_l.length : Int)), (12, iV (i1 : Int))] 34 a w') ?_ ?_
    ·refine f_cond (S.tm rfl) (fun hb1 => ?_) (fun hb1 => ?_)
     ·replace h := iteT h hb1
      refine f_region (lv S (rn_move (S.tm rfl)) rfl ?_); clear S; intro a S
      refine lv S (rn_move (S.tm rfl)) rfl ?_; clear S; intro a S
      refine lv S (rn_fld fa_57_1 (S.tm rfl)) rfl ?_; clear S; intro a S
      refine lv S (rn_load Tryz.isAgg9 (S.tm rfl) (S.cell (i := 0) rfl rfl)) rfl ?_; clear S; intro a S
      refine lv S (rn_fld fa_57_2 (S.tm rfl)) rfl ?_; clear S; intro a S
      refine lv S (rn_load Tryz.isAgg3 (S.tm rfl) (S.cell (i := 0) rfl rfl)) rfl ?_; clear S; intro a S
      refine lv S (rn_bld bt_97 (pv := [(0, sV y1.Item), (1, iV y1.Heat)]) ⟨rfl, (S.tm rfl), rfl, (S.tm rfl), trivial⟩ (cs := [sV y1.Item, iV y1.Heat]) (by kernel_rfl)) rfl ?_; clear S; intro a S
      refine lv S (rn_lookup (kv := (fun x => Value.agg (Gsession_heat.enc x).toArray)) (vv := (fun x => Value.agg (GSlot.enc x).toArray)) (m := p_at) (key := (Gsession_heat.mk y1.Item y1.Heat)) (z := (GSlot.mk k_empty 0 (GWindow.mk 0 0))) (S.emb0 _ _ hb_p_at) Tryz.underlying68 keyT_97 Tryz.zeroValue44 (S.tm rfl) (S.tm rfl)) rfl ?_; clear S; intro a S
      refine l_buildSlice S Tryz.underlying38 Tryz.sizeOf44 Tryz.zeroValue44 rfl rfl (pv := [(0, .agg (GSlot.enc (mgetD p_at (Gsession_heat.mk y1.Item y1.Heat) (GSlot.mk k_empty 0 (GWindow.mk 0 0)))).toArray)]) ⟨rfl, (S.tm rfl), trivial⟩ (cs := [sV ((mgetD p_at (Gsession_heat.mk y1.Item y1.Heat) (GSlot.mk k_empty 0 (GWindow.mk 0 0))).Item), iV ((mgetD p_at (Gsession_heat.mk y1.Item y1.Heat) (GSlot.mk k_empty 0 (GWindow.mk 0 0))).Heat), iV (((mgetD p_at (Gsession_heat.mk y1.Item y1.Heat) (GSlot.mk k_empty 0 (GWindow.mk 0 0))).Time).From), iV (((mgetD p_at (Gsession_heat.mk y1.Item y1.Heat) (GSlot.mk k_empty 0 (GWindow.mk 0 0))).Time).To)]) (by kernel_rfl) rfl ?_; clear S; intro a w7 b3 hz2 hk3 S
      obtain ⟨hc1, h⟩ := chkE h
      refine l_appendT sl_38 GSlot.enc_ok S (S.tm rfl) (i := 2) rfl (S.tm rfl) (j := 0) rfl (ys := [(GSlot.mk ((mgetD p_at (Gsession_heat.mk y1.Item y1.Heat) (GSlot.mk k_empty 0 (GWindow.mk 0 0))).Item) ((mgetD p_at (Gsession_heat.mk y1.Item y1.Heat) (GSlot.mk k_empty 0 (GWindow.mk 0 0))).Heat) ((mgetD p_at (Gsession_heat.mk y1.Item y1.Heat) (GSlot.mk k_empty 0 (GWindow.mk 0 0))).Time))]) rfl rfl rfl rfl (by have := room_lt hc1; omega) rfl ?_; clear S; intro v4 a w8 hk4 S
      refine lv S (rn_assign (S.tm rfl)) rfl ?_; clear S; intro a S
      refine l_done ?_
      replace S := S.nk [.own v4 44 4 (x1 ++ [(GSlot.mk ((mgetD p_at (Gsession_heat.mk y1.Item y1.Heat) (GSlot.mk k_empty 0 (GWindow.mk 0 0))).Item) ((mgetD p_at (Gsession_heat.mk y1.Item y1.Heat) (GSlot.mk k_empty 0 (GWindow.mk 0 0))).Heat) ((mgetD p_at (Gsession_heat.mk y1.Item y1.Heat) (GSlot.mk k_empty 0 (GWindow.mk 0 0))).Time))]).length ((x1 ++ [(GSlot.mk ((mgetD p_at (Gsession_heat.mk y1.Item y1.Heat) (GSlot.mk k_empty 0 (GWindow.mk 0 0))).Item) ((mgetD p_at (Gsession_heat.mk y1.Item y1.Heat) (GSlot.mk k_empty 0 (GWindow.mk 0 0))).Heat) ((mgetD p_at (Gsession_heat.mk y1.Item y1.Heat) (GSlot.mk k_empty 0 (GWindow.mk 0 0))).Time))]).flatMap GSlot.enc)] [(0, .map (some b_p_at)), (2, sV p_who), (7, v4), (10, v_p_l), (11, iV (p_l.length : Int)), (12, iV (i1 : Int))] [false, false, true] rfl (subR rfl)
      refine then_n ?_
      exact ⟨(x1 ++ [(GSlot.mk ((mgetD p_at (Gsession_heat.mk y1.Item y1.Heat) (GSlot.mk k_empty 0 (GWindow.mk 0 0))).Item) ((mgetD p_at (Gsession_heat.mk y1.Item y1.Heat) (GSlot.mk k_empty 0 (GWindow.mk 0 0))).Heat) ((mgetD p_at (Gsession_heat.mk y1.Item y1.Heat) (GSlot.mk k_empty 0 (GWindow.mk 0 0))).Time))]), v4, h, S.nf [true] rfl (subR rfl)⟩
     ·replace h := iteF h hb1
      refine wp_skip (then_n ?_)
      exact ⟨x1, v1, h, S.nf [false, true] rfl (subR rfl)⟩
    clear S h; rintro a w6 ⟨x3, v3, h, S⟩; rw [hj3] at h; clear hj3 j3
    refine blk_n (then_n ?_)
    exact ⟨x3, v3, h, S.nf [true] rfl (subR rfl)⟩
   clear S h; rintro a w3 ⟨x2, v2, h, S⟩; rw [hj2] at h; clear hj2 j2
   refine then_n (f_region (lv S (rn_add (S.tm rfl) rfl) rfl ?_)); clear S; intro a S
   refine lv S (rn_move (S.tm rfl)) rfl ?_; clear S; intro a S
   refine l_done (then_n ?_)
   exact ⟨ys1, ⟨i1 + 1, x2, v2, ⟨_, (hd1).trans (List.append_cons _ _ _), by simp [hi1]⟩, h, S.nf [true] rfl ⟨rfl, rfl, rfl, rfl, rfl, (congrArg (fun z => some (Value.int .i64 z)) (rng_next hd1 hi1 (slc_max hs_p_l))), trivial⟩⟩, Nat.lt_succ_self _⟩
 clear S h; rintro a w2 ⟨x1, v1, h, S⟩; rw [hj1] at h; clear hj1 j1
 refine then_n (f_seq (f_region (lv S (rn_move (S.tm rfl)) rfl ?_))); clear S; intro a S
 obtain ⟨r1, hr2, h⟩ := bindE h
 refine l_enterO 0 S rfl (fun _ => .own v1 44 4 r1.length (r1.flatMap GSlot.enc)) (fun _ => run_call (vs := [v1, .func (.func 43) #[] #[]]) ⟨(S.tm rfl), rfl, trivial⟩ Tryz.call42) (slices_SortFunc_Slot_session_calls_c1_ok _ v1 x1 (S.holds _ (List.mem_of_getElem? (i := 0) rfl)) _ hr2) rfl (fun _ _ _ h => ⟨h.1, fun _ hc => hc⟩) ?_; clear S; intro v5 a w9 hv1 hk5 hn1 S
 replace hv1 := hv1.2
 subst hv1
 refine l_done (then_n (f_seq (f_region (lv S (rn_move (S.tm rfl)) rfl ?_)))); clear S; intro a S
 refine lv S (rn_assign (S.tm rfl)) rfl ?_; clear S; intro a S
 refine l_done (then_n (wp_ret ?_))
 obtain rfl := Option.some.inj h
 exact f_ret S Tryz.results25 rfl (own_retT S (i := 0) rfl rfl)
set_option maxRecDepth 20000 in
theorem session_rests_ok (w : World) (v_p_t : Value) (p_t : List GSlot) (hs_p_t : Slc (view w []) 4 v_p_t (p_t.map GSlot.enc)) (v_p_l : Value) (p_l : List GCall) (hs_p_l : Slc (view w []) 3 v_p_l (p_l.map GCall.enc)) (r : (List GRest)) (h : session_rests p_t p_l = some r) :
    Calls Tryz.prog 20 [v_p_t, v_p_l].toArray w (Ret w [] fun τ v _ => OwnV τ 46 10 v r.length (r.flatMap GRest.enc)) := by
 refine f_enter [] [] Tryz.func20 rfl Tryz.ntmps20 rfl (by simp) (by simp [fps]) (by simp [fps]) fun a S => ?_
 unfold session_rests at h
 replace S := S.nk [] [(0, v_p_t), (1, v_p_l)] [] rfl (subR rfl)
 refine f_seq (f_region (lv S (rn_assign rfl) rfl ?_)); clear S; intro a S
 refine l_done (then_n (f_seq (f_region (lv S (rn_move (S.tm rfl)) rfl ?_)))); clear S; intro a S
 have hz1 := S.keep.size
 refine l_enter S (fun _ => run_call (vs := [v_p_t]) ⟨(S.tm rfl), trivial⟩ Tryz.call26) (session_slots_ok _ v_p_t p_t (hs_p_t.mono (S.le_arg nil_sub)) _ rfl) rfl ?_; clear S; intro v1 a w1 hv1 hk1 hn1 S
 obtain ⟨φ1, hl1, hm1, S⟩ := S.see' hn1 hz1
 obtain ⟨b1, rfl, hq1⟩ := hv1
 replace hq1 := hm1 _ _ hq1
 refine lv S (rn_assign (S.tm rfl)) rfl ?_; clear S; intro a S
 refine l_done (then_n (f_seq (f_region (lv S (rn_assign rfl) rfl ?_)))); clear S; intro a S
 replace S := S.nil 46 10
 refine l_done (then_n (f_seq (f_seq (f_region (lv S (rn_move (S.tm rfl)) rfl ?_))))); clear S; intro a S
 refine lv S (rn_lenT sl_28 (S.tm rfl) (slc_len hs_p_l)) rfl ?_; clear S; intro a S
 refine lv S (rn_move rfl) rfl ?_; clear S; intro a S
 refine l_done (then_n ?_)
 replace S := S.nk [.own (.slice none 0 0) 46 10 ([] : List GRest).length (([] : List GRest).flatMap GRest.enc)] [(1, v_p_l), (5, .map (some b1)), (6, (.slice none 0 0)), (13, v_p_l), (14, iV (p_l.length : Int)), (15, iV 0)] [true] rfl (subR rfl)
 obtain ⟨j1, hj1, h⟩ := joinE h
 refine f_join (fun a w' => ∃ x1 : List GRest, ∃ φ2 : View, ∃ v2 : Value, j1 x1 = some r ∧ View.le φ1 φ2 ∧ Sx w [] φ2 [.own v2 46 10 x1.length (x1.flatMap GRest.enc)] [(6, v2)] 75 a w') ?_ ?_
 ·refine wp_block (f_loop (fun (ys1 : List GCall) a w' => ∃ i1 : Nat, ∃ x1 : List GRest, ∃ φ2 : View, ∃ v2 : Value, (∃ dn, p_l = dn ++ ys1 ∧ dn.length = i1) ∧ session_rests_l1 p_t p_l j1 ys1 i1 x1 = some r ∧ View.le φ1 φ2 ∧ Sx w [] φ2 [.own v2 46 10 x1.length (x1.flatMap GRest.enc)] [(1, v_p_l), (5, .map (some b1)), (6, v2), (13, v_p_l), (14, iV (p_l.length : Int)), (15, iV (i1 : Int))] 75 a w') List.length p_l ⟨0, ([] : List GRest), φ1, (.slice none 0 0), ⟨[], rfl, rfl⟩, h, View.le_refl _, S.nf [true] rfl (subR rfl)⟩ ?_)
  clear S h; rintro ys1 a w2 ⟨i1, x1, φ2, v2, ⟨dn, hd1, hi1⟩, h, hl2, S⟩
  cases ys1 with
  | nil =>
   rw [session_rests_l1.eq_1] at h
   refine f_seq (f_region (lv S (rn_lss (S.tm rfl) (S.tm rfl)) rfl ?_)); clear S; intro a S
   refine l_done ?_
   replace S := S.nk [.own v2 46 10 x1.length (x1.flatMap GRest.enc)] [(1, v_p_l), (5, .map (some b1)), (6, v2), (13, v_p_l), (14, iV (p_l.length : Int)), (15, iV (i1 : Int)), (16, bV (decide ((i1 : Int) < (p_l.length : Int))))] [true] rfl (subR rfl)
   refine then_n (f_seq (wp_cond_false ((S.tm rfl).trans (congrArg Value.bool (rng_nil hd1 hi1))) (wp_exit (then_x (then_x (x_same ?_))))))
   refine then_n ?_
   exact ⟨x1, φ2, v2, h, hl2, S.nf [true] rfl ⟨rfl, trivial⟩⟩
  | cons y1 ys1 =>
   rw [session_rests_l1.eq_2] at h
   refine f_seq (f_region (lv S (rn_lss (S.tm rfl) (S.tm rfl)) rfl ?_)); clear S; intro a S
   refine l_done ?_
   replace S := S.nk [.own v2 46 10 x1.length (x1.flatMap GRest.enc)] [(1, v_p_l), (5, .map (some b1)), (6, v2), (13, v_p_l), (14, iV (p_l.length : Int)), (15, iV (i1 : Int)), (16, bV (decide ((i1 : Int) < (p_l.length : Int))))] [true] rfl (subR rfl)
   refine then_n (f_seq (wp_cond_true ((S.tm rfl).trans (congrArg Value.bool (rng_cons hd1 hi1))) (wp_skip (then_n (f_seq ?_)))))
   obtain ⟨j2, hj2, h⟩ := joinE h
   refine f_join (fun a w' => ∃ x2 : List GRest, ∃ φ3 : View, ∃ v3 : Value, j2 x2 = some r ∧ View.le φ2 φ3 ∧ Sx w [] φ3 [.own v3 46 10 x2.length (x2.flatMap GRest.enc)] [(1, v_p_l), (5, .map (some b1)), (6, v3), (13, v_p_l), (14, iV (p_l.length : Int)), (15, iV (i1 : Int))] 75 a w') ?_ ?_
   ·refine wp_block (f_seq (f_region (lv S (rn_move (S.tm rfl)) rfl ?_))); clear S; intro a S
    obtain ⟨b2, o1, hm2, hr1⟩ := rn_indexT (a := a) (x := .tmp 13) (y := .tmp 15) (ty := 0) sl_28 hs_p_l (get_mid hd1 hi1) rfl (S.tm rfl) (S.tm rfl)
    refine lv S (hr1 _) rfl ?_; clear S; intro a S
    clear hr1
    refine lv S (rn_ldA Tryz.isAgg57 Tryz.sizeOf57 (off := o1) (o := 0) (part := (GCall.enc y1)) rfl rfl (S.tm rfl) (hm2.at S.emb0)) rfl ?_; clear S; intro a S
    refine l_alloc S Tryz.zeroValue57 (cs := [sV k_empty, sV k_empty, iV 0]) rfl rfl ?_; clear S; intro a w5 b3 hz2 hk2 S
    refine lv S (rn_assign (S.tm rfl)) rfl ?_; clear S; intro a S
    refine l_store S (S.tm rfl) (S.tm rfl) (i := 0) (off := 0) rfl Tryz.sizeOf57 (vs := (GCall.enc y1)) rfl rfl rfl rfl ?_; clear S; intro w6 hk3 S
    refine l_done (then_n (f_seq (f_seq (d_region [] ([]) Tryz.mixed S rfl (by kernel_rfl) ?_)))); clear S; intro w7 hk4 hsel S
    refine d_rest [0, 1, 2, 3, 4, 5, 6, 7, 8, 9, 10, 11, 12] hsel (by kernel_rfl) rfl ?_
    clear hsel
    refine s_lv S rfl (rn_move (S.tm rfl)) rfl ?_; clear S; intro a S
    refine s_lv S rfl (rn_gtr (S.tm rfl) rfl) rfl ?_; clear S; intro a S
    refine s_lv S rfl (rn_move (S.tm rfl)) rfl ?_; clear S; intro a S
    obtain ⟨j3, hj3, h⟩ := joinE h
    refine s_cutm 10 (fun a w' => ∃ c1, j3 c1 = some r ∧ Keep [] w7 w' ∧ Sx w [] φ2 [.blk b3 (GCall.enc y1) 57, .own v2 46 10 x1.length (x1.flatMap GRest.enc)] [(1, v_p_l), (5, .map (some b1)), (6, v2), (8, .pointer (some ⟨b3, 0, none⟩)), (13, v_p_l), (14, iV (p_l.length : Int)), (15, iV (i1 : Int)), (32, bV c1)] 75 a w') ?_ ?_
    ·rcases Bool.eq_false_or_eq_true (decide (0 < (i1 : Int))) with hb1 | hb1
     ·replace h := iteT h hb1
      refine s_want S rfl rfl rfl rfl hb1 (s_lv0 S (rn_move (S.tm rfl)) rfl ?_); clear S; intro a S
      refine s_want S rfl rfl rfl rfl hb1 (s_lv0 S (rn_move (S.tm rfl)) rfl ?_); clear S; intro a S
      refine s_want S rfl rfl rfl rfl hb1 (s_lv0 S (rn_sub (S.tm rfl) rfl) rfl ?_); clear S; intro a S
      refine s_want S rfl rfl rfl rfl hb1 ?_
      obtain ⟨hc1, h⟩ := chkE h
      obtain ⟨b4, o2, hm3, hr2⟩ := rn_indexT (a := a) (x := .tmp 23) (y := .tmp 25) (ty := 0) sl_28 hs_p_l (inB_get hc1).1 (inB_get hc1).2 (S.tm rfl) (S.tm rfl)
      refine s_lv0 S (hr2 _) rfl ?_; clear S; intro a S
      clear hr2
      refine s_want S rfl rfl rfl rfl hb1 (s_lv0 S (rn_fld fa_57_0 (S.tm rfl)) rfl ?_); clear S; intro a S
      refine s_want S rfl rfl rfl rfl hb1 (s_lv0 S (rn_ld Tryz.isAgg9 (off := o2) (o := 0) (S.tm rfl) (hm3.at S.emb0) rfl) rfl ?_); clear S; intro a S
      refine s_want S rfl rfl rfl rfl hb1 (s_lv0 S (rn_fld fa_57_0 (S.tm rfl)) rfl ?_); clear S; intro a S
      refine s_want S rfl rfl rfl rfl hb1 (s_lv0 S (rn_load Tryz.isAgg9 (S.tm rfl) (S.cell (i := 0) rfl rfl)) rfl ?_); clear S; intro a S
      refine s_want S rfl rfl rfl rfl hb1 (s_lv0 S (rn_seql (S.tm rfl) (S.tm rfl)) rfl ?_); clear S; intro a S
      refine s_lv S rfl (rn_and_t hb1 (S.tm rfl) (S.tm rfl)) rfl ?_; clear S; intro a S
      refine s_done ?_
      exact ⟨_, h, Keep.refl _ _, S.nf [true, true] rfl (subR rfl)⟩
     ·replace h := iteF h hb1
      iterate 9 (refine s_skip S rfl rfl rfl rfl (neq_f hb1) rfl ?_ rfl; clear S; intro a S)
      refine s_lv S rfl (rn_and_f true hb1 (S.tm rfl) rfl) rfl ?_; clear S; intro a S
      refine s_done ?_
      exact ⟨_, h, Keep.refl _ _, S.nf [true, true] rfl (subR rfl)⟩
    clear S h; rintro a w8 ⟨c1, h, hk5, S⟩; rw [hj3] at h; clear hj3 j3
    refine s_done ?_
    replace S := S.nk [.blk b3 (GCall.enc y1) 57, .own v2 46 10 x1.length (x1.flatMap GRest.enc)] [(1, v_p_l), (5, .map (some b1)), (6, v2), (8, .pointer (some ⟨b3, 0, none⟩)), (13, v_p_l), (14, iV (p_l.length : Int)), (15, iV (i1 : Int)), (32, bV c1)] [true, true] rfl (subR rfl)
    refine then_n (f_cond (S.tm rfl) (fun hb2 => ?_) (fun hb2 => ?_))
    ·replace h := iteT h hb2
     refine wp_exit (then_x (x_same (then_n ?_)))
     exact ⟨x1, φ2, v2, h, (View.le_refl _), S.nf [false, true] rfl (subR rfl)⟩
    ·replace h := iteF h hb2
     refine wp_skip (then_n (f_seq (f_region (lv S (rn_move (S.tm rfl)) rfl ?_)))); clear S; intro a S
     refine lv S (rn_move (S.tm rfl)) rfl ?_; clear S; intro a S
     refine lv S (rn_fld fa_57_0 (S.tm rfl)) rfl ?_; clear S; intro a S
     refine lv S (rn_load Tryz.isAgg9 (S.tm rfl) (S.cell (i := 0) rfl rfl)) rfl ?_; clear S; intro a S
     obtain ⟨r1, hr3, h⟩ := bindE h
     have hz3 := S.keep.size
     refine l_enter S (fun _ => run_call (vs := [.map (some b1), v_p_l, sV y1.Who]) ⟨(S.tm rfl), (S.tm rfl), (S.tm rfl), trivial⟩ Tryz.call25) (session_calls_ok _ b1 (session_slots p_t) ((View.le_trans hl2 (S.le_new nil_sub)) _ _ hq1) v_p_l p_l (hs_p_l.mono (S.le_arg nil_sub)) y1.Who _ hr3) rfl ?_; clear S; intro v4 a w9 hv2 hk6 hn2 S
     obtain ⟨φ4, hl4, hm4, S⟩ := S.see' hn2 hz3
     have hs1 := hv2.mono hm4
     refine lv S (rn_assign (S.tm rfl)) rfl ?_; clear S; intro a S
     refine l_done (then_n (f_seq (f_region (lv S (rn_assign rfl) rfl ?_)))); clear S; intro a S
     refine l_done ?_
     replace S := S.nk [.blk b3 (GCall.enc y1) 57, .own v2 46 10 x1.length (x1.flatMap GRest.enc)] [(1, v_p_l), (5, .map (some b1)), (6, v2), (8, .pointer (some ⟨b3, 0, none⟩)), (9, v4), (10, iV 1), (13, v_p_l), (14, iV (p_l.length : Int)), (15, iV (i1 : Int))] [true, true] rfl (subR rfl)
     refine then_n ?_
     obtain ⟨j4, hj4, h⟩ := joinE h
     refine f_join (fun a w' => ∃ x3 : List GRest, ∃ v5 : Value, j4 x3 = some r ∧ Sx w [] φ4 [.blk b3 (GCall.enc y1) 57, .own v5 46 10 x3.length (x3.flatMap GRest.enc)] [(1, v_p_l), (5, .map (some b1)), (6, v5), (13, v_p_l), (14, iV (p_l.length : Int)), (15, iV (i1 : Int))] 75 a w') ?_ ?_
     ·refine wp_block (f_loop (fun (m1 : Nat) a w' => ∃ x3 : List GRest, ∃ x4 : Int, ∃ v5 : Value, session_rests_l2 r1 y1 j4 m1 x3 x4 = some r ∧ Sx w [] φ4 [.blk b3 (GCall.enc y1) 57, .own v5 46 10 x3.length (x3.flatMap GRest.enc)] [(1, v_p_l), (5, .map (some b1)), (6, v5), (8, .pointer (some ⟨b3, 0, none⟩)), (9, v4), (10, iV x4), (13, v_p_l), (14, iV (p_l.length : Int)), (15, iV (i1 : Int))] 75 a w') id (((r1.length : Int) - 1).toNat + 2) ⟨x1, 1, v2, h, S.nf [true, true] rfl (subR rfl)⟩ ?_)
      clear S h; rintro m1 a w10 ⟨x3, x4, v5, h, S⟩
      cases m1 with
      | zero => rw [session_rests_l2.eq_1] at h; cases h
      | succ m1 =>
       rw [session_rests_l2.eq_2] at h
       refine f_seq (f_seq (f_region (lv S (rn_move (S.tm rfl)) rfl ?_))); clear S; intro a S
       refine lv S (rn_move (S.tm rfl)) rfl ?_; clear S; intro a S
       refine lv S (rn_lenT sl_38 (S.tm rfl) (slc_len (ownV_slcT GSlot.enc_ok hs1))) rfl ?_; clear S; intro a S
       refine lv S (rn_lss (S.tm rfl) (S.tm rfl)) rfl ?_; clear S; intro a S
       refine l_done (then_n (f_cond (S.tm rfl) (fun hb3 => ?_) (fun hb3 => ?_)))
       ·replace h := iteT h hb3
        refine wp_skip (then_n (f_seq (wp_block ?_)))
        obtain ⟨hc2, h⟩ := chkE h
        obtain ⟨hc3, h⟩ := chkE h
        obtain ⟨hc4, h⟩ := chkE h
        obtain ⟨hc5, h⟩ := chkE h
        obtain ⟨hc6, h⟩ := chkE h
        refine d_region [] (v5.ownBlock.toList) Tryz.mixed S rfl (by kernel_rfl) ?_; clear S; intro w14 hk9 hsel S
        refine d_quiet 0 S hsel rfl rfl rfl (by kernel_rfl) (by kernel_rfl) rfl (fun _ hw => (rn_move (S.tm rfl))) ?_; clear S; intro a S
        refine d_quiet 1 S hsel rfl rfl rfl (by kernel_rfl) (by kernel_rfl) rfl (fun _ hw => (rn_fld fa_57_0 (S.tm rfl))) ?_; clear S; intro a S
        refine d_quiet 2 S hsel rfl rfl rfl (by kernel_rfl) (by kernel_rfl) rfl (fun _ hw => (rn_ld Tryz.isAgg9 (off := 0) (o := 0) (S.tm rfl) ((S.blk_mem (i := 0) (cells := (GCall.enc y1)) (b := b3) (T := 57) rfl (ne_fp (i := 1) (j := 0) (e := .own v5 46 10 x3.length (x3.flatMap GRest.enc)) (e' := .blk b3 (GCall.enc y1) 57) S rfl rfl rfl)).kept hw) rfl)) ?_; clear S; intro a S
        refine d_quiet 3 S hsel rfl rfl rfl (by kernel_rfl) (by kernel_rfl) rfl (fun _ hw => (rn_move (S.tm rfl))) ?_; clear S; intro a S
        refine d_quiet 4 S hsel rfl rfl rfl (by kernel_rfl) (by kernel_rfl) rfl (fun _ hw => (rn_move (S.tm rfl))) ?_; clear S; intro a S
        refine d_quiet 5 S hsel rfl rfl rfl (by kernel_rfl) (by kernel_rfl) rfl (fun _ hw => (rn_sub (S.tm rfl) rfl)) ?_; clear S; intro a S
        obtain ⟨b10, o7, hm9, hr8⟩ := rn_indexT (a := a) (x := .tmp 47) (y := .tmp 49) (ty := 0) sl_38 ((ownV_slcT GSlot.enc_ok hs1).mono (S.le_new (fp_sub (i := 1) (e := .own v5 46 10 x3.length (x3.flatMap GRest.enc)) rfl))) (inB_get hc2).1 (inB_get hc2).2 (S.tm rfl) (S.tm rfl)
        refine d_quiet 6 S hsel rfl rfl rfl (by kernel_rfl) (by kernel_rfl) rfl (fun _ hw => hr8 _) ?_; clear S; intro a S
        clear hr8
        refine d_quiet 7 S hsel rfl rfl rfl (by kernel_rfl) (by kernel_rfl) rfl (fun _ hw => (rn_ldA Tryz.isAgg44 Tryz.sizeOf44 (off := o7) (o := 0) (part := (GSlot.enc (GSlot.mk ((nth r1 (W (x4 - 1))).Item) ((nth r1 (W (x4 - 1))).Heat) ((nth r1 (W (x4 - 1))).Time)))) rfl rfl (S.tm rfl) (hm9.kept hw))) ?_; clear S; intro a S
        refine d_quiet 8 S hsel rfl rfl rfl (by kernel_rfl) (by kernel_rfl) rfl (fun _ hw => (rn_move (S.tm rfl))) ?_; clear S; intro a S
        refine d_quiet 9 S hsel rfl rfl rfl (by kernel_rfl) (by kernel_rfl) rfl (fun _ hw => (rn_move (S.tm rfl))) ?_; clear S; intro a S
        obtain ⟨b11, o8, hm10, hr9⟩ := rn_indexT (a := a) (x := .tmp 52) (y := .tmp 53) (ty := 0) sl_38 ((ownV_slcT GSlot.enc_ok hs1).mono (S.le_new (fp_sub (i := 1) (e := .own v5 46 10 x3.length (x3.flatMap GRest.enc)) rfl))) (inB_get hc3).1 (inB_get hc3).2 (S.tm rfl) (S.tm rfl)
        refine d_quiet 10 S hsel rfl rfl rfl (by kernel_rfl) (by kernel_rfl) rfl (fun _ hw => hr9 _) ?_; clear S; intro a S
        clear hr9
        refine d_quiet 11 S hsel rfl rfl rfl (by kernel_rfl) (by kernel_rfl) rfl (fun _ hw => (rn_ldA Tryz.isAgg44 Tryz.sizeOf44 (off := o8) (o := 0) (part := (GSlot.enc (GSlot.mk ((nth r1 x4).Item) ((nth r1 x4).Heat) ((nth r1 x4).Time)))) rfl rfl (S.tm rfl) (hm10.kept hw))) ?_; clear S; intro a S
        refine d_quiet 12 S hsel rfl rfl rfl (by kernel_rfl) (by kernel_rfl) rfl (fun _ hw => (rn_move (S.tm rfl))) ?_; clear S; intro a S
        refine d_quiet 13 S hsel rfl rfl rfl (by kernel_rfl) (by kernel_rfl) rfl (fun _ hw => (rn_move (S.tm rfl))) ?_; clear S; intro a S
        obtain ⟨b12, o9, hm11, hr10⟩ := rn_indexT (a := a) (x := .tmp 56) (y := .tmp 57) (ty := 0) sl_38 ((ownV_slcT GSlot.enc_ok hs1).mono (S.le_new (fp_sub (i := 1) (e := .own v5 46 10 x3.length (x3.flatMap GRest.enc)) rfl))) (inB_get hc4).1 (inB_get hc4).2 (S.tm rfl) (S.tm rfl)
        refine d_quiet 14 S hsel rfl rfl rfl (by kernel_rfl) (by kernel_rfl) rfl (fun _ hw => hr10 _) ?_; clear S; intro a S
        clear hr10
        refine d_quiet 15 S hsel rfl rfl rfl (by kernel_rfl) (by kernel_rfl) rfl (fun _ hw => (rn_fld fa_44_2 (S.tm rfl))) ?_; clear S; intro a S
        refine d_quiet 16 S hsel rfl rfl rfl (by kernel_rfl) (by kernel_rfl) rfl (fun _ hw => (rn_fld fa_42_0 (S.tm rfl))) ?_; clear S; intro a S
        refine d_quiet 17 S hsel rfl rfl rfl (by kernel_rfl) (by kernel_rfl) rfl (fun _ hw => (rn_ld Tryz.isAgg3 (off := o9) (o := 2) (S.tm rfl) (hm11.kept hw) rfl)) ?_; clear S; intro a S
        refine d_quiet 18 S hsel rfl rfl rfl (by kernel_rfl) (by kernel_rfl) rfl (fun _ hw => (rn_move (S.tm rfl))) ?_; clear S; intro a S
        refine d_quiet 19 S hsel rfl rfl rfl (by kernel_rfl) (by kernel_rfl) rfl (fun _ hw => (rn_move (S.tm rfl))) ?_; clear S; intro a S
        refine d_quiet 20 S hsel rfl rfl rfl (by kernel_rfl) (by kernel_rfl) rfl (fun _ hw => (rn_sub (S.tm rfl) rfl)) ?_; clear S; intro a S
        obtain ⟨b13, o10, hm12, hr11⟩ := rn_indexT (a := a) (x := .tmp 62) (y := .tmp 64) (ty := 0) sl_38 ((ownV_slcT GSlot.enc_ok hs1).mono (S.le_new (fp_sub (i := 1) (e := .own v5 46 10 x3.length (x3.flatMap GRest.enc)) rfl))) (inB_get hc5).1 (inB_get hc5).2 (S.tm rfl) (S.tm rfl)
        refine d_quiet 21 S hsel rfl rfl rfl (by kernel_rfl) (by kernel_rfl) rfl (fun _ hw => hr11 _) ?_; clear S; intro a S
        clear hr11
        refine d_quiet 22 S hsel rfl rfl rfl (by kernel_rfl) (by kernel_rfl) rfl (fun _ hw => (rn_fld fa_44_2 (S.tm rfl))) ?_; clear S; intro a S
        refine d_quiet 23 S hsel rfl rfl rfl (by kernel_rfl) (by kernel_rfl) rfl (fun _ hw => (rn_fld fa_42_1 (S.tm rfl))) ?_; clear S; intro a S
        refine d_quiet 24 S hsel rfl rfl rfl (by kernel_rfl) (by kernel_rfl) rfl (fun _ hw => (rn_ld Tryz.isAgg3 (off := o10) (o := 3) (S.tm rfl) (hm12.kept hw) rfl)) ?_; clear S; intro a S
        refine d_quiet 25 S hsel rfl rfl rfl (by kernel_rfl) (by kernel_rfl) rfl (fun _ hw => (rn_sub (S.tm rfl) (S.tm rfl))) ?_; clear S; intro a S
        refine d_quiet 26 S hsel rfl rfl rfl (by kernel_rfl) (by kernel_rfl) rfl (fun _ hw => (rn_bld bt_46 (pv := [(0, sV y1.Who), (1, .agg (GSlot.enc (GSlot.mk ((nth r1 (W (x4 - 1))).Item) ((nth r1 (W (x4 - 1))).Heat) ((nth r1 (W (x4 - 1))).Time))).toArray), (2, .agg (GSlot.enc (GSlot.mk ((nth r1 x4).Item) ((nth r1 x4).Heat) ((nth r1 x4).Time))).toArray), (3, iV (W ((((nth r1 x4).Time).From) - (((nth r1 (W (x4 - 1))).Time).To))))]) ⟨rfl, (S.tm rfl), rfl, (S.tm rfl), rfl, (S.tm rfl), rfl, (S.tm rfl), trivial⟩ (cs := [sV y1.Who, sV ((nth r1 (W (x4 - 1))).Item), iV ((nth r1 (W (x4 - 1))).Heat), iV (((nth r1 (W (x4 - 1))).Time).From), iV (((nth r1 (W (x4 - 1))).Time).To), sV ((nth r1 x4).Item), iV ((nth r1 x4).Heat), iV (((nth r1 x4).Time).From), iV (((nth r1 x4).Time).To), iV (W ((((nth r1 x4).Time).From) - (((nth r1 (W (x4 - 1))).Time).To)))]) (by kernel_rfl))) ?_; clear S; intro a S
        refine d_loud1 27 (by kernel_rfl) rfl (l_buildSlice S Tryz.underlying31 Tryz.sizeOf46 Tryz.zeroValue46 rfl rfl (pv := [(0, .agg (GRest.enc (GRest.mk y1.Who (GSlot.mk ((nth r1 (W (x4 - 1))).Item) ((nth r1 (W (x4 - 1))).Heat) ((nth r1 (W (x4 - 1))).Time)) (GSlot.mk ((nth r1 x4).Item) ((nth r1 x4).Heat) ((nth r1 x4).Time)) (W ((((nth r1 x4).Time).From) - (((nth r1 (W (x4 - 1))).Time).To))))).toArray)]) ⟨rfl, (S.tm rfl), trivial⟩ (cs := [sV y1.Who, sV ((nth r1 (W (x4 - 1))).Item), iV ((nth r1 (W (x4 - 1))).Heat), iV (((nth r1 (W (x4 - 1))).Time).From), iV (((nth r1 (W (x4 - 1))).Time).To), sV ((nth r1 x4).Item), iV ((nth r1 x4).Heat), iV (((nth r1 x4).Time).From), iV (((nth r1 x4).Time).To), iV (W ((((nth r1 x4).Time).From) - (((nth r1 (W (x4 - 1))).Time).To)))]) (by kernel_rfl) rfl ?_); clear S; intro a w15 b14 hz5 hk10 S
        refine l_done (d_next (Keep.none hk10) (d_loud1 28 (by kernel_rfl) rfl ?_))
        refine l_appendT sl_31 GRest.enc_ok S (S.tm rfl) (i := 2) rfl (S.tm rfl) (j := 0) rfl (ys := [(GRest.mk y1.Who (GSlot.mk ((nth r1 (W (x4 - 1))).Item) ((nth r1 (W (x4 - 1))).Heat) ((nth r1 (W (x4 - 1))).Time)) (GSlot.mk ((nth r1 x4).Item) ((nth r1 x4).Heat) ((nth r1 x4).Time)) (W ((((nth r1 x4).Time).From) - (((nth r1 (W (x4 - 1))).Time).To))))]) rfl rfl rfl rfl (by have := room_lt hc6; omega) rfl ?_; clear S; intro v7 a w16 hk11 S
        refine l_done (d_next hk11 (d_rest [29] hsel (by kernel_rfl) rfl ?_))
        clear hsel
        refine s_lv S rfl (rn_assign (S.tm rfl)) rfl ?_; clear S; intro a S
        refine s_done ?_
        replace S := S.nk [.blk b3 (GCall.enc y1) 57, .own v7 46 10 (x3 ++ [(GRest.mk y1.Who (GSlot.mk ((nth r1 (W (x4 - 1))).Item) ((nth r1 (W (x4 - 1))).Heat) ((nth r1 (W (x4 - 1))).Time)) (GSlot.mk ((nth r1 x4).Item) ((nth r1 x4).Heat) ((nth r1 x4).Time)) (W ((((nth r1 x4).Time).From) - (((nth r1 (W (x4 - 1))).Time).To))))]).length ((x3 ++ [(GRest.mk y1.Who (GSlot.mk ((nth r1 (W (x4 - 1))).Item) ((nth r1 (W (x4 - 1))).Heat) ((nth r1 (W (x4 - 1))).Time)) (GSlot.mk ((nth r1 x4).Item) ((nth r1 x4).Heat) ((nth r1 x4).Time)) (W ((((nth r1 x4).Time).From) - (((nth r1 (W (x4 - 1))).Time).To))))]).flatMap GRest.enc)] [(1, v_p_l), (5, .map (some b1)), (6, v7), (8, .pointer (some ⟨b3, 0, none⟩)), (9, v4), (10, iV x4), (13, v_p_l), (14, iV (p_l.length : Int)), (15, iV (i1 : Int))] [false, true, true] rfl (subR rfl)
        refine blk_n (then_n (f_region (lv S (rn_move (S.tm rfl)) rfl ?_))); clear S; intro a S
        refine lv S (rn_add (S.tm rfl) rfl) rfl ?_; clear S; intro a S
        refine lv S (rn_assign (S.tm rfl)) rfl ?_; clear S; intro a S
        refine l_done (then_n ?_)
        exact ⟨m1, ⟨(x3 ++ [(GRest.mk y1.Who (GSlot.mk ((nth r1 (W (x4 - 1))).Item) ((nth r1 (W (x4 - 1))).Heat) ((nth r1 (W (x4 - 1))).Time)) (GSlot.mk ((nth r1 x4).Item) ((nth r1 x4).Heat) ((nth r1 x4).Time)) (W ((((nth r1 x4).Time).From) - (((nth r1 (W (x4 - 1))).Time).To))))]), W (x4 + 1), v7, h, S.nf [true, true] rfl ⟨rfl, rfl, rfl, rfl, rfl, rfl, rfl, rfl, rfl, trivial⟩⟩, Nat.lt_succ_self _⟩
       ·replace h := iteF h hb3
        refine wp_exit (then_x (then_x (x_same (then_n ?_))))
        exact ⟨x3, v5, h, S.nf [true, true] rfl (subR rfl)⟩
     clear S h; rintro a w11 ⟨x3, v5, h, S⟩; rw [hj4] at h; clear hj4 j4
     refine blk_n (then_n ?_)
     exact ⟨x3, φ4, v5, h, hl4, S.nf [false, true] rfl (subR rfl)⟩
   clear S h; rintro a w4 ⟨x2, φ3, v3, h, hl3, S⟩; rw [hj2] at h; clear hj2 j2
   refine then_n (f_region (lv S (rn_add (S.tm rfl) rfl) rfl ?_)); clear S; intro a S
   refine lv S (rn_move (S.tm rfl)) rfl ?_; clear S; intro a S
   refine l_done (then_n ?_)
   exact ⟨ys1, ⟨i1 + 1, x2, φ3, v3, ⟨_, (hd1).trans (List.append_cons _ _ _), by simp [hi1]⟩, h, (View.le_trans hl2 hl3), S.nf [true] rfl ⟨rfl, rfl, rfl, rfl, rfl, (congrArg (fun z => some (Value.int .i64 z)) (rng_next hd1 hi1 (slc_max hs_p_l))), trivial⟩⟩, Nat.lt_succ_self _⟩
 clear S h; rintro a w3 ⟨x1, φ2, v2, h, hl2, S⟩; rw [hj1] at h; clear hj1 j1
 refine then_n (f_seq (f_region (lv S (rn_move (S.tm rfl)) rfl ?_))); clear S; intro a S
 refine lv S (rn_assign (S.tm rfl)) rfl ?_; clear S; intro a S
 refine l_done (then_n (wp_ret ?_))
 obtain rfl := Option.some.inj h
 exact f_ret S Tryz.results20 rfl (own_retT S (i := 0) rfl rfl)
theorem session_Rests_ok (w : World) (v_p_items : Value) (p_items : List GItem) (hs_p_items : Slc (view w []) 5 v_p_items (p_items.map GItem.enc)) (v_p_l : Value) (p_l : List GCall) (hs_p_l : Slc (view w []) 3 v_p_l (p_l.map GCall.enc)) (p_from : Int) (r : (List GRest) × Int) (h : session_Rests p_items p_l p_from = some r) :
    Calls Tryz.prog 7 [v_p_items, v_p_l, iV p_from].toArray w (Ret w [] fun τ v _ => ∃ u1 : Value, v = .tuple #[u1, iV r.2] ∧ OwnV τ 46 10 u1 r.1.length (r.1.flatMap GRest.enc)) := by
 refine f_enter [] [] Tryz.func7 rfl Tryz.ntmps7 rfl (by simp) (by simp [fps]) (by simp [fps]) fun a S => ?_
 unfold session_Rests at h
 replace S := S.nk [] [(0, v_p_items), (1, v_p_l), (2, iV p_from)] [] rfl (subR rfl)
 refine f_seq (f_region (lv S (rn_assign rfl) rfl ?_)); clear S; intro a S
 refine lv S (rn_assign rfl) rfl ?_; clear S; intro a S
 refine l_done (then_n (f_seq (f_seq (f_region (lv S (rn_move (S.tm rfl)) rfl ?_))))); clear S; intro a S
 refine lv S (rn_move (S.tm rfl)) rfl ?_; clear S; intro a S
 obtain ⟨r1, hr1, h⟩ := bindE h
 refine l_enter S (fun _ => run_call (vs := [v_p_items, v_p_l]) ⟨(S.tm rfl), (S.tm rfl), trivial⟩ Tryz.call18) (session_CheckSwims_ok _ v_p_items p_items (hs_p_items.mono (S.le_arg nil_sub)) v_p_l p_l (hs_p_l.mono (S.le_arg nil_sub)) _ hr1) rfl ?_; clear S; intro v1 a w1 hv1 hk1 hn1 S
 subst hv1
 refine lv S (rn_assign (S.tm rfl)) rfl ?_; clear S; intro a S
 refine l_done (then_n (f_seq (f_region (lv S (rn_move (S.tm rfl)) rfl ?_)))); clear S; intro a S
 refine lv S (rn_neq (S.tm rfl) rfl) rfl ?_; clear S; intro a S
 refine l_done (then_n (f_cond (S.tm rfl) (fun hb1 => ?_) (fun hb1 => ?_)))
 ·replace h := iteT h hb1
  refine f_seq (f_region (lv S (rn_move (S.tm rfl)) rfl ?_)); clear S; intro a S
  refine lv S (rn_assign rfl) rfl ?_; clear S; intro a S
  refine lv S (rn_assign (S.tm rfl)) rfl ?_; clear S; intro a S
  refine l_done (then_n (wp_ret (then_r ?_)))
  obtain rfl := Option.some.inj h
  exact f_ret2 S Tryz.results7 rfl rfl ⟨_, rfl, (ownV_nil _ _ _)⟩
 ·replace h := iteF h hb1
  refine wp_skip (then_n (f_seq (f_region (lv S (rn_move (S.tm rfl)) rfl ?_)))); clear S; intro a S
  refine lv S (rn_move (S.tm rfl)) rfl ?_; clear S; intro a S
  obtain ⟨r2, hr2, h⟩ := bindE h
  have hz1 := S.keep.size
  refine l_enter S (fun _ => run_call (vs := [v_p_items, iV p_from]) ⟨(S.tm rfl), (S.tm rfl), trivial⟩ Tryz.call19) (session_begin_ok _ v_p_items p_items (hs_p_items.mono (S.le_arg nil_sub)) p_from _ hr2) rfl ?_; clear S; intro v2 a w2 hv2 hk2 hn2 S
  obtain ⟨u1, rfl, ho1⟩ := hv2
  obtain ⟨φ1, hl1, hm1, S⟩ := S.see' hn2 hz1
  have hs1 := ho1.mono hm1
  refine lv S (rn_move (S.tm rfl)) rfl ?_; clear S; intro a S
  refine lv S (rn_extract (S.tm rfl) rfl) rfl ?_; clear S; intro a S
  refine lv S (rn_extract (S.tm rfl) rfl) rfl ?_; clear S; intro a S
  refine lv S (rn_assign (S.tm rfl)) rfl ?_; clear S; intro a S
  refine lv S (rn_assign (S.tm rfl)) rfl ?_; clear S; intro a S
  refine l_done ?_
  replace S := S.nk [] [(1, v_p_l), (9, u1), (10, iV r2.2)] [] rfl (subR rfl)
  refine then_n (f_seq (f_seq (f_region (lv S (rn_move (S.tm rfl)) rfl ?_)))); clear S; intro a S
  refine lv S (rn_neq (S.tm rfl) rfl) rfl ?_; clear S; intro a S
  refine l_done (then_n (f_cond (S.tm rfl) (fun hb2 => ?_) (fun hb2 => ?_)))
  ·replace h := iteT h hb2
   refine f_seq (f_region (lv S (rn_move (S.tm rfl)) rfl ?_)); clear S; intro a S
   refine lv S (rn_assign rfl) rfl ?_; clear S; intro a S
   refine lv S (rn_assign (S.tm rfl)) rfl ?_; clear S; intro a S
   refine l_done (then_n (wp_ret (then_r ?_)))
   obtain rfl := Option.some.inj h
   exact f_ret2 S Tryz.results7 rfl rfl ⟨_, rfl, (ownV_nil _ _ _)⟩
  ·replace h := iteF h hb2
   refine wp_skip (then_n (f_seq (f_region (lv S (rn_move (S.tm rfl)) rfl ?_)))); clear S; intro a S
   refine lv S (rn_move (S.tm rfl)) rfl ?_; clear S; intro a S
   obtain ⟨r3, hr3, h⟩ := bindE h
   have hz2 := S.keep.size
   refine l_enter S (fun _ => run_call (vs := [u1, v_p_l]) ⟨(S.tm rfl), (S.tm rfl), trivial⟩ Tryz.call20) (session_rests_ok _ u1 r2.1 ((ownV_slcT GSlot.enc_ok hs1).mono (S.le_new nil_sub)) v_p_l p_l (hs_p_l.mono (S.le_arg nil_sub)) _ hr3) rfl ?_; clear S; intro v3 a w3 hv3 hk3 hn3 S
   obtain ⟨φ2, hl2, hm2, S⟩ := S.see' hn3 hz2
   have hs2 := hv3.mono hm2
   refine lv S (rn_assign (S.tm rfl)) rfl ?_; clear S; intro a S
   refine lv S (rn_assign rfl) rfl ?_; clear S; intro a S
   refine l_done (then_n (wp_ret ?_))
   obtain rfl := Option.some.inj h
   exact f_ret2 S Tryz.results7 rfl rfl ⟨_, rfl, ((hs2).mono S.le_newer)⟩
theorem session_Short_c1_ok (w : World) (p_x : GRest) (b_p_a1 : Nat) (p_a1 : Int) (hb_b_p_a1 : (view w []) b_p_a1 = some (.cells [iV p_a1].toArray 3 (0, 0))) (r : Bool) (h : session_Short_c1 p_x p_a1 = r) :
    Calls Tryz.prog 23 [.agg (GRest.enc p_x).toArray, .pointer (some ⟨b_p_a1, 0, none⟩)].toArray w (Ret w [] fun _ v _ => v = bV r) := by
 refine f_enter [] [] Tryz.func23 rfl Tryz.ntmps23 rfl (by simp) (by simp [fps]) (by simp [fps]) fun a S => ?_
 unfold session_Short_c1 at h
 replace S := S.nk [] [(0, .agg (GRest.enc p_x).toArray), (1, .pointer (some ⟨b_p_a1, 0, none⟩))] [] rfl (subR rfl)
 refine f_seq (f_region (l_box S (S.tm rfl) (cs := (GRest.enc p_x)) rfl rfl ?_)); clear S; intro a w1 b1 hz1 hk1 S
 refine lv S (rn_assign rfl) rfl ?_; clear S; intro a S
 refine l_done (then_n (f_seq (f_region (lv S (rn_fld fa_46_3 (S.tm rfl)) rfl ?_)))); clear S; intro a S
 refine lv S (rn_load Tryz.isAgg3 (S.tm rfl) (S.cell (i := 0) rfl rfl)) rfl ?_; clear S; intro a S
 refine lv S (rn_ld Tryz.isAgg3 (off := 0) (o := 0) (S.tm rfl) ((mem_blk hb_b_p_a1).at S.emb0) rfl) rfl ?_; clear S; intro a S
 refine lv S (rn_geq (S.tm rfl) (S.tm rfl)) rfl ?_; clear S; intro a S
 refine lv S (rn_assign (S.tm rfl)) rfl ?_; clear S; intro a S
 refine l_done (then_n (wp_ret ?_))
 subst h
 exact f_ret S Tryz.results23 rfl rfl
theorem slices_IndexFunc_Rest_session_Short_c1_ok (w : World) (v_p_s : Value) (p_s : List GRest) (hs_p_s : Slc (view w []) 10 v_p_s (p_s.map GRest.enc)) (b_p_f_0 : Nat) (p_f_0 : Int) (hb_b_p_f_0 : (view w []) b_p_f_0 = some (.cells [iV p_f_0].toArray 3 (0, 0))) (r : Int) (h : slices_IndexFunc_Rest_session_Short_c1 p_s p_f_0 = r) :
    Calls Tryz.prog 40 [v_p_s, .func (.func 23) #[] #[.pointer (some ⟨b_p_f_0, 0, none⟩)]].toArray w (Ret w [] fun _ v _ => v = iV r) := by
 refine f_enter [] [] Tryz.func40 rfl Tryz.ntmps40 rfl (by simp) (by simp [fps]) (by simp [fps]) fun a S => ?_
 unfold slices_IndexFunc_Rest_session_Short_c1 at h
 replace S := S.nk [] [(0, v_p_s), (1, .func (.func 23) #[] #[.pointer (some ⟨b_p_f_0, 0, none⟩)])] [] rfl (subR rfl)
 refine f_seq (f_region (lv S (rn_assign rfl) rfl ?_)); clear S; intro a S
 refine l_done (then_n (f_seq (f_seq (f_region (lv S (rn_move (S.tm rfl)) rfl ?_))))); clear S; intro a S
 refine lv S (rn_lenT sl_31 (S.tm rfl) (slc_len hs_p_s)) rfl ?_; clear S; intro a S
 refine lv S (rn_move rfl) rfl ?_; clear S; intro a S
 refine l_done (then_n ?_)
 replace S := S.nk [] [(0, v_p_s), (1, .func (.func 23) #[] #[.pointer (some ⟨b_p_f_0, 0, none⟩)]), (7, iV (p_s.length : Int)), (8, iV 0)] [] rfl (subR rfl)
 obtain ⟨j1, hj1, h⟩ := joinE h
 refine f_join (fun a w' => j1 = r ∧ Sx w [] nov [] [] 19 a w') ?_ ?_
 ·refine wp_block (f_loop (fun (ys1 : List GRest) a w' => ∃ i1 : Nat, (∃ dn, p_s = dn ++ ys1 ∧ dn.length = i1) ∧ slices_IndexFunc_Rest_session_Short_c1_l1 p_f_0 j1 ys1 i1 = r ∧ Sx w [] nov [] [(0, v_p_s), (1, .func (.func 23) #[] #[.pointer (some ⟨b_p_f_0, 0, none⟩)]), (7, iV (p_s.length : Int)), (8, iV (i1 : Int))] 19 a w') List.length p_s ⟨0, ⟨[], rfl, rfl⟩, h, S.nf [] rfl (subR rfl)⟩ ?_)
  clear S h; rintro ys1 a w1 ⟨i1, ⟨dn, hd1, hi1⟩, h, S⟩
  cases ys1 with
  | nil =>
   rw [slices_IndexFunc_Rest_session_Short_c1_l1.eq_1] at h
   refine f_seq (f_region (lv S (rn_lss (S.tm rfl) (S.tm rfl)) rfl ?_)); clear S; intro a S
   refine l_done ?_
   replace S := S.nk [] [(0, v_p_s), (1, .func (.func 23) #[] #[.pointer (some ⟨b_p_f_0, 0, none⟩)]), (7, iV (p_s.length : Int)), (8, iV (i1 : Int)), (9, bV (decide ((i1 : Int) < (p_s.length : Int))))] [] rfl (subR rfl)
   refine then_n (f_seq (wp_cond_false ((S.tm rfl).trans (congrArg Value.bool (rng_nil hd1 hi1))) (wp_exit (then_x (then_x (x_same ?_))))))
   refine then_n ?_
   exact ⟨h, S.nf [] rfl trivial⟩
  | cons y1 ys1 =>
   rw [slices_IndexFunc_Rest_session_Short_c1_l1.eq_2] at h
   refine f_seq (f_region (lv S (rn_lss (S.tm rfl) (S.tm rfl)) rfl ?_)); clear S; intro a S
   refine l_done ?_
   replace S := S.nk [] [(0, v_p_s), (1, .func (.func 23) #[] #[.pointer (some ⟨b_p_f_0, 0, none⟩)]), (7, iV (p_s.length : Int)), (8, iV (i1 : Int)), (9, bV (decide ((i1 : Int) < (p_s.length : Int))))] [] rfl (subR rfl)
   refine then_n (f_seq (wp_cond_true ((S.tm rfl).trans (congrArg Value.bool (rng_cons hd1 hi1))) (wp_skip (then_n (f_seq (wp_block ?_))))))
   refine f_seq (f_region (lv S (rn_move (S.tm rfl)) rfl ?_)); clear S; intro a S
   refine lv S (rn_assign (S.tm rfl)) rfl ?_; clear S; intro a S
   refine l_done (then_n (f_seq (f_region (lv S (rn_move (S.tm rfl)) rfl ?_)))); clear S; intro a S
   refine lv S (rn_move (S.tm rfl)) rfl ?_; clear S; intro a S
   refine lv S (rn_move (S.tm rfl)) rfl ?_; clear S; intro a S
   obtain ⟨b1, o1, hm1, hr1⟩ := rn_indexT (a := a) (x := .tmp 12) (y := .tmp 13) (ty := 0) sl_31 hs_p_s (get_mid hd1 hi1) rfl (S.tm rfl) (S.tm rfl)
   refine lv S (hr1 _) rfl ?_; clear S; intro a S
   clear hr1
   refine lv S (rn_ldA Tryz.isAgg46 Tryz.sizeOf46 (off := o1) (o := 0) (part := (GRest.enc y1)) rfl rfl (S.tm rfl) (hm1.at S.emb0)) rfl ?_; clear S; intro a S
   refine l_enter S (fun _ => run_callV (cap := [.pointer (some ⟨b_p_f_0, 0, none⟩)]) (S.tm rfl) (vs := [.agg (GRest.enc y1).toArray]) ⟨(S.tm rfl), trivial⟩ Tryz.call23) (session_Short_c1_ok _ y1 b_p_f_0 p_f_0 ((S.le_arg nil_sub) _ _ hb_b_p_f_0) _ rfl) rfl ?_; clear S; intro v1 a w3 hv1 hk1 hn1 S
   subst hv1
   refine l_done (then_n (f_cond (S.tm rfl) (fun hb1 => ?_) (fun hb1 => ?_)))
   ·replace h := iteT h hb1
    refine f_seq (f_region (lv S (rn_move (S.tm rfl)) rfl ?_)); clear S; intro a S
    refine lv S (rn_assign (S.tm rfl)) rfl ?_; clear S; intro a S
    refine l_done ?_
    replace S := S.nk [] [(4, iV (i1 : Int))] [] rfl ⟨rfl, trivial⟩
    refine then_n (wp_ret (blk_r (then_r (then_r (blk_r (then_r ?_))))))
    refine then_r ?_
    subst h
    exact f_ret S Tryz.results40 rfl rfl
   ·replace h := iteF h hb1
    refine wp_skip (blk_n (then_n (f_region (lv S (rn_add (S.tm rfl) rfl) rfl ?_)))); clear S; intro a S
    refine lv S (rn_move (S.tm rfl)) rfl ?_; clear S; intro a S
    refine l_done (then_n ?_)
    exact ⟨ys1, ⟨i1 + 1, ⟨_, (hd1).trans (List.append_cons _ _ _), by simp [hi1]⟩, h, S.nf [] rfl ⟨rfl, rfl, rfl, (congrArg (fun z => some (Value.int .i64 z)) (rng_next hd1 hi1 (slc_max hs_p_s))), trivial⟩⟩, Nat.lt_succ_self _⟩
 clear S h; rintro a w2 ⟨h, S⟩; rw [hj1] at h; clear hj1 j1
 refine then_n (f_seq (f_region (lv S (rn_assign rfl) rfl ?_))); clear S; intro a S
 refine l_done (then_n (wp_ret ?_))
 subst h
 exact f_ret S Tryz.results40 rfl rfl
end Go.Proofs.YtolmdpjkmjfjdaaGreatDoor
