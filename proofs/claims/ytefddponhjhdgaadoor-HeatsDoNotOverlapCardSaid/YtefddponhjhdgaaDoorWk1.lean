/- Each Go function computes its plain twin, by program. -/
import Derived.Test.YtefddponhjhdgaaDoorTab
import Derived.Test.YtefddponhjhdgaaDoorLay
namespace Go.Proofs.YtefddponhjhdgaaDoor
open Go
theorem tumbmake_Below_ok (w : World) (p_x : Int) (p_n : Int) (r : Int) (h : tumbmake_Below p_x p_n = some r) :
    Calls Tryd.prog 34 [.int .i64 p_x, .int .i64 p_n].toArray w (Ret w [] fun _ v _ => v = .int .i64 r) := by
 refine f_enter [] [] Tryd.func34 rfl Tryd.ntmps34 rfl (by simp) (by simp [fps]) (by simp [fps]) fun a S => ?_
 unfold tumbmake_Below at h
 replace S := S.nk [] [(0, .int .i64 p_x), (1, .int .i64 p_n)] [] rfl ⟨rfl, rfl, trivial⟩
 refine f_seq ?_
 refine f_region ?_
 refine lv S (rn_assign rfl) rfl ?_; clear S; intro a S
 refine l_done ?_
 replace S := S.nk [] [(0, .int .i64 p_x), (1, .int .i64 p_n)] [] rfl ⟨rfl, rfl, trivial⟩
 refine then_n ?_
 refine f_seq ?_
 refine f_seq ?_
 refine f_region ?_
 refine lv S (rn_move (S.tm rfl)) rfl ?_; clear S; intro a S
 refine lv S (rn_lss (S.tm rfl) rfl) rfl ?_; clear S; intro a S
 refine l_done ?_
 replace S := S.nk [] [(0, .int .i64 p_x), (1, .int .i64 p_n), (6, .bool (decide (p_n < 1)))] [] rfl ⟨rfl, rfl, rfl, trivial⟩
 refine then_n ?_
 refine f_cond (S.tm rfl) (fun hb1 => ?_) (fun hb1 => ?_)
 ·replace h := iteT h hb1
  refine f_seq ?_
  refine f_region ?_
  refine lv S (rn_assign rfl) rfl ?_; clear S; intro a S
  refine l_done ?_
  replace S := S.nk [] [(4, .int .i64 0)] [] rfl ⟨rfl, trivial⟩
  refine then_n ?_
  refine wp_ret ?_
  refine then_r ?_
  obtain rfl := Option.some.inj h
  exact f_ret S Tryd.results34 rfl rfl
 ·replace h := iteF h hb1
  refine wp_skip ?_
  refine then_n ?_
  refine f_seq ?_
  refine f_region ?_
  refine lv S (rn_move (S.tm rfl)) rfl ?_; clear S; intro a S
  refine lv S (rn_move (S.tm rfl)) rfl ?_; clear S; intro a S
  obtain ⟨hc1, h⟩ := chkE h
  refine lv S (rn_rem (S.tm rfl) (S.tm rfl) (ne0_of hc1)) rfl ?_; clear S; intro a S
  refine lv S (rn_assign (S.tm rfl)) rfl ?_; clear S; intro a S
  refine l_done ?_
  replace S := S.nk [] [(0, .int .i64 (Int.tmod p_x p_n)), (1, .int .i64 p_n)] [] rfl ⟨rfl, rfl, trivial⟩
  refine then_n ?_
  refine f_seq ?_
  refine f_seq ?_
  refine f_region ?_
  refine lv S (rn_move (S.tm rfl)) rfl ?_; clear S; intro a S
  refine lv S (rn_lss (S.tm rfl) rfl) rfl ?_; clear S; intro a S
  refine l_done ?_
  replace S := S.nk [] [(0, .int .i64 (Int.tmod p_x p_n)), (1, .int .i64 p_n), (11, .bool (decide ((Int.tmod p_x p_n) < 0)))] [] rfl ⟨rfl, rfl, rfl, trivial⟩
  refine then_n ?_
  obtain ⟨j1, hj1, h⟩ := joinE h
  refine f_join (fun a w' => ∃ x1 : Int, j1 x1 = some r ∧ Sx w [] nov [] [(0, .int .i64 x1)] 16 a w') ?_ ?_
  ·refine f_cond (S.tm rfl) (fun hb2 => ?_) (fun hb2 => ?_)
   ·replace h := iteT h hb2
    refine f_region ?_
    refine lv S (rn_move (S.tm rfl)) rfl ?_; clear S; intro a S
    refine lv S (rn_move (S.tm rfl)) rfl ?_; clear S; intro a S
    refine lv S (rn_add (S.tm rfl) (S.tm rfl)) rfl ?_; clear S; intro a S
    refine lv S (rn_assign (S.tm rfl)) rfl ?_; clear S; intro a S
    refine l_done ?_
    replace S := S.nk [] [(0, .int .i64 (W ((Int.tmod p_x p_n) + p_n)))] [] rfl ⟨rfl, trivial⟩
    refine then_n ?_
    exact ⟨W ((Int.tmod p_x p_n) + p_n), h, S.nf [] rfl ⟨rfl, trivial⟩⟩
   ·replace h := iteF h hb2
    refine wp_skip ?_
    refine then_n ?_
    exact ⟨Int.tmod p_x p_n, h, S.nf [] rfl ⟨rfl, trivial⟩⟩
  clear S h; rintro a w1 ⟨x1, h, S⟩; rw [hj1] at h; clear hj1 j1
  refine then_n ?_
  refine f_seq ?_
  refine f_region ?_
  refine lv S (rn_move (S.tm rfl)) rfl ?_; clear S; intro a S
  refine lv S (rn_assign (S.tm rfl)) rfl ?_; clear S; intro a S
  refine l_done ?_
  replace S := S.nk [] [(4, .int .i64 x1)] [] rfl ⟨rfl, trivial⟩
  refine then_n ?_
  refine wp_ret ?_
  obtain rfl := Option.some.inj h
  exact f_ret S Tryd.results34 rfl rfl
set_option maxRecDepth 20000 in
theorem Stream_Next_ok (w : World) (b_p_s : Nat) (v_p_s_L : Value) (p_s_L : List Int) (hs_p_s_L : Slc (view w [b_p_s]) 1 v_p_s_L (p_s_L.map eInt)) (p_s_at : Int) (hb_b_p_s : (LEnt.blk b_p_s [v_p_s_L, .int .i64 p_s_at] 25).holds w) (p_n : Int) (r : Int × Int) (h : Stream_Next p_s_L p_s_at p_n = some r) :
    Calls Tryd.prog 17 [.pointer (some ⟨b_p_s, 0, none⟩), .int .i64 p_n].toArray w (Ret w [b_p_s] fun _ v w' => (LEnt.blk b_p_s [v_p_s_L, .int .i64 r.2] 25).holds w' ∧ v = .int .i64 r.1) := by
 refine f_enter [b_p_s] [.blk b_p_s [v_p_s_L, .int .i64 p_s_at] 25] Tryd.func17 rfl Tryd.ntmps17 rfl (fun e he => by simp only [List.mem_singleton] at he; subst he; exact hb_b_p_s) (by simp [fps, LEnt.fp]) (by simp [fps, LEnt.fp]) fun a S => ?_
 unfold Stream_Next at h
 replace S := S.nk [.blk b_p_s [v_p_s_L, .int .i64 p_s_at] 25] [(0, .pointer (some ⟨b_p_s, 0, none⟩)), (1, .int .i64 p_n)] [true] rfl ⟨rfl, rfl, trivial⟩
 refine f_seq ?_
 refine f_region ?_
 refine lv S (rn_assign rfl) rfl ?_; clear S; intro a S
 refine l_done ?_
 replace S := S.nk [.blk b_p_s [v_p_s_L, .int .i64 p_s_at] 25] [(0, .pointer (some ⟨b_p_s, 0, none⟩)), (1, .int .i64 p_n)] [true] rfl ⟨rfl, rfl, trivial⟩
 refine then_n ?_
 refine f_seq ?_
 refine f_region ?_
 refine lv S (rn_move (S.tm rfl)) rfl ?_; clear S; intro a S
 refine lv S (rn_nilCheck (S.tm rfl)) rfl ?_; clear S; intro a S
 refine lv S (rn_fld fa_25_1 (S.tm rfl)) rfl ?_; clear S; intro a S
 refine lv S (rn_load Tryd.isAgg3 (S.tm rfl) (S.cell (i := 0) rfl rfl)) rfl ?_; clear S; intro a S
 refine lv S (rn_add (S.tm rfl) rfl) rfl ?_; clear S; intro a S
 refine lv S (rn_nilCheck (S.tm rfl)) rfl ?_; clear S; intro a S
 refine lv S (rn_fld fa_25_1 (S.tm rfl)) rfl ?_; clear S; intro a S
 refine l_store S (S.tm rfl) (S.tm rfl) (i := 0) (off := 1) rfl Tryd.sizeOf3 (vs := [.int .i64 (W (p_s_at + 1))]) rfl rfl rfl rfl ?_; clear S; intro w1 hk1 S
 refine l_done ?_
 replace S := S.nk [.blk b_p_s [v_p_s_L, .int .i64 (W (p_s_at + 1))] 25] [(0, .pointer (some ⟨b_p_s, 0, none⟩)), (1, .int .i64 p_n)] [true] rfl ⟨rfl, rfl, trivial⟩
 refine then_n ?_
 refine f_seq ?_
 refine f_seq ?_
 refine f_region ?_
 refine lv S (rn_move (S.tm rfl)) rfl ?_; clear S; intro a S
 refine lv S (rn_nilCheck (S.tm rfl)) rfl ?_; clear S; intro a S
 refine lv S (rn_fld fa_25_0 (S.tm rfl)) rfl ?_; clear S; intro a S
 refine lv S (rn_load Tryd.isAgg22 (S.tm rfl) (S.cell (i := 0) rfl rfl)) rfl ?_; clear S; intro a S
 refine lv S (rn_lenT sl_22 (S.tm rfl) (slc_len hs_p_s_L)) rfl ?_; clear S; intro a S
 refine lv S (rn_eql (S.tm rfl) rfl) rfl ?_; clear S; intro a S
 refine l_done ?_
 replace S := S.nk [.blk b_p_s [v_p_s_L, .int .i64 (W (p_s_at + 1))] 25] [(0, .pointer (some ⟨b_p_s, 0, none⟩)), (1, .int .i64 p_n), (19, .bool (decide ((p_s_L.length : Int) = 0)))] [true] rfl ⟨rfl, rfl, rfl, trivial⟩
 refine then_n ?_
 refine f_cond (S.tm rfl) (fun hb1 => ?_) (fun hb1 => ?_)
 ·replace h := iteT h hb1
  refine f_seq ?_
  refine f_region ?_
  refine lv S (rn_move (S.tm rfl)) rfl ?_; clear S; intro a S
  refine lv S (rn_nilCheck (S.tm rfl)) rfl ?_; clear S; intro a S
  refine lv S (rn_fld fa_25_1 (S.tm rfl)) rfl ?_; clear S; intro a S
  refine lv S (rn_load Tryd.isAgg3 (S.tm rfl) (S.cell (i := 0) rfl rfl)) rfl ?_; clear S; intro a S
  refine lv S (rn_mul (S.tm rfl) rfl) rfl ?_; clear S; intro a S
  refine lv S (rn_move (S.tm rfl)) rfl ?_; clear S; intro a S
  obtain ⟨r1, hr1, h⟩ := bindE h
  refine l_enter S (fun _ => run_call (vs := [.int .i64 (W ((W (p_s_at + 1)) * 7919)), .int .i64 p_n]) ⟨(S.tm rfl), (S.tm rfl), trivial⟩ Tryd.call34) (tumbmake_Below_ok _ (W ((W (p_s_at + 1)) * 7919)) p_n _ hr1) rfl ?_; clear S; intro v1 a w2 hv1 hk2 hn1 S
  subst hv1
  refine lv S (rn_assign (S.tm rfl)) rfl ?_; clear S; intro a S
  refine l_done ?_
  replace S := S.nk [.blk b_p_s [v_p_s_L, .int .i64 (W (p_s_at + 1))] 25] [(4, .int .i64 r1)] [true] rfl ⟨rfl, trivial⟩
  refine then_n ?_
  refine wp_ret ?_
  refine then_r ?_
  obtain rfl := Option.some.inj h
  exact f_ret S Tryd.results17 rfl ⟨(S.holds _ (List.mem_of_getElem? (i := 0) rfl)), rfl⟩
 ·replace h := iteF h hb1
  refine wp_skip ?_
  refine then_n ?_
  refine f_seq ?_
  refine d_region [] ([]) Tryd.mixed S rfl (by kernel_rfl) ?_; clear S; intro w3 hk3 hsel S
  refine d_rest [0, 1, 2, 3, 4, 5, 6, 7, 8, 9, 10, 11] hsel (by kernel_rfl) rfl ?_
  clear hsel
  refine s_lv S rfl (rn_move (S.tm rfl)) rfl ?_; clear S; intro a S
  refine s_lv S rfl (rn_nilCheck (S.tm rfl)) rfl ?_; clear S; intro a S
  refine s_lv S rfl (rn_fld fa_25_1 (S.tm rfl)) rfl ?_; clear S; intro a S
  refine s_lv S rfl (rn_load Tryd.isAgg3 (S.tm rfl) (S.cell (i := 0) rfl rfl)) rfl ?_; clear S; intro a S
  refine s_lv S rfl (rn_sub (S.tm rfl) rfl) rfl ?_; clear S; intro a S
  refine s_lv S rfl (rn_move (S.tm rfl)) rfl ?_; clear S; intro a S
  refine s_lv S rfl (rn_nilCheck (S.tm rfl)) rfl ?_; clear S; intro a S
  refine s_lv S rfl (rn_fld fa_25_0 (S.tm rfl)) rfl ?_; clear S; intro a S
  refine s_lv S rfl (rn_load Tryd.isAgg22 (S.tm rfl) (S.cell (i := 0) rfl rfl)) rfl ?_; clear S; intro a S
  refine s_lv S rfl (rn_lenT sl_22 (S.tm rfl) (slc_len hs_p_s_L)) rfl ?_; clear S; intro a S
  obtain ⟨hc1, h⟩ := chkE h
  refine s_lv S rfl (rn_rem (S.tm rfl) (S.tm rfl) (ne0_of hc1)) rfl ?_; clear S; intro a S
  refine s_lv S rfl (rn_assign (S.tm rfl)) rfl ?_; clear S; intro a S
  refine s_done ?_
  replace S := S.nk [.blk b_p_s [v_p_s_L, .int .i64 (W (p_s_at + 1))] 25] [(0, .pointer (some ⟨b_p_s, 0, none⟩)), (1, .int .i64 p_n), (5, .int .i64 (Int.tmod (W ((W (p_s_at + 1)) - 1)) (p_s_L.length : Int)))] [true] rfl ⟨rfl, rfl, rfl, trivial⟩
  refine then_n ?_
  refine f_seq ?_
  refine d_region [] ([]) Tryd.mixed S rfl (by kernel_rfl) ?_; clear S; intro w4 hk4 hsel S
  refine d_rest [0, 1, 2, 3, 4, 5, 6, 7, 8, 9, 10, 11] hsel (by kernel_rfl) rfl ?_
  clear hsel
  refine s_lv S rfl (rn_move (S.tm rfl)) rfl ?_; clear S; intro a S
  refine s_lv S rfl (rn_nilCheck (S.tm rfl)) rfl ?_; clear S; intro a S
  refine s_lv S rfl (rn_fld fa_25_1 (S.tm rfl)) rfl ?_; clear S; intro a S
  refine s_lv S rfl (rn_load Tryd.isAgg3 (S.tm rfl) (S.cell (i := 0) rfl rfl)) rfl ?_; clear S; intro a S
  refine s_lv S rfl (rn_sub (S.tm rfl) rfl) rfl ?_; clear S; intro a S
  refine s_lv S rfl (rn_move (S.tm rfl)) rfl ?_; clear S; intro a S
  refine s_lv S rfl (rn_nilCheck (S.tm rfl)) rfl ?_; clear S; intro a S
  refine s_lv S rfl (rn_fld fa_25_0 (S.tm rfl)) rfl ?_; clear S; intro a S
  refine s_lv S rfl (rn_load Tryd.isAgg22 (S.tm rfl) (S.cell (i := 0) rfl rfl)) rfl ?_; clear S; intro a S
  refine s_lv S rfl (rn_lenT sl_22 (S.tm rfl) (slc_len hs_p_s_L)) rfl ?_; clear S; intro a S
  obtain ⟨hc2, h⟩ := chkE h
  refine s_lv S rfl (rn_quo (S.tm rfl) (S.tm rfl) (ne0_of hc2)) rfl ?_; clear S; intro a S
  refine s_lv S rfl (rn_assign (S.tm rfl)) rfl ?_; clear S; intro a S
  refine s_done ?_
  replace S := S.nk [.blk b_p_s [v_p_s_L, .int .i64 (W (p_s_at + 1))] 25] [(0, .pointer (some ⟨b_p_s, 0, none⟩)), (1, .int .i64 p_n), (5, .int .i64 (Int.tmod (W ((W (p_s_at + 1)) - 1)) (p_s_L.length : Int))), (6, .int .i64 (W (Int.tdiv (W ((W (p_s_at + 1)) - 1)) (p_s_L.length : Int))))] [true] rfl ⟨rfl, rfl, rfl, rfl, trivial⟩
  refine then_n ?_
  refine f_seq ?_
  refine f_region ?_
  refine lv S (rn_move (S.tm rfl)) rfl ?_; clear S; intro a S
  refine lv S (rn_nilCheck (S.tm rfl)) rfl ?_; clear S; intro a S
  refine lv S (rn_fld fa_25_0 (S.tm rfl)) rfl ?_; clear S; intro a S
  refine lv S (rn_load Tryd.isAgg22 (S.tm rfl) (S.cell (i := 0) rfl rfl)) rfl ?_; clear S; intro a S
  refine lv S (rn_move (S.tm rfl)) rfl ?_; clear S; intro a S
  obtain ⟨hc3, h⟩ := chkE h
  obtain ⟨b1, o1, hm1, hr2⟩ := rn_indexT (a := a) (x := .tmp 52) (y := .tmp 53) (ty := 0) sl_22 hs_p_s_L (inB_get hc3).1 (inB_get hc3).2 (S.tm rfl) (S.tm rfl)
  refine lv S (hr2 _) rfl ?_; clear S; intro a S
  clear hr2
  refine lv S (rn_ld Tryd.isAgg3 (off := o1) (o := 0) (S.tm rfl) (hm1.at S.emb0) rfl) rfl ?_; clear S; intro a S
  obtain ⟨r2, hr3, h⟩ := bindE h
  refine l_enter S (fun _ => run_call (vs := [.int .i64 (nth p_s_L (Int.tmod (W ((W (p_s_at + 1)) - 1)) (p_s_L.length : Int))), .int .i64 1073741824]) ⟨(S.tm rfl), rfl, trivial⟩ Tryd.call34) (tumbmake_Below_ok _ (nth p_s_L (Int.tmod (W ((W (p_s_at + 1)) - 1)) (p_s_L.length : Int))) 1073741824 _ hr3) rfl ?_; clear S; intro v2 a w5 hv2 hk5 hn2 S
  subst hv2
  refine lv S (rn_move (S.tm rfl)) rfl ?_; clear S; intro a S
  refine lv S (rn_move (S.tm rfl)) rfl ?_; clear S; intro a S
  refine lv S (rn_add rfl (S.tm rfl)) rfl ?_; clear S; intro a S
  refine lv S (rn_mul (S.tm rfl) (S.tm rfl)) rfl ?_; clear S; intro a S
  refine lv S (rn_add (S.tm rfl) (S.tm rfl)) rfl ?_; clear S; intro a S
  refine lv S (rn_move (S.tm rfl)) rfl ?_; clear S; intro a S
  obtain ⟨r3, hr4, h⟩ := bindE h
  refine l_enter S (fun _ => run_call (vs := [.int .i64 (W (r2 + (W ((W (Int.tdiv (W ((W (p_s_at + 1)) - 1)) (p_s_L.length : Int))) * (W (7919 + (Int.tmod (W ((W (p_s_at + 1)) - 1)) (p_s_L.length : Int)))))))), .int .i64 p_n]) ⟨(S.tm rfl), (S.tm rfl), trivial⟩ Tryd.call34) (tumbmake_Below_ok _ (W (r2 + (W ((W (Int.tdiv (W ((W (p_s_at + 1)) - 1)) (p_s_L.length : Int))) * (W (7919 + (Int.tmod (W ((W (p_s_at + 1)) - 1)) (p_s_L.length : Int)))))))) p_n _ hr4) rfl ?_; clear S; intro v3 a w6 hv3 hk6 hn3 S
  subst hv3
  refine lv S (rn_assign (S.tm rfl)) rfl ?_; clear S; intro a S
  refine l_done ?_
  replace S := S.nk [.blk b_p_s [v_p_s_L, .int .i64 (W (p_s_at + 1))] 25] [(4, .int .i64 r3)] [true] rfl ⟨rfl, trivial⟩
  refine then_n ?_
  refine wp_ret ?_
  obtain rfl := Option.some.inj h
  exact f_ret S Tryd.results17 rfl ⟨(S.holds _ (List.mem_of_getElem? (i := 0) rfl)), rfl⟩
theorem Stream_Flip_ok (w : World) (b_p_s : Nat) (v_p_s_L : Value) (p_s_L : List Int) (hs_p_s_L : Slc (view w [b_p_s]) 1 v_p_s_L (p_s_L.map eInt)) (p_s_at : Int) (hb_b_p_s : (LEnt.blk b_p_s [v_p_s_L, .int .i64 p_s_at] 25).holds w) (p_n : Int) (r : Bool × Int) (h : Stream_Flip p_s_L p_s_at p_n = some r) :
    Calls Tryd.prog 15 [.pointer (some ⟨b_p_s, 0, none⟩), .int .i64 p_n].toArray w (Ret w [b_p_s] fun _ v w' => (LEnt.blk b_p_s [v_p_s_L, .int .i64 r.2] 25).holds w' ∧ v = .bool r.1) := by
 refine f_enter [b_p_s] [.blk b_p_s [v_p_s_L, .int .i64 p_s_at] 25] Tryd.func15 rfl Tryd.ntmps15 rfl (fun e he => by simp only [List.mem_singleton] at he; subst he; exact hb_b_p_s) (by simp [fps, LEnt.fp]) (by simp [fps, LEnt.fp]) fun a S => ?_
 unfold Stream_Flip at h
 replace S := S.nk [.blk b_p_s [v_p_s_L, .int .i64 p_s_at] 25] [(0, .pointer (some ⟨b_p_s, 0, none⟩)), (1, .int .i64 p_n)] [true] rfl ⟨rfl, rfl, trivial⟩
 refine f_seq ?_
 refine f_region ?_
 refine lv S (rn_assign rfl) rfl ?_; clear S; intro a S
 refine l_done ?_
 replace S := S.nk [.blk b_p_s [v_p_s_L, .int .i64 p_s_at] 25] [(0, .pointer (some ⟨b_p_s, 0, none⟩)), (1, .int .i64 p_n)] [true] rfl ⟨rfl, rfl, trivial⟩
 refine then_n ?_
 refine f_seq ?_
 refine f_region ?_
 refine lv S (rn_move (S.tm rfl)) rfl ?_; clear S; intro a S
 refine lv S (rn_move (S.tm rfl)) rfl ?_; clear S; intro a S
 obtain ⟨r1, hr1, h⟩ := bindE h
 refine l_enter1 0 S (b := b_p_s) rfl rfl (fun _ => .blk b_p_s [v_p_s_L, .int .i64 r1.2] 25) (fun _ => run_call (vs := [.pointer (some ⟨b_p_s, 0, none⟩), .int .i64 p_n]) ⟨(S.tm rfl), (S.tm rfl), trivial⟩ Tryd.call17) (Stream_Next_ok _ b_p_s v_p_s_L p_s_L (hs_p_s_L.mono (S.le_arg (fp_sub (i := 0) (e := .blk b_p_s [v_p_s_L, .int .i64 p_s_at] 25) rfl))) p_s_at (S.holds _ (List.mem_of_getElem? (i := 0) rfl)) p_n _ hr1) rfl (fun _ _ _ h => ⟨h.1, fun _ hc => by cases hc; rfl⟩) ?_; clear S; intro v1 a w1 hv1 hk1 hn1 S
 replace hv1 := hv1.2
 subst hv1
 refine lv S (rn_eql (S.tm rfl) rfl) rfl ?_; clear S; intro a S
 refine lv S (rn_assign (S.tm rfl)) rfl ?_; clear S; intro a S
 refine l_done ?_
 replace S := S.nk [.blk b_p_s [v_p_s_L, .int .i64 r1.2] 25] [(4, .bool (decide (r1.1 = 0)))] [true] rfl ⟨rfl, trivial⟩
 refine then_n ?_
 refine wp_ret ?_
 obtain rfl := Option.some.inj h
 exact f_ret S Tryd.results15 rfl ⟨(S.holds _ (List.mem_of_getElem? (i := 0) rfl)), rfl⟩
theorem Stream_Pick_ok (w : World) (b_p_s : Nat) (v_p_s_L : Value) (p_s_L : List Int) (hs_p_s_L : Slc (view w [b_p_s]) 1 v_p_s_L (p_s_L.map eInt)) (p_s_at : Int) (hb_b_p_s : (LEnt.blk b_p_s [v_p_s_L, .int .i64 p_s_at] 25).holds w) (v_p_l : Value) (p_l : List Int) (hs_p_l : Slc (view w [b_p_s]) 1 v_p_l (p_l.map eInt)) (r : Int × Int) (h : Stream_Pick p_s_L p_s_at p_l = some r) :
    Calls Tryd.prog 16 [.pointer (some ⟨b_p_s, 0, none⟩), v_p_l].toArray w (Ret w [b_p_s] fun _ v w' => (LEnt.blk b_p_s [v_p_s_L, .int .i64 r.2] 25).holds w' ∧ v = .int .i64 r.1) := by
 refine f_enter [b_p_s] [.blk b_p_s [v_p_s_L, .int .i64 p_s_at] 25] Tryd.func16 rfl Tryd.ntmps16 rfl (fun e he => by simp only [List.mem_singleton] at he; subst he; exact hb_b_p_s) (by simp [fps, LEnt.fp]) (by simp [fps, LEnt.fp]) fun a S => ?_
 unfold Stream_Pick at h
 replace S := S.nk [.blk b_p_s [v_p_s_L, .int .i64 p_s_at] 25] [(0, .pointer (some ⟨b_p_s, 0, none⟩)), (1, v_p_l)] [true] rfl ⟨rfl, rfl, trivial⟩
 refine f_seq ?_
 refine f_region ?_
 refine lv S (rn_assign rfl) rfl ?_; clear S; intro a S
 refine l_done ?_
 replace S := S.nk [.blk b_p_s [v_p_s_L, .int .i64 p_s_at] 25] [(0, .pointer (some ⟨b_p_s, 0, none⟩)), (1, v_p_l)] [true] rfl ⟨rfl, rfl, trivial⟩
 refine then_n ?_
 refine f_seq ?_
 refine f_region ?_
 refine lv S (rn_move (S.tm rfl)) rfl ?_; clear S; intro a S
 refine lv S (rn_move (S.tm rfl)) rfl ?_; clear S; intro a S
 refine lv S (rn_move (S.tm rfl)) rfl ?_; clear S; intro a S
 refine lv S (rn_lenT sl_22 (S.tm rfl) (slc_len hs_p_l)) rfl ?_; clear S; intro a S
 obtain ⟨r1, hr1, h⟩ := bindE h
 refine l_enter1 0 S (b := b_p_s) rfl rfl (fun _ => .blk b_p_s [v_p_s_L, .int .i64 r1.2] 25) (fun _ => run_call (vs := [.pointer (some ⟨b_p_s, 0, none⟩), .int .i64 (p_l.length : Int)]) ⟨(S.tm rfl), (S.tm rfl), trivial⟩ Tryd.call17) (Stream_Next_ok _ b_p_s v_p_s_L p_s_L (hs_p_s_L.mono (S.le_arg (fp_sub (i := 0) (e := .blk b_p_s [v_p_s_L, .int .i64 p_s_at] 25) rfl))) p_s_at (S.holds _ (List.mem_of_getElem? (i := 0) rfl)) (p_l.length : Int) _ hr1) rfl (fun _ _ _ h => ⟨h.1, fun _ hc => by cases hc; rfl⟩) ?_; clear S; intro v1 a w1 hv1 hk1 hn1 S
 replace hv1 := hv1.2
 subst hv1
 obtain ⟨hc1, h⟩ := chkE h
 obtain ⟨b1, o1, hm1, hr2⟩ := rn_indexT (a := a) (x := .tmp 5) (y := .tmp 9) (ty := 0) sl_22 hs_p_l (inB_get hc1).1 (inB_get hc1).2 (S.tm rfl) (S.tm rfl)
 refine lv S (hr2 _) rfl ?_; clear S; intro a S
 clear hr2
 refine lv S (rn_ld Tryd.isAgg3 (off := o1) (o := 0) (S.tm rfl) (hm1.at S.emb0) rfl) rfl ?_; clear S; intro a S
 refine lv S (rn_assign (S.tm rfl)) rfl ?_; clear S; intro a S
 refine l_done ?_
 replace S := S.nk [.blk b_p_s [v_p_s_L, .int .i64 r1.2] 25] [(4, .int .i64 (nth p_l r1.1))] [true] rfl ⟨rfl, trivial⟩
 refine then_n ?_
 refine wp_ret ?_
 obtain rfl := Option.some.inj h
 exact f_ret S Tryd.results16 rfl ⟨(S.holds _ (List.mem_of_getElem? (i := 0) rfl)), rfl⟩
theorem Stream_RightItems_ok (w : World) (b_p_s : Nat) (v_p_s_L : Value) (p_s_L : List Int) (hs_p_s_L : Slc (view w [b_p_s]) 1 v_p_s_L (p_s_L.map eInt)) (p_s_at : Int) (hb_b_p_s : (LEnt.blk b_p_s [v_p_s_L, .int .i64 p_s_at] 25).holds w) (p_most : Int) (r : (List GItem) × Int) (h : Stream_RightItems p_s_L p_s_at p_most = some r) :
    Calls Tryd.prog 4 [.pointer (some ⟨b_p_s, 0, none⟩), .int .i64 p_most].toArray w (Ret w [b_p_s] fun τ v w' => (LEnt.blk b_p_s [v_p_s_L, .int .i64 r.2] 25).holds w' ∧ OwnV τ 37 5 v r.1.length (r.1.flatMap GItem.enc)) := by
 refine f_enter [b_p_s] [.blk b_p_s [v_p_s_L, .int .i64 p_s_at] 25] Tryd.func4 rfl Tryd.ntmps4 rfl (fun e he => by simp only [List.mem_singleton] at he; subst he; exact hb_b_p_s) (by simp [fps, LEnt.fp]) (by simp [fps, LEnt.fp]) fun a S => ?_
 unfold Stream_RightItems at h
 replace S := S.nk [.blk b_p_s [v_p_s_L, .int .i64 p_s_at] 25] [(0, .pointer (some ⟨b_p_s, 0, none⟩)), (1, .int .i64 p_most)] [true] rfl ⟨rfl, rfl, trivial⟩
 refine f_seq ?_
 refine f_region ?_
 refine lv S (rn_assign rfl) rfl ?_; clear S; intro a S
 refine l_done ?_
 replace S := S.nk [.blk b_p_s [v_p_s_L, .int .i64 p_s_at] 25] [(0, .pointer (some ⟨b_p_s, 0, none⟩)), (1, .int .i64 p_most)] [true] rfl ⟨rfl, rfl, trivial⟩
 refine then_n ?_
 refine f_seq ?_
 refine f_region ?_
 refine lv S (rn_assign rfl) rfl ?_; clear S; intro a S
 replace S := S.nil 37 5
 refine l_done ?_
 replace S := S.nk [.own (.slice none 0 0) 37 5 ([] : List GItem).length (([] : List GItem).flatMap GItem.enc), .blk b_p_s [v_p_s_L, .int .i64 p_s_at] 25] [(0, .pointer (some ⟨b_p_s, 0, none⟩)), (1, .int .i64 p_most), (5, (.slice none 0 0))] [true, true] rfl ⟨rfl, rfl, rfl, trivial⟩
 refine then_n ?_
 refine f_seq ?_
 refine f_seq ?_
 refine f_region ?_
 refine l_buildSlice S Tryd.underlying51 Tryd.sizeOf9 Tryd.zeroValue9 rfl rfl (pv := [(0, .string k_ic), (1, .string k_ia), (2, .string k_id), (3, .string k_ib), (4, .string k_ie)]) ⟨rfl, rfl, rfl, rfl, rfl, rfl, rfl, rfl, rfl, rfl, trivial⟩ (cs := [.string k_ic, .string k_ia, .string k_id, .string k_ib, .string k_ie]) (by kernel_rfl) rfl ?_; clear S; intro a w1 b1 hz1 hk1 S
 refine lv S (rn_move (S.tm rfl)) rfl ?_; clear S; intro a S
 replace S := S.litOwn (i := 0) (xs := [k_ic, k_ia, k_id, k_ib, k_ie]) rfl enc_str rfl rfl rfl
 replace S := S.nk [.own (.slice (some ⟨b1, 0, none⟩) 5 5) 9 1 ([k_ic, k_ia, k_id, k_ib, k_ie] : List ByteArray).length (([k_ic, k_ia, k_id, k_ib, k_ie] : List ByteArray).flatMap eStr), .own (.slice none 0 0) 37 5 ([] : List GItem).length (([] : List GItem).flatMap GItem.enc), .blk b_p_s [v_p_s_L, .int .i64 p_s_at] 25] [(0, .pointer (some ⟨b_p_s, 0, none⟩)), (1, .int .i64 p_most), (5, (.slice none 0 0)), (8, (.slice (some ⟨b1, 0, none⟩) 5 5)), (9, .int .i64 p_most)] [] rfl ⟨rfl, rfl, rfl, rfl, rfl, trivial⟩
 obtain ⟨φ1, hl1, hs1, S⟩ := S.freezeT (xs := ([k_ic, k_ia, k_id, k_ib, k_ie] : List ByteArray)) (enc := eStr) (i := 0) rfl (fun c hc hh => not_fps S (i := 2) rfl rfl (j := 0) rfl rfl (by simp at hc; subst hc; exact hh))
 replace S := S.nk [.own (.slice none 0 0) 37 5 ([] : List GItem).length (([] : List GItem).flatMap GItem.enc), .blk b_p_s [v_p_s_L, .int .i64 p_s_at] 25] [(0, .pointer (some ⟨b_p_s, 0, none⟩)), (1, .int .i64 p_most), (5, (.slice none 0 0)), (8, (.slice (some ⟨b1, 0, none⟩) 5 5)), (9, .int .i64 p_most)] [] rfl ⟨rfl, rfl, rfl, rfl, rfl, trivial⟩
 obtain ⟨hc1, h⟩ := chkE h
 obtain ⟨v1, hs2, hr1⟩ := rn_cutTh (a := a) (x := .tmp 8) (y' := .tmp 9) (ty := 51) sl_51 (ownV_slcT enc_str hs1) (S.tm rfl) (S.tm rfl) hc1
 refine lv S (hr1 _) rfl ?_; clear S; intro a S
 clear hr1
 refine lv S (rn_lenT sl_51 (S.tm rfl) (slc_len hs2)) rfl ?_; clear S; intro a S
 refine lv S (rn_move rfl) rfl ?_; clear S; intro a S
 refine l_done ?_
 replace S := S.nk [.own (.slice none 0 0) 37 5 ([] : List GItem).length (([] : List GItem).flatMap GItem.enc), .blk b_p_s [v_p_s_L, .int .i64 p_s_at] 25] [(0, .pointer (some ⟨b_p_s, 0, none⟩)), (5, (.slice none 0 0)), (10, v1), (11, .int .i64 ((cut ([k_ic, k_ia, k_id, k_ib, k_ie] : List ByteArray) 0 p_most).length : Int)), (12, .int .i64 0)] [true, true] rfl ⟨rfl, rfl, rfl, rfl, rfl, trivial⟩
 refine then_n ?_
 obtain ⟨j1, hj1, h⟩ := joinE h
 refine f_join (fun a w' => ∃ x1 : List GItem, ∃ x2 : Int, ∃ v2 : Value, j1 x1 x2 = some r ∧ Sx w [b_p_s] φ1 [.own v2 37 5 x1.length (x1.flatMap GItem.enc), .blk b_p_s [v_p_s_L, .int .i64 x2] 25] [(5, v2)] 38 a w') ?_ ?_
 ·refine wp_block ?_
  refine f_loop (fun (ys1 : List ByteArray) a w' => ∃ i1 : Nat, ∃ x1 : List GItem, ∃ x2 : Int, ∃ v2 : Value, (∃ dn, cut ([k_ic, k_ia, k_id, k_ib, k_ie] : List ByteArray) 0 p_most = dn ++ ys1 ∧ dn.length = i1) ∧ Stream_RightItems_l1 p_s_L j1 ys1 i1 x1 x2 = some r ∧ Sx w [b_p_s] φ1 [.own v2 37 5 x1.length (x1.flatMap GItem.enc), .blk b_p_s [v_p_s_L, .int .i64 x2] 25] [(0, .pointer (some ⟨b_p_s, 0, none⟩)), (5, v2), (10, v1), (11, .int .i64 ((cut ([k_ic, k_ia, k_id, k_ib, k_ie] : List ByteArray) 0 p_most).length : Int)), (12, .int .i64 (i1 : Int))] 38 a w') List.length (cut ([k_ic, k_ia, k_id, k_ib, k_ie] : List ByteArray) 0 p_most) ⟨0, ([] : List GItem), p_s_at, (.slice none 0 0), ⟨[], rfl, rfl⟩, h, S.nf [true, true] rfl ⟨rfl, rfl, rfl, rfl, rfl, trivial⟩⟩ ?_
  clear S h; rintro ys1 a w2 ⟨i1, x1, x2, v2, ⟨dn, hd1, hi1⟩, h, S⟩
  cases ys1 with
  | nil =>
   rw [Stream_RightItems_l1.eq_1] at h
   refine f_seq ?_
   refine f_region ?_
   refine lv S (rn_lss (S.tm rfl) (S.tm rfl)) rfl ?_; clear S; intro a S
   refine l_done ?_
   replace S := S.nk [.own v2 37 5 x1.length (x1.flatMap GItem.enc), .blk b_p_s [v_p_s_L, .int .i64 x2] 25] [(0, .pointer (some ⟨b_p_s, 0, none⟩)), (5, v2), (10, v1), (11, .int .i64 ((cut ([k_ic, k_ia, k_id, k_ib, k_ie] : List ByteArray) 0 p_most).length : Int)), (12, .int .i64 (i1 : Int)), (13, .bool (decide ((i1 : Int) < ((cut ([k_ic, k_ia, k_id, k_ib, k_ie] : List ByteArray) 0 p_most).length : Int))))] [true, true] rfl ⟨rfl, rfl, rfl, rfl, rfl, rfl, trivial⟩
   refine then_n ?_
   refine f_seq ?_
   refine wp_cond_false ((S.tm rfl).trans (congrArg Value.bool (rng_nil hd1 hi1))) ?_
   refine wp_exit ?_
   refine then_x ?_
   refine then_x ?_
   refine x_same ?_
   refine then_n ?_
   exact ⟨x1, x2, v2, h, S.nf [true, true] rfl ⟨rfl, trivial⟩⟩
  | cons y1 ys1 =>
   rw [Stream_RightItems_l1.eq_2] at h
   refine f_seq ?_
   refine f_region ?_
   refine lv S (rn_lss (S.tm rfl) (S.tm rfl)) rfl ?_; clear S; intro a S
   refine l_done ?_
   replace S := S.nk [.own v2 37 5 x1.length (x1.flatMap GItem.enc), .blk b_p_s [v_p_s_L, .int .i64 x2] 25] [(0, .pointer (some ⟨b_p_s, 0, none⟩)), (5, v2), (10, v1), (11, .int .i64 ((cut ([k_ic, k_ia, k_id, k_ib, k_ie] : List ByteArray) 0 p_most).length : Int)), (12, .int .i64 (i1 : Int)), (13, .bool (decide ((i1 : Int) < ((cut ([k_ic, k_ia, k_id, k_ib, k_ie] : List ByteArray) 0 p_most).length : Int))))] [true, true] rfl ⟨rfl, rfl, rfl, rfl, rfl, rfl, trivial⟩
   refine then_n ?_
   refine f_seq ?_
   refine wp_cond_true ((S.tm rfl).trans (congrArg Value.bool (rng_cons hd1 hi1))) ?_
   refine wp_skip ?_
   refine then_n ?_
   refine f_seq ?_
   obtain ⟨j2, hj2, h⟩ := joinE h
   refine f_join (fun a w' => ∃ x3 : List GItem, ∃ x4 : Int, ∃ v3 : Value, j2 x3 x4 = some r ∧ Sx w [b_p_s] φ1 [.own v3 37 5 x3.length (x3.flatMap GItem.enc), .blk b_p_s [v_p_s_L, .int .i64 x4] 25] [(0, .pointer (some ⟨b_p_s, 0, none⟩)), (5, v3), (10, v1), (11, .int .i64 ((cut ([k_ic, k_ia, k_id, k_ib, k_ie] : List ByteArray) 0 p_most).length : Int)), (12, .int .i64 (i1 : Int))] 38 a w') ?_ ?_
   ·refine wp_block ?_
    refine f_seq ?_
    refine f_region ?_
    obtain ⟨b2, o1, hm1, hr2⟩ := rn_indexT (a := a) (x := .tmp 10) (y := .tmp 12) (ty := 0) sl_51 hs2 (get_mid hd1 hi1) rfl (S.tm rfl) (S.tm rfl)
    refine lv S (hr2 _) rfl ?_; clear S; intro a S
    clear hr2
    refine lv S (rn_ld Tryd.isAgg9 (off := o1) (o := 0) (S.tm rfl) (hm1.at S.emb) rfl) rfl ?_; clear S; intro a S
    refine lv S (rn_assign (S.tm rfl)) rfl ?_; clear S; intro a S
    refine l_done ?_
    replace S := S.nk [.own v2 37 5 x1.length (x1.flatMap GItem.enc), .blk b_p_s [v_p_s_L, .int .i64 x2] 25] [(0, .pointer (some ⟨b_p_s, 0, none⟩)), (5, v2), (7, .string y1), (10, v1), (11, .int .i64 ((cut ([k_ic, k_ia, k_id, k_ib, k_ie] : List ByteArray) 0 p_most).length : Int)), (12, .int .i64 (i1 : Int))] [true, true] rfl ⟨rfl, rfl, rfl, rfl, rfl, rfl, trivial⟩
    refine then_n ?_
    refine f_seq ?_
    refine f_region ?_
    refine lv S (rn_move (S.tm rfl)) rfl ?_; clear S; intro a S
    obtain ⟨r1, hr3, h⟩ := bindE h
    refine l_enter1 1 S (b := b_p_s) rfl rfl (fun _ => .blk b_p_s [v_p_s_L, .int .i64 r1.2] 25) (fun _ => run_call (vs := [.pointer (some ⟨b_p_s, 0, none⟩), .int .i64 6]) ⟨(S.tm rfl), rfl, trivial⟩ Tryd.call15) (Stream_Flip_ok _ b_p_s v_p_s_L p_s_L (hs_p_s_L.mono (S.le_arg (fp_sub (i := 1) (e := .blk b_p_s [v_p_s_L, .int .i64 x2] 25) rfl))) x2 (S.holds _ (List.mem_of_getElem? (i := 1) rfl)) 6 _ hr3) rfl (fun _ _ _ h => ⟨h.1, fun _ hc => by cases hc; rfl⟩) ?_; clear S; intro v4 a w5 hv1 hk2 hn1 S
    replace hv1 := hv1.2
    subst hv1
    refine lv S (rn_not (S.tm rfl)) rfl ?_; clear S; intro a S
    refine l_done ?_
    replace S := S.nk [.own v2 37 5 x1.length (x1.flatMap GItem.enc), .blk b_p_s [v_p_s_L, .int .i64 r1.2] 25] [(0, .pointer (some ⟨b_p_s, 0, none⟩)), (5, v2), (7, .string y1), (10, v1), (11, .int .i64 ((cut ([k_ic, k_ia, k_id, k_ib, k_ie] : List ByteArray) 0 p_most).length : Int)), (12, .int .i64 (i1 : Int)), (18, .bool (!r1.1))] [true, true] rfl ⟨rfl, rfl, rfl, rfl, rfl, rfl, rfl, trivial⟩
    refine then_n ?_
    obtain ⟨j3, hj3, h⟩ := joinE h
    refine f_join (fun a w' => ∃ x5 : List GItem, ∃ x6 : Int, ∃ v5 : Value, j3 x5 x6 = some r ∧ Sx w [b_p_s] φ1 [.own v5 37 5 x5.length (x5.flatMap GItem.enc), .blk b_p_s [v_p_s_L, .int .i64 x6] 25] [(0, .pointer (some ⟨b_p_s, 0, none⟩)), (5, v5), (10, v1), (11, .int .i64 ((cut ([k_ic, k_ia, k_id, k_ib, k_ie] : List ByteArray) 0 p_most).length : Int)), (12, .int .i64 (i1 : Int))] 38 a w') ?_ ?_
    ·refine f_cond (S.tm rfl) (fun hb1 => ?_) (fun hb1 => ?_)
     ·replace h := iteT h hb1
      refine f_region ?_
      refine lv S (rn_move (S.tm rfl)) rfl ?_; clear S; intro a S
      refine lv S (rn_move (S.tm rfl)) rfl ?_; clear S; intro a S
      refine lv S (rn_move (S.tm rfl)) rfl ?_; clear S; intro a S
      refine l_buildSlice S Tryd.underlying22 Tryd.sizeOf3 Tryd.zeroValue3 rfl rfl (pv := [(0, .int .i64 1), (1, .int .i64 1), (2, .int .i64 2), (3, .int .i64 3)]) ⟨rfl, rfl, rfl, rfl, rfl, rfl, rfl, rfl, trivial⟩ (cs := [.int .i64 1, .int .i64 1, .int .i64 2, .int .i64 3]) (by kernel_rfl) rfl ?_; clear S; intro a w7 b3 hz2 hk3 S
      obtain ⟨r2, hr4, h⟩ := bindE h
      refine l_enter1 2 S (b := b_p_s) rfl rfl (fun _ => .blk b_p_s [v_p_s_L, .int .i64 r2.2] 25) (fun _ => run_call (vs := [.pointer (some ⟨b_p_s, 0, none⟩), .slice (some ⟨b3, 0, none⟩) 4 4]) ⟨(S.tm rfl), (S.tm rfl), trivial⟩ Tryd.call16) (Stream_Pick_ok _ b_p_s v_p_s_L p_s_L (hs_p_s_L.mono (S.le_arg (fp_sub (i := 2) (e := .blk b_p_s [v_p_s_L, .int .i64 r1.2] 25) rfl))) r1.2 (S.holds _ (List.mem_of_getElem? (i := 2) rfl)) (.slice (some ⟨b3, 0, none⟩) 4 4) [1, 1, 2, 3] (lit_slcT enc_int S (i := 0) rfl rfl rfl rfl ((ne_fp (i := 2) (j := 0) (e := .blk b_p_s [v_p_s_L, .int .i64 r1.2] 25) (e' := .blk b3 [.int .i64 1, .int .i64 1, .int .i64 2, .int .i64 3] 3) S rfl rfl rfl) _ rfl)) _ hr4) rfl (fun _ _ _ h => ⟨h.1, fun _ hc => by cases hc; rfl⟩) ?_; clear S; intro v6 a w8 hv2 hk4 hn2 S
      replace hv2 := hv2.2
      subst hv2
      refine lv S (rn_move (S.tm rfl)) rfl ?_; clear S; intro a S
      refine l_buildSlice S Tryd.underlying22 Tryd.sizeOf3 Tryd.zeroValue3 rfl rfl (pv := [(0, .int .i64 50), (1, .int .i64 100)]) ⟨rfl, rfl, rfl, rfl, trivial⟩ (cs := [.int .i64 50, .int .i64 100]) (by kernel_rfl) rfl ?_; clear S; intro a w9 b4 hz3 hk5 S
      obtain ⟨r3, hr5, h⟩ := bindE h
      refine l_enter1 3 S (b := b_p_s) rfl rfl (fun _ => .blk b_p_s [v_p_s_L, .int .i64 r3.2] 25) (fun _ => run_call (vs := [.pointer (some ⟨b_p_s, 0, none⟩), .slice (some ⟨b4, 0, none⟩) 2 2]) ⟨(S.tm rfl), (S.tm rfl), trivial⟩ Tryd.call16) (Stream_Pick_ok _ b_p_s v_p_s_L p_s_L (hs_p_s_L.mono (S.le_arg (fp_sub (i := 3) (e := .blk b_p_s [v_p_s_L, .int .i64 r2.2] 25) rfl))) r2.2 (S.holds _ (List.mem_of_getElem? (i := 3) rfl)) (.slice (some ⟨b4, 0, none⟩) 2 2) [50, 100] (lit_slcT enc_int S (i := 0) rfl rfl rfl rfl ((ne_fp (i := 3) (j := 0) (e := .blk b_p_s [v_p_s_L, .int .i64 r2.2] 25) (e' := .blk b4 [.int .i64 50, .int .i64 100] 3) S rfl rfl rfl) _ rfl)) _ hr5) rfl (fun _ _ _ h => ⟨h.1, fun _ hc => by cases hc; rfl⟩) ?_; clear S; intro v7 a w10 hv3 hk6 hn3 S
      replace hv3 := hv3.2
      subst hv3
      refine lv S (rn_move (S.tm rfl)) rfl ?_; clear S; intro a S
      refine l_buildSlice S Tryd.underlying22 Tryd.sizeOf3 Tryd.zeroValue3 rfl rfl (pv := [(0, .int .i64 0), (1, .int .i64 10), (2, .int .i64 60)]) ⟨rfl, rfl, rfl, rfl, rfl, rfl, trivial⟩ (cs := [.int .i64 0, .int .i64 10, .int .i64 60]) (by kernel_rfl) rfl ?_; clear S; intro a w11 b5 hz4 hk7 S
      obtain ⟨r4, hr6, h⟩ := bindE h
      refine l_enter1 4 S (b := b_p_s) rfl rfl (fun _ => .blk b_p_s [v_p_s_L, .int .i64 r4.2] 25) (fun _ => run_call (vs := [.pointer (some ⟨b_p_s, 0, none⟩), .slice (some ⟨b5, 0, none⟩) 3 3]) ⟨(S.tm rfl), (S.tm rfl), trivial⟩ Tryd.call16) (Stream_Pick_ok _ b_p_s v_p_s_L p_s_L (hs_p_s_L.mono (S.le_arg (fp_sub (i := 4) (e := .blk b_p_s [v_p_s_L, .int .i64 r3.2] 25) rfl))) r3.2 (S.holds _ (List.mem_of_getElem? (i := 4) rfl)) (.slice (some ⟨b5, 0, none⟩) 3 3) [0, 10, 60] (lit_slcT enc_int S (i := 0) rfl rfl rfl rfl ((ne_fp (i := 4) (j := 0) (e := .blk b_p_s [v_p_s_L, .int .i64 r3.2] 25) (e' := .blk b5 [.int .i64 0, .int .i64 10, .int .i64 60] 3) S rfl rfl rfl) _ rfl)) _ hr6) rfl (fun _ _ _ h => ⟨h.1, fun _ hc => by cases hc; rfl⟩) ?_; clear S; intro v8 a w12 hv4 hk8 hn4 S
      replace hv4 := hv4.2
      subst hv4
      refine lv S (rn_move (S.tm rfl)) rfl ?_; clear S; intro a S
      refine l_buildSlice S Tryd.underlying22 Tryd.sizeOf3 Tryd.zeroValue3 rfl rfl (pv := [(0, .int .i64 0), (1, .int .i64 20), (2, .int .i64 50), (3, .int .i64 200)]) ⟨rfl, rfl, rfl, rfl, rfl, rfl, rfl, rfl, trivial⟩ (cs := [.int .i64 0, .int .i64 20, .int .i64 50, .int .i64 200]) (by kernel_rfl) rfl ?_; clear S; intro a w13 b6 hz5 hk9 S
      obtain ⟨r5, hr7, h⟩ := bindE h
      refine l_enter1 5 S (b := b_p_s) rfl rfl (fun _ => .blk b_p_s [v_p_s_L, .int .i64 r5.2] 25) (fun _ => run_call (vs := [.pointer (some ⟨b_p_s, 0, none⟩), .slice (some ⟨b6, 0, none⟩) 4 4]) ⟨(S.tm rfl), (S.tm rfl), trivial⟩ Tryd.call16) (Stream_Pick_ok _ b_p_s v_p_s_L p_s_L (hs_p_s_L.mono (S.le_arg (fp_sub (i := 5) (e := .blk b_p_s [v_p_s_L, .int .i64 r4.2] 25) rfl))) r4.2 (S.holds _ (List.mem_of_getElem? (i := 5) rfl)) (.slice (some ⟨b6, 0, none⟩) 4 4) [0, 20, 50, 200] (lit_slcT enc_int S (i := 0) rfl rfl rfl rfl ((ne_fp (i := 5) (j := 0) (e := .blk b_p_s [v_p_s_L, .int .i64 r4.2] 25) (e' := .blk b6 [.int .i64 0, .int .i64 20, .int .i64 50, .int .i64 200] 3) S rfl rfl rfl) _ rfl)) _ hr7) rfl (fun _ _ _ h => ⟨h.1, fun _ hc => by cases hc; rfl⟩) ?_; clear S; intro v9 a w14 hv5 hk10 hn5 S
      replace hv5 := hv5.2
      subst hv5
      refine lv S (rn_bld bt_37 (pv := [(0, .string y1), (1, .int .i64 r2.1), (2, .int .i64 r3.1), (3, .int .i64 r4.1), (4, .int .i64 r5.1)]) ⟨rfl, (S.tm rfl), rfl, (S.tm rfl), rfl, (S.tm rfl), rfl, (S.tm rfl), rfl, (S.tm rfl), trivial⟩ (cs := [.string y1, .int .i64 r2.1, .int .i64 r3.1, .int .i64 r4.1, .int .i64 r5.1]) (by kernel_rfl)) rfl ?_; clear S; intro a S
      refine l_buildSlice S Tryd.underlying26 Tryd.sizeOf37 Tryd.zeroValue37 rfl rfl (pv := [(0, .agg #[.string y1, .int .i64 r2.1, .int .i64 r3.1, .int .i64 r4.1, .int .i64 r5.1])]) ⟨rfl, (S.tm rfl), trivial⟩ (cs := [.string y1, .int .i64 r2.1, .int .i64 r3.1, .int .i64 r4.1, .int .i64 r5.1]) (by kernel_rfl) rfl ?_; clear S; intro a w15 b7 hz6 hk11 S
      obtain ⟨hc2, h⟩ := chkE h
      refine l_appendT sl_26 GItem.enc_ok S (S.tm rfl) (i := 5) rfl (S.tm rfl) (j := 0) rfl (ys := [(GItem.mk y1 r2.1 r3.1 r4.1 r5.1)]) rfl rfl rfl rfl (by have := room_lt hc2; omega) rfl ?_; clear S; intro v10 a w16 hk12 S
      refine lv S (rn_assign (S.tm rfl)) rfl ?_; clear S; intro a S
      refine l_done ?_
      replace S := S.nk [.own v10 37 5 (x1 ++ [(GItem.mk y1 r2.1 r3.1 r4.1 r5.1)]).length ((x1 ++ [(GItem.mk y1 r2.1 r3.1 r4.1 r5.1)]).flatMap GItem.enc), .blk b_p_s [v_p_s_L, .int .i64 r5.2] 25] [(0, .pointer (some ⟨b_p_s, 0, none⟩)), (5, v10), (10, v1), (11, .int .i64 ((cut ([k_ic, k_ia, k_id, k_ib, k_ie] : List ByteArray) 0 p_most).length : Int)), (12, .int .i64 (i1 : Int))] [false, false, false, false, false, true, true] rfl ⟨rfl, rfl, rfl, rfl, rfl, trivial⟩
      refine then_n ?_
      exact ⟨(x1 ++ [(GItem.mk y1 r2.1 r3.1 r4.1 r5.1)]), r5.2, v10, h, S.nf [true, true] rfl ⟨rfl, rfl, rfl, rfl, rfl, trivial⟩⟩
     ·replace h := iteF h hb1
      refine wp_skip ?_
      refine then_n ?_
      exact ⟨x1, r1.2, v2, h, S.nf [true, true] rfl ⟨rfl, rfl, rfl, rfl, rfl, trivial⟩⟩
    clear S h; rintro a w6 ⟨x5, x6, v5, h, S⟩; rw [hj3] at h; clear hj3 j3
    refine blk_n ?_
    refine then_n ?_
    exact ⟨x5, x6, v5, h, S.nf [true, true] rfl ⟨rfl, rfl, rfl, rfl, rfl, trivial⟩⟩
   clear S h; rintro a w4 ⟨x3, x4, v3, h, S⟩; rw [hj2] at h; clear hj2 j2
   refine then_n ?_
   refine f_region ?_
   refine lv S (rn_add (S.tm rfl) rfl) rfl ?_; clear S; intro a S
   refine lv S (rn_move (S.tm rfl)) rfl ?_; clear S; intro a S
   refine l_done ?_
   replace S := S.nk [.own v3 37 5 x3.length (x3.flatMap GItem.enc), .blk b_p_s [v_p_s_L, .int .i64 x4] 25] [(0, .pointer (some ⟨b_p_s, 0, none⟩)), (5, v3), (10, v1), (11, .int .i64 ((cut ([k_ic, k_ia, k_id, k_ib, k_ie] : List ByteArray) 0 p_most).length : Int)), (12, .int .i64 (W ((i1 : Int) + 1)))] [true, true] rfl ⟨rfl, rfl, rfl, rfl, rfl, trivial⟩
   refine then_n ?_
   exact ⟨ys1, ⟨i1 + 1, x3, x4, v3, ⟨_, (hd1).trans (List.append_cons _ _ _), by simp [hi1]⟩, h, S.nf [true, true] rfl ⟨rfl, rfl, rfl, rfl, (congrArg (fun z => some (Value.int .i64 z)) (rng_next hd1 hi1 (slc_max hs2))), trivial⟩⟩, Nat.lt_succ_self _⟩
 clear S h; rintro a w3 ⟨x1, x2, v2, h, S⟩; rw [hj1] at h; clear hj1 j1
 refine then_n ?_
 refine f_seq ?_
 refine f_region ?_
 refine lv S (rn_move (S.tm rfl)) rfl ?_; clear S; intro a S
 refine lv S (rn_assign (S.tm rfl)) rfl ?_; clear S; intro a S
 refine l_done ?_
 replace S := S.nk [.own v2 37 5 x1.length (x1.flatMap GItem.enc), .blk b_p_s [v_p_s_L, .int .i64 x2] 25] [(4, v2)] [true, true] rfl ⟨rfl, trivial⟩
 refine then_n ?_
 refine wp_ret ?_
 obtain rfl := Option.some.inj h
 exact f_ret S Tryd.results4 rfl ⟨(S.holds _ (List.mem_of_getElem? (i := 1) rfl)), (own_retX S (i := 0) rfl (fun c hc hh => not_fps S (i := 1) rfl rfl (j := 0) rfl rfl (by simp at hc; subst hc; exact hh)))⟩
theorem Stream_Range_ok (w : World) (b_p_s : Nat) (v_p_s_L : Value) (p_s_L : List Int) (hs_p_s_L : Slc (view w [b_p_s]) 1 v_p_s_L (p_s_L.map eInt)) (p_s_at : Int) (hb_b_p_s : (LEnt.blk b_p_s [v_p_s_L, .int .i64 p_s_at] 25).holds w) (p_low : Int) (p_high : Int) (r : Int × Int) (h : Stream_Range p_s_L p_s_at p_low p_high = some r) :
    Calls Tryd.prog 5 [.pointer (some ⟨b_p_s, 0, none⟩), .int .i64 p_low, .int .i64 p_high].toArray w (Ret w [b_p_s] fun _ v w' => (LEnt.blk b_p_s [v_p_s_L, .int .i64 r.2] 25).holds w' ∧ v = .int .i64 r.1) := by
 refine f_enter [b_p_s] [.blk b_p_s [v_p_s_L, .int .i64 p_s_at] 25] Tryd.func5 rfl Tryd.ntmps5 rfl (fun e he => by simp only [List.mem_singleton] at he; subst he; exact hb_b_p_s) (by simp [fps, LEnt.fp]) (by simp [fps, LEnt.fp]) fun a S => ?_
 unfold Stream_Range at h
 replace S := S.nk [.blk b_p_s [v_p_s_L, .int .i64 p_s_at] 25] [(0, .pointer (some ⟨b_p_s, 0, none⟩)), (1, .int .i64 p_low), (2, .int .i64 p_high)] [true] rfl ⟨rfl, rfl, rfl, trivial⟩
 refine f_seq ?_
 refine f_region ?_
 refine lv S (rn_assign rfl) rfl ?_; clear S; intro a S
 refine l_done ?_
 replace S := S.nk [.blk b_p_s [v_p_s_L, .int .i64 p_s_at] 25] [(0, .pointer (some ⟨b_p_s, 0, none⟩)), (1, .int .i64 p_low), (2, .int .i64 p_high)] [true] rfl ⟨rfl, rfl, rfl, trivial⟩
 refine then_n ?_
 refine f_seq ?_
 refine f_seq ?_
 refine f_region ?_
 refine lv S (rn_move (S.tm rfl)) rfl ?_; clear S; intro a S
 refine lv S (rn_move (S.tm rfl)) rfl ?_; clear S; intro a S
 refine lv S (rn_lss (S.tm rfl) (S.tm rfl)) rfl ?_; clear S; intro a S
 refine l_done ?_
 replace S := S.nk [.blk b_p_s [v_p_s_L, .int .i64 p_s_at] 25] [(0, .pointer (some ⟨b_p_s, 0, none⟩)), (1, .int .i64 p_low), (2, .int .i64 p_high), (9, .bool (decide (p_high < p_low)))] [true] rfl ⟨rfl, rfl, rfl, rfl, trivial⟩
 refine then_n ?_
 refine f_cond (S.tm rfl) (fun hb1 => ?_) (fun hb1 => ?_)
 ·replace h := iteT h hb1
  refine f_seq ?_
  refine f_region ?_
  refine lv S (rn_move (S.tm rfl)) rfl ?_; clear S; intro a S
  refine lv S (rn_assign (S.tm rfl)) rfl ?_; clear S; intro a S
  refine l_done ?_
  replace S := S.nk [.blk b_p_s [v_p_s_L, .int .i64 p_s_at] 25] [(6, .int .i64 p_low)] [true] rfl ⟨rfl, trivial⟩
  refine then_n ?_
  refine wp_ret ?_
  refine then_r ?_
  obtain rfl := Option.some.inj h
  exact f_ret S Tryd.results5 rfl ⟨(S.holds _ (List.mem_of_getElem? (i := 0) rfl)), rfl⟩
 ·replace h := iteF h hb1
  refine wp_skip ?_
  refine then_n ?_
  refine f_seq ?_
  refine f_region ?_
  refine lv S (rn_move (S.tm rfl)) rfl ?_; clear S; intro a S
  refine lv S (rn_move (S.tm rfl)) rfl ?_; clear S; intro a S
  refine lv S (rn_move (S.tm rfl)) rfl ?_; clear S; intro a S
  refine lv S (rn_move (S.tm rfl)) rfl ?_; clear S; intro a S
  refine lv S (rn_sub (S.tm rfl) (S.tm rfl)) rfl ?_; clear S; intro a S
  refine lv S (rn_add (S.tm rfl) rfl) rfl ?_; clear S; intro a S
  obtain ⟨r1, hr1, h⟩ := bindE h
  refine l_enter1 0 S (b := b_p_s) rfl rfl (fun _ => .blk b_p_s [v_p_s_L, .int .i64 r1.2] 25) (fun _ => run_call (vs := [.pointer (some ⟨b_p_s, 0, none⟩), .int .i64 (W ((W (p_high - p_low)) + 1))]) ⟨(S.tm rfl), (S.tm rfl), trivial⟩ Tryd.call17) (Stream_Next_ok _ b_p_s v_p_s_L p_s_L (hs_p_s_L.mono (S.le_arg (fp_sub (i := 0) (e := .blk b_p_s [v_p_s_L, .int .i64 p_s_at] 25) rfl))) p_s_at (S.holds _ (List.mem_of_getElem? (i := 0) rfl)) (W ((W (p_high - p_low)) + 1)) _ hr1) rfl (fun _ _ _ h => ⟨h.1, fun _ hc => by cases hc; rfl⟩) ?_; clear S; intro v1 a w1 hv1 hk1 hn1 S
  replace hv1 := hv1.2
  subst hv1
  refine lv S (rn_add (S.tm rfl) (S.tm rfl)) rfl ?_; clear S; intro a S
  refine lv S (rn_assign (S.tm rfl)) rfl ?_; clear S; intro a S
  refine l_done ?_
  replace S := S.nk [.blk b_p_s [v_p_s_L, .int .i64 r1.2] 25] [(6, .int .i64 (W (p_low + r1.1)))] [true] rfl ⟨rfl, trivial⟩
  refine then_n ?_
  refine wp_ret ?_
  obtain rfl := Option.some.inj h
  exact f_ret S Tryd.results5 rfl ⟨(S.holds _ (List.mem_of_getElem? (i := 0) rfl)), rfl⟩
theorem strings_Trim_ok (w : World) (s c : ByteArray) (r : ByteArray) (h : strings_Trim s c = some r) : Calls Tryd.prog 57 [.string s, .string c].toArray w (Ret w [] fun _ v _ => v = .string r) := by
  unfold strings_Trim at h
  obtain ⟨h1, h⟩ := chkE h
  obtain ⟨h2, h⟩ := chkE h
  obtain ⟨h3, h⟩ := chkE h
  obtain rfl := Option.some.inj h
  exact ret_of_below (Any.strings_Trim_laid Tryd.lays160 (by kernel_rfl) s c w (by simpa using h1) (by simpa using h2) (fun j b hb => by simpa using List.all_eq_true.1 h3 b (List.mem_of_getElem? hb)))
theorem words_IsKey_ok (w : World) (p_s : ByteArray) (r : Bool) (h : words_IsKey p_s = some r) :
    Calls Tryd.prog 35 [.string p_s].toArray w (Ret w [] fun _ v _ => v = .bool r) := by
 refine f_enter [] [] Tryd.func35 rfl Tryd.ntmps35 rfl (by simp) (by simp [fps]) (by simp [fps]) fun a S => ?_
 unfold words_IsKey at h
 replace S := S.nk [] [(0, .string p_s)] [] rfl ⟨rfl, trivial⟩
 refine f_seq ?_
 refine f_region ?_
 refine lv S (rn_assign rfl) rfl ?_; clear S; intro a S
 refine l_done ?_
 replace S := S.nk [] [(0, .string p_s)] [] rfl ⟨rfl, trivial⟩
 refine then_n ?_
 refine f_seq ?_
 refine f_region ?_
 refine lv S (rn_move (S.tm rfl)) rfl ?_; clear S; intro a S
 refine lv S (rn_len_str Tryd.underlying9 (S.tm rfl)) rfl ?_; clear S; intro a S
 refine lv S (rn_geq (S.tm rfl) rfl) rfl ?_; clear S; intro a S
 refine lv S (rn_move (S.tm rfl)) rfl ?_; clear S; intro a S
 refine f_cutm 4 (fun a w' => Keep [] w w' ∧ Sx w [] nov [] [(0, .string p_s), (10, .bool ((decide (1 ≤ (p_s.size : Int))) && (decide ((p_s.size : Int) ≤ 40))))] 26 a w') ?_ ?_
 ·rcases Bool.eq_false_or_eq_true (decide (1 ≤ (p_s.size : Int))) with hb1 | hb1
  ·refine l_want S rfl rfl rfl hb1 ?_
   refine lv S (rn_move (S.tm rfl)) rfl ?_; clear S; intro a S
   refine l_want S rfl rfl rfl hb1 ?_
   refine lv S (rn_len_str Tryd.underlying9 (S.tm rfl)) rfl ?_; clear S; intro a S
   refine l_want S rfl rfl rfl hb1 ?_
   refine lv S (rn_leq (S.tm rfl) rfl) rfl ?_; clear S; intro a S
   refine lv S (rn_and_t hb1 (S.tm rfl) (S.tm rfl)) rfl ?_; clear S; intro a S
   refine l_done ?_
   refine then_n ?_
   exact ⟨Keep.refl _ _, S.nf [] rfl ⟨rfl, rfl, trivial⟩⟩
  ·refine l_skip S rfl rfl rfl (neq_f hb1) rfl ?_ rfl; clear S; intro a S
   refine l_skip S rfl rfl rfl (neq_f hb1) rfl ?_ rfl; clear S; intro a S
   refine l_skip S rfl rfl rfl (neq_f hb1) rfl ?_ rfl; clear S; intro a S
   refine lv S (rn_and_f (decide ((p_s.size : Int) ≤ 40)) hb1 (S.tm rfl) rfl) rfl ?_; clear S; intro a S
   refine l_done ?_
   refine then_n ?_
   exact ⟨Keep.refl _ _, S.nf [] rfl ⟨rfl, rfl, trivial⟩⟩
 clear S; rintro a w1 ⟨hk1, S⟩
 refine lv S (rn_move (S.tm rfl)) rfl ?_; clear S; intro a S
 obtain ⟨j1, hj1, h⟩ := joinE h
 refine f_cutm 4 (fun a w' => ∃ c1, j1 c1 = some r ∧ Keep [] w1 w' ∧ Sx w [] nov [] [(0, .string p_s), (15, .bool c1)] 26 a w') ?_ ?_
 ·rcases Bool.eq_false_or_eq_true ((decide (1 ≤ (p_s.size : Int))) && (decide ((p_s.size : Int) ≤ 40))) with hb2 | hb2
  ·replace h := iteT h hb2
   refine l_want S rfl rfl rfl hb2 ?_
   refine lv S (rn_move (S.tm rfl)) rfl ?_; clear S; intro a S
   refine l_want S rfl rfl rfl hb2 ?_
   obtain ⟨hc1, h⟩ := chkE h
   refine lv S (rn_sindexT Tryd.underlying9 (S.tm rfl) rfl hc1) rfl ?_; clear S; intro a S
   refine l_want S rfl rfl rfl hb2 ?_
   refine lv S (rn_geq (S.tm rfl) rfl) rfl ?_; clear S; intro a S
   refine lv S (rn_and_t hb2 (S.tm rfl) (S.tm rfl)) rfl ?_; clear S; intro a S
   refine l_done ?_
   refine then_n ?_
   exact ⟨_, h, Keep.refl _ _, S.nf [] rfl ⟨rfl, rfl, trivial⟩⟩
  ·replace h := iteF h hb2
   refine l_skip S rfl rfl rfl (neq_f hb2) rfl ?_ rfl; clear S; intro a S
   refine l_skip S rfl rfl rfl (neq_f hb2) rfl ?_ rfl; clear S; intro a S
   refine l_skip S rfl rfl rfl (neq_f hb2) rfl ?_ rfl; clear S; intro a S
   refine lv S (rn_and_f true hb2 (S.tm rfl) rfl) rfl ?_; clear S; intro a S
   refine l_done ?_
   refine then_n ?_
   exact ⟨_, h, Keep.refl _ _, S.nf [] rfl ⟨rfl, rfl, trivial⟩⟩
 clear S h; rintro a w2 ⟨c1, h, hk2, S⟩; rw [hj1] at h; clear hj1 j1
 refine lv S (rn_move (S.tm rfl)) rfl ?_; clear S; intro a S
 obtain ⟨j2, hj2, h⟩ := joinE h
 refine f_cutm 4 (fun a w' => ∃ c2, j2 c2 = some r ∧ Keep [] w2 w' ∧ Sx w [] nov [] [(0, .string p_s), (20, .bool c2)] 26 a w') ?_ ?_
 ·rcases Bool.eq_false_or_eq_true c1 with hb3 | hb3
  ·replace h := iteT h hb3
   refine l_want S rfl rfl rfl hb3 ?_
   refine lv S (rn_move (S.tm rfl)) rfl ?_; clear S; intro a S
   refine l_want S rfl rfl rfl hb3 ?_
   obtain ⟨hc2, h⟩ := chkE h
   refine lv S (rn_sindexT Tryd.underlying9 (S.tm rfl) rfl hc2) rfl ?_; clear S; intro a S
   refine l_want S rfl rfl rfl hb3 ?_
   refine lv S (rn_leq (S.tm rfl) rfl) rfl ?_; clear S; intro a S
   refine lv S (rn_and_t hb3 (S.tm rfl) (S.tm rfl)) rfl ?_; clear S; intro a S
   refine l_done ?_
   refine then_n ?_
   exact ⟨_, h, Keep.refl _ _, S.nf [] rfl ⟨rfl, rfl, trivial⟩⟩
  ·replace h := iteF h hb3
   refine l_skip S rfl rfl rfl (neq_f hb3) rfl ?_ rfl; clear S; intro a S
   refine l_skip S rfl rfl rfl (neq_f hb3) rfl ?_ rfl; clear S; intro a S
   refine l_skip S rfl rfl rfl (neq_f hb3) rfl ?_ rfl; clear S; intro a S
   refine lv S (rn_and_f true hb3 (S.tm rfl) rfl) rfl ?_; clear S; intro a S
   refine l_done ?_
   refine then_n ?_
   exact ⟨_, h, Keep.refl _ _, S.nf [] rfl ⟨rfl, rfl, trivial⟩⟩
 clear S h; rintro a w3 ⟨c2, h, hk3, S⟩; rw [hj2] at h; clear hj2 j2
 refine lv S (rn_move (S.tm rfl)) rfl ?_; clear S; intro a S
 obtain ⟨j3, hj3, h⟩ := joinE h
 refine f_cutm 4 (fun a w' => ∃ c3, j3 c3 = some r ∧ Keep [] w3 w' ∧ Sx w [] nov [] [(25, .bool c3)] 26 a w') ?_ ?_
 ·rcases Bool.eq_false_or_eq_true c2 with hb4 | hb4
  ·replace h := iteT h hb4
   refine l_want S rfl rfl rfl hb4 ?_
   refine lv S (rn_move (S.tm rfl)) rfl ?_; clear S; intro a S
   refine l_want S rfl rfl rfl hb4 ?_
   obtain ⟨r1, hr1, h⟩ := bindE h
   refine l_enter S (fun _ => run_call (vs := [.string p_s, .string k_abcdefghijkl_h0e2e2c]) ⟨(S.tm rfl), rfl, trivial⟩ Tryd.call57) (strings_Trim_ok _ p_s k_abcdefghijkl_h0e2e2c _ hr1) rfl ?_; clear S; intro v1 a w5 hv1 hk4 hn1 S
   subst hv1
   refine l_want S rfl rfl rfl hb4 ?_
   refine lv S (rn_seql (S.tm rfl) rfl) rfl ?_; clear S; intro a S
   refine lv S (rn_and_t hb4 (S.tm rfl) (S.tm rfl)) rfl ?_; clear S; intro a S
   refine l_done ?_
   refine then_n ?_
   exact ⟨_, h, hk4, S.nf [] rfl ⟨rfl, trivial⟩⟩
  ·replace h := iteF h hb4
   refine l_skip S rfl rfl rfl (neq_f hb4) rfl ?_ rfl; clear S; intro a S
   refine l_skip S rfl rfl rfl (neq_f hb4) rfl ?_ rfl; clear S; intro a S
   refine l_skip S rfl rfl rfl (neq_f hb4) rfl ?_ rfl; clear S; intro a S
   refine lv S (rn_and_f true hb4 (S.tm rfl) rfl) rfl ?_; clear S; intro a S
   refine l_done ?_
   refine then_n ?_
   exact ⟨_, h, Keep.refl _ _, S.nf [] rfl ⟨rfl, trivial⟩⟩
 clear S h; rintro a w4 ⟨c3, h, hk5, S⟩; rw [hj3] at h; clear hj3 j3
 refine lv S (rn_assign (S.tm rfl)) rfl ?_; clear S; intro a S
 refine l_done ?_
 replace S := S.nk [] [(2, .bool c3)] [] rfl ⟨rfl, trivial⟩
 refine then_n ?_
 refine wp_ret ?_
 obtain rfl := Option.some.inj h
 exact f_ret S Tryd.results35 rfl rfl
theorem words_Within_ok (w : World) (p_n : Int) (p_low : Int) (p_high : Int) (r : Bool) (h : words_Within p_n p_low p_high = r) :
    Calls Tryd.prog 36 [.int .i64 p_n, .int .i64 p_low, .int .i64 p_high].toArray w (Ret w [] fun _ v _ => v = .bool r) := by
 refine f_enter [] [] Tryd.func36 rfl Tryd.ntmps36 rfl (by simp) (by simp [fps]) (by simp [fps]) fun a S => ?_
 unfold words_Within at h
 replace S := S.nk [] [(0, .int .i64 p_n), (1, .int .i64 p_low), (2, .int .i64 p_high)] [] rfl ⟨rfl, rfl, rfl, trivial⟩
 refine f_seq ?_
 refine f_region ?_
 refine lv S (rn_assign rfl) rfl ?_; clear S; intro a S
 refine l_done ?_
 replace S := S.nk [] [(0, .int .i64 p_n), (1, .int .i64 p_low), (2, .int .i64 p_high)] [] rfl ⟨rfl, rfl, rfl, trivial⟩
 refine then_n ?_
 refine f_seq ?_
 refine f_region ?_
 refine lv S (rn_move (S.tm rfl)) rfl ?_; clear S; intro a S
 refine lv S (rn_move (S.tm rfl)) rfl ?_; clear S; intro a S
 refine lv S (rn_geq (S.tm rfl) (S.tm rfl)) rfl ?_; clear S; intro a S
 refine lv S (rn_move (S.tm rfl)) rfl ?_; clear S; intro a S
 refine f_cutm 4 (fun a w' => Keep [] w w' ∧ Sx w [] nov [] [(14, .bool ((decide (p_low ≤ p_n)) && (decide (p_n ≤ p_high))))] 15 a w') ?_ ?_
 ·rcases Bool.eq_false_or_eq_true (decide (p_low ≤ p_n)) with hb1 | hb1
  ·refine l_want S rfl rfl rfl hb1 ?_
   refine lv S (rn_move (S.tm rfl)) rfl ?_; clear S; intro a S
   refine l_want S rfl rfl rfl hb1 ?_
   refine lv S (rn_move (S.tm rfl)) rfl ?_; clear S; intro a S
   refine l_want S rfl rfl rfl hb1 ?_
   refine lv S (rn_leq (S.tm rfl) (S.tm rfl)) rfl ?_; clear S; intro a S
   refine lv S (rn_and_t hb1 (S.tm rfl) (S.tm rfl)) rfl ?_; clear S; intro a S
   refine l_done ?_
   refine then_n ?_
   exact ⟨Keep.refl _ _, S.nf [] rfl ⟨rfl, trivial⟩⟩
  ·refine l_skip S rfl rfl rfl (neq_f hb1) rfl ?_ rfl; clear S; intro a S
   refine l_skip S rfl rfl rfl (neq_f hb1) rfl ?_ rfl; clear S; intro a S
   refine l_skip S rfl rfl rfl (neq_f hb1) rfl ?_ rfl; clear S; intro a S
   refine lv S (rn_and_f (decide (p_n ≤ p_high)) hb1 (S.tm rfl) rfl) rfl ?_; clear S; intro a S
   refine l_done ?_
   refine then_n ?_
   exact ⟨Keep.refl _ _, S.nf [] rfl ⟨rfl, trivial⟩⟩
 clear S; rintro a w1 ⟨hk1, S⟩
 refine lv S (rn_assign (S.tm rfl)) rfl ?_; clear S; intro a S
 refine l_done ?_
 replace S := S.nk [] [(6, .bool ((decide (p_low ≤ p_n)) && (decide (p_n ≤ p_high))))] [] rfl ⟨rfl, trivial⟩
 refine then_n ?_
 refine wp_ret ?_
 subst h
 exact f_ret S Tryd.results36 rfl rfl
theorem session_CheckItems_ok (w : World) (v_p_l : Value) (p_l : List GItem) (hs_p_l : Slc (view w []) 5 v_p_l (p_l.map GItem.enc)) (r : Int) (h : session_CheckItems p_l = some r) :
    Calls Tryd.prog 18 [v_p_l].toArray w (Ret w [] fun _ v _ => v = .int .i64 r) := by
 refine f_enter [] [] Tryd.func18 rfl Tryd.ntmps18 rfl (by simp) (by simp [fps]) (by simp [fps]) fun a S => ?_
 unfold session_CheckItems at h
 replace S := S.nk [] [(0, v_p_l)] [] rfl ⟨rfl, trivial⟩
 refine f_seq ?_
 refine f_region ?_
 refine lv S (rn_assign rfl) rfl ?_; clear S; intro a S
 refine l_done ?_
 replace S := S.nk [] [(0, v_p_l)] [] rfl ⟨rfl, trivial⟩
 refine then_n ?_
 refine f_seq ?_
 refine f_seq ?_
 refine f_region ?_
 refine lv S (rn_move (S.tm rfl)) rfl ?_; clear S; intro a S
 refine lv S (rn_lenT sl_26 (S.tm rfl) (slc_len hs_p_l)) rfl ?_; clear S; intro a S
 refine lv S (rn_gtr (S.tm rfl) rfl) rfl ?_; clear S; intro a S
 refine l_done ?_
 replace S := S.nk [] [(0, v_p_l), (8, .bool (decide (100 < (p_l.length : Int))))] [] rfl ⟨rfl, rfl, trivial⟩
 refine then_n ?_
 refine f_cond (S.tm rfl) (fun hb1 => ?_) (fun hb1 => ?_)
 ·replace h := iteT h hb1
  refine f_seq ?_
  refine f_region ?_
  refine lv S (rn_assign rfl) rfl ?_; clear S; intro a S
  refine l_done ?_
  replace S := S.nk [] [(2, .int .i64 2)] [] rfl ⟨rfl, trivial⟩
  refine then_n ?_
  refine wp_ret ?_
  refine then_r ?_
  obtain rfl := Option.some.inj h
  exact f_ret S Tryd.results18 rfl rfl
 ·replace h := iteF h hb1
  refine wp_skip ?_
  refine then_n ?_
  refine f_seq ?_
  refine f_region ?_
  refine l_makeMap (κ := ByteArray) (ν := Bool) S rfl Value.string Value.bool ?_; clear S; intro a w1 b1 hz1 hk1 S
  refine lv S (rn_assign (S.tm rfl)) rfl ?_; clear S; intro a S
  refine l_done ?_
  replace S := S.nk [.map b1 (ments Value.string Value.bool ([] : List (ByteArray × Bool))) ([] : List (ByteArray × Bool)).length] [(0, v_p_l), (3, .map (some b1))] [true] rfl ⟨rfl, rfl, trivial⟩
  refine then_n ?_
  refine f_seq ?_
  refine f_seq ?_
  refine f_region ?_
  refine lv S (rn_move (S.tm rfl)) rfl ?_; clear S; intro a S
  refine lv S (rn_lenT sl_26 (S.tm rfl) (slc_len hs_p_l)) rfl ?_; clear S; intro a S
  refine lv S (rn_move rfl) rfl ?_; clear S; intro a S
  refine l_done ?_
  replace S := S.nk [.map b1 (ments Value.string Value.bool ([] : List (ByteArray × Bool))) ([] : List (ByteArray × Bool)).length] [(3, .map (some b1)), (10, v_p_l), (11, .int .i64 (p_l.length : Int)), (12, .int .i64 0)] [true] rfl ⟨rfl, rfl, rfl, rfl, trivial⟩
  refine then_n ?_
  obtain ⟨j1, hj1, h⟩ := joinE h
  refine f_join (fun a w' => ∃ x1 : List (ByteArray × Bool), j1 x1 = some r ∧ Sx w [] nov [.map b1 (ments Value.string Value.bool x1) x1.length] [] 53 a w') ?_ ?_
  ·refine wp_block ?_
   refine f_loop (fun (ys1 : List GItem) a w' => ∃ i1 : Nat, ∃ x1 : List (ByteArray × Bool), (∃ dn, p_l = dn ++ ys1 ∧ dn.length = i1) ∧ session_CheckItems_l1 j1 ys1 i1 x1 = some r ∧ Sx w [] nov [.map b1 (ments Value.string Value.bool x1) x1.length] [(3, .map (some b1)), (10, v_p_l), (11, .int .i64 (p_l.length : Int)), (12, .int .i64 (i1 : Int))] 53 a w') List.length p_l ⟨0, ([] : List (ByteArray × Bool)), ⟨[], rfl, rfl⟩, h, S.nf [true] rfl ⟨rfl, rfl, rfl, rfl, trivial⟩⟩ ?_
   clear S h; rintro ys1 a w2 ⟨i1, x1, ⟨dn, hd1, hi1⟩, h, S⟩
   cases ys1 with
   | nil =>
    rw [session_CheckItems_l1.eq_1] at h
    refine f_seq ?_
    refine f_region ?_
    refine lv S (rn_lss (S.tm rfl) (S.tm rfl)) rfl ?_; clear S; intro a S
    refine l_done ?_
    replace S := S.nk [.map b1 (ments Value.string Value.bool x1) x1.length] [(3, .map (some b1)), (10, v_p_l), (11, .int .i64 (p_l.length : Int)), (12, .int .i64 (i1 : Int)), (13, .bool (decide ((i1 : Int) < (p_l.length : Int))))] [true] rfl ⟨rfl, rfl, rfl, rfl, rfl, trivial⟩
    refine then_n ?_
    refine f_seq ?_
    refine wp_cond_false ((S.tm rfl).trans (congrArg Value.bool (rng_nil hd1 hi1))) ?_
    refine wp_exit ?_
    refine then_x ?_
    refine then_x ?_
    refine x_same ?_
    refine then_n ?_
    exact ⟨x1, h, S.nf [true] rfl trivial⟩
   | cons y1 ys1 =>
    rw [session_CheckItems_l1.eq_2] at h
    refine f_seq ?_
    refine f_region ?_
    refine lv S (rn_lss (S.tm rfl) (S.tm rfl)) rfl ?_; clear S; intro a S
    refine l_done ?_
    replace S := S.nk [.map b1 (ments Value.string Value.bool x1) x1.length] [(3, .map (some b1)), (10, v_p_l), (11, .int .i64 (p_l.length : Int)), (12, .int .i64 (i1 : Int)), (13, .bool (decide ((i1 : Int) < (p_l.length : Int))))] [true] rfl ⟨rfl, rfl, rfl, rfl, rfl, trivial⟩
    refine then_n ?_
    refine f_seq ?_
    refine wp_cond_true ((S.tm rfl).trans (congrArg Value.bool (rng_cons hd1 hi1))) ?_
    refine wp_skip ?_
    refine then_n ?_
    refine f_seq ?_
    refine wp_block ?_
    refine f_seq ?_
    refine f_region ?_
    obtain ⟨b2, o1, hm1, hr1⟩ := rn_indexT (a := a) (x := .tmp 10) (y := .tmp 12) (ty := 0) sl_26 hs_p_l (get_mid hd1 hi1) rfl (S.tm rfl) (S.tm rfl)
    refine lv S (hr1 _) rfl ?_; clear S; intro a S
    clear hr1
    refine lv S (rn_ldA Tryd.isAgg37 Tryd.sizeOf37 (off := o1) (o := 0) (part := [.string y1.Key, .int .i64 y1.Heats, .int .i64 y1.Long, .int .i64 y1.Gap, .int .i64 y1.Break]) rfl rfl (S.tm rfl) (hm1.at S.emb0)) rfl ?_; clear S; intro a S
    refine l_alloc S Tryd.zeroValue37 (cs := [.string k_empty, .int .i64 0, .int .i64 0, .int .i64 0, .int .i64 0]) rfl rfl ?_; clear S; intro a w4 b3 hz2 hk2 S
    refine l_store S (S.tm rfl) (S.tm rfl) (i := 0) (off := 0) rfl Tryd.sizeOf37 (vs := [.string y1.Key, .int .i64 y1.Heats, .int .i64 y1.Long, .int .i64 y1.Gap, .int .i64 y1.Break]) rfl rfl rfl rfl ?_; clear S; intro w5 hk3 S
    refine l_done ?_
    replace S := S.nk [.blk b3 [.string y1.Key, .int .i64 y1.Heats, .int .i64 y1.Long, .int .i64 y1.Gap, .int .i64 y1.Break] 37, .map b1 (ments Value.string Value.bool x1) x1.length] [(3, .map (some b1)), (5, .pointer (some ⟨b3, 0, none⟩)), (10, v_p_l), (11, .int .i64 (p_l.length : Int)), (12, .int .i64 (i1 : Int))] [true, true] rfl ⟨rfl, rfl, rfl, rfl, rfl, trivial⟩
    refine then_n ?_
    refine f_seq ?_
    refine wp_block ?_
    refine f_seq ?_
    refine f_region ?_
    refine lv S (rn_fld fa_37_0 (S.tm rfl)) rfl ?_; clear S; intro a S
    refine lv S (rn_load Tryd.isAgg9 (S.tm rfl) (S.cell (i := 0) rfl rfl)) rfl ?_; clear S; intro a S
    obtain ⟨r1, hr2, h⟩ := bindE h
    refine l_enter S (fun _ => run_call (vs := [.string y1.Key]) ⟨(S.tm rfl), trivial⟩ Tryd.call35) (words_IsKey_ok _ y1.Key _ hr2) rfl ?_; clear S; intro v1 a w6 hv1 hk4 hn1 S
    subst hv1
    refine lv S (rn_not (S.tm rfl)) rfl ?_; clear S; intro a S
    refine lv S (rn_assign (S.tm rfl)) rfl ?_; clear S; intro a S
    refine l_done ?_
    replace S := S.nk [.blk b3 [.string y1.Key, .int .i64 y1.Heats, .int .i64 y1.Long, .int .i64 y1.Gap, .int .i64 y1.Break] 37, .map b1 (ments Value.string Value.bool x1) x1.length] [(3, .map (some b1)), (5, .pointer (some ⟨b3, 0, none⟩)), (10, v_p_l), (11, .int .i64 (p_l.length : Int)), (12, .int .i64 (i1 : Int)), (16, .bool (!r1))] [true, true] rfl ⟨rfl, rfl, rfl, rfl, rfl, rfl, trivial⟩
    refine then_n ?_
    refine f_cond (S.tm rfl) (fun hb2 => ?_) (fun hb2 => ?_)
    ·replace h := iteT h hb2
     refine f_seq ?_
     refine f_region ?_
     refine lv S (rn_assign rfl) rfl ?_; clear S; intro a S
     refine l_done ?_
     replace S := S.nk [] [(2, .int .i64 5)] [false, false] rfl ⟨rfl, trivial⟩
     refine then_n ?_
     refine wp_ret ?_
     refine blk_r ?_
     refine then_r ?_
     refine blk_r ?_
     refine then_r ?_
     refine then_r ?_
     refine blk_r ?_
     refine then_r ?_
     refine then_r ?_
     obtain rfl := Option.some.inj h
     exact f_ret S Tryd.results18 rfl rfl
    ·replace h := iteF h hb2
     refine f_seq ?_
     refine f_region ?_
     refine lv S (rn_move (S.tm rfl)) rfl ?_; clear S; intro a S
     refine lv S (rn_fld fa_37_0 (S.tm rfl)) rfl ?_; clear S; intro a S
     refine lv S (rn_load Tryd.isAgg9 (S.tm rfl) (S.cell (i := 0) rfl rfl)) rfl ?_; clear S; intro a S
     refine lv S (rn_lookup (kv := Value.string) (vv := Value.bool) (m := x1) (key := y1.Key) (z := false) (S.map_at (i := 1) rfl) Tryd.underlying82 (keyT_str Tryd.underlying9) Tryd.zeroValue4 (S.tm rfl) (S.tm rfl)) rfl ?_; clear S; intro a S
     refine lv S (rn_assign (S.tm rfl)) rfl ?_; clear S; intro a S
     refine l_done ?_
     replace S := S.nk [.blk b3 [.string y1.Key, .int .i64 y1.Heats, .int .i64 y1.Long, .int .i64 y1.Gap, .int .i64 y1.Break] 37, .map b1 (ments Value.string Value.bool x1) x1.length] [(3, .map (some b1)), (5, .pointer (some ⟨b3, 0, none⟩)), (10, v_p_l), (11, .int .i64 (p_l.length : Int)), (12, .int .i64 (i1 : Int)), (21, .bool (mgetD x1 y1.Key false))] [true, true] rfl ⟨rfl, rfl, rfl, rfl, rfl, rfl, trivial⟩
     refine then_n ?_
     refine f_cond (S.tm rfl) (fun hb3 => ?_) (fun hb3 => ?_)
     ·replace h := iteT h hb3
      refine f_seq ?_
      refine f_region ?_
      refine lv S (rn_assign rfl) rfl ?_; clear S; intro a S
      refine l_done ?_
      replace S := S.nk [] [(2, .int .i64 6)] [false, false] rfl ⟨rfl, trivial⟩
      refine then_n ?_
      refine wp_ret ?_
      refine blk_r ?_
      refine then_r ?_
      refine blk_r ?_
      refine then_r ?_
      refine then_r ?_
      refine blk_r ?_
      refine then_r ?_
      refine then_r ?_
      obtain rfl := Option.some.inj h
      exact f_ret S Tryd.results18 rfl rfl
     ·replace h := iteF h hb3
      refine f_seq ?_
      refine f_region ?_
      refine lv S (rn_fld fa_37_1 (S.tm rfl)) rfl ?_; clear S; intro a S
      refine lv S (rn_load Tryd.isAgg3 (S.tm rfl) (S.cell (i := 0) rfl rfl)) rfl ?_; clear S; intro a S
      refine l_enter S (fun _ => run_call (vs := [.int .i64 y1.Heats, .int .i64 1, .int .i64 60]) ⟨(S.tm rfl), rfl, rfl, trivial⟩ Tryd.call36) (words_Within_ok _ y1.Heats 1 60 _ rfl) rfl ?_; clear S; intro v2 a w7 hv2 hk5 hn2 S
      subst hv2
      refine lv S (rn_not (S.tm rfl)) rfl ?_; clear S; intro a S
      refine lv S (rn_move (S.tm rfl)) rfl ?_; clear S; intro a S
      refine f_cutm 5 (fun a w' => Keep [] w7 w' ∧ Sx w [] nov [.blk b3 [.string y1.Key, .int .i64 y1.Heats, .int .i64 y1.Long, .int .i64 y1.Gap, .int .i64 y1.Break] 37, .map b1 (ments Value.string Value.bool x1) x1.length] [(3, .map (some b1)), (5, .pointer (some ⟨b3, 0, none⟩)), (10, v_p_l), (11, .int .i64 (p_l.length : Int)), (12, .int .i64 (i1 : Int)), (36, .bool ((!(words_Within y1.Heats 1 60)) || (!(words_Within y1.Long 1 3600000))))] 53 a w') ?_ ?_
      ·rcases Bool.eq_false_or_eq_true (!(words_Within y1.Heats 1 60)) with hb4 | hb4
       ·refine l_skip S rfl rfl rfl (neq_t hb4) rfl ?_ rfl; clear S; intro a S
        refine l_skip S rfl rfl rfl (neq_t hb4) rfl ?_ rfl; clear S; intro a S
        refine l_skip S rfl rfl rfl (neq_t hb4) rfl ?_ rfl; clear S; intro a S
        refine l_skip S rfl rfl rfl (neq_t hb4) rfl ?_ rfl; clear S; intro a S
        refine lv S (rn_or_t (!(words_Within y1.Long 1 3600000)) hb4 (S.tm rfl) rfl) rfl ?_; clear S; intro a S
        refine l_done ?_
        refine then_n ?_
        exact ⟨Keep.refl _ _, S.nf [true, true] rfl ⟨rfl, rfl, rfl, rfl, rfl, rfl, trivial⟩⟩
       ·refine l_want S rfl rfl rfl hb4 ?_
        refine lv S (rn_fld fa_37_2 (S.tm rfl)) rfl ?_; clear S; intro a S
        refine l_want S rfl rfl rfl hb4 ?_
        refine lv S (rn_load Tryd.isAgg3 (S.tm rfl) (S.cell (i := 0) rfl rfl)) rfl ?_; clear S; intro a S
        refine l_want S rfl rfl rfl hb4 ?_
        refine l_enter S (fun _ => run_call (vs := [.int .i64 y1.Long, .int .i64 1, .int .i64 3600000]) ⟨(S.tm rfl), rfl, rfl, trivial⟩ Tryd.call36) (words_Within_ok _ y1.Long 1 3600000 _ rfl) rfl ?_; clear S; intro v3 a w9 hv3 hk6 hn3 S
        subst hv3
        refine l_want S rfl rfl rfl hb4 ?_
        refine lv S (rn_not (S.tm rfl)) rfl ?_; clear S; intro a S
        refine lv S (rn_or_f hb4 (S.tm rfl) (S.tm rfl)) rfl ?_; clear S; intro a S
        refine l_done ?_
        refine then_n ?_
        exact ⟨hk6, S.nf [true, true] rfl ⟨rfl, rfl, rfl, rfl, rfl, rfl, trivial⟩⟩
      clear S; rintro a w8 ⟨hk7, S⟩
      refine lv S (rn_move (S.tm rfl)) rfl ?_; clear S; intro a S
      refine f_cutm 5 (fun a w' => Keep [] w8 w' ∧ Sx w [] nov [.blk b3 [.string y1.Key, .int .i64 y1.Heats, .int .i64 y1.Long, .int .i64 y1.Gap, .int .i64 y1.Break] 37, .map b1 (ments Value.string Value.bool x1) x1.length] [(3, .map (some b1)), (5, .pointer (some ⟨b3, 0, none⟩)), (10, v_p_l), (11, .int .i64 (p_l.length : Int)), (12, .int .i64 (i1 : Int)), (42, .bool (((!(words_Within y1.Heats 1 60)) || (!(words_Within y1.Long 1 3600000))) || (!(words_Within y1.Gap 0 3600000))))] 53 a w') ?_ ?_
      ·rcases Bool.eq_false_or_eq_true ((!(words_Within y1.Heats 1 60)) || (!(words_Within y1.Long 1 3600000))) with hb5 | hb5
       ·refine l_skip S rfl rfl rfl (neq_t hb5) rfl ?_ rfl; clear S; intro a S
        refine l_skip S rfl rfl rfl (neq_t hb5) rfl ?_ rfl; clear S; intro a S
        refine l_skip S rfl rfl rfl (neq_t hb5) rfl ?_ rfl; clear S; intro a S
        refine l_skip S rfl rfl rfl (neq_t hb5) rfl ?_ rfl; clear S; intro a S
        refine lv S (rn_or_t (!(words_Within y1.Gap 0 3600000)) hb5 (S.tm rfl) rfl) rfl ?_; clear S; intro a S
        refine l_done ?_
        refine then_n ?_
        exact ⟨Keep.refl _ _, S.nf [true, true] rfl ⟨rfl, rfl, rfl, rfl, rfl, rfl, trivial⟩⟩
       ·refine l_want S rfl rfl rfl hb5 ?_
        refine lv S (rn_fld fa_37_3 (S.tm rfl)) rfl ?_; clear S; intro a S
        refine l_want S rfl rfl rfl hb5 ?_
        refine lv S (rn_load Tryd.isAgg3 (S.tm rfl) (S.cell (i := 0) rfl rfl)) rfl ?_; clear S; intro a S
        refine l_want S rfl rfl rfl hb5 ?_
        refine l_enter S (fun _ => run_call (vs := [.int .i64 y1.Gap, .int .i64 0, .int .i64 3600000]) ⟨(S.tm rfl), rfl, rfl, trivial⟩ Tryd.call36) (words_Within_ok _ y1.Gap 0 3600000 _ rfl) rfl ?_; clear S; intro v4 a w11 hv4 hk8 hn4 S
        subst hv4
        refine l_want S rfl rfl rfl hb5 ?_
        refine lv S (rn_not (S.tm rfl)) rfl ?_; clear S; intro a S
        refine lv S (rn_or_f hb5 (S.tm rfl) (S.tm rfl)) rfl ?_; clear S; intro a S
        refine l_done ?_
        refine then_n ?_
        exact ⟨hk8, S.nf [true, true] rfl ⟨rfl, rfl, rfl, rfl, rfl, rfl, trivial⟩⟩
      clear S; rintro a w10 ⟨hk9, S⟩
      refine lv S (rn_move (S.tm rfl)) rfl ?_; clear S; intro a S
      refine f_cutm 5 (fun a w' => Keep [] w10 w' ∧ Sx w [] nov [.blk b3 [.string y1.Key, .int .i64 y1.Heats, .int .i64 y1.Long, .int .i64 y1.Gap, .int .i64 y1.Break] 37, .map b1 (ments Value.string Value.bool x1) x1.length] [(3, .map (some b1)), (5, .pointer (some ⟨b3, 0, none⟩)), (10, v_p_l), (11, .int .i64 (p_l.length : Int)), (12, .int .i64 (i1 : Int)), (48, .bool ((((!(words_Within y1.Heats 1 60)) || (!(words_Within y1.Long 1 3600000))) || (!(words_Within y1.Gap 0 3600000))) || (!(words_Within y1.Break 0 3600000))))] 53 a w') ?_ ?_
      ·rcases Bool.eq_false_or_eq_true (((!(words_Within y1.Heats 1 60)) || (!(words_Within y1.Long 1 3600000))) || (!(words_Within y1.Gap 0 3600000))) with hb6 | hb6
       ·refine l_skip S rfl rfl rfl (neq_t hb6) rfl ?_ rfl; clear S; intro a S
        refine l_skip S rfl rfl rfl (neq_t hb6) rfl ?_ rfl; clear S; intro a S
        refine l_skip S rfl rfl rfl (neq_t hb6) rfl ?_ rfl; clear S; intro a S
        refine l_skip S rfl rfl rfl (neq_t hb6) rfl ?_ rfl; clear S; intro a S
        refine lv S (rn_or_t (!(words_Within y1.Break 0 3600000)) hb6 (S.tm rfl) rfl) rfl ?_; clear S; intro a S
        refine l_done ?_
        refine then_n ?_
        exact ⟨Keep.refl _ _, S.nf [true, true] rfl ⟨rfl, rfl, rfl, rfl, rfl, rfl, trivial⟩⟩
       ·refine l_want S rfl rfl rfl hb6 ?_
        refine lv S (rn_fld fa_37_4 (S.tm rfl)) rfl ?_; clear S; intro a S
        refine l_want S rfl rfl rfl hb6 ?_
        refine lv S (rn_load Tryd.isAgg3 (S.tm rfl) (S.cell (i := 0) rfl rfl)) rfl ?_; clear S; intro a S
        refine l_want S rfl rfl rfl hb6 ?_
        refine l_enter S (fun _ => run_call (vs := [.int .i64 y1.Break, .int .i64 0, .int .i64 3600000]) ⟨(S.tm rfl), rfl, rfl, trivial⟩ Tryd.call36) (words_Within_ok _ y1.Break 0 3600000 _ rfl) rfl ?_; clear S; intro v5 a w13 hv5 hk10 hn5 S
        subst hv5
        refine l_want S rfl rfl rfl hb6 ?_
        refine lv S (rn_not (S.tm rfl)) rfl ?_; clear S; intro a S
        refine lv S (rn_or_f hb6 (S.tm rfl) (S.tm rfl)) rfl ?_; clear S; intro a S
        refine l_done ?_
        refine then_n ?_
        exact ⟨hk10, S.nf [true, true] rfl ⟨rfl, rfl, rfl, rfl, rfl, rfl, trivial⟩⟩
      clear S; rintro a w12 ⟨hk11, S⟩
      refine lv S (rn_assign (S.tm rfl)) rfl ?_; clear S; intro a S
      refine l_done ?_
      replace S := S.nk [.blk b3 [.string y1.Key, .int .i64 y1.Heats, .int .i64 y1.Long, .int .i64 y1.Gap, .int .i64 y1.Break] 37, .map b1 (ments Value.string Value.bool x1) x1.length] [(3, .map (some b1)), (5, .pointer (some ⟨b3, 0, none⟩)), (10, v_p_l), (11, .int .i64 (p_l.length : Int)), (12, .int .i64 (i1 : Int)), (26, .bool ((((!(words_Within y1.Heats 1 60)) || (!(words_Within y1.Long 1 3600000))) || (!(words_Within y1.Gap 0 3600000))) || (!(words_Within y1.Break 0 3600000))))] [true, true] rfl ⟨rfl, rfl, rfl, rfl, rfl, rfl, trivial⟩
      refine then_n ?_
      refine f_cond (S.tm rfl) (fun hb7 => ?_) (fun hb7 => ?_)
      ·replace h := iteT h hb7
       refine f_seq ?_
       refine f_region ?_
       refine lv S (rn_assign rfl) rfl ?_; clear S; intro a S
       refine l_done ?_
       replace S := S.nk [] [(2, .int .i64 1)] [false, false] rfl ⟨rfl, trivial⟩
       refine then_n ?_
       refine wp_ret ?_
       refine blk_r ?_
       refine then_r ?_
       refine blk_r ?_
       refine then_r ?_
       refine then_r ?_
       refine blk_r ?_
       refine then_r ?_
       refine then_r ?_
       obtain rfl := Option.some.inj h
       exact f_ret S Tryd.results18 rfl rfl
      ·replace h := iteF h hb7
       refine wp_skip ?_
       refine blk_n ?_
       refine then_n ?_
       refine f_region ?_
       refine lv S (rn_move (S.tm rfl)) rfl ?_; clear S; intro a S
       refine lv S (rn_fld fa_37_0 (S.tm rfl)) rfl ?_; clear S; intro a S
       refine lv S (rn_load Tryd.isAgg9 (S.tm rfl) (S.cell (i := 0) rfl rfl)) rfl ?_; clear S; intro a S
       refine l_mapUpdate (kv := Value.string) (vv := Value.bool) (m := x1) (key := y1.Key) (val := true) S (i := 1) rfl Tryd.underlying82 (keyT_str Tryd.underlying9) (S.tm rfl) (S.tm rfl) rfl ?_; clear S; intro w14 hk12 S
       refine l_done ?_
       replace S := S.nk [.map b1 (ments Value.string Value.bool (mput x1 y1.Key true)) (mput x1 y1.Key true).length] [(3, .map (some b1)), (10, v_p_l), (11, .int .i64 (p_l.length : Int)), (12, .int .i64 (i1 : Int))] [false, true] rfl ⟨rfl, rfl, rfl, rfl, trivial⟩
       refine blk_n ?_
       refine then_n ?_
       refine f_region ?_
       refine lv S (rn_add (S.tm rfl) rfl) rfl ?_; clear S; intro a S
       refine lv S (rn_move (S.tm rfl)) rfl ?_; clear S; intro a S
       refine l_done ?_
       replace S := S.nk [.map b1 (ments Value.string Value.bool (mput x1 y1.Key true)) (mput x1 y1.Key true).length] [(3, .map (some b1)), (10, v_p_l), (11, .int .i64 (p_l.length : Int)), (12, .int .i64 (W ((i1 : Int) + 1)))] [true] rfl ⟨rfl, rfl, rfl, rfl, trivial⟩
       refine then_n ?_
       exact ⟨ys1, ⟨i1 + 1, (mput x1 y1.Key true), ⟨_, (hd1).trans (List.append_cons _ _ _), by simp [hi1]⟩, h, S.nf [true] rfl ⟨rfl, rfl, rfl, (congrArg (fun z => some (Value.int .i64 z)) (rng_next hd1 hi1 (slc_max hs_p_l))), trivial⟩⟩, Nat.lt_succ_self _⟩
  clear S h; rintro a w3 ⟨x1, h, S⟩; rw [hj1] at h; clear hj1 j1
  refine then_n ?_
  refine f_seq ?_
  refine f_region ?_
  refine lv S (rn_assign rfl) rfl ?_; clear S; intro a S
  refine l_done ?_
  replace S := S.nk [] [(2, .int .i64 0)] [false] rfl ⟨rfl, trivial⟩
  refine then_n ?_
  refine wp_ret ?_
  obtain rfl := Option.some.inj h
  exact f_ret S Tryd.results18 rfl rfl
theorem words_IsMoment_ok (w : World) (p_n : Int) (r : Bool) (h : words_IsMoment p_n = r) :
    Calls Tryd.prog 37 [.int .i64 p_n].toArray w (Ret w [] fun _ v _ => v = .bool r) := by
 refine f_enter [] [] Tryd.func37 rfl Tryd.ntmps37 rfl (by simp) (by simp [fps]) (by simp [fps]) fun a S => ?_
 unfold words_IsMoment at h
 replace S := S.nk [] [(0, .int .i64 p_n)] [] rfl ⟨rfl, trivial⟩
 refine f_seq ?_
 refine f_region ?_
 refine lv S (rn_assign rfl) rfl ?_; clear S; intro a S
 refine l_done ?_
 replace S := S.nk [] [(0, .int .i64 p_n)] [] rfl ⟨rfl, trivial⟩
 refine then_n ?_
 refine f_seq ?_
 refine f_region ?_
 refine lv S (rn_move (S.tm rfl)) rfl ?_; clear S; intro a S
 refine lv S (rn_geq (S.tm rfl) rfl) rfl ?_; clear S; intro a S
 refine lv S (rn_move (S.tm rfl)) rfl ?_; clear S; intro a S
 refine f_cutm 3 (fun a w' => Keep [] w w' ∧ Sx w [] nov [] [(8, .bool ((decide (0 ≤ p_n)) && (decide (p_n < 345686400000))))] 9 a w') ?_ ?_
 ·rcases Bool.eq_false_or_eq_true (decide (0 ≤ p_n)) with hb1 | hb1
  ·refine l_want S rfl rfl rfl hb1 ?_
   refine lv S (rn_move (S.tm rfl)) rfl ?_; clear S; intro a S
   refine l_want S rfl rfl rfl hb1 ?_
   refine lv S (rn_lss (S.tm rfl) rfl) rfl ?_; clear S; intro a S
   refine lv S (rn_and_t hb1 (S.tm rfl) (S.tm rfl)) rfl ?_; clear S; intro a S
   refine l_done ?_
   refine then_n ?_
   exact ⟨Keep.refl _ _, S.nf [] rfl ⟨rfl, trivial⟩⟩
  ·refine l_skip S rfl rfl rfl (neq_f hb1) rfl ?_ rfl; clear S; intro a S
   refine l_skip S rfl rfl rfl (neq_f hb1) rfl ?_ rfl; clear S; intro a S
   refine lv S (rn_and_f (decide (p_n < 345686400000)) hb1 (S.tm rfl) rfl) rfl ?_; clear S; intro a S
   refine l_done ?_
   refine then_n ?_
   exact ⟨Keep.refl _ _, S.nf [] rfl ⟨rfl, trivial⟩⟩
 clear S; rintro a w1 ⟨hk1, S⟩
 refine lv S (rn_assign (S.tm rfl)) rfl ?_; clear S; intro a S
 refine l_done ?_
 replace S := S.nk [] [(2, .bool ((decide (0 ≤ p_n)) && (decide (p_n < 345686400000))))] [] rfl ⟨rfl, trivial⟩
 refine then_n ?_
 refine wp_ret ?_
 subst h
 exact f_ret S Tryd.results37 rfl rfl
theorem session_timetable_ok (w : World) (v_p_l : Value) (p_l : List GItem) (hs_p_l : Slc (view w []) 5 v_p_l (p_l.map GItem.enc)) (p_from : Int) (r : (List GSlot)) (h : session_timetable p_l p_from = some r) :
    Calls Tryd.prog 38 [v_p_l, .int .i64 p_from].toArray w (Ret w [] fun τ v _ => OwnV τ 43 4 v r.length (r.flatMap GSlot.enc)) := by
 refine f_enter [] [] Tryd.func38 rfl Tryd.ntmps38 rfl (by simp) (by simp [fps]) (by simp [fps]) fun a S => ?_
 unfold session_timetable at h
 replace S := S.nk [] [(0, v_p_l), (1, .int .i64 p_from)] [] rfl ⟨rfl, rfl, trivial⟩
 refine f_seq ?_
 refine f_region ?_
 refine lv S (rn_assign rfl) rfl ?_; clear S; intro a S
 refine l_done ?_
 replace S := S.nk [] [(0, v_p_l), (1, .int .i64 p_from)] [] rfl ⟨rfl, rfl, trivial⟩
 refine then_n ?_
 refine f_seq ?_
 refine f_region ?_
 refine lv S (rn_assign rfl) rfl ?_; clear S; intro a S
 replace S := S.nil 43 4
 refine l_done ?_
 replace S := S.nk [.own (.slice none 0 0) 43 4 ([] : List GSlot).length (([] : List GSlot).flatMap GSlot.enc)] [(0, v_p_l), (1, .int .i64 p_from), (5, (.slice none 0 0))] [true] rfl ⟨rfl, rfl, rfl, trivial⟩
 refine then_n ?_
 refine f_seq ?_
 refine f_region ?_
 refine lv S (rn_move (S.tm rfl)) rfl ?_; clear S; intro a S
 refine lv S (rn_assign (S.tm rfl)) rfl ?_; clear S; intro a S
 refine l_done ?_
 replace S := S.nk [.own (.slice none 0 0) 43 4 ([] : List GSlot).length (([] : List GSlot).flatMap GSlot.enc)] [(0, v_p_l), (5, (.slice none 0 0)), (6, .int .i64 p_from)] [true] rfl ⟨rfl, rfl, rfl, trivial⟩
 refine then_n ?_
 refine f_seq ?_
 refine f_seq ?_
 refine f_region ?_
 refine lv S (rn_move (S.tm rfl)) rfl ?_; clear S; intro a S
 refine lv S (rn_lenT sl_26 (S.tm rfl) (slc_len hs_p_l)) rfl ?_; clear S; intro a S
 refine lv S (rn_move rfl) rfl ?_; clear S; intro a S
 refine l_done ?_
 replace S := S.nk [.own (.slice none 0 0) 43 4 ([] : List GSlot).length (([] : List GSlot).flatMap GSlot.enc)] [(5, (.slice none 0 0)), (6, .int .i64 p_from), (11, v_p_l), (12, .int .i64 (p_l.length : Int)), (13, .int .i64 0)] [true] rfl ⟨rfl, rfl, rfl, rfl, rfl, trivial⟩
 refine then_n ?_
 obtain ⟨j1, hj1, h⟩ := joinE h
 refine f_join (fun a w' => ∃ x1 : List GSlot, ∃ v1 : Value, j1 x1 = some r ∧ Sx w [] nov [.own v1 43 4 x1.length (x1.flatMap GSlot.enc)] [(5, v1)] 54 a w') ?_ ?_
 ·refine wp_block ?_
  refine f_loop (fun (ys1 : List GItem) a w' => ∃ i1 : Nat, ∃ x1 : List GSlot, ∃ x2 : Int, ∃ v1 : Value, (∃ dn, p_l = dn ++ ys1 ∧ dn.length = i1) ∧ session_timetable_l1 j1 ys1 i1 x1 x2 = some r ∧ Sx w [] nov [.own v1 43 4 x1.length (x1.flatMap GSlot.enc)] [(5, v1), (6, .int .i64 x2), (11, v_p_l), (12, .int .i64 (p_l.length : Int)), (13, .int .i64 (i1 : Int))] 54 a w') List.length p_l ⟨0, ([] : List GSlot), p_from, (.slice none 0 0), ⟨[], rfl, rfl⟩, h, S.nf [true] rfl ⟨rfl, rfl, rfl, rfl, rfl, trivial⟩⟩ ?_
  clear S h; rintro ys1 a w1 ⟨i1, x1, x2, v1, ⟨dn, hd1, hi1⟩, h, S⟩
  cases ys1 with
  | nil =>
   rw [session_timetable_l1.eq_1] at h
   refine f_seq ?_
   refine f_region ?_
   refine lv S (rn_lss (S.tm rfl) (S.tm rfl)) rfl ?_; clear S; intro a S
   refine l_done ?_
   replace S := S.nk [.own v1 43 4 x1.length (x1.flatMap GSlot.enc)] [(5, v1), (6, .int .i64 x2), (11, v_p_l), (12, .int .i64 (p_l.length : Int)), (13, .int .i64 (i1 : Int)), (14, .bool (decide ((i1 : Int) < (p_l.length : Int))))] [true] rfl ⟨rfl, rfl, rfl, rfl, rfl, rfl, trivial⟩
   refine then_n ?_
   refine f_seq ?_
   refine wp_cond_false ((S.tm rfl).trans (congrArg Value.bool (rng_nil hd1 hi1))) ?_
   refine wp_exit ?_
   refine then_x ?_
   refine then_x ?_
   refine x_same ?_
   refine then_n ?_
   exact ⟨x1, v1, h, S.nf [true] rfl ⟨rfl, trivial⟩⟩
  | cons y1 ys1 =>
   rw [session_timetable_l1.eq_2] at h
   refine f_seq ?_
   refine f_region ?_
   refine lv S (rn_lss (S.tm rfl) (S.tm rfl)) rfl ?_; clear S; intro a S
   refine l_done ?_
   replace S := S.nk [.own v1 43 4 x1.length (x1.flatMap GSlot.enc)] [(5, v1), (6, .int .i64 x2), (11, v_p_l), (12, .int .i64 (p_l.length : Int)), (13, .int .i64 (i1 : Int)), (14, .bool (decide ((i1 : Int) < (p_l.length : Int))))] [true] rfl ⟨rfl, rfl, rfl, rfl, rfl, rfl, trivial⟩
   refine then_n ?_
   refine f_seq ?_
   refine wp_cond_true ((S.tm rfl).trans (congrArg Value.bool (rng_cons hd1 hi1))) ?_
   refine wp_skip ?_
   refine then_n ?_
   refine f_seq ?_
   refine wp_block ?_
   refine f_seq ?_
   refine f_region ?_
   obtain ⟨b1, o1, hm1, hr1⟩ := rn_indexT (a := a) (x := .tmp 11) (y := .tmp 13) (ty := 0) sl_26 hs_p_l (get_mid hd1 hi1) rfl (S.tm rfl) (S.tm rfl)
   refine lv S (hr1 _) rfl ?_; clear S; intro a S
   clear hr1
   refine lv S (rn_ldA Tryd.isAgg37 Tryd.sizeOf37 (off := o1) (o := 0) (part := [.string y1.Key, .int .i64 y1.Heats, .int .i64 y1.Long, .int .i64 y1.Gap, .int .i64 y1.Break]) rfl rfl (S.tm rfl) (hm1.at S.emb0)) rfl ?_; clear S; intro a S
   refine l_alloc S Tryd.zeroValue37 (cs := [.string k_empty, .int .i64 0, .int .i64 0, .int .i64 0, .int .i64 0]) rfl rfl ?_; clear S; intro a w3 b2 hz1 hk1 S
   refine l_store S (S.tm rfl) (S.tm rfl) (i := 0) (off := 0) rfl Tryd.sizeOf37 (vs := [.string y1.Key, .int .i64 y1.Heats, .int .i64 y1.Long, .int .i64 y1.Gap, .int .i64 y1.Break]) rfl rfl rfl rfl ?_; clear S; intro w4 hk2 S
   refine l_done ?_
   replace S := S.nk [.blk b2 [.string y1.Key, .int .i64 y1.Heats, .int .i64 y1.Long, .int .i64 y1.Gap, .int .i64 y1.Break] 37, .own v1 43 4 x1.length (x1.flatMap GSlot.enc)] [(5, v1), (6, .int .i64 x2), (8, .pointer (some ⟨b2, 0, none⟩)), (11, v_p_l), (12, .int .i64 (p_l.length : Int)), (13, .int .i64 (i1 : Int))] [true, true] rfl ⟨rfl, rfl, rfl, rfl, rfl, rfl, trivial⟩
   refine then_n ?_
   refine f_seq ?_
   refine f_seq ?_
   refine f_region ?_
   refine lv S (rn_assign rfl) rfl ?_; clear S; intro a S
   refine l_done ?_
   replace S := S.nk [.blk b2 [.string y1.Key, .int .i64 y1.Heats, .int .i64 y1.Long, .int .i64 y1.Gap, .int .i64 y1.Break] 37, .own v1 43 4 x1.length (x1.flatMap GSlot.enc)] [(5, v1), (6, .int .i64 x2), (8, .pointer (some ⟨b2, 0, none⟩)), (9, .int .i64 1), (11, v_p_l), (12, .int .i64 (p_l.length : Int)), (13, .int .i64 (i1 : Int))] [true, true] rfl ⟨rfl, rfl, rfl, rfl, rfl, rfl, rfl, trivial⟩
   refine then_n ?_
   obtain ⟨j2, hj2, h⟩ := joinE h
   refine f_join (fun a w' => ∃ x3 : List GSlot, ∃ x4 : Int, ∃ v2 : Value, j2 x3 x4 = some r ∧ Sx w [] nov [.blk b2 [.string y1.Key, .int .i64 y1.Heats, .int .i64 y1.Long, .int .i64 y1.Gap, .int .i64 y1.Break] 37, .own v2 43 4 x3.length (x3.flatMap GSlot.enc)] [(5, v2), (6, .int .i64 x4), (8, .pointer (some ⟨b2, 0, none⟩)), (11, v_p_l), (12, .int .i64 (p_l.length : Int)), (13, .int .i64 (i1 : Int))] 54 a w') ?_ ?_
   ·refine wp_block ?_
    refine f_loop (fun (m1 : Nat) a w' => ∃ x3 : List GSlot, ∃ x4 : Int, ∃ x5 : Int, ∃ v2 : Value, session_timetable_l2 y1 j2 m1 x3 x4 x5 = some r ∧ Sx w [] nov [.blk b2 [.string y1.Key, .int .i64 y1.Heats, .int .i64 y1.Long, .int .i64 y1.Gap, .int .i64 y1.Break] 37, .own v2 43 4 x3.length (x3.flatMap GSlot.enc)] [(5, v2), (6, .int .i64 x4), (8, .pointer (some ⟨b2, 0, none⟩)), (9, .int .i64 x5), (11, v_p_l), (12, .int .i64 (p_l.length : Int)), (13, .int .i64 (i1 : Int))] 54 a w') id ((y1.Heats - 1).toNat + 2) ⟨x1, x2, 1, v1, h, S.nf [true, true] rfl ⟨rfl, rfl, rfl, rfl, rfl, rfl, rfl, trivial⟩⟩ ?_
    clear S h; rintro m1 a w5 ⟨x3, x4, x5, v2, h, S⟩
    cases m1 with
    | zero => rw [session_timetable_l2.eq_1] at h; cases h
    | succ m1 =>
     rw [session_timetable_l2.eq_2] at h
     refine f_seq ?_
     refine f_seq ?_
     refine f_region ?_
     refine lv S (rn_move (S.tm rfl)) rfl ?_; clear S; intro a S
     refine lv S (rn_fld fa_37_1 (S.tm rfl)) rfl ?_; clear S; intro a S
     refine lv S (rn_load Tryd.isAgg3 (S.tm rfl) (S.cell (i := 0) rfl rfl)) rfl ?_; clear S; intro a S
     refine lv S (rn_leq (S.tm rfl) (S.tm rfl)) rfl ?_; clear S; intro a S
     refine l_done ?_
     replace S := S.nk [.blk b2 [.string y1.Key, .int .i64 y1.Heats, .int .i64 y1.Long, .int .i64 y1.Gap, .int .i64 y1.Break] 37, .own v2 43 4 x3.length (x3.flatMap GSlot.enc)] [(5, v2), (6, .int .i64 x4), (8, .pointer (some ⟨b2, 0, none⟩)), (9, .int .i64 x5), (11, v_p_l), (12, .int .i64 (p_l.length : Int)), (13, .int .i64 (i1 : Int)), (20, .bool (decide (x5 ≤ y1.Heats)))] [true, true] rfl ⟨rfl, rfl, rfl, rfl, rfl, rfl, rfl, rfl, trivial⟩
     refine then_n ?_
     refine f_cond (S.tm rfl) (fun hb1 => ?_) (fun hb1 => ?_)
     ·replace h := iteT h hb1
      refine wp_skip ?_
      refine then_n ?_
      refine f_seq ?_
      obtain ⟨j3, hj3, h⟩ := joinE h
      refine f_join (fun a w' => ∃ x6 : List GSlot, ∃ x7 : Int, ∃ v3 : Value, j3 x6 x7 = some r ∧ Sx w [] nov [.blk b2 [.string y1.Key, .int .i64 y1.Heats, .int .i64 y1.Long, .int .i64 y1.Gap, .int .i64 y1.Break] 37, .own v3 43 4 x6.length (x6.flatMap GSlot.enc)] [(5, v3), (6, .int .i64 x7), (8, .pointer (some ⟨b2, 0, none⟩)), (9, .int .i64 x5), (11, v_p_l), (12, .int .i64 (p_l.length : Int)), (13, .int .i64 (i1 : Int))] 54 a w') ?_ ?_
      ·refine wp_block ?_
       refine f_seq ?_
       refine f_region ?_
       refine lv S (rn_move (S.tm rfl)) rfl ?_; clear S; intro a S
       refine lv S (rn_fld fa_37_0 (S.tm rfl)) rfl ?_; clear S; intro a S
       refine lv S (rn_load Tryd.isAgg9 (S.tm rfl) (S.cell (i := 0) rfl rfl)) rfl ?_; clear S; intro a S
       refine lv S (rn_move (S.tm rfl)) rfl ?_; clear S; intro a S
       refine lv S (rn_move (S.tm rfl)) rfl ?_; clear S; intro a S
       refine lv S (rn_move (S.tm rfl)) rfl ?_; clear S; intro a S
       refine lv S (rn_fld fa_37_2 (S.tm rfl)) rfl ?_; clear S; intro a S
       refine lv S (rn_load Tryd.isAgg3 (S.tm rfl) (S.cell (i := 0) rfl rfl)) rfl ?_; clear S; intro a S
       refine lv S (rn_add (S.tm rfl) (S.tm rfl)) rfl ?_; clear S; intro a S
       refine lv S (rn_bld bt_41 (pv := [(0, .int .i64 x4), (1, .int .i64 (W (x4 + y1.Long)))]) ⟨rfl, (S.tm rfl), rfl, (S.tm rfl), trivial⟩ (cs := [.int .i64 x4, .int .i64 (W (x4 + y1.Long))]) (by kernel_rfl)) rfl ?_; clear S; intro a S
       refine lv S (rn_bld bt_43 (pv := [(0, .string y1.Key), (1, .int .i64 x5), (2, .agg #[.int .i64 x4, .int .i64 (W (x4 + y1.Long))])]) ⟨rfl, (S.tm rfl), rfl, (S.tm rfl), rfl, (S.tm rfl), trivial⟩ (cs := [.string y1.Key, .int .i64 x5, .int .i64 x4, .int .i64 (W (x4 + y1.Long))]) (by kernel_rfl)) rfl ?_; clear S; intro a S
       refine l_buildSlice S Tryd.underlying29 Tryd.sizeOf43 Tryd.zeroValue43 rfl rfl (pv := [(0, .agg #[.string y1.Key, .int .i64 x5, .int .i64 x4, .int .i64 (W (x4 + y1.Long))])]) ⟨rfl, (S.tm rfl), trivial⟩ (cs := [.string y1.Key, .int .i64 x5, .int .i64 x4, .int .i64 (W (x4 + y1.Long))]) (by kernel_rfl) rfl ?_; clear S; intro a w8 b3 hz2 hk3 S
       obtain ⟨hc1, h⟩ := chkE h
       refine l_appendT sl_29 GSlot.enc_ok S (S.tm rfl) (i := 2) rfl (S.tm rfl) (j := 0) rfl (ys := [(GSlot.mk y1.Key x5 (GWindow.mk x4 (W (x4 + y1.Long))))]) rfl rfl rfl rfl (by have := room_lt hc1; omega) rfl ?_; clear S; intro v4 a w9 hk4 S
       refine lv S (rn_assign (S.tm rfl)) rfl ?_; clear S; intro a S
       refine l_done ?_
       replace S := S.nk [.blk b2 [.string y1.Key, .int .i64 y1.Heats, .int .i64 y1.Long, .int .i64 y1.Gap, .int .i64 y1.Break] 37, .own v4 43 4 (x3 ++ [(GSlot.mk y1.Key x5 (GWindow.mk x4 (W (x4 + y1.Long))))]).length ((x3 ++ [(GSlot.mk y1.Key x5 (GWindow.mk x4 (W (x4 + y1.Long))))]).flatMap GSlot.enc)] [(5, v4), (6, .int .i64 x4), (8, .pointer (some ⟨b2, 0, none⟩)), (9, .int .i64 x5), (11, v_p_l), (12, .int .i64 (p_l.length : Int)), (13, .int .i64 (i1 : Int))] [false, true, true] rfl ⟨rfl, rfl, rfl, rfl, rfl, rfl, rfl, trivial⟩
       refine then_n ?_
       refine f_seq ?_
       refine f_region ?_
       refine lv S (rn_move (S.tm rfl)) rfl ?_; clear S; intro a S
       refine lv S (rn_fld fa_37_2 (S.tm rfl)) rfl ?_; clear S; intro a S
       refine lv S (rn_load Tryd.isAgg3 (S.tm rfl) (S.cell (i := 0) rfl rfl)) rfl ?_; clear S; intro a S
       refine lv S (rn_add (S.tm rfl) (S.tm rfl)) rfl ?_; clear S; intro a S
       refine lv S (rn_assign (S.tm rfl)) rfl ?_; clear S; intro a S
       refine l_done ?_
       replace S := S.nk [.blk b2 [.string y1.Key, .int .i64 y1.Heats, .int .i64 y1.Long, .int .i64 y1.Gap, .int .i64 y1.Break] 37, .own v4 43 4 (x3 ++ [(GSlot.mk y1.Key x5 (GWindow.mk x4 (W (x4 + y1.Long))))]).length ((x3 ++ [(GSlot.mk y1.Key x5 (GWindow.mk x4 (W (x4 + y1.Long))))]).flatMap GSlot.enc)] [(5, v4), (6, .int .i64 (W (x4 + y1.Long))), (8, .pointer (some ⟨b2, 0, none⟩)), (9, .int .i64 x5), (11, v_p_l), (12, .int .i64 (p_l.length : Int)), (13, .int .i64 (i1 : Int))] [true, true] rfl ⟨rfl, rfl, rfl, rfl, rfl, rfl, rfl, trivial⟩
       refine then_n ?_
       refine f_seq ?_
       refine f_region ?_
       refine lv S (rn_move (S.tm rfl)) rfl ?_; clear S; intro a S
       refine lv S (rn_fld fa_37_1 (S.tm rfl)) rfl ?_; clear S; intro a S
       refine lv S (rn_load Tryd.isAgg3 (S.tm rfl) (S.cell (i := 0) rfl rfl)) rfl ?_; clear S; intro a S
       refine lv S (rn_lss (S.tm rfl) (S.tm rfl)) rfl ?_; clear S; intro a S
       refine l_done ?_
       replace S := S.nk [.blk b2 [.string y1.Key, .int .i64 y1.Heats, .int .i64 y1.Long, .int .i64 y1.Gap, .int .i64 y1.Break] 37, .own v4 43 4 (x3 ++ [(GSlot.mk y1.Key x5 (GWindow.mk x4 (W (x4 + y1.Long))))]).length ((x3 ++ [(GSlot.mk y1.Key x5 (GWindow.mk x4 (W (x4 + y1.Long))))]).flatMap GSlot.enc)] [(5, v4), (6, .int .i64 (W (x4 + y1.Long))), (8, .pointer (some ⟨b2, 0, none⟩)), (9, .int .i64 x5), (11, v_p_l), (12, .int .i64 (p_l.length : Int)), (13, .int .i64 (i1 : Int)), (43, .bool (decide (x5 < y1.Heats)))] [true, true] rfl ⟨rfl, rfl, rfl, rfl, rfl, rfl, rfl, rfl, trivial⟩
       refine then_n ?_
       obtain ⟨j4, hj4, h⟩ := joinE h
       refine f_join (fun a w' => ∃ x8 : Int, j4 x8 = some r ∧ Sx w [] nov [.blk b2 [.string y1.Key, .int .i64 y1.Heats, .int .i64 y1.Long, .int .i64 y1.Gap, .int .i64 y1.Break] 37, .own v4 43 4 (x3 ++ [(GSlot.mk y1.Key x5 (GWindow.mk x4 (W (x4 + y1.Long))))]).length ((x3 ++ [(GSlot.mk y1.Key x5 (GWindow.mk x4 (W (x4 + y1.Long))))]).flatMap GSlot.enc)] [(5, v4), (6, .int .i64 x8), (8, .pointer (some ⟨b2, 0, none⟩)), (9, .int .i64 x5), (11, v_p_l), (12, .int .i64 (p_l.length : Int)), (13, .int .i64 (i1 : Int))] 54 a w') ?_ ?_
       ·refine f_cond (S.tm rfl) (fun hb2 => ?_) (fun hb2 => ?_)
        ·replace h := iteT h hb2
         refine f_region ?_
         refine lv S (rn_move (S.tm rfl)) rfl ?_; clear S; intro a S
         refine lv S (rn_fld fa_37_3 (S.tm rfl)) rfl ?_; clear S; intro a S
         refine lv S (rn_load Tryd.isAgg3 (S.tm rfl) (S.cell (i := 0) rfl rfl)) rfl ?_; clear S; intro a S
         refine lv S (rn_add (S.tm rfl) (S.tm rfl)) rfl ?_; clear S; intro a S
         refine lv S (rn_assign (S.tm rfl)) rfl ?_; clear S; intro a S
         refine l_done ?_
         replace S := S.nk [.blk b2 [.string y1.Key, .int .i64 y1.Heats, .int .i64 y1.Long, .int .i64 y1.Gap, .int .i64 y1.Break] 37, .own v4 43 4 (x3 ++ [(GSlot.mk y1.Key x5 (GWindow.mk x4 (W (x4 + y1.Long))))]).length ((x3 ++ [(GSlot.mk y1.Key x5 (GWindow.mk x4 (W (x4 + y1.Long))))]).flatMap GSlot.enc)] [(5, v4), (6, .int .i64 (W ((W (x4 + y1.Long)) + y1.Gap))), (8, .pointer (some ⟨b2, 0, none⟩)), (9, .int .i64 x5), (11, v_p_l), (12, .int .i64 (p_l.length : Int)), (13, .int .i64 (i1 : Int))] [true, true] rfl ⟨rfl, rfl, rfl, rfl, rfl, rfl, rfl, trivial⟩
         refine then_n ?_
         exact ⟨W ((W (x4 + y1.Long)) + y1.Gap), h, S.nf [true, true] rfl ⟨rfl, rfl, rfl, rfl, rfl, rfl, rfl, trivial⟩⟩
        ·replace h := iteF h hb2
         refine wp_skip ?_
         refine then_n ?_
         exact ⟨W (x4 + y1.Long), h, S.nf [true, true] rfl ⟨rfl, rfl, rfl, rfl, rfl, rfl, rfl, trivial⟩⟩
       clear S h; rintro a w10 ⟨x8, h, S⟩; rw [hj4] at h; clear hj4 j4
       refine blk_n ?_
       refine then_n ?_
       exact ⟨(x3 ++ [(GSlot.mk y1.Key x5 (GWindow.mk x4 (W (x4 + y1.Long))))]), x8, v4, h, S.nf [true, true] rfl ⟨rfl, rfl, rfl, rfl, rfl, rfl, rfl, trivial⟩⟩
      clear S h; rintro a w7 ⟨x6, x7, v3, h, S⟩; rw [hj3] at h; clear hj3 j3
      refine then_n ?_
      refine f_region ?_
      refine lv S (rn_move (S.tm rfl)) rfl ?_; clear S; intro a S
      refine lv S (rn_add (S.tm rfl) rfl) rfl ?_; clear S; intro a S
      refine lv S (rn_assign (S.tm rfl)) rfl ?_; clear S; intro a S
      refine l_done ?_
      replace S := S.nk [.blk b2 [.string y1.Key, .int .i64 y1.Heats, .int .i64 y1.Long, .int .i64 y1.Gap, .int .i64 y1.Break] 37, .own v3 43 4 x6.length (x6.flatMap GSlot.enc)] [(5, v3), (6, .int .i64 x7), (8, .pointer (some ⟨b2, 0, none⟩)), (9, .int .i64 (W (x5 + 1))), (11, v_p_l), (12, .int .i64 (p_l.length : Int)), (13, .int .i64 (i1 : Int))] [true, true] rfl ⟨rfl, rfl, rfl, rfl, rfl, rfl, rfl, trivial⟩
      refine then_n ?_
      exact ⟨m1, ⟨x6, x7, W (x5 + 1), v3, h, S.nf [true, true] rfl ⟨rfl, rfl, rfl, rfl, rfl, rfl, rfl, trivial⟩⟩, Nat.lt_succ_self _⟩
     ·replace h := iteF h hb1
      refine wp_exit ?_
      refine then_x ?_
      refine then_x ?_
      refine x_same ?_
      refine then_n ?_
      exact ⟨x3, x4, v2, h, S.nf [true, true] rfl ⟨rfl, rfl, rfl, rfl, rfl, rfl, trivial⟩⟩
   clear S h; rintro a w6 ⟨x3, x4, v2, h, S⟩; rw [hj2] at h; clear hj2 j2
   refine then_n ?_
   refine f_region ?_
   refine lv S (rn_move (S.tm rfl)) rfl ?_; clear S; intro a S
   refine lv S (rn_fld fa_37_4 (S.tm rfl)) rfl ?_; clear S; intro a S
   refine lv S (rn_load Tryd.isAgg3 (S.tm rfl) (S.cell (i := 0) rfl rfl)) rfl ?_; clear S; intro a S
   refine lv S (rn_add (S.tm rfl) (S.tm rfl)) rfl ?_; clear S; intro a S
   refine lv S (rn_assign (S.tm rfl)) rfl ?_; clear S; intro a S
   refine l_done ?_
   replace S := S.nk [.own v2 43 4 x3.length (x3.flatMap GSlot.enc)] [(5, v2), (6, .int .i64 (W (x4 + y1.Break))), (11, v_p_l), (12, .int .i64 (p_l.length : Int)), (13, .int .i64 (i1 : Int))] [false, true] rfl ⟨rfl, rfl, rfl, rfl, rfl, trivial⟩
   refine blk_n ?_
   refine then_n ?_
   refine f_region ?_
   refine lv S (rn_add (S.tm rfl) rfl) rfl ?_; clear S; intro a S
   refine lv S (rn_move (S.tm rfl)) rfl ?_; clear S; intro a S
   refine l_done ?_
   replace S := S.nk [.own v2 43 4 x3.length (x3.flatMap GSlot.enc)] [(5, v2), (6, .int .i64 (W (x4 + y1.Break))), (11, v_p_l), (12, .int .i64 (p_l.length : Int)), (13, .int .i64 (W ((i1 : Int) + 1)))] [true] rfl ⟨rfl, rfl, rfl, rfl, rfl, trivial⟩
   refine then_n ?_
   exact ⟨ys1, ⟨i1 + 1, x3, W (x4 + y1.Break), v2, ⟨_, (hd1).trans (List.append_cons _ _ _), by simp [hi1]⟩, h, S.nf [true] rfl ⟨rfl, rfl, rfl, rfl, (congrArg (fun z => some (Value.int .i64 z)) (rng_next hd1 hi1 (slc_max hs_p_l))), trivial⟩⟩, Nat.lt_succ_self _⟩
 clear S h; rintro a w2 ⟨x1, v1, h, S⟩; rw [hj1] at h; clear hj1 j1
 refine then_n ?_
 refine f_seq ?_
 refine f_region ?_
 refine lv S (rn_move (S.tm rfl)) rfl ?_; clear S; intro a S
 refine lv S (rn_assign (S.tm rfl)) rfl ?_; clear S; intro a S
 refine l_done ?_
 replace S := S.nk [.own v1 43 4 x1.length (x1.flatMap GSlot.enc)] [(4, v1)] [true] rfl ⟨rfl, trivial⟩
 refine then_n ?_
 refine wp_ret ?_
 obtain rfl := Option.some.inj h
 exact f_ret S Tryd.results38 rfl (own_retT S (i := 0) rfl rfl)
theorem session_end_ok (w : World) (v_p_l : Value) (p_l : List GSlot) (hs_p_l : Slc (view w []) 4 v_p_l (p_l.map GSlot.enc)) (p_from : Int) (r : Int) (h : session_end p_l p_from = some r) :
    Calls Tryd.prog 39 [v_p_l, .int .i64 p_from].toArray w (Ret w [] fun _ v _ => v = .int .i64 r) := by
 refine f_enter [] [] Tryd.func39 rfl Tryd.ntmps39 rfl (by simp) (by simp [fps]) (by simp [fps]) fun a S => ?_
 unfold session_end at h
 replace S := S.nk [] [(0, v_p_l), (1, .int .i64 p_from)] [] rfl ⟨rfl, rfl, trivial⟩
 refine f_seq ?_
 refine f_region ?_
 refine lv S (rn_assign rfl) rfl ?_; clear S; intro a S
 refine l_done ?_
 replace S := S.nk [] [(0, v_p_l), (1, .int .i64 p_from)] [] rfl ⟨rfl, rfl, trivial⟩
 refine then_n ?_
 refine f_seq ?_
 refine f_seq ?_
 refine f_region ?_
 refine lv S (rn_move (S.tm rfl)) rfl ?_; clear S; intro a S
 refine lv S (rn_lenT sl_29 (S.tm rfl) (slc_len hs_p_l)) rfl ?_; clear S; intro a S
 refine lv S (rn_eql (S.tm rfl) rfl) rfl ?_; clear S; intro a S
 refine l_done ?_
 replace S := S.nk [] [(0, v_p_l), (1, .int .i64 p_from), (7, .bool (decide ((p_l.length : Int) = 0)))] [] rfl ⟨rfl, rfl, rfl, trivial⟩
 refine then_n ?_
 refine f_cond (S.tm rfl) (fun hb1 => ?_) (fun hb1 => ?_)
 ·replace h := iteT h hb1
  refine f_seq ?_
  refine f_region ?_
  refine lv S (rn_move (S.tm rfl)) rfl ?_; clear S; intro a S
  refine lv S (rn_assign (S.tm rfl)) rfl ?_; clear S; intro a S
  refine l_done ?_
  replace S := S.nk [] [(4, .int .i64 p_from)] [] rfl ⟨rfl, trivial⟩
  refine then_n ?_
  refine wp_ret ?_
  refine then_r ?_
  obtain rfl := Option.some.inj h
  exact f_ret S Tryd.results39 rfl rfl
 ·replace h := iteF h hb1
  refine wp_skip ?_
  refine then_n ?_
  refine f_seq ?_
  refine f_region ?_
  refine lv S (rn_move (S.tm rfl)) rfl ?_; clear S; intro a S
  refine lv S (rn_move (S.tm rfl)) rfl ?_; clear S; intro a S
  refine lv S (rn_lenT sl_29 (S.tm rfl) (slc_len hs_p_l)) rfl ?_; clear S; intro a S
  refine lv S (rn_sub (S.tm rfl) rfl) rfl ?_; clear S; intro a S
  obtain ⟨hc1, h⟩ := chkE h
  obtain ⟨b1, o1, hm1, hr1⟩ := rn_indexT (a := a) (x := .tmp 9) (y := .tmp 12) (ty := 0) sl_29 hs_p_l (inB_get hc1).1 (inB_get hc1).2 (S.tm rfl) (S.tm rfl)
  refine lv S (hr1 _) rfl ?_; clear S; intro a S
  clear hr1
  refine lv S (rn_fld fa_43_2 (S.tm rfl)) rfl ?_; clear S; intro a S
  refine lv S (rn_fld fa_41_1 (S.tm rfl)) rfl ?_; clear S; intro a S
  refine lv S (rn_ld Tryd.isAgg3 (off := o1) (o := 3) (S.tm rfl) (hm1.at S.emb0) rfl) rfl ?_; clear S; intro a S
  refine lv S (rn_assign (S.tm rfl)) rfl ?_; clear S; intro a S
  refine l_done ?_
  replace S := S.nk [] [(4, .int .i64 (((nth p_l (W ((p_l.length : Int) - 1))).Time).To))] [] rfl ⟨rfl, trivial⟩
  refine then_n ?_
  refine wp_ret ?_
  obtain rfl := Option.some.inj h
  exact f_ret S Tryd.results39 rfl rfl
theorem session_begin_ok (w : World) (v_p_l : Value) (p_l : List GItem) (hs_p_l : Slc (view w []) 5 v_p_l (p_l.map GItem.enc)) (p_from : Int) (r : (List GSlot) × Int) (h : session_begin p_l p_from = some r) :
    Calls Tryd.prog 19 [v_p_l, .int .i64 p_from].toArray w (Ret w [] fun τ v _ => ∃ u1 : Value, v = .tuple #[u1, .int .i64 r.2] ∧ OwnV τ 43 4 u1 r.1.length (r.1.flatMap GSlot.enc)) := by
 refine f_enter [] [] Tryd.func19 rfl Tryd.ntmps19 rfl (by simp) (by simp [fps]) (by simp [fps]) fun a S => ?_
 unfold session_begin at h
 replace S := S.nk [] [(0, v_p_l), (1, .int .i64 p_from)] [] rfl ⟨rfl, rfl, trivial⟩
 refine f_seq ?_
 refine f_region ?_
 refine lv S (rn_assign rfl) rfl ?_; clear S; intro a S
 refine lv S (rn_assign rfl) rfl ?_; clear S; intro a S
 refine l_done ?_
 replace S := S.nk [] [(0, v_p_l), (1, .int .i64 p_from)] [] rfl ⟨rfl, rfl, trivial⟩
 refine then_n ?_
 refine f_seq ?_
 refine f_seq ?_
 refine f_region ?_
 refine lv S (rn_move (S.tm rfl)) rfl ?_; clear S; intro a S
 refine l_enter S (fun _ => run_call (vs := [.int .i64 p_from]) ⟨(S.tm rfl), trivial⟩ Tryd.call37) (words_IsMoment_ok _ p_from _ rfl) rfl ?_; clear S; intro v1 a w1 hv1 hk1 hn1 S
 subst hv1
 refine lv S (rn_not (S.tm rfl)) rfl ?_; clear S; intro a S
 refine l_done ?_
 replace S := S.nk [] [(0, v_p_l), (1, .int .i64 p_from), (9, .bool (!(words_IsMoment p_from)))] [] rfl ⟨rfl, rfl, rfl, trivial⟩
 refine then_n ?_
 refine f_cond (S.tm rfl) (fun hb1 => ?_) (fun hb1 => ?_)
 ·replace h := iteT h hb1
  refine f_seq ?_
  refine f_region ?_
  refine lv S (rn_assign rfl) rfl ?_; clear S; intro a S
  refine lv S (rn_assign rfl) rfl ?_; clear S; intro a S
  refine l_done ?_
  replace S := S.nk [] [(4, .slice none 0 0), (5, .int .i64 1)] [] rfl ⟨rfl, rfl, trivial⟩
  refine then_n ?_
  refine wp_ret ?_
  refine then_r ?_
  obtain rfl := Option.some.inj h
  exact f_ret2 S Tryd.results19 rfl rfl ⟨_, rfl, (ownV_nil _ _ _)⟩
 ·replace h := iteF h hb1
  refine wp_skip ?_
  refine then_n ?_
  refine f_seq ?_
  refine f_region ?_
  refine lv S (rn_move (S.tm rfl)) rfl ?_; clear S; intro a S
  refine lv S (rn_move (S.tm rfl)) rfl ?_; clear S; intro a S
  obtain ⟨r1, hr1, h⟩ := bindE h
  have hz1 := S.keep.size
  refine l_enter S (fun _ => run_call (vs := [v_p_l, .int .i64 p_from]) ⟨(S.tm rfl), (S.tm rfl), trivial⟩ Tryd.call38) (session_timetable_ok _ v_p_l p_l (hs_p_l.mono (S.le_arg nil_sub)) p_from _ hr1) rfl ?_; clear S; intro v2 a w2 hv2 hk2 hn2 S
  obtain ⟨φ1, hl1, hm1, S⟩ := S.see' hn2 hz1
  have hs1 := hv2.mono hm1
  refine lv S (rn_assign (S.tm rfl)) rfl ?_; clear S; intro a S
  refine l_done ?_
  replace S := S.nk [] [(1, .int .i64 p_from), (6, v2)] [] rfl ⟨rfl, rfl, trivial⟩
  refine then_n ?_
  refine f_seq ?_
  refine f_seq ?_
  refine f_region ?_
  refine lv S (rn_move (S.tm rfl)) rfl ?_; clear S; intro a S
  refine lv S (rn_move (S.tm rfl)) rfl ?_; clear S; intro a S
  obtain ⟨r2, hr2, h⟩ := bindE h
  refine l_enter S (fun _ => run_call (vs := [v2, .int .i64 p_from]) ⟨(S.tm rfl), (S.tm rfl), trivial⟩ Tryd.call39) (session_end_ok _ v2 r1 (((ownV_slcT GSlot.enc_ok hs1)).mono (S.le_new nil_sub)) p_from _ hr2) rfl ?_; clear S; intro v3 a w3 hv3 hk3 hn3 S
  subst hv3
  refine lv S (rn_gtr (S.tm rfl) rfl) rfl ?_; clear S; intro a S
  refine l_done ?_
  replace S := S.nk [] [(6, v2), (16, .bool (decide (345686400000 < r2)))] [] rfl ⟨rfl, rfl, trivial⟩
  refine then_n ?_
  refine f_cond (S.tm rfl) (fun hb2 => ?_) (fun hb2 => ?_)
  ·replace h := iteT h hb2
   refine f_seq ?_
   refine f_region ?_
   refine lv S (rn_assign rfl) rfl ?_; clear S; intro a S
   refine lv S (rn_assign rfl) rfl ?_; clear S; intro a S
   refine l_done ?_
   replace S := S.nk [] [(4, .slice none 0 0), (5, .int .i64 1)] [] rfl ⟨rfl, rfl, trivial⟩
   refine then_n ?_
   refine wp_ret ?_
   refine then_r ?_
   obtain rfl := Option.some.inj h
   exact f_ret2 S Tryd.results19 rfl rfl ⟨_, rfl, (ownV_nil _ _ _)⟩
  ·replace h := iteF h hb2
   refine wp_skip ?_
   refine then_n ?_
   refine f_seq ?_
   refine f_region ?_
   refine lv S (rn_move (S.tm rfl)) rfl ?_; clear S; intro a S
   refine lv S (rn_assign (S.tm rfl)) rfl ?_; clear S; intro a S
   refine lv S (rn_assign rfl) rfl ?_; clear S; intro a S
   refine l_done ?_
   replace S := S.nk [] [(4, v2), (5, .int .i64 0)] [] rfl ⟨rfl, rfl, trivial⟩
   refine then_n ?_
   refine wp_ret ?_
   obtain rfl := Option.some.inj h
   exact f_ret2 S Tryd.results19 rfl rfl ⟨_, rfl, ((hs1).mono S.le_newer)⟩
theorem session_Timetable_ok (w : World) (v_p_l : Value) (p_l : List GItem) (hs_p_l : Slc (view w []) 5 v_p_l (p_l.map GItem.enc)) (p_from : Int) (r : (List GSlot) × Int) (h : session_Timetable p_l p_from = some r) :
    Calls Tryd.prog 6 [v_p_l, .int .i64 p_from].toArray w (Ret w [] fun τ v _ => ∃ u1 : Value, v = .tuple #[u1, .int .i64 r.2] ∧ OwnV τ 43 4 u1 r.1.length (r.1.flatMap GSlot.enc)) := by
 refine f_enter [] [] Tryd.func6 rfl Tryd.ntmps6 rfl (by simp) (by simp [fps]) (by simp [fps]) fun a S => ?_
 unfold session_Timetable at h
 replace S := S.nk [] [(0, v_p_l), (1, .int .i64 p_from)] [] rfl ⟨rfl, rfl, trivial⟩
 refine f_seq ?_
 refine f_region ?_
 refine lv S (rn_assign rfl) rfl ?_; clear S; intro a S
 refine lv S (rn_assign rfl) rfl ?_; clear S; intro a S
 refine l_done ?_
 replace S := S.nk [] [(0, v_p_l), (1, .int .i64 p_from)] [] rfl ⟨rfl, rfl, trivial⟩
 refine then_n ?_
 refine f_seq ?_
 refine f_seq ?_
 refine f_region ?_
 refine lv S (rn_move (S.tm rfl)) rfl ?_; clear S; intro a S
 obtain ⟨r1, hr1, h⟩ := bindE h
 refine l_enter S (fun _ => run_call (vs := [v_p_l]) ⟨(S.tm rfl), trivial⟩ Tryd.call18) (session_CheckItems_ok _ v_p_l p_l (hs_p_l.mono (S.le_arg nil_sub)) _ hr1) rfl ?_; clear S; intro v1 a w1 hv1 hk1 hn1 S
 subst hv1
 refine lv S (rn_assign (S.tm rfl)) rfl ?_; clear S; intro a S
 refine l_done ?_
 replace S := S.nk [] [(0, v_p_l), (1, .int .i64 p_from), (6, .int .i64 r1)] [] rfl ⟨rfl, rfl, rfl, trivial⟩
 refine then_n ?_
 refine f_seq ?_
 refine f_region ?_
 refine lv S (rn_move (S.tm rfl)) rfl ?_; clear S; intro a S
 refine lv S (rn_neq (S.tm rfl) rfl) rfl ?_; clear S; intro a S
 refine l_done ?_
 replace S := S.nk [] [(0, v_p_l), (1, .int .i64 p_from), (6, .int .i64 r1), (10, .bool (!decide (r1 = 0)))] [] rfl ⟨rfl, rfl, rfl, rfl, trivial⟩
 refine then_n ?_
 refine f_cond (S.tm rfl) (fun hb1 => ?_) (fun hb1 => ?_)
 ·replace h := iteT h hb1
  refine f_seq ?_
  refine f_region ?_
  refine lv S (rn_move (S.tm rfl)) rfl ?_; clear S; intro a S
  refine lv S (rn_assign rfl) rfl ?_; clear S; intro a S
  refine lv S (rn_assign (S.tm rfl)) rfl ?_; clear S; intro a S
  refine l_done ?_
  replace S := S.nk [] [(4, .slice none 0 0), (5, .int .i64 r1)] [] rfl ⟨rfl, rfl, trivial⟩
  refine then_n ?_
  refine wp_ret ?_
  refine then_r ?_
  obtain rfl := Option.some.inj h
  exact f_ret2 S Tryd.results6 rfl rfl ⟨_, rfl, (ownV_nil _ _ _)⟩
 ·replace h := iteF h hb1
  refine wp_skip ?_
  refine then_n ?_
  refine f_seq ?_
  refine f_region ?_
  refine lv S (rn_move (S.tm rfl)) rfl ?_; clear S; intro a S
  refine lv S (rn_move (S.tm rfl)) rfl ?_; clear S; intro a S
  obtain ⟨r2, hr2, h⟩ := bindE h
  have hz1 := S.keep.size
  refine l_enter S (fun _ => run_call (vs := [v_p_l, .int .i64 p_from]) ⟨(S.tm rfl), (S.tm rfl), trivial⟩ Tryd.call19) (session_begin_ok _ v_p_l p_l (hs_p_l.mono (S.le_arg nil_sub)) p_from _ hr2) rfl ?_; clear S; intro v2 a w2 hv2 hk2 hn2 S
  obtain ⟨u1, rfl, ho1⟩ := hv2
  obtain ⟨φ1, hl1, hm1, S⟩ := S.see' hn2 hz1
  have hs1 := ho1.mono hm1
  refine lv S (rn_extract (S.tm rfl) rfl) rfl ?_; clear S; intro a S
  refine lv S (rn_extract (S.tm rfl) rfl) rfl ?_; clear S; intro a S
  refine lv S (rn_assign (S.tm rfl)) rfl ?_; clear S; intro a S
  refine lv S (rn_assign (S.tm rfl)) rfl ?_; clear S; intro a S
  refine l_done ?_
  replace S := S.nk [] [(4, u1), (5, .int .i64 r2.2)] [] rfl ⟨rfl, rfl, trivial⟩
  refine then_n ?_
  refine wp_ret ?_
  obtain rfl := Option.some.inj h
  exact f_ret2 S Tryd.results6 rfl rfl ⟨_, rfl, ((hs1).mono S.le_newer)⟩
theorem session_itemAt_c1_ok (w : World) (p_x : GItem) (b_p_a1 : Nat) (p_a1 : ByteArray) (hb_b_p_a1 : view w [] b_p_a1 = some (.cells [.string p_a1].toArray 9 (0, 0))) (r : Bool) (h : session_itemAt_c1 p_x p_a1 = r) :
    Calls Tryd.prog 72 [.agg (GItem.enc p_x).toArray, .pointer (some ⟨b_p_a1, 0, none⟩)].toArray w (Ret w [] fun _ v _ => v = .bool r) := by
 refine f_enter [] [] Tryd.func72 rfl Tryd.ntmps72 rfl (by simp) (by simp [fps]) (by simp [fps]) fun a S => ?_
 unfold session_itemAt_c1 at h
 replace S := S.nk [] [(0, .agg (GItem.enc p_x).toArray), (1, .pointer (some ⟨b_p_a1, 0, none⟩))] [] rfl ⟨rfl, rfl, trivial⟩
 refine f_seq ?_
 refine f_region ?_
 refine l_box S (S.tm rfl) (cs := [.string p_x.Key, .int .i64 p_x.Heats, .int .i64 p_x.Long, .int .i64 p_x.Gap, .int .i64 p_x.Break]) rfl rfl ?_; clear S; intro a w1 b1 hz1 hk1 S
 refine lv S (rn_assign rfl) rfl ?_; clear S; intro a S
 refine l_done ?_
 replace S := S.nk [.blk b1 [.string p_x.Key, .int .i64 p_x.Heats, .int .i64 p_x.Long, .int .i64 p_x.Gap, .int .i64 p_x.Break] 37] [(1, .pointer (some ⟨b_p_a1, 0, none⟩)), (2, .pointer (some ⟨b1, 0, none⟩))] [true] rfl ⟨rfl, rfl, trivial⟩
 refine then_n ?_
 refine f_seq ?_
 refine f_region ?_
 refine lv S (rn_fld fa_37_0 (S.tm rfl)) rfl ?_; clear S; intro a S
 refine lv S (rn_load Tryd.isAgg9 (S.tm rfl) (S.cell (i := 0) rfl rfl)) rfl ?_; clear S; intro a S
 refine lv S (rn_ld Tryd.isAgg9 (off := 0) (o := 0) (S.tm rfl) ((mem_blk hb_b_p_a1).at S.emb0) rfl) rfl ?_; clear S; intro a S
 refine lv S (rn_seql (S.tm rfl) (S.tm rfl)) rfl ?_; clear S; intro a S
 refine lv S (rn_assign (S.tm rfl)) rfl ?_; clear S; intro a S
 refine l_done ?_
 replace S := S.nk [] [(3, .bool (decide (p_x.Key = p_a1)))] [false] rfl ⟨rfl, trivial⟩
 refine then_n ?_
 refine wp_ret ?_
 subst h
 exact f_ret S Tryd.results72 rfl rfl
theorem slices_IndexFunc_Item_session_itemAt_c1_ok (w : World) (v_p_s : Value) (p_s : List GItem) (hs_p_s : Slc (view w []) 5 v_p_s (p_s.map GItem.enc)) (b_p_f_0 : Nat) (p_f_0 : ByteArray) (hb_b_p_f_0 : view w [] b_p_f_0 = some (.cells [.string p_f_0].toArray 9 (0, 0))) (r : Int) (h : slices_IndexFunc_Item_session_itemAt_c1 p_s p_f_0 = r) :
    Calls Tryd.prog 43 [v_p_s, .func (.func 72) #[] #[.pointer (some ⟨b_p_f_0, 0, none⟩)]].toArray w (Ret w [] fun _ v _ => v = .int .i64 r) := by
 refine f_enter [] [] Tryd.func43 rfl Tryd.ntmps43 rfl (by simp) (by simp [fps]) (by simp [fps]) fun a S => ?_
 unfold slices_IndexFunc_Item_session_itemAt_c1 at h
 replace S := S.nk [] [(0, v_p_s), (1, .func (.func 72) #[] #[.pointer (some ⟨b_p_f_0, 0, none⟩)])] [] rfl ⟨rfl, rfl, trivial⟩
 refine f_seq ?_
 refine f_region ?_
 refine lv S (rn_assign rfl) rfl ?_; clear S; intro a S
 refine l_done ?_
 replace S := S.nk [] [(0, v_p_s), (1, .func (.func 72) #[] #[.pointer (some ⟨b_p_f_0, 0, none⟩)])] [] rfl ⟨rfl, rfl, trivial⟩
 refine then_n ?_
 refine f_seq ?_
 refine f_seq ?_
 refine f_region ?_
 refine lv S (rn_move (S.tm rfl)) rfl ?_; clear S; intro a S
 refine lv S (rn_lenT sl_26 (S.tm rfl) (slc_len hs_p_s)) rfl ?_; clear S; intro a S
 refine lv S (rn_move rfl) rfl ?_; clear S; intro a S
 refine l_done ?_
 replace S := S.nk [] [(0, v_p_s), (1, .func (.func 72) #[] #[.pointer (some ⟨b_p_f_0, 0, none⟩)]), (7, .int .i64 (p_s.length : Int)), (8, .int .i64 0)] [] rfl ⟨rfl, rfl, rfl, rfl, trivial⟩
 refine then_n ?_
 obtain ⟨j1, hj1, h⟩ := joinE h
 refine f_join (fun a w' => j1 = r ∧ Sx w [] nov [] [] 19 a w') ?_ ?_
 ·refine wp_block ?_
  refine f_loop (fun (ys1 : List GItem) a w' => ∃ i1 : Nat, (∃ dn, p_s = dn ++ ys1 ∧ dn.length = i1) ∧ slices_IndexFunc_Item_session_itemAt_c1_l1 p_f_0 j1 ys1 i1 = r ∧ Sx w [] nov [] [(0, v_p_s), (1, .func (.func 72) #[] #[.pointer (some ⟨b_p_f_0, 0, none⟩)]), (7, .int .i64 (p_s.length : Int)), (8, .int .i64 (i1 : Int))] 19 a w') List.length p_s ⟨0, ⟨[], rfl, rfl⟩, h, S.nf [] rfl ⟨rfl, rfl, rfl, rfl, trivial⟩⟩ ?_
  clear S h; rintro ys1 a w1 ⟨i1, ⟨dn, hd1, hi1⟩, h, S⟩
  cases ys1 with
  | nil =>
   rw [slices_IndexFunc_Item_session_itemAt_c1_l1.eq_1] at h
   refine f_seq ?_
   refine f_region ?_
   refine lv S (rn_lss (S.tm rfl) (S.tm rfl)) rfl ?_; clear S; intro a S
   refine l_done ?_
   replace S := S.nk [] [(0, v_p_s), (1, .func (.func 72) #[] #[.pointer (some ⟨b_p_f_0, 0, none⟩)]), (7, .int .i64 (p_s.length : Int)), (8, .int .i64 (i1 : Int)), (9, .bool (decide ((i1 : Int) < (p_s.length : Int))))] [] rfl ⟨rfl, rfl, rfl, rfl, rfl, trivial⟩
   refine then_n ?_
   refine f_seq ?_
   refine wp_cond_false ((S.tm rfl).trans (congrArg Value.bool (rng_nil hd1 hi1))) ?_
   refine wp_exit ?_
   refine then_x ?_
   refine then_x ?_
   refine x_same ?_
   refine then_n ?_
   exact ⟨h, S.nf [] rfl trivial⟩
  | cons y1 ys1 =>
   rw [slices_IndexFunc_Item_session_itemAt_c1_l1.eq_2] at h
   refine f_seq ?_
   refine f_region ?_
   refine lv S (rn_lss (S.tm rfl) (S.tm rfl)) rfl ?_; clear S; intro a S
   refine l_done ?_
   replace S := S.nk [] [(0, v_p_s), (1, .func (.func 72) #[] #[.pointer (some ⟨b_p_f_0, 0, none⟩)]), (7, .int .i64 (p_s.length : Int)), (8, .int .i64 (i1 : Int)), (9, .bool (decide ((i1 : Int) < (p_s.length : Int))))] [] rfl ⟨rfl, rfl, rfl, rfl, rfl, trivial⟩
   refine then_n ?_
   refine f_seq ?_
   refine wp_cond_true ((S.tm rfl).trans (congrArg Value.bool (rng_cons hd1 hi1))) ?_
   refine wp_skip ?_
   refine then_n ?_
   refine f_seq ?_
   refine wp_block ?_
   refine f_seq ?_
   refine f_region ?_
   refine lv S (rn_move (S.tm rfl)) rfl ?_; clear S; intro a S
   refine lv S (rn_assign (S.tm rfl)) rfl ?_; clear S; intro a S
   refine l_done ?_
   replace S := S.nk [] [(0, v_p_s), (1, .func (.func 72) #[] #[.pointer (some ⟨b_p_f_0, 0, none⟩)]), (5, .int .i64 (i1 : Int)), (7, .int .i64 (p_s.length : Int)), (8, .int .i64 (i1 : Int))] [] rfl ⟨rfl, rfl, rfl, rfl, rfl, trivial⟩
   refine then_n ?_
   refine f_seq ?_
   refine f_region ?_
   refine lv S (rn_move (S.tm rfl)) rfl ?_; clear S; intro a S
   refine lv S (rn_move (S.tm rfl)) rfl ?_; clear S; intro a S
   refine lv S (rn_move (S.tm rfl)) rfl ?_; clear S; intro a S
   obtain ⟨b1, o1, hm1, hr1⟩ := rn_indexT (a := a) (x := .tmp 12) (y := .tmp 13) (ty := 0) sl_26 hs_p_s (get_mid hd1 hi1) rfl (S.tm rfl) (S.tm rfl)
   refine lv S (hr1 _) rfl ?_; clear S; intro a S
   clear hr1
   refine lv S (rn_ldA Tryd.isAgg37 Tryd.sizeOf37 (off := o1) (o := 0) (part := [.string y1.Key, .int .i64 y1.Heats, .int .i64 y1.Long, .int .i64 y1.Gap, .int .i64 y1.Break]) rfl rfl (S.tm rfl) (hm1.at S.emb0)) rfl ?_; clear S; intro a S
   refine l_enter S (fun _ => run_callV (cap := [.pointer (some ⟨b_p_f_0, 0, none⟩)]) (S.tm rfl) (vs := [.agg (GItem.enc y1).toArray]) ⟨(S.tm rfl), trivial⟩ Tryd.call72) (session_itemAt_c1_ok _ y1 b_p_f_0 p_f_0 (S.le_arg nil_sub _ _ hb_b_p_f_0) _ rfl) rfl ?_; clear S; intro v1 a w3 hv1 hk1 hn1 S
   subst hv1
   refine l_done ?_
   replace S := S.nk [] [(0, v_p_s), (1, .func (.func 72) #[] #[.pointer (some ⟨b_p_f_0, 0, none⟩)]), (5, .int .i64 (i1 : Int)), (7, .int .i64 (p_s.length : Int)), (8, .int .i64 (i1 : Int)), (16, .bool (session_itemAt_c1 y1 p_f_0))] [] rfl ⟨rfl, rfl, rfl, rfl, rfl, rfl, trivial⟩
   refine then_n ?_
   refine f_cond (S.tm rfl) (fun hb1 => ?_) (fun hb1 => ?_)
   ·replace h := iteT h hb1
    refine f_seq ?_
    refine f_region ?_
    refine lv S (rn_move (S.tm rfl)) rfl ?_; clear S; intro a S
    refine lv S (rn_assign (S.tm rfl)) rfl ?_; clear S; intro a S
    refine l_done ?_
    replace S := S.nk [] [(4, .int .i64 (i1 : Int))] [] rfl ⟨rfl, trivial⟩
    refine then_n ?_
    refine wp_ret ?_
    refine blk_r ?_
    refine then_r ?_
    refine then_r ?_
    refine blk_r ?_
    refine then_r ?_
    refine then_r ?_
    subst h
    exact f_ret S Tryd.results43 rfl rfl
   ·replace h := iteF h hb1
    refine wp_skip ?_
    refine blk_n ?_
    refine then_n ?_
    refine f_region ?_
    refine lv S (rn_add (S.tm rfl) rfl) rfl ?_; clear S; intro a S
    refine lv S (rn_move (S.tm rfl)) rfl ?_; clear S; intro a S
    refine l_done ?_
    replace S := S.nk [] [(0, v_p_s), (1, .func (.func 72) #[] #[.pointer (some ⟨b_p_f_0, 0, none⟩)]), (7, .int .i64 (p_s.length : Int)), (8, .int .i64 (W ((i1 : Int) + 1)))] [] rfl ⟨rfl, rfl, rfl, rfl, trivial⟩
    refine then_n ?_
    exact ⟨ys1, ⟨i1 + 1, ⟨_, (hd1).trans (List.append_cons _ _ _), by simp [hi1]⟩, h, S.nf [] rfl ⟨rfl, rfl, rfl, (congrArg (fun z => some (Value.int .i64 z)) (rng_next hd1 hi1 (slc_max hs_p_s))), trivial⟩⟩, Nat.lt_succ_self _⟩
 clear S h; rintro a w2 ⟨h, S⟩; rw [hj1] at h; clear hj1 j1
 refine then_n ?_
 refine f_seq ?_
 refine f_region ?_
 refine lv S (rn_assign rfl) rfl ?_; clear S; intro a S
 refine l_done ?_
 replace S := S.nk [] [(4, .int .i64 (-1))] [] rfl ⟨rfl, trivial⟩
 refine then_n ?_
 refine wp_ret ?_
 subst h
 exact f_ret S Tryd.results43 rfl rfl
theorem session_itemAt_ok (w : World) (v_p_l : Value) (p_l : List GItem) (hs_p_l : Slc (view w []) 5 v_p_l (p_l.map GItem.enc)) (p_key : ByteArray) (r : Int) (h : session_itemAt p_l p_key = r) :
    Calls Tryd.prog 58 [v_p_l, .string p_key].toArray w (Ret w [] fun _ v _ => v = .int .i64 r) := by
 refine f_enter [] [] Tryd.func58 rfl Tryd.ntmps58 rfl (by simp) (by simp [fps]) (by simp [fps]) fun a S => ?_
 unfold session_itemAt at h
 replace S := S.nk [] [(0, v_p_l), (1, .string p_key)] [] rfl ⟨rfl, rfl, trivial⟩
 refine f_seq ?_
 refine f_region ?_
 refine l_box S (S.tm rfl) (cs := [.string p_key]) rfl rfl ?_; clear S; intro a w1 b1 hz1 hk1 S
 refine lv S (rn_assign rfl) rfl ?_; clear S; intro a S
 refine l_done ?_
 replace S := S.nk [.blk b1 [.string p_key] 9] [(0, v_p_l), (3, .pointer (some ⟨b1, 0, none⟩))] [true] rfl ⟨rfl, rfl, trivial⟩
 refine then_n ?_
 refine f_seq ?_
 refine f_region ?_
 refine lv S (rn_move (S.tm rfl)) rfl ?_; clear S; intro a S
 refine lv S (rn_makeFunc (us := #[]) (xs := [].toArray) (ys := [.tmp 3].toArray) (by simp) (evA ⟨(S.tm rfl), trivial⟩ (vs := [.pointer (some ⟨b1, 0, none⟩)]))) rfl ?_; clear S; intro a S
 refine l_enter S (fun _ => run_call (vs := [v_p_l, .func (.func 72) #[] #[.pointer (some ⟨b1, 0, none⟩)]]) ⟨(S.tm rfl), (S.tm rfl), trivial⟩ Tryd.call43) (slices_IndexFunc_Item_session_itemAt_c1_ok _ v_p_l p_l (hs_p_l.mono (S.le_arg nil_sub)) b1 p_key (S.blk_view (i := 0) rfl ((ne_nil (e' := .blk b1 [.string p_key] 9)) _ rfl)) _ rfl) rfl ?_; clear S; intro v1 a w2 hv1 hk2 hn1 S
 subst hv1
 refine lv S (rn_assign (S.tm rfl)) rfl ?_; clear S; intro a S
 refine l_done ?_
 replace S := S.nk [] [(4, .int .i64 (slices_IndexFunc_Item_session_itemAt_c1 p_l p_key))] [false] rfl ⟨rfl, trivial⟩
 refine then_n ?_
 refine wp_ret ?_
 subst h
 exact f_ret S Tryd.results58 rfl rfl
set_option maxRecDepth 20000 in
theorem session_CheckHeld_ok (w : World) (v_p_items : Value) (p_items : List GItem) (hs_p_items : Slc (view w []) 5 v_p_items (p_items.map GItem.enc)) (v_p_l : Value) (p_l : List GHeld) (hs_p_l : Slc (view w []) 3 v_p_l (p_l.map GHeld.enc)) (r : Int) (h : session_CheckHeld p_items p_l = some r) :
    Calls Tryd.prog 40 [v_p_items, v_p_l].toArray w (Ret w [] fun _ v _ => v = .int .i64 r) := by
 refine f_enter [] [] Tryd.func40 rfl Tryd.ntmps40 rfl (by simp) (by simp [fps]) (by simp [fps]) fun a S => ?_
 unfold session_CheckHeld at h
 replace S := S.nk [] [(0, v_p_items), (1, v_p_l)] [] rfl ⟨rfl, rfl, trivial⟩
 refine f_seq ?_
 refine f_region ?_
 refine lv S (rn_assign rfl) rfl ?_; clear S; intro a S
 refine l_done ?_
 replace S := S.nk [] [(0, v_p_items), (1, v_p_l)] [] rfl ⟨rfl, rfl, trivial⟩
 refine then_n ?_
 refine f_seq ?_
 refine f_seq ?_
 refine f_region ?_
 refine lv S (rn_move (S.tm rfl)) rfl ?_; clear S; intro a S
 obtain ⟨r1, hr1, h⟩ := bindE h
 refine l_enter S (fun _ => run_call (vs := [v_p_items]) ⟨(S.tm rfl), trivial⟩ Tryd.call18) (session_CheckItems_ok _ v_p_items p_items (hs_p_items.mono (S.le_arg nil_sub)) _ hr1) rfl ?_; clear S; intro v1 a w1 hv1 hk1 hn1 S
 subst hv1
 refine lv S (rn_assign (S.tm rfl)) rfl ?_; clear S; intro a S
 refine l_done ?_
 replace S := S.nk [] [(0, v_p_items), (1, v_p_l), (5, .int .i64 r1)] [] rfl ⟨rfl, rfl, rfl, trivial⟩
 refine then_n ?_
 refine f_seq ?_
 refine f_region ?_
 refine lv S (rn_move (S.tm rfl)) rfl ?_; clear S; intro a S
 refine lv S (rn_neq (S.tm rfl) rfl) rfl ?_; clear S; intro a S
 refine l_done ?_
 replace S := S.nk [] [(0, v_p_items), (1, v_p_l), (5, .int .i64 r1), (14, .bool (!decide (r1 = 0)))] [] rfl ⟨rfl, rfl, rfl, rfl, trivial⟩
 refine then_n ?_
 refine f_cond (S.tm rfl) (fun hb1 => ?_) (fun hb1 => ?_)
 ·replace h := iteT h hb1
  refine f_seq ?_
  refine f_region ?_
  refine lv S (rn_move (S.tm rfl)) rfl ?_; clear S; intro a S
  refine lv S (rn_assign (S.tm rfl)) rfl ?_; clear S; intro a S
  refine l_done ?_
  replace S := S.nk [] [(4, .int .i64 r1)] [] rfl ⟨rfl, trivial⟩
  refine then_n ?_
  refine wp_ret ?_
  refine then_r ?_
  obtain rfl := Option.some.inj h
  exact f_ret S Tryd.results40 rfl rfl
 ·replace h := iteF h hb1
  refine wp_skip ?_
  refine then_n ?_
  refine f_seq ?_
  refine f_seq ?_
  refine f_region ?_
  refine lv S (rn_move (S.tm rfl)) rfl ?_; clear S; intro a S
  refine lv S (rn_lenT sl_34 (S.tm rfl) (slc_len hs_p_l)) rfl ?_; clear S; intro a S
  refine lv S (rn_gtr (S.tm rfl) rfl) rfl ?_; clear S; intro a S
  refine l_done ?_
  replace S := S.nk [] [(0, v_p_items), (1, v_p_l), (18, .bool (decide (100 < (p_l.length : Int))))] [] rfl ⟨rfl, rfl, rfl, trivial⟩
  refine then_n ?_
  refine f_cond (S.tm rfl) (fun hb2 => ?_) (fun hb2 => ?_)
  ·replace h := iteT h hb2
   refine f_seq ?_
   refine f_region ?_
   refine lv S (rn_assign rfl) rfl ?_; clear S; intro a S
   refine l_done ?_
   replace S := S.nk [] [(4, .int .i64 2)] [] rfl ⟨rfl, trivial⟩
   refine then_n ?_
   refine wp_ret ?_
   refine then_r ?_
   obtain rfl := Option.some.inj h
   exact f_ret S Tryd.results40 rfl rfl
  ·replace h := iteF h hb2
   refine wp_skip ?_
   refine then_n ?_
   refine f_seq ?_
   refine f_region ?_
   refine lv S (rn_assign rfl) rfl ?_; clear S; intro a S
   refine l_done ?_
   replace S := S.nk [] [(0, v_p_items), (1, v_p_l), (6, .int .i64 (-1))] [] rfl ⟨rfl, rfl, rfl, trivial⟩
   refine then_n ?_
   refine f_seq ?_
   refine f_seq ?_
   refine f_region ?_
   refine lv S (rn_move (S.tm rfl)) rfl ?_; clear S; intro a S
   refine lv S (rn_lenT sl_34 (S.tm rfl) (slc_len hs_p_l)) rfl ?_; clear S; intro a S
   refine lv S (rn_move rfl) rfl ?_; clear S; intro a S
   refine l_done ?_
   replace S := S.nk [] [(0, v_p_items), (1, v_p_l), (6, .int .i64 (-1)), (19, v_p_l), (20, .int .i64 (p_l.length : Int)), (21, .int .i64 0)] [] rfl ⟨rfl, rfl, rfl, rfl, rfl, rfl, trivial⟩
   refine then_n ?_
   obtain ⟨j1, hj1, h⟩ := joinE h
   refine f_join (fun a w' => j1 = some r ∧ Sx w [] nov [] [] 72 a w') ?_ ?_
   ·refine wp_block ?_
    refine f_loop (fun (ys1 : List GHeld) a w' => ∃ i1 : Nat, ∃ x1 : Int, (∃ dn, p_l = dn ++ ys1 ∧ dn.length = i1) ∧ session_CheckHeld_l1 p_items p_l j1 ys1 i1 x1 = some r ∧ Sx w [] nov [] [(0, v_p_items), (1, v_p_l), (6, .int .i64 x1), (19, v_p_l), (20, .int .i64 (p_l.length : Int)), (21, .int .i64 (i1 : Int))] 72 a w') List.length p_l ⟨0, (-1), ⟨[], rfl, rfl⟩, h, S.nf [] rfl ⟨rfl, rfl, rfl, rfl, rfl, rfl, trivial⟩⟩ ?_
    clear S h; rintro ys1 a w2 ⟨i1, x1, ⟨dn, hd1, hi1⟩, h, S⟩
    cases ys1 with
    | nil =>
     rw [session_CheckHeld_l1.eq_1] at h
     refine f_seq ?_
     refine f_region ?_
     refine lv S (rn_lss (S.tm rfl) (S.tm rfl)) rfl ?_; clear S; intro a S
     refine l_done ?_
     replace S := S.nk [] [(0, v_p_items), (1, v_p_l), (6, .int .i64 x1), (19, v_p_l), (20, .int .i64 (p_l.length : Int)), (21, .int .i64 (i1 : Int)), (22, .bool (decide ((i1 : Int) < (p_l.length : Int))))] [] rfl ⟨rfl, rfl, rfl, rfl, rfl, rfl, rfl, trivial⟩
     refine then_n ?_
     refine f_seq ?_
     refine wp_cond_false ((S.tm rfl).trans (congrArg Value.bool (rng_nil hd1 hi1))) ?_
     refine wp_exit ?_
     refine then_x ?_
     refine then_x ?_
     refine x_same ?_
     refine then_n ?_
     exact ⟨h, S.nf [] rfl trivial⟩
    | cons y1 ys1 =>
     rw [session_CheckHeld_l1.eq_2] at h
     refine f_seq ?_
     refine f_region ?_
     refine lv S (rn_lss (S.tm rfl) (S.tm rfl)) rfl ?_; clear S; intro a S
     refine l_done ?_
     replace S := S.nk [] [(0, v_p_items), (1, v_p_l), (6, .int .i64 x1), (19, v_p_l), (20, .int .i64 (p_l.length : Int)), (21, .int .i64 (i1 : Int)), (22, .bool (decide ((i1 : Int) < (p_l.length : Int))))] [] rfl ⟨rfl, rfl, rfl, rfl, rfl, rfl, rfl, trivial⟩
     refine then_n ?_
     refine f_seq ?_
     refine wp_cond_true ((S.tm rfl).trans (congrArg Value.bool (rng_cons hd1 hi1))) ?_
     refine wp_skip ?_
     refine then_n ?_
     refine f_seq ?_
     refine wp_block ?_
     refine f_seq ?_
     refine f_region ?_
     refine lv S (rn_move (S.tm rfl)) rfl ?_; clear S; intro a S
     obtain ⟨b1, o1, hm1, hr2⟩ := rn_indexT (a := a) (x := .tmp 19) (y := .tmp 21) (ty := 0) sl_34 hs_p_l (get_mid hd1 hi1) rfl (S.tm rfl) (S.tm rfl)
     refine lv S (hr2 _) rfl ?_; clear S; intro a S
     clear hr2
     refine lv S (rn_ldA Tryd.isAgg48 Tryd.sizeOf48 (off := o1) (o := 0) (part := [.string y1.Item, .int .i64 y1.Heat, .int .i64 y1.At]) rfl rfl (S.tm rfl) (hm1.at S.emb0)) rfl ?_; clear S; intro a S
     refine l_alloc S Tryd.zeroValue48 (cs := [.string k_empty, .int .i64 0, .int .i64 0]) rfl rfl ?_; clear S; intro a w4 b2 hz1 hk2 S
     refine lv S (rn_assign (S.tm rfl)) rfl ?_; clear S; intro a S
     refine l_store S (S.tm rfl) (S.tm rfl) (i := 0) (off := 0) rfl Tryd.sizeOf48 (vs := [.string y1.Item, .int .i64 y1.Heat, .int .i64 y1.At]) rfl rfl rfl rfl ?_; clear S; intro w5 hk3 S
     refine l_done ?_
     replace S := S.nk [.blk b2 [.string y1.Item, .int .i64 y1.Heat, .int .i64 y1.At] 48] [(0, v_p_items), (1, v_p_l), (6, .int .i64 x1), (7, .int .i64 (i1 : Int)), (8, .pointer (some ⟨b2, 0, none⟩)), (19, v_p_l), (20, .int .i64 (p_l.length : Int)), (21, .int .i64 (i1 : Int))] [true] rfl ⟨rfl, rfl, rfl, rfl, rfl, rfl, rfl, rfl, trivial⟩
     refine then_n ?_
     refine f_seq ?_
     refine f_region ?_
     refine lv S (rn_move (S.tm rfl)) rfl ?_; clear S; intro a S
     refine lv S (rn_fld fa_48_0 (S.tm rfl)) rfl ?_; clear S; intro a S
     refine lv S (rn_load Tryd.isAgg9 (S.tm rfl) (S.cell (i := 0) rfl rfl)) rfl ?_; clear S; intro a S
     refine l_enter S (fun _ => run_call (vs := [v_p_items, .string y1.Item]) ⟨(S.tm rfl), (S.tm rfl), trivial⟩ Tryd.call58) (session_itemAt_ok _ v_p_items p_items (hs_p_items.mono (S.le_arg nil_sub)) y1.Item _ rfl) rfl ?_; clear S; intro v2 a w6 hv2 hk4 hn2 S
     subst hv2
     refine lv S (rn_assign (S.tm rfl)) rfl ?_; clear S; intro a S
     refine l_done ?_
     replace S := S.nk [.blk b2 [.string y1.Item, .int .i64 y1.Heat, .int .i64 y1.At] 48] [(0, v_p_items), (1, v_p_l), (6, .int .i64 x1), (7, .int .i64 (i1 : Int)), (8, .pointer (some ⟨b2, 0, none⟩)), (9, .int .i64 (session_itemAt p_items y1.Item)), (19, v_p_l), (20, .int .i64 (p_l.length : Int)), (21, .int .i64 (i1 : Int))] [true] rfl ⟨rfl, rfl, rfl, rfl, rfl, rfl, rfl, rfl, rfl, trivial⟩
     refine then_n ?_
     refine f_seq ?_
     refine f_seq ?_
     refine f_region ?_
     refine lv S (rn_move (S.tm rfl)) rfl ?_; clear S; intro a S
     refine lv S (rn_lss (S.tm rfl) rfl) rfl ?_; clear S; intro a S
     refine l_done ?_
     replace S := S.nk [.blk b2 [.string y1.Item, .int .i64 y1.Heat, .int .i64 y1.At] 48] [(0, v_p_items), (1, v_p_l), (6, .int .i64 x1), (7, .int .i64 (i1 : Int)), (8, .pointer (some ⟨b2, 0, none⟩)), (9, .int .i64 (session_itemAt p_items y1.Item)), (19, v_p_l), (20, .int .i64 (p_l.length : Int)), (21, .int .i64 (i1 : Int)), (31, .bool (decide ((session_itemAt p_items y1.Item) < 0)))] [true] rfl ⟨rfl, rfl, rfl, rfl, rfl, rfl, rfl, rfl, rfl, rfl, trivial⟩
     refine then_n ?_
     refine f_cond (S.tm rfl) (fun hb3 => ?_) (fun hb3 => ?_)
     ·replace h := iteT h hb3
      refine f_seq ?_
      refine f_region ?_
      refine lv S (rn_assign rfl) rfl ?_; clear S; intro a S
      refine l_done ?_
      replace S := S.nk [] [(4, .int .i64 8)] [false] rfl ⟨rfl, trivial⟩
      refine then_n ?_
      refine wp_ret ?_
      refine then_r ?_
      refine blk_r ?_
      refine then_r ?_
      refine then_r ?_
      refine blk_r ?_
      refine then_r ?_
      refine then_r ?_
      obtain rfl := Option.some.inj h
      exact f_ret S Tryd.results40 rfl rfl
     ·replace h := iteF h hb3
      refine wp_skip ?_
      refine then_n ?_
      refine f_seq ?_
      refine f_seq ?_
      obtain ⟨j2, hj2, h⟩ := joinE h
      refine f_join (fun a w' => ∃ x2 : Bool, j2 x2 = some r ∧ Sx w [] nov [.blk b2 [.string y1.Item, .int .i64 y1.Heat, .int .i64 y1.At] 48] [(0, v_p_items), (1, v_p_l), (6, .int .i64 x1), (7, .int .i64 (i1 : Int)), (8, .pointer (some ⟨b2, 0, none⟩)), (9, .int .i64 (session_itemAt p_items y1.Item)), (19, v_p_l), (20, .int .i64 (p_l.length : Int)), (21, .int .i64 (i1 : Int)), (46, .bool x2)] 72 a w') ?_ ?_
      ·obtain ⟨hc1, h⟩ := chkE h
       rcases Bool.eq_false_or_eq_true (!(words_Within y1.Heat 1 ((nth p_items (session_itemAt p_items y1.Item)).Heats))) with hb4 | hb4
       ·replace h := iteT h hb4
        refine d_region [] ([]) Tryd.mixed S rfl (by kernel_rfl) ?_; clear S; intro w10 hk7 hsel S
        refine d_quiet 0 S hsel rfl rfl rfl (by kernel_rfl) (by kernel_rfl) rfl (fun _ hw => (rn_fld fa_48_1 (S.tm rfl))) ?_; clear S; intro a S
        refine d_quiet 1 S hsel rfl rfl rfl (by kernel_rfl) (by kernel_rfl) rfl (fun _ hw => (rn_ld Tryd.isAgg3 (off := 0) (o := 1) (S.tm rfl) ((S.blk_mem (i := 0) (cells := [.string y1.Item, .int .i64 y1.Heat, .int .i64 y1.At]) (b := b2) (T := 48) rfl (ne_nil (e' := .blk b2 [.string y1.Item, .int .i64 y1.Heat, .int .i64 y1.At] 48))).kept hw) rfl)) ?_; clear S; intro a S
        refine d_quiet 2 S hsel rfl rfl rfl (by kernel_rfl) (by kernel_rfl) rfl (fun _ hw => (rn_move (S.tm rfl))) ?_; clear S; intro a S
        refine d_quiet 3 S hsel rfl rfl rfl (by kernel_rfl) (by kernel_rfl) rfl (fun _ hw => (rn_move (S.tm rfl))) ?_; clear S; intro a S
        obtain ⟨b5, o4, hm4, hr5⟩ := rn_indexT (a := a) (x := .tmp 34) (y := .tmp 35) (ty := 0) sl_26 (hs_p_items.mono (S.le_arg nil_sub)) (inB_get hc1).1 (inB_get hc1).2 (S.tm rfl) (S.tm rfl)
        refine d_quiet 4 S hsel rfl rfl rfl (by kernel_rfl) (by kernel_rfl) rfl (fun _ hw => hr5 _) ?_; clear S; intro a S
        clear hr5
        refine d_quiet 5 S hsel rfl rfl rfl (by kernel_rfl) (by kernel_rfl) rfl (fun _ hw => (rn_fld fa_37_1 (S.tm rfl))) ?_; clear S; intro a S
        refine d_quiet 6 S hsel rfl rfl rfl (by kernel_rfl) (by kernel_rfl) rfl (fun _ hw => (rn_ld Tryd.isAgg3 (off := o4) (o := 1) (S.tm rfl) (hm4.kept hw) rfl)) ?_; clear S; intro a S
        refine d_loud1 7 (by kernel_rfl) rfl ?_
        refine l_enter S (fun _ => run_call (vs := [.int .i64 y1.Heat, .int .i64 1, .int .i64 ((nth p_items (session_itemAt p_items y1.Item)).Heats)]) ⟨(S.tm rfl), rfl, (S.tm rfl), trivial⟩ Tryd.call36) (words_Within_ok _ y1.Heat 1 ((nth p_items (session_itemAt p_items y1.Item)).Heats) _ rfl) rfl ?_; clear S; intro v5 a w11 hv5 hk8 hn5 S
        subst hv5
        refine l_done ?_
        refine d_next hk8 ?_
        refine d_rest [8, 9, 10, 11, 12, 13, 14] hsel (by kernel_rfl) rfl ?_
        clear hsel
        refine s_lv S rfl (rn_not (S.tm rfl)) rfl ?_; clear S; intro a S
        refine s_lv S rfl (rn_move (S.tm rfl)) rfl ?_; clear S; intro a S
        refine s_skip S rfl rfl rfl rfl (neq_t hb4) rfl ?_ rfl; clear S; intro a S
        refine s_skip S rfl rfl rfl rfl (neq_t hb4) rfl ?_ rfl; clear S; intro a S
        refine s_skip S rfl rfl rfl rfl (neq_t hb4) rfl ?_ rfl; clear S; intro a S
        refine s_skip S rfl rfl rfl rfl (neq_t hb4) rfl ?_ rfl; clear S; intro a S
        refine s_lv S rfl (rn_pick_b hb4 (S.tm rfl) rfl) rfl ?_; clear S; intro a S
        refine s_done ?_
        replace S := S.nk [.blk b2 [.string y1.Item, .int .i64 y1.Heat, .int .i64 y1.At] 48] [(0, v_p_items), (1, v_p_l), (6, .int .i64 x1), (7, .int .i64 (i1 : Int)), (8, .pointer (some ⟨b2, 0, none⟩)), (9, .int .i64 (session_itemAt p_items y1.Item)), (19, v_p_l), (20, .int .i64 (p_l.length : Int)), (21, .int .i64 (i1 : Int)), (46, .bool true)] [true] rfl ⟨rfl, rfl, rfl, rfl, rfl, rfl, rfl, rfl, rfl, rfl, trivial⟩
        refine then_n ?_
        exact ⟨true, h, S.nf [true] rfl ⟨rfl, rfl, rfl, rfl, rfl, rfl, rfl, rfl, rfl, rfl, trivial⟩⟩
       ·replace h := iteF h hb4
        refine d_region [] ([]) Tryd.mixed S rfl (by kernel_rfl) ?_; clear S; intro w14 hk11 hsel S
        refine d_quiet 0 S hsel rfl rfl rfl (by kernel_rfl) (by kernel_rfl) rfl (fun _ hw => (rn_fld fa_48_1 (S.tm rfl))) ?_; clear S; intro a S
        refine d_quiet 1 S hsel rfl rfl rfl (by kernel_rfl) (by kernel_rfl) rfl (fun _ hw => (rn_ld Tryd.isAgg3 (off := 0) (o := 1) (S.tm rfl) ((S.blk_mem (i := 0) (cells := [.string y1.Item, .int .i64 y1.Heat, .int .i64 y1.At]) (b := b2) (T := 48) rfl (ne_nil (e' := .blk b2 [.string y1.Item, .int .i64 y1.Heat, .int .i64 y1.At] 48))).kept hw) rfl)) ?_; clear S; intro a S
        refine d_quiet 2 S hsel rfl rfl rfl (by kernel_rfl) (by kernel_rfl) rfl (fun _ hw => (rn_move (S.tm rfl))) ?_; clear S; intro a S
        refine d_quiet 3 S hsel rfl rfl rfl (by kernel_rfl) (by kernel_rfl) rfl (fun _ hw => (rn_move (S.tm rfl))) ?_; clear S; intro a S
        obtain ⟨b7, o6, hm6, hr7⟩ := rn_indexT (a := a) (x := .tmp 34) (y := .tmp 35) (ty := 0) sl_26 (hs_p_items.mono (S.le_arg nil_sub)) (inB_get hc1).1 (inB_get hc1).2 (S.tm rfl) (S.tm rfl)
        refine d_quiet 4 S hsel rfl rfl rfl (by kernel_rfl) (by kernel_rfl) rfl (fun _ hw => hr7 _) ?_; clear S; intro a S
        clear hr7
        refine d_quiet 5 S hsel rfl rfl rfl (by kernel_rfl) (by kernel_rfl) rfl (fun _ hw => (rn_fld fa_37_1 (S.tm rfl))) ?_; clear S; intro a S
        refine d_quiet 6 S hsel rfl rfl rfl (by kernel_rfl) (by kernel_rfl) rfl (fun _ hw => (rn_ld Tryd.isAgg3 (off := o6) (o := 1) (S.tm rfl) (hm6.kept hw) rfl)) ?_; clear S; intro a S
        refine d_loud1 7 (by kernel_rfl) rfl ?_
        refine l_enter S (fun _ => run_call (vs := [.int .i64 y1.Heat, .int .i64 1, .int .i64 ((nth p_items (session_itemAt p_items y1.Item)).Heats)]) ⟨(S.tm rfl), rfl, (S.tm rfl), trivial⟩ Tryd.call36) (words_Within_ok _ y1.Heat 1 ((nth p_items (session_itemAt p_items y1.Item)).Heats) _ rfl) rfl ?_; clear S; intro v8 a w15 hv8 hk12 hn8 S
        subst hv8
        refine l_done ?_
        refine d_next hk12 ?_
        refine d_quiet 8 S hsel rfl rfl rfl (by kernel_rfl) (by kernel_rfl) rfl (fun _ hw => (rn_not (S.tm rfl))) ?_; clear S; intro a S
        refine d_quiet 9 S hsel rfl rfl rfl (by kernel_rfl) (by kernel_rfl) rfl (fun _ hw => (rn_move (S.tm rfl))) ?_; clear S; intro a S
        refine d_quiet_g 10 S hsel rfl rfl rfl rfl hb4 rfl rfl (by kernel_rfl) (by kernel_rfl) rfl (fun _ hw => (rn_fld fa_48_2 (S.tm rfl))) ?_; clear S; intro a S
        refine d_quiet_g 11 S hsel rfl rfl rfl rfl hb4 rfl rfl (by kernel_rfl) (by kernel_rfl) rfl (fun _ hw => (rn_ld Tryd.isAgg3 (off := 0) (o := 2) (S.tm rfl) ((S.blk_mem (i := 0) (cells := [.string y1.Item, .int .i64 y1.Heat, .int .i64 y1.At]) (b := b2) (T := 48) rfl (ne_nil (e' := .blk b2 [.string y1.Item, .int .i64 y1.Heat, .int .i64 y1.At] 48))).kept hw) rfl)) ?_; clear S; intro a S
        refine d_loud1 12 (by kernel_rfl) rfl ?_
        refine l_want S rfl rfl rfl hb4 ?_
        refine l_enter S (fun _ => run_call (vs := [.int .i64 y1.At]) ⟨(S.tm rfl), trivial⟩ Tryd.call37) (words_IsMoment_ok _ y1.At _ rfl) rfl ?_; clear S; intro v9 a w16 hv9 hk13 hn9 S
        subst hv9
        refine l_done ?_
        refine d_next hk13 ?_
        refine d_rest [13, 14] hsel (by kernel_rfl) rfl ?_
        clear hsel
        refine s_want S rfl rfl rfl rfl hb4 ?_
        refine s_lv0 S (rn_not (S.tm rfl)) rfl ?_; clear S; intro a S
        refine s_lv S rfl (rn_pick_c hb4 (S.tm rfl) (S.tm rfl)) rfl ?_; clear S; intro a S
        refine s_done ?_
        replace S := S.nk [.blk b2 [.string y1.Item, .int .i64 y1.Heat, .int .i64 y1.At] 48] [(0, v_p_items), (1, v_p_l), (6, .int .i64 x1), (7, .int .i64 (i1 : Int)), (8, .pointer (some ⟨b2, 0, none⟩)), (9, .int .i64 (session_itemAt p_items y1.Item)), (19, v_p_l), (20, .int .i64 (p_l.length : Int)), (21, .int .i64 (i1 : Int)), (42, .pointer (some ⟨b2, 2, none⟩)), (43, .int .i64 y1.At), (44, .bool (words_IsMoment y1.At)), (45, .bool (!(words_IsMoment y1.At))), (46, .bool (!(words_IsMoment y1.At)))] [true] rfl ⟨rfl, rfl, rfl, rfl, rfl, rfl, rfl, rfl, rfl, rfl, rfl, rfl, rfl, rfl, trivial⟩
        refine then_n ?_
        exact ⟨!(words_IsMoment y1.At), h, S.nf [true] rfl ⟨rfl, rfl, rfl, rfl, rfl, rfl, rfl, rfl, rfl, rfl, trivial⟩⟩
      clear S h; rintro a w7 ⟨x2, h, S⟩; rw [hj2] at h; clear hj2 j2
      refine then_n ?_
      refine f_cond (S.tm rfl) (fun hb5 => ?_) (fun hb5 => ?_)
      ·replace h := iteT h hb5
       refine f_seq ?_
       refine f_region ?_
       refine lv S (rn_assign rfl) rfl ?_; clear S; intro a S
       refine l_done ?_
       replace S := S.nk [] [(4, .int .i64 1)] [false] rfl ⟨rfl, trivial⟩
       refine then_n ?_
       refine wp_ret ?_
       refine then_r ?_
       refine blk_r ?_
       refine then_r ?_
       refine then_r ?_
       refine blk_r ?_
       refine then_r ?_
       refine then_r ?_
       obtain rfl := Option.some.inj h
       exact f_ret S Tryd.results40 rfl rfl
      ·replace h := iteF h hb5
       refine wp_skip ?_
       refine then_n ?_
       refine f_seq ?_
       refine f_region ?_
       refine lv S (rn_move (S.tm rfl)) rfl ?_; clear S; intro a S
       refine lv S (rn_mul (S.tm rfl) rfl) rfl ?_; clear S; intro a S
       refine lv S (rn_fld fa_48_1 (S.tm rfl)) rfl ?_; clear S; intro a S
       refine lv S (rn_load Tryd.isAgg3 (S.tm rfl) (S.cell (i := 0) rfl rfl)) rfl ?_; clear S; intro a S
       refine lv S (rn_add (S.tm rfl) (S.tm rfl)) rfl ?_; clear S; intro a S
       refine lv S (rn_assign (S.tm rfl)) rfl ?_; clear S; intro a S
       refine l_done ?_
       replace S := S.nk [.blk b2 [.string y1.Item, .int .i64 y1.Heat, .int .i64 y1.At] 48] [(0, v_p_items), (1, v_p_l), (6, .int .i64 x1), (7, .int .i64 (i1 : Int)), (8, .pointer (some ⟨b2, 0, none⟩)), (10, .int .i64 (W ((W ((session_itemAt p_items y1.Item) * 61)) + y1.Heat))), (19, v_p_l), (20, .int .i64 (p_l.length : Int)), (21, .int .i64 (i1 : Int))] [true] rfl ⟨rfl, rfl, rfl, rfl, rfl, rfl, rfl, rfl, rfl, trivial⟩
       refine then_n ?_
       refine f_seq ?_
       refine f_seq ?_
       refine d_region [] ([]) Tryd.mixed S rfl (by kernel_rfl) ?_; clear S; intro w17 hk14 hsel S
       refine d_rest [0, 1, 2, 3, 4, 5, 6, 7, 8, 9, 10, 11, 12, 13, 14, 15, 16, 17] hsel (by kernel_rfl) rfl ?_
       clear hsel
       refine s_lv S rfl (rn_move (S.tm rfl)) rfl ?_; clear S; intro a S
       refine s_lv S rfl (rn_move (S.tm rfl)) rfl ?_; clear S; intro a S
       refine s_lv S rfl (rn_leq (S.tm rfl) (S.tm rfl)) rfl ?_; clear S; intro a S
       refine s_lv S rfl (rn_move (S.tm rfl)) rfl ?_; clear S; intro a S
       obtain ⟨j3, hj3, h⟩ := joinE h
       refine s_cutm 14 (fun a w' => ∃ c1, j3 c1 = some r ∧ Keep [] w17 w' ∧ Sx w [] nov [.blk b2 [.string y1.Item, .int .i64 y1.Heat, .int .i64 y1.At] 48] [(0, v_p_items), (1, v_p_l), (10, .int .i64 (W ((W ((session_itemAt p_items y1.Item) * 61)) + y1.Heat))), (19, v_p_l), (20, .int .i64 (p_l.length : Int)), (21, .int .i64 (i1 : Int)), (69, .bool c1)] 72 a w') ?_ ?_
       ·rcases Bool.eq_false_or_eq_true (decide ((W ((W ((session_itemAt p_items y1.Item) * 61)) + y1.Heat)) ≤ x1)) with hb6 | hb6
        ·replace h := iteT h hb6
         refine s_skip S rfl rfl rfl rfl (neq_t hb6) rfl ?_ rfl; clear S; intro a S
         refine s_skip S rfl rfl rfl rfl (neq_t hb6) rfl ?_ rfl; clear S; intro a S
         refine s_skip S rfl rfl rfl rfl (neq_t hb6) rfl ?_ rfl; clear S; intro a S
         refine s_skipU S rfl rfl rfl rfl rfl ?_; clear S; intro a S
         refine s_skipU S rfl rfl rfl rfl rfl ?_; clear S; intro a S
         refine s_skipU S rfl rfl rfl rfl rfl ?_; clear S; intro a S
         refine s_skipU S rfl rfl rfl rfl rfl ?_; clear S; intro a S
         refine s_skipU S rfl rfl rfl rfl rfl ?_; clear S; intro a S
         refine s_skipU S rfl rfl rfl rfl rfl ?_; clear S; intro a S
         refine s_skipU S rfl rfl rfl rfl rfl ?_; clear S; intro a S
         refine s_skipU S rfl rfl rfl rfl rfl ?_; clear S; intro a S
         refine s_skipU S rfl rfl rfl rfl rfl ?_; clear S; intro a S
         refine s_skip S rfl rfl rfl rfl (neq_t hb6) rfl ?_ rfl; clear S; intro a S
         refine s_lv S rfl (rn_or_t true hb6 (S.tm rfl) rfl) rfl ?_; clear S; intro a S
         refine s_done ?_
         exact ⟨_, h, Keep.refl _ _, S.nf [true] rfl ⟨rfl, rfl, rfl, rfl, rfl, rfl, rfl, trivial⟩⟩
        ·replace h := iteF h hb6
         refine s_want S rfl rfl rfl rfl hb6 ?_
         refine s_lv0 S (rn_move (S.tm rfl)) rfl ?_; clear S; intro a S
         refine s_want S rfl rfl rfl rfl hb6 ?_
         refine s_lv0 S (rn_gtr (S.tm rfl) rfl) rfl ?_; clear S; intro a S
         refine s_want S rfl rfl rfl rfl hb6 ?_
         refine s_lv0 S (rn_move (S.tm rfl)) rfl ?_; clear S; intro a S
         obtain ⟨j4, hj4, h⟩ := joinE h
         refine s_cutm 10 (fun a w' => ∃ c2, j4 c2 = some r ∧ Keep [] w17 w' ∧ Sx w [] nov [.blk b2 [.string y1.Item, .int .i64 y1.Heat, .int .i64 y1.At] 48] [(0, v_p_items), (1, v_p_l), (10, .int .i64 (W ((W ((session_itemAt p_items y1.Item) * 61)) + y1.Heat))), (19, v_p_l), (20, .int .i64 (p_l.length : Int)), (21, .int .i64 (i1 : Int)), (55, .bool (decide ((W ((W ((session_itemAt p_items y1.Item) * 61)) + y1.Heat)) ≤ x1))), (56, .int .i64 (i1 : Int)), (57, .bool (decide (0 < (i1 : Int)))), (58, .bool (decide (0 < (i1 : Int)))), (68, .bool c2)] 72 a w') ?_ ?_
         ·rcases Bool.eq_false_or_eq_true (decide (0 < (i1 : Int))) with hb7 | hb7
          ·replace h := iteT h hb7
           refine s_want S rfl rfl rfl rfl hb7 ?_
           refine s_lv0 S (rn_fld fa_48_2 (S.tm rfl)) rfl ?_; clear S; intro a S
           refine s_want S rfl rfl rfl rfl hb7 ?_
           refine s_lv0 S (rn_load Tryd.isAgg3 (S.tm rfl) (S.cell (i := 0) rfl rfl)) rfl ?_; clear S; intro a S
           refine s_want S rfl rfl rfl rfl hb7 ?_
           refine s_lv0 S (rn_move (S.tm rfl)) rfl ?_; clear S; intro a S
           refine s_want S rfl rfl rfl rfl hb7 ?_
           refine s_lv0 S (rn_move (S.tm rfl)) rfl ?_; clear S; intro a S
           refine s_want S rfl rfl rfl rfl hb7 ?_
           refine s_lv0 S (rn_sub (S.tm rfl) rfl) rfl ?_; clear S; intro a S
           refine s_want S rfl rfl rfl rfl hb7 ?_
           obtain ⟨hc2, h⟩ := chkE h
           obtain ⟨b8, o7, hm7, hr8⟩ := rn_indexT (a := a) (x := .tmp 61) (y := .tmp 63) (ty := 0) sl_34 hs_p_l (inB_get hc2).1 (inB_get hc2).2 (S.tm rfl) (S.tm rfl)
           refine s_lv0 S (hr8 _) rfl ?_; clear S; intro a S
           clear hr8
           refine s_want S rfl rfl rfl rfl hb7 ?_
           refine s_lv0 S (rn_fld fa_48_2 (S.tm rfl)) rfl ?_; clear S; intro a S
           refine s_want S rfl rfl rfl rfl hb7 ?_
           refine s_lv0 S (rn_ld Tryd.isAgg3 (off := o7) (o := 2) (S.tm rfl) (hm7.at S.emb0) rfl) rfl ?_; clear S; intro a S
           refine s_want S rfl rfl rfl rfl hb7 ?_
           refine s_lv0 S (rn_lss (S.tm rfl) (S.tm rfl)) rfl ?_; clear S; intro a S
           refine s_want S rfl rfl rfl rfl hb6 ?_
           refine s_lv0 S (rn_and_t hb7 (S.tm rfl) (S.tm rfl)) rfl ?_; clear S; intro a S
           refine s_done ?_
           exact ⟨_, h, Keep.refl _ _, S.nf [true] rfl ⟨rfl, rfl, rfl, rfl, rfl, rfl, rfl, rfl, rfl, rfl, rfl, trivial⟩⟩
          ·replace h := iteF h hb7
           refine s_skip S rfl rfl rfl rfl (neq_f hb7) rfl ?_ rfl; clear S; intro a S
           refine s_skip S rfl rfl rfl rfl (neq_f hb7) rfl ?_ rfl; clear S; intro a S
           refine s_skip S rfl rfl rfl rfl (neq_f hb7) rfl ?_ rfl; clear S; intro a S
           refine s_skip S rfl rfl rfl rfl (neq_f hb7) rfl ?_ rfl; clear S; intro a S
           refine s_skip S rfl rfl rfl rfl (neq_f hb7) rfl ?_ rfl; clear S; intro a S
           refine s_skip S rfl rfl rfl rfl (neq_f hb7) rfl ?_ rfl; clear S; intro a S
           refine s_skip S rfl rfl rfl rfl (neq_f hb7) rfl ?_ rfl; clear S; intro a S
           refine s_skip S rfl rfl rfl rfl (neq_f hb7) rfl ?_ rfl; clear S; intro a S
           refine s_skip S rfl rfl rfl rfl (neq_f hb7) rfl ?_ rfl; clear S; intro a S
           refine s_want S rfl rfl rfl rfl hb6 ?_
           refine s_lv0 S (rn_and_f true hb7 (S.tm rfl) rfl) rfl ?_; clear S; intro a S
           refine s_done ?_
           exact ⟨_, h, Keep.refl _ _, S.nf [true] rfl ⟨rfl, rfl, rfl, rfl, rfl, rfl, rfl, rfl, rfl, rfl, rfl, trivial⟩⟩
         clear S h; rintro a w19 ⟨c2, h, hk15, S⟩; rw [hj4] at h; clear hj4 j4
         refine s_lv S rfl (rn_or_f hb6 (S.tm rfl) (S.tm rfl)) rfl ?_; clear S; intro a S
         refine s_done ?_
         exact ⟨_, h, hk15, S.nf [true] rfl ⟨rfl, rfl, rfl, rfl, rfl, rfl, rfl, trivial⟩⟩
       clear S h; rintro a w18 ⟨c1, h, hk16, S⟩; rw [hj3] at h; clear hj3 j3
       refine s_done ?_
       replace S := S.nk [] [(0, v_p_items), (1, v_p_l), (10, .int .i64 (W ((W ((session_itemAt p_items y1.Item) * 61)) + y1.Heat))), (19, v_p_l), (20, .int .i64 (p_l.length : Int)), (21, .int .i64 (i1 : Int)), (69, .bool c1)] [false] rfl ⟨rfl, rfl, rfl, rfl, rfl, rfl, rfl, trivial⟩
       refine then_n ?_
       refine f_cond (S.tm rfl) (fun hb8 => ?_) (fun hb8 => ?_)
       ·replace h := iteT h hb8
        refine f_seq ?_
        refine f_region ?_
        refine lv S (rn_assign rfl) rfl ?_; clear S; intro a S
        refine l_done ?_
        replace S := S.nk [] [(4, .int .i64 7)] [] rfl ⟨rfl, trivial⟩
        refine then_n ?_
        refine wp_ret ?_
        refine then_r ?_
        refine blk_r ?_
        refine then_r ?_
        refine then_r ?_
        refine blk_r ?_
        refine then_r ?_
        refine then_r ?_
        obtain rfl := Option.some.inj h
        exact f_ret S Tryd.results40 rfl rfl
       ·replace h := iteF h hb8
        refine wp_skip ?_
        refine then_n ?_
        refine f_region ?_
        refine lv S (rn_move (S.tm rfl)) rfl ?_; clear S; intro a S
        refine lv S (rn_assign (S.tm rfl)) rfl ?_; clear S; intro a S
        refine l_done ?_
        replace S := S.nk [] [(0, v_p_items), (1, v_p_l), (6, .int .i64 (W ((W ((session_itemAt p_items y1.Item) * 61)) + y1.Heat))), (19, v_p_l), (20, .int .i64 (p_l.length : Int)), (21, .int .i64 (i1 : Int))] [] rfl ⟨rfl, rfl, rfl, rfl, rfl, rfl, trivial⟩
        refine blk_n ?_
        refine then_n ?_
        refine f_region ?_
        refine lv S (rn_add (S.tm rfl) rfl) rfl ?_; clear S; intro a S
        refine lv S (rn_move (S.tm rfl)) rfl ?_; clear S; intro a S
        refine l_done ?_
        replace S := S.nk [] [(0, v_p_items), (1, v_p_l), (6, .int .i64 (W ((W ((session_itemAt p_items y1.Item) * 61)) + y1.Heat))), (19, v_p_l), (20, .int .i64 (p_l.length : Int)), (21, .int .i64 (W ((i1 : Int) + 1)))] [] rfl ⟨rfl, rfl, rfl, rfl, rfl, rfl, trivial⟩
        refine then_n ?_
        exact ⟨ys1, ⟨i1 + 1, W ((W ((session_itemAt p_items y1.Item) * 61)) + y1.Heat), ⟨_, (hd1).trans (List.append_cons _ _ _), by simp [hi1]⟩, h, S.nf [] rfl ⟨rfl, rfl, rfl, rfl, rfl, (congrArg (fun z => some (Value.int .i64 z)) (rng_next hd1 hi1 (slc_max hs_p_l))), trivial⟩⟩, Nat.lt_succ_self _⟩
   clear S h; rintro a w3 ⟨h, S⟩; rw [hj1] at h; clear hj1 j1
   refine then_n ?_
   refine f_seq ?_
   refine f_region ?_
   refine lv S (rn_assign rfl) rfl ?_; clear S; intro a S
   refine l_done ?_
   replace S := S.nk [] [(4, .int .i64 0)] [] rfl ⟨rfl, trivial⟩
   refine then_n ?_
   refine wp_ret ?_
   obtain rfl := Option.some.inj h
   exact f_ret S Tryd.results40 rfl rfl
set_option maxRecDepth 20000 in
theorem session_live_ok (w : World) (v_p_items : Value) (p_items : List GItem) (hs_p_items : Slc (view w []) 5 v_p_items (p_items.map GItem.enc)) (p_from : Int) (v_p_l : Value) (p_l : List GHeld) (hs_p_l : Slc (view w []) 3 v_p_l (p_l.map GHeld.enc)) (r : (List GSlot) × (List GSlot)) (h : session_live p_items p_from p_l = some r) :
    Calls Tryd.prog 41 [v_p_items, .int .i64 p_from, v_p_l].toArray w (Ret w [] fun τ v _ => ∃ u1 : Value, ∃ u2 : Value, v = .tuple #[u1, u2] ∧ OwnV τ 43 4 u1 r.1.length (r.1.flatMap GSlot.enc) ∧ OwnV τ 43 4 u2 r.2.length (r.2.flatMap GSlot.enc)) := by
 refine f_enter [] [] Tryd.func41 rfl Tryd.ntmps41 rfl (by simp) (by simp [fps]) (by simp [fps]) fun a S => ?_
 unfold session_live at h
 replace S := S.nk [] [(0, v_p_items), (1, .int .i64 p_from), (2, v_p_l)] [] rfl ⟨rfl, rfl, rfl, trivial⟩
 refine f_seq ?_
 refine f_region ?_
 refine lv S (rn_assign rfl) rfl ?_; clear S; intro a S
 replace S := S.nil 43 4
 refine lv S (rn_assign rfl) rfl ?_; clear S; intro a S
 refine l_done ?_
 replace S := S.nk [.own (.slice none 0 0) 43 4 ([] : List GSlot).length (([] : List GSlot).flatMap GSlot.enc)] [(0, v_p_items), (1, .int .i64 p_from), (2, v_p_l), (6, (.slice none 0 0))] [true] rfl ⟨rfl, rfl, rfl, rfl, trivial⟩
 refine then_n ?_
 refine f_seq ?_
 refine f_region ?_
 refine lv S (rn_move (S.tm rfl)) rfl ?_; clear S; intro a S
 refine lv S (rn_move (S.tm rfl)) rfl ?_; clear S; intro a S
 obtain ⟨r1, hr1, h⟩ := bindE h
 have hz1 := S.keep.size
 refine l_enter S (fun _ => run_call (vs := [v_p_items, .int .i64 p_from]) ⟨(S.tm rfl), (S.tm rfl), trivial⟩ Tryd.call38) (session_timetable_ok _ v_p_items p_items (hs_p_items.mono (S.le_arg nil_sub)) p_from _ hr1) rfl ?_; clear S; intro v1 a w1 hv1 hk1 hn1 S
 obtain ⟨φ1, hl1, hm1, S⟩ := S.see' hn1 hz1
 have hs1 := hv1.mono hm1
 refine lv S (rn_assign (S.tm rfl)) rfl ?_; clear S; intro a S
 refine l_done ?_
 replace S := S.nk [.own (.slice none 0 0) 43 4 ([] : List GSlot).length (([] : List GSlot).flatMap GSlot.enc)] [(2, v_p_l), (6, (.slice none 0 0)), (7, v1)] [true] rfl ⟨rfl, rfl, rfl, trivial⟩
 refine then_n ?_
 refine f_seq ?_
 refine f_region ?_
 refine l_makeMap (κ := Gsession_heat) (ν := Int) S rfl (fun x => Value.agg (Gsession_heat.enc x).toArray) (Value.int .i64) ?_; clear S; intro a w2 b1 hz2 hk2 S
 refine lv S (rn_assign (S.tm rfl)) rfl ?_; clear S; intro a S
 refine l_done ?_
 replace S := S.nk [.map b1 (ments (fun x => Value.agg (Gsession_heat.enc x).toArray) (Value.int .i64) ([] : List (Gsession_heat × Int))) ([] : List (Gsession_heat × Int)).length, .own (.slice none 0 0) 43 4 ([] : List GSlot).length (([] : List GSlot).flatMap GSlot.enc)] [(2, v_p_l), (6, (.slice none 0 0)), (7, v1), (8, .map (some b1))] [true, true] rfl ⟨rfl, rfl, rfl, rfl, trivial⟩
 refine then_n ?_
 refine f_seq ?_
 refine f_region ?_
 refine l_makeMap (κ := Gsession_heat) (ν := Bool) S rfl (fun x => Value.agg (Gsession_heat.enc x).toArray) Value.bool ?_; clear S; intro a w3 b2 hz3 hk3 S
 refine lv S (rn_assign (S.tm rfl)) rfl ?_; clear S; intro a S
 refine l_done ?_
 replace S := S.nk [.map b2 (ments (fun x => Value.agg (Gsession_heat.enc x).toArray) Value.bool ([] : List (Gsession_heat × Bool))) ([] : List (Gsession_heat × Bool)).length, .map b1 (ments (fun x => Value.agg (Gsession_heat.enc x).toArray) (Value.int .i64) ([] : List (Gsession_heat × Int))) ([] : List (Gsession_heat × Int)).length, .own (.slice none 0 0) 43 4 ([] : List GSlot).length (([] : List GSlot).flatMap GSlot.enc)] [(2, v_p_l), (6, (.slice none 0 0)), (7, v1), (8, .map (some b1)), (9, .map (some b2))] [true, true, true] rfl ⟨rfl, rfl, rfl, rfl, rfl, trivial⟩
 refine then_n ?_
 refine f_seq ?_
 refine f_seq ?_
 refine f_region ?_
 refine lv S (rn_move (S.tm rfl)) rfl ?_; clear S; intro a S
 refine lv S (rn_lenT sl_34 (S.tm rfl) (slc_len hs_p_l)) rfl ?_; clear S; intro a S
 refine lv S (rn_move rfl) rfl ?_; clear S; intro a S
 refine l_done ?_
 replace S := S.nk [.map b2 (ments (fun x => Value.agg (Gsession_heat.enc x).toArray) Value.bool ([] : List (Gsession_heat × Bool))) ([] : List (Gsession_heat × Bool)).length, .map b1 (ments (fun x => Value.agg (Gsession_heat.enc x).toArray) (Value.int .i64) ([] : List (Gsession_heat × Int))) ([] : List (Gsession_heat × Int)).length, .own (.slice none 0 0) 43 4 ([] : List GSlot).length (([] : List GSlot).flatMap GSlot.enc)] [(6, (.slice none 0 0)), (7, v1), (8, .map (some b1)), (9, .map (some b2)), (22, v_p_l), (23, .int .i64 (p_l.length : Int)), (24, .int .i64 0)] [true, true, true] rfl ⟨rfl, rfl, rfl, rfl, rfl, rfl, rfl, trivial⟩
 refine then_n ?_
 obtain ⟨j1, hj1, h⟩ := joinE h
 refine f_join (fun a w' => ∃ x1 : List (Gsession_heat × Bool), ∃ x2 : List (Gsession_heat × Int), j1 x1 x2 = some r ∧ Sx w [] φ1 [.map b2 (ments (fun x => Value.agg (Gsession_heat.enc x).toArray) Value.bool x1) x1.length, .map b1 (ments (fun x => Value.agg (Gsession_heat.enc x).toArray) (Value.int .i64) x2) x2.length, .own (.slice none 0 0) 43 4 ([] : List GSlot).length (([] : List GSlot).flatMap GSlot.enc)] [(6, (.slice none 0 0)), (7, v1), (8, .map (some b1)), (9, .map (some b2))] 118 a w') ?_ ?_
 ·refine wp_block ?_
  refine f_loop (fun (ys1 : List GHeld) a w' => ∃ i1 : Nat, ∃ x1 : List (Gsession_heat × Bool), ∃ x2 : List (Gsession_heat × Int), (∃ dn, p_l = dn ++ ys1 ∧ dn.length = i1) ∧ session_live_l1 j1 ys1 i1 x1 x2 = some r ∧ Sx w [] φ1 [.map b2 (ments (fun x => Value.agg (Gsession_heat.enc x).toArray) Value.bool x1) x1.length, .map b1 (ments (fun x => Value.agg (Gsession_heat.enc x).toArray) (Value.int .i64) x2) x2.length, .own (.slice none 0 0) 43 4 ([] : List GSlot).length (([] : List GSlot).flatMap GSlot.enc)] [(6, (.slice none 0 0)), (7, v1), (8, .map (some b1)), (9, .map (some b2)), (22, v_p_l), (23, .int .i64 (p_l.length : Int)), (24, .int .i64 (i1 : Int))] 118 a w') List.length p_l ⟨0, ([] : List (Gsession_heat × Bool)), ([] : List (Gsession_heat × Int)), ⟨[], rfl, rfl⟩, h, S.nf [true, true, true] rfl ⟨rfl, rfl, rfl, rfl, rfl, rfl, rfl, trivial⟩⟩ ?_
  clear S h; rintro ys1 a w4 ⟨i1, x1, x2, ⟨dn, hd1, hi1⟩, h, S⟩
  cases ys1 with
  | nil =>
   rw [session_live_l1.eq_1] at h
   refine f_seq ?_
   refine f_region ?_
   refine lv S (rn_lss (S.tm rfl) (S.tm rfl)) rfl ?_; clear S; intro a S
   refine l_done ?_
   replace S := S.nk [.map b2 (ments (fun x => Value.agg (Gsession_heat.enc x).toArray) Value.bool x1) x1.length, .map b1 (ments (fun x => Value.agg (Gsession_heat.enc x).toArray) (Value.int .i64) x2) x2.length, .own (.slice none 0 0) 43 4 ([] : List GSlot).length (([] : List GSlot).flatMap GSlot.enc)] [(6, (.slice none 0 0)), (7, v1), (8, .map (some b1)), (9, .map (some b2)), (22, v_p_l), (23, .int .i64 (p_l.length : Int)), (24, .int .i64 (i1 : Int)), (25, .bool (decide ((i1 : Int) < (p_l.length : Int))))] [true, true, true] rfl ⟨rfl, rfl, rfl, rfl, rfl, rfl, rfl, rfl, trivial⟩
   refine then_n ?_
   refine f_seq ?_
   refine wp_cond_false ((S.tm rfl).trans (congrArg Value.bool (rng_nil hd1 hi1))) ?_
   refine wp_exit ?_
   refine then_x ?_
   refine then_x ?_
   refine x_same ?_
   refine then_n ?_
   exact ⟨x1, x2, h, S.nf [true, true, true] rfl ⟨rfl, rfl, rfl, rfl, trivial⟩⟩
  | cons y1 ys1 =>
   rw [session_live_l1.eq_2] at h
   refine f_seq ?_
   refine f_region ?_
   refine lv S (rn_lss (S.tm rfl) (S.tm rfl)) rfl ?_; clear S; intro a S
   refine l_done ?_
   replace S := S.nk [.map b2 (ments (fun x => Value.agg (Gsession_heat.enc x).toArray) Value.bool x1) x1.length, .map b1 (ments (fun x => Value.agg (Gsession_heat.enc x).toArray) (Value.int .i64) x2) x2.length, .own (.slice none 0 0) 43 4 ([] : List GSlot).length (([] : List GSlot).flatMap GSlot.enc)] [(6, (.slice none 0 0)), (7, v1), (8, .map (some b1)), (9, .map (some b2)), (22, v_p_l), (23, .int .i64 (p_l.length : Int)), (24, .int .i64 (i1 : Int)), (25, .bool (decide ((i1 : Int) < (p_l.length : Int))))] [true, true, true] rfl ⟨rfl, rfl, rfl, rfl, rfl, rfl, rfl, rfl, trivial⟩
   refine then_n ?_
   refine f_seq ?_
   refine wp_cond_true ((S.tm rfl).trans (congrArg Value.bool (rng_cons hd1 hi1))) ?_
   refine wp_skip ?_
   refine then_n ?_
   refine f_seq ?_
   refine wp_block ?_
   refine f_seq ?_
   refine f_region ?_
   obtain ⟨b3, o1, hm2, hr2⟩ := rn_indexT (a := a) (x := .tmp 22) (y := .tmp 24) (ty := 0) sl_34 hs_p_l (get_mid hd1 hi1) rfl (S.tm rfl) (S.tm rfl)
   refine lv S (hr2 _) rfl ?_; clear S; intro a S
   clear hr2
   refine lv S (rn_ldA Tryd.isAgg48 Tryd.sizeOf48 (off := o1) (o := 0) (part := [.string y1.Item, .int .i64 y1.Heat, .int .i64 y1.At]) rfl rfl (S.tm rfl) (hm2.at S.emb0)) rfl ?_; clear S; intro a S
   refine l_alloc S Tryd.zeroValue48 (cs := [.string k_empty, .int .i64 0, .int .i64 0]) rfl rfl ?_; clear S; intro a w6 b4 hz4 hk4 S
   refine l_store S (S.tm rfl) (S.tm rfl) (i := 0) (off := 0) rfl Tryd.sizeOf48 (vs := [.string y1.Item, .int .i64 y1.Heat, .int .i64 y1.At]) rfl rfl rfl rfl ?_; clear S; intro w7 hk5 S
   refine l_done ?_
   replace S := S.nk [.blk b4 [.string y1.Item, .int .i64 y1.Heat, .int .i64 y1.At] 48, .map b2 (ments (fun x => Value.agg (Gsession_heat.enc x).toArray) Value.bool x1) x1.length, .map b1 (ments (fun x => Value.agg (Gsession_heat.enc x).toArray) (Value.int .i64) x2) x2.length, .own (.slice none 0 0) 43 4 ([] : List GSlot).length (([] : List GSlot).flatMap GSlot.enc)] [(6, (.slice none 0 0)), (7, v1), (8, .map (some b1)), (9, .map (some b2)), (11, .pointer (some ⟨b4, 0, none⟩)), (22, v_p_l), (23, .int .i64 (p_l.length : Int)), (24, .int .i64 (i1 : Int))] [true, true, true, true] rfl ⟨rfl, rfl, rfl, rfl, rfl, rfl, rfl, rfl, trivial⟩
   refine then_n ?_
   refine d_region [] ([b1] ++ [b2]) Tryd.mixed S rfl (by kernel_rfl) ?_; clear S; intro w10 hk8 hsel S
   refine d_quiet 0 S hsel rfl rfl rfl (by kernel_rfl) (by kernel_rfl) rfl (fun _ hw => (rn_move (S.tm rfl))) ?_; clear S; intro a S
   refine d_quiet 1 S hsel rfl rfl rfl (by kernel_rfl) (by kernel_rfl) rfl (fun _ hw => (rn_fld fa_48_0 (S.tm rfl))) ?_; clear S; intro a S
   refine d_quiet 2 S hsel rfl rfl rfl (by kernel_rfl) (by kernel_rfl) rfl (fun _ hw => (rn_ld Tryd.isAgg9 (off := 0) (o := 0) (S.tm rfl) ((S.blk_mem (i := 0) (cells := [.string y1.Item, .int .i64 y1.Heat, .int .i64 y1.At]) (b := b4) (T := 48) rfl (ne_app (ne_fp (i := 2) (j := 0) (e := .map b1 (ments (fun x => Value.agg (Gsession_heat.enc x).toArray) (Value.int .i64) x2) x2.length) (e' := .blk b4 [.string y1.Item, .int .i64 y1.Heat, .int .i64 y1.At] 48) S rfl rfl rfl) (ne_fp (i := 1) (j := 0) (e := .map b2 (ments (fun x => Value.agg (Gsession_heat.enc x).toArray) Value.bool x1) x1.length) (e' := .blk b4 [.string y1.Item, .int .i64 y1.Heat, .int .i64 y1.At] 48) S rfl rfl rfl))).kept hw) rfl)) ?_; clear S; intro a S
   refine d_quiet 3 S hsel rfl rfl rfl (by kernel_rfl) (by kernel_rfl) rfl (fun _ hw => (rn_fld fa_48_1 (S.tm rfl))) ?_; clear S; intro a S
   refine d_quiet 4 S hsel rfl rfl rfl (by kernel_rfl) (by kernel_rfl) rfl (fun _ hw => (rn_ld Tryd.isAgg3 (off := 0) (o := 1) (S.tm rfl) ((S.blk_mem (i := 0) (cells := [.string y1.Item, .int .i64 y1.Heat, .int .i64 y1.At]) (b := b4) (T := 48) rfl (ne_app (ne_fp (i := 2) (j := 0) (e := .map b1 (ments (fun x => Value.agg (Gsession_heat.enc x).toArray) (Value.int .i64) x2) x2.length) (e' := .blk b4 [.string y1.Item, .int .i64 y1.Heat, .int .i64 y1.At] 48) S rfl rfl rfl) (ne_fp (i := 1) (j := 0) (e := .map b2 (ments (fun x => Value.agg (Gsession_heat.enc x).toArray) Value.bool x1) x1.length) (e' := .blk b4 [.string y1.Item, .int .i64 y1.Heat, .int .i64 y1.At] 48) S rfl rfl rfl))).kept hw) rfl)) ?_; clear S; intro a S
   refine d_quiet 5 S hsel rfl rfl rfl (by kernel_rfl) (by kernel_rfl) rfl (fun _ hw => (rn_bld bt_100 (pv := [(0, .string y1.Item), (1, .int .i64 y1.Heat)]) ⟨rfl, (S.tm rfl), rfl, (S.tm rfl), trivial⟩ (cs := [.string y1.Item, .int .i64 y1.Heat]) (by kernel_rfl))) ?_; clear S; intro a S
   refine d_quiet 6 S hsel rfl rfl rfl (by kernel_rfl) (by kernel_rfl) rfl (fun _ hw => (rn_move (S.tm rfl))) ?_; clear S; intro a S
   refine d_quiet 7 S hsel rfl rfl rfl (by kernel_rfl) (by kernel_rfl) rfl (fun _ hw => (rn_fld fa_48_0 (S.tm rfl))) ?_; clear S; intro a S
   refine d_quiet 8 S hsel rfl rfl rfl (by kernel_rfl) (by kernel_rfl) rfl (fun _ hw => (rn_ld Tryd.isAgg9 (off := 0) (o := 0) (S.tm rfl) ((S.blk_mem (i := 0) (cells := [.string y1.Item, .int .i64 y1.Heat, .int .i64 y1.At]) (b := b4) (T := 48) rfl (ne_app (ne_fp (i := 2) (j := 0) (e := .map b1 (ments (fun x => Value.agg (Gsession_heat.enc x).toArray) (Value.int .i64) x2) x2.length) (e' := .blk b4 [.string y1.Item, .int .i64 y1.Heat, .int .i64 y1.At] 48) S rfl rfl rfl) (ne_fp (i := 1) (j := 0) (e := .map b2 (ments (fun x => Value.agg (Gsession_heat.enc x).toArray) Value.bool x1) x1.length) (e' := .blk b4 [.string y1.Item, .int .i64 y1.Heat, .int .i64 y1.At] 48) S rfl rfl rfl))).kept hw) rfl)) ?_; clear S; intro a S
   refine d_quiet 9 S hsel rfl rfl rfl (by kernel_rfl) (by kernel_rfl) rfl (fun _ hw => (rn_fld fa_48_1 (S.tm rfl))) ?_; clear S; intro a S
   refine d_quiet 10 S hsel rfl rfl rfl (by kernel_rfl) (by kernel_rfl) rfl (fun _ hw => (rn_ld Tryd.isAgg3 (off := 0) (o := 1) (S.tm rfl) ((S.blk_mem (i := 0) (cells := [.string y1.Item, .int .i64 y1.Heat, .int .i64 y1.At]) (b := b4) (T := 48) rfl (ne_app (ne_fp (i := 2) (j := 0) (e := .map b1 (ments (fun x => Value.agg (Gsession_heat.enc x).toArray) (Value.int .i64) x2) x2.length) (e' := .blk b4 [.string y1.Item, .int .i64 y1.Heat, .int .i64 y1.At] 48) S rfl rfl rfl) (ne_fp (i := 1) (j := 0) (e := .map b2 (ments (fun x => Value.agg (Gsession_heat.enc x).toArray) Value.bool x1) x1.length) (e' := .blk b4 [.string y1.Item, .int .i64 y1.Heat, .int .i64 y1.At] 48) S rfl rfl rfl))).kept hw) rfl)) ?_; clear S; intro a S
   refine d_quiet 11 S hsel rfl rfl rfl (by kernel_rfl) (by kernel_rfl) rfl (fun _ hw => (rn_bld bt_100 (pv := [(0, .string y1.Item), (1, .int .i64 y1.Heat)]) ⟨rfl, (S.tm rfl), rfl, (S.tm rfl), trivial⟩ (cs := [.string y1.Item, .int .i64 y1.Heat]) (by kernel_rfl))) ?_; clear S; intro a S
   refine d_quiet 12 S hsel rfl rfl rfl (by kernel_rfl) (by kernel_rfl) rfl (fun _ hw => (rn_fld fa_48_2 (S.tm rfl))) ?_; clear S; intro a S
   refine d_quiet 13 S hsel rfl rfl rfl (by kernel_rfl) (by kernel_rfl) rfl (fun _ hw => (rn_ld Tryd.isAgg3 (off := 0) (o := 2) (S.tm rfl) ((S.blk_mem (i := 0) (cells := [.string y1.Item, .int .i64 y1.Heat, .int .i64 y1.At]) (b := b4) (T := 48) rfl (ne_app (ne_fp (i := 2) (j := 0) (e := .map b1 (ments (fun x => Value.agg (Gsession_heat.enc x).toArray) (Value.int .i64) x2) x2.length) (e' := .blk b4 [.string y1.Item, .int .i64 y1.Heat, .int .i64 y1.At] 48) S rfl rfl rfl) (ne_fp (i := 1) (j := 0) (e := .map b2 (ments (fun x => Value.agg (Gsession_heat.enc x).toArray) Value.bool x1) x1.length) (e' := .blk b4 [.string y1.Item, .int .i64 y1.Heat, .int .i64 y1.At] 48) S rfl rfl rfl))).kept hw) rfl)) ?_; clear S; intro a S
   refine d_loud1 14 (by kernel_rfl) rfl ?_
   refine l_mapUpdate (kv := (fun x => Value.agg (Gsession_heat.enc x).toArray)) (vv := (Value.int .i64)) (m := x2) (key := (Gsession_heat.mk y1.Item y1.Heat)) (val := y1.At) S (i := 2) rfl Tryd.underlying97 keyT_100 (S.tm rfl) (S.tm rfl) (S.tm rfl) ?_; clear S; intro w11 hk9 S
   refine l_done ?_
   refine d_next (hk9.sub (by intro y hy; simp at hy ⊢; simp [hy])) ?_
   refine d_loud1 15 (by kernel_rfl) rfl ?_
   refine l_mapUpdate (kv := (fun x => Value.agg (Gsession_heat.enc x).toArray)) (vv := Value.bool) (m := x1) (key := (Gsession_heat.mk y1.Item y1.Heat)) (val := true) S (i := 1) rfl Tryd.underlying98 keyT_100 (S.tm rfl) (S.tm rfl) rfl ?_; clear S; intro w12 hk10 S
   refine l_done ?_
   refine d_next (hk10.sub (by intro y hy; simp at hy ⊢; simp [hy])) ?_
   refine d_end (by kernel_rfl) ?_
   clear hsel
   replace S := S.nk [.map b2 (ments (fun x => Value.agg (Gsession_heat.enc x).toArray) Value.bool (mput x1 (Gsession_heat.mk y1.Item y1.Heat) true)) (mput x1 (Gsession_heat.mk y1.Item y1.Heat) true).length, .map b1 (ments (fun x => Value.agg (Gsession_heat.enc x).toArray) (Value.int .i64) (mput x2 (Gsession_heat.mk y1.Item y1.Heat) y1.At)) (mput x2 (Gsession_heat.mk y1.Item y1.Heat) y1.At).length, .own (.slice none 0 0) 43 4 ([] : List GSlot).length (([] : List GSlot).flatMap GSlot.enc)] [(6, (.slice none 0 0)), (7, v1), (8, .map (some b1)), (9, .map (some b2)), (22, v_p_l), (23, .int .i64 (p_l.length : Int)), (24, .int .i64 (i1 : Int))] [false, true, true, true] rfl ⟨rfl, rfl, rfl, rfl, rfl, rfl, rfl, trivial⟩
   refine blk_n ?_
   refine then_n ?_
   refine f_region ?_
   refine lv S (rn_add (S.tm rfl) rfl) rfl ?_; clear S; intro a S
   refine lv S (rn_move (S.tm rfl)) rfl ?_; clear S; intro a S
   refine l_done ?_
   replace S := S.nk [.map b2 (ments (fun x => Value.agg (Gsession_heat.enc x).toArray) Value.bool (mput x1 (Gsession_heat.mk y1.Item y1.Heat) true)) (mput x1 (Gsession_heat.mk y1.Item y1.Heat) true).length, .map b1 (ments (fun x => Value.agg (Gsession_heat.enc x).toArray) (Value.int .i64) (mput x2 (Gsession_heat.mk y1.Item y1.Heat) y1.At)) (mput x2 (Gsession_heat.mk y1.Item y1.Heat) y1.At).length, .own (.slice none 0 0) 43 4 ([] : List GSlot).length (([] : List GSlot).flatMap GSlot.enc)] [(6, (.slice none 0 0)), (7, v1), (8, .map (some b1)), (9, .map (some b2)), (22, v_p_l), (23, .int .i64 (p_l.length : Int)), (24, .int .i64 (W ((i1 : Int) + 1)))] [true, true, true] rfl ⟨rfl, rfl, rfl, rfl, rfl, rfl, rfl, trivial⟩
   refine then_n ?_
   exact ⟨ys1, ⟨i1 + 1, (mput x1 (Gsession_heat.mk y1.Item y1.Heat) true), (mput x2 (Gsession_heat.mk y1.Item y1.Heat) y1.At), ⟨_, (hd1).trans (List.append_cons _ _ _), by simp [hi1]⟩, h, S.nf [true, true, true] rfl ⟨rfl, rfl, rfl, rfl, rfl, rfl, (congrArg (fun z => some (Value.int .i64 z)) (rng_next hd1 hi1 (slc_max hs_p_l))), trivial⟩⟩, Nat.lt_succ_self _⟩
 clear S h; rintro a w5 ⟨x1, x2, h, S⟩; rw [hj1] at h; clear hj1 j1
 refine then_n ?_
 refine f_seq ?_
 refine f_seq ?_
 refine f_region ?_
 refine lv S (rn_move (S.tm rfl)) rfl ?_; clear S; intro a S
 refine lv S (rn_lenT sl_29 (S.tm rfl) (slc_len (ownV_slcT GSlot.enc_ok hs1))) rfl ?_; clear S; intro a S
 refine lv S (rn_move rfl) rfl ?_; clear S; intro a S
 refine l_done ?_
 replace S := S.nk [.map b2 (ments (fun x => Value.agg (Gsession_heat.enc x).toArray) Value.bool x1) x1.length, .map b1 (ments (fun x => Value.agg (Gsession_heat.enc x).toArray) (Value.int .i64) x2) x2.length, .own (.slice none 0 0) 43 4 ([] : List GSlot).length (([] : List GSlot).flatMap GSlot.enc)] [(6, (.slice none 0 0)), (7, v1), (8, .map (some b1)), (9, .map (some b2)), (43, v1), (44, .int .i64 (r1.length : Int)), (45, .int .i64 0)] [true, true, true] rfl ⟨rfl, rfl, rfl, rfl, rfl, rfl, rfl, trivial⟩
 refine then_n ?_
 obtain ⟨j2, hj2, h⟩ := joinE h
 refine f_join (fun a w' => ∃ x3 : List GSlot, ∃ v2 : Value, j2 x3 = some r ∧ Sx w [] φ1 [.map b2 (ments (fun x => Value.agg (Gsession_heat.enc x).toArray) Value.bool x1) x1.length, .map b1 (ments (fun x => Value.agg (Gsession_heat.enc x).toArray) (Value.int .i64) x2) x2.length, .own v2 43 4 x3.length (x3.flatMap GSlot.enc)] [(6, v2), (7, v1)] 118 a w') ?_ ?_
 ·refine wp_block ?_
  refine f_loop (fun (ys2 : List GSlot) a w' => ∃ i2 : Nat, ∃ x3 : List GSlot, ∃ v2 : Value, (∃ dn, r1 = dn ++ ys2 ∧ dn.length = i2) ∧ session_live_l2 x1 x2 r1 j2 ys2 i2 x3 = some r ∧ Sx w [] φ1 [.map b2 (ments (fun x => Value.agg (Gsession_heat.enc x).toArray) Value.bool x1) x1.length, .map b1 (ments (fun x => Value.agg (Gsession_heat.enc x).toArray) (Value.int .i64) x2) x2.length, .own v2 43 4 x3.length (x3.flatMap GSlot.enc)] [(6, v2), (7, v1), (8, .map (some b1)), (9, .map (some b2)), (43, v1), (44, .int .i64 (r1.length : Int)), (45, .int .i64 (i2 : Int))] 118 a w') List.length r1 ⟨0, ([] : List GSlot), (.slice none 0 0), ⟨[], rfl, rfl⟩, h, S.nf [true, true, true] rfl ⟨rfl, rfl, rfl, rfl, rfl, rfl, rfl, trivial⟩⟩ ?_
  clear S h; rintro ys2 a w13 ⟨i2, x3, v2, ⟨dn, hd2, hi2⟩, h, S⟩
  cases ys2 with
  | nil =>
   rw [session_live_l2.eq_1] at h
   refine f_seq ?_
   refine f_region ?_
   refine lv S (rn_lss (S.tm rfl) (S.tm rfl)) rfl ?_; clear S; intro a S
   refine l_done ?_
   replace S := S.nk [.map b2 (ments (fun x => Value.agg (Gsession_heat.enc x).toArray) Value.bool x1) x1.length, .map b1 (ments (fun x => Value.agg (Gsession_heat.enc x).toArray) (Value.int .i64) x2) x2.length, .own v2 43 4 x3.length (x3.flatMap GSlot.enc)] [(6, v2), (7, v1), (8, .map (some b1)), (9, .map (some b2)), (43, v1), (44, .int .i64 (r1.length : Int)), (45, .int .i64 (i2 : Int)), (46, .bool (decide ((i2 : Int) < (r1.length : Int))))] [true, true, true] rfl ⟨rfl, rfl, rfl, rfl, rfl, rfl, rfl, rfl, trivial⟩
   refine then_n ?_
   refine f_seq ?_
   refine wp_cond_false ((S.tm rfl).trans (congrArg Value.bool (rng_nil hd2 hi2))) ?_
   refine wp_exit ?_
   refine then_x ?_
   refine then_x ?_
   refine x_same ?_
   refine then_n ?_
   exact ⟨x3, v2, h, S.nf [true, true, true] rfl ⟨rfl, rfl, trivial⟩⟩
  | cons y2 ys2 =>
   rw [session_live_l2.eq_2] at h
   refine f_seq ?_
   refine f_region ?_
   refine lv S (rn_lss (S.tm rfl) (S.tm rfl)) rfl ?_; clear S; intro a S
   refine l_done ?_
   replace S := S.nk [.map b2 (ments (fun x => Value.agg (Gsession_heat.enc x).toArray) Value.bool x1) x1.length, .map b1 (ments (fun x => Value.agg (Gsession_heat.enc x).toArray) (Value.int .i64) x2) x2.length, .own v2 43 4 x3.length (x3.flatMap GSlot.enc)] [(6, v2), (7, v1), (8, .map (some b1)), (9, .map (some b2)), (43, v1), (44, .int .i64 (r1.length : Int)), (45, .int .i64 (i2 : Int)), (46, .bool (decide ((i2 : Int) < (r1.length : Int))))] [true, true, true] rfl ⟨rfl, rfl, rfl, rfl, rfl, rfl, rfl, rfl, trivial⟩
   refine then_n ?_
   refine f_seq ?_
   refine wp_cond_true ((S.tm rfl).trans (congrArg Value.bool (rng_cons hd2 hi2))) ?_
   refine wp_skip ?_
   refine then_n ?_
   refine f_seq ?_
   refine wp_block ?_
   refine f_seq ?_
   refine f_region ?_
   refine lv S (rn_move (S.tm rfl)) rfl ?_; clear S; intro a S
   obtain ⟨b5, o2, hm3, hr3⟩ := rn_indexT (a := a) (x := .tmp 43) (y := .tmp 45) (ty := 0) sl_29 (ownV_slcT GSlot.enc_ok hs1) (get_mid hd2 hi2) rfl (S.tm rfl) (S.tm rfl)
   refine lv S (hr3 _) rfl ?_; clear S; intro a S
   clear hr3
   refine lv S (rn_ldA Tryd.isAgg43 Tryd.sizeOf43 (off := o2) (o := 0) (part := [.string y2.Item, .int .i64 y2.Heat, .int .i64 y2.Time.From, .int .i64 y2.Time.To]) rfl rfl (S.tm rfl) (hm3.at S.emb)) rfl ?_; clear S; intro a S
   refine l_alloc S Tryd.zeroValue43 (cs := [.string k_empty, .int .i64 0, .int .i64 0, .int .i64 0]) rfl rfl ?_; clear S; intro a w15 b6 hz5 hk11 S
   refine lv S (rn_assign (S.tm rfl)) rfl ?_; clear S; intro a S
   refine l_store S (S.tm rfl) (S.tm rfl) (i := 0) (off := 0) rfl Tryd.sizeOf43 (vs := [.string y2.Item, .int .i64 y2.Heat, .int .i64 y2.Time.From, .int .i64 y2.Time.To]) rfl rfl rfl rfl ?_; clear S; intro w16 hk12 S
   refine l_done ?_
   replace S := S.nk [.blk b6 [.string y2.Item, .int .i64 y2.Heat, .int .i64 y2.Time.From, .int .i64 y2.Time.To] 43, .map b2 (ments (fun x => Value.agg (Gsession_heat.enc x).toArray) Value.bool x1) x1.length, .map b1 (ments (fun x => Value.agg (Gsession_heat.enc x).toArray) (Value.int .i64) x2) x2.length, .own v2 43 4 x3.length (x3.flatMap GSlot.enc)] [(6, v2), (7, v1), (8, .map (some b1)), (9, .map (some b2)), (12, .int .i64 (i2 : Int)), (13, .pointer (some ⟨b6, 0, none⟩)), (43, v1), (44, .int .i64 (r1.length : Int)), (45, .int .i64 (i2 : Int))] [true, true, true, true] rfl ⟨rfl, rfl, rfl, rfl, rfl, rfl, rfl, rfl, rfl, trivial⟩
   refine then_n ?_
   refine f_seq ?_
   refine f_region ?_
   refine lv S (rn_fld fa_43_0 (S.tm rfl)) rfl ?_; clear S; intro a S
   refine lv S (rn_load Tryd.isAgg9 (S.tm rfl) (S.cell (i := 0) rfl rfl)) rfl ?_; clear S; intro a S
   refine lv S (rn_fld fa_43_1 (S.tm rfl)) rfl ?_; clear S; intro a S
   refine lv S (rn_load Tryd.isAgg3 (S.tm rfl) (S.cell (i := 0) rfl rfl)) rfl ?_; clear S; intro a S
   refine lv S (rn_bld bt_100 (pv := [(0, .string y2.Item), (1, .int .i64 y2.Heat)]) ⟨rfl, (S.tm rfl), rfl, (S.tm rfl), trivial⟩ (cs := [.string y2.Item, .int .i64 y2.Heat]) (by kernel_rfl)) rfl ?_; clear S; intro a S
   refine l_alloc S Tryd.zeroValue100 (cs := [.string k_empty, .int .i64 0]) rfl rfl ?_; clear S; intro a w17 b7 hz6 hk13 S
   refine l_store S (S.tm rfl) (S.tm rfl) (i := 0) (off := 0) rfl Tryd.sizeOf100 (vs := [.string y2.Item, .int .i64 y2.Heat]) rfl rfl rfl rfl ?_; clear S; intro w18 hk14 S
   refine l_done ?_
   replace S := S.nk [.blk b7 [.string y2.Item, .int .i64 y2.Heat] 100, .blk b6 [.string y2.Item, .int .i64 y2.Heat, .int .i64 y2.Time.From, .int .i64 y2.Time.To] 43, .map b2 (ments (fun x => Value.agg (Gsession_heat.enc x).toArray) Value.bool x1) x1.length, .map b1 (ments (fun x => Value.agg (Gsession_heat.enc x).toArray) (Value.int .i64) x2) x2.length, .own v2 43 4 x3.length (x3.flatMap GSlot.enc)] [(6, v2), (7, v1), (8, .map (some b1)), (9, .map (some b2)), (12, .int .i64 (i2 : Int)), (13, .pointer (some ⟨b6, 0, none⟩)), (14, .pointer (some ⟨b7, 0, none⟩)), (43, v1), (44, .int .i64 (r1.length : Int)), (45, .int .i64 (i2 : Int))] [true, true, true, true, true] rfl ⟨rfl, rfl, rfl, rfl, rfl, rfl, rfl, rfl, rfl, rfl, trivial⟩
   refine then_n ?_
   refine f_seq ?_
   refine f_region ?_
   refine lv S (rn_fld fa_43_2 (S.tm rfl)) rfl ?_; clear S; intro a S
   refine lv S (rn_fld fa_41_1 (S.tm rfl)) rfl ?_; clear S; intro a S
   refine lv S (rn_load Tryd.isAgg3 (S.tm rfl) (S.cell (i := 1) rfl rfl)) rfl ?_; clear S; intro a S
   refine lv S (rn_fld fa_43_2 (S.tm rfl)) rfl ?_; clear S; intro a S
   refine lv S (rn_fld fa_41_0 (S.tm rfl)) rfl ?_; clear S; intro a S
   refine lv S (rn_load Tryd.isAgg3 (S.tm rfl) (S.cell (i := 1) rfl rfl)) rfl ?_; clear S; intro a S
   refine lv S (rn_sub (S.tm rfl) (S.tm rfl)) rfl ?_; clear S; intro a S
   refine lv S (rn_assign (S.tm rfl)) rfl ?_; clear S; intro a S
   refine l_done ?_
   replace S := S.nk [.blk b7 [.string y2.Item, .int .i64 y2.Heat] 100, .blk b6 [.string y2.Item, .int .i64 y2.Heat, .int .i64 y2.Time.From, .int .i64 y2.Time.To] 43, .map b2 (ments (fun x => Value.agg (Gsession_heat.enc x).toArray) Value.bool x1) x1.length, .map b1 (ments (fun x => Value.agg (Gsession_heat.enc x).toArray) (Value.int .i64) x2) x2.length, .own v2 43 4 x3.length (x3.flatMap GSlot.enc)] [(6, v2), (7, v1), (8, .map (some b1)), (9, .map (some b2)), (12, .int .i64 (i2 : Int)), (13, .pointer (some ⟨b6, 0, none⟩)), (14, .pointer (some ⟨b7, 0, none⟩)), (15, .int .i64 (W (y2.Time.To - y2.Time.From))), (43, v1), (44, .int .i64 (r1.length : Int)), (45, .int .i64 (i2 : Int))] [true, true, true, true, true] rfl ⟨rfl, rfl, rfl, rfl, rfl, rfl, rfl, rfl, rfl, rfl, rfl, trivial⟩
   refine then_n ?_
   refine f_seq ?_
   refine f_region ?_
   refine lv S (rn_fld fa_43_2 (S.tm rfl)) rfl ?_; clear S; intro a S
   refine lv S (rn_fld fa_41_0 (S.tm rfl)) rfl ?_; clear S; intro a S
   refine lv S (rn_load Tryd.isAgg3 (S.tm rfl) (S.cell (i := 1) rfl rfl)) rfl ?_; clear S; intro a S
   refine lv S (rn_assign (S.tm rfl)) rfl ?_; clear S; intro a S
   refine l_done ?_
   replace S := S.nk [.blk b7 [.string y2.Item, .int .i64 y2.Heat] 100, .blk b6 [.string y2.Item, .int .i64 y2.Heat, .int .i64 y2.Time.From, .int .i64 y2.Time.To] 43, .map b2 (ments (fun x => Value.agg (Gsession_heat.enc x).toArray) Value.bool x1) x1.length, .map b1 (ments (fun x => Value.agg (Gsession_heat.enc x).toArray) (Value.int .i64) x2) x2.length, .own v2 43 4 x3.length (x3.flatMap GSlot.enc)] [(6, v2), (7, v1), (8, .map (some b1)), (9, .map (some b2)), (12, .int .i64 (i2 : Int)), (13, .pointer (some ⟨b6, 0, none⟩)), (14, .pointer (some ⟨b7, 0, none⟩)), (15, .int .i64 (W (y2.Time.To - y2.Time.From))), (16, .int .i64 y2.Time.From), (43, v1), (44, .int .i64 (r1.length : Int)), (45, .int .i64 (i2 : Int))] [true, true, true, true, true] rfl ⟨rfl, rfl, rfl, rfl, rfl, rfl, rfl, rfl, rfl, rfl, rfl, rfl, trivial⟩
   refine then_n ?_
   refine f_seq ?_
   refine f_seq ?_
   refine f_region ?_
   refine lv S (rn_move (S.tm rfl)) rfl ?_; clear S; intro a S
   refine lv S (rn_gtr (S.tm rfl) rfl) rfl ?_; clear S; intro a S
   refine l_done ?_
   replace S := S.nk [.blk b7 [.string y2.Item, .int .i64 y2.Heat] 100, .blk b6 [.string y2.Item, .int .i64 y2.Heat, .int .i64 y2.Time.From, .int .i64 y2.Time.To] 43, .map b2 (ments (fun x => Value.agg (Gsession_heat.enc x).toArray) Value.bool x1) x1.length, .map b1 (ments (fun x => Value.agg (Gsession_heat.enc x).toArray) (Value.int .i64) x2) x2.length, .own v2 43 4 x3.length (x3.flatMap GSlot.enc)] [(6, v2), (7, v1), (8, .map (some b1)), (9, .map (some b2)), (12, .int .i64 (i2 : Int)), (13, .pointer (some ⟨b6, 0, none⟩)), (14, .pointer (some ⟨b7, 0, none⟩)), (15, .int .i64 (W (y2.Time.To - y2.Time.From))), (16, .int .i64 y2.Time.From), (43, v1), (44, .int .i64 (r1.length : Int)), (45, .int .i64 (i2 : Int)), (66, .bool (decide (0 < (i2 : Int))))] [true, true, true, true, true] rfl ⟨rfl, rfl, rfl, rfl, rfl, rfl, rfl, rfl, rfl, rfl, rfl, rfl, rfl, trivial⟩
   refine then_n ?_
   obtain ⟨j3, hj3, h⟩ := joinE h
   refine f_join (fun a w' => ∃ x4 : Int, j3 x4 = some r ∧ Sx w [] φ1 [.blk b7 [.string y2.Item, .int .i64 y2.Heat] 100, .blk b6 [.string y2.Item, .int .i64 y2.Heat, .int .i64 y2.Time.From, .int .i64 y2.Time.To] 43, .map b2 (ments (fun x => Value.agg (Gsession_heat.enc x).toArray) Value.bool x1) x1.length, .map b1 (ments (fun x => Value.agg (Gsession_heat.enc x).toArray) (Value.int .i64) x2) x2.length, .own v2 43 4 x3.length (x3.flatMap GSlot.enc)] [(6, v2), (7, v1), (8, .map (some b1)), (9, .map (some b2)), (12, .int .i64 (i2 : Int)), (13, .pointer (some ⟨b6, 0, none⟩)), (14, .pointer (some ⟨b7, 0, none⟩)), (15, .int .i64 (W (y2.Time.To - y2.Time.From))), (16, .int .i64 x4), (43, v1), (44, .int .i64 (r1.length : Int)), (45, .int .i64 (i2 : Int))] 118 a w') ?_ ?_
   ·refine f_cond (S.tm rfl) (fun hb1 => ?_) (fun hb1 => ?_)
    ·replace h := iteT h hb1
     refine d_region [] ([]) Tryd.mixed S rfl (by kernel_rfl) ?_; clear S; intro w20 hk15 hsel S
     refine d_rest [0, 1, 2, 3, 4, 5, 6, 7, 8, 9, 10, 11, 12, 13, 14, 15, 16, 17, 18, 19, 20, 21] hsel (by kernel_rfl) rfl ?_
     clear hsel
     refine s_lv S rfl (rn_move (S.tm rfl)) rfl ?_; clear S; intro a S
     refine s_lv S rfl (rn_move (S.tm rfl)) rfl ?_; clear S; intro a S
     refine s_lv S rfl (rn_move (S.tm rfl)) rfl ?_; clear S; intro a S
     refine s_lv S rfl (rn_sub (S.tm rfl) rfl) rfl ?_; clear S; intro a S
     obtain ⟨hc1, h⟩ := chkE h
     obtain ⟨b8, hg1, hr4⟩ := rn_indexS (a := a) (x := .tmp 68) (y := .tmp 70) (ty := 0) sl_29 GSlot.enc_ok S (i := 4) rfl (inB_get hc1).1 (inB_get hc1).2 (S.tm rfl) (S.tm rfl)
     refine s_lv S rfl (hr4 _) rfl ?_; clear S; intro a S
     clear hr4
     refine s_lv S rfl (rn_fld fa_43_2 (S.tm rfl)) rfl ?_; clear S; intro a S
     refine s_lv S rfl (rn_fld fa_41_1 (S.tm rfl)) rfl ?_; clear S; intro a S
     refine s_lv S rfl (rn_ld Tryd.isAgg3 (off := ((W ((i2 : Int) - 1)).toNat) * 4) (o := 3) (S.tm rfl) (own_cells GSlot.enc_ok S (i := 4) rfl hg1 (inB_get hc1).1) rfl) rfl ?_; clear S; intro a S
     refine s_lv S rfl (rn_fld fa_43_2 (S.tm rfl)) rfl ?_; clear S; intro a S
     refine s_lv S rfl (rn_fld fa_41_0 (S.tm rfl)) rfl ?_; clear S; intro a S
     refine s_lv S rfl (rn_load Tryd.isAgg3 (S.tm rfl) (S.cell (i := 1) rfl rfl)) rfl ?_; clear S; intro a S
     refine s_lv S rfl (rn_add (S.tm rfl) (S.tm rfl)) rfl ?_; clear S; intro a S
     refine s_lv S rfl (rn_move (S.tm rfl)) rfl ?_; clear S; intro a S
     refine s_lv S rfl (rn_move (S.tm rfl)) rfl ?_; clear S; intro a S
     refine s_lv S rfl (rn_sub (S.tm rfl) rfl) rfl ?_; clear S; intro a S
     obtain ⟨hc2, h⟩ := chkE h
     obtain ⟨b9, o4, hm5, hr5⟩ := rn_indexT (a := a) (x := .tmp 79) (y := .tmp 81) (ty := 0) sl_29 (ownV_slcT GSlot.enc_ok hs1) (inB_get hc2).1 (inB_get hc2).2 (S.tm rfl) (S.tm rfl)
     refine s_lv S rfl (hr5 _) rfl ?_; clear S; intro a S
     clear hr5
     refine s_lv S rfl (rn_fld fa_43_2 (S.tm rfl)) rfl ?_; clear S; intro a S
     refine s_lv S rfl (rn_fld fa_41_1 (S.tm rfl)) rfl ?_; clear S; intro a S
     refine s_lv S rfl (rn_ld Tryd.isAgg3 (off := o4) (o := 3) (S.tm rfl) (hm5.at S.emb) rfl) rfl ?_; clear S; intro a S
     refine s_lv S rfl (rn_sub (S.tm rfl) (S.tm rfl)) rfl ?_; clear S; intro a S
     refine s_lv S rfl (rn_max2 (S.tm rfl) (S.tm rfl)) rfl ?_; clear S; intro a S
     refine s_lv S rfl (rn_assign (S.tm rfl)) rfl ?_; clear S; intro a S
     refine s_done ?_
     replace S := S.nk [.blk b7 [.string y2.Item, .int .i64 y2.Heat] 100, .blk b6 [.string y2.Item, .int .i64 y2.Heat, .int .i64 y2.Time.From, .int .i64 y2.Time.To] 43, .map b2 (ments (fun x => Value.agg (Gsession_heat.enc x).toArray) Value.bool x1) x1.length, .map b1 (ments (fun x => Value.agg (Gsession_heat.enc x).toArray) (Value.int .i64) x2) x2.length, .own v2 43 4 x3.length (x3.flatMap GSlot.enc)] [(6, v2), (7, v1), (8, .map (some b1)), (9, .map (some b2)), (12, .int .i64 (i2 : Int)), (13, .pointer (some ⟨b6, 0, none⟩)), (14, .pointer (some ⟨b7, 0, none⟩)), (15, .int .i64 (W (y2.Time.To - y2.Time.From))), (16, .int .i64 (imax y2.Time.From (W ((W ((((nth x3 (W ((i2 : Int) - 1))).Time).To) + y2.Time.From)) - (((nth r1 (W ((i2 : Int) - 1))).Time).To))))), (43, v1), (44, .int .i64 (r1.length : Int)), (45, .int .i64 (i2 : Int))] [true, true, true, true, true] rfl ⟨rfl, rfl, rfl, rfl, rfl, rfl, rfl, rfl, rfl, rfl, rfl, rfl, trivial⟩
     refine then_n ?_
     exact ⟨imax y2.Time.From (W ((W ((((nth x3 (W ((i2 : Int) - 1))).Time).To) + y2.Time.From)) - (((nth r1 (W ((i2 : Int) - 1))).Time).To))), h, S.nf [true, true, true, true, true] rfl ⟨rfl, rfl, rfl, rfl, rfl, rfl, rfl, rfl, rfl, rfl, rfl, rfl, trivial⟩⟩
    ·replace h := iteF h hb1
     refine wp_skip ?_
     refine then_n ?_
     exact ⟨y2.Time.From, h, S.nf [true, true, true, true, true] rfl ⟨rfl, rfl, rfl, rfl, rfl, rfl, rfl, rfl, rfl, rfl, rfl, rfl, trivial⟩⟩
   clear S h; rintro a w19 ⟨x4, h, S⟩; rw [hj3] at h; clear hj3 j3
   refine then_n ?_
   refine f_seq ?_
   refine f_seq ?_
   refine f_region ?_
   refine lv S (rn_move (S.tm rfl)) rfl ?_; clear S; intro a S
   refine lv S (rn_ldA Tryd.isAgg100 Tryd.sizeOf100 (off := 0) (o := 0) (part := [.string y2.Item, .int .i64 y2.Heat]) rfl rfl (S.tm rfl) (S.cellsAt (i := 0) rfl)) rfl ?_; clear S; intro a S
   refine lv S (rn_lookup (kv := (fun x => Value.agg (Gsession_heat.enc x).toArray)) (vv := Value.bool) (m := x1) (key := (Gsession_heat.mk y2.Item y2.Heat)) (z := false) (S.map_at (i := 2) rfl) Tryd.underlying98 keyT_100 Tryd.zeroValue4 (S.tm rfl) (S.tm rfl)) rfl ?_; clear S; intro a S
   refine l_done ?_
   replace S := S.nk [.blk b7 [.string y2.Item, .int .i64 y2.Heat] 100, .blk b6 [.string y2.Item, .int .i64 y2.Heat, .int .i64 y2.Time.From, .int .i64 y2.Time.To] 43, .map b2 (ments (fun x => Value.agg (Gsession_heat.enc x).toArray) Value.bool x1) x1.length, .map b1 (ments (fun x => Value.agg (Gsession_heat.enc x).toArray) (Value.int .i64) x2) x2.length, .own v2 43 4 x3.length (x3.flatMap GSlot.enc)] [(6, v2), (7, v1), (8, .map (some b1)), (9, .map (some b2)), (12, .int .i64 (i2 : Int)), (13, .pointer (some ⟨b6, 0, none⟩)), (14, .pointer (some ⟨b7, 0, none⟩)), (15, .int .i64 (W (y2.Time.To - y2.Time.From))), (16, .int .i64 x4), (43, v1), (44, .int .i64 (r1.length : Int)), (45, .int .i64 (i2 : Int)), (90, .bool (mgetD x1 (Gsession_heat.mk y2.Item y2.Heat) false))] [true, true, true, true, true] rfl ⟨rfl, rfl, rfl, rfl, rfl, rfl, rfl, rfl, rfl, rfl, rfl, rfl, rfl, trivial⟩
   refine then_n ?_
   obtain ⟨j4, hj4, h⟩ := joinE h
   refine f_join (fun a w' => ∃ x5 : Int, j4 x5 = some r ∧ Sx w [] φ1 [.blk b6 [.string y2.Item, .int .i64 y2.Heat, .int .i64 y2.Time.From, .int .i64 y2.Time.To] 43, .map b2 (ments (fun x => Value.agg (Gsession_heat.enc x).toArray) Value.bool x1) x1.length, .map b1 (ments (fun x => Value.agg (Gsession_heat.enc x).toArray) (Value.int .i64) x2) x2.length, .own v2 43 4 x3.length (x3.flatMap GSlot.enc)] [(6, v2), (7, v1), (8, .map (some b1)), (9, .map (some b2)), (13, .pointer (some ⟨b6, 0, none⟩)), (15, .int .i64 (W (y2.Time.To - y2.Time.From))), (16, .int .i64 x5), (43, v1), (44, .int .i64 (r1.length : Int)), (45, .int .i64 (i2 : Int))] 118 a w') ?_ ?_
   ·refine f_cond (S.tm rfl) (fun hb2 => ?_) (fun hb2 => ?_)
    ·replace h := iteT h hb2
     refine f_seq ?_
     refine f_region ?_
     refine lv S (rn_move (S.tm rfl)) rfl ?_; clear S; intro a S
     refine lv S (rn_ldA Tryd.isAgg100 Tryd.sizeOf100 (off := 0) (o := 0) (part := [.string y2.Item, .int .i64 y2.Heat]) rfl rfl (S.tm rfl) (S.cellsAt (i := 0) rfl)) rfl ?_; clear S; intro a S
     refine lv S (rn_lookup (kv := (fun x => Value.agg (Gsession_heat.enc x).toArray)) (vv := (Value.int .i64)) (m := x2) (key := (Gsession_heat.mk y2.Item y2.Heat)) (z := 0) (S.map_at (i := 3) rfl) Tryd.underlying97 keyT_100 Tryd.zeroValue3 (S.tm rfl) (S.tm rfl)) rfl ?_; clear S; intro a S
     refine lv S (rn_assign (S.tm rfl)) rfl ?_; clear S; intro a S
     refine l_done ?_
     replace S := S.nk [.blk b6 [.string y2.Item, .int .i64 y2.Heat, .int .i64 y2.Time.From, .int .i64 y2.Time.To] 43, .map b2 (ments (fun x => Value.agg (Gsession_heat.enc x).toArray) Value.bool x1) x1.length, .map b1 (ments (fun x => Value.agg (Gsession_heat.enc x).toArray) (Value.int .i64) x2) x2.length, .own v2 43 4 x3.length (x3.flatMap GSlot.enc)] [(6, v2), (7, v1), (8, .map (some b1)), (9, .map (some b2)), (12, .int .i64 (i2 : Int)), (13, .pointer (some ⟨b6, 0, none⟩)), (15, .int .i64 (W (y2.Time.To - y2.Time.From))), (16, .int .i64 (mgetD x2 (Gsession_heat.mk y2.Item y2.Heat) 0)), (43, v1), (44, .int .i64 (r1.length : Int)), (45, .int .i64 (i2 : Int))] [false, true, true, true, true] rfl ⟨rfl, rfl, rfl, rfl, rfl, rfl, rfl, rfl, rfl, rfl, rfl, trivial⟩
     refine then_n ?_
     refine f_seq ?_
     refine f_region ?_
     refine lv S (rn_move (S.tm rfl)) rfl ?_; clear S; intro a S
     refine lv S (rn_gtr (S.tm rfl) rfl) rfl ?_; clear S; intro a S
     refine l_done ?_
     replace S := S.nk [.blk b6 [.string y2.Item, .int .i64 y2.Heat, .int .i64 y2.Time.From, .int .i64 y2.Time.To] 43, .map b2 (ments (fun x => Value.agg (Gsession_heat.enc x).toArray) Value.bool x1) x1.length, .map b1 (ments (fun x => Value.agg (Gsession_heat.enc x).toArray) (Value.int .i64) x2) x2.length, .own v2 43 4 x3.length (x3.flatMap GSlot.enc)] [(6, v2), (7, v1), (8, .map (some b1)), (9, .map (some b2)), (12, .int .i64 (i2 : Int)), (13, .pointer (some ⟨b6, 0, none⟩)), (15, .int .i64 (W (y2.Time.To - y2.Time.From))), (16, .int .i64 (mgetD x2 (Gsession_heat.mk y2.Item y2.Heat) 0)), (43, v1), (44, .int .i64 (r1.length : Int)), (45, .int .i64 (i2 : Int)), (95, .bool (decide (0 < (i2 : Int))))] [true, true, true, true] rfl ⟨rfl, rfl, rfl, rfl, rfl, rfl, rfl, rfl, rfl, rfl, rfl, rfl, trivial⟩
     refine then_n ?_
     obtain ⟨j5, hj5, h⟩ := joinE h
     refine f_join (fun a w' => ∃ x6 : Int, j5 x6 = some r ∧ Sx w [] φ1 [.blk b6 [.string y2.Item, .int .i64 y2.Heat, .int .i64 y2.Time.From, .int .i64 y2.Time.To] 43, .map b2 (ments (fun x => Value.agg (Gsession_heat.enc x).toArray) Value.bool x1) x1.length, .map b1 (ments (fun x => Value.agg (Gsession_heat.enc x).toArray) (Value.int .i64) x2) x2.length, .own v2 43 4 x3.length (x3.flatMap GSlot.enc)] [(6, v2), (7, v1), (8, .map (some b1)), (9, .map (some b2)), (13, .pointer (some ⟨b6, 0, none⟩)), (15, .int .i64 (W (y2.Time.To - y2.Time.From))), (16, .int .i64 x6), (43, v1), (44, .int .i64 (r1.length : Int)), (45, .int .i64 (i2 : Int))] 118 a w') ?_ ?_
     ·refine f_cond (S.tm rfl) (fun hb3 => ?_) (fun hb3 => ?_)
      ·replace h := iteT h hb3
       refine f_region ?_
       refine lv S (rn_move (S.tm rfl)) rfl ?_; clear S; intro a S
       refine lv S (rn_move (S.tm rfl)) rfl ?_; clear S; intro a S
       refine lv S (rn_move (S.tm rfl)) rfl ?_; clear S; intro a S
       refine lv S (rn_sub (S.tm rfl) rfl) rfl ?_; clear S; intro a S
       obtain ⟨hc3, h⟩ := chkE h
       obtain ⟨b10, hg2, hr6⟩ := rn_indexS (a := a) (x := .tmp 97) (y := .tmp 99) (ty := 0) sl_29 GSlot.enc_ok S (i := 3) rfl (inB_get hc3).1 (inB_get hc3).2 (S.tm rfl) (S.tm rfl)
       refine lv S (hr6 _) rfl ?_; clear S; intro a S
       clear hr6
       refine lv S (rn_fld fa_43_2 (S.tm rfl)) rfl ?_; clear S; intro a S
       refine lv S (rn_fld fa_41_1 (S.tm rfl)) rfl ?_; clear S; intro a S
       refine lv S (rn_ld Tryd.isAgg3 (off := ((W ((i2 : Int) - 1)).toNat) * 4) (o := 3) (S.tm rfl) (own_cells GSlot.enc_ok S (i := 3) rfl hg2 (inB_get hc3).1) rfl) rfl ?_; clear S; intro a S
       refine lv S (rn_max2 (S.tm rfl) (S.tm rfl)) rfl ?_; clear S; intro a S
       refine lv S (rn_assign (S.tm rfl)) rfl ?_; clear S; intro a S
       refine l_done ?_
       replace S := S.nk [.blk b6 [.string y2.Item, .int .i64 y2.Heat, .int .i64 y2.Time.From, .int .i64 y2.Time.To] 43, .map b2 (ments (fun x => Value.agg (Gsession_heat.enc x).toArray) Value.bool x1) x1.length, .map b1 (ments (fun x => Value.agg (Gsession_heat.enc x).toArray) (Value.int .i64) x2) x2.length, .own v2 43 4 x3.length (x3.flatMap GSlot.enc)] [(6, v2), (7, v1), (8, .map (some b1)), (9, .map (some b2)), (13, .pointer (some ⟨b6, 0, none⟩)), (15, .int .i64 (W (y2.Time.To - y2.Time.From))), (16, .int .i64 (imax (mgetD x2 (Gsession_heat.mk y2.Item y2.Heat) 0) (((nth x3 (W ((i2 : Int) - 1))).Time).To))), (43, v1), (44, .int .i64 (r1.length : Int)), (45, .int .i64 (i2 : Int))] [true, true, true, true] rfl ⟨rfl, rfl, rfl, rfl, rfl, rfl, rfl, rfl, rfl, rfl, trivial⟩
       refine then_n ?_
       exact ⟨imax (mgetD x2 (Gsession_heat.mk y2.Item y2.Heat) 0) (((nth x3 (W ((i2 : Int) - 1))).Time).To), h, S.nf [true, true, true, true] rfl ⟨rfl, rfl, rfl, rfl, rfl, rfl, rfl, rfl, rfl, rfl, trivial⟩⟩
      ·replace h := iteF h hb3
       refine wp_skip ?_
       refine then_n ?_
       exact ⟨mgetD x2 (Gsession_heat.mk y2.Item y2.Heat) 0, h, S.nf [true, true, true, true] rfl ⟨rfl, rfl, rfl, rfl, rfl, rfl, rfl, rfl, rfl, rfl, trivial⟩⟩
     clear S h; rintro a w22 ⟨x6, h, S⟩; rw [hj5] at h; clear hj5 j5
     refine then_n ?_
     exact ⟨x6, h, S.nf [true, true, true, true] rfl ⟨rfl, rfl, rfl, rfl, rfl, rfl, rfl, rfl, rfl, rfl, trivial⟩⟩
    ·replace h := iteF h hb2
     refine wp_skip ?_
     refine then_n ?_
     exact ⟨x4, h, S.nf [false, true, true, true, true] rfl ⟨rfl, rfl, rfl, rfl, rfl, rfl, rfl, rfl, rfl, rfl, trivial⟩⟩
   clear S h; rintro a w21 ⟨x5, h, S⟩; rw [hj4] at h; clear hj4 j4
   refine then_n ?_
   refine f_seq ?_
   refine f_region ?_
   refine lv S (rn_move (S.tm rfl)) rfl ?_; clear S; intro a S
   refine lv S (rn_move (S.tm rfl)) rfl ?_; clear S; intro a S
   refine lv S (rn_move (S.tm rfl)) rfl ?_; clear S; intro a S
   refine lv S (rn_add (S.tm rfl) (S.tm rfl)) rfl ?_; clear S; intro a S
   refine lv S (rn_bld bt_41 (pv := [(0, .int .i64 x5), (1, .int .i64 (W (x5 + (W (y2.Time.To - y2.Time.From)))))]) ⟨rfl, (S.tm rfl), rfl, (S.tm rfl), trivial⟩ (cs := [.int .i64 x5, .int .i64 (W (x5 + (W (y2.Time.To - y2.Time.From))))]) (by kernel_rfl)) rfl ?_; clear S; intro a S
   refine lv S (rn_fld fa_43_2 (S.tm rfl)) rfl ?_; clear S; intro a S
   refine l_store S (S.tm rfl) (S.tm rfl) (i := 0) (off := 2) rfl Tryd.sizeOf41 (vs := [.int .i64 x5, .int .i64 (W (x5 + (W (y2.Time.To - y2.Time.From))))]) rfl rfl rfl rfl ?_; clear S; intro w23 hk16 S
   refine l_done ?_
   replace S := S.nk [.blk b6 [.string y2.Item, .int .i64 y2.Heat, .int .i64 x5, .int .i64 (W (x5 + (W (y2.Time.To - y2.Time.From))))] 43, .map b2 (ments (fun x => Value.agg (Gsession_heat.enc x).toArray) Value.bool x1) x1.length, .map b1 (ments (fun x => Value.agg (Gsession_heat.enc x).toArray) (Value.int .i64) x2) x2.length, .own v2 43 4 x3.length (x3.flatMap GSlot.enc)] [(6, v2), (7, v1), (8, .map (some b1)), (9, .map (some b2)), (13, .pointer (some ⟨b6, 0, none⟩)), (43, v1), (44, .int .i64 (r1.length : Int)), (45, .int .i64 (i2 : Int))] [true, true, true, true] rfl ⟨rfl, rfl, rfl, rfl, rfl, rfl, rfl, rfl, trivial⟩
   refine then_n ?_
   refine f_region ?_
   refine lv S (rn_move (S.tm rfl)) rfl ?_; clear S; intro a S
   refine lv S (rn_ldA Tryd.isAgg43 Tryd.sizeOf43 (off := 0) (o := 0) (part := [.string y2.Item, .int .i64 y2.Heat, .int .i64 x5, .int .i64 (W (x5 + (W (y2.Time.To - y2.Time.From))))]) rfl rfl (S.tm rfl) (S.cellsAt (i := 0) rfl)) rfl ?_; clear S; intro a S
   refine l_buildSlice S Tryd.underlying29 Tryd.sizeOf43 Tryd.zeroValue43 rfl rfl (pv := [(0, .agg #[.string y2.Item, .int .i64 y2.Heat, .int .i64 x5, .int .i64 (W (x5 + (W (y2.Time.To - y2.Time.From))))])]) ⟨rfl, (S.tm rfl), trivial⟩ (cs := [.string y2.Item, .int .i64 y2.Heat, .int .i64 x5, .int .i64 (W (x5 + (W (y2.Time.To - y2.Time.From))))]) (by kernel_rfl) rfl ?_; clear S; intro a w24 b11 hz7 hk17 S
   obtain ⟨hc4, h⟩ := chkE h
   refine l_appendT sl_29 GSlot.enc_ok S (S.tm rfl) (i := 4) rfl (S.tm rfl) (j := 0) rfl (ys := [(GSlot.mk y2.Item y2.Heat (GWindow.mk x5 (W (x5 + (W (y2.Time.To - y2.Time.From))))))]) rfl rfl rfl rfl (by have := room_lt hc4; omega) rfl ?_; clear S; intro v3 a w25 hk18 S
   refine lv S (rn_assign (S.tm rfl)) rfl ?_; clear S; intro a S
   refine l_done ?_
   replace S := S.nk [.map b2 (ments (fun x => Value.agg (Gsession_heat.enc x).toArray) Value.bool x1) x1.length, .map b1 (ments (fun x => Value.agg (Gsession_heat.enc x).toArray) (Value.int .i64) x2) x2.length, .own v3 43 4 (x3 ++ [(GSlot.mk y2.Item y2.Heat (GWindow.mk x5 (W (x5 + (W (y2.Time.To - y2.Time.From))))))]).length ((x3 ++ [(GSlot.mk y2.Item y2.Heat (GWindow.mk x5 (W (x5 + (W (y2.Time.To - y2.Time.From))))))]).flatMap GSlot.enc)] [(6, v3), (7, v1), (8, .map (some b1)), (9, .map (some b2)), (43, v1), (44, .int .i64 (r1.length : Int)), (45, .int .i64 (i2 : Int))] [false, false, true, true, true] rfl ⟨rfl, rfl, rfl, rfl, rfl, rfl, rfl, trivial⟩
   refine blk_n ?_
   refine then_n ?_
   refine f_region ?_
   refine lv S (rn_add (S.tm rfl) rfl) rfl ?_; clear S; intro a S
   refine lv S (rn_move (S.tm rfl)) rfl ?_; clear S; intro a S
   refine l_done ?_
   replace S := S.nk [.map b2 (ments (fun x => Value.agg (Gsession_heat.enc x).toArray) Value.bool x1) x1.length, .map b1 (ments (fun x => Value.agg (Gsession_heat.enc x).toArray) (Value.int .i64) x2) x2.length, .own v3 43 4 (x3 ++ [(GSlot.mk y2.Item y2.Heat (GWindow.mk x5 (W (x5 + (W (y2.Time.To - y2.Time.From))))))]).length ((x3 ++ [(GSlot.mk y2.Item y2.Heat (GWindow.mk x5 (W (x5 + (W (y2.Time.To - y2.Time.From))))))]).flatMap GSlot.enc)] [(6, v3), (7, v1), (8, .map (some b1)), (9, .map (some b2)), (43, v1), (44, .int .i64 (r1.length : Int)), (45, .int .i64 (W ((i2 : Int) + 1)))] [true, true, true] rfl ⟨rfl, rfl, rfl, rfl, rfl, rfl, rfl, trivial⟩
   refine then_n ?_
   exact ⟨ys2, ⟨i2 + 1, (x3 ++ [(GSlot.mk y2.Item y2.Heat (GWindow.mk x5 (W (x5 + (W (y2.Time.To - y2.Time.From))))))]), v3, ⟨_, (hd2).trans (List.append_cons _ _ _), by simp [hi2]⟩, h, S.nf [true, true, true] rfl ⟨rfl, rfl, rfl, rfl, rfl, rfl, (congrArg (fun z => some (Value.int .i64 z)) (rng_next hd2 hi2 (slc_max (ownV_slcT GSlot.enc_ok hs1)))), trivial⟩⟩, Nat.lt_succ_self _⟩
 clear S h; rintro a w14 ⟨x3, v2, h, S⟩; rw [hj2] at h; clear hj2 j2
 refine then_n ?_
 refine f_seq ?_
 refine f_region ?_
 refine lv S (rn_move (S.tm rfl)) rfl ?_; clear S; intro a S
 refine lv S (rn_move (S.tm rfl)) rfl ?_; clear S; intro a S
 refine lv S (rn_assign (S.tm rfl)) rfl ?_; clear S; intro a S
 refine lv S (rn_assign (S.tm rfl)) rfl ?_; clear S; intro a S
 refine l_done ?_
 replace S := S.nk [.own v2 43 4 x3.length (x3.flatMap GSlot.enc)] [(6, v2), (7, v1)] [false, false, true] rfl ⟨rfl, rfl, trivial⟩
 refine then_n ?_
 refine wp_ret ?_
 obtain rfl := Option.some.inj h
 exact f_ret2 S Tryd.results41 rfl rfl ⟨_, _, rfl, (own_retT S (i := 0) rfl rfl), ((hs1).mono S.le_newer)⟩
theorem session_checkLive_ok (w : World) (v_p_items : Value) (p_items : List GItem) (hs_p_items : Slc (view w []) 5 v_p_items (p_items.map GItem.enc)) (p_from : Int) (v_p_l : Value) (p_l : List GHeld) (hs_p_l : Slc (view w []) 3 v_p_l (p_l.map GHeld.enc)) (r : (List GSlot) × (List GSlot) × Int) (h : session_checkLive p_items p_from p_l = some r) :
    Calls Tryd.prog 20 [v_p_items, .int .i64 p_from, v_p_l].toArray w (Ret w [] fun τ v _ => ∃ u1 : Value, ∃ u2 : Value, v = .tuple #[u1, u2, .int .i64 r.2.2] ∧ OwnV τ 43 4 u1 r.1.length (r.1.flatMap GSlot.enc) ∧ OwnV τ 43 4 u2 r.2.1.length (r.2.1.flatMap GSlot.enc)) := by
 refine f_enter [] [] Tryd.func20 rfl Tryd.ntmps20 rfl (by simp) (by simp [fps]) (by simp [fps]) fun a S => ?_
 unfold session_checkLive at h
 replace S := S.nk [] [(0, v_p_items), (1, .int .i64 p_from), (2, v_p_l)] [] rfl ⟨rfl, rfl, rfl, trivial⟩
 refine f_seq ?_
 refine f_region ?_
 refine lv S (rn_assign rfl) rfl ?_; clear S; intro a S
 refine lv S (rn_assign rfl) rfl ?_; clear S; intro a S
 refine lv S (rn_assign rfl) rfl ?_; clear S; intro a S
 refine l_done ?_
 replace S := S.nk [] [(0, v_p_items), (1, .int .i64 p_from), (2, v_p_l)] [] rfl ⟨rfl, rfl, rfl, trivial⟩
 refine then_n ?_
 refine f_seq ?_
 refine f_seq ?_
 refine f_region ?_
 refine lv S (rn_move (S.tm rfl)) rfl ?_; clear S; intro a S
 refine lv S (rn_move (S.tm rfl)) rfl ?_; clear S; intro a S
 obtain ⟨r1, hr1, h⟩ := bindE h
 refine l_enter S (fun _ => run_call (vs := [v_p_items, v_p_l]) ⟨(S.tm rfl), (S.tm rfl), trivial⟩ Tryd.call40) (session_CheckHeld_ok _ v_p_items p_items (hs_p_items.mono (S.le_arg nil_sub)) v_p_l p_l (hs_p_l.mono (S.le_arg nil_sub)) _ hr1) rfl ?_; clear S; intro v1 a w1 hv1 hk1 hn1 S
 subst hv1
 refine lv S (rn_assign (S.tm rfl)) rfl ?_; clear S; intro a S
 refine l_done ?_
 replace S := S.nk [] [(0, v_p_items), (1, .int .i64 p_from), (2, v_p_l), (9, .int .i64 r1)] [] rfl ⟨rfl, rfl, rfl, rfl, trivial⟩
 refine then_n ?_
 refine f_seq ?_
 refine f_region ?_
 refine lv S (rn_move (S.tm rfl)) rfl ?_; clear S; intro a S
 refine lv S (rn_neq (S.tm rfl) rfl) rfl ?_; clear S; intro a S
 refine l_done ?_
 replace S := S.nk [] [(0, v_p_items), (1, .int .i64 p_from), (2, v_p_l), (9, .int .i64 r1), (14, .bool (!decide (r1 = 0)))] [] rfl ⟨rfl, rfl, rfl, rfl, rfl, trivial⟩
 refine then_n ?_
 refine f_cond (S.tm rfl) (fun hb1 => ?_) (fun hb1 => ?_)
 ·replace h := iteT h hb1
  refine f_seq ?_
  refine f_region ?_
  refine lv S (rn_move (S.tm rfl)) rfl ?_; clear S; intro a S
  refine lv S (rn_assign rfl) rfl ?_; clear S; intro a S
  refine lv S (rn_assign rfl) rfl ?_; clear S; intro a S
  refine lv S (rn_assign (S.tm rfl)) rfl ?_; clear S; intro a S
  refine l_done ?_
  replace S := S.nk [] [(6, .slice none 0 0), (7, .slice none 0 0), (8, .int .i64 r1)] [] rfl ⟨rfl, rfl, rfl, trivial⟩
  refine then_n ?_
  refine wp_ret ?_
  refine then_r ?_
  obtain rfl := Option.some.inj h
  exact f_ret3 S Tryd.results20 rfl rfl rfl ⟨_, _, rfl, (ownV_nil _ _ _), (ownV_nil _ _ _)⟩
 ·replace h := iteF h hb1
  refine wp_skip ?_
  refine then_n ?_
  refine f_seq ?_
  refine f_seq ?_
  refine f_region ?_
  refine lv S (rn_move (S.tm rfl)) rfl ?_; clear S; intro a S
  refine l_enter S (fun _ => run_call (vs := [.int .i64 p_from]) ⟨(S.tm rfl), trivial⟩ Tryd.call37) (words_IsMoment_ok _ p_from _ rfl) rfl ?_; clear S; intro v2 a w2 hv2 hk2 hn2 S
  subst hv2
  refine lv S (rn_not (S.tm rfl)) rfl ?_; clear S; intro a S
  refine l_done ?_
  replace S := S.nk [] [(0, v_p_items), (1, .int .i64 p_from), (2, v_p_l), (18, .bool (!(words_IsMoment p_from)))] [] rfl ⟨rfl, rfl, rfl, rfl, trivial⟩
  refine then_n ?_
  refine f_cond (S.tm rfl) (fun hb2 => ?_) (fun hb2 => ?_)
  ·replace h := iteT h hb2
   refine f_seq ?_
   refine f_region ?_
   refine lv S (rn_assign rfl) rfl ?_; clear S; intro a S
   refine lv S (rn_assign rfl) rfl ?_; clear S; intro a S
   refine lv S (rn_assign rfl) rfl ?_; clear S; intro a S
   refine l_done ?_
   replace S := S.nk [] [(6, .slice none 0 0), (7, .slice none 0 0), (8, .int .i64 1)] [] rfl ⟨rfl, rfl, rfl, trivial⟩
   refine then_n ?_
   refine wp_ret ?_
   refine then_r ?_
   obtain rfl := Option.some.inj h
   exact f_ret3 S Tryd.results20 rfl rfl rfl ⟨_, _, rfl, (ownV_nil _ _ _), (ownV_nil _ _ _)⟩
  ·replace h := iteF h hb2
   refine wp_skip ?_
   refine then_n ?_
   refine f_seq ?_
   refine f_region ?_
   refine lv S (rn_move (S.tm rfl)) rfl ?_; clear S; intro a S
   refine lv S (rn_move (S.tm rfl)) rfl ?_; clear S; intro a S
   refine lv S (rn_move (S.tm rfl)) rfl ?_; clear S; intro a S
   obtain ⟨r2, hr2, h⟩ := bindE h
   have hz1 := S.keep.size
   refine l_enter S (fun _ => run_call (vs := [v_p_items, .int .i64 p_from, v_p_l]) ⟨(S.tm rfl), (S.tm rfl), (S.tm rfl), trivial⟩ Tryd.call41) (session_live_ok _ v_p_items p_items (hs_p_items.mono (S.le_arg nil_sub)) p_from v_p_l p_l (hs_p_l.mono (S.le_arg nil_sub)) _ hr2) rfl ?_; clear S; intro v3 a w3 hv3 hk3 hn3 S
   obtain ⟨u1, u2, rfl, ho1, ho2⟩ := hv3
   obtain ⟨φ1, hl1, hm1, S⟩ := S.see' hn3 hz1
   have hs1 := ho1.mono hm1
   have hs2 := ho2.mono hm1
   refine lv S (rn_move (S.tm rfl)) rfl ?_; clear S; intro a S
   refine lv S (rn_extract (S.tm rfl) rfl) rfl ?_; clear S; intro a S
   refine lv S (rn_extract (S.tm rfl) rfl) rfl ?_; clear S; intro a S
   refine lv S (rn_assign (S.tm rfl)) rfl ?_; clear S; intro a S
   refine lv S (rn_assign (S.tm rfl)) rfl ?_; clear S; intro a S
   refine l_done ?_
   replace S := S.nk [] [(1, .int .i64 p_from), (6, u1), (7, u2)] [] rfl ⟨rfl, rfl, rfl, trivial⟩
   refine then_n ?_
   refine f_seq ?_
   refine f_seq ?_
   refine f_region ?_
   refine lv S (rn_move (S.tm rfl)) rfl ?_; clear S; intro a S
   refine lv S (rn_move (S.tm rfl)) rfl ?_; clear S; intro a S
   obtain ⟨r3, hr3, h⟩ := bindE h
   refine l_enter S (fun _ => run_call (vs := [u1, .int .i64 p_from]) ⟨(S.tm rfl), (S.tm rfl), trivial⟩ Tryd.call39) (session_end_ok _ u1 r2.1 (((ownV_slcT GSlot.enc_ok hs1)).mono (S.le_new nil_sub)) p_from _ hr3) rfl ?_; clear S; intro v4 a w4 hv4 hk4 hn4 S
   subst hv4
   refine lv S (rn_gtr (S.tm rfl) rfl) rfl ?_; clear S; intro a S
   refine l_done ?_
   replace S := S.nk [] [(6, u1), (7, u2), (29, .bool (decide (345686400000 < r3)))] [] rfl ⟨rfl, rfl, rfl, trivial⟩
   refine then_n ?_
   refine f_cond (S.tm rfl) (fun hb3 => ?_) (fun hb3 => ?_)
   ·replace h := iteT h hb3
    refine f_seq ?_
    refine f_region ?_
    refine lv S (rn_assign rfl) rfl ?_; clear S; intro a S
    refine lv S (rn_assign rfl) rfl ?_; clear S; intro a S
    refine lv S (rn_assign rfl) rfl ?_; clear S; intro a S
    refine l_done ?_
    replace S := S.nk [] [(6, .slice none 0 0), (7, .slice none 0 0), (8, .int .i64 1)] [] rfl ⟨rfl, rfl, rfl, trivial⟩
    refine then_n ?_
    refine wp_ret ?_
    refine then_r ?_
    obtain rfl := Option.some.inj h
    exact f_ret3 S Tryd.results20 rfl rfl rfl ⟨_, _, rfl, (ownV_nil _ _ _), (ownV_nil _ _ _)⟩
   ·replace h := iteF h hb3
    refine wp_skip ?_
    refine then_n ?_
    refine f_seq ?_
    refine f_region ?_
    refine lv S (rn_move (S.tm rfl)) rfl ?_; clear S; intro a S
    refine lv S (rn_move (S.tm rfl)) rfl ?_; clear S; intro a S
    refine lv S (rn_assign (S.tm rfl)) rfl ?_; clear S; intro a S
    refine lv S (rn_assign (S.tm rfl)) rfl ?_; clear S; intro a S
    refine lv S (rn_assign rfl) rfl ?_; clear S; intro a S
    refine l_done ?_
    replace S := S.nk [] [(6, u1), (7, u2), (8, .int .i64 0)] [] rfl ⟨rfl, rfl, rfl, trivial⟩
    refine then_n ?_
    refine wp_ret ?_
    obtain rfl := Option.some.inj h
    exact f_ret3 S Tryd.results20 rfl rfl rfl ⟨_, _, rfl, ((hs1).mono S.le_newer), ((hs2).mono S.le_newer)⟩
theorem session_Live_ok (w : World) (v_p_items : Value) (p_items : List GItem) (hs_p_items : Slc (view w []) 5 v_p_items (p_items.map GItem.enc)) (p_from : Int) (v_p_l : Value) (p_l : List GHeld) (hs_p_l : Slc (view w []) 3 v_p_l (p_l.map GHeld.enc)) (r : (List GSlot) × Int) (h : session_Live p_items p_from p_l = some r) :
    Calls Tryd.prog 7 [v_p_items, .int .i64 p_from, v_p_l].toArray w (Ret w [] fun τ v _ => ∃ u1 : Value, v = .tuple #[u1, .int .i64 r.2] ∧ OwnV τ 43 4 u1 r.1.length (r.1.flatMap GSlot.enc)) := by
 refine f_enter [] [] Tryd.func7 rfl Tryd.ntmps7 rfl (by simp) (by simp [fps]) (by simp [fps]) fun a S => ?_
 unfold session_Live at h
 replace S := S.nk [] [(0, v_p_items), (1, .int .i64 p_from), (2, v_p_l)] [] rfl ⟨rfl, rfl, rfl, trivial⟩
 refine f_seq ?_
 refine f_region ?_
 refine lv S (rn_assign rfl) rfl ?_; clear S; intro a S
 refine lv S (rn_assign rfl) rfl ?_; clear S; intro a S
 refine l_done ?_
 replace S := S.nk [] [(0, v_p_items), (1, .int .i64 p_from), (2, v_p_l)] [] rfl ⟨rfl, rfl, rfl, trivial⟩
 refine then_n ?_
 refine f_seq ?_
 refine f_region ?_
 refine lv S (rn_move (S.tm rfl)) rfl ?_; clear S; intro a S
 refine lv S (rn_move (S.tm rfl)) rfl ?_; clear S; intro a S
 refine lv S (rn_move (S.tm rfl)) rfl ?_; clear S; intro a S
 obtain ⟨r1, hr1, h⟩ := bindE h
 have hz1 := S.keep.size
 refine l_enter S (fun _ => run_call (vs := [v_p_items, .int .i64 p_from, v_p_l]) ⟨(S.tm rfl), (S.tm rfl), (S.tm rfl), trivial⟩ Tryd.call20) (session_checkLive_ok _ v_p_items p_items (hs_p_items.mono (S.le_arg nil_sub)) p_from v_p_l p_l (hs_p_l.mono (S.le_arg nil_sub)) _ hr1) rfl ?_; clear S; intro v1 a w1 hv1 hk1 hn1 S
 obtain ⟨u1, u2, rfl, ho1, ho2⟩ := hv1
 obtain ⟨φ1, hl1, hm1, S⟩ := S.see' hn1 hz1
 have hs1 := ho1.mono hm1
 have hs2 := ho2.mono hm1
 refine lv S (rn_move (S.tm rfl)) rfl ?_; clear S; intro a S
 refine lv S (rn_extract (S.tm rfl) rfl) rfl ?_; clear S; intro a S
 refine lv S (rn_extract (S.tm rfl) rfl) rfl ?_; clear S; intro a S
 refine lv S (rn_extract (S.tm rfl) rfl) rfl ?_; clear S; intro a S
 refine lv S (rn_assign (S.tm rfl)) rfl ?_; clear S; intro a S
 refine lv S (rn_assign (S.tm rfl)) rfl ?_; clear S; intro a S
 refine lv S (rn_assign (S.tm rfl)) rfl ?_; clear S; intro a S
 refine l_done ?_
 replace S := S.nk [] [(8, u1), (10, .int .i64 r1.2.2)] [] rfl ⟨rfl, rfl, trivial⟩
 refine then_n ?_
 refine f_seq ?_
 refine f_region ?_
 refine lv S (rn_move (S.tm rfl)) rfl ?_; clear S; intro a S
 refine lv S (rn_move (S.tm rfl)) rfl ?_; clear S; intro a S
 refine lv S (rn_assign (S.tm rfl)) rfl ?_; clear S; intro a S
 refine lv S (rn_assign (S.tm rfl)) rfl ?_; clear S; intro a S
 refine l_done ?_
 replace S := S.nk [] [(6, u1), (7, .int .i64 r1.2.2)] [] rfl ⟨rfl, rfl, trivial⟩
 refine then_n ?_
 refine wp_ret ?_
 obtain rfl := Option.some.inj h
 exact f_ret2 S Tryd.results7 rfl rfl ⟨_, rfl, ((hs1).mono S.le_newer)⟩
theorem Stream_Some_ok (w : World) (b_p_s : Nat) (v_p_s_L : Value) (p_s_L : List Int) (hs_p_s_L : Slc (view w [b_p_s]) 1 v_p_s_L (p_s_L.map eInt)) (p_s_at : Int) (hb_b_p_s : (LEnt.blk b_p_s [v_p_s_L, .int .i64 p_s_at] 25).holds w) (v_p_l : Value) (p_l : List ByteArray) (hs_p_l : Slc (view w [b_p_s]) 1 v_p_l (p_l.map eStr)) (r : ByteArray × Int) (h : Stream_Some p_s_L p_s_at p_l = some r) :
    Calls Tryd.prog 21 [.pointer (some ⟨b_p_s, 0, none⟩), v_p_l].toArray w (Ret w [b_p_s] fun _ v w' => (LEnt.blk b_p_s [v_p_s_L, .int .i64 r.2] 25).holds w' ∧ v = .string r.1) := by
 refine f_enter [b_p_s] [.blk b_p_s [v_p_s_L, .int .i64 p_s_at] 25] Tryd.func21 rfl Tryd.ntmps21 rfl (fun e he => by simp only [List.mem_singleton] at he; subst he; exact hb_b_p_s) (by simp [fps, LEnt.fp]) (by simp [fps, LEnt.fp]) fun a S => ?_
 unfold Stream_Some at h
 replace S := S.nk [.blk b_p_s [v_p_s_L, .int .i64 p_s_at] 25] [(0, .pointer (some ⟨b_p_s, 0, none⟩)), (1, v_p_l)] [true] rfl ⟨rfl, rfl, trivial⟩
 refine f_seq ?_
 refine f_region ?_
 refine lv S (rn_assign rfl) rfl ?_; clear S; intro a S
 refine l_done ?_
 replace S := S.nk [.blk b_p_s [v_p_s_L, .int .i64 p_s_at] 25] [(0, .pointer (some ⟨b_p_s, 0, none⟩)), (1, v_p_l)] [true] rfl ⟨rfl, rfl, trivial⟩
 refine then_n ?_
 refine f_seq ?_
 refine f_region ?_
 refine lv S (rn_move (S.tm rfl)) rfl ?_; clear S; intro a S
 refine lv S (rn_move (S.tm rfl)) rfl ?_; clear S; intro a S
 refine lv S (rn_move (S.tm rfl)) rfl ?_; clear S; intro a S
 refine lv S (rn_lenT sl_51 (S.tm rfl) (slc_len hs_p_l)) rfl ?_; clear S; intro a S
 obtain ⟨r1, hr1, h⟩ := bindE h
 refine l_enter1 0 S (b := b_p_s) rfl rfl (fun _ => .blk b_p_s [v_p_s_L, .int .i64 r1.2] 25) (fun _ => run_call (vs := [.pointer (some ⟨b_p_s, 0, none⟩), .int .i64 (p_l.length : Int)]) ⟨(S.tm rfl), (S.tm rfl), trivial⟩ Tryd.call17) (Stream_Next_ok _ b_p_s v_p_s_L p_s_L (hs_p_s_L.mono (S.le_arg (fp_sub (i := 0) (e := .blk b_p_s [v_p_s_L, .int .i64 p_s_at] 25) rfl))) p_s_at (S.holds _ (List.mem_of_getElem? (i := 0) rfl)) (p_l.length : Int) _ hr1) rfl (fun _ _ _ h => ⟨h.1, fun _ hc => by cases hc; rfl⟩) ?_; clear S; intro v1 a w1 hv1 hk1 hn1 S
 replace hv1 := hv1.2
 subst hv1
 obtain ⟨hc1, h⟩ := chkE h
 obtain ⟨b1, o1, hm1, hr2⟩ := rn_indexT (a := a) (x := .tmp 5) (y := .tmp 9) (ty := 0) sl_51 hs_p_l (inB_get hc1).1 (inB_get hc1).2 (S.tm rfl) (S.tm rfl)
 refine lv S (hr2 _) rfl ?_; clear S; intro a S
 clear hr2
 refine lv S (rn_ld Tryd.isAgg9 (off := o1) (o := 0) (S.tm rfl) (hm1.at S.emb0) rfl) rfl ?_; clear S; intro a S
 refine lv S (rn_assign (S.tm rfl)) rfl ?_; clear S; intro a S
 refine l_done ?_
 replace S := S.nk [.blk b_p_s [v_p_s_L, .int .i64 r1.2] 25] [(4, .string (nth p_l r1.1))] [true] rfl ⟨rfl, trivial⟩
 refine then_n ?_
 refine wp_ret ?_
 obtain rfl := Option.some.inj h
 exact f_ret S Tryd.results21 rfl ⟨(S.holds _ (List.mem_of_getElem? (i := 0) rfl)), rfl⟩
theorem Stream_Odd_ok (w : World) (b_p_s : Nat) (v_p_s_L : Value) (p_s_L : List Int) (hs_p_s_L : Slc (view w [b_p_s]) 1 v_p_s_L (p_s_L.map eInt)) (p_s_at : Int) (hb_b_p_s : (LEnt.blk b_p_s [v_p_s_L, .int .i64 p_s_at] 25).holds w) (p_low : Int) (p_high : Int) (r : Int × Int) (h : Stream_Odd p_s_L p_s_at p_low p_high = some r) :
    Calls Tryd.prog 22 [.pointer (some ⟨b_p_s, 0, none⟩), .int .i64 p_low, .int .i64 p_high].toArray w (Ret w [b_p_s] fun _ v w' => (LEnt.blk b_p_s [v_p_s_L, .int .i64 r.2] 25).holds w' ∧ v = .int .i64 r.1) := by
 refine f_enter [b_p_s] [.blk b_p_s [v_p_s_L, .int .i64 p_s_at] 25] Tryd.func22 rfl Tryd.ntmps22 rfl (fun e he => by simp only [List.mem_singleton] at he; subst he; exact hb_b_p_s) (by simp [fps, LEnt.fp]) (by simp [fps, LEnt.fp]) fun a S => ?_
 unfold Stream_Odd at h
 replace S := S.nk [.blk b_p_s [v_p_s_L, .int .i64 p_s_at] 25] [(0, .pointer (some ⟨b_p_s, 0, none⟩)), (1, .int .i64 p_low), (2, .int .i64 p_high)] [true] rfl ⟨rfl, rfl, rfl, trivial⟩
 refine f_seq ?_
 refine f_region ?_
 refine lv S (rn_assign rfl) rfl ?_; clear S; intro a S
 refine l_done ?_
 replace S := S.nk [.blk b_p_s [v_p_s_L, .int .i64 p_s_at] 25] [(0, .pointer (some ⟨b_p_s, 0, none⟩)), (1, .int .i64 p_low), (2, .int .i64 p_high)] [true] rfl ⟨rfl, rfl, rfl, trivial⟩
 refine then_n ?_
 refine f_seq ?_
 refine f_seq ?_
 refine f_region ?_
 refine lv S (rn_move (S.tm rfl)) rfl ?_; clear S; intro a S
 obtain ⟨r1, hr1, h⟩ := bindE h
 refine l_enter1 0 S (b := b_p_s) rfl rfl (fun _ => .blk b_p_s [v_p_s_L, .int .i64 r1.2] 25) (fun _ => run_call (vs := [.pointer (some ⟨b_p_s, 0, none⟩), .int .i64 12]) ⟨(S.tm rfl), rfl, trivial⟩ Tryd.call15) (Stream_Flip_ok _ b_p_s v_p_s_L p_s_L (hs_p_s_L.mono (S.le_arg (fp_sub (i := 0) (e := .blk b_p_s [v_p_s_L, .int .i64 p_s_at] 25) rfl))) p_s_at (S.holds _ (List.mem_of_getElem? (i := 0) rfl)) 12 _ hr1) rfl (fun _ _ _ h => ⟨h.1, fun _ hc => by cases hc; rfl⟩) ?_; clear S; intro v1 a w1 hv1 hk1 hn1 S
 replace hv1 := hv1.2
 subst hv1
 refine l_done ?_
 replace S := S.nk [.blk b_p_s [v_p_s_L, .int .i64 r1.2] 25] [(0, .pointer (some ⟨b_p_s, 0, none⟩)), (1, .int .i64 p_low), (2, .int .i64 p_high), (8, .bool r1.1)] [true] rfl ⟨rfl, rfl, rfl, rfl, trivial⟩
 refine then_n ?_
 refine f_cond (S.tm rfl) (fun hb1 => ?_) (fun hb1 => ?_)
 ·replace h := iteT h hb1
  refine f_seq ?_
  refine f_region ?_
  refine lv S (rn_move (S.tm rfl)) rfl ?_; clear S; intro a S
  refine lv S (rn_move (S.tm rfl)) rfl ?_; clear S; intro a S
  refine lv S (rn_sub (S.tm rfl) rfl) rfl ?_; clear S; intro a S
  refine lv S (rn_move (S.tm rfl)) rfl ?_; clear S; intro a S
  refine lv S (rn_add (S.tm rfl) rfl) rfl ?_; clear S; intro a S
  refine lv S (rn_move (S.tm rfl)) rfl ?_; clear S; intro a S
  refine lv S (rn_move (S.tm rfl)) rfl ?_; clear S; intro a S
  refine l_buildSlice S Tryd.underlying22 Tryd.sizeOf3 Tryd.zeroValue3 rfl rfl (pv := [(0, .int .i64 (W (p_low - 1))), (1, .int .i64 (W (p_high + 1))), (2, .int .i64 p_low), (3, .int .i64 p_high), (4, .int .i64 (-1099511627776)), (5, .int .i64 1099511627776)]) ⟨rfl, (S.tm rfl), rfl, (S.tm rfl), rfl, (S.tm rfl), rfl, (S.tm rfl), rfl, rfl, rfl, rfl, trivial⟩ (cs := [.int .i64 (W (p_low - 1)), .int .i64 (W (p_high + 1)), .int .i64 p_low, .int .i64 p_high, .int .i64 (-1099511627776), .int .i64 1099511627776]) (by kernel_rfl) rfl ?_; clear S; intro a w2 b1 hz1 hk2 S
  obtain ⟨r2, hr2, h⟩ := bindE h
  refine l_enter1 1 S (b := b_p_s) rfl rfl (fun _ => .blk b_p_s [v_p_s_L, .int .i64 r2.2] 25) (fun _ => run_call (vs := [.pointer (some ⟨b_p_s, 0, none⟩), .slice (some ⟨b1, 0, none⟩) 6 6]) ⟨(S.tm rfl), (S.tm rfl), trivial⟩ Tryd.call16) (Stream_Pick_ok _ b_p_s v_p_s_L p_s_L (hs_p_s_L.mono (S.le_arg (fp_sub (i := 1) (e := .blk b_p_s [v_p_s_L, .int .i64 r1.2] 25) rfl))) r1.2 (S.holds _ (List.mem_of_getElem? (i := 1) rfl)) (.slice (some ⟨b1, 0, none⟩) 6 6) [W (p_low - 1), W (p_high + 1), p_low, p_high, (-1099511627776), 1099511627776] (lit_slcT enc_int S (i := 0) rfl rfl rfl rfl ((ne_fp (i := 1) (j := 0) (e := .blk b_p_s [v_p_s_L, .int .i64 r1.2] 25) (e' := .blk b1 [.int .i64 (W (p_low - 1)), .int .i64 (W (p_high + 1)), .int .i64 p_low, .int .i64 p_high, .int .i64 (-1099511627776), .int .i64 1099511627776] 3) S rfl rfl rfl) _ rfl)) _ hr2) rfl (fun _ _ _ h => ⟨h.1, fun _ hc => by cases hc; rfl⟩) ?_; clear S; intro v2 a w3 hv2 hk3 hn2 S
  replace hv2 := hv2.2
  subst hv2
  refine lv S (rn_assign (S.tm rfl)) rfl ?_; clear S; intro a S
  refine l_done ?_
  replace S := S.nk [.blk b_p_s [v_p_s_L, .int .i64 r2.2] 25] [(6, .int .i64 r2.1)] [false, true] rfl ⟨rfl, trivial⟩
  refine then_n ?_
  refine wp_ret ?_
  refine then_r ?_
  obtain rfl := Option.some.inj h
  exact f_ret S Tryd.results22 rfl ⟨(S.holds _ (List.mem_of_getElem? (i := 0) rfl)), rfl⟩
 ·replace h := iteF h hb1
  refine wp_skip ?_
  refine then_n ?_
  refine f_seq ?_
  refine f_region ?_
  refine lv S (rn_move (S.tm rfl)) rfl ?_; clear S; intro a S
  refine lv S (rn_move (S.tm rfl)) rfl ?_; clear S; intro a S
  refine lv S (rn_move (S.tm rfl)) rfl ?_; clear S; intro a S
  obtain ⟨r3, hr3, h⟩ := bindE h
  refine l_enter1 0 S (b := b_p_s) rfl rfl (fun _ => .blk b_p_s [v_p_s_L, .int .i64 r3.2] 25) (fun _ => run_call (vs := [.pointer (some ⟨b_p_s, 0, none⟩), .int .i64 p_low, .int .i64 p_high]) ⟨(S.tm rfl), (S.tm rfl), (S.tm rfl), trivial⟩ Tryd.call5) (Stream_Range_ok _ b_p_s v_p_s_L p_s_L (hs_p_s_L.mono (S.le_arg (fp_sub (i := 0) (e := .blk b_p_s [v_p_s_L, .int .i64 r1.2] 25) rfl))) r1.2 (S.holds _ (List.mem_of_getElem? (i := 0) rfl)) p_low p_high _ hr3) rfl (fun _ _ _ h => ⟨h.1, fun _ hc => by cases hc; rfl⟩) ?_; clear S; intro v3 a w4 hv3 hk4 hn3 S
  replace hv3 := hv3.2
  subst hv3
  refine lv S (rn_assign (S.tm rfl)) rfl ?_; clear S; intro a S
  refine l_done ?_
  replace S := S.nk [.blk b_p_s [v_p_s_L, .int .i64 r3.2] 25] [(6, .int .i64 r3.1)] [true] rfl ⟨rfl, trivial⟩
  refine then_n ?_
  refine wp_ret ?_
  obtain rfl := Option.some.inj h
  exact f_ret S Tryd.results22 rfl ⟨(S.holds _ (List.mem_of_getElem? (i := 0) rfl)), rfl⟩
theorem Stream_Helds_ok (w : World) (b_p_s : Nat) (v_p_s_L : Value) (p_s_L : List Int) (hs_p_s_L : Slc (view w [b_p_s]) 1 v_p_s_L (p_s_L.map eInt)) (p_s_at : Int) (hb_b_p_s : (LEnt.blk b_p_s [v_p_s_L, .int .i64 p_s_at] 25).holds w) (v_p_items : Value) (p_items : List GItem) (hs_p_items : Slc (view w [b_p_s]) 5 v_p_items (p_items.map GItem.enc)) (r : (List GHeld) × Int) (h : Stream_Helds p_s_L p_s_at p_items = some r) :
    Calls Tryd.prog 8 [.pointer (some ⟨b_p_s, 0, none⟩), v_p_items].toArray w (Ret w [b_p_s] fun τ v w' => (LEnt.blk b_p_s [v_p_s_L, .int .i64 r.2] 25).holds w' ∧ OwnV τ 48 3 v r.1.length (r.1.flatMap GHeld.enc)) := by
 refine f_enter [b_p_s] [.blk b_p_s [v_p_s_L, .int .i64 p_s_at] 25] Tryd.func8 rfl Tryd.ntmps8 rfl (fun e he => by simp only [List.mem_singleton] at he; subst he; exact hb_b_p_s) (by simp [fps, LEnt.fp]) (by simp [fps, LEnt.fp]) fun a S => ?_
 unfold Stream_Helds at h
 replace S := S.nk [.blk b_p_s [v_p_s_L, .int .i64 p_s_at] 25] [(0, .pointer (some ⟨b_p_s, 0, none⟩)), (1, v_p_items)] [true] rfl ⟨rfl, rfl, trivial⟩
 refine f_seq ?_
 refine f_region ?_
 refine lv S (rn_assign rfl) rfl ?_; clear S; intro a S
 refine l_done ?_
 replace S := S.nk [.blk b_p_s [v_p_s_L, .int .i64 p_s_at] 25] [(0, .pointer (some ⟨b_p_s, 0, none⟩)), (1, v_p_items)] [true] rfl ⟨rfl, rfl, trivial⟩
 refine then_n ?_
 refine f_seq ?_
 refine f_region ?_
 refine lv S (rn_assign rfl) rfl ?_; clear S; intro a S
 replace S := S.nil 48 3
 refine l_done ?_
 replace S := S.nk [.own (.slice none 0 0) 48 3 ([] : List GHeld).length (([] : List GHeld).flatMap GHeld.enc), .blk b_p_s [v_p_s_L, .int .i64 p_s_at] 25] [(0, .pointer (some ⟨b_p_s, 0, none⟩)), (1, v_p_items), (5, (.slice none 0 0))] [true, true] rfl ⟨rfl, rfl, rfl, trivial⟩
 refine then_n ?_
 refine f_seq ?_
 refine f_region ?_
 refine lv S (rn_assign rfl) rfl ?_; clear S; intro a S
 refine l_done ?_
 replace S := S.nk [.own (.slice none 0 0) 48 3 ([] : List GHeld).length (([] : List GHeld).flatMap GHeld.enc), .blk b_p_s [v_p_s_L, .int .i64 p_s_at] 25] [(0, .pointer (some ⟨b_p_s, 0, none⟩)), (1, v_p_items), (5, (.slice none 0 0)), (6, .int .i64 0)] [true, true] rfl ⟨rfl, rfl, rfl, rfl, trivial⟩
 refine then_n ?_
 refine f_seq ?_
 refine f_seq ?_
 refine f_region ?_
 refine lv S (rn_move (S.tm rfl)) rfl ?_; clear S; intro a S
 refine lv S (rn_lenT sl_26 (S.tm rfl) (slc_len hs_p_items)) rfl ?_; clear S; intro a S
 refine lv S (rn_move rfl) rfl ?_; clear S; intro a S
 refine l_done ?_
 replace S := S.nk [.own (.slice none 0 0) 48 3 ([] : List GHeld).length (([] : List GHeld).flatMap GHeld.enc), .blk b_p_s [v_p_s_L, .int .i64 p_s_at] 25] [(0, .pointer (some ⟨b_p_s, 0, none⟩)), (5, (.slice none 0 0)), (6, .int .i64 0), (11, v_p_items), (12, .int .i64 (p_items.length : Int)), (13, .int .i64 0)] [true, true] rfl ⟨rfl, rfl, rfl, rfl, rfl, rfl, trivial⟩
 refine then_n ?_
 obtain ⟨j1, hj1, h⟩ := joinE h
 refine f_join (fun a w' => ∃ x1 : List GHeld, ∃ x2 : Int, ∃ v1 : Value, j1 x1 x2 = some r ∧ Sx w [b_p_s] nov [.own v1 48 3 x1.length (x1.flatMap GHeld.enc), .blk b_p_s [v_p_s_L, .int .i64 x2] 25] [(0, .pointer (some ⟨b_p_s, 0, none⟩)), (5, v1)] 74 a w') ?_ ?_
 ·refine wp_block ?_
  refine f_loop (fun (ys1 : List GItem) a w' => ∃ i1 : Nat, ∃ x1 : List GHeld, ∃ x2 : Int, ∃ x3 : Int, ∃ v1 : Value, (∃ dn, p_items = dn ++ ys1 ∧ dn.length = i1) ∧ Stream_Helds_l1 p_s_L j1 ys1 i1 x1 x2 x3 = some r ∧ Sx w [b_p_s] nov [.own v1 48 3 x1.length (x1.flatMap GHeld.enc), .blk b_p_s [v_p_s_L, .int .i64 x2] 25] [(0, .pointer (some ⟨b_p_s, 0, none⟩)), (5, v1), (6, .int .i64 x3), (11, v_p_items), (12, .int .i64 (p_items.length : Int)), (13, .int .i64 (i1 : Int))] 74 a w') List.length p_items ⟨0, ([] : List GHeld), p_s_at, 0, (.slice none 0 0), ⟨[], rfl, rfl⟩, h, S.nf [true, true] rfl ⟨rfl, rfl, rfl, rfl, rfl, rfl, trivial⟩⟩ ?_
  clear S h; rintro ys1 a w1 ⟨i1, x1, x2, x3, v1, ⟨dn, hd1, hi1⟩, h, S⟩
  cases ys1 with
  | nil =>
   rw [Stream_Helds_l1.eq_1] at h
   refine f_seq ?_
   refine f_region ?_
   refine lv S (rn_lss (S.tm rfl) (S.tm rfl)) rfl ?_; clear S; intro a S
   refine l_done ?_
   replace S := S.nk [.own v1 48 3 x1.length (x1.flatMap GHeld.enc), .blk b_p_s [v_p_s_L, .int .i64 x2] 25] [(0, .pointer (some ⟨b_p_s, 0, none⟩)), (5, v1), (6, .int .i64 x3), (11, v_p_items), (12, .int .i64 (p_items.length : Int)), (13, .int .i64 (i1 : Int)), (14, .bool (decide ((i1 : Int) < (p_items.length : Int))))] [true, true] rfl ⟨rfl, rfl, rfl, rfl, rfl, rfl, rfl, trivial⟩
   refine then_n ?_
   refine f_seq ?_
   refine wp_cond_false ((S.tm rfl).trans (congrArg Value.bool (rng_nil hd1 hi1))) ?_
   refine wp_exit ?_
   refine then_x ?_
   refine then_x ?_
   refine x_same ?_
   refine then_n ?_
   exact ⟨x1, x2, v1, h, S.nf [true, true] rfl ⟨rfl, rfl, trivial⟩⟩
  | cons y1 ys1 =>
   rw [Stream_Helds_l1.eq_2] at h
   refine f_seq ?_
   refine f_region ?_
   refine lv S (rn_lss (S.tm rfl) (S.tm rfl)) rfl ?_; clear S; intro a S
   refine l_done ?_
   replace S := S.nk [.own v1 48 3 x1.length (x1.flatMap GHeld.enc), .blk b_p_s [v_p_s_L, .int .i64 x2] 25] [(0, .pointer (some ⟨b_p_s, 0, none⟩)), (5, v1), (6, .int .i64 x3), (11, v_p_items), (12, .int .i64 (p_items.length : Int)), (13, .int .i64 (i1 : Int)), (14, .bool (decide ((i1 : Int) < (p_items.length : Int))))] [true, true] rfl ⟨rfl, rfl, rfl, rfl, rfl, rfl, rfl, trivial⟩
   refine then_n ?_
   refine f_seq ?_
   refine wp_cond_true ((S.tm rfl).trans (congrArg Value.bool (rng_cons hd1 hi1))) ?_
   refine wp_skip ?_
   refine then_n ?_
   refine f_seq ?_
   refine wp_block ?_
   refine f_seq ?_
   refine f_region ?_
   obtain ⟨b1, o1, hm1, hr1⟩ := rn_indexT (a := a) (x := .tmp 11) (y := .tmp 13) (ty := 0) sl_26 hs_p_items (get_mid hd1 hi1) rfl (S.tm rfl) (S.tm rfl)
   refine lv S (hr1 _) rfl ?_; clear S; intro a S
   clear hr1
   refine lv S (rn_ldA Tryd.isAgg37 Tryd.sizeOf37 (off := o1) (o := 0) (part := [.string y1.Key, .int .i64 y1.Heats, .int .i64 y1.Long, .int .i64 y1.Gap, .int .i64 y1.Break]) rfl rfl (S.tm rfl) (hm1.at S.emb0)) rfl ?_; clear S; intro a S
   refine l_alloc S Tryd.zeroValue37 (cs := [.string k_empty, .int .i64 0, .int .i64 0, .int .i64 0, .int .i64 0]) rfl rfl ?_; clear S; intro a w3 b2 hz1 hk1 S
   refine l_store S (S.tm rfl) (S.tm rfl) (i := 0) (off := 0) rfl Tryd.sizeOf37 (vs := [.string y1.Key, .int .i64 y1.Heats, .int .i64 y1.Long, .int .i64 y1.Gap, .int .i64 y1.Break]) rfl rfl rfl rfl ?_; clear S; intro w4 hk2 S
   refine l_done ?_
   replace S := S.nk [.blk b2 [.string y1.Key, .int .i64 y1.Heats, .int .i64 y1.Long, .int .i64 y1.Gap, .int .i64 y1.Break] 37, .own v1 48 3 x1.length (x1.flatMap GHeld.enc), .blk b_p_s [v_p_s_L, .int .i64 x2] 25] [(0, .pointer (some ⟨b_p_s, 0, none⟩)), (5, v1), (6, .int .i64 x3), (8, .pointer (some ⟨b2, 0, none⟩)), (11, v_p_items), (12, .int .i64 (p_items.length : Int)), (13, .int .i64 (i1 : Int))] [true, true, true] rfl ⟨rfl, rfl, rfl, rfl, rfl, rfl, rfl, trivial⟩
   refine then_n ?_
   refine f_seq ?_
   refine f_region ?_
   refine lv S (rn_assign rfl) rfl ?_; clear S; intro a S
   refine l_done ?_
   replace S := S.nk [.blk b2 [.string y1.Key, .int .i64 y1.Heats, .int .i64 y1.Long, .int .i64 y1.Gap, .int .i64 y1.Break] 37, .own v1 48 3 x1.length (x1.flatMap GHeld.enc), .blk b_p_s [v_p_s_L, .int .i64 x2] 25] [(0, .pointer (some ⟨b_p_s, 0, none⟩)), (5, v1), (6, .int .i64 x3), (8, .pointer (some ⟨b2, 0, none⟩)), (9, .int .i64 1), (11, v_p_items), (12, .int .i64 (p_items.length : Int)), (13, .int .i64 (i1 : Int))] [true, true, true] rfl ⟨rfl, rfl, rfl, rfl, rfl, rfl, rfl, rfl, trivial⟩
   refine then_n ?_
   obtain ⟨j2, hj2, h⟩ := joinE h
   refine f_join (fun a w' => ∃ x4 : List GHeld, ∃ x5 : Int, ∃ x6 : Int, ∃ v2 : Value, j2 x4 x5 x6 = some r ∧ Sx w [b_p_s] nov [.blk b2 [.string y1.Key, .int .i64 y1.Heats, .int .i64 y1.Long, .int .i64 y1.Gap, .int .i64 y1.Break] 37, .own v2 48 3 x4.length (x4.flatMap GHeld.enc), .blk b_p_s [v_p_s_L, .int .i64 x5] 25] [(0, .pointer (some ⟨b_p_s, 0, none⟩)), (5, v2), (6, .int .i64 x6), (11, v_p_items), (12, .int .i64 (p_items.length : Int)), (13, .int .i64 (i1 : Int))] 74 a w') ?_ ?_
   ·refine wp_block ?_
    refine f_loop (fun (m1 : Nat) a w' => ∃ x4 : List GHeld, ∃ x5 : Int, ∃ x6 : Int, ∃ x7 : Int, ∃ v2 : Value, Stream_Helds_l2 y1 p_s_L j2 m1 x4 x5 x6 x7 = some r ∧ Sx w [b_p_s] nov [.blk b2 [.string y1.Key, .int .i64 y1.Heats, .int .i64 y1.Long, .int .i64 y1.Gap, .int .i64 y1.Break] 37, .own v2 48 3 x4.length (x4.flatMap GHeld.enc), .blk b_p_s [v_p_s_L, .int .i64 x5] 25] [(0, .pointer (some ⟨b_p_s, 0, none⟩)), (5, v2), (6, .int .i64 x6), (8, .pointer (some ⟨b2, 0, none⟩)), (9, .int .i64 x7), (11, v_p_items), (12, .int .i64 (p_items.length : Int)), (13, .int .i64 (i1 : Int))] 74 a w') id (((imin y1.Heats 3) - 1).toNat + 2) ⟨x1, x2, x3, 1, v1, h, S.nf [true, true, true] rfl ⟨rfl, rfl, rfl, rfl, rfl, rfl, rfl, rfl, trivial⟩⟩ ?_
    clear S h; rintro m1 a w5 ⟨x4, x5, x6, x7, v2, h, S⟩
    cases m1 with
    | zero => rw [Stream_Helds_l2.eq_1] at h; cases h
    | succ m1 =>
     rw [Stream_Helds_l2.eq_2] at h
     refine f_seq ?_
     refine f_seq ?_
     refine f_region ?_
     refine lv S (rn_move (S.tm rfl)) rfl ?_; clear S; intro a S
     refine lv S (rn_fld fa_37_1 (S.tm rfl)) rfl ?_; clear S; intro a S
     refine lv S (rn_load Tryd.isAgg3 (S.tm rfl) (S.cell (i := 0) rfl rfl)) rfl ?_; clear S; intro a S
     refine lv S (rn_min2 (S.tm rfl) rfl) rfl ?_; clear S; intro a S
     refine lv S (rn_leq (S.tm rfl) (S.tm rfl)) rfl ?_; clear S; intro a S
     refine l_done ?_
     replace S := S.nk [.blk b2 [.string y1.Key, .int .i64 y1.Heats, .int .i64 y1.Long, .int .i64 y1.Gap, .int .i64 y1.Break] 37, .own v2 48 3 x4.length (x4.flatMap GHeld.enc), .blk b_p_s [v_p_s_L, .int .i64 x5] 25] [(0, .pointer (some ⟨b_p_s, 0, none⟩)), (5, v2), (6, .int .i64 x6), (8, .pointer (some ⟨b2, 0, none⟩)), (9, .int .i64 x7), (11, v_p_items), (12, .int .i64 (p_items.length : Int)), (13, .int .i64 (i1 : Int)), (21, .bool (decide (x7 ≤ (imin y1.Heats 3))))] [true, true, true] rfl ⟨rfl, rfl, rfl, rfl, rfl, rfl, rfl, rfl, rfl, trivial⟩
     refine then_n ?_
     refine f_cond (S.tm rfl) (fun hb1 => ?_) (fun hb1 => ?_)
     ·replace h := iteT h hb1
      refine wp_skip ?_
      refine then_n ?_
      refine f_seq ?_
      obtain ⟨j3, hj3, h⟩ := joinE h
      refine f_join (fun a w' => ∃ x8 : List GHeld, ∃ x9 : Int, ∃ x10 : Int, ∃ v3 : Value, j3 x8 x9 x10 = some r ∧ Sx w [b_p_s] nov [.blk b2 [.string y1.Key, .int .i64 y1.Heats, .int .i64 y1.Long, .int .i64 y1.Gap, .int .i64 y1.Break] 37, .own v3 48 3 x8.length (x8.flatMap GHeld.enc), .blk b_p_s [v_p_s_L, .int .i64 x9] 25] [(0, .pointer (some ⟨b_p_s, 0, none⟩)), (5, v3), (6, .int .i64 x10), (8, .pointer (some ⟨b2, 0, none⟩)), (9, .int .i64 x7), (11, v_p_items), (12, .int .i64 (p_items.length : Int)), (13, .int .i64 (i1 : Int))] 74 a w') ?_ ?_
      ·refine wp_block ?_
       refine f_seq ?_
       refine f_region ?_
       refine lv S (rn_move (S.tm rfl)) rfl ?_; clear S; intro a S
       refine lv S (rn_move (S.tm rfl)) rfl ?_; clear S; intro a S
       refine l_buildSlice S Tryd.underlying22 Tryd.sizeOf3 Tryd.zeroValue3 rfl rfl (pv := [(0, .int .i64 0), (1, .int .i64 50), (2, .int .i64 100), (3, .int .i64 200)]) ⟨rfl, rfl, rfl, rfl, rfl, rfl, rfl, rfl, trivial⟩ (cs := [.int .i64 0, .int .i64 50, .int .i64 100, .int .i64 200]) (by kernel_rfl) rfl ?_; clear S; intro a w8 b3 hz2 hk3 S
       obtain ⟨r1, hr2, h⟩ := bindE h
       refine l_enter1 3 S (b := b_p_s) rfl rfl (fun _ => .blk b_p_s [v_p_s_L, .int .i64 r1.2] 25) (fun _ => run_call (vs := [.pointer (some ⟨b_p_s, 0, none⟩), .slice (some ⟨b3, 0, none⟩) 4 4]) ⟨(S.tm rfl), (S.tm rfl), trivial⟩ Tryd.call16) (Stream_Pick_ok _ b_p_s v_p_s_L p_s_L (hs_p_s_L.mono (S.le_arg (fp_sub (i := 3) (e := .blk b_p_s [v_p_s_L, .int .i64 x5] 25) rfl))) x5 (S.holds _ (List.mem_of_getElem? (i := 3) rfl)) (.slice (some ⟨b3, 0, none⟩) 4 4) [0, 50, 100, 200] (lit_slcT enc_int S (i := 0) rfl rfl rfl rfl ((ne_fp (i := 3) (j := 0) (e := .blk b_p_s [v_p_s_L, .int .i64 x5] 25) (e' := .blk b3 [.int .i64 0, .int .i64 50, .int .i64 100, .int .i64 200] 3) S rfl rfl rfl) _ rfl)) _ hr2) rfl (fun _ _ _ h => ⟨h.1, fun _ hc => by cases hc; rfl⟩) ?_; clear S; intro v4 a w9 hv1 hk4 hn1 S
       replace hv1 := hv1.2
       subst hv1
       refine lv S (rn_add (S.tm rfl) (S.tm rfl)) rfl ?_; clear S; intro a S
       refine lv S (rn_assign (S.tm rfl)) rfl ?_; clear S; intro a S
       refine l_done ?_
       replace S := S.nk [.blk b2 [.string y1.Key, .int .i64 y1.Heats, .int .i64 y1.Long, .int .i64 y1.Gap, .int .i64 y1.Break] 37, .own v2 48 3 x4.length (x4.flatMap GHeld.enc), .blk b_p_s [v_p_s_L, .int .i64 r1.2] 25] [(0, .pointer (some ⟨b_p_s, 0, none⟩)), (5, v2), (6, .int .i64 (W (x6 + r1.1))), (8, .pointer (some ⟨b2, 0, none⟩)), (9, .int .i64 x7), (11, v_p_items), (12, .int .i64 (p_items.length : Int)), (13, .int .i64 (i1 : Int))] [false, true, true, true] rfl ⟨rfl, rfl, rfl, rfl, rfl, rfl, rfl, rfl, trivial⟩
       refine then_n ?_
       refine f_seq ?_
       refine f_region ?_
       refine lv S (rn_move (S.tm rfl)) rfl ?_; clear S; intro a S
       obtain ⟨r2, hr3, h⟩ := bindE h
       refine l_enter1 2 S (b := b_p_s) rfl rfl (fun _ => .blk b_p_s [v_p_s_L, .int .i64 r2.2] 25) (fun _ => run_call (vs := [.pointer (some ⟨b_p_s, 0, none⟩), .int .i64 3]) ⟨(S.tm rfl), rfl, trivial⟩ Tryd.call15) (Stream_Flip_ok _ b_p_s v_p_s_L p_s_L (hs_p_s_L.mono (S.le_arg (fp_sub (i := 2) (e := .blk b_p_s [v_p_s_L, .int .i64 r1.2] 25) rfl))) r1.2 (S.holds _ (List.mem_of_getElem? (i := 2) rfl)) 3 _ hr3) rfl (fun _ _ _ h => ⟨h.1, fun _ hc => by cases hc; rfl⟩) ?_; clear S; intro v5 a w10 hv2 hk5 hn2 S
       replace hv2 := hv2.2
       subst hv2
       refine l_done ?_
       replace S := S.nk [.blk b2 [.string y1.Key, .int .i64 y1.Heats, .int .i64 y1.Long, .int .i64 y1.Gap, .int .i64 y1.Break] 37, .own v2 48 3 x4.length (x4.flatMap GHeld.enc), .blk b_p_s [v_p_s_L, .int .i64 r2.2] 25] [(0, .pointer (some ⟨b_p_s, 0, none⟩)), (5, v2), (6, .int .i64 (W (x6 + r1.1))), (8, .pointer (some ⟨b2, 0, none⟩)), (9, .int .i64 x7), (11, v_p_items), (12, .int .i64 (p_items.length : Int)), (13, .int .i64 (i1 : Int)), (30, .bool r2.1)] [true, true, true] rfl ⟨rfl, rfl, rfl, rfl, rfl, rfl, rfl, rfl, rfl, trivial⟩
       refine then_n ?_
       obtain ⟨j4, hj4, h⟩ := joinE h
       refine f_join (fun a w' => ∃ x11 : List GHeld, ∃ v6 : Value, j4 x11 = some r ∧ Sx w [b_p_s] nov [.blk b2 [.string y1.Key, .int .i64 y1.Heats, .int .i64 y1.Long, .int .i64 y1.Gap, .int .i64 y1.Break] 37, .own v6 48 3 x11.length (x11.flatMap GHeld.enc), .blk b_p_s [v_p_s_L, .int .i64 r2.2] 25] [(0, .pointer (some ⟨b_p_s, 0, none⟩)), (5, v6), (6, .int .i64 (W (x6 + r1.1))), (8, .pointer (some ⟨b2, 0, none⟩)), (9, .int .i64 x7), (11, v_p_items), (12, .int .i64 (p_items.length : Int)), (13, .int .i64 (i1 : Int))] 74 a w') ?_ ?_
       ·refine f_cond (S.tm rfl) (fun hb2 => ?_) (fun hb2 => ?_)
        ·replace h := iteT h hb2
         refine f_region ?_
         refine lv S (rn_move (S.tm rfl)) rfl ?_; clear S; intro a S
         refine lv S (rn_fld fa_37_0 (S.tm rfl)) rfl ?_; clear S; intro a S
         refine lv S (rn_load Tryd.isAgg9 (S.tm rfl) (S.cell (i := 0) rfl rfl)) rfl ?_; clear S; intro a S
         refine lv S (rn_move (S.tm rfl)) rfl ?_; clear S; intro a S
         refine lv S (rn_move (S.tm rfl)) rfl ?_; clear S; intro a S
         refine lv S (rn_bld bt_48 (pv := [(0, .string y1.Key), (1, .int .i64 x7), (2, .int .i64 (W (x6 + r1.1)))]) ⟨rfl, (S.tm rfl), rfl, (S.tm rfl), rfl, (S.tm rfl), trivial⟩ (cs := [.string y1.Key, .int .i64 x7, .int .i64 (W (x6 + r1.1))]) (by kernel_rfl)) rfl ?_; clear S; intro a S
         refine l_buildSlice S Tryd.underlying34 Tryd.sizeOf48 Tryd.zeroValue48 rfl rfl (pv := [(0, .agg #[.string y1.Key, .int .i64 x7, .int .i64 (W (x6 + r1.1))])]) ⟨rfl, (S.tm rfl), trivial⟩ (cs := [.string y1.Key, .int .i64 x7, .int .i64 (W (x6 + r1.1))]) (by kernel_rfl) rfl ?_; clear S; intro a w12 b4 hz3 hk6 S
         obtain ⟨hc1, h⟩ := chkE h
         refine l_appendT sl_34 GHeld.enc_ok S (S.tm rfl) (i := 2) rfl (S.tm rfl) (j := 0) rfl (ys := [(GHeld.mk y1.Key x7 (W (x6 + r1.1)))]) rfl rfl rfl rfl (by have := room_lt hc1; omega) rfl ?_; clear S; intro v7 a w13 hk7 S
         refine lv S (rn_assign (S.tm rfl)) rfl ?_; clear S; intro a S
         refine l_done ?_
         replace S := S.nk [.blk b2 [.string y1.Key, .int .i64 y1.Heats, .int .i64 y1.Long, .int .i64 y1.Gap, .int .i64 y1.Break] 37, .own v7 48 3 (x4 ++ [(GHeld.mk y1.Key x7 (W (x6 + r1.1)))]).length ((x4 ++ [(GHeld.mk y1.Key x7 (W (x6 + r1.1)))]).flatMap GHeld.enc), .blk b_p_s [v_p_s_L, .int .i64 r2.2] 25] [(0, .pointer (some ⟨b_p_s, 0, none⟩)), (5, v7), (6, .int .i64 (W (x6 + r1.1))), (8, .pointer (some ⟨b2, 0, none⟩)), (9, .int .i64 x7), (11, v_p_items), (12, .int .i64 (p_items.length : Int)), (13, .int .i64 (i1 : Int))] [false, true, true, true] rfl ⟨rfl, rfl, rfl, rfl, rfl, rfl, rfl, rfl, trivial⟩
         refine then_n ?_
         exact ⟨(x4 ++ [(GHeld.mk y1.Key x7 (W (x6 + r1.1)))]), v7, h, S.nf [true, true, true] rfl ⟨rfl, rfl, rfl, rfl, rfl, rfl, rfl, rfl, trivial⟩⟩
        ·replace h := iteF h hb2
         refine wp_skip ?_
         refine then_n ?_
         exact ⟨x4, v2, h, S.nf [true, true, true] rfl ⟨rfl, rfl, rfl, rfl, rfl, rfl, rfl, rfl, trivial⟩⟩
       clear S h; rintro a w11 ⟨x11, v6, h, S⟩; rw [hj4] at h; clear hj4 j4
       refine blk_n ?_
       refine then_n ?_
       exact ⟨x11, r2.2, W (x6 + r1.1), v6, h, S.nf [true, true, true] rfl ⟨rfl, rfl, rfl, rfl, rfl, rfl, rfl, rfl, trivial⟩⟩
      clear S h; rintro a w7 ⟨x8, x9, x10, v3, h, S⟩; rw [hj3] at h; clear hj3 j3
      refine then_n ?_
      refine f_region ?_
      refine lv S (rn_move (S.tm rfl)) rfl ?_; clear S; intro a S
      refine lv S (rn_add (S.tm rfl) rfl) rfl ?_; clear S; intro a S
      refine lv S (rn_assign (S.tm rfl)) rfl ?_; clear S; intro a S
      refine l_done ?_
      replace S := S.nk [.blk b2 [.string y1.Key, .int .i64 y1.Heats, .int .i64 y1.Long, .int .i64 y1.Gap, .int .i64 y1.Break] 37, .own v3 48 3 x8.length (x8.flatMap GHeld.enc), .blk b_p_s [v_p_s_L, .int .i64 x9] 25] [(0, .pointer (some ⟨b_p_s, 0, none⟩)), (5, v3), (6, .int .i64 x10), (8, .pointer (some ⟨b2, 0, none⟩)), (9, .int .i64 (W (x7 + 1))), (11, v_p_items), (12, .int .i64 (p_items.length : Int)), (13, .int .i64 (i1 : Int))] [true, true, true] rfl ⟨rfl, rfl, rfl, rfl, rfl, rfl, rfl, rfl, trivial⟩
      refine then_n ?_
      exact ⟨m1, ⟨x8, x9, x10, W (x7 + 1), v3, h, S.nf [true, true, true] rfl ⟨rfl, rfl, rfl, rfl, rfl, rfl, rfl, rfl, trivial⟩⟩, Nat.lt_succ_self _⟩
     ·replace h := iteF h hb1
      refine wp_exit ?_
      refine then_x ?_
      refine then_x ?_
      refine x_same ?_
      refine then_n ?_
      exact ⟨x4, x5, x6, v2, h, S.nf [true, true, true] rfl ⟨rfl, rfl, rfl, rfl, rfl, rfl, trivial⟩⟩
   clear S h; rintro a w6 ⟨x4, x5, x6, v2, h, S⟩; rw [hj2] at h; clear hj2 j2
   refine blk_n ?_
   refine then_n ?_
   refine f_region ?_
   refine lv S (rn_add (S.tm rfl) rfl) rfl ?_; clear S; intro a S
   refine lv S (rn_move (S.tm rfl)) rfl ?_; clear S; intro a S
   refine l_done ?_
   replace S := S.nk [.own v2 48 3 x4.length (x4.flatMap GHeld.enc), .blk b_p_s [v_p_s_L, .int .i64 x5] 25] [(0, .pointer (some ⟨b_p_s, 0, none⟩)), (5, v2), (6, .int .i64 x6), (11, v_p_items), (12, .int .i64 (p_items.length : Int)), (13, .int .i64 (W ((i1 : Int) + 1)))] [false, true, true] rfl ⟨rfl, rfl, rfl, rfl, rfl, rfl, trivial⟩
   refine then_n ?_
   exact ⟨ys1, ⟨i1 + 1, x4, x5, x6, v2, ⟨_, (hd1).trans (List.append_cons _ _ _), by simp [hi1]⟩, h, S.nf [true, true] rfl ⟨rfl, rfl, rfl, rfl, rfl, (congrArg (fun z => some (Value.int .i64 z)) (rng_next hd1 hi1 (slc_max hs_p_items))), trivial⟩⟩, Nat.lt_succ_self _⟩
 clear S h; rintro a w2 ⟨x1, x2, v1, h, S⟩; rw [hj1] at h; clear hj1 j1
 refine then_n ?_
 refine f_seq ?_
 refine f_seq ?_
 refine f_region ?_
 refine lv S (rn_move (S.tm rfl)) rfl ?_; clear S; intro a S
 refine lv S (rn_lenT sl_34 (S.tm rfl) (own_len (S.own_at (i := 0) rfl))) rfl ?_; clear S; intro a S
 refine lv S (rn_gtr (S.tm rfl) rfl) rfl ?_; clear S; intro a S
 refine lv S (rn_move (S.tm rfl)) rfl ?_; clear S; intro a S
 obtain ⟨j5, hj5, h⟩ := joinE h
 refine f_cutm 3 (fun a w' => ∃ x12 : Int, ∃ x13 : Bool, j5 x12 x13 = some r ∧ Sx w [b_p_s] nov [.own v1 48 3 x1.length (x1.flatMap GHeld.enc), .blk b_p_s [v_p_s_L, .int .i64 x12] 25] [(0, .pointer (some ⟨b_p_s, 0, none⟩)), (5, v1), (46, .bool x13)] 74 a w') ?_ ?_
 ·rcases Bool.eq_false_or_eq_true (decide (0 < (x1.length : Int))) with hb3 | hb3
  ·replace h := iteT h hb3
   refine l_want S rfl rfl rfl hb3 ?_
   refine lv S (rn_move (S.tm rfl)) rfl ?_; clear S; intro a S
   refine l_want S rfl rfl rfl hb3 ?_
   obtain ⟨r3, hr4, h⟩ := bindE h
   refine l_enter1 1 S (b := b_p_s) rfl rfl (fun _ => .blk b_p_s [v_p_s_L, .int .i64 r3.2] 25) (fun _ => run_call (vs := [.pointer (some ⟨b_p_s, 0, none⟩), .int .i64 12]) ⟨(S.tm rfl), rfl, trivial⟩ Tryd.call15) (Stream_Flip_ok _ b_p_s v_p_s_L p_s_L (hs_p_s_L.mono (S.le_arg (fp_sub (i := 1) (e := .blk b_p_s [v_p_s_L, .int .i64 x2] 25) rfl))) x2 (S.holds _ (List.mem_of_getElem? (i := 1) rfl)) 12 _ hr4) rfl (fun _ _ _ h => ⟨h.1, fun _ hc => by cases hc; rfl⟩) ?_; clear S; intro v8 a w15 hv3 hk8 hn3 S
   replace hv3 := hv3.2
   subst hv3
   refine lv S (rn_pick_b hb3 (S.tm rfl) (S.tm rfl)) rfl ?_; clear S; intro a S
   refine l_done ?_
   refine then_n ?_
   exact ⟨r3.2, r3.1, h, S.nf [true, true] rfl ⟨rfl, rfl, rfl, trivial⟩⟩
  ·replace h := iteF h hb3
   refine l_skip S rfl rfl rfl (neq_f hb3) rfl ?_ rfl; clear S; intro a S
   refine l_skip S rfl rfl rfl (neq_f hb3) rfl ?_ rfl; clear S; intro a S
   refine lv S (rn_pick_c hb3 (S.tm rfl) rfl) rfl ?_; clear S; intro a S
   refine l_done ?_
   refine then_n ?_
   exact ⟨x2, false, h, S.nf [true, true] rfl ⟨rfl, rfl, rfl, trivial⟩⟩
 clear S h; rintro a w14 ⟨x12, x13, h, S⟩; rw [hj5] at h; clear hj5 j5
 refine l_done ?_
 replace S := S.nk [.own v1 48 3 x1.length (x1.flatMap GHeld.enc), .blk b_p_s [v_p_s_L, .int .i64 x12] 25] [(0, .pointer (some ⟨b_p_s, 0, none⟩)), (5, v1), (46, .bool x13)] [true, true] rfl ⟨rfl, rfl, rfl, trivial⟩
 refine then_n ?_
 obtain ⟨j6, hj6, h⟩ := joinE h
 refine f_join (fun a w' => ∃ x14 : List GHeld, ∃ x15 : Int, ∃ v9 : Value, j6 x14 x15 = some r ∧ Sx w [b_p_s] nov [.own v9 48 3 x14.length (x14.flatMap GHeld.enc), .blk b_p_s [v_p_s_L, .int .i64 x15] 25] [(5, v9)] 74 a w') ?_ ?_
 ·refine f_cond (S.tm rfl) (fun hb4 => ?_) (fun hb4 => ?_)
  ·replace h := iteT h hb4
   refine f_seq ?_
   refine f_region ?_
   refine lv S (rn_move (S.tm rfl)) rfl ?_; clear S; intro a S
   refine lv S (rn_move (S.tm rfl)) rfl ?_; clear S; intro a S
   refine lv S (rn_move (S.tm rfl)) rfl ?_; clear S; intro a S
   refine lv S (rn_lenT sl_34 (S.tm rfl) (own_len (S.own_at (i := 0) rfl))) rfl ?_; clear S; intro a S
   obtain ⟨r4, hr5, h⟩ := bindE h
   refine l_enter1 1 S (b := b_p_s) rfl rfl (fun _ => .blk b_p_s [v_p_s_L, .int .i64 r4.2] 25) (fun _ => run_call (vs := [.pointer (some ⟨b_p_s, 0, none⟩), .int .i64 (x1.length : Int)]) ⟨(S.tm rfl), (S.tm rfl), trivial⟩ Tryd.call17) (Stream_Next_ok _ b_p_s v_p_s_L p_s_L (hs_p_s_L.mono (S.le_arg (fp_sub (i := 1) (e := .blk b_p_s [v_p_s_L, .int .i64 x12] 25) rfl))) x12 (S.holds _ (List.mem_of_getElem? (i := 1) rfl)) (x1.length : Int) _ hr5) rfl (fun _ _ _ h => ⟨h.1, fun _ hc => by cases hc; rfl⟩) ?_; clear S; intro v10 a w17 hv4 hk9 hn4 S
   replace hv4 := hv4.2
   subst hv4
   obtain ⟨hc2, h⟩ := chkE h
   obtain ⟨b5, hg1, hr6⟩ := rn_indexS (a := a) (x := .tmp 47) (y := .tmp 51) (ty := 0) sl_34 GHeld.enc_ok S (i := 0) rfl (inB_get hc2).1 (inB_get hc2).2 (S.tm rfl) (S.tm rfl)
   refine lv S (hr6 _) rfl ?_; clear S; intro a S
   clear hr6
   refine lv S (rn_assign (S.tm rfl)) rfl ?_; clear S; intro a S
   refine l_done ?_
   replace S := S.nk [.own v1 48 3 x1.length (x1.flatMap GHeld.enc), .blk b_p_s [v_p_s_L, .int .i64 r4.2] 25] [(0, .pointer (some ⟨b_p_s, 0, none⟩)), (5, v1), (10, .pointer (some ⟨b5, r4.1.toNat * 3, none⟩))] [true, true] rfl ⟨rfl, rfl, rfl, trivial⟩
   refine then_n ?_
   refine f_region ?_
   refine lv S (rn_move (S.tm rfl)) rfl ?_; clear S; intro a S
   refine lv S (rn_move (S.tm rfl)) rfl ?_; clear S; intro a S
   refine lv S (rn_move (S.tm rfl)) rfl ?_; clear S; intro a S
   refine lv S (rn_move (S.tm rfl)) rfl ?_; clear S; intro a S
   refine lv S (rn_move (S.tm rfl)) rfl ?_; clear S; intro a S
   refine lv S (rn_nilCheck (S.tm rfl)) rfl ?_; clear S; intro a S
   refine lv S (rn_fld fa_48_0 (S.tm rfl)) rfl ?_; clear S; intro a S
   refine lv S (rn_ld Tryd.isAgg9 (off := r4.1.toNat * 3) (o := 0) (S.tm rfl) (own_cells GHeld.enc_ok S (i := 0) rfl hg1 (inB_get hc2).1) rfl) rfl ?_; clear S; intro a S
   refine l_buildSlice S Tryd.underlying51 Tryd.sizeOf9 Tryd.zeroValue9 rfl rfl (pv := [(0, .string ((nth x1 r4.1).Item)), (1, .string k_zz)]) ⟨rfl, (S.tm rfl), rfl, rfl, trivial⟩ (cs := [.string ((nth x1 r4.1).Item), .string k_zz]) (by kernel_rfl) rfl ?_; clear S; intro a w18 b6 hz4 hk10 S
   obtain ⟨r5, hr7, h⟩ := bindE h
   refine l_enter1 2 S (b := b_p_s) rfl rfl (fun _ => .blk b_p_s [v_p_s_L, .int .i64 r5.2] 25) (fun _ => run_call (vs := [.pointer (some ⟨b_p_s, 0, none⟩), .slice (some ⟨b6, 0, none⟩) 2 2]) ⟨(S.tm rfl), (S.tm rfl), trivial⟩ Tryd.call21) (Stream_Some_ok _ b_p_s v_p_s_L p_s_L (hs_p_s_L.mono (S.le_arg (fp_sub (i := 2) (e := .blk b_p_s [v_p_s_L, .int .i64 r4.2] 25) rfl))) r4.2 (S.holds _ (List.mem_of_getElem? (i := 2) rfl)) (.slice (some ⟨b6, 0, none⟩) 2 2) [(nth x1 r4.1).Item, k_zz] (lit_slcT enc_str S (i := 0) rfl rfl rfl rfl ((ne_fp (i := 2) (j := 0) (e := .blk b_p_s [v_p_s_L, .int .i64 r4.2] 25) (e' := .blk b6 [.string ((nth x1 r4.1).Item), .string k_zz] 9) S rfl rfl rfl) _ rfl)) _ hr7) rfl (fun _ _ _ h => ⟨h.1, fun _ hc => by cases hc; rfl⟩) ?_; clear S; intro v11 a w19 hv5 hk11 hn5 S
   replace hv5 := hv5.2
   subst hv5
   refine lv S (rn_move (S.tm rfl)) rfl ?_; clear S; intro a S
   obtain ⟨r6, hr8, h⟩ := bindE h
   refine l_enter1 2 S (b := b_p_s) rfl rfl (fun _ => .blk b_p_s [v_p_s_L, .int .i64 r6.2] 25) (fun _ => run_call (vs := [.pointer (some ⟨b_p_s, 0, none⟩), .int .i64 1, .int .i64 3]) ⟨(S.tm rfl), rfl, rfl, trivial⟩ Tryd.call22) (Stream_Odd_ok _ b_p_s v_p_s_L p_s_L (hs_p_s_L.mono (S.le_arg (fp_sub (i := 2) (e := .blk b_p_s [v_p_s_L, .int .i64 r5.2] 25) rfl))) r5.2 (S.holds _ (List.mem_of_getElem? (i := 2) rfl)) 1 3 _ hr8) rfl (fun _ _ _ h => ⟨h.1, fun _ hc => by cases hc; rfl⟩) ?_; clear S; intro v12 a w20 hv6 hk12 hn6 S
   replace hv6 := hv6.2
   subst hv6
   refine lv S (rn_move (S.tm rfl)) rfl ?_; clear S; intro a S
   obtain ⟨r7, hr9, h⟩ := bindE h
   refine l_enter1 2 S (b := b_p_s) rfl rfl (fun _ => .blk b_p_s [v_p_s_L, .int .i64 r7.2] 25) (fun _ => run_call (vs := [.pointer (some ⟨b_p_s, 0, none⟩), .int .i64 0, .int .i64 500]) ⟨(S.tm rfl), rfl, rfl, trivial⟩ Tryd.call22) (Stream_Odd_ok _ b_p_s v_p_s_L p_s_L (hs_p_s_L.mono (S.le_arg (fp_sub (i := 2) (e := .blk b_p_s [v_p_s_L, .int .i64 r6.2] 25) rfl))) r6.2 (S.holds _ (List.mem_of_getElem? (i := 2) rfl)) 0 500 _ hr9) rfl (fun _ _ _ h => ⟨h.1, fun _ hc => by cases hc; rfl⟩) ?_; clear S; intro v13 a w21 hv7 hk13 hn7 S
   replace hv7 := hv7.2
   subst hv7
   refine lv S (rn_nilCheck (S.tm rfl)) rfl ?_; clear S; intro a S
   refine lv S (rn_fld fa_48_0 (S.tm rfl)) rfl ?_; clear S; intro a S
   refine l_storeO (c := 0) (j := r4.1.toNat) (GHeld.mk r5.1 ((nth x1 r4.1).Heat) ((nth x1 r4.1).At)) GHeld.enc_ok S (S.tm rfl) (S.tm rfl) (i := 1) rfl hg1 (inB_get hc2).1 Tryd.sizeOf9 (vs := [.string r5.1]) rfl rfl rfl rfl rfl ?_; clear S; intro w23 hk15 S
   refine lv S (rn_nilCheck (S.tm rfl)) rfl ?_; clear S; intro a S
   refine lv S (rn_fld fa_48_1 (S.tm rfl)) rfl ?_; clear S; intro a S
   refine l_storeO (c := 1) (j := r4.1.toNat) (GHeld.mk r5.1 r6.1 ((nth x1 r4.1).At)) GHeld.enc_ok S (S.tm rfl) (S.tm rfl) (i := 1) rfl hg1 (get_set (inB_get hc2).1) Tryd.sizeOf3 (vs := [.int .i64 r6.1]) rfl rfl rfl rfl rfl ?_; clear S; intro w25 hk17 S
   refine lv S (rn_nilCheck (S.tm rfl)) rfl ?_; clear S; intro a S
   refine lv S (rn_fld fa_48_2 (S.tm rfl)) rfl ?_; clear S; intro a S
   refine l_storeO (c := 2) (j := r4.1.toNat) (GHeld.mk r5.1 r6.1 r7.1) GHeld.enc_ok S (S.tm rfl) (S.tm rfl) (i := 1) rfl hg1 (get_set (get_set (inB_get hc2).1)) Tryd.sizeOf3 (vs := [.int .i64 r7.1]) rfl rfl rfl rfl rfl ?_; clear S; intro w27 hk19 S
   refine l_done ?_
   replace S := S.nk [.own v1 48 3 (((x1.set r4.1.toNat (GHeld.mk r5.1 ((nth x1 r4.1).Heat) ((nth x1 r4.1).At))).set r4.1.toNat (GHeld.mk r5.1 r6.1 ((nth x1 r4.1).At))).set r4.1.toNat (GHeld.mk r5.1 r6.1 r7.1)).length ((((x1.set r4.1.toNat (GHeld.mk r5.1 ((nth x1 r4.1).Heat) ((nth x1 r4.1).At))).set r4.1.toNat (GHeld.mk r5.1 r6.1 ((nth x1 r4.1).At))).set r4.1.toNat (GHeld.mk r5.1 r6.1 r7.1)).flatMap GHeld.enc), .blk b_p_s [v_p_s_L, .int .i64 r7.2] 25] [(5, v1)] [false, true, true] rfl ⟨rfl, trivial⟩
   refine then_n ?_
   exact ⟨(((x1.set r4.1.toNat (GHeld.mk r5.1 ((nth x1 r4.1).Heat) ((nth x1 r4.1).At))).set r4.1.toNat (GHeld.mk r5.1 r6.1 ((nth x1 r4.1).At))).set r4.1.toNat (GHeld.mk r5.1 r6.1 r7.1)), r7.2, v1, h, S.nf [true, true] rfl ⟨rfl, trivial⟩⟩
  ·replace h := iteF h hb4
   refine wp_skip ?_
   refine then_n ?_
   exact ⟨x1, x12, v1, h, S.nf [true, true] rfl ⟨rfl, trivial⟩⟩
 clear S h; rintro a w16 ⟨x14, x15, v9, h, S⟩; rw [hj6] at h; clear hj6 j6
 refine then_n ?_
 refine f_seq ?_
 refine f_region ?_
 refine lv S (rn_move (S.tm rfl)) rfl ?_; clear S; intro a S
 refine lv S (rn_assign (S.tm rfl)) rfl ?_; clear S; intro a S
 refine l_done ?_
 replace S := S.nk [.own v9 48 3 x14.length (x14.flatMap GHeld.enc), .blk b_p_s [v_p_s_L, .int .i64 x15] 25] [(4, v9)] [true, true] rfl ⟨rfl, trivial⟩
 refine then_n ?_
 refine wp_ret ?_
 obtain rfl := Option.some.inj h
 exact f_ret S Tryd.results8 rfl ⟨(S.holds _ (List.mem_of_getElem? (i := 1) rfl)), (own_retX S (i := 0) rfl (fun c hc hh => not_fps S (i := 1) rfl rfl (j := 0) rfl rfl (by simp at hc; subst hc; exact hh)))⟩
theorem tumbkeep2_errs_ok (w : World) (v_p_l : Value) (p_l : List Int) (hs_p_l : Slc (view w []) 1 v_p_l (p_l.map eInt)) (r : Int) (h : tumbkeep2_errs p_l = r) :
    Calls Tryd.prog 9 [v_p_l].toArray w (Ret w [] fun _ v _ => v = .int .i64 r) := by
 refine f_enter [] [] Tryd.func9 rfl Tryd.ntmps9 rfl (by simp) (by simp [fps]) (by simp [fps]) fun a S => ?_
 unfold tumbkeep2_errs at h
 replace S := S.nk [] [(0, v_p_l)] [] rfl ⟨rfl, trivial⟩
 refine f_seq ?_
 refine f_region ?_
 refine lv S (rn_assign rfl) rfl ?_; clear S; intro a S
 refine l_done ?_
 replace S := S.nk [] [(0, v_p_l)] [] rfl ⟨rfl, trivial⟩
 refine then_n ?_
 refine f_seq ?_
 refine f_seq ?_
 refine f_region ?_
 refine lv S (rn_move (S.tm rfl)) rfl ?_; clear S; intro a S
 refine lv S (rn_lenT sl_60 (S.tm rfl) (slc_len hs_p_l)) rfl ?_; clear S; intro a S
 refine lv S (rn_move rfl) rfl ?_; clear S; intro a S
 refine l_done ?_
 replace S := S.nk [] [(5, v_p_l), (6, .int .i64 (p_l.length : Int)), (7, .int .i64 0)] [] rfl ⟨rfl, rfl, rfl, trivial⟩
 refine then_n ?_
 obtain ⟨j1, hj1, h⟩ := joinE h
 refine f_join (fun a w' => j1 = r ∧ Sx w [] nov [] [] 15 a w') ?_ ?_
 ·refine wp_block ?_
  refine f_loop (fun (ys1 : List Int) a w' => ∃ i1 : Nat, (∃ dn, p_l = dn ++ ys1 ∧ dn.length = i1) ∧ tumbkeep2_errs_l1 j1 ys1 i1 = r ∧ Sx w [] nov [] [(5, v_p_l), (6, .int .i64 (p_l.length : Int)), (7, .int .i64 (i1 : Int))] 15 a w') List.length p_l ⟨0, ⟨[], rfl, rfl⟩, h, S.nf [] rfl ⟨rfl, rfl, rfl, trivial⟩⟩ ?_
  clear S h; rintro ys1 a w1 ⟨i1, ⟨dn, hd1, hi1⟩, h, S⟩
  cases ys1 with
  | nil =>
   rw [tumbkeep2_errs_l1.eq_1] at h
   refine f_seq ?_
   refine f_region ?_
   refine lv S (rn_lss (S.tm rfl) (S.tm rfl)) rfl ?_; clear S; intro a S
   refine l_done ?_
   replace S := S.nk [] [(5, v_p_l), (6, .int .i64 (p_l.length : Int)), (7, .int .i64 (i1 : Int)), (8, .bool (decide ((i1 : Int) < (p_l.length : Int))))] [] rfl ⟨rfl, rfl, rfl, rfl, trivial⟩
   refine then_n ?_
   refine f_seq ?_
   refine wp_cond_false ((S.tm rfl).trans (congrArg Value.bool (rng_nil hd1 hi1))) ?_
   refine wp_exit ?_
   refine then_x ?_
   refine then_x ?_
   refine x_same ?_
   refine then_n ?_
   exact ⟨h, S.nf [] rfl trivial⟩
  | cons y1 ys1 =>
   rw [tumbkeep2_errs_l1.eq_2] at h
   refine f_seq ?_
   refine f_region ?_
   refine lv S (rn_lss (S.tm rfl) (S.tm rfl)) rfl ?_; clear S; intro a S
   refine l_done ?_
   replace S := S.nk [] [(5, v_p_l), (6, .int .i64 (p_l.length : Int)), (7, .int .i64 (i1 : Int)), (8, .bool (decide ((i1 : Int) < (p_l.length : Int))))] [] rfl ⟨rfl, rfl, rfl, rfl, trivial⟩
   refine then_n ?_
   refine f_seq ?_
   refine wp_cond_true ((S.tm rfl).trans (congrArg Value.bool (rng_cons hd1 hi1))) ?_
   refine wp_skip ?_
   refine then_n ?_
   refine f_seq ?_
   refine wp_block ?_
   refine f_seq ?_
   refine f_region ?_
   obtain ⟨b1, o1, hm1, hr1⟩ := rn_indexT (a := a) (x := .tmp 5) (y := .tmp 7) (ty := 0) sl_60 hs_p_l (get_mid hd1 hi1) rfl (S.tm rfl) (S.tm rfl)
   refine lv S (hr1 _) rfl ?_; clear S; intro a S
   clear hr1
   refine lv S (rn_ld Tryd.isAgg30 (off := o1) (o := 0) (S.tm rfl) (hm1.at S.emb0) rfl) rfl ?_; clear S; intro a S
   refine lv S (rn_assign (S.tm rfl)) rfl ?_; clear S; intro a S
   refine l_done ?_
   replace S := S.nk [] [(4, .int .i64 y1), (5, v_p_l), (6, .int .i64 (p_l.length : Int)), (7, .int .i64 (i1 : Int))] [] rfl ⟨rfl, rfl, rfl, rfl, trivial⟩
   refine then_n ?_
   refine f_seq ?_
   refine f_region ?_
   refine lv S (rn_move (S.tm rfl)) rfl ?_; clear S; intro a S
   refine lv S (rn_neq (S.tm rfl) rfl) rfl ?_; clear S; intro a S
   refine l_done ?_
   replace S := S.nk [] [(4, .int .i64 y1), (5, v_p_l), (6, .int .i64 (p_l.length : Int)), (7, .int .i64 (i1 : Int)), (12, .bool (!decide (y1 = 0)))] [] rfl ⟨rfl, rfl, rfl, rfl, rfl, trivial⟩
   refine then_n ?_
   refine f_cond (S.tm rfl) (fun hb1 => ?_) (fun hb1 => ?_)
   ·replace h := iteT h hb1
    refine f_seq ?_
    refine f_region ?_
    refine lv S (rn_move (S.tm rfl)) rfl ?_; clear S; intro a S
    refine lv S (rn_assign (S.tm rfl)) rfl ?_; clear S; intro a S
    refine l_done ?_
    replace S := S.nk [] [(2, .int .i64 y1)] [] rfl ⟨rfl, trivial⟩
    refine then_n ?_
    refine wp_ret ?_
    refine blk_r ?_
    refine then_r ?_
    refine then_r ?_
    refine blk_r ?_
    refine then_r ?_
    refine then_r ?_
    subst h
    exact f_ret S Tryd.results9 rfl rfl
   ·replace h := iteF h hb1
    refine wp_skip ?_
    refine blk_n ?_
    refine then_n ?_
    refine f_region ?_
    refine lv S (rn_add (S.tm rfl) rfl) rfl ?_; clear S; intro a S
    refine lv S (rn_move (S.tm rfl)) rfl ?_; clear S; intro a S
    refine l_done ?_
    replace S := S.nk [] [(5, v_p_l), (6, .int .i64 (p_l.length : Int)), (7, .int .i64 (W ((i1 : Int) + 1)))] [] rfl ⟨rfl, rfl, rfl, trivial⟩
    refine then_n ?_
    exact ⟨ys1, ⟨i1 + 1, ⟨_, (hd1).trans (List.append_cons _ _ _), by simp [hi1]⟩, h, S.nf [] rfl ⟨rfl, rfl, (congrArg (fun z => some (Value.int .i64 z)) (rng_next hd1 hi1 (slc_max hs_p_l))), trivial⟩⟩, Nat.lt_succ_self _⟩
 clear S h; rintro a w2 ⟨h, S⟩; rw [hj1] at h; clear hj1 j1
 refine then_n ?_
 refine f_seq ?_
 refine f_region ?_
 refine lv S (rn_assign rfl) rfl ?_; clear S; intro a S
 refine l_done ?_
 replace S := S.nk [] [(2, .int .i64 0)] [] rfl ⟨rfl, trivial⟩
 refine then_n ?_
 refine wp_ret ?_
 subst h
 exact f_ret S Tryd.results9 rfl rfl
set_option maxRecDepth 20000 in
theorem slices_Equal_Slot_ok (w : World) (v_p_s1 : Value) (p_s1 : List GSlot) (hs_p_s1 : Slc (view w []) 4 v_p_s1 (p_s1.map GSlot.enc)) (v_p_s2 : Value) (p_s2 : List GSlot) (hs_p_s2 : Slc (view w []) 4 v_p_s2 (p_s2.map GSlot.enc)) (r : Bool) (h : slices_Equal_Slot p_s1 p_s2 = some r) :
    Calls Tryd.prog 10 [v_p_s1, v_p_s2].toArray w (Ret w [] fun _ v _ => v = .bool r) := by
 refine f_enter [] [] Tryd.func10 rfl Tryd.ntmps10 rfl (by simp) (by simp [fps]) (by simp [fps]) fun a S => ?_
 unfold slices_Equal_Slot at h
 replace S := S.nk [] [(0, v_p_s1), (1, v_p_s2)] [] rfl ⟨rfl, rfl, trivial⟩
 refine f_seq ?_
 refine f_region ?_
 refine lv S (rn_assign rfl) rfl ?_; clear S; intro a S
 refine l_done ?_
 replace S := S.nk [] [(0, v_p_s1), (1, v_p_s2)] [] rfl ⟨rfl, rfl, trivial⟩
 refine then_n ?_
 refine f_seq ?_
 refine f_seq ?_
 refine f_region ?_
 refine lv S (rn_move (S.tm rfl)) rfl ?_; clear S; intro a S
 refine lv S (rn_lenT sl_29 (S.tm rfl) (slc_len hs_p_s1)) rfl ?_; clear S; intro a S
 refine lv S (rn_move (S.tm rfl)) rfl ?_; clear S; intro a S
 refine lv S (rn_lenT sl_29 (S.tm rfl) (slc_len hs_p_s2)) rfl ?_; clear S; intro a S
 refine lv S (rn_neq (S.tm rfl) (S.tm rfl)) rfl ?_; clear S; intro a S
 refine l_done ?_
 replace S := S.nk [] [(0, v_p_s1), (1, v_p_s2), (10, .bool (!decide ((p_s1.length : Int) = (p_s2.length : Int))))] [] rfl ⟨rfl, rfl, rfl, trivial⟩
 refine then_n ?_
 refine f_cond (S.tm rfl) (fun hb1 => ?_) (fun hb1 => ?_)
 ·replace h := iteT h hb1
  refine f_seq ?_
  refine f_region ?_
  refine lv S (rn_assign rfl) rfl ?_; clear S; intro a S
  refine l_done ?_
  replace S := S.nk [] [(4, .bool false)] [] rfl ⟨rfl, trivial⟩
  refine then_n ?_
  refine wp_ret ?_
  refine then_r ?_
  obtain rfl := Option.some.inj h
  exact f_ret S Tryd.results10 rfl rfl
 ·replace h := iteF h hb1
  refine wp_skip ?_
  refine then_n ?_
  refine f_seq ?_
  refine f_seq ?_
  refine f_region ?_
  refine lv S (rn_move (S.tm rfl)) rfl ?_; clear S; intro a S
  refine lv S (rn_lenT sl_29 (S.tm rfl) (slc_len hs_p_s1)) rfl ?_; clear S; intro a S
  refine lv S (rn_move rfl) rfl ?_; clear S; intro a S
  refine l_done ?_
  replace S := S.nk [] [(0, v_p_s1), (1, v_p_s2), (12, .int .i64 (p_s1.length : Int)), (13, .int .i64 0)] [] rfl ⟨rfl, rfl, rfl, rfl, trivial⟩
  refine then_n ?_
  obtain ⟨j1, hj1, h⟩ := joinE h
  refine f_join (fun a w' => j1 = some r ∧ Sx w [] nov [] [] 26 a w') ?_ ?_
  ·refine wp_block ?_
   refine f_loop (fun (ys1 : List GSlot) a w' => ∃ i1 : Nat, (∃ dn, p_s1 = dn ++ ys1 ∧ dn.length = i1) ∧ slices_Equal_Slot_l1 p_s2 j1 ys1 i1 = some r ∧ Sx w [] nov [] [(0, v_p_s1), (1, v_p_s2), (12, .int .i64 (p_s1.length : Int)), (13, .int .i64 (i1 : Int))] 26 a w') List.length p_s1 ⟨0, ⟨[], rfl, rfl⟩, h, S.nf [] rfl ⟨rfl, rfl, rfl, rfl, trivial⟩⟩ ?_
   clear S h; rintro ys1 a w1 ⟨i1, ⟨dn, hd1, hi1⟩, h, S⟩
   cases ys1 with
   | nil =>
    rw [slices_Equal_Slot_l1.eq_1] at h
    refine f_seq ?_
    refine f_region ?_
    refine lv S (rn_lss (S.tm rfl) (S.tm rfl)) rfl ?_; clear S; intro a S
    refine l_done ?_
    replace S := S.nk [] [(0, v_p_s1), (1, v_p_s2), (12, .int .i64 (p_s1.length : Int)), (13, .int .i64 (i1 : Int)), (14, .bool (decide ((i1 : Int) < (p_s1.length : Int))))] [] rfl ⟨rfl, rfl, rfl, rfl, rfl, trivial⟩
    refine then_n ?_
    refine f_seq ?_
    refine wp_cond_false ((S.tm rfl).trans (congrArg Value.bool (rng_nil hd1 hi1))) ?_
    refine wp_exit ?_
    refine then_x ?_
    refine then_x ?_
    refine x_same ?_
    refine then_n ?_
    exact ⟨h, S.nf [] rfl trivial⟩
   | cons y1 ys1 =>
    rw [slices_Equal_Slot_l1.eq_2] at h
    refine f_seq ?_
    refine f_region ?_
    refine lv S (rn_lss (S.tm rfl) (S.tm rfl)) rfl ?_; clear S; intro a S
    refine l_done ?_
    replace S := S.nk [] [(0, v_p_s1), (1, v_p_s2), (12, .int .i64 (p_s1.length : Int)), (13, .int .i64 (i1 : Int)), (14, .bool (decide ((i1 : Int) < (p_s1.length : Int))))] [] rfl ⟨rfl, rfl, rfl, rfl, rfl, trivial⟩
    refine then_n ?_
    refine f_seq ?_
    refine wp_cond_true ((S.tm rfl).trans (congrArg Value.bool (rng_cons hd1 hi1))) ?_
    refine wp_skip ?_
    refine then_n ?_
    refine f_seq ?_
    refine wp_block ?_
    refine f_seq ?_
    refine f_region ?_
    refine lv S (rn_move (S.tm rfl)) rfl ?_; clear S; intro a S
    refine lv S (rn_assign (S.tm rfl)) rfl ?_; clear S; intro a S
    refine l_done ?_
    replace S := S.nk [] [(0, v_p_s1), (1, v_p_s2), (5, .int .i64 (i1 : Int)), (12, .int .i64 (p_s1.length : Int)), (13, .int .i64 (i1 : Int))] [] rfl ⟨rfl, rfl, rfl, rfl, rfl, trivial⟩
    refine then_n ?_
    refine f_seq ?_
    refine d_region [] ([]) Tryd.mixed S rfl (by kernel_rfl) ?_; clear S; intro w3 hk1 hsel S
    refine d_rest [0, 1, 2, 3, 4, 5, 6, 7, 8] hsel (by kernel_rfl) rfl ?_
    clear hsel
    refine s_lv S rfl (rn_move (S.tm rfl)) rfl ?_; clear S; intro a S
    refine s_lv S rfl (rn_move (S.tm rfl)) rfl ?_; clear S; intro a S
    obtain ⟨b1, o1, hm1, hr1⟩ := rn_indexT (a := a) (x := .tmp 16) (y := .tmp 17) (ty := 0) sl_29 hs_p_s1 (get_mid hd1 hi1) rfl (S.tm rfl) (S.tm rfl)
    refine s_lv S rfl (hr1 _) rfl ?_; clear S; intro a S
    clear hr1
    refine s_lv S rfl (rn_ldA Tryd.isAgg43 Tryd.sizeOf43 (off := o1) (o := 0) (part := [.string y1.Item, .int .i64 y1.Heat, .int .i64 y1.Time.From, .int .i64 y1.Time.To]) rfl rfl (S.tm rfl) (hm1.at S.emb0)) rfl ?_; clear S; intro a S
    refine s_lv S rfl (rn_move (S.tm rfl)) rfl ?_; clear S; intro a S
    refine s_lv S rfl (rn_move (S.tm rfl)) rfl ?_; clear S; intro a S
    obtain ⟨hc1, h⟩ := chkE h
    obtain ⟨b2, o2, hm2, hr2⟩ := rn_indexT (a := a) (x := .tmp 20) (y := .tmp 21) (ty := 0) sl_29 hs_p_s2 (inB_get hc1).1 (inB_get hc1).2 (S.tm rfl) (S.tm rfl)
    refine s_lv S rfl (hr2 _) rfl ?_; clear S; intro a S
    clear hr2
    refine s_lv S rfl (rn_ldA Tryd.isAgg43 Tryd.sizeOf43 (off := o2) (o := 0) (part := [.string ((nth p_s2 (i1 : Int)).Item), .int .i64 ((nth p_s2 (i1 : Int)).Heat), .int .i64 (((nth p_s2 (i1 : Int)).Time).From), .int .i64 (((nth p_s2 (i1 : Int)).Time).To)]) rfl rfl (S.tm rfl) (hm2.at S.emb0)) rfl ?_; clear S; intro a S
    refine s_lv S rfl (rn_neq_43 (m := y1) (n := (GSlot.mk ((nth p_s2 (i1 : Int)).Item) ((nth p_s2 (i1 : Int)).Heat) ((nth p_s2 (i1 : Int)).Time))) (S.tm rfl) (S.tm rfl)) rfl ?_; clear S; intro a S
    refine s_done ?_
    replace S := S.nk [] [(0, v_p_s1), (1, v_p_s2), (12, .int .i64 (p_s1.length : Int)), (13, .int .i64 (i1 : Int)), (24, .bool (!decide (y1 = (GSlot.mk ((nth p_s2 (i1 : Int)).Item) ((nth p_s2 (i1 : Int)).Heat) ((nth p_s2 (i1 : Int)).Time)))))] [] rfl ⟨rfl, rfl, rfl, rfl, rfl, trivial⟩
    refine then_n ?_
    refine f_cond (S.tm rfl) (fun hb2 => ?_) (fun hb2 => ?_)
    ·replace h := iteT h hb2
     refine f_seq ?_
     refine f_region ?_
     refine lv S (rn_assign rfl) rfl ?_; clear S; intro a S
     refine l_done ?_
     replace S := S.nk [] [(4, .bool false)] [] rfl ⟨rfl, trivial⟩
     refine then_n ?_
     refine wp_ret ?_
     refine blk_r ?_
     refine then_r ?_
     refine then_r ?_
     refine blk_r ?_
     refine then_r ?_
     refine then_r ?_
     obtain rfl := Option.some.inj h
     exact f_ret S Tryd.results10 rfl rfl
    ·replace h := iteF h hb2
     refine wp_skip ?_
     refine blk_n ?_
     refine then_n ?_
     refine f_region ?_
     refine lv S (rn_add (S.tm rfl) rfl) rfl ?_; clear S; intro a S
     refine lv S (rn_move (S.tm rfl)) rfl ?_; clear S; intro a S
     refine l_done ?_
     replace S := S.nk [] [(0, v_p_s1), (1, v_p_s2), (12, .int .i64 (p_s1.length : Int)), (13, .int .i64 (W ((i1 : Int) + 1)))] [] rfl ⟨rfl, rfl, rfl, rfl, trivial⟩
     refine then_n ?_
     exact ⟨ys1, ⟨i1 + 1, ⟨_, (hd1).trans (List.append_cons _ _ _), by simp [hi1]⟩, h, S.nf [] rfl ⟨rfl, rfl, rfl, (congrArg (fun z => some (Value.int .i64 z)) (rng_next hd1 hi1 (slc_max hs_p_s1))), trivial⟩⟩, Nat.lt_succ_self _⟩
  clear S h; rintro a w2 ⟨h, S⟩; rw [hj1] at h; clear hj1 j1
  refine then_n ?_
  refine f_seq ?_
  refine f_region ?_
  refine lv S (rn_assign rfl) rfl ?_; clear S; intro a S
  refine l_done ?_
  replace S := S.nk [] [(4, .bool true)] [] rfl ⟨rfl, trivial⟩
  refine then_n ?_
  refine wp_ret ?_
  obtain rfl := Option.some.inj h
  exact f_ret S Tryd.results10 rfl rfl
theorem tumbref2_in_ok (w : World) (p_n : Int) (p_low : Int) (p_high : Int) (r : Bool) (h : tumbref2_in p_n p_low p_high = r) :
    Calls Tryd.prog 26 [.int .i64 p_n, .int .i64 p_low, .int .i64 p_high].toArray w (Ret w [] fun _ v _ => v = .bool r) := by
 refine f_enter [] [] Tryd.func26 rfl Tryd.ntmps26 rfl (by simp) (by simp [fps]) (by simp [fps]) fun a S => ?_
 unfold tumbref2_in at h
 replace S := S.nk [] [(0, .int .i64 p_n), (1, .int .i64 p_low), (2, .int .i64 p_high)] [] rfl ⟨rfl, rfl, rfl, trivial⟩
 refine f_seq ?_
 refine f_region ?_
 refine lv S (rn_assign rfl) rfl ?_; clear S; intro a S
 refine l_done ?_
 replace S := S.nk [] [(0, .int .i64 p_n), (1, .int .i64 p_low), (2, .int .i64 p_high)] [] rfl ⟨rfl, rfl, rfl, trivial⟩
 refine then_n ?_
 refine f_seq ?_
 refine f_region ?_
 refine lv S (rn_move (S.tm rfl)) rfl ?_; clear S; intro a S
 refine lv S (rn_move (S.tm rfl)) rfl ?_; clear S; intro a S
 refine lv S (rn_leq (S.tm rfl) (S.tm rfl)) rfl ?_; clear S; intro a S
 refine lv S (rn_move (S.tm rfl)) rfl ?_; clear S; intro a S
 refine f_cutm 4 (fun a w' => Keep [] w w' ∧ Sx w [] nov [] [(14, .bool ((decide (p_low ≤ p_n)) && (decide (p_n ≤ p_high))))] 15 a w') ?_ ?_
 ·rcases Bool.eq_false_or_eq_true (decide (p_low ≤ p_n)) with hb1 | hb1
  ·refine l_want S rfl rfl rfl hb1 ?_
   refine lv S (rn_move (S.tm rfl)) rfl ?_; clear S; intro a S
   refine l_want S rfl rfl rfl hb1 ?_
   refine lv S (rn_move (S.tm rfl)) rfl ?_; clear S; intro a S
   refine l_want S rfl rfl rfl hb1 ?_
   refine lv S (rn_leq (S.tm rfl) (S.tm rfl)) rfl ?_; clear S; intro a S
   refine lv S (rn_and_t hb1 (S.tm rfl) (S.tm rfl)) rfl ?_; clear S; intro a S
   refine l_done ?_
   refine then_n ?_
   exact ⟨Keep.refl _ _, S.nf [] rfl ⟨rfl, trivial⟩⟩
  ·refine l_skip S rfl rfl rfl (neq_f hb1) rfl ?_ rfl; clear S; intro a S
   refine l_skip S rfl rfl rfl (neq_f hb1) rfl ?_ rfl; clear S; intro a S
   refine l_skip S rfl rfl rfl (neq_f hb1) rfl ?_ rfl; clear S; intro a S
   refine lv S (rn_and_f (decide (p_n ≤ p_high)) hb1 (S.tm rfl) rfl) rfl ?_; clear S; intro a S
   refine l_done ?_
   refine then_n ?_
   exact ⟨Keep.refl _ _, S.nf [] rfl ⟨rfl, trivial⟩⟩
 clear S; rintro a w1 ⟨hk1, S⟩
 refine lv S (rn_assign (S.tm rfl)) rfl ?_; clear S; intro a S
 refine l_done ?_
 replace S := S.nk [] [(6, .bool ((decide (p_low ≤ p_n)) && (decide (p_n ≤ p_high))))] [] rfl ⟨rfl, trivial⟩
 refine then_n ?_
 refine wp_ret ?_
 subst h
 exact f_ret S Tryd.results26 rfl rfl
theorem strings_IndexByte_ok (w : World) (s : ByteArray) (c : Int) (r : Int) (h : strings_IndexByte s c = r) : Calls Tryd.prog 73 [.string s, .int .u8 c].toArray w (Ret w [] fun _ v _ => v = .int .i64 r) := by
  subst h
  exact ret_of_same (Any.strings_IndexByte Tryd.lays137 s c w)
theorem tumbref2_only_ok (w : World) (p_s : ByteArray) (p_some : ByteArray) (r : Bool) (h : tumbref2_only p_s p_some = some r) :
    Calls Tryd.prog 59 [.string p_s, .string p_some].toArray w (Ret w [] fun _ v _ => v = .bool r) := by
 refine f_enter [] [] Tryd.func59 rfl Tryd.ntmps59 rfl (by simp) (by simp [fps]) (by simp [fps]) fun a S => ?_
 unfold tumbref2_only at h
 replace S := S.nk [] [(0, .string p_s), (1, .string p_some)] [] rfl ⟨rfl, rfl, trivial⟩
 refine f_seq ?_
 refine f_region ?_
 refine lv S (rn_assign rfl) rfl ?_; clear S; intro a S
 refine l_done ?_
 replace S := S.nk [] [(0, .string p_s), (1, .string p_some)] [] rfl ⟨rfl, rfl, trivial⟩
 refine then_n ?_
 refine f_seq ?_
 refine f_seq ?_
 refine f_region ?_
 refine lv S (rn_move (S.tm rfl)) rfl ?_; clear S; intro a S
 refine lv S (rn_len_str Tryd.underlying9 (S.tm rfl)) rfl ?_; clear S; intro a S
 refine lv S (rn_move rfl) rfl ?_; clear S; intro a S
 refine l_done ?_
 replace S := S.nk [] [(0, .string p_s), (1, .string p_some), (7, .int .i64 (p_s.size : Int)), (8, .int .i64 0)] [] rfl ⟨rfl, rfl, rfl, rfl, trivial⟩
 refine then_n ?_
 obtain ⟨j1, hj1, h⟩ := joinE h
 refine f_join (fun a w' => j1 = some r ∧ Sx w [] nov [] [] 18 a w') ?_ ?_
 ·refine wp_block ?_
  refine f_loop (fun (m1 : Nat) a w' => ∃ x1 : Int, tumbref2_only_l1 p_s p_some j1 m1 x1 = some r ∧ Sx w [] nov [] [(0, .string p_s), (1, .string p_some), (7, .int .i64 (p_s.size : Int)), (8, .int .i64 x1)] 18 a w') id (((p_s.size : Int) - 0).toNat + 2) ⟨0, h, S.nf [] rfl ⟨rfl, rfl, rfl, rfl, trivial⟩⟩ ?_
  clear S h; rintro m1 a w1 ⟨x1, h, S⟩
  cases m1 with
  | zero => rw [tumbref2_only_l1.eq_1] at h; cases h
  | succ m1 =>
   rw [tumbref2_only_l1.eq_2] at h
   refine f_seq ?_
   refine f_region ?_
   refine lv S (rn_lss (S.tm rfl) (S.tm rfl)) rfl ?_; clear S; intro a S
   refine l_done ?_
   replace S := S.nk [] [(0, .string p_s), (1, .string p_some), (7, .int .i64 (p_s.size : Int)), (8, .int .i64 x1), (9, .bool (decide (x1 < (p_s.size : Int))))] [] rfl ⟨rfl, rfl, rfl, rfl, rfl, trivial⟩
   refine then_n ?_
   refine f_seq ?_
   refine f_cond (S.tm rfl) (fun hb1 => ?_) (fun hb1 => ?_)
   ·replace h := iteT h hb1
    refine wp_skip ?_
    refine then_n ?_
    refine f_seq ?_
    refine wp_block ?_
    refine f_seq ?_
    refine f_region ?_
    refine lv S (rn_move (S.tm rfl)) rfl ?_; clear S; intro a S
    refine lv S (rn_assign (S.tm rfl)) rfl ?_; clear S; intro a S
    refine l_done ?_
    replace S := S.nk [] [(0, .string p_s), (1, .string p_some), (5, .int .i64 x1), (7, .int .i64 (p_s.size : Int)), (8, .int .i64 x1)] [] rfl ⟨rfl, rfl, rfl, rfl, rfl, trivial⟩
    refine then_n ?_
    refine f_seq ?_
    refine f_region ?_
    refine lv S (rn_move (S.tm rfl)) rfl ?_; clear S; intro a S
    refine lv S (rn_move (S.tm rfl)) rfl ?_; clear S; intro a S
    refine lv S (rn_move (S.tm rfl)) rfl ?_; clear S; intro a S
    obtain ⟨hc1, h⟩ := chkE h
    refine lv S (rn_sindexT Tryd.underlying9 (S.tm rfl) (S.tm rfl) hc1) rfl ?_; clear S; intro a S
    refine l_enter S (fun _ => run_call (vs := [.string p_some, .int .u8 (sbyte p_s x1)]) ⟨(S.tm rfl), (S.tm rfl), trivial⟩ Tryd.call73) (strings_IndexByte_ok _ p_some (sbyte p_s x1) _ rfl) rfl ?_; clear S; intro v1 a w3 hv1 hk1 hn1 S
    subst hv1
    refine lv S (rn_lss (S.tm rfl) rfl) rfl ?_; clear S; intro a S
    refine l_done ?_
    replace S := S.nk [] [(0, .string p_s), (1, .string p_some), (7, .int .i64 (p_s.size : Int)), (8, .int .i64 x1), (16, .bool (decide ((strings_IndexByte p_some (sbyte p_s x1)) < 0)))] [] rfl ⟨rfl, rfl, rfl, rfl, rfl, trivial⟩
    refine then_n ?_
    refine f_cond (S.tm rfl) (fun hb2 => ?_) (fun hb2 => ?_)
    ·replace h := iteT h hb2
     refine f_seq ?_
     refine f_region ?_
     refine lv S (rn_assign rfl) rfl ?_; clear S; intro a S
     refine l_done ?_
     replace S := S.nk [] [(4, .bool false)] [] rfl ⟨rfl, trivial⟩
     refine then_n ?_
     refine wp_ret ?_
     refine blk_r ?_
     refine then_r ?_
     refine then_r ?_
     refine blk_r ?_
     refine then_r ?_
     refine then_r ?_
     obtain rfl := Option.some.inj h
     exact f_ret S Tryd.results59 rfl rfl
    ·replace h := iteF h hb2
     refine wp_skip ?_
     refine blk_n ?_
     refine then_n ?_
     refine f_region ?_
     refine lv S (rn_add (S.tm rfl) rfl) rfl ?_; clear S; intro a S
     refine lv S (rn_move (S.tm rfl)) rfl ?_; clear S; intro a S
     refine l_done ?_
     replace S := S.nk [] [(0, .string p_s), (1, .string p_some), (7, .int .i64 (p_s.size : Int)), (8, .int .i64 (W (x1 + 1)))] [] rfl ⟨rfl, rfl, rfl, rfl, trivial⟩
     refine then_n ?_
     exact ⟨m1, ⟨W (x1 + 1), h, S.nf [] rfl ⟨rfl, rfl, rfl, rfl, trivial⟩⟩, Nat.lt_succ_self _⟩
   ·replace h := iteF h hb1
    refine wp_exit ?_
    refine then_x ?_
    refine then_x ?_
    refine x_same ?_
    refine then_n ?_
    exact ⟨h, S.nf [] rfl trivial⟩
 clear S h; rintro a w2 ⟨h, S⟩; rw [hj1] at h; clear hj1 j1
 refine then_n ?_
 refine f_seq ?_
 refine f_region ?_
 refine lv S (rn_assign rfl) rfl ?_; clear S; intro a S
 refine l_done ?_
 replace S := S.nk [] [(4, .bool true)] [] rfl ⟨rfl, trivial⟩
 refine then_n ?_
 refine wp_ret ?_
 obtain rfl := Option.some.inj h
 exact f_ret S Tryd.results59 rfl rfl
theorem tumbref2_Key_ok (w : World) (p_s : ByteArray) (r : Bool) (h : tumbref2_Key p_s = some r) :
    Calls Tryd.prog 42 [.string p_s].toArray w (Ret w [] fun _ v _ => v = .bool r) := by
 refine f_enter [] [] Tryd.func42 rfl Tryd.ntmps42 rfl (by simp) (by simp [fps]) (by simp [fps]) fun a S => ?_
 unfold tumbref2_Key at h
 replace S := S.nk [] [(0, .string p_s)] [] rfl ⟨rfl, trivial⟩
 refine f_seq ?_
 refine f_region ?_
 refine lv S (rn_assign rfl) rfl ?_; clear S; intro a S
 refine l_done ?_
 replace S := S.nk [] [(0, .string p_s)] [] rfl ⟨rfl, trivial⟩
 refine then_n ?_
 refine f_seq ?_
 refine f_region ?_
 refine lv S (rn_move (S.tm rfl)) rfl ?_; clear S; intro a S
 refine lv S (rn_len_str Tryd.underlying9 (S.tm rfl)) rfl ?_; clear S; intro a S
 refine l_enter S (fun _ => run_call (vs := [.int .i64 (p_s.size : Int), .int .i64 1, .int .i64 40]) ⟨(S.tm rfl), rfl, rfl, trivial⟩ Tryd.call26) (tumbref2_in_ok _ (p_s.size : Int) 1 40 _ rfl) rfl ?_; clear S; intro v1 a w1 hv1 hk1 hn1 S
 subst hv1
 refine lv S (rn_move (S.tm rfl)) rfl ?_; clear S; intro a S
 obtain ⟨j1, hj1, h⟩ := joinE h
 refine f_cutm 4 (fun a w' => ∃ c1, j1 c1 = some r ∧ Keep [] w1 w' ∧ Sx w [] nov [] [(0, .string p_s), (10, .bool c1)] 15 a w') ?_ ?_
 ·rcases Bool.eq_false_or_eq_true (tumbref2_in (p_s.size : Int) 1 40) with hb1 | hb1
  ·replace h := iteT h hb1
   refine l_want S rfl rfl rfl hb1 ?_
   refine lv S (rn_move (S.tm rfl)) rfl ?_; clear S; intro a S
   refine l_want S rfl rfl rfl hb1 ?_
   obtain ⟨hc1, h⟩ := chkE h
   refine lv S (rn_scutTh Tryd.underlying9 (S.tm rfl) rfl hc1) rfl ?_; clear S; intro a S
   refine l_want S rfl rfl rfl hb1 ?_
   obtain ⟨r1, hr1, h⟩ := bindE h
   refine l_enter S (fun _ => run_call (vs := [.string (scut p_s 0 1), .string k_abcdefghijklmnopqrstuvwxyz]) ⟨(S.tm rfl), rfl, trivial⟩ Tryd.call59) (tumbref2_only_ok _ (scut p_s 0 1) k_abcdefghijklmnopqrstuvwxyz _ hr1) rfl ?_; clear S; intro v2 a w3 hv2 hk2 hn2 S
   subst hv2
   refine lv S (rn_and_t hb1 (S.tm rfl) (S.tm rfl)) rfl ?_; clear S; intro a S
   refine l_done ?_
   refine then_n ?_
   exact ⟨_, h, hk2, S.nf [] rfl ⟨rfl, rfl, trivial⟩⟩
  ·replace h := iteF h hb1
   refine l_skip S rfl rfl rfl (neq_f hb1) rfl ?_ rfl; clear S; intro a S
   refine l_skip S rfl rfl rfl (neq_f hb1) rfl ?_ rfl; clear S; intro a S
   refine l_skip S rfl rfl rfl (neq_f hb1) rfl ?_ rfl; clear S; intro a S
   refine lv S (rn_and_f true hb1 (S.tm rfl) rfl) rfl ?_; clear S; intro a S
   refine l_done ?_
   refine then_n ?_
   exact ⟨_, h, Keep.refl _ _, S.nf [] rfl ⟨rfl, rfl, trivial⟩⟩
 clear S h; rintro a w2 ⟨c1, h, hk3, S⟩; rw [hj1] at h; clear hj1 j1
 refine lv S (rn_move (S.tm rfl)) rfl ?_; clear S; intro a S
 obtain ⟨j2, hj2, h⟩ := joinE h
 refine f_cutm 3 (fun a w' => ∃ c2, j2 c2 = some r ∧ Keep [] w2 w' ∧ Sx w [] nov [] [(14, .bool c2)] 15 a w') ?_ ?_
 ·rcases Bool.eq_false_or_eq_true c1 with hb2 | hb2
  ·replace h := iteT h hb2
   refine l_want S rfl rfl rfl hb2 ?_
   refine lv S (rn_move (S.tm rfl)) rfl ?_; clear S; intro a S
   refine l_want S rfl rfl rfl hb2 ?_
   obtain ⟨r2, hr2, h⟩ := bindE h
   refine l_enter S (fun _ => run_call (vs := [.string p_s, .string k_abcdefghijkl_h0e2e2c]) ⟨(S.tm rfl), rfl, trivial⟩ Tryd.call59) (tumbref2_only_ok _ p_s k_abcdefghijkl_h0e2e2c _ hr2) rfl ?_; clear S; intro v3 a w5 hv3 hk4 hn3 S
   subst hv3
   refine lv S (rn_and_t hb2 (S.tm rfl) (S.tm rfl)) rfl ?_; clear S; intro a S
   refine l_done ?_
   refine then_n ?_
   exact ⟨_, h, hk4, S.nf [] rfl ⟨rfl, trivial⟩⟩
  ·replace h := iteF h hb2
   refine l_skip S rfl rfl rfl (neq_f hb2) rfl ?_ rfl; clear S; intro a S
   refine l_skip S rfl rfl rfl (neq_f hb2) rfl ?_ rfl; clear S; intro a S
   refine lv S (rn_and_f true hb2 (S.tm rfl) rfl) rfl ?_; clear S; intro a S
   refine l_done ?_
   refine then_n ?_
   exact ⟨_, h, Keep.refl _ _, S.nf [] rfl ⟨rfl, trivial⟩⟩
 clear S h; rintro a w4 ⟨c2, h, hk5, S⟩; rw [hj2] at h; clear hj2 j2
 refine lv S (rn_assign (S.tm rfl)) rfl ?_; clear S; intro a S
 refine l_done ?_
 replace S := S.nk [] [(2, .bool c2)] [] rfl ⟨rfl, trivial⟩
 refine then_n ?_
 refine wp_ret ?_
 obtain rfl := Option.some.inj h
 exact f_ret S Tryd.results42 rfl rfl
end Go.Proofs.YtefddponhjhdgaaDoor
