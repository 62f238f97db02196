/- Each Go function computes its plain twin, by program. -/
import Derived.Test.YtflmpbghcgplmaaDoorTab
import Derived.Test.YtflmpbghcgplmaaDoorLay
namespace Go.Proofs.YtflmpbghcgplmaaDoor
open Go
theorem tumbmake_Below_ok (w : World) (p_x : Int) (p_n : Int) (r : Int) (h : tumbmake_Below p_x p_n = some r) :
    Calls Tryd.prog 18 [.int .i64 p_x, .int .i64 p_n].toArray w (Ret w [] fun _ v _ => v = .int .i64 r) := by
 refine f_enter [] [] Tryd.func18 rfl Tryd.ntmps18 rfl (by simp) (by simp [fps]) (by simp [fps]) fun a S => ?_
 unfold tumbmake_Below at h
 replace S := S.nk [] [(0, .int .i64 p_x), (1, .int .i64 p_n)] [] rfl ⟨rfl, rfl, trivial⟩
 refine f_seq ?_
 refine f_region ?_
 refine lv S (rn_assign rfl) rfl ?_; clear S; intro a S
 refine l_done ?_
 replace S := S.nk [] [(0, .int .i64 p_x), (1, .int .i64 p_n)] [] rfl ⟨rfl, rfl, trivial⟩
 refine then_n ?_
 refine f_seq ?_
 refine f_seq ?_
 refine f_region ?_
 refine lv S (rn_move (S.tm rfl)) rfl ?_; clear S; intro a S
 refine lv S (rn_lss (S.tm rfl) rfl) rfl ?_; clear S; intro a S
 refine l_done ?_
 replace S := S.nk [] [(0, .int .i64 p_x), (1, .int .i64 p_n), (6, .bool (decide (p_n < 1)))] [] rfl ⟨rfl, rfl, rfl, trivial⟩
 refine then_n ?_
 refine f_cond (S.tm rfl) (fun hb1 => ?_) (fun hb1 => ?_)
 ·replace h := iteT h hb1
  refine f_seq ?_
  refine f_region ?_
  refine lv S (rn_assign rfl) rfl ?_; clear S; intro a S
  refine l_done ?_
  replace S := S.nk [] [(4, .int .i64 0)] [] rfl ⟨rfl, trivial⟩
  refine then_n ?_
  refine wp_ret ?_
  refine then_r ?_
  obtain rfl := Option.some.inj h
  exact f_ret S Tryd.results18 rfl rfl
 ·replace h := iteF h hb1
  refine wp_skip ?_
  refine then_n ?_
  refine f_seq ?_
  refine f_region ?_
  refine lv S (rn_move (S.tm rfl)) rfl ?_; clear S; intro a S
  refine lv S (rn_move (S.tm rfl)) rfl ?_; clear S; intro a S
  obtain ⟨hc1, h⟩ := chkE h
  refine lv S (rn_rem (S.tm rfl) (S.tm rfl) (ne0_of hc1)) rfl ?_; clear S; intro a S
  refine lv S (rn_assign (S.tm rfl)) rfl ?_; clear S; intro a S
  refine l_done ?_
  replace S := S.nk [] [(0, .int .i64 (Int.tmod p_x p_n)), (1, .int .i64 p_n)] [] rfl ⟨rfl, rfl, trivial⟩
  refine then_n ?_
  refine f_seq ?_
  refine f_seq ?_
  refine f_region ?_
  refine lv S (rn_move (S.tm rfl)) rfl ?_; clear S; intro a S
  refine lv S (rn_lss (S.tm rfl) rfl) rfl ?_; clear S; intro a S
  refine l_done ?_
  replace S := S.nk [] [(0, .int .i64 (Int.tmod p_x p_n)), (1, .int .i64 p_n), (11, .bool (decide ((Int.tmod p_x p_n) < 0)))] [] rfl ⟨rfl, rfl, rfl, trivial⟩
  refine then_n ?_
  obtain ⟨j1, hj1, h⟩ := joinE h
  refine f_join (fun a w' => ∃ x1 : Int, j1 x1 = some r ∧ Sx w [] nov [] [(0, .int .i64 x1)] 16 a w') ?_ ?_
  ·refine f_cond (S.tm rfl) (fun hb2 => ?_) (fun hb2 => ?_)
   ·replace h := iteT h hb2
    refine f_region ?_
    refine lv S (rn_move (S.tm rfl)) rfl ?_; clear S; intro a S
    refine lv S (rn_move (S.tm rfl)) rfl ?_; clear S; intro a S
    refine lv S (rn_add (S.tm rfl) (S.tm rfl)) rfl ?_; clear S; intro a S
    refine lv S (rn_assign (S.tm rfl)) rfl ?_; clear S; intro a S
    refine l_done ?_
    replace S := S.nk [] [(0, .int .i64 (W ((Int.tmod p_x p_n) + p_n)))] [] rfl ⟨rfl, trivial⟩
    refine then_n ?_
    exact ⟨W ((Int.tmod p_x p_n) + p_n), h, S.nf [] rfl ⟨rfl, trivial⟩⟩
   ·replace h := iteF h hb2
    refine wp_skip ?_
    refine then_n ?_
    exact ⟨Int.tmod p_x p_n, h, S.nf [] rfl ⟨rfl, trivial⟩⟩
  clear S h; rintro a w1 ⟨x1, h, S⟩; rw [hj1] at h; clear hj1 j1
  refine then_n ?_
  refine f_seq ?_
  refine f_region ?_
  refine lv S (rn_move (S.tm rfl)) rfl ?_; clear S; intro a S
  refine lv S (rn_assign (S.tm rfl)) rfl ?_; clear S; intro a S
  refine l_done ?_
  replace S := S.nk [] [(4, .int .i64 x1)] [] rfl ⟨rfl, trivial⟩
  refine then_n ?_
  refine wp_ret ?_
  obtain rfl := Option.some.inj h
  exact f_ret S Tryd.results18 rfl rfl
set_option maxRecDepth 20000 in
theorem Stream_Next_ok (w : World) (b_p_s : Nat) (v_p_s_L : Value) (p_s_L : List Int) (hs_p_s_L : Slc (view w [b_p_s]) 1 v_p_s_L (p_s_L.map eInt)) (p_s_at : Int) (hb_b_p_s : (LEnt.blk b_p_s [v_p_s_L, .int .i64 p_s_at] 25).holds w) (p_n : Int) (r : Int × Int) (h : Stream_Next p_s_L p_s_at p_n = some r) :
    Calls Tryd.prog 9 [.pointer (some ⟨b_p_s, 0, none⟩), .int .i64 p_n].toArray w (Ret w [b_p_s] fun _ v w' => (LEnt.blk b_p_s [v_p_s_L, .int .i64 r.2] 25).holds w' ∧ v = .int .i64 r.1) := by
 refine f_enter [b_p_s] [.blk b_p_s [v_p_s_L, .int .i64 p_s_at] 25] Tryd.func9 rfl Tryd.ntmps9 rfl (fun e he => by simp only [List.mem_singleton] at he; subst he; exact hb_b_p_s) (by simp [fps, LEnt.fp]) (by simp [fps, LEnt.fp]) fun a S => ?_
 unfold Stream_Next at h
 replace S := S.nk [.blk b_p_s [v_p_s_L, .int .i64 p_s_at] 25] [(0, .pointer (some ⟨b_p_s, 0, none⟩)), (1, .int .i64 p_n)] [true] rfl ⟨rfl, rfl, trivial⟩
 refine f_seq ?_
 refine f_region ?_
 refine lv S (rn_assign rfl) rfl ?_; clear S; intro a S
 refine l_done ?_
 replace S := S.nk [.blk b_p_s [v_p_s_L, .int .i64 p_s_at] 25] [(0, .pointer (some ⟨b_p_s, 0, none⟩)), (1, .int .i64 p_n)] [true] rfl ⟨rfl, rfl, trivial⟩
 refine then_n ?_
 refine f_seq ?_
 refine f_region ?_
 refine lv S (rn_move (S.tm rfl)) rfl ?_; clear S; intro a S
 refine lv S (rn_nilCheck (S.tm rfl)) rfl ?_; clear S; intro a S
 refine lv S (rn_fld fa_25_1 (S.tm rfl)) rfl ?_; clear S; intro a S
 refine lv S (rn_load Tryd.isAgg3 (S.tm rfl) (S.cell (i := 0) rfl rfl)) rfl ?_; clear S; intro a S
 refine lv S (rn_add (S.tm rfl) rfl) rfl ?_; clear S; intro a S
 refine lv S (rn_nilCheck (S.tm rfl)) rfl ?_; clear S; intro a S
 refine lv S (rn_fld fa_25_1 (S.tm rfl)) rfl ?_; clear S; intro a S
 refine l_store S (S.tm rfl) (S.tm rfl) (i := 0) (off := 1) rfl Tryd.sizeOf3 (vs := [.int .i64 (W (p_s_at + 1))]) rfl rfl rfl rfl ?_; clear S; intro w1 hk1 S
 refine l_done ?_
 replace S := S.nk [.blk b_p_s [v_p_s_L, .int .i64 (W (p_s_at + 1))] 25] [(0, .pointer (some ⟨b_p_s, 0, none⟩)), (1, .int .i64 p_n)] [true] rfl ⟨rfl, rfl, trivial⟩
 refine then_n ?_
 refine f_seq ?_
 refine f_seq ?_
 refine f_region ?_
 refine lv S (rn_move (S.tm rfl)) rfl ?_; clear S; intro a S
 refine lv S (rn_nilCheck (S.tm rfl)) rfl ?_; clear S; intro a S
 refine lv S (rn_fld fa_25_0 (S.tm rfl)) rfl ?_; clear S; intro a S
 refine lv S (rn_load Tryd.isAgg22 (S.tm rfl) (S.cell (i := 0) rfl rfl)) rfl ?_; clear S; intro a S
 refine lv S (rn_lenT sl_22 (S.tm rfl) (slc_len hs_p_s_L)) rfl ?_; clear S; intro a S
 refine lv S (rn_eql (S.tm rfl) rfl) rfl ?_; clear S; intro a S
 refine l_done ?_
 replace S := S.nk [.blk b_p_s [v_p_s_L, .int .i64 (W (p_s_at + 1))] 25] [(0, .pointer (some ⟨b_p_s, 0, none⟩)), (1, .int .i64 p_n), (19, .bool (decide ((p_s_L.length : Int) = 0)))] [true] rfl ⟨rfl, rfl, rfl, trivial⟩
 refine then_n ?_
 refine f_cond (S.tm rfl) (fun hb1 => ?_) (fun hb1 => ?_)
 ·replace h := iteT h hb1
  refine f_seq ?_
  refine f_region ?_
  refine lv S (rn_move (S.tm rfl)) rfl ?_; clear S; intro a S
  refine lv S (rn_nilCheck (S.tm rfl)) rfl ?_; clear S; intro a S
  refine lv S (rn_fld fa_25_1 (S.tm rfl)) rfl ?_; clear S; intro a S
  refine lv S (rn_load Tryd.isAgg3 (S.tm rfl) (S.cell (i := 0) rfl rfl)) rfl ?_; clear S; intro a S
  refine lv S (rn_mul (S.tm rfl) rfl) rfl ?_; clear S; intro a S
  refine lv S (rn_move (S.tm rfl)) rfl ?_; clear S; intro a S
  obtain ⟨r1, hr1, h⟩ := bindE h
  refine l_enter S (fun _ => run_call (vs := [.int .i64 (W ((W (p_s_at + 1)) * 7919)), .int .i64 p_n]) ⟨(S.tm rfl), (S.tm rfl), trivial⟩ Tryd.call18) (tumbmake_Below_ok _ (W ((W (p_s_at + 1)) * 7919)) p_n _ hr1) rfl ?_; clear S; intro v1 a w2 hv1 hk2 hn1 S
  subst hv1
  refine lv S (rn_assign (S.tm rfl)) rfl ?_; clear S; intro a S
  refine l_done ?_
  replace S := S.nk [.blk b_p_s [v_p_s_L, .int .i64 (W (p_s_at + 1))] 25] [(4, .int .i64 r1)] [true] rfl ⟨rfl, trivial⟩
  refine then_n ?_
  refine wp_ret ?_
  refine then_r ?_
  obtain rfl := Option.some.inj h
  exact f_ret S Tryd.results9 rfl ⟨(S.holds _ (List.mem_of_getElem? (i := 0) rfl)), rfl⟩
 ·replace h := iteF h hb1
  refine wp_skip ?_
  refine then_n ?_
  refine f_seq ?_
  refine d_region [] ([]) Tryd.mixed S rfl (by kernel_rfl) ?_; clear S; intro w3 hk3 hsel S
  refine d_rest [0, 1, 2, 3, 4, 5, 6, 7, 8, 9, 10, 11] hsel (by kernel_rfl) rfl ?_
  clear hsel
  refine s_lv S rfl (rn_move (S.tm rfl)) rfl ?_; clear S; intro a S
  refine s_lv S rfl (rn_nilCheck (S.tm rfl)) rfl ?_; clear S; intro a S
  refine s_lv S rfl (rn_fld fa_25_1 (S.tm rfl)) rfl ?_; clear S; intro a S
  refine s_lv S rfl (rn_load Tryd.isAgg3 (S.tm rfl) (S.cell (i := 0) rfl rfl)) rfl ?_; clear S; intro a S
  refine s_lv S rfl (rn_sub (S.tm rfl) rfl) rfl ?_; clear S; intro a S
  refine s_lv S rfl (rn_move (S.tm rfl)) rfl ?_; clear S; intro a S
  refine s_lv S rfl (rn_nilCheck (S.tm rfl)) rfl ?_; clear S; intro a S
  refine s_lv S rfl (rn_fld fa_25_0 (S.tm rfl)) rfl ?_; clear S; intro a S
  refine s_lv S rfl (rn_load Tryd.isAgg22 (S.tm rfl) (S.cell (i := 0) rfl rfl)) rfl ?_; clear S; intro a S
  refine s_lv S rfl (rn_lenT sl_22 (S.tm rfl) (slc_len hs_p_s_L)) rfl ?_; clear S; intro a S
  obtain ⟨hc1, h⟩ := chkE h
  refine s_lv S rfl (rn_rem (S.tm rfl) (S.tm rfl) (ne0_of hc1)) rfl ?_; clear S; intro a S
  refine s_lv S rfl (rn_assign (S.tm rfl)) rfl ?_; clear S; intro a S
  refine s_done ?_
  replace S := S.nk [.blk b_p_s [v_p_s_L, .int .i64 (W (p_s_at + 1))] 25] [(0, .pointer (some ⟨b_p_s, 0, none⟩)), (1, .int .i64 p_n), (5, .int .i64 (Int.tmod (W ((W (p_s_at + 1)) - 1)) (p_s_L.length : Int)))] [true] rfl ⟨rfl, rfl, rfl, trivial⟩
  refine then_n ?_
  refine f_seq ?_
  refine d_region [] ([]) Tryd.mixed S rfl (by kernel_rfl) ?_; clear S; intro w4 hk4 hsel S
  refine d_rest [0, 1, 2, 3, 4, 5, 6, 7, 8, 9, 10, 11] hsel (by kernel_rfl) rfl ?_
  clear hsel
  refine s_lv S rfl (rn_move (S.tm rfl)) rfl ?_; clear S; intro a S
  refine s_lv S rfl (rn_nilCheck (S.tm rfl)) rfl ?_; clear S; intro a S
  refine s_lv S rfl (rn_fld fa_25_1 (S.tm rfl)) rfl ?_; clear S; intro a S
  refine s_lv S rfl (rn_load Tryd.isAgg3 (S.tm rfl) (S.cell (i := 0) rfl rfl)) rfl ?_; clear S; intro a S
  refine s_lv S rfl (rn_sub (S.tm rfl) rfl) rfl ?_; clear S; intro a S
  refine s_lv S rfl (rn_move (S.tm rfl)) rfl ?_; clear S; intro a S
  refine s_lv S rfl (rn_nilCheck (S.tm rfl)) rfl ?_; clear S; intro a S
  refine s_lv S rfl (rn_fld fa_25_0 (S.tm rfl)) rfl ?_; clear S; intro a S
  refine s_lv S rfl (rn_load Tryd.isAgg22 (S.tm rfl) (S.cell (i := 0) rfl rfl)) rfl ?_; clear S; intro a S
  refine s_lv S rfl (rn_lenT sl_22 (S.tm rfl) (slc_len hs_p_s_L)) rfl ?_; clear S; intro a S
  obtain ⟨hc2, h⟩ := chkE h
  refine s_lv S rfl (rn_quo (S.tm rfl) (S.tm rfl) (ne0_of hc2)) rfl ?_; clear S; intro a S
  refine s_lv S rfl (rn_assign (S.tm rfl)) rfl ?_; clear S; intro a S
  refine s_done ?_
  replace S := S.nk [.blk b_p_s [v_p_s_L, .int .i64 (W (p_s_at + 1))] 25] [(0, .pointer (some ⟨b_p_s, 0, none⟩)), (1, .int .i64 p_n), (5, .int .i64 (Int.tmod (W ((W (p_s_at + 1)) - 1)) (p_s_L.length : Int))), (6, .int .i64 (W (Int.tdiv (W ((W (p_s_at + 1)) - 1)) (p_s_L.length : Int))))] [true] rfl ⟨rfl, rfl, rfl, rfl, trivial⟩
  refine then_n ?_
  refine f_seq ?_
  refine f_region ?_
  refine lv S (rn_move (S.tm rfl)) rfl ?_; clear S; intro a S
  refine lv S (rn_nilCheck (S.tm rfl)) rfl ?_; clear S; intro a S
  refine lv S (rn_fld fa_25_0 (S.tm rfl)) rfl ?_; clear S; intro a S
  refine lv S (rn_load Tryd.isAgg22 (S.tm rfl) (S.cell (i := 0) rfl rfl)) rfl ?_; clear S; intro a S
  refine lv S (rn_move (S.tm rfl)) rfl ?_; clear S; intro a S
  obtain ⟨hc3, h⟩ := chkE h
  obtain ⟨b1, o1, hm1, hr2⟩ := rn_indexT (a := a) (x := .tmp 52) (y := .tmp 53) (ty := 0) sl_22 hs_p_s_L (inB_get hc3).1 (inB_get hc3).2 (S.tm rfl) (S.tm rfl)
  refine lv S (hr2 _) rfl ?_; clear S; intro a S
  clear hr2
  refine lv S (rn_ld Tryd.isAgg3 (off := o1) (o := 0) (S.tm rfl) (hm1.at S.emb0) rfl) rfl ?_; clear S; intro a S
  obtain ⟨r2, hr3, h⟩ := bindE h
  refine l_enter S (fun _ => run_call (vs := [.int .i64 (nth p_s_L (Int.tmod (W ((W (p_s_at + 1)) - 1)) (p_s_L.length : Int))), .int .i64 1073741824]) ⟨(S.tm rfl), rfl, trivial⟩ Tryd.call18) (tumbmake_Below_ok _ (nth p_s_L (Int.tmod (W ((W (p_s_at + 1)) - 1)) (p_s_L.length : Int))) 1073741824 _ hr3) rfl ?_; clear S; intro v2 a w5 hv2 hk5 hn2 S
  subst hv2
  refine lv S (rn_move (S.tm rfl)) rfl ?_; clear S; intro a S
  refine lv S (rn_move (S.tm rfl)) rfl ?_; clear S; intro a S
  refine lv S (rn_add rfl (S.tm rfl)) rfl ?_; clear S; intro a S
  refine lv S (rn_mul (S.tm rfl) (S.tm rfl)) rfl ?_; clear S; intro a S
  refine lv S (rn_add (S.tm rfl) (S.tm rfl)) rfl ?_; clear S; intro a S
  refine lv S (rn_move (S.tm rfl)) rfl ?_; clear S; intro a S
  obtain ⟨r3, hr4, h⟩ := bindE h
  refine l_enter S (fun _ => run_call (vs := [.int .i64 (W (r2 + (W ((W (Int.tdiv (W ((W (p_s_at + 1)) - 1)) (p_s_L.length : Int))) * (W (7919 + (Int.tmod (W ((W (p_s_at + 1)) - 1)) (p_s_L.length : Int)))))))), .int .i64 p_n]) ⟨(S.tm rfl), (S.tm rfl), trivial⟩ Tryd.call18) (tumbmake_Below_ok _ (W (r2 + (W ((W (Int.tdiv (W ((W (p_s_at + 1)) - 1)) (p_s_L.length : Int))) * (W (7919 + (Int.tmod (W ((W (p_s_at + 1)) - 1)) (p_s_L.length : Int)))))))) p_n _ hr4) rfl ?_; clear S; intro v3 a w6 hv3 hk6 hn3 S
  subst hv3
  refine lv S (rn_assign (S.tm rfl)) rfl ?_; clear S; intro a S
  refine l_done ?_
  replace S := S.nk [.blk b_p_s [v_p_s_L, .int .i64 (W (p_s_at + 1))] 25] [(4, .int .i64 r3)] [true] rfl ⟨rfl, trivial⟩
  refine then_n ?_
  refine wp_ret ?_
  obtain rfl := Option.some.inj h
  exact f_ret S Tryd.results9 rfl ⟨(S.holds _ (List.mem_of_getElem? (i := 0) rfl)), rfl⟩
theorem Stream_Range_ok (w : World) (b_p_s : Nat) (v_p_s_L : Value) (p_s_L : List Int) (hs_p_s_L : Slc (view w [b_p_s]) 1 v_p_s_L (p_s_L.map eInt)) (p_s_at : Int) (hb_b_p_s : (LEnt.blk b_p_s [v_p_s_L, .int .i64 p_s_at] 25).holds w) (p_low : Int) (p_high : Int) (r : Int × Int) (h : Stream_Range p_s_L p_s_at p_low p_high = some r) :
    Calls Tryd.prog 4 [.pointer (some ⟨b_p_s, 0, none⟩), .int .i64 p_low, .int .i64 p_high].toArray w (Ret w [b_p_s] fun _ v w' => (LEnt.blk b_p_s [v_p_s_L, .int .i64 r.2] 25).holds w' ∧ v = .int .i64 r.1) := by
 refine f_enter [b_p_s] [.blk b_p_s [v_p_s_L, .int .i64 p_s_at] 25] Tryd.func4 rfl Tryd.ntmps4 rfl (fun e he => by simp only [List.mem_singleton] at he; subst he; exact hb_b_p_s) (by simp [fps, LEnt.fp]) (by simp [fps, LEnt.fp]) fun a S => ?_
 unfold Stream_Range at h
 replace S := S.nk [.blk b_p_s [v_p_s_L, .int .i64 p_s_at] 25] [(0, .pointer (some ⟨b_p_s, 0, none⟩)), (1, .int .i64 p_low), (2, .int .i64 p_high)] [true] rfl ⟨rfl, rfl, rfl, trivial⟩
 refine f_seq ?_
 refine f_region ?_
 refine lv S (rn_assign rfl) rfl ?_; clear S; intro a S
 refine l_done ?_
 replace S := S.nk [.blk b_p_s [v_p_s_L, .int .i64 p_s_at] 25] [(0, .pointer (some ⟨b_p_s, 0, none⟩)), (1, .int .i64 p_low), (2, .int .i64 p_high)] [true] rfl ⟨rfl, rfl, rfl, trivial⟩
 refine then_n ?_
 refine f_seq ?_
 refine f_seq ?_
 refine f_region ?_
 refine lv S (rn_move (S.tm rfl)) rfl ?_; clear S; intro a S
 refine lv S (rn_move (S.tm rfl)) rfl ?_; clear S; intro a S
 refine lv S (rn_lss (S.tm rfl) (S.tm rfl)) rfl ?_; clear S; intro a S
 refine l_done ?_
 replace S := S.nk [.blk b_p_s [v_p_s_L, .int .i64 p_s_at] 25] [(0, .pointer (some ⟨b_p_s, 0, none⟩)), (1, .int .i64 p_low), (2, .int .i64 p_high), (9, .bool (decide (p_high < p_low)))] [true] rfl ⟨rfl, rfl, rfl, rfl, trivial⟩
 refine then_n ?_
 refine f_cond (S.tm rfl) (fun hb1 => ?_) (fun hb1 => ?_)
 ·replace h := iteT h hb1
  refine f_seq ?_
  refine f_region ?_
  refine lv S (rn_move (S.tm rfl)) rfl ?_; clear S; intro a S
  refine lv S (rn_assign (S.tm rfl)) rfl ?_; clear S; intro a S
  refine l_done ?_
  replace S := S.nk [.blk b_p_s [v_p_s_L, .int .i64 p_s_at] 25] [(6, .int .i64 p_low)] [true] rfl ⟨rfl, trivial⟩
  refine then_n ?_
  refine wp_ret ?_
  refine then_r ?_
  obtain rfl := Option.some.inj h
  exact f_ret S Tryd.results4 rfl ⟨(S.holds _ (List.mem_of_getElem? (i := 0) rfl)), rfl⟩
 ·replace h := iteF h hb1
  refine wp_skip ?_
  refine then_n ?_
  refine f_seq ?_
  refine f_region ?_
  refine lv S (rn_move (S.tm rfl)) rfl ?_; clear S; intro a S
  refine lv S (rn_move (S.tm rfl)) rfl ?_; clear S; intro a S
  refine lv S (rn_move (S.tm rfl)) rfl ?_; clear S; intro a S
  refine lv S (rn_move (S.tm rfl)) rfl ?_; clear S; intro a S
  refine lv S (rn_sub (S.tm rfl) (S.tm rfl)) rfl ?_; clear S; intro a S
  refine lv S (rn_add (S.tm rfl) rfl) rfl ?_; clear S; intro a S
  obtain ⟨r1, hr1, h⟩ := bindE h
  refine l_enter1 0 S (b := b_p_s) rfl rfl (fun _ => .blk b_p_s [v_p_s_L, .int .i64 r1.2] 25) (fun _ => run_call (vs := [.pointer (some ⟨b_p_s, 0, none⟩), .int .i64 (W ((W (p_high - p_low)) + 1))]) ⟨(S.tm rfl), (S.tm rfl), trivial⟩ Tryd.call9) (Stream_Next_ok _ b_p_s v_p_s_L p_s_L (hs_p_s_L.mono (S.le_arg (fp_sub (i := 0) (e := .blk b_p_s [v_p_s_L, .int .i64 p_s_at] 25) rfl))) p_s_at (S.holds _ (List.mem_of_getElem? (i := 0) rfl)) (W ((W (p_high - p_low)) + 1)) _ hr1) rfl (fun _ _ _ h => ⟨h.1, fun _ hc => by cases hc; rfl⟩) ?_; clear S; intro v1 a w1 hv1 hk1 hn1 S
  replace hv1 := hv1.2
  subst hv1
  refine lv S (rn_add (S.tm rfl) (S.tm rfl)) rfl ?_; clear S; intro a S
  refine lv S (rn_assign (S.tm rfl)) rfl ?_; clear S; intro a S
  refine l_done ?_
  replace S := S.nk [.blk b_p_s [v_p_s_L, .int .i64 r1.2] 25] [(6, .int .i64 (W (p_low + r1.1)))] [true] rfl ⟨rfl, trivial⟩
  refine then_n ?_
  refine wp_ret ?_
  obtain rfl := Option.some.inj h
  exact f_ret S Tryd.results4 rfl ⟨(S.holds _ (List.mem_of_getElem? (i := 0) rfl)), rfl⟩
theorem strings_Trim_ok (w : World) (s c : ByteArray) (r : ByteArray) (h : strings_Trim s c = some r) : Calls Tryd.prog 30 [.string s, .string c].toArray w (Ret w [] fun _ v _ => v = .string r) := by
  unfold strings_Trim at h
  obtain ⟨h1, h⟩ := chkE h
  obtain ⟨h2, h⟩ := chkE h
  obtain ⟨h3, h⟩ := chkE h
  obtain rfl := Option.some.inj h
  exact ret_of_below (Any.strings_Trim_laid Tryd.lays160 (by kernel_rfl) s c w (by simpa using h1) (by simpa using h2) (fun j b hb => by simpa using List.all_eq_true.1 h3 b (List.mem_of_getElem? hb)))
theorem words_IsKey_ok (w : World) (p_s : ByteArray) (r : Bool) (h : words_IsKey p_s = some r) :
    Calls Tryd.prog 19 [.string p_s].toArray w (Ret w [] fun _ v _ => v = .bool r) := by
 refine f_enter [] [] Tryd.func19 rfl Tryd.ntmps19 rfl (by simp) (by simp [fps]) (by simp [fps]) fun a S => ?_
 unfold words_IsKey at h
 replace S := S.nk [] [(0, .string p_s)] [] rfl ⟨rfl, trivial⟩
 refine f_seq ?_
 refine f_region ?_
 refine lv S (rn_assign rfl) rfl ?_; clear S; intro a S
 refine l_done ?_
 replace S := S.nk [] [(0, .string p_s)] [] rfl ⟨rfl, trivial⟩
 refine then_n ?_
 refine f_seq ?_
 refine f_region ?_
 refine lv S (rn_move (S.tm rfl)) rfl ?_; clear S; intro a S
 refine lv S (rn_len_str Tryd.underlying9 (S.tm rfl)) rfl ?_; clear S; intro a S
 refine lv S (rn_geq (S.tm rfl) rfl) rfl ?_; clear S; intro a S
 refine lv S (rn_move (S.tm rfl)) rfl ?_; clear S; intro a S
 refine f_cutm 4 (fun a w' => Keep [] w w' ∧ Sx w [] nov [] [(0, .string p_s), (10, .bool ((decide (1 ≤ (p_s.size : Int))) && (decide ((p_s.size : Int) ≤ 40))))] 26 a w') ?_ ?_
 ·rcases Bool.eq_false_or_eq_true (decide (1 ≤ (p_s.size : Int))) with hb1 | hb1
  ·refine l_want S rfl rfl rfl hb1 ?_
   refine lv S (rn_move (S.tm rfl)) rfl ?_; clear S; intro a S
   refine l_want S rfl rfl rfl hb1 ?_
   refine lv S (rn_len_str Tryd.underlying9 (S.tm rfl)) rfl ?_; clear S; intro a S
   refine l_want S rfl rfl rfl hb1 ?_
   refine lv S (rn_leq (S.tm rfl) rfl) rfl ?_; clear S; intro a S
   refine lv S (rn_and_t hb1 (S.tm rfl) (S.tm rfl)) rfl ?_; clear S; intro a S
   refine l_done ?_
   refine then_n ?_
   exact ⟨Keep.refl _ _, S.nf [] rfl ⟨rfl, rfl, trivial⟩⟩
  ·refine l_skip S rfl rfl rfl (neq_f hb1) rfl ?_ rfl; clear S; intro a S
   refine l_skip S rfl rfl rfl (neq_f hb1) rfl ?_ rfl; clear S; intro a S
   refine l_skip S rfl rfl rfl (neq_f hb1) rfl ?_ rfl; clear S; intro a S
   refine lv S (rn_and_f (decide ((p_s.size : Int) ≤ 40)) hb1 (S.tm rfl) rfl) rfl ?_; clear S; intro a S
   refine l_done ?_
   refine then_n ?_
   exact ⟨Keep.refl _ _, S.nf [] rfl ⟨rfl, rfl, trivial⟩⟩
 clear S; rintro a w1 ⟨hk1, S⟩
 refine lv S (rn_move (S.tm rfl)) rfl ?_; clear S; intro a S
 obtain ⟨j1, hj1, h⟩ := joinE h
 refine f_cutm 4 (fun a w' => ∃ c1, j1 c1 = some r ∧ Keep [] w1 w' ∧ Sx w [] nov [] [(0, .string p_s), (15, .bool c1)] 26 a w') ?_ ?_
 ·rcases Bool.eq_false_or_eq_true ((decide (1 ≤ (p_s.size : Int))) && (decide ((p_s.size : Int) ≤ 40))) with hb2 | hb2
  ·replace h := iteT h hb2
   refine l_want S rfl rfl rfl hb2 ?_
   refine lv S (rn_move (S.tm rfl)) rfl ?_; clear S; intro a S
   refine l_want S rfl rfl rfl hb2 ?_
   obtain ⟨hc1, h⟩ := chkE h
   refine lv S (rn_sindexT Tryd.underlying9 (S.tm rfl) rfl hc1) rfl ?_; clear S; intro a S
   refine l_want S rfl rfl rfl hb2 ?_
   refine lv S (rn_geq (S.tm rfl) rfl) rfl ?_; clear S; intro a S
   refine lv S (rn_and_t hb2 (S.tm rfl) (S.tm rfl)) rfl ?_; clear S; intro a S
   refine l_done ?_
   refine then_n ?_
   exact ⟨_, h, Keep.refl _ _, S.nf [] rfl ⟨rfl, rfl, trivial⟩⟩
  ·replace h := iteF h hb2
   refine l_skip S rfl rfl rfl (neq_f hb2) rfl ?_ rfl; clear S; intro a S
   refine l_skip S rfl rfl rfl (neq_f hb2) rfl ?_ rfl; clear S; intro a S
   refine l_skip S rfl rfl rfl (neq_f hb2) rfl ?_ rfl; clear S; intro a S
   refine lv S (rn_and_f true hb2 (S.tm rfl) rfl) rfl ?_; clear S; intro a S
   refine l_done ?_
   refine then_n ?_
   exact ⟨_, h, Keep.refl _ _, S.nf [] rfl ⟨rfl, rfl, trivial⟩⟩
 clear S h; rintro a w2 ⟨c1, h, hk2, S⟩; rw [hj1] at h; clear hj1 j1
 refine lv S (rn_move (S.tm rfl)) rfl ?_; clear S; intro a S
 obtain ⟨j2, hj2, h⟩ := joinE h
 refine f_cutm 4 (fun a w' => ∃ c2, j2 c2 = some r ∧ Keep [] w2 w' ∧ Sx w [] nov [] [(0, .string p_s), (20, .bool c2)] 26 a w') ?_ ?_
 ·rcases Bool.eq_false_or_eq_true c1 with hb3 | hb3
  ·replace h := iteT h hb3
   refine l_want S rfl rfl rfl hb3 ?_
   refine lv S (rn_move (S.tm rfl)) rfl ?_; clear S; intro a S
   refine l_want S rfl rfl rfl hb3 ?_
   obtain ⟨hc2, h⟩ := chkE h
   refine lv S (rn_sindexT Tryd.underlying9 (S.tm rfl) rfl hc2) rfl ?_; clear S; intro a S
   refine l_want S rfl rfl rfl hb3 ?_
   refine lv S (rn_leq (S.tm rfl) rfl) rfl ?_; clear S; intro a S
   refine lv S (rn_and_t hb3 (S.tm rfl) (S.tm rfl)) rfl ?_; clear S; intro a S
   refine l_done ?_
   refine then_n ?_
   exact ⟨_, h, Keep.refl _ _, S.nf [] rfl ⟨rfl, rfl, trivial⟩⟩
  ·replace h := iteF h hb3
   refine l_skip S rfl rfl rfl (neq_f hb3) rfl ?_ rfl; clear S; intro a S
   refine l_skip S rfl rfl rfl (neq_f hb3) rfl ?_ rfl; clear S; intro a S
   refine l_skip S rfl rfl rfl (neq_f hb3) rfl ?_ rfl; clear S; intro a S
   refine lv S (rn_and_f true hb3 (S.tm rfl) rfl) rfl ?_; clear S; intro a S
   refine l_done ?_
   refine then_n ?_
   exact ⟨_, h, Keep.refl _ _, S.nf [] rfl ⟨rfl, rfl, trivial⟩⟩
 clear S h; rintro a w3 ⟨c2, h, hk3, S⟩; rw [hj2] at h; clear hj2 j2
 refine lv S (rn_move (S.tm rfl)) rfl ?_; clear S; intro a S
 obtain ⟨j3, hj3, h⟩ := joinE h
 refine f_cutm 4 (fun a w' => ∃ c3, j3 c3 = some r ∧ Keep [] w3 w' ∧ Sx w [] nov [] [(25, .bool c3)] 26 a w') ?_ ?_
 ·rcases Bool.eq_false_or_eq_true c2 with hb4 | hb4
  ·replace h := iteT h hb4
   refine l_want S rfl rfl rfl hb4 ?_
   refine lv S (rn_move (S.tm rfl)) rfl ?_; clear S; intro a S
   refine l_want S rfl rfl rfl hb4 ?_
   obtain ⟨r1, hr1, h⟩ := bindE h
   refine l_enter S (fun _ => run_call (vs := [.string p_s, .string k_abcdefghijkl_h0e2e2c]) ⟨(S.tm rfl), rfl, trivial⟩ Tryd.call30) (strings_Trim_ok _ p_s k_abcdefghijkl_h0e2e2c _ hr1) rfl ?_; clear S; intro v1 a w5 hv1 hk4 hn1 S
   subst hv1
   refine l_want S rfl rfl rfl hb4 ?_
   refine lv S (rn_seql (S.tm rfl) rfl) rfl ?_; clear S; intro a S
   refine lv S (rn_and_t hb4 (S.tm rfl) (S.tm rfl)) rfl ?_; clear S; intro a S
   refine l_done ?_
   refine then_n ?_
   exact ⟨_, h, hk4, S.nf [] rfl ⟨rfl, trivial⟩⟩
  ·replace h := iteF h hb4
   refine l_skip S rfl rfl rfl (neq_f hb4) rfl ?_ rfl; clear S; intro a S
   refine l_skip S rfl rfl rfl (neq_f hb4) rfl ?_ rfl; clear S; intro a S
   refine l_skip S rfl rfl rfl (neq_f hb4) rfl ?_ rfl; clear S; intro a S
   refine lv S (rn_and_f true hb4 (S.tm rfl) rfl) rfl ?_; clear S; intro a S
   refine l_done ?_
   refine then_n ?_
   exact ⟨_, h, Keep.refl _ _, S.nf [] rfl ⟨rfl, trivial⟩⟩
 clear S h; rintro a w4 ⟨c3, h, hk5, S⟩; rw [hj3] at h; clear hj3 j3
 refine lv S (rn_assign (S.tm rfl)) rfl ?_; clear S; intro a S
 refine l_done ?_
 replace S := S.nk [] [(2, .bool c3)] [] rfl ⟨rfl, trivial⟩
 refine then_n ?_
 refine wp_ret ?_
 obtain rfl := Option.some.inj h
 exact f_ret S Tryd.results19 rfl rfl
theorem words_Within_ok (w : World) (p_n : Int) (p_low : Int) (p_high : Int) (r : Bool) (h : words_Within p_n p_low p_high = r) :
    Calls Tryd.prog 14 [.int .i64 p_n, .int .i64 p_low, .int .i64 p_high].toArray w (Ret w [] fun _ v _ => v = .bool r) := by
 refine f_enter [] [] Tryd.func14 rfl Tryd.ntmps14 rfl (by simp) (by simp [fps]) (by simp [fps]) fun a S => ?_
 unfold words_Within at h
 replace S := S.nk [] [(0, .int .i64 p_n), (1, .int .i64 p_low), (2, .int .i64 p_high)] [] rfl ⟨rfl, rfl, rfl, trivial⟩
 refine f_seq ?_
 refine f_region ?_
 refine lv S (rn_assign rfl) rfl ?_; clear S; intro a S
 refine l_done ?_
 replace S := S.nk [] [(0, .int .i64 p_n), (1, .int .i64 p_low), (2, .int .i64 p_high)] [] rfl ⟨rfl, rfl, rfl, trivial⟩
 refine then_n ?_
 refine f_seq ?_
 refine f_region ?_
 refine lv S (rn_move (S.tm rfl)) rfl ?_; clear S; intro a S
 refine lv S (rn_move (S.tm rfl)) rfl ?_; clear S; intro a S
 refine lv S (rn_geq (S.tm rfl) (S.tm rfl)) rfl ?_; clear S; intro a S
 refine lv S (rn_move (S.tm rfl)) rfl ?_; clear S; intro a S
 refine f_cutm 4 (fun a w' => Keep [] w w' ∧ Sx w [] nov [] [(14, .bool ((decide (p_low ≤ p_n)) && (decide (p_n ≤ p_high))))] 15 a w') ?_ ?_
 ·rcases Bool.eq_false_or_eq_true (decide (p_low ≤ p_n)) with hb1 | hb1
  ·refine l_want S rfl rfl rfl hb1 ?_
   refine lv S (rn_move (S.tm rfl)) rfl ?_; clear S; intro a S
   refine l_want S rfl rfl rfl hb1 ?_
   refine lv S (rn_move (S.tm rfl)) rfl ?_; clear S; intro a S
   refine l_want S rfl rfl rfl hb1 ?_
   refine lv S (rn_leq (S.tm rfl) (S.tm rfl)) rfl ?_; clear S; intro a S
   refine lv S (rn_and_t hb1 (S.tm rfl) (S.tm rfl)) rfl ?_; clear S; intro a S
   refine l_done ?_
   refine then_n ?_
   exact ⟨Keep.refl _ _, S.nf [] rfl ⟨rfl, trivial⟩⟩
  ·refine l_skip S rfl rfl rfl (neq_f hb1) rfl ?_ rfl; clear S; intro a S
   refine l_skip S rfl rfl rfl (neq_f hb1) rfl ?_ rfl; clear S; intro a S
   refine l_skip S rfl rfl rfl (neq_f hb1) rfl ?_ rfl; clear S; intro a S
   refine lv S (rn_and_f (decide (p_n ≤ p_high)) hb1 (S.tm rfl) rfl) rfl ?_; clear S; intro a S
   refine l_done ?_
   refine then_n ?_
   exact ⟨Keep.refl _ _, S.nf [] rfl ⟨rfl, trivial⟩⟩
 clear S; rintro a w1 ⟨hk1, S⟩
 refine lv S (rn_assign (S.tm rfl)) rfl ?_; clear S; intro a S
 refine l_done ?_
 replace S := S.nk [] [(6, .bool ((decide (p_low ≤ p_n)) && (decide (p_n ≤ p_high))))] [] rfl ⟨rfl, trivial⟩
 refine then_n ?_
 refine wp_ret ?_
 subst h
 exact f_ret S Tryd.results14 rfl rfl
theorem timing_IsTime_ok (w : World) (p_n : Int) (r : Bool) (h : timing_IsTime p_n = r) :
    Calls Tryd.prog 12 [.int .i64 p_n].toArray w (Ret w [] fun _ v _ => v = .bool r) := by
 refine f_enter [] [] Tryd.func12 rfl Tryd.ntmps12 rfl (by simp) (by simp [fps]) (by simp [fps]) fun a S => ?_
 unfold timing_IsTime at h
 replace S := S.nk [] [(0, .int .i64 p_n)] [] rfl ⟨rfl, trivial⟩
 refine f_seq ?_
 refine f_region ?_
 refine lv S (rn_assign rfl) rfl ?_; clear S; intro a S
 refine l_done ?_
 replace S := S.nk [] [(0, .int .i64 p_n)] [] rfl ⟨rfl, trivial⟩
 refine then_n ?_
 refine f_seq ?_
 refine f_region ?_
 refine lv S (rn_move (S.tm rfl)) rfl ?_; clear S; intro a S
 refine l_enter S (fun _ => run_call (vs := [.int .i64 p_n, .int .i64 1, .int .i64 360000]) ⟨(S.tm rfl), rfl, rfl, trivial⟩ Tryd.call14) (words_Within_ok _ p_n 1 360000 _ rfl) rfl ?_; clear S; intro v1 a w1 hv1 hk1 hn1 S
 subst hv1
 refine lv S (rn_assign (S.tm rfl)) rfl ?_; clear S; intro a S
 refine l_done ?_
 replace S := S.nk [] [(2, .bool (words_Within p_n 1 360000))] [] rfl ⟨rfl, trivial⟩
 refine then_n ?_
 refine wp_ret ?_
 subst h
 exact f_ret S Tryd.results12 rfl rfl
set_option maxRecDepth 20000 in
theorem points_CheckBase_ok (w : World) (v_p_l : Value) (p_l : List GBase) (hs_p_l : Slc (view w []) 2 v_p_l (p_l.map GBase.enc)) (r : Int) (h : points_CheckBase p_l = some r) :
    Calls Tryd.prog 10 [v_p_l].toArray w (Ret w [] fun _ v _ => v = .int .i64 r) := by
 refine f_enter [] [] Tryd.func10 rfl Tryd.ntmps10 rfl (by simp) (by simp [fps]) (by simp [fps]) fun a S => ?_
 unfold points_CheckBase at h
 replace S := S.nk [] [(0, v_p_l)] [] rfl ⟨rfl, trivial⟩
 refine f_seq ?_
 refine f_region ?_
 refine lv S (rn_assign rfl) rfl ?_; clear S; intro a S
 refine l_done ?_
 replace S := S.nk [] [(0, v_p_l)] [] rfl ⟨rfl, trivial⟩
 refine then_n ?_
 refine f_seq ?_
 refine f_seq ?_
 refine f_region ?_
 refine lv S (rn_move (S.tm rfl)) rfl ?_; clear S; intro a S
 refine lv S (rn_lenT sl_29 (S.tm rfl) (slc_len hs_p_l)) rfl ?_; clear S; intro a S
 refine lv S (rn_gtr (S.tm rfl) rfl) rfl ?_; clear S; intro a S
 refine l_done ?_
 replace S := S.nk [] [(0, v_p_l), (7, .bool (decide (500 < (p_l.length : Int))))] [] rfl ⟨rfl, rfl, trivial⟩
 refine then_n ?_
 refine f_cond (S.tm rfl) (fun hb1 => ?_) (fun hb1 => ?_)
 ·replace h := iteT h hb1
  refine f_seq ?_
  refine f_region ?_
  refine lv S (rn_assign rfl) rfl ?_; clear S; intro a S
  refine l_done ?_
  replace S := S.nk [] [(2, .int .i64 2)] [] rfl ⟨rfl, trivial⟩
  refine then_n ?_
  refine wp_ret ?_
  refine then_r ?_
  obtain rfl := Option.some.inj h
  exact f_ret S Tryd.results10 rfl rfl
 ·replace h := iteF h hb1
  refine wp_skip ?_
  refine then_n ?_
  refine f_seq ?_
  refine f_seq ?_
  refine f_region ?_
  refine lv S (rn_move (S.tm rfl)) rfl ?_; clear S; intro a S
  refine lv S (rn_lenT sl_29 (S.tm rfl) (slc_len hs_p_l)) rfl ?_; clear S; intro a S
  refine lv S (rn_move rfl) rfl ?_; clear S; intro a S
  refine l_done ?_
  replace S := S.nk [] [(0, v_p_l), (8, v_p_l), (9, .int .i64 (p_l.length : Int)), (10, .int .i64 0)] [] rfl ⟨rfl, rfl, rfl, rfl, trivial⟩
  refine then_n ?_
  obtain ⟨j1, hj1, h⟩ := joinE h
  refine f_join (fun a w' => j1 = some r ∧ Sx w [] nov [] [] 40 a w') ?_ ?_
  ·refine wp_block ?_
   refine f_loop (fun (ys1 : List GBase) a w' => ∃ i1 : Nat, (∃ dn, p_l = dn ++ ys1 ∧ dn.length = i1) ∧ points_CheckBase_l1 p_l j1 ys1 i1 = some r ∧ Sx w [] nov [] [(0, v_p_l), (8, v_p_l), (9, .int .i64 (p_l.length : Int)), (10, .int .i64 (i1 : Int))] 40 a w') List.length p_l ⟨0, ⟨[], rfl, rfl⟩, h, S.nf [] rfl ⟨rfl, rfl, rfl, rfl, trivial⟩⟩ ?_
   clear S h; rintro ys1 a w1 ⟨i1, ⟨dn, hd1, hi1⟩, h, S⟩
   cases ys1 with
   | nil =>
    rw [points_CheckBase_l1.eq_1] at h
    refine f_seq ?_
    refine f_region ?_
    refine lv S (rn_lss (S.tm rfl) (S.tm rfl)) rfl ?_; clear S; intro a S
    refine l_done ?_
    replace S := S.nk [] [(0, v_p_l), (8, v_p_l), (9, .int .i64 (p_l.length : Int)), (10, .int .i64 (i1 : Int)), (11, .bool (decide ((i1 : Int) < (p_l.length : Int))))] [] rfl ⟨rfl, rfl, rfl, rfl, rfl, trivial⟩
    refine then_n ?_
    refine f_seq ?_
    refine wp_cond_false ((S.tm rfl).trans (congrArg Value.bool (rng_nil hd1 hi1))) ?_
    refine wp_exit ?_
    refine then_x ?_
    refine then_x ?_
    refine x_same ?_
    refine then_n ?_
    exact ⟨h, S.nf [] rfl trivial⟩
   | cons y1 ys1 =>
    rw [points_CheckBase_l1.eq_2] at h
    refine f_seq ?_
    refine f_region ?_
    refine lv S (rn_lss (S.tm rfl) (S.tm rfl)) rfl ?_; clear S; intro a S
    refine l_done ?_
    replace S := S.nk [] [(0, v_p_l), (8, v_p_l), (9, .int .i64 (p_l.length : Int)), (10, .int .i64 (i1 : Int)), (11, .bool (decide ((i1 : Int) < (p_l.length : Int))))] [] rfl ⟨rfl, rfl, rfl, rfl, rfl, trivial⟩
    refine then_n ?_
    refine f_seq ?_
    refine wp_cond_true ((S.tm rfl).trans (congrArg Value.bool (rng_cons hd1 hi1))) ?_
    refine wp_skip ?_
    refine then_n ?_
    refine f_seq ?_
    refine wp_block ?_
    refine f_seq ?_
    refine f_region ?_
    refine lv S (rn_move (S.tm rfl)) rfl ?_; clear S; intro a S
    obtain ⟨b1, o1, hm1, hr1⟩ := rn_indexT (a := a) (x := .tmp 8) (y := .tmp 10) (ty := 0) sl_29 hs_p_l (get_mid hd1 hi1) rfl (S.tm rfl) (S.tm rfl)
    refine lv S (hr1 _) rfl ?_; clear S; intro a S
    clear hr1
    refine lv S (rn_ldA Tryd.isAgg28 Tryd.sizeOf28 (off := o1) (o := 0) (part := [.string y1.Race, .int .i64 y1.Time]) rfl rfl (S.tm rfl) (hm1.at S.emb0)) rfl ?_; clear S; intro a S
    refine l_alloc S Tryd.zeroValue28 (cs := [.string k_empty, .int .i64 0]) rfl rfl ?_; clear S; intro a w3 b2 hz1 hk1 S
    refine lv S (rn_assign (S.tm rfl)) rfl ?_; clear S; intro a S
    refine l_store S (S.tm rfl) (S.tm rfl) (i := 0) (off := 0) rfl Tryd.sizeOf28 (vs := [.string y1.Race, .int .i64 y1.Time]) rfl rfl rfl rfl ?_; clear S; intro w4 hk2 S
    refine l_done ?_
    replace S := S.nk [.blk b2 [.string y1.Race, .int .i64 y1.Time] 28] [(0, v_p_l), (3, .int .i64 (i1 : Int)), (4, .pointer (some ⟨b2, 0, none⟩)), (8, v_p_l), (9, .int .i64 (p_l.length : Int)), (10, .int .i64 (i1 : Int))] [true] rfl ⟨rfl, rfl, rfl, rfl, rfl, rfl, trivial⟩
    refine then_n ?_
    refine wp_block ?_
    refine f_seq ?_
    refine f_region ?_
    refine lv S (rn_fld fa_28_0 (S.tm rfl)) rfl ?_; clear S; intro a S
    refine lv S (rn_load Tryd.isAgg9 (S.tm rfl) (S.cell (i := 0) rfl rfl)) rfl ?_; clear S; intro a S
    obtain ⟨r1, hr2, h⟩ := bindE h
    refine l_enter S (fun _ => run_call (vs := [.string y1.Race]) ⟨(S.tm rfl), trivial⟩ Tryd.call19) (words_IsKey_ok _ y1.Race _ hr2) rfl ?_; clear S; intro v1 a w5 hv1 hk3 hn1 S
    subst hv1
    refine lv S (rn_not (S.tm rfl)) rfl ?_; clear S; intro a S
    refine lv S (rn_assign (S.tm rfl)) rfl ?_; clear S; intro a S
    refine l_done ?_
    replace S := S.nk [.blk b2 [.string y1.Race, .int .i64 y1.Time] 28] [(0, v_p_l), (3, .int .i64 (i1 : Int)), (4, .pointer (some ⟨b2, 0, none⟩)), (8, v_p_l), (9, .int .i64 (p_l.length : Int)), (10, .int .i64 (i1 : Int)), (15, .bool (!r1))] [true] rfl ⟨rfl, rfl, rfl, rfl, rfl, rfl, rfl, trivial⟩
    refine then_n ?_
    refine f_cond (S.tm rfl) (fun hb2 => ?_) (fun hb2 => ?_)
    ·replace h := iteT h hb2
     refine f_seq ?_
     refine f_region ?_
     refine lv S (rn_assign rfl) rfl ?_; clear S; intro a S
     refine l_done ?_
     replace S := S.nk [] [(2, .int .i64 5)] [false] rfl ⟨rfl, trivial⟩
     refine then_n ?_
     refine wp_ret ?_
     refine blk_r ?_
     refine blk_r ?_
     refine then_r ?_
     refine then_r ?_
     refine blk_r ?_
     refine then_r ?_
     refine then_r ?_
     obtain rfl := Option.some.inj h
     exact f_ret S Tryd.results10 rfl rfl
    ·replace h := iteF h hb2
     refine f_seq ?_
     refine d_region [] ([]) Tryd.mixed S rfl (by kernel_rfl) ?_; clear S; intro w6 hk4 hsel S
     refine d_rest [0, 1, 2, 3, 4, 5, 6, 7, 8, 9, 10, 11, 12, 13] hsel (by kernel_rfl) rfl ?_
     clear hsel
     refine s_lv S rfl (rn_move (S.tm rfl)) rfl ?_; clear S; intro a S
     refine s_lv S rfl (rn_gtr (S.tm rfl) rfl) rfl ?_; clear S; intro a S
     refine s_lv S rfl (rn_move (S.tm rfl)) rfl ?_; clear S; intro a S
     obtain ⟨j2, hj2, h⟩ := joinE h
     refine s_cutm 10 (fun a w' => ∃ c1, j2 c1 = some r ∧ Keep [] w6 w' ∧ Sx w [] nov [.blk b2 [.string y1.Race, .int .i64 y1.Time] 28] [(0, v_p_l), (4, .pointer (some ⟨b2, 0, none⟩)), (8, v_p_l), (9, .int .i64 (p_l.length : Int)), (10, .int .i64 (i1 : Int)), (33, .bool c1)] 40 a w') ?_ ?_
     ·rcases Bool.eq_false_or_eq_true (decide (0 < (i1 : Int))) with hb3 | hb3
      ·replace h := iteT h hb3
       refine s_want S rfl rfl rfl rfl hb3 ?_
       refine s_lv0 S (rn_fld fa_28_0 (S.tm rfl)) rfl ?_; clear S; intro a S
       refine s_want S rfl rfl rfl rfl hb3 ?_
       refine s_lv0 S (rn_load Tryd.isAgg9 (S.tm rfl) (S.cell (i := 0) rfl rfl)) rfl ?_; clear S; intro a S
       refine s_want S rfl rfl rfl rfl hb3 ?_
       refine s_lv0 S (rn_move (S.tm rfl)) rfl ?_; clear S; intro a S
       refine s_want S rfl rfl rfl rfl hb3 ?_
       refine s_lv0 S (rn_move (S.tm rfl)) rfl ?_; clear S; intro a S
       refine s_want S rfl rfl rfl rfl hb3 ?_
       refine s_lv0 S (rn_sub (S.tm rfl) rfl) rfl ?_; clear S; intro a S
       refine s_want S rfl rfl rfl rfl hb3 ?_
       obtain ⟨hc1, h⟩ := chkE h
       obtain ⟨b3, o2, hm2, hr3⟩ := rn_indexT (a := a) (x := .tmp 26) (y := .tmp 28) (ty := 0) sl_29 hs_p_l (inB_get hc1).1 (inB_get hc1).2 (S.tm rfl) (S.tm rfl)
       refine s_lv0 S (hr3 _) rfl ?_; clear S; intro a S
       clear hr3
       refine s_want S rfl rfl rfl rfl hb3 ?_
       refine s_lv0 S (rn_fld fa_28_0 (S.tm rfl)) rfl ?_; clear S; intro a S
       refine s_want S rfl rfl rfl rfl hb3 ?_
       refine s_lv0 S (rn_ld Tryd.isAgg9 (off := o2) (o := 0) (S.tm rfl) (hm2.at S.emb0) rfl) rfl ?_; clear S; intro a S
       refine s_want S rfl rfl rfl rfl hb3 ?_
       refine s_lv0 S (rn_sleq (S.tm rfl) (S.tm rfl)) rfl ?_; clear S; intro a S
       refine s_lv S rfl (rn_and_t hb3 (S.tm rfl) (S.tm rfl)) rfl ?_; clear S; intro a S
       refine s_done ?_
       exact ⟨_, h, Keep.refl _ _, S.nf [true] rfl ⟨rfl, rfl, rfl, rfl, rfl, rfl, trivial⟩⟩
      ·replace h := iteF h hb3
       refine s_skip S rfl rfl rfl rfl (neq_f hb3) rfl ?_ rfl; clear S; intro a S
       refine s_skip S rfl rfl rfl rfl (neq_f hb3) rfl ?_ rfl; clear S; intro a S
       refine s_skip S rfl rfl rfl rfl (neq_f hb3) rfl ?_ rfl; clear S; intro a S
       refine s_skip S rfl rfl rfl rfl (neq_f hb3) rfl ?_ rfl; clear S; intro a S
       refine s_skip S rfl rfl rfl rfl (neq_f hb3) rfl ?_ rfl; clear S; intro a S
       refine s_skip S rfl rfl rfl rfl (neq_f hb3) rfl ?_ rfl; clear S; intro a S
       refine s_skip S rfl rfl rfl rfl (neq_f hb3) rfl ?_ rfl; clear S; intro a S
       refine s_skip S rfl rfl rfl rfl (neq_f hb3) rfl ?_ rfl; clear S; intro a S
       refine s_skip S rfl rfl rfl rfl (neq_f hb3) rfl ?_ rfl; clear S; intro a S
       refine s_lv S rfl (rn_and_f true hb3 (S.tm rfl) rfl) rfl ?_; clear S; intro a S
       refine s_done ?_
       exact ⟨_, h, Keep.refl _ _, S.nf [true] rfl ⟨rfl, rfl, rfl, rfl, rfl, rfl, trivial⟩⟩
     clear S h; rintro a w7 ⟨c1, h, hk5, S⟩; rw [hj2] at h; clear hj2 j2
     refine s_lv S rfl (rn_assign (S.tm rfl)) rfl ?_; clear S; intro a S
     refine s_done ?_
     replace S := S.nk [.blk b2 [.string y1.Race, .int .i64 y1.Time] 28] [(0, v_p_l), (4, .pointer (some ⟨b2, 0, none⟩)), (8, v_p_l), (9, .int .i64 (p_l.length : Int)), (10, .int .i64 (i1 : Int)), (20, .bool c1)] [true] rfl ⟨rfl, rfl, rfl, rfl, rfl, rfl, trivial⟩
     refine then_n ?_
     refine f_cond (S.tm rfl) (fun hb4 => ?_) (fun hb4 => ?_)
     ·replace h := iteT h hb4
      refine f_seq ?_
      refine f_region ?_
      refine lv S (rn_assign rfl) rfl ?_; clear S; intro a S
      refine l_done ?_
      replace S := S.nk [] [(2, .int .i64 7)] [false] rfl ⟨rfl, trivial⟩
      refine then_n ?_
      refine wp_ret ?_
      refine blk_r ?_
      refine blk_r ?_
      refine then_r ?_
      refine then_r ?_
      refine blk_r ?_
      refine then_r ?_
      refine then_r ?_
      obtain rfl := Option.some.inj h
      exact f_ret S Tryd.results10 rfl rfl
     ·replace h := iteF h hb4
      refine f_seq ?_
      refine f_region ?_
      refine lv S (rn_fld fa_28_1 (S.tm rfl)) rfl ?_; clear S; intro a S
      refine lv S (rn_load Tryd.isAgg3 (S.tm rfl) (S.cell (i := 0) rfl rfl)) rfl ?_; clear S; intro a S
      refine l_enter S (fun _ => run_call (vs := [.int .i64 y1.Time]) ⟨(S.tm rfl), trivial⟩ Tryd.call12) (timing_IsTime_ok _ y1.Time _ rfl) rfl ?_; clear S; intro v2 a w8 hv2 hk6 hn2 S
      subst hv2
      refine lv S (rn_not (S.tm rfl)) rfl ?_; clear S; intro a S
      refine lv S (rn_assign (S.tm rfl)) rfl ?_; clear S; intro a S
      refine l_done ?_
      replace S := S.nk [] [(0, v_p_l), (8, v_p_l), (9, .int .i64 (p_l.length : Int)), (10, .int .i64 (i1 : Int)), (34, .bool (!(timing_IsTime y1.Time)))] [false] rfl ⟨rfl, rfl, rfl, rfl, rfl, trivial⟩
      refine then_n ?_
      refine f_cond (S.tm rfl) (fun hb5 => ?_) (fun hb5 => ?_)
      ·replace h := iteT h hb5
       refine f_seq ?_
       refine f_region ?_
       refine lv S (rn_assign rfl) rfl ?_; clear S; intro a S
       refine l_done ?_
       replace S := S.nk [] [(2, .int .i64 1)] [] rfl ⟨rfl, trivial⟩
       refine then_n ?_
       refine wp_ret ?_
       refine blk_r ?_
       refine blk_r ?_
       refine then_r ?_
       refine then_r ?_
       refine blk_r ?_
       refine then_r ?_
       refine then_r ?_
       obtain rfl := Option.some.inj h
       exact f_ret S Tryd.results10 rfl rfl
      ·replace h := iteF h hb5
       refine wp_skip ?_
       refine blk_n ?_
       refine blk_n ?_
       refine then_n ?_
       refine f_region ?_
       refine lv S (rn_add (S.tm rfl) rfl) rfl ?_; clear S; intro a S
       refine lv S (rn_move (S.tm rfl)) rfl ?_; clear S; intro a S
       refine l_done ?_
       replace S := S.nk [] [(0, v_p_l), (8, v_p_l), (9, .int .i64 (p_l.length : Int)), (10, .int .i64 (W ((i1 : Int) + 1)))] [] rfl ⟨rfl, rfl, rfl, rfl, trivial⟩
       refine then_n ?_
       exact ⟨ys1, ⟨i1 + 1, ⟨_, (hd1).trans (List.append_cons _ _ _), by simp [hi1]⟩, h, S.nf [] rfl ⟨rfl, rfl, rfl, (congrArg (fun z => some (Value.int .i64 z)) (rng_next hd1 hi1 (slc_max hs_p_l))), trivial⟩⟩, Nat.lt_succ_self _⟩
  clear S h; rintro a w2 ⟨h, S⟩; rw [hj1] at h; clear hj1 j1
  refine then_n ?_
  refine f_seq ?_
  refine f_region ?_
  refine lv S (rn_assign rfl) rfl ?_; clear S; intro a S
  refine l_done ?_
  replace S := S.nk [] [(2, .int .i64 0)] [] rfl ⟨rfl, trivial⟩
  refine then_n ?_
  refine wp_ret ?_
  obtain rfl := Option.some.inj h
  exact f_ret S Tryd.results10 rfl rfl
theorem points_baseOf_ok (w : World) (v_p_l : Value) (p_l : List GBase) (hs_p_l : Slc (view w []) 2 v_p_l (p_l.map GBase.enc)) (p_race : ByteArray) (r : Int) (h : points_baseOf p_l p_race = r) :
    Calls Tryd.prog 11 [v_p_l, .string p_race].toArray w (Ret w [] fun _ v _ => v = .int .i64 r) := by
 refine f_enter [] [] Tryd.func11 rfl Tryd.ntmps11 rfl (by simp) (by simp [fps]) (by simp [fps]) fun a S => ?_
 unfold points_baseOf at h
 replace S := S.nk [] [(0, v_p_l), (1, .string p_race)] [] rfl ⟨rfl, rfl, trivial⟩
 refine f_seq ?_
 refine f_region ?_
 refine lv S (rn_assign rfl) rfl ?_; clear S; intro a S
 refine l_done ?_
 replace S := S.nk [] [(0, v_p_l), (1, .string p_race)] [] rfl ⟨rfl, rfl, trivial⟩
 refine then_n ?_
 refine f_seq ?_
 refine f_seq ?_
 refine f_region ?_
 refine lv S (rn_move (S.tm rfl)) rfl ?_; clear S; intro a S
 refine lv S (rn_lenT sl_29 (S.tm rfl) (slc_len hs_p_l)) rfl ?_; clear S; intro a S
 refine lv S (rn_move rfl) rfl ?_; clear S; intro a S
 refine l_done ?_
 replace S := S.nk [] [(1, .string p_race), (7, v_p_l), (8, .int .i64 (p_l.length : Int)), (9, .int .i64 0)] [] rfl ⟨rfl, rfl, rfl, rfl, trivial⟩
 refine then_n ?_
 obtain ⟨j1, hj1, h⟩ := joinE h
 refine f_join (fun a w' => j1 = r ∧ Sx w [] nov [] [] 20 a w') ?_ ?_
 ·refine wp_block ?_
  refine f_loop (fun (ys1 : List GBase) a w' => ∃ i1 : Nat, (∃ dn, p_l = dn ++ ys1 ∧ dn.length = i1) ∧ points_baseOf_l1 p_race j1 ys1 i1 = r ∧ Sx w [] nov [] [(1, .string p_race), (7, v_p_l), (8, .int .i64 (p_l.length : Int)), (9, .int .i64 (i1 : Int))] 20 a w') List.length p_l ⟨0, ⟨[], rfl, rfl⟩, h, S.nf [] rfl ⟨rfl, rfl, rfl, rfl, trivial⟩⟩ ?_
  clear S h; rintro ys1 a w1 ⟨i1, ⟨dn, hd1, hi1⟩, h, S⟩
  cases ys1 with
  | nil =>
   rw [points_baseOf_l1.eq_1] at h
   refine f_seq ?_
   refine f_region ?_
   refine lv S (rn_lss (S.tm rfl) (S.tm rfl)) rfl ?_; clear S; intro a S
   refine l_done ?_
   replace S := S.nk [] [(1, .string p_race), (7, v_p_l), (8, .int .i64 (p_l.length : Int)), (9, .int .i64 (i1 : Int)), (10, .bool (decide ((i1 : Int) < (p_l.length : Int))))] [] rfl ⟨rfl, rfl, rfl, rfl, rfl, trivial⟩
   refine then_n ?_
   refine f_seq ?_
   refine wp_cond_false ((S.tm rfl).trans (congrArg Value.bool (rng_nil hd1 hi1))) ?_
   refine wp_exit ?_
   refine then_x ?_
   refine then_x ?_
   refine x_same ?_
   refine then_n ?_
   exact ⟨h, S.nf [] rfl trivial⟩
  | cons y1 ys1 =>
   rw [points_baseOf_l1.eq_2] at h
   refine f_seq ?_
   refine f_region ?_
   refine lv S (rn_lss (S.tm rfl) (S.tm rfl)) rfl ?_; clear S; intro a S
   refine l_done ?_
   replace S := S.nk [] [(1, .string p_race), (7, v_p_l), (8, .int .i64 (p_l.length : Int)), (9, .int .i64 (i1 : Int)), (10, .bool (decide ((i1 : Int) < (p_l.length : Int))))] [] rfl ⟨rfl, rfl, rfl, rfl, rfl, trivial⟩
   refine then_n ?_
   refine f_seq ?_
   refine wp_cond_true ((S.tm rfl).trans (congrArg Value.bool (rng_cons hd1 hi1))) ?_
   refine wp_skip ?_
   refine then_n ?_
   refine f_seq ?_
   refine wp_block ?_
   refine f_seq ?_
   refine f_region ?_
   obtain ⟨b1, o1, hm1, hr1⟩ := rn_indexT (a := a) (x := .tmp 7) (y := .tmp 9) (ty := 0) sl_29 hs_p_l (get_mid hd1 hi1) rfl (S.tm rfl) (S.tm rfl)
   refine lv S (hr1 _) rfl ?_; clear S; intro a S
   clear hr1
   refine lv S (rn_ldA Tryd.isAgg28 Tryd.sizeOf28 (off := o1) (o := 0) (part := [.string y1.Race, .int .i64 y1.Time]) rfl rfl (S.tm rfl) (hm1.at S.emb0)) rfl ?_; clear S; intro a S
   refine l_alloc S Tryd.zeroValue28 (cs := [.string k_empty, .int .i64 0]) rfl rfl ?_; clear S; intro a w3 b2 hz1 hk1 S
   refine l_store S (S.tm rfl) (S.tm rfl) (i := 0) (off := 0) rfl Tryd.sizeOf28 (vs := [.string y1.Race, .int .i64 y1.Time]) rfl rfl rfl rfl ?_; clear S; intro w4 hk2 S
   refine l_done ?_
   replace S := S.nk [.blk b2 [.string y1.Race, .int .i64 y1.Time] 28] [(1, .string p_race), (6, .pointer (some ⟨b2, 0, none⟩)), (7, v_p_l), (8, .int .i64 (p_l.length : Int)), (9, .int .i64 (i1 : Int))] [true] rfl ⟨rfl, rfl, rfl, rfl, rfl, trivial⟩
   refine then_n ?_
   refine f_seq ?_
   refine f_region ?_
   refine lv S (rn_fld fa_28_0 (S.tm rfl)) rfl ?_; clear S; intro a S
   refine lv S (rn_load Tryd.isAgg9 (S.tm rfl) (S.cell (i := 0) rfl rfl)) rfl ?_; clear S; intro a S
   refine lv S (rn_move (S.tm rfl)) rfl ?_; clear S; intro a S
   refine lv S (rn_seql (S.tm rfl) (S.tm rfl)) rfl ?_; clear S; intro a S
   refine l_done ?_
   replace S := S.nk [.blk b2 [.string y1.Race, .int .i64 y1.Time] 28] [(1, .string p_race), (6, .pointer (some ⟨b2, 0, none⟩)), (7, v_p_l), (8, .int .i64 (p_l.length : Int)), (9, .int .i64 (i1 : Int)), (16, .bool (decide (y1.Race = p_race)))] [true] rfl ⟨rfl, rfl, rfl, rfl, rfl, rfl, trivial⟩
   refine then_n ?_
   refine f_cond (S.tm rfl) (fun hb1 => ?_) (fun hb1 => ?_)
   ·replace h := iteT h hb1
    refine f_seq ?_
    refine f_region ?_
    refine lv S (rn_fld fa_28_1 (S.tm rfl)) rfl ?_; clear S; intro a S
    refine lv S (rn_load Tryd.isAgg3 (S.tm rfl) (S.cell (i := 0) rfl rfl)) rfl ?_; clear S; intro a S
    refine lv S (rn_assign (S.tm rfl)) rfl ?_; clear S; intro a S
    refine l_done ?_
    replace S := S.nk [] [(4, .int .i64 y1.Time)] [false] rfl ⟨rfl, trivial⟩
    refine then_n ?_
    refine wp_ret ?_
    refine blk_r ?_
    refine then_r ?_
    refine then_r ?_
    refine blk_r ?_
    refine then_r ?_
    refine then_r ?_
    subst h
    exact f_ret S Tryd.results11 rfl rfl
   ·replace h := iteF h hb1
    refine wp_skip ?_
    refine blk_n ?_
    refine then_n ?_
    refine f_region ?_
    refine lv S (rn_add (S.tm rfl) rfl) rfl ?_; clear S; intro a S
    refine lv S (rn_move (S.tm rfl)) rfl ?_; clear S; intro a S
    refine l_done ?_
    replace S := S.nk [] [(1, .string p_race), (7, v_p_l), (8, .int .i64 (p_l.length : Int)), (9, .int .i64 (W ((i1 : Int) + 1)))] [false] rfl ⟨rfl, rfl, rfl, rfl, trivial⟩
    refine then_n ?_
    exact ⟨ys1, ⟨i1 + 1, ⟨_, (hd1).trans (List.append_cons _ _ _), by simp [hi1]⟩, h, S.nf [] rfl ⟨rfl, rfl, rfl, (congrArg (fun z => some (Value.int .i64 z)) (rng_next hd1 hi1 (slc_max hs_p_l))), trivial⟩⟩, Nat.lt_succ_self _⟩
 clear S h; rintro a w2 ⟨h, S⟩; rw [hj1] at h; clear hj1 j1
 refine then_n ?_
 refine f_seq ?_
 refine f_region ?_
 refine lv S (rn_assign rfl) rfl ?_; clear S; intro a S
 refine l_done ?_
 replace S := S.nk [] [(4, .int .i64 0)] [] rfl ⟨rfl, trivial⟩
 refine then_n ?_
 refine wp_ret ?_
 subst h
 exact f_ret S Tryd.results11 rfl rfl
theorem bits_Mul64_ok (w : World) (p_x : Int) (p_y : Int) (r : Int × Int) (h : bits_Mul64 p_x p_y = r) :
    Calls Tryd.prog 20 [.int .u64 p_x, .int .u64 p_y].toArray w (Ret w [] fun _ v _ => v = .tuple #[.int .u64 r.1, .int .u64 r.2]) := by
 refine f_enter [] [] Tryd.func20 rfl Tryd.ntmps20 rfl (by simp) (by simp [fps]) (by simp [fps]) fun a S => ?_
 unfold bits_Mul64 at h
 replace S := S.nk [] [(0, .int .u64 p_x), (1, .int .u64 p_y)] [] rfl ⟨rfl, rfl, trivial⟩
 refine f_seq ?_
 refine f_region ?_
 refine lv S (rn_assign rfl) rfl ?_; clear S; intro a S
 refine lv S (rn_assign rfl) rfl ?_; clear S; intro a S
 refine l_done ?_
 replace S := S.nk [] [(0, .int .u64 p_x), (1, .int .u64 p_y)] [] rfl ⟨rfl, rfl, trivial⟩
 refine then_n ?_
 refine f_seq ?_
 refine f_region ?_
 refine lv S (rn_move (S.tm rfl)) rfl ?_; clear S; intro a S
 refine lv S (rn_and_ (S.tm rfl) rfl) rfl ?_; clear S; intro a S
 refine lv S (rn_assign (S.tm rfl)) rfl ?_; clear S; intro a S
 refine l_done ?_
 replace S := S.nk [] [(0, .int .u64 p_x), (1, .int .u64 p_y), (6, .int .u64 (bitAnd .u64 p_x 4294967295))] [] rfl ⟨rfl, rfl, rfl, trivial⟩
 refine then_n ?_
 refine f_seq ?_
 refine f_region ?_
 refine lv S (rn_move (S.tm rfl)) rfl ?_; clear S; intro a S
 refine lv S (rn_shr (S.tm rfl) rfl (by decide)) rfl ?_; clear S; intro a S
 refine lv S (rn_assign (S.tm rfl)) rfl ?_; clear S; intro a S
 refine l_done ?_
 replace S := S.nk [] [(0, .int .u64 p_x), (1, .int .u64 p_y), (6, .int .u64 (bitAnd .u64 p_x 4294967295)), (7, .int .u64 (bitShr .u64 p_x 32))] [] rfl ⟨rfl, rfl, rfl, rfl, trivial⟩
 refine then_n ?_
 refine f_seq ?_
 refine f_region ?_
 refine lv S (rn_move (S.tm rfl)) rfl ?_; clear S; intro a S
 refine lv S (rn_and_ (S.tm rfl) rfl) rfl ?_; clear S; intro a S
 refine lv S (rn_assign (S.tm rfl)) rfl ?_; clear S; intro a S
 refine l_done ?_
 replace S := S.nk [] [(0, .int .u64 p_x), (1, .int .u64 p_y), (6, .int .u64 (bitAnd .u64 p_x 4294967295)), (7, .int .u64 (bitShr .u64 p_x 32)), (8, .int .u64 (bitAnd .u64 p_y 4294967295))] [] rfl ⟨rfl, rfl, rfl, rfl, rfl, trivial⟩
 refine then_n ?_
 refine f_seq ?_
 refine f_region ?_
 refine lv S (rn_move (S.tm rfl)) rfl ?_; clear S; intro a S
 refine lv S (rn_shr (S.tm rfl) rfl (by decide)) rfl ?_; clear S; intro a S
 refine lv S (rn_assign (S.tm rfl)) rfl ?_; clear S; intro a S
 refine l_done ?_
 replace S := S.nk [] [(0, .int .u64 p_x), (1, .int .u64 p_y), (6, .int .u64 (bitAnd .u64 p_x 4294967295)), (7, .int .u64 (bitShr .u64 p_x 32)), (8, .int .u64 (bitAnd .u64 p_y 4294967295)), (9, .int .u64 (bitShr .u64 p_y 32))] [] rfl ⟨rfl, rfl, rfl, rfl, rfl, rfl, trivial⟩
 refine then_n ?_
 refine f_seq ?_
 refine f_region ?_
 refine lv S (rn_move (S.tm rfl)) rfl ?_; clear S; intro a S
 refine lv S (rn_move (S.tm rfl)) rfl ?_; clear S; intro a S
 refine lv S (rn_mulk (S.tm rfl) (S.tm rfl)) rfl ?_; clear S; intro a S
 refine lv S (rn_assign (S.tm rfl)) rfl ?_; clear S; intro a S
 refine l_done ?_
 replace S := S.nk [] [(0, .int .u64 p_x), (1, .int .u64 p_y), (6, .int .u64 (bitAnd .u64 p_x 4294967295)), (7, .int .u64 (bitShr .u64 p_x 32)), (8, .int .u64 (bitAnd .u64 p_y 4294967295)), (9, .int .u64 (bitShr .u64 p_y 32)), (10, .int .u64 (IntKind.wrap .u64 ((bitAnd .u64 p_x 4294967295) * (bitAnd .u64 p_y 4294967295))))] [] rfl ⟨rfl, rfl, rfl, rfl, rfl, rfl, rfl, trivial⟩
 refine then_n ?_
 refine f_seq ?_
 refine f_region ?_
 refine lv S (rn_move (S.tm rfl)) rfl ?_; clear S; intro a S
 refine lv S (rn_move (S.tm rfl)) rfl ?_; clear S; intro a S
 refine lv S (rn_mulk (S.tm rfl) (S.tm rfl)) rfl ?_; clear S; intro a S
 refine lv S (rn_move (S.tm rfl)) rfl ?_; clear S; intro a S
 refine lv S (rn_shr (S.tm rfl) rfl (by decide)) rfl ?_; clear S; intro a S
 refine lv S (rn_addk (S.tm rfl) (S.tm rfl)) rfl ?_; clear S; intro a S
 refine lv S (rn_assign (S.tm rfl)) rfl ?_; clear S; intro a S
 refine l_done ?_
 replace S := S.nk [] [(0, .int .u64 p_x), (1, .int .u64 p_y), (6, .int .u64 (bitAnd .u64 p_x 4294967295)), (7, .int .u64 (bitShr .u64 p_x 32)), (9, .int .u64 (bitShr .u64 p_y 32)), (11, .int .u64 (IntKind.wrap .u64 ((IntKind.wrap .u64 ((bitShr .u64 p_x 32) * (bitAnd .u64 p_y 4294967295))) + (bitShr .u64 (IntKind.wrap .u64 ((bitAnd .u64 p_x 4294967295) * (bitAnd .u64 p_y 4294967295))) 32))))] [] rfl ⟨rfl, rfl, rfl, rfl, rfl, rfl, trivial⟩
 refine then_n ?_
 refine f_seq ?_
 refine f_region ?_
 refine lv S (rn_move (S.tm rfl)) rfl ?_; clear S; intro a S
 refine lv S (rn_and_ (S.tm rfl) rfl) rfl ?_; clear S; intro a S
 refine lv S (rn_assign (S.tm rfl)) rfl ?_; clear S; intro a S
 refine l_done ?_
 replace S := S.nk [] [(0, .int .u64 p_x), (1, .int .u64 p_y), (6, .int .u64 (bitAnd .u64 p_x 4294967295)), (7, .int .u64 (bitShr .u64 p_x 32)), (9, .int .u64 (bitShr .u64 p_y 32)), (11, .int .u64 (IntKind.wrap .u64 ((IntKind.wrap .u64 ((bitShr .u64 p_x 32) * (bitAnd .u64 p_y 4294967295))) + (bitShr .u64 (IntKind.wrap .u64 ((bitAnd .u64 p_x 4294967295) * (bitAnd .u64 p_y 4294967295))) 32)))), (12, .int .u64 (bitAnd .u64 (IntKind.wrap .u64 ((IntKind.wrap .u64 ((bitShr .u64 p_x 32) * (bitAnd .u64 p_y 4294967295))) + (bitShr .u64 (IntKind.wrap .u64 ((bitAnd .u64 p_x 4294967295) * (bitAnd .u64 p_y 4294967295))) 32))) 4294967295))] [] rfl ⟨rfl, rfl, rfl, rfl, rfl, rfl, rfl, trivial⟩
 refine then_n ?_
 refine f_seq ?_
 refine f_region ?_
 refine lv S (rn_move (S.tm rfl)) rfl ?_; clear S; intro a S
 refine lv S (rn_shr (S.tm rfl) rfl (by decide)) rfl ?_; clear S; intro a S
 refine lv S (rn_assign (S.tm rfl)) rfl ?_; clear S; intro a S
 refine l_done ?_
 replace S := S.nk [] [(0, .int .u64 p_x), (1, .int .u64 p_y), (6, .int .u64 (bitAnd .u64 p_x 4294967295)), (7, .int .u64 (bitShr .u64 p_x 32)), (9, .int .u64 (bitShr .u64 p_y 32)), (12, .int .u64 (bitAnd .u64 (IntKind.wrap .u64 ((IntKind.wrap .u64 ((bitShr .u64 p_x 32) * (bitAnd .u64 p_y 4294967295))) + (bitShr .u64 (IntKind.wrap .u64 ((bitAnd .u64 p_x 4294967295) * (bitAnd .u64 p_y 4294967295))) 32))) 4294967295)), (13, .int .u64 (bitShr .u64 (IntKind.wrap .u64 ((IntKind.wrap .u64 ((bitShr .u64 p_x 32) * (bitAnd .u64 p_y 4294967295))) + (bitShr .u64 (IntKind.wrap .u64 ((bitAnd .u64 p_x 4294967295) * (bitAnd .u64 p_y 4294967295))) 32))) 32))] [] rfl ⟨rfl, rfl, rfl, rfl, rfl, rfl, rfl, trivial⟩
 refine then_n ?_
 refine f_seq ?_
 refine f_region ?_
 refine lv S (rn_move (S.tm rfl)) rfl ?_; clear S; intro a S
 refine lv S (rn_move (S.tm rfl)) rfl ?_; clear S; intro a S
 refine lv S (rn_move (S.tm rfl)) rfl ?_; clear S; intro a S
 refine lv S (rn_mulk (S.tm rfl) (S.tm rfl)) rfl ?_; clear S; intro a S
 refine lv S (rn_addk (S.tm rfl) (S.tm rfl)) rfl ?_; clear S; intro a S
 refine lv S (rn_assign (S.tm rfl)) rfl ?_; clear S; intro a S
 refine l_done ?_
 replace S := S.nk [] [(0, .int .u64 p_x), (1, .int .u64 p_y), (7, .int .u64 (bitShr .u64 p_x 32)), (9, .int .u64 (bitShr .u64 p_y 32)), (12, .int .u64 (IntKind.wrap .u64 ((bitAnd .u64 (IntKind.wrap .u64 ((IntKind.wrap .u64 ((bitShr .u64 p_x 32) * (bitAnd .u64 p_y 4294967295))) + (bitShr .u64 (IntKind.wrap .u64 ((bitAnd .u64 p_x 4294967295) * (bitAnd .u64 p_y 4294967295))) 32))) 4294967295) + (IntKind.wrap .u64 ((bitAnd .u64 p_x 4294967295) * (bitShr .u64 p_y 32)))))), (13, .int .u64 (bitShr .u64 (IntKind.wrap .u64 ((IntKind.wrap .u64 ((bitShr .u64 p_x 32) * (bitAnd .u64 p_y 4294967295))) + (bitShr .u64 (IntKind.wrap .u64 ((bitAnd .u64 p_x 4294967295) * (bitAnd .u64 p_y 4294967295))) 32))) 32))] [] rfl ⟨rfl, rfl, rfl, rfl, rfl, rfl, trivial⟩
 refine then_n ?_
 refine f_seq ?_
 refine f_region ?_
 refine lv S (rn_move (S.tm rfl)) rfl ?_; clear S; intro a S
 refine lv S (rn_move (S.tm rfl)) rfl ?_; clear S; intro a S
 refine lv S (rn_mulk (S.tm rfl) (S.tm rfl)) rfl ?_; clear S; intro a S
 refine lv S (rn_move (S.tm rfl)) rfl ?_; clear S; intro a S
 refine lv S (rn_addk (S.tm rfl) (S.tm rfl)) rfl ?_; clear S; intro a S
 refine lv S (rn_move (S.tm rfl)) rfl ?_; clear S; intro a S
 refine lv S (rn_shr (S.tm rfl) rfl (by decide)) rfl ?_; clear S; intro a S
 refine lv S (rn_addk (S.tm rfl) (S.tm rfl)) rfl ?_; clear S; intro a S
 refine lv S (rn_assign (S.tm rfl)) rfl ?_; clear S; intro a S
 refine l_done ?_
 replace S := S.nk [] [(0, .int .u64 p_x), (1, .int .u64 p_y), (4, .int .u64 (IntKind.wrap .u64 ((IntKind.wrap .u64 ((IntKind.wrap .u64 ((bitShr .u64 p_x 32) * (bitShr .u64 p_y 32))) + (bitShr .u64 (IntKind.wrap .u64 ((IntKind.wrap .u64 ((bitShr .u64 p_x 32) * (bitAnd .u64 p_y 4294967295))) + (bitShr .u64 (IntKind.wrap .u64 ((bitAnd .u64 p_x 4294967295) * (bitAnd .u64 p_y 4294967295))) 32))) 32))) + (bitShr .u64 (IntKind.wrap .u64 ((bitAnd .u64 (IntKind.wrap .u64 ((IntKind.wrap .u64 ((bitShr .u64 p_x 32) * (bitAnd .u64 p_y 4294967295))) + (bitShr .u64 (IntKind.wrap .u64 ((bitAnd .u64 p_x 4294967295) * (bitAnd .u64 p_y 4294967295))) 32))) 4294967295) + (IntKind.wrap .u64 ((bitAnd .u64 p_x 4294967295) * (bitShr .u64 p_y 32))))) 32))))] [] rfl ⟨rfl, rfl, rfl, trivial⟩
 refine then_n ?_
 refine f_seq ?_
 refine f_region ?_
 refine lv S (rn_move (S.tm rfl)) rfl ?_; clear S; intro a S
 refine lv S (rn_move (S.tm rfl)) rfl ?_; clear S; intro a S
 refine lv S (rn_mulk (S.tm rfl) (S.tm rfl)) rfl ?_; clear S; intro a S
 refine lv S (rn_assign (S.tm rfl)) rfl ?_; clear S; intro a S
 refine l_done ?_
 replace S := S.nk [] [(4, .int .u64 (IntKind.wrap .u64 ((IntKind.wrap .u64 ((IntKind.wrap .u64 ((bitShr .u64 p_x 32) * (bitShr .u64 p_y 32))) + (bitShr .u64 (IntKind.wrap .u64 ((IntKind.wrap .u64 ((bitShr .u64 p_x 32) * (bitAnd .u64 p_y 4294967295))) + (bitShr .u64 (IntKind.wrap .u64 ((bitAnd .u64 p_x 4294967295) * (bitAnd .u64 p_y 4294967295))) 32))) 32))) + (bitShr .u64 (IntKind.wrap .u64 ((bitAnd .u64 (IntKind.wrap .u64 ((IntKind.wrap .u64 ((bitShr .u64 p_x 32) * (bitAnd .u64 p_y 4294967295))) + (bitShr .u64 (IntKind.wrap .u64 ((bitAnd .u64 p_x 4294967295) * (bitAnd .u64 p_y 4294967295))) 32))) 4294967295) + (IntKind.wrap .u64 ((bitAnd .u64 p_x 4294967295) * (bitShr .u64 p_y 32))))) 32)))), (5, .int .u64 (IntKind.wrap .u64 (p_x * p_y)))] [] rfl ⟨rfl, rfl, trivial⟩
 refine then_n ?_
 refine wp_ret ?_
 subst h
 exact f_ret2 S Tryd.results20 rfl rfl rfl
set_option maxRecDepth 20000 in
theorem bits_Len64_ok (w : World) (p_x : Int) (r : Int) (h : bits_Len64 p_x = some r) :
    Calls Tryd.prog 44 [.int .u64 p_x].toArray w (Ret w [] fun _ v _ => v = .int .i64 r) := by
 refine f_enter [] [] Tryd.func44 rfl Tryd.ntmps44 rfl (by simp) (by simp [fps]) (by simp [fps]) fun a S => ?_
 unfold bits_Len64 at h
 replace S := S.nk [] [(0, .int .u64 p_x)] [] rfl ⟨rfl, trivial⟩
 refine f_seq ?_
 refine f_region ?_
 refine lv S (rn_assign rfl) rfl ?_; clear S; intro a S
 refine l_done ?_
 replace S := S.nk [] [(0, .int .u64 p_x), (2, .int .i64 0)] [] rfl ⟨rfl, rfl, trivial⟩
 refine then_n ?_
 refine f_seq ?_
 refine f_seq ?_
 refine f_region ?_
 refine lv S (rn_move (S.tm rfl)) rfl ?_; clear S; intro a S
 refine lv S (rn_geq (S.tm rfl) rfl) rfl ?_; clear S; intro a S
 refine l_done ?_
 replace S := S.nk [] [(0, .int .u64 p_x), (2, .int .i64 0), (4, .bool (decide (4294967296 ≤ p_x)))] [] rfl ⟨rfl, rfl, rfl, trivial⟩
 refine then_n ?_
 obtain ⟨j1, hj1, h⟩ := joinE h
 refine f_join (fun a w' => ∃ x1 : Int, ∃ x2 : Int, j1 x1 x2 = some r ∧ Sx w [] nov [] [(0, .int .u64 x1), (2, .int .i64 x2)] 25 a w') ?_ ?_
 ·refine f_cond (S.tm rfl) (fun hb1 => ?_) (fun hb1 => ?_)
  ·replace h := iteT h hb1
   refine f_seq ?_
   refine f_region ?_
   refine lv S (rn_move (S.tm rfl)) rfl ?_; clear S; intro a S
   refine lv S (rn_shr (S.tm rfl) rfl (by decide)) rfl ?_; clear S; intro a S
   refine lv S (rn_assign (S.tm rfl)) rfl ?_; clear S; intro a S
   refine l_done ?_
   replace S := S.nk [] [(0, .int .u64 (bitShr .u64 p_x 32))] [] rfl ⟨rfl, trivial⟩
   refine then_n ?_
   refine f_region ?_
   refine lv S (rn_assign rfl) rfl ?_; clear S; intro a S
   refine l_done ?_
   replace S := S.nk [] [(0, .int .u64 (bitShr .u64 p_x 32)), (2, .int .i64 32)] [] rfl ⟨rfl, rfl, trivial⟩
   refine then_n ?_
   exact ⟨bitShr .u64 p_x 32, 32, h, S.nf [] rfl ⟨rfl, rfl, trivial⟩⟩
  ·replace h := iteF h hb1
   refine wp_skip ?_
   refine then_n ?_
   exact ⟨p_x, 0, h, S.nf [] rfl ⟨rfl, rfl, trivial⟩⟩
 clear S h; rintro a w1 ⟨x1, x2, h, S⟩; rw [hj1] at h; clear hj1 j1
 refine then_n ?_
 refine f_seq ?_
 refine f_seq ?_
 refine f_region ?_
 refine lv S (rn_move (S.tm rfl)) rfl ?_; clear S; intro a S
 refine lv S (rn_geq (S.tm rfl) rfl) rfl ?_; clear S; intro a S
 refine l_done ?_
 replace S := S.nk [] [(0, .int .u64 x1), (2, .int .i64 x2), (8, .bool (decide (65536 ≤ x1)))] [] rfl ⟨rfl, rfl, rfl, trivial⟩
 refine then_n ?_
 obtain ⟨j2, hj2, h⟩ := joinE h
 refine f_join (fun a w' => ∃ x3 : Int, ∃ x4 : Int, j2 x3 x4 = some r ∧ Sx w [] nov [] [(0, .int .u64 x3), (2, .int .i64 x4)] 25 a w') ?_ ?_
 ·refine f_cond (S.tm rfl) (fun hb2 => ?_) (fun hb2 => ?_)
  ·replace h := iteT h hb2
   refine f_seq ?_
   refine f_region ?_
   refine lv S (rn_move (S.tm rfl)) rfl ?_; clear S; intro a S
   refine lv S (rn_shr (S.tm rfl) rfl (by decide)) rfl ?_; clear S; intro a S
   refine lv S (rn_assign (S.tm rfl)) rfl ?_; clear S; intro a S
   refine l_done ?_
   replace S := S.nk [] [(0, .int .u64 (bitShr .u64 x1 16)), (2, .int .i64 x2)] [] rfl ⟨rfl, rfl, trivial⟩
   refine then_n ?_
   refine f_region ?_
   refine lv S (rn_move (S.tm rfl)) rfl ?_; clear S; intro a S
   refine lv S (rn_add (S.tm rfl) rfl) rfl ?_; clear S; intro a S
   refine lv S (rn_assign (S.tm rfl)) rfl ?_; clear S; intro a S
   refine l_done ?_
   replace S := S.nk [] [(0, .int .u64 (bitShr .u64 x1 16)), (2, .int .i64 (W (x2 + 16)))] [] rfl ⟨rfl, rfl, trivial⟩
   refine then_n ?_
   exact ⟨bitShr .u64 x1 16, W (x2 + 16), h, S.nf [] rfl ⟨rfl, rfl, trivial⟩⟩
  ·replace h := iteF h hb2
   refine wp_skip ?_
   refine then_n ?_
   exact ⟨x1, x2, h, S.nf [] rfl ⟨rfl, rfl, trivial⟩⟩
 clear S h; rintro a w2 ⟨x3, x4, h, S⟩; rw [hj2] at h; clear hj2 j2
 refine then_n ?_
 refine f_seq ?_
 refine f_seq ?_
 refine f_region ?_
 refine lv S (rn_move (S.tm rfl)) rfl ?_; clear S; intro a S
 refine lv S (rn_geq (S.tm rfl) rfl) rfl ?_; clear S; intro a S
 refine l_done ?_
 replace S := S.nk [] [(0, .int .u64 x3), (2, .int .i64 x4), (14, .bool (decide (256 ≤ x3)))] [] rfl ⟨rfl, rfl, rfl, trivial⟩
 refine then_n ?_
 obtain ⟨j3, hj3, h⟩ := joinE h
 refine f_join (fun a w' => ∃ x5 : Int, ∃ x6 : Int, j3 x5 x6 = some r ∧ Sx w [] nov [] [(0, .int .u64 x5), (2, .int .i64 x6)] 25 a w') ?_ ?_
 ·refine f_cond (S.tm rfl) (fun hb3 => ?_) (fun hb3 => ?_)
  ·replace h := iteT h hb3
   refine f_seq ?_
   refine f_region ?_
   refine lv S (rn_move (S.tm rfl)) rfl ?_; clear S; intro a S
   refine lv S (rn_shr (S.tm rfl) rfl (by decide)) rfl ?_; clear S; intro a S
   refine lv S (rn_assign (S.tm rfl)) rfl ?_; clear S; intro a S
   refine l_done ?_
   replace S := S.nk [] [(0, .int .u64 (bitShr .u64 x3 8)), (2, .int .i64 x4)] [] rfl ⟨rfl, rfl, trivial⟩
   refine then_n ?_
   refine f_region ?_
   refine lv S (rn_move (S.tm rfl)) rfl ?_; clear S; intro a S
   refine lv S (rn_add (S.tm rfl) rfl) rfl ?_; clear S; intro a S
   refine lv S (rn_assign (S.tm rfl)) rfl ?_; clear S; intro a S
   refine l_done ?_
   replace S := S.nk [] [(0, .int .u64 (bitShr .u64 x3 8)), (2, .int .i64 (W (x4 + 8)))] [] rfl ⟨rfl, rfl, trivial⟩
   refine then_n ?_
   exact ⟨bitShr .u64 x3 8, W (x4 + 8), h, S.nf [] rfl ⟨rfl, rfl, trivial⟩⟩
  ·replace h := iteF h hb3
   refine wp_skip ?_
   refine then_n ?_
   exact ⟨x3, x4, h, S.nf [] rfl ⟨rfl, rfl, trivial⟩⟩
 clear S h; rintro a w3 ⟨x5, x6, h, S⟩; rw [hj3] at h; clear hj3 j3
 refine then_n ?_
 refine f_seq ?_
 refine f_region ?_
 refine lv S (rn_move (S.tm rfl)) rfl ?_; clear S; intro a S
 refine lv S (rn_move (S.tm rfl)) rfl ?_; clear S; intro a S
 refine lv S (rn_conv Tryd.underlying60 Tryd.underlying5 (S.tm rfl)) rfl ?_; clear S; intro a S
 obtain ⟨hc1, h⟩ := chkE h
 refine lv S (rn_sindexT Tryd.underlying9 rfl (S.tm rfl) hc1) rfl ?_; clear S; intro a S
 refine lv S (rn_conv Tryd.underlying5 Tryd.underlying3 (S.tm rfl)) rfl ?_; clear S; intro a S
 refine lv S (rn_add (S.tm rfl) (S.tm rfl)) rfl ?_; clear S; intro a S
 refine lv S (rn_assign (S.tm rfl)) rfl ?_; clear S; intro a S
 refine l_done ?_
 replace S := S.nk [] [(2, .int .i64 (W (x6 + (W (sbyte k__00_01_02_02_h633d86 (IntKind.wrap .u8 x5))))))] [] rfl ⟨rfl, trivial⟩
 refine then_n ?_
 refine wp_ret ?_
 obtain rfl := Option.some.inj h
 exact f_ret S Tryd.results44 rfl rfl
theorem bits_LeadingZeros64_ok (w : World) (p_x : Int) (r : Int) (h : bits_LeadingZeros64 p_x = some r) :
    Calls Tryd.prog 31 [.int .u64 p_x].toArray w (Ret w [] fun _ v _ => v = .int .i64 r) := by
 refine f_enter [] [] Tryd.func31 rfl Tryd.ntmps31 rfl (by simp) (by simp [fps]) (by simp [fps]) fun a S => ?_
 unfold bits_LeadingZeros64 at h
 replace S := S.nk [] [(0, .int .u64 p_x)] [] rfl ⟨rfl, trivial⟩
 refine f_seq ?_
 refine f_region ?_
 refine lv S (rn_assign rfl) rfl ?_; clear S; intro a S
 refine l_done ?_
 replace S := S.nk [] [(0, .int .u64 p_x)] [] rfl ⟨rfl, trivial⟩
 refine then_n ?_
 refine f_seq ?_
 refine f_region ?_
 refine lv S (rn_move (S.tm rfl)) rfl ?_; clear S; intro a S
 obtain ⟨r1, hr1, h⟩ := bindE h
 refine l_enter S (fun _ => run_call (vs := [.int .u64 p_x]) ⟨(S.tm rfl), trivial⟩ Tryd.call44) (bits_Len64_ok _ p_x _ hr1) rfl ?_; clear S; intro v1 a w1 hv1 hk1 hn1 S
 subst hv1
 refine lv S (rn_sub rfl (S.tm rfl)) rfl ?_; clear S; intro a S
 refine lv S (rn_assign (S.tm rfl)) rfl ?_; clear S; intro a S
 refine l_done ?_
 replace S := S.nk [] [(2, .int .i64 (W (64 - r1)))] [] rfl ⟨rfl, trivial⟩
 refine then_n ?_
 refine wp_ret ?_
 obtain rfl := Option.some.inj h
 exact f_ret S Tryd.results31 rfl rfl
set_option maxRecDepth 20000 in
theorem bits_Div64_ok (w : World) (p_hi : Int) (p_lo : Int) (p_y : Int) (r : Int × Int) (h : bits_Div64 p_hi p_lo p_y = some r) :
    Calls Tryd.prog 21 [.int .u64 p_hi, .int .u64 p_lo, .int .u64 p_y].toArray w (Ret w [] fun _ v _ => v = .tuple #[.int .u64 r.1, .int .u64 r.2]) := by
 refine f_enter [] [] Tryd.func21 rfl Tryd.ntmps21 rfl (by simp) (by simp [fps]) (by simp [fps]) fun a S => ?_
 unfold bits_Div64 at h
 replace S := S.nk [] [(0, .int .u64 p_hi), (1, .int .u64 p_lo), (2, .int .u64 p_y)] [] rfl ⟨rfl, rfl, rfl, trivial⟩
 refine f_seq ?_
 refine f_region ?_
 refine lv S (rn_assign rfl) rfl ?_; clear S; intro a S
 refine lv S (rn_assign rfl) rfl ?_; clear S; intro a S
 refine l_done ?_
 replace S := S.nk [] [(0, .int .u64 p_hi), (1, .int .u64 p_lo), (2, .int .u64 p_y)] [] rfl ⟨rfl, rfl, rfl, trivial⟩
 refine then_n ?_
 refine f_seq ?_
 refine f_seq ?_
 refine f_region ?_
 refine lv S (rn_move (S.tm rfl)) rfl ?_; clear S; intro a S
 refine lv S (rn_eql (S.tm rfl) rfl) rfl ?_; clear S; intro a S
 refine l_done ?_
 replace S := S.nk [] [(0, .int .u64 p_hi), (1, .int .u64 p_lo), (2, .int .u64 p_y), (20, .bool (decide (p_y = 0)))] [] rfl ⟨rfl, rfl, rfl, rfl, trivial⟩
 refine then_n ?_
 refine f_cond (S.tm rfl) (fun hb1 => ?_) (fun hb1 => ?_)
 ·replace h := iteT h hb1
  cases h
 ·replace h := iteF h hb1
  refine wp_skip ?_
  refine then_n ?_
  refine f_seq ?_
  refine f_seq ?_
  refine f_region ?_
  refine lv S (rn_move (S.tm rfl)) rfl ?_; clear S; intro a S
  refine lv S (rn_move (S.tm rfl)) rfl ?_; clear S; intro a S
  refine lv S (rn_leq (S.tm rfl) (S.tm rfl)) rfl ?_; clear S; intro a S
  refine l_done ?_
  replace S := S.nk [] [(0, .int .u64 p_hi), (1, .int .u64 p_lo), (2, .int .u64 p_y), (24, .bool (decide (p_y ≤ p_hi)))] [] rfl ⟨rfl, rfl, rfl, rfl, trivial⟩
  refine then_n ?_
  refine f_cond (S.tm rfl) (fun hb2 => ?_) (fun hb2 => ?_)
  ·replace h := iteT h hb2
   cases h
  ·replace h := iteF h hb2
   refine wp_skip ?_
   refine then_n ?_
   refine f_seq ?_
   refine f_seq ?_
   refine f_region ?_
   refine lv S (rn_move (S.tm rfl)) rfl ?_; clear S; intro a S
   refine lv S (rn_eql (S.tm rfl) rfl) rfl ?_; clear S; intro a S
   refine l_done ?_
   replace S := S.nk [] [(0, .int .u64 p_hi), (1, .int .u64 p_lo), (2, .int .u64 p_y), (27, .bool (decide (p_hi = 0)))] [] rfl ⟨rfl, rfl, rfl, rfl, trivial⟩
   refine then_n ?_
   refine f_cond (S.tm rfl) (fun hb3 => ?_) (fun hb3 => ?_)
   ·replace h := iteT h hb3
    refine f_seq ?_
    refine d_region [] ([]) Tryd.mixed S rfl (by kernel_rfl) ?_; clear S; intro w1 hk1 hsel S
    refine d_rest [0, 1, 2, 3, 4, 5, 6, 7] hsel (by kernel_rfl) rfl ?_
    clear hsel
    refine s_lv S rfl (rn_move (S.tm rfl)) rfl ?_; clear S; intro a S
    refine s_lv S rfl (rn_move (S.tm rfl)) rfl ?_; clear S; intro a S
    obtain ⟨hc1, h⟩ := chkE h
    refine s_lv S rfl (rn_quok (S.tm rfl) (S.tm rfl) (ne0_of hc1)) rfl ?_; clear S; intro a S
    refine s_lv S rfl (rn_move (S.tm rfl)) rfl ?_; clear S; intro a S
    refine s_lv S rfl (rn_move (S.tm rfl)) rfl ?_; clear S; intro a S
    obtain ⟨hc2, h⟩ := chkE h
    refine s_lv S rfl (rn_remk (S.tm rfl) (S.tm rfl) (ne0_of hc2)) rfl ?_; clear S; intro a S
    refine s_lv S rfl (rn_assign (S.tm rfl)) rfl ?_; clear S; intro a S
    refine s_lv S rfl (rn_assign (S.tm rfl)) rfl ?_; clear S; intro a S
    refine s_done ?_
    replace S := S.nk [] [(6, .int .u64 (IntKind.wrap .u64 (Int.tdiv p_lo p_y))), (7, .int .u64 (Int.tmod p_lo p_y))] [] rfl ⟨rfl, rfl, trivial⟩
    refine then_n ?_
    refine wp_ret ?_
    refine then_r ?_
    obtain rfl := Option.some.inj h
    exact f_ret2 S Tryd.results21 rfl rfl rfl
   ·replace h := iteF h hb3
    refine wp_skip ?_
    refine then_n ?_
    refine f_seq ?_
    refine f_region ?_
    refine lv S (rn_move (S.tm rfl)) rfl ?_; clear S; intro a S
    obtain ⟨r1, hr1, h⟩ := bindE h
    refine l_enter S (fun _ => run_call (vs := [.int .u64 p_y]) ⟨(S.tm rfl), trivial⟩ Tryd.call31) (bits_LeadingZeros64_ok _ p_y _ hr1) rfl ?_; clear S; intro v1 a w2 hv1 hk2 hn1 S
    subst hv1
    refine lv S (rn_conv Tryd.underlying3 Tryd.underlying72 (S.tm rfl)) rfl ?_; clear S; intro a S
    refine lv S (rn_assign (S.tm rfl)) rfl ?_; clear S; intro a S
    refine l_done ?_
    replace S := S.nk [] [(0, .int .u64 p_hi), (1, .int .u64 p_lo), (2, .int .u64 p_y), (8, .int .u64 (IntKind.wrap .u64 r1))] [] rfl ⟨rfl, rfl, rfl, rfl, trivial⟩
    refine then_n ?_
    refine f_seq ?_
    refine f_region ?_
    refine lv S (rn_move (S.tm rfl)) rfl ?_; clear S; intro a S
    refine lv S (rn_move (S.tm rfl)) rfl ?_; clear S; intro a S
    obtain ⟨hc3, h⟩ := chkE h
    refine lv S (rn_shl (S.tm rfl) (S.tm rfl) (of_decide_eq_true hc3)) rfl ?_; clear S; intro a S
    refine lv S (rn_assign (S.tm rfl)) rfl ?_; clear S; intro a S
    refine l_done ?_
    replace S := S.nk [] [(0, .int .u64 p_hi), (1, .int .u64 p_lo), (2, .int .u64 (bitShl .u64 p_y (IntKind.wrap .u64 r1))), (8, .int .u64 (IntKind.wrap .u64 r1))] [] rfl ⟨rfl, rfl, rfl, rfl, trivial⟩
    refine then_n ?_
    refine f_seq ?_
    refine f_region ?_
    refine lv S (rn_move (S.tm rfl)) rfl ?_; clear S; intro a S
    refine lv S (rn_shr (S.tm rfl) rfl (by decide)) rfl ?_; clear S; intro a S
    refine lv S (rn_assign (S.tm rfl)) rfl ?_; clear S; intro a S
    refine l_done ?_
    replace S := S.nk [] [(0, .int .u64 p_hi), (1, .int .u64 p_lo), (2, .int .u64 (bitShl .u64 p_y (IntKind.wrap .u64 r1))), (8, .int .u64 (IntKind.wrap .u64 r1)), (9, .int .u64 (bitShr .u64 (bitShl .u64 p_y (IntKind.wrap .u64 r1)) 32))] [] rfl ⟨rfl, rfl, rfl, rfl, rfl, trivial⟩
    refine then_n ?_
    refine f_seq ?_
    refine f_region ?_
    refine lv S (rn_move (S.tm rfl)) rfl ?_; clear S; intro a S
    refine lv S (rn_and_ (S.tm rfl) rfl) rfl ?_; clear S; intro a S
    refine lv S (rn_assign (S.tm rfl)) rfl ?_; clear S; intro a S
    refine l_done ?_
    replace S := S.nk [] [(0, .int .u64 p_hi), (1, .int .u64 p_lo), (2, .int .u64 (bitShl .u64 p_y (IntKind.wrap .u64 r1))), (8, .int .u64 (IntKind.wrap .u64 r1)), (9, .int .u64 (bitShr .u64 (bitShl .u64 p_y (IntKind.wrap .u64 r1)) 32)), (10, .int .u64 (bitAnd .u64 (bitShl .u64 p_y (IntKind.wrap .u64 r1)) 4294967295))] [] rfl ⟨rfl, rfl, rfl, rfl, rfl, rfl, trivial⟩
    refine then_n ?_
    refine f_seq ?_
    refine f_region ?_
    refine lv S (rn_move (S.tm rfl)) rfl ?_; clear S; intro a S
    refine lv S (rn_move (S.tm rfl)) rfl ?_; clear S; intro a S
    obtain ⟨hc4, h⟩ := chkE h
    refine lv S (rn_shl (S.tm rfl) (S.tm rfl) (of_decide_eq_true hc4)) rfl ?_; clear S; intro a S
    refine lv S (rn_move (S.tm rfl)) rfl ?_; clear S; intro a S
    refine lv S (rn_move (S.tm rfl)) rfl ?_; clear S; intro a S
    refine lv S (rn_subk rfl (S.tm rfl)) rfl ?_; clear S; intro a S
    obtain ⟨hc5, h⟩ := chkE h
    refine lv S (rn_shr (S.tm rfl) (S.tm rfl) (of_decide_eq_true hc5)) rfl ?_; clear S; intro a S
    refine lv S (rn_or_ (S.tm rfl) (S.tm rfl)) rfl ?_; clear S; intro a S
    refine lv S (rn_assign (S.tm rfl)) rfl ?_; clear S; intro a S
    refine l_done ?_
    replace S := S.nk [] [(1, .int .u64 p_lo), (2, .int .u64 (bitShl .u64 p_y (IntKind.wrap .u64 r1))), (8, .int .u64 (IntKind.wrap .u64 r1)), (9, .int .u64 (bitShr .u64 (bitShl .u64 p_y (IntKind.wrap .u64 r1)) 32)), (10, .int .u64 (bitAnd .u64 (bitShl .u64 p_y (IntKind.wrap .u64 r1)) 4294967295)), (11, .int .u64 (bitOr .u64 (bitShl .u64 p_hi (IntKind.wrap .u64 r1)) (bitShr .u64 p_lo (IntKind.wrap .u64 (64 - (IntKind.wrap .u64 r1))))))] [] rfl ⟨rfl, rfl, rfl, rfl, rfl, rfl, trivial⟩
    refine then_n ?_
    refine f_seq ?_
    refine f_region ?_
    refine lv S (rn_move (S.tm rfl)) rfl ?_; clear S; intro a S
    refine lv S (rn_move (S.tm rfl)) rfl ?_; clear S; intro a S
    obtain ⟨hc6, h⟩ := chkE h
    refine lv S (rn_shl (S.tm rfl) (S.tm rfl) (of_decide_eq_true hc6)) rfl ?_; clear S; intro a S
    refine lv S (rn_assign (S.tm rfl)) rfl ?_; clear S; intro a S
    refine l_done ?_
    replace S := S.nk [] [(2, .int .u64 (bitShl .u64 p_y (IntKind.wrap .u64 r1))), (8, .int .u64 (IntKind.wrap .u64 r1)), (9, .int .u64 (bitShr .u64 (bitShl .u64 p_y (IntKind.wrap .u64 r1)) 32)), (10, .int .u64 (bitAnd .u64 (bitShl .u64 p_y (IntKind.wrap .u64 r1)) 4294967295)), (11, .int .u64 (bitOr .u64 (bitShl .u64 p_hi (IntKind.wrap .u64 r1)) (bitShr .u64 p_lo (IntKind.wrap .u64 (64 - (IntKind.wrap .u64 r1)))))), (12, .int .u64 (bitShl .u64 p_lo (IntKind.wrap .u64 r1)))] [] rfl ⟨rfl, rfl, rfl, rfl, rfl, rfl, trivial⟩
    refine then_n ?_
    refine f_seq ?_
    refine f_region ?_
    refine lv S (rn_move (S.tm rfl)) rfl ?_; clear S; intro a S
    refine lv S (rn_shr (S.tm rfl) rfl (by decide)) rfl ?_; clear S; intro a S
    refine lv S (rn_assign (S.tm rfl)) rfl ?_; clear S; intro a S
    refine l_done ?_
    replace S := S.nk [] [(2, .int .u64 (bitShl .u64 p_y (IntKind.wrap .u64 r1))), (8, .int .u64 (IntKind.wrap .u64 r1)), (9, .int .u64 (bitShr .u64 (bitShl .u64 p_y (IntKind.wrap .u64 r1)) 32)), (10, .int .u64 (bitAnd .u64 (bitShl .u64 p_y (IntKind.wrap .u64 r1)) 4294967295)), (11, .int .u64 (bitOr .u64 (bitShl .u64 p_hi (IntKind.wrap .u64 r1)) (bitShr .u64 p_lo (IntKind.wrap .u64 (64 - (IntKind.wrap .u64 r1)))))), (12, .int .u64 (bitShl .u64 p_lo (IntKind.wrap .u64 r1))), (13, .int .u64 (bitShr .u64 (bitShl .u64 p_lo (IntKind.wrap .u64 r1)) 32))] [] rfl ⟨rfl, rfl, rfl, rfl, rfl, rfl, rfl, trivial⟩
    refine then_n ?_
    refine f_seq ?_
    refine f_region ?_
    refine lv S (rn_move (S.tm rfl)) rfl ?_; clear S; intro a S
    refine lv S (rn_and_ (S.tm rfl) rfl) rfl ?_; clear S; intro a S
    refine lv S (rn_assign (S.tm rfl)) rfl ?_; clear S; intro a S
    refine l_done ?_
    replace S := S.nk [] [(2, .int .u64 (bitShl .u64 p_y (IntKind.wrap .u64 r1))), (8, .int .u64 (IntKind.wrap .u64 r1)), (9, .int .u64 (bitShr .u64 (bitShl .u64 p_y (IntKind.wrap .u64 r1)) 32)), (10, .int .u64 (bitAnd .u64 (bitShl .u64 p_y (IntKind.wrap .u64 r1)) 4294967295)), (11, .int .u64 (bitOr .u64 (bitShl .u64 p_hi (IntKind.wrap .u64 r1)) (bitShr .u64 p_lo (IntKind.wrap .u64 (64 - (IntKind.wrap .u64 r1)))))), (13, .int .u64 (bitShr .u64 (bitShl .u64 p_lo (IntKind.wrap .u64 r1)) 32)), (14, .int .u64 (bitAnd .u64 (bitShl .u64 p_lo (IntKind.wrap .u64 r1)) 4294967295))] [] rfl ⟨rfl, rfl, rfl, rfl, rfl, rfl, rfl, trivial⟩
    refine then_n ?_
    refine f_seq ?_
    refine f_region ?_
    refine lv S (rn_move (S.tm rfl)) rfl ?_; clear S; intro a S
    refine lv S (rn_move (S.tm rfl)) rfl ?_; clear S; intro a S
    obtain ⟨hc7, h⟩ := chkE h
    refine lv S (rn_quok (S.tm rfl) (S.tm rfl) (ne0_of hc7)) rfl ?_; clear S; intro a S
    refine lv S (rn_assign (S.tm rfl)) rfl ?_; clear S; intro a S
    refine l_done ?_
    replace S := S.nk [] [(2, .int .u64 (bitShl .u64 p_y (IntKind.wrap .u64 r1))), (8, .int .u64 (IntKind.wrap .u64 r1)), (9, .int .u64 (bitShr .u64 (bitShl .u64 p_y (IntKind.wrap .u64 r1)) 32)), (10, .int .u64 (bitAnd .u64 (bitShl .u64 p_y (IntKind.wrap .u64 r1)) 4294967295)), (11, .int .u64 (bitOr .u64 (bitShl .u64 p_hi (IntKind.wrap .u64 r1)) (bitShr .u64 p_lo (IntKind.wrap .u64 (64 - (IntKind.wrap .u64 r1)))))), (13, .int .u64 (bitShr .u64 (bitShl .u64 p_lo (IntKind.wrap .u64 r1)) 32)), (14, .int .u64 (bitAnd .u64 (bitShl .u64 p_lo (IntKind.wrap .u64 r1)) 4294967295)), (15, .int .u64 (IntKind.wrap .u64 (Int.tdiv (bitOr .u64 (bitShl .u64 p_hi (IntKind.wrap .u64 r1)) (bitShr .u64 p_lo (IntKind.wrap .u64 (64 - (IntKind.wrap .u64 r1))))) (bitShr .u64 (bitShl .u64 p_y (IntKind.wrap .u64 r1)) 32))))] [] rfl ⟨rfl, rfl, rfl, rfl, rfl, rfl, rfl, rfl, trivial⟩
    refine then_n ?_
    refine f_seq ?_
    refine f_region ?_
    refine lv S (rn_move (S.tm rfl)) rfl ?_; clear S; intro a S
    refine lv S (rn_move (S.tm rfl)) rfl ?_; clear S; intro a S
    refine lv S (rn_move (S.tm rfl)) rfl ?_; clear S; intro a S
    refine lv S (rn_mulk (S.tm rfl) (S.tm rfl)) rfl ?_; clear S; intro a S
    refine lv S (rn_subk (S.tm rfl) (S.tm rfl)) rfl ?_; clear S; intro a S
    refine lv S (rn_assign (S.tm rfl)) rfl ?_; clear S; intro a S
    refine l_done ?_
    replace S := S.nk [] [(2, .int .u64 (bitShl .u64 p_y (IntKind.wrap .u64 r1))), (8, .int .u64 (IntKind.wrap .u64 r1)), (9, .int .u64 (bitShr .u64 (bitShl .u64 p_y (IntKind.wrap .u64 r1)) 32)), (10, .int .u64 (bitAnd .u64 (bitShl .u64 p_y (IntKind.wrap .u64 r1)) 4294967295)), (11, .int .u64 (bitOr .u64 (bitShl .u64 p_hi (IntKind.wrap .u64 r1)) (bitShr .u64 p_lo (IntKind.wrap .u64 (64 - (IntKind.wrap .u64 r1)))))), (13, .int .u64 (bitShr .u64 (bitShl .u64 p_lo (IntKind.wrap .u64 r1)) 32)), (14, .int .u64 (bitAnd .u64 (bitShl .u64 p_lo (IntKind.wrap .u64 r1)) 4294967295)), (15, .int .u64 (IntKind.wrap .u64 (Int.tdiv (bitOr .u64 (bitShl .u64 p_hi (IntKind.wrap .u64 r1)) (bitShr .u64 p_lo (IntKind.wrap .u64 (64 - (IntKind.wrap .u64 r1))))) (bitShr .u64 (bitShl .u64 p_y (IntKind.wrap .u64 r1)) 32)))), (16, .int .u64 (IntKind.wrap .u64 ((bitOr .u64 (bitShl .u64 p_hi (IntKind.wrap .u64 r1)) (bitShr .u64 p_lo (IntKind.wrap .u64 (64 - (IntKind.wrap .u64 r1))))) - (IntKind.wrap .u64 ((IntKind.wrap .u64 (Int.tdiv (bitOr .u64 (bitShl .u64 p_hi (IntKind.wrap .u64 r1)) (bitShr .u64 p_lo (IntKind.wrap .u64 (64 - (IntKind.wrap .u64 r1))))) (bitShr .u64 (bitShl .u64 p_y (IntKind.wrap .u64 r1)) 32))) * (bitShr .u64 (bitShl .u64 p_y (IntKind.wrap .u64 r1)) 32))))))] [] rfl ⟨rfl, rfl, rfl, rfl, rfl, rfl, rfl, rfl, rfl, trivial⟩
    refine then_n ?_
    refine f_seq ?_
    obtain ⟨j1, hj1, h⟩ := joinE h
    refine f_join (fun a w' => ∃ x1 : Int, j1 x1 = some r ∧ Sx w [] nov [] [(2, .int .u64 (bitShl .u64 p_y (IntKind.wrap .u64 r1))), (8, .int .u64 (IntKind.wrap .u64 r1)), (9, .int .u64 (bitShr .u64 (bitShl .u64 p_y (IntKind.wrap .u64 r1)) 32)), (10, .int .u64 (bitAnd .u64 (bitShl .u64 p_y (IntKind.wrap .u64 r1)) 4294967295)), (11, .int .u64 (bitOr .u64 (bitShl .u64 p_hi (IntKind.wrap .u64 r1)) (bitShr .u64 p_lo (IntKind.wrap .u64 (64 - (IntKind.wrap .u64 r1)))))), (13, .int .u64 (bitShr .u64 (bitShl .u64 p_lo (IntKind.wrap .u64 r1)) 32)), (14, .int .u64 (bitAnd .u64 (bitShl .u64 p_lo (IntKind.wrap .u64 r1)) 4294967295)), (15, .int .u64 x1)] 135 a w') ?_ ?_
    ·refine wp_block ?_
     refine f_loop (fun (m1 : Nat) a w' => ∃ x1 : Int, ∃ x2 : Int, bits_Div64_l1 p_lo r1 p_y j1 m1 x1 x2 = some r ∧ Sx w [] nov [] [(2, .int .u64 (bitShl .u64 p_y (IntKind.wrap .u64 r1))), (8, .int .u64 (IntKind.wrap .u64 r1)), (9, .int .u64 (bitShr .u64 (bitShl .u64 p_y (IntKind.wrap .u64 r1)) 32)), (10, .int .u64 (bitAnd .u64 (bitShl .u64 p_y (IntKind.wrap .u64 r1)) 4294967295)), (11, .int .u64 (bitOr .u64 (bitShl .u64 p_hi (IntKind.wrap .u64 r1)) (bitShr .u64 p_lo (IntKind.wrap .u64 (64 - (IntKind.wrap .u64 r1)))))), (13, .int .u64 (bitShr .u64 (bitShl .u64 p_lo (IntKind.wrap .u64 r1)) 32)), (14, .int .u64 (bitAnd .u64 (bitShl .u64 p_lo (IntKind.wrap .u64 r1)) 4294967295)), (15, .int .u64 x1), (16, .int .u64 x2)] 135 a w') id (((IntKind.wrap .u64 (Int.tdiv (bitOr .u64 (bitShl .u64 p_hi (IntKind.wrap .u64 r1)) (bitShr .u64 p_lo (IntKind.wrap .u64 (64 - (IntKind.wrap .u64 r1))))) (bitShr .u64 (bitShl .u64 p_y (IntKind.wrap .u64 r1)) 32))) - 4294967296).toNat + 2) ⟨IntKind.wrap .u64 (Int.tdiv (bitOr .u64 (bitShl .u64 p_hi (IntKind.wrap .u64 r1)) (bitShr .u64 p_lo (IntKind.wrap .u64 (64 - (IntKind.wrap .u64 r1))))) (bitShr .u64 (bitShl .u64 p_y (IntKind.wrap .u64 r1)) 32)), IntKind.wrap .u64 ((bitOr .u64 (bitShl .u64 p_hi (IntKind.wrap .u64 r1)) (bitShr .u64 p_lo (IntKind.wrap .u64 (64 - (IntKind.wrap .u64 r1))))) - (IntKind.wrap .u64 ((IntKind.wrap .u64 (Int.tdiv (bitOr .u64 (bitShl .u64 p_hi (IntKind.wrap .u64 r1)) (bitShr .u64 p_lo (IntKind.wrap .u64 (64 - (IntKind.wrap .u64 r1))))) (bitShr .u64 (bitShl .u64 p_y (IntKind.wrap .u64 r1)) 32))) * (bitShr .u64 (bitShl .u64 p_y (IntKind.wrap .u64 r1)) 32)))), h, S.nf [] rfl ⟨rfl, rfl, rfl, rfl, rfl, rfl, rfl, rfl, rfl, trivial⟩⟩ ?_
     clear S h; rintro m1 a w3 ⟨x1, x2, h, S⟩
     cases m1 with
     | zero => rw [bits_Div64_l1.eq_1] at h; cases h
     | succ m1 =>
      rw [bits_Div64_l1.eq_2] at h
      refine f_seq ?_
      refine f_seq ?_
      refine f_region ?_
      refine lv S (rn_move (S.tm rfl)) rfl ?_; clear S; intro a S
      refine lv S (rn_geq (S.tm rfl) rfl) rfl ?_; clear S; intro a S
      refine lv S (rn_move (S.tm rfl)) rfl ?_; clear S; intro a S
      refine f_cutm 9 (fun a w' => Keep [] w3 w' ∧ Sx w [] nov [] [(2, .int .u64 (bitShl .u64 p_y (IntKind.wrap .u64 r1))), (8, .int .u64 (IntKind.wrap .u64 r1)), (9, .int .u64 (bitShr .u64 (bitShl .u64 p_y (IntKind.wrap .u64 r1)) 32)), (10, .int .u64 (bitAnd .u64 (bitShl .u64 p_y (IntKind.wrap .u64 r1)) 4294967295)), (11, .int .u64 (bitOr .u64 (bitShl .u64 p_hi (IntKind.wrap .u64 r1)) (bitShr .u64 p_lo (IntKind.wrap .u64 (64 - (IntKind.wrap .u64 r1)))))), (13, .int .u64 (bitShr .u64 (bitShl .u64 p_lo (IntKind.wrap .u64 r1)) 32)), (14, .int .u64 (bitAnd .u64 (bitShl .u64 p_lo (IntKind.wrap .u64 r1)) 4294967295)), (15, .int .u64 x1), (16, .int .u64 x2), (78, .bool ((decide (4294967296 ≤ x1)) || (decide ((IntKind.wrap .u64 ((IntKind.wrap .u64 (4294967296 * x2)) + (bitShr .u64 (bitShl .u64 p_lo (IntKind.wrap .u64 r1)) 32))) < (IntKind.wrap .u64 (x1 * (bitAnd .u64 (bitShl .u64 p_y (IntKind.wrap .u64 r1)) 4294967295)))))))] 135 a w') ?_ ?_
      ·rcases Bool.eq_false_or_eq_true (decide (4294967296 ≤ x1)) with hb4 | hb4
       ·refine l_skip S rfl rfl rfl (neq_t hb4) rfl ?_ rfl; clear S; intro a S
        refine l_skip S rfl rfl rfl (neq_t hb4) rfl ?_ rfl; clear S; intro a S
        refine l_skip S rfl rfl rfl (neq_t hb4) rfl ?_ rfl; clear S; intro a S
        refine l_skip S rfl rfl rfl (neq_t hb4) rfl ?_ rfl; clear S; intro a S
        refine l_skip S rfl rfl rfl (neq_t hb4) rfl ?_ rfl; clear S; intro a S
        refine l_skip S rfl rfl rfl (neq_t hb4) rfl ?_ rfl; clear S; intro a S
        refine l_skip S rfl rfl rfl (neq_t hb4) rfl ?_ rfl; clear S; intro a S
        refine l_skip S rfl rfl rfl (neq_t hb4) rfl ?_ rfl; clear S; intro a S
        refine lv S (rn_or_t (decide ((IntKind.wrap .u64 ((IntKind.wrap .u64 (4294967296 * x2)) + (bitShr .u64 (bitShl .u64 p_lo (IntKind.wrap .u64 r1)) 32))) < (IntKind.wrap .u64 (x1 * (bitAnd .u64 (bitShl .u64 p_y (IntKind.wrap .u64 r1)) 4294967295))))) hb4 (S.tm rfl) rfl) rfl ?_; clear S; intro a S
        refine l_done ?_
        refine then_n ?_
        exact ⟨Keep.refl _ _, S.nf [] rfl ⟨rfl, rfl, rfl, rfl, rfl, rfl, rfl, rfl, rfl, rfl, trivial⟩⟩
       ·refine l_want S rfl rfl rfl hb4 ?_
        refine lv S (rn_move (S.tm rfl)) rfl ?_; clear S; intro a S
        refine l_want S rfl rfl rfl hb4 ?_
        refine lv S (rn_move (S.tm rfl)) rfl ?_; clear S; intro a S
        refine l_want S rfl rfl rfl hb4 ?_
        refine lv S (rn_mulk (S.tm rfl) (S.tm rfl)) rfl ?_; clear S; intro a S
        refine l_want S rfl rfl rfl hb4 ?_
        refine lv S (rn_move (S.tm rfl)) rfl ?_; clear S; intro a S
        refine l_want S rfl rfl rfl hb4 ?_
        refine lv S (rn_mulk rfl (S.tm rfl)) rfl ?_; clear S; intro a S
        refine l_want S rfl rfl rfl hb4 ?_
        refine lv S (rn_move (S.tm rfl)) rfl ?_; clear S; intro a S
        refine l_want S rfl rfl rfl hb4 ?_
        refine lv S (rn_addk (S.tm rfl) (S.tm rfl)) rfl ?_; clear S; intro a S
        refine l_want S rfl rfl rfl hb4 ?_
        refine lv S (rn_gtr (S.tm rfl) (S.tm rfl)) rfl ?_; clear S; intro a S
        refine lv S (rn_or_f hb4 (S.tm rfl) (S.tm rfl)) rfl ?_; clear S; intro a S
        refine l_done ?_
        refine then_n ?_
        exact ⟨Keep.refl _ _, S.nf [] rfl ⟨rfl, rfl, rfl, rfl, rfl, rfl, rfl, rfl, rfl, rfl, trivial⟩⟩
      clear S; rintro a w5 ⟨hk3, S⟩
      refine l_done ?_
      replace S := S.nk [] [(2, .int .u64 (bitShl .u64 p_y (IntKind.wrap .u64 r1))), (8, .int .u64 (IntKind.wrap .u64 r1)), (9, .int .u64 (bitShr .u64 (bitShl .u64 p_y (IntKind.wrap .u64 r1)) 32)), (10, .int .u64 (bitAnd .u64 (bitShl .u64 p_y (IntKind.wrap .u64 r1)) 4294967295)), (11, .int .u64 (bitOr .u64 (bitShl .u64 p_hi (IntKind.wrap .u64 r1)) (bitShr .u64 p_lo (IntKind.wrap .u64 (64 - (IntKind.wrap .u64 r1)))))), (13, .int .u64 (bitShr .u64 (bitShl .u64 p_lo (IntKind.wrap .u64 r1)) 32)), (14, .int .u64 (bitAnd .u64 (bitShl .u64 p_lo (IntKind.wrap .u64 r1)) 4294967295)), (15, .int .u64 x1), (16, .int .u64 x2), (78, .bool ((decide (4294967296 ≤ x1)) || (decide ((IntKind.wrap .u64 ((IntKind.wrap .u64 (4294967296 * x2)) + (bitShr .u64 (bitShl .u64 p_lo (IntKind.wrap .u64 r1)) 32))) < (IntKind.wrap .u64 (x1 * (bitAnd .u64 (bitShl .u64 p_y (IntKind.wrap .u64 r1)) 4294967295)))))))] [] rfl ⟨rfl, rfl, rfl, rfl, rfl, rfl, rfl, rfl, rfl, rfl, trivial⟩
      refine then_n ?_
      refine f_cond (S.tm rfl) (fun hb5 => ?_) (fun hb5 => ?_)
      ·replace h := iteT h hb5
       refine wp_skip ?_
       refine then_n ?_
       refine wp_block ?_
       refine f_seq ?_
       refine f_region ?_
       refine lv S (rn_move (S.tm rfl)) rfl ?_; clear S; intro a S
       refine lv S (rn_subk (S.tm rfl) rfl) rfl ?_; clear S; intro a S
       refine lv S (rn_assign (S.tm rfl)) rfl ?_; clear S; intro a S
       refine l_done ?_
       replace S := S.nk [] [(2, .int .u64 (bitShl .u64 p_y (IntKind.wrap .u64 r1))), (8, .int .u64 (IntKind.wrap .u64 r1)), (9, .int .u64 (bitShr .u64 (bitShl .u64 p_y (IntKind.wrap .u64 r1)) 32)), (10, .int .u64 (bitAnd .u64 (bitShl .u64 p_y (IntKind.wrap .u64 r1)) 4294967295)), (11, .int .u64 (bitOr .u64 (bitShl .u64 p_hi (IntKind.wrap .u64 r1)) (bitShr .u64 p_lo (IntKind.wrap .u64 (64 - (IntKind.wrap .u64 r1)))))), (13, .int .u64 (bitShr .u64 (bitShl .u64 p_lo (IntKind.wrap .u64 r1)) 32)), (14, .int .u64 (bitAnd .u64 (bitShl .u64 p_lo (IntKind.wrap .u64 r1)) 4294967295)), (15, .int .u64 (IntKind.wrap .u64 (x1 - 1))), (16, .int .u64 x2)] [] rfl ⟨rfl, rfl, rfl, rfl, rfl, rfl, rfl, rfl, rfl, trivial⟩
       refine then_n ?_
       refine f_seq ?_
       refine f_region ?_
       refine lv S (rn_move (S.tm rfl)) rfl ?_; clear S; intro a S
       refine lv S (rn_move (S.tm rfl)) rfl ?_; clear S; intro a S
       refine lv S (rn_addk (S.tm rfl) (S.tm rfl)) rfl ?_; clear S; intro a S
       refine lv S (rn_assign (S.tm rfl)) rfl ?_; clear S; intro a S
       refine l_done ?_
       replace S := S.nk [] [(2, .int .u64 (bitShl .u64 p_y (IntKind.wrap .u64 r1))), (8, .int .u64 (IntKind.wrap .u64 r1)), (9, .int .u64 (bitShr .u64 (bitShl .u64 p_y (IntKind.wrap .u64 r1)) 32)), (10, .int .u64 (bitAnd .u64 (bitShl .u64 p_y (IntKind.wrap .u64 r1)) 4294967295)), (11, .int .u64 (bitOr .u64 (bitShl .u64 p_hi (IntKind.wrap .u64 r1)) (bitShr .u64 p_lo (IntKind.wrap .u64 (64 - (IntKind.wrap .u64 r1)))))), (13, .int .u64 (bitShr .u64 (bitShl .u64 p_lo (IntKind.wrap .u64 r1)) 32)), (14, .int .u64 (bitAnd .u64 (bitShl .u64 p_lo (IntKind.wrap .u64 r1)) 4294967295)), (15, .int .u64 (IntKind.wrap .u64 (x1 - 1))), (16, .int .u64 (IntKind.wrap .u64 (x2 + (bitShr .u64 (bitShl .u64 p_y (IntKind.wrap .u64 r1)) 32))))] [] rfl ⟨rfl, rfl, rfl, rfl, rfl, rfl, rfl, rfl, rfl, trivial⟩
       refine then_n ?_
       refine f_seq ?_
       refine f_region ?_
       refine lv S (rn_move (S.tm rfl)) rfl ?_; clear S; intro a S
       refine lv S (rn_geq (S.tm rfl) rfl) rfl ?_; clear S; intro a S
       refine l_done ?_
       replace S := S.nk [] [(2, .int .u64 (bitShl .u64 p_y (IntKind.wrap .u64 r1))), (8, .int .u64 (IntKind.wrap .u64 r1)), (9, .int .u64 (bitShr .u64 (bitShl .u64 p_y (IntKind.wrap .u64 r1)) 32)), (10, .int .u64 (bitAnd .u64 (bitShl .u64 p_y (IntKind.wrap .u64 r1)) 4294967295)), (11, .int .u64 (bitOr .u64 (bitShl .u64 p_hi (IntKind.wrap .u64 r1)) (bitShr .u64 p_lo (IntKind.wrap .u64 (64 - (IntKind.wrap .u64 r1)))))), (13, .int .u64 (bitShr .u64 (bitShl .u64 p_lo (IntKind.wrap .u64 r1)) 32)), (14, .int .u64 (bitAnd .u64 (bitShl .u64 p_lo (IntKind.wrap .u64 r1)) 4294967295)), (15, .int .u64 (IntKind.wrap .u64 (x1 - 1))), (16, .int .u64 (IntKind.wrap .u64 (x2 + (bitShr .u64 (bitShl .u64 p_y (IntKind.wrap .u64 r1)) 32)))), (85, .bool (decide (4294967296 ≤ (IntKind.wrap .u64 (x2 + (bitShr .u64 (bitShl .u64 p_y (IntKind.wrap .u64 r1)) 32))))))] [] rfl ⟨rfl, rfl, rfl, rfl, rfl, rfl, rfl, rfl, rfl, rfl, trivial⟩
       refine then_n ?_
       refine f_cond (S.tm rfl) (fun hb6 => ?_) (fun hb6 => ?_)
       ·replace h := iteT h hb6
        refine wp_exit ?_
        refine x_other rfl ?_
        refine then_x ?_
        refine x_same ?_
        refine then_n ?_
        exact ⟨IntKind.wrap .u64 (x1 - 1), h, S.nf [] rfl ⟨rfl, rfl, rfl, rfl, rfl, rfl, rfl, rfl, trivial⟩⟩
       ·replace h := iteF h hb6
        refine wp_skip ?_
        refine blk_n ?_
        refine then_n ?_
        exact ⟨m1, ⟨IntKind.wrap .u64 (x1 - 1), IntKind.wrap .u64 (x2 + (bitShr .u64 (bitShl .u64 p_y (IntKind.wrap .u64 r1)) 32)), h, S.nf [] rfl ⟨rfl, rfl, rfl, rfl, rfl, rfl, rfl, rfl, rfl, trivial⟩⟩, Nat.lt_succ_self _⟩
      ·replace h := iteF h hb5
       refine wp_exit ?_
       refine then_x ?_
       refine then_x ?_
       refine x_same ?_
       refine then_n ?_
       exact ⟨x1, h, S.nf [] rfl ⟨rfl, rfl, rfl, rfl, rfl, rfl, rfl, rfl, trivial⟩⟩
    clear S h; rintro a w4 ⟨x1, h, S⟩; rw [hj1] at h; clear hj1 j1
    refine then_n ?_
    refine f_seq ?_
    refine f_region ?_
    refine lv S (rn_move (S.tm rfl)) rfl ?_; clear S; intro a S
    refine lv S (rn_mulk (S.tm rfl) rfl) rfl ?_; clear S; intro a S
    refine lv S (rn_move (S.tm rfl)) rfl ?_; clear S; intro a S
    refine lv S (rn_addk (S.tm rfl) (S.tm rfl)) rfl ?_; clear S; intro a S
    refine lv S (rn_move (S.tm rfl)) rfl ?_; clear S; intro a S
    refine lv S (rn_move (S.tm rfl)) rfl ?_; clear S; intro a S
    refine lv S (rn_mulk (S.tm rfl) (S.tm rfl)) rfl ?_; clear S; intro a S
    refine lv S (rn_subk (S.tm rfl) (S.tm rfl)) rfl ?_; clear S; intro a S
    refine lv S (rn_assign (S.tm rfl)) rfl ?_; clear S; intro a S
    refine l_done ?_
    replace S := S.nk [] [(2, .int .u64 (bitShl .u64 p_y (IntKind.wrap .u64 r1))), (8, .int .u64 (IntKind.wrap .u64 r1)), (9, .int .u64 (bitShr .u64 (bitShl .u64 p_y (IntKind.wrap .u64 r1)) 32)), (10, .int .u64 (bitAnd .u64 (bitShl .u64 p_y (IntKind.wrap .u64 r1)) 4294967295)), (14, .int .u64 (bitAnd .u64 (bitShl .u64 p_lo (IntKind.wrap .u64 r1)) 4294967295)), (15, .int .u64 x1), (17, .int .u64 (IntKind.wrap .u64 ((IntKind.wrap .u64 ((IntKind.wrap .u64 ((bitOr .u64 (bitShl .u64 p_hi (IntKind.wrap .u64 r1)) (bitShr .u64 p_lo (IntKind.wrap .u64 (64 - (IntKind.wrap .u64 r1))))) * 4294967296)) + (bitShr .u64 (bitShl .u64 p_lo (IntKind.wrap .u64 r1)) 32))) - (IntKind.wrap .u64 (x1 * (bitShl .u64 p_y (IntKind.wrap .u64 r1)))))))] [] rfl ⟨rfl, rfl, rfl, rfl, rfl, rfl, rfl, trivial⟩
    refine then_n ?_
    refine f_seq ?_
    refine f_region ?_
    refine lv S (rn_move (S.tm rfl)) rfl ?_; clear S; intro a S
    refine lv S (rn_move (S.tm rfl)) rfl ?_; clear S; intro a S
    obtain ⟨hc8, h⟩ := chkE h
    refine lv S (rn_quok (S.tm rfl) (S.tm rfl) (ne0_of hc8)) rfl ?_; clear S; intro a S
    refine lv S (rn_assign (S.tm rfl)) rfl ?_; clear S; intro a S
    refine l_done ?_
    replace S := S.nk [] [(2, .int .u64 (bitShl .u64 p_y (IntKind.wrap .u64 r1))), (8, .int .u64 (IntKind.wrap .u64 r1)), (9, .int .u64 (bitShr .u64 (bitShl .u64 p_y (IntKind.wrap .u64 r1)) 32)), (10, .int .u64 (bitAnd .u64 (bitShl .u64 p_y (IntKind.wrap .u64 r1)) 4294967295)), (14, .int .u64 (bitAnd .u64 (bitShl .u64 p_lo (IntKind.wrap .u64 r1)) 4294967295)), (15, .int .u64 x1), (17, .int .u64 (IntKind.wrap .u64 ((IntKind.wrap .u64 ((IntKind.wrap .u64 ((bitOr .u64 (bitShl .u64 p_hi (IntKind.wrap .u64 r1)) (bitShr .u64 p_lo (IntKind.wrap .u64 (64 - (IntKind.wrap .u64 r1))))) * 4294967296)) + (bitShr .u64 (bitShl .u64 p_lo (IntKind.wrap .u64 r1)) 32))) - (IntKind.wrap .u64 (x1 * (bitShl .u64 p_y (IntKind.wrap .u64 r1))))))), (18, .int .u64 (IntKind.wrap .u64 (Int.tdiv (IntKind.wrap .u64 ((IntKind.wrap .u64 ((IntKind.wrap .u64 ((bitOr .u64 (bitShl .u64 p_hi (IntKind.wrap .u64 r1)) (bitShr .u64 p_lo (IntKind.wrap .u64 (64 - (IntKind.wrap .u64 r1))))) * 4294967296)) + (bitShr .u64 (bitShl .u64 p_lo (IntKind.wrap .u64 r1)) 32))) - (IntKind.wrap .u64 (x1 * (bitShl .u64 p_y (IntKind.wrap .u64 r1)))))) (bitShr .u64 (bitShl .u64 p_y (IntKind.wrap .u64 r1)) 32))))] [] rfl ⟨rfl, rfl, rfl, rfl, rfl, rfl, rfl, rfl, trivial⟩
    refine then_n ?_
    refine f_seq ?_
    refine f_region ?_
    refine lv S (rn_move (S.tm rfl)) rfl ?_; clear S; intro a S
    refine lv S (rn_move (S.tm rfl)) rfl ?_; clear S; intro a S
    refine lv S (rn_move (S.tm rfl)) rfl ?_; clear S; intro a S
    refine lv S (rn_mulk (S.tm rfl) (S.tm rfl)) rfl ?_; clear S; intro a S
    refine lv S (rn_subk (S.tm rfl) (S.tm rfl)) rfl ?_; clear S; intro a S
    refine lv S (rn_assign (S.tm rfl)) rfl ?_; clear S; intro a S
    refine l_done ?_
    replace S := S.nk [] [(2, .int .u64 (bitShl .u64 p_y (IntKind.wrap .u64 r1))), (8, .int .u64 (IntKind.wrap .u64 r1)), (9, .int .u64 (bitShr .u64 (bitShl .u64 p_y (IntKind.wrap .u64 r1)) 32)), (10, .int .u64 (bitAnd .u64 (bitShl .u64 p_y (IntKind.wrap .u64 r1)) 4294967295)), (14, .int .u64 (bitAnd .u64 (bitShl .u64 p_lo (IntKind.wrap .u64 r1)) 4294967295)), (15, .int .u64 x1), (16, .int .u64 (IntKind.wrap .u64 ((IntKind.wrap .u64 ((IntKind.wrap .u64 ((IntKind.wrap .u64 ((bitOr .u64 (bitShl .u64 p_hi (IntKind.wrap .u64 r1)) (bitShr .u64 p_lo (IntKind.wrap .u64 (64 - (IntKind.wrap .u64 r1))))) * 4294967296)) + (bitShr .u64 (bitShl .u64 p_lo (IntKind.wrap .u64 r1)) 32))) - (IntKind.wrap .u64 (x1 * (bitShl .u64 p_y (IntKind.wrap .u64 r1)))))) - (IntKind.wrap .u64 ((IntKind.wrap .u64 (Int.tdiv (IntKind.wrap .u64 ((IntKind.wrap .u64 ((IntKind.wrap .u64 ((bitOr .u64 (bitShl .u64 p_hi (IntKind.wrap .u64 r1)) (bitShr .u64 p_lo (IntKind.wrap .u64 (64 - (IntKind.wrap .u64 r1))))) * 4294967296)) + (bitShr .u64 (bitShl .u64 p_lo (IntKind.wrap .u64 r1)) 32))) - (IntKind.wrap .u64 (x1 * (bitShl .u64 p_y (IntKind.wrap .u64 r1)))))) (bitShr .u64 (bitShl .u64 p_y (IntKind.wrap .u64 r1)) 32))) * (bitShr .u64 (bitShl .u64 p_y (IntKind.wrap .u64 r1)) 32)))))), (17, .int .u64 (IntKind.wrap .u64 ((IntKind.wrap .u64 ((IntKind.wrap .u64 ((bitOr .u64 (bitShl .u64 p_hi (IntKind.wrap .u64 r1)) (bitShr .u64 p_lo (IntKind.wrap .u64 (64 - (IntKind.wrap .u64 r1))))) * 4294967296)) + (bitShr .u64 (bitShl .u64 p_lo (IntKind.wrap .u64 r1)) 32))) - (IntKind.wrap .u64 (x1 * (bitShl .u64 p_y (IntKind.wrap .u64 r1))))))), (18, .int .u64 (IntKind.wrap .u64 (Int.tdiv (IntKind.wrap .u64 ((IntKind.wrap .u64 ((IntKind.wrap .u64 ((bitOr .u64 (bitShl .u64 p_hi (IntKind.wrap .u64 r1)) (bitShr .u64 p_lo (IntKind.wrap .u64 (64 - (IntKind.wrap .u64 r1))))) * 4294967296)) + (bitShr .u64 (bitShl .u64 p_lo (IntKind.wrap .u64 r1)) 32))) - (IntKind.wrap .u64 (x1 * (bitShl .u64 p_y (IntKind.wrap .u64 r1)))))) (bitShr .u64 (bitShl .u64 p_y (IntKind.wrap .u64 r1)) 32))))] [] rfl ⟨rfl, rfl, rfl, rfl, rfl, rfl, rfl, rfl, rfl, trivial⟩
    refine then_n ?_
    refine f_seq ?_
    obtain ⟨j2, hj2, h⟩ := joinE h
    refine f_join (fun a w' => ∃ x4 : Int, j2 x4 = some r ∧ Sx w [] nov [] [(2, .int .u64 (bitShl .u64 p_y (IntKind.wrap .u64 r1))), (8, .int .u64 (IntKind.wrap .u64 r1)), (14, .int .u64 (bitAnd .u64 (bitShl .u64 p_lo (IntKind.wrap .u64 r1)) 4294967295)), (15, .int .u64 x1), (17, .int .u64 (IntKind.wrap .u64 ((IntKind.wrap .u64 ((IntKind.wrap .u64 ((bitOr .u64 (bitShl .u64 p_hi (IntKind.wrap .u64 r1)) (bitShr .u64 p_lo (IntKind.wrap .u64 (64 - (IntKind.wrap .u64 r1))))) * 4294967296)) + (bitShr .u64 (bitShl .u64 p_lo (IntKind.wrap .u64 r1)) 32))) - (IntKind.wrap .u64 (x1 * (bitShl .u64 p_y (IntKind.wrap .u64 r1))))))), (18, .int .u64 x4)] 135 a w') ?_ ?_
    ·refine wp_block ?_
     refine f_loop (fun (m2 : Nat) a w' => ∃ x3 : Int, ∃ x4 : Int, bits_Div64_l2 p_lo r1 p_y j2 m2 x3 x4 = some r ∧ Sx w [] nov [] [(2, .int .u64 (bitShl .u64 p_y (IntKind.wrap .u64 r1))), (8, .int .u64 (IntKind.wrap .u64 r1)), (9, .int .u64 (bitShr .u64 (bitShl .u64 p_y (IntKind.wrap .u64 r1)) 32)), (10, .int .u64 (bitAnd .u64 (bitShl .u64 p_y (IntKind.wrap .u64 r1)) 4294967295)), (14, .int .u64 (bitAnd .u64 (bitShl .u64 p_lo (IntKind.wrap .u64 r1)) 4294967295)), (15, .int .u64 x1), (16, .int .u64 x3), (17, .int .u64 (IntKind.wrap .u64 ((IntKind.wrap .u64 ((IntKind.wrap .u64 ((bitOr .u64 (bitShl .u64 p_hi (IntKind.wrap .u64 r1)) (bitShr .u64 p_lo (IntKind.wrap .u64 (64 - (IntKind.wrap .u64 r1))))) * 4294967296)) + (bitShr .u64 (bitShl .u64 p_lo (IntKind.wrap .u64 r1)) 32))) - (IntKind.wrap .u64 (x1 * (bitShl .u64 p_y (IntKind.wrap .u64 r1))))))), (18, .int .u64 x4)] 135 a w') id (((IntKind.wrap .u64 (Int.tdiv (IntKind.wrap .u64 ((IntKind.wrap .u64 ((IntKind.wrap .u64 ((bitOr .u64 (bitShl .u64 p_hi (IntKind.wrap .u64 r1)) (bitShr .u64 p_lo (IntKind.wrap .u64 (64 - (IntKind.wrap .u64 r1))))) * 4294967296)) + (bitShr .u64 (bitShl .u64 p_lo (IntKind.wrap .u64 r1)) 32))) - (IntKind.wrap .u64 (x1 * (bitShl .u64 p_y (IntKind.wrap .u64 r1)))))) (bitShr .u64 (bitShl .u64 p_y (IntKind.wrap .u64 r1)) 32))) - 4294967296).toNat + 2) ⟨IntKind.wrap .u64 ((IntKind.wrap .u64 ((IntKind.wrap .u64 ((IntKind.wrap .u64 ((bitOr .u64 (bitShl .u64 p_hi (IntKind.wrap .u64 r1)) (bitShr .u64 p_lo (IntKind.wrap .u64 (64 - (IntKind.wrap .u64 r1))))) * 4294967296)) + (bitShr .u64 (bitShl .u64 p_lo (IntKind.wrap .u64 r1)) 32))) - (IntKind.wrap .u64 (x1 * (bitShl .u64 p_y (IntKind.wrap .u64 r1)))))) - (IntKind.wrap .u64 ((IntKind.wrap .u64 (Int.tdiv (IntKind.wrap .u64 ((IntKind.wrap .u64 ((IntKind.wrap .u64 ((bitOr .u64 (bitShl .u64 p_hi (IntKind.wrap .u64 r1)) (bitShr .u64 p_lo (IntKind.wrap .u64 (64 - (IntKind.wrap .u64 r1))))) * 4294967296)) + (bitShr .u64 (bitShl .u64 p_lo (IntKind.wrap .u64 r1)) 32))) - (IntKind.wrap .u64 (x1 * (bitShl .u64 p_y (IntKind.wrap .u64 r1)))))) (bitShr .u64 (bitShl .u64 p_y (IntKind.wrap .u64 r1)) 32))) * (bitShr .u64 (bitShl .u64 p_y (IntKind.wrap .u64 r1)) 32)))), IntKind.wrap .u64 (Int.tdiv (IntKind.wrap .u64 ((IntKind.wrap .u64 ((IntKind.wrap .u64 ((bitOr .u64 (bitShl .u64 p_hi (IntKind.wrap .u64 r1)) (bitShr .u64 p_lo (IntKind.wrap .u64 (64 - (IntKind.wrap .u64 r1))))) * 4294967296)) + (bitShr .u64 (bitShl .u64 p_lo (IntKind.wrap .u64 r1)) 32))) - (IntKind.wrap .u64 (x1 * (bitShl .u64 p_y (IntKind.wrap .u64 r1)))))) (bitShr .u64 (bitShl .u64 p_y (IntKind.wrap .u64 r1)) 32)), h, S.nf [] rfl ⟨rfl, rfl, rfl, rfl, rfl, rfl, rfl, rfl, rfl, trivial⟩⟩ ?_
     clear S h; rintro m2 a w6 ⟨x3, x4, h, S⟩
     cases m2 with
     | zero => rw [bits_Div64_l2.eq_1] at h; cases h
     | succ m2 =>
      rw [bits_Div64_l2.eq_2] at h
      refine f_seq ?_
      refine f_seq ?_
      refine f_region ?_
      refine lv S (rn_move (S.tm rfl)) rfl ?_; clear S; intro a S
      refine lv S (rn_geq (S.tm rfl) rfl) rfl ?_; clear S; intro a S
      refine lv S (rn_move (S.tm rfl)) rfl ?_; clear S; intro a S
      refine f_cutm 9 (fun a w' => Keep [] w6 w' ∧ Sx w [] nov [] [(2, .int .u64 (bitShl .u64 p_y (IntKind.wrap .u64 r1))), (8, .int .u64 (IntKind.wrap .u64 r1)), (9, .int .u64 (bitShr .u64 (bitShl .u64 p_y (IntKind.wrap .u64 r1)) 32)), (10, .int .u64 (bitAnd .u64 (bitShl .u64 p_y (IntKind.wrap .u64 r1)) 4294967295)), (14, .int .u64 (bitAnd .u64 (bitShl .u64 p_lo (IntKind.wrap .u64 r1)) 4294967295)), (15, .int .u64 x1), (16, .int .u64 x3), (17, .int .u64 (IntKind.wrap .u64 ((IntKind.wrap .u64 ((IntKind.wrap .u64 ((bitOr .u64 (bitShl .u64 p_hi (IntKind.wrap .u64 r1)) (bitShr .u64 p_lo (IntKind.wrap .u64 (64 - (IntKind.wrap .u64 r1))))) * 4294967296)) + (bitShr .u64 (bitShl .u64 p_lo (IntKind.wrap .u64 r1)) 32))) - (IntKind.wrap .u64 (x1 * (bitShl .u64 p_y (IntKind.wrap .u64 r1))))))), (18, .int .u64 x4), (113, .bool ((decide (4294967296 ≤ x4)) || (decide ((IntKind.wrap .u64 ((IntKind.wrap .u64 (4294967296 * x3)) + (bitAnd .u64 (bitShl .u64 p_lo (IntKind.wrap .u64 r1)) 4294967295))) < (IntKind.wrap .u64 (x4 * (bitAnd .u64 (bitShl .u64 p_y (IntKind.wrap .u64 r1)) 4294967295)))))))] 135 a w') ?_ ?_
      ·rcases Bool.eq_false_or_eq_true (decide (4294967296 ≤ x4)) with hb7 | hb7
       ·refine l_skip S rfl rfl rfl (neq_t hb7) rfl ?_ rfl; clear S; intro a S
        refine l_skip S rfl rfl rfl (neq_t hb7) rfl ?_ rfl; clear S; intro a S
        refine l_skip S rfl rfl rfl (neq_t hb7) rfl ?_ rfl; clear S; intro a S
        refine l_skip S rfl rfl rfl (neq_t hb7) rfl ?_ rfl; clear S; intro a S
        refine l_skip S rfl rfl rfl (neq_t hb7) rfl ?_ rfl; clear S; intro a S
        refine l_skip S rfl rfl rfl (neq_t hb7) rfl ?_ rfl; clear S; intro a S
        refine l_skip S rfl rfl rfl (neq_t hb7) rfl ?_ rfl; clear S; intro a S
        refine l_skip S rfl rfl rfl (neq_t hb7) rfl ?_ rfl; clear S; intro a S
        refine lv S (rn_or_t (decide ((IntKind.wrap .u64 ((IntKind.wrap .u64 (4294967296 * x3)) + (bitAnd .u64 (bitShl .u64 p_lo (IntKind.wrap .u64 r1)) 4294967295))) < (IntKind.wrap .u64 (x4 * (bitAnd .u64 (bitShl .u64 p_y (IntKind.wrap .u64 r1)) 4294967295))))) hb7 (S.tm rfl) rfl) rfl ?_; clear S; intro a S
        refine l_done ?_
        refine then_n ?_
        exact ⟨Keep.refl _ _, S.nf [] rfl ⟨rfl, rfl, rfl, rfl, rfl, rfl, rfl, rfl, rfl, rfl, trivial⟩⟩
       ·refine l_want S rfl rfl rfl hb7 ?_
        refine lv S (rn_move (S.tm rfl)) rfl ?_; clear S; intro a S
        refine l_want S rfl rfl rfl hb7 ?_
        refine lv S (rn_move (S.tm rfl)) rfl ?_; clear S; intro a S
        refine l_want S rfl rfl rfl hb7 ?_
        refine lv S (rn_mulk (S.tm rfl) (S.tm rfl)) rfl ?_; clear S; intro a S
        refine l_want S rfl rfl rfl hb7 ?_
        refine lv S (rn_move (S.tm rfl)) rfl ?_; clear S; intro a S
        refine l_want S rfl rfl rfl hb7 ?_
        refine lv S (rn_mulk rfl (S.tm rfl)) rfl ?_; clear S; intro a S
        refine l_want S rfl rfl rfl hb7 ?_
        refine lv S (rn_move (S.tm rfl)) rfl ?_; clear S; intro a S
        refine l_want S rfl rfl rfl hb7 ?_
        refine lv S (rn_addk (S.tm rfl) (S.tm rfl)) rfl ?_; clear S; intro a S
        refine l_want S rfl rfl rfl hb7 ?_
        refine lv S (rn_gtr (S.tm rfl) (S.tm rfl)) rfl ?_; clear S; intro a S
        refine lv S (rn_or_f hb7 (S.tm rfl) (S.tm rfl)) rfl ?_; clear S; intro a S
        refine l_done ?_
        refine then_n ?_
        exact ⟨Keep.refl _ _, S.nf [] rfl ⟨rfl, rfl, rfl, rfl, rfl, rfl, rfl, rfl, rfl, rfl, trivial⟩⟩
      clear S; rintro a w8 ⟨hk4, S⟩
      refine l_done ?_
      replace S := S.nk [] [(2, .int .u64 (bitShl .u64 p_y (IntKind.wrap .u64 r1))), (8, .int .u64 (IntKind.wrap .u64 r1)), (9, .int .u64 (bitShr .u64 (bitShl .u64 p_y (IntKind.wrap .u64 r1)) 32)), (10, .int .u64 (bitAnd .u64 (bitShl .u64 p_y (IntKind.wrap .u64 r1)) 4294967295)), (14, .int .u64 (bitAnd .u64 (bitShl .u64 p_lo (IntKind.wrap .u64 r1)) 4294967295)), (15, .int .u64 x1), (16, .int .u64 x3), (17, .int .u64 (IntKind.wrap .u64 ((IntKind.wrap .u64 ((IntKind.wrap .u64 ((bitOr .u64 (bitShl .u64 p_hi (IntKind.wrap .u64 r1)) (bitShr .u64 p_lo (IntKind.wrap .u64 (64 - (IntKind.wrap .u64 r1))))) * 4294967296)) + (bitShr .u64 (bitShl .u64 p_lo (IntKind.wrap .u64 r1)) 32))) - (IntKind.wrap .u64 (x1 * (bitShl .u64 p_y (IntKind.wrap .u64 r1))))))), (18, .int .u64 x4), (113, .bool ((decide (4294967296 ≤ x4)) || (decide ((IntKind.wrap .u64 ((IntKind.wrap .u64 (4294967296 * x3)) + (bitAnd .u64 (bitShl .u64 p_lo (IntKind.wrap .u64 r1)) 4294967295))) < (IntKind.wrap .u64 (x4 * (bitAnd .u64 (bitShl .u64 p_y (IntKind.wrap .u64 r1)) 4294967295)))))))] [] rfl ⟨rfl, rfl, rfl, rfl, rfl, rfl, rfl, rfl, rfl, rfl, trivial⟩
      refine then_n ?_
      refine f_cond (S.tm rfl) (fun hb8 => ?_) (fun hb8 => ?_)
      ·replace h := iteT h hb8
       refine wp_skip ?_
       refine then_n ?_
       refine wp_block ?_
       refine f_seq ?_
       refine f_region ?_
       refine lv S (rn_move (S.tm rfl)) rfl ?_; clear S; intro a S
       refine lv S (rn_subk (S.tm rfl) rfl) rfl ?_; clear S; intro a S
       refine lv S (rn_assign (S.tm rfl)) rfl ?_; clear S; intro a S
       refine l_done ?_
       replace S := S.nk [] [(2, .int .u64 (bitShl .u64 p_y (IntKind.wrap .u64 r1))), (8, .int .u64 (IntKind.wrap .u64 r1)), (9, .int .u64 (bitShr .u64 (bitShl .u64 p_y (IntKind.wrap .u64 r1)) 32)), (10, .int .u64 (bitAnd .u64 (bitShl .u64 p_y (IntKind.wrap .u64 r1)) 4294967295)), (14, .int .u64 (bitAnd .u64 (bitShl .u64 p_lo (IntKind.wrap .u64 r1)) 4294967295)), (15, .int .u64 x1), (16, .int .u64 x3), (17, .int .u64 (IntKind.wrap .u64 ((IntKind.wrap .u64 ((IntKind.wrap .u64 ((bitOr .u64 (bitShl .u64 p_hi (IntKind.wrap .u64 r1)) (bitShr .u64 p_lo (IntKind.wrap .u64 (64 - (IntKind.wrap .u64 r1))))) * 4294967296)) + (bitShr .u64 (bitShl .u64 p_lo (IntKind.wrap .u64 r1)) 32))) - (IntKind.wrap .u64 (x1 * (bitShl .u64 p_y (IntKind.wrap .u64 r1))))))), (18, .int .u64 (IntKind.wrap .u64 (x4 - 1)))] [] rfl ⟨rfl, rfl, rfl, rfl, rfl, rfl, rfl, rfl, rfl, trivial⟩
       refine then_n ?_
       refine f_seq ?_
       refine f_region ?_
       refine lv S (rn_move (S.tm rfl)) rfl ?_; clear S; intro a S
       refine lv S (rn_move (S.tm rfl)) rfl ?_; clear S; intro a S
       refine lv S (rn_addk (S.tm rfl) (S.tm rfl)) rfl ?_; clear S; intro a S
       refine lv S (rn_assign (S.tm rfl)) rfl ?_; clear S; intro a S
       refine l_done ?_
       replace S := S.nk [] [(2, .int .u64 (bitShl .u64 p_y (IntKind.wrap .u64 r1))), (8, .int .u64 (IntKind.wrap .u64 r1)), (9, .int .u64 (bitShr .u64 (bitShl .u64 p_y (IntKind.wrap .u64 r1)) 32)), (10, .int .u64 (bitAnd .u64 (bitShl .u64 p_y (IntKind.wrap .u64 r1)) 4294967295)), (14, .int .u64 (bitAnd .u64 (bitShl .u64 p_lo (IntKind.wrap .u64 r1)) 4294967295)), (15, .int .u64 x1), (16, .int .u64 (IntKind.wrap .u64 (x3 + (bitShr .u64 (bitShl .u64 p_y (IntKind.wrap .u64 r1)) 32)))), (17, .int .u64 (IntKind.wrap .u64 ((IntKind.wrap .u64 ((IntKind.wrap .u64 ((bitOr .u64 (bitShl .u64 p_hi (IntKind.wrap .u64 r1)) (bitShr .u64 p_lo (IntKind.wrap .u64 (64 - (IntKind.wrap .u64 r1))))) * 4294967296)) + (bitShr .u64 (bitShl .u64 p_lo (IntKind.wrap .u64 r1)) 32))) - (IntKind.wrap .u64 (x1 * (bitShl .u64 p_y (IntKind.wrap .u64 r1))))))), (18, .int .u64 (IntKind.wrap .u64 (x4 - 1)))] [] rfl ⟨rfl, rfl, rfl, rfl, rfl, rfl, rfl, rfl, rfl, trivial⟩
       refine then_n ?_
       refine f_seq ?_
       refine f_region ?_
       refine lv S (rn_move (S.tm rfl)) rfl ?_; clear S; intro a S
       refine lv S (rn_geq (S.tm rfl) rfl) rfl ?_; clear S; intro a S
       refine l_done ?_
       replace S := S.nk [] [(2, .int .u64 (bitShl .u64 p_y (IntKind.wrap .u64 r1))), (8, .int .u64 (IntKind.wrap .u64 r1)), (9, .int .u64 (bitShr .u64 (bitShl .u64 p_y (IntKind.wrap .u64 r1)) 32)), (10, .int .u64 (bitAnd .u64 (bitShl .u64 p_y (IntKind.wrap .u64 r1)) 4294967295)), (14, .int .u64 (bitAnd .u64 (bitShl .u64 p_lo (IntKind.wrap .u64 r1)) 4294967295)), (15, .int .u64 x1), (16, .int .u64 (IntKind.wrap .u64 (x3 + (bitShr .u64 (bitShl .u64 p_y (IntKind.wrap .u64 r1)) 32)))), (17, .int .u64 (IntKind.wrap .u64 ((IntKind.wrap .u64 ((IntKind.wrap .u64 ((bitOr .u64 (bitShl .u64 p_hi (IntKind.wrap .u64 r1)) (bitShr .u64 p_lo (IntKind.wrap .u64 (64 - (IntKind.wrap .u64 r1))))) * 4294967296)) + (bitShr .u64 (bitShl .u64 p_lo (IntKind.wrap .u64 r1)) 32))) - (IntKind.wrap .u64 (x1 * (bitShl .u64 p_y (IntKind.wrap .u64 r1))))))), (18, .int .u64 (IntKind.wrap .u64 (x4 - 1))), (120, .bool (decide (4294967296 ≤ (IntKind.wrap .u64 (x3 + (bitShr .u64 (bitShl .u64 p_y (IntKind.wrap .u64 r1)) 32))))))] [] rfl ⟨rfl, rfl, rfl, rfl, rfl, rfl, rfl, rfl, rfl, rfl, trivial⟩
       refine then_n ?_
       refine f_cond (S.tm rfl) (fun hb9 => ?_) (fun hb9 => ?_)
       ·replace h := iteT h hb9
        refine wp_exit ?_
        refine x_other rfl ?_
        refine then_x ?_
        refine x_same ?_
        refine then_n ?_
        exact ⟨IntKind.wrap .u64 (x4 - 1), h, S.nf [] rfl ⟨rfl, rfl, rfl, rfl, rfl, rfl, trivial⟩⟩
       ·replace h := iteF h hb9
        refine wp_skip ?_
        refine blk_n ?_
        refine then_n ?_
        exact ⟨m2, ⟨IntKind.wrap .u64 (x3 + (bitShr .u64 (bitShl .u64 p_y (IntKind.wrap .u64 r1)) 32)), IntKind.wrap .u64 (x4 - 1), h, S.nf [] rfl ⟨rfl, rfl, rfl, rfl, rfl, rfl, rfl, rfl, rfl, trivial⟩⟩, Nat.lt_succ_self _⟩
      ·replace h := iteF h hb8
       refine wp_exit ?_
       refine then_x ?_
       refine then_x ?_
       refine x_same ?_
       refine then_n ?_
       exact ⟨x4, h, S.nf [] rfl ⟨rfl, rfl, rfl, rfl, rfl, rfl, trivial⟩⟩
    clear S h; rintro a w7 ⟨x4, h, S⟩; rw [hj2] at h; clear hj2 j2
    refine then_n ?_
    refine f_seq ?_
    refine f_region ?_
    refine lv S (rn_move (S.tm rfl)) rfl ?_; clear S; intro a S
    refine lv S (rn_mulk (S.tm rfl) rfl) rfl ?_; clear S; intro a S
    refine lv S (rn_move (S.tm rfl)) rfl ?_; clear S; intro a S
    refine lv S (rn_addk (S.tm rfl) (S.tm rfl)) rfl ?_; clear S; intro a S
    refine lv S (rn_move (S.tm rfl)) rfl ?_; clear S; intro a S
    refine lv S (rn_mulk (S.tm rfl) rfl) rfl ?_; clear S; intro a S
    refine lv S (rn_move (S.tm rfl)) rfl ?_; clear S; intro a S
    refine lv S (rn_addk (S.tm rfl) (S.tm rfl)) rfl ?_; clear S; intro a S
    refine lv S (rn_move (S.tm rfl)) rfl ?_; clear S; intro a S
    refine lv S (rn_move (S.tm rfl)) rfl ?_; clear S; intro a S
    refine lv S (rn_mulk (S.tm rfl) (S.tm rfl)) rfl ?_; clear S; intro a S
    refine lv S (rn_subk (S.tm rfl) (S.tm rfl)) rfl ?_; clear S; intro a S
    refine lv S (rn_move (S.tm rfl)) rfl ?_; clear S; intro a S
    obtain ⟨hc9, h⟩ := chkE h
    refine lv S (rn_shr (S.tm rfl) (S.tm rfl) (of_decide_eq_true hc9)) rfl ?_; clear S; intro a S
    refine lv S (rn_assign (S.tm rfl)) rfl ?_; clear S; intro a S
    refine lv S (rn_assign (S.tm rfl)) rfl ?_; clear S; intro a S
    refine l_done ?_
    replace S := S.nk [] [(6, .int .u64 (IntKind.wrap .u64 ((IntKind.wrap .u64 (x1 * 4294967296)) + x4))), (7, .int .u64 (bitShr .u64 (IntKind.wrap .u64 ((IntKind.wrap .u64 ((IntKind.wrap .u64 ((IntKind.wrap .u64 ((IntKind.wrap .u64 ((IntKind.wrap .u64 ((bitOr .u64 (bitShl .u64 p_hi (IntKind.wrap .u64 r1)) (bitShr .u64 p_lo (IntKind.wrap .u64 (64 - (IntKind.wrap .u64 r1))))) * 4294967296)) + (bitShr .u64 (bitShl .u64 p_lo (IntKind.wrap .u64 r1)) 32))) - (IntKind.wrap .u64 (x1 * (bitShl .u64 p_y (IntKind.wrap .u64 r1)))))) * 4294967296)) + (bitAnd .u64 (bitShl .u64 p_lo (IntKind.wrap .u64 r1)) 4294967295))) - (IntKind.wrap .u64 (x4 * (bitShl .u64 p_y (IntKind.wrap .u64 r1)))))) (IntKind.wrap .u64 r1)))] [] rfl ⟨rfl, rfl, trivial⟩
    refine then_n ?_
    refine wp_ret ?_
    obtain rfl := Option.some.inj h
    exact f_ret2 S Tryd.results21 rfl rfl rfl
theorem points_byTime_ok (w : World) (p_base : Int) (p_time : Int) (r : Int) (h : points_byTime p_base p_time = some r) :
    Calls Tryd.prog 13 [.int .i64 p_base, .int .i64 p_time].toArray w (Ret w [] fun _ v _ => v = .int .i64 r) := by
 refine f_enter [] [] Tryd.func13 rfl Tryd.ntmps13 rfl (by simp) (by simp [fps]) (by simp [fps]) fun a S => ?_
 unfold points_byTime at h
 replace S := S.nk [] [(0, .int .i64 p_base), (1, .int .i64 p_time)] [] rfl ⟨rfl, rfl, trivial⟩
 refine f_seq ?_
 refine f_region ?_
 refine lv S (rn_assign rfl) rfl ?_; clear S; intro a S
 refine l_done ?_
 replace S := S.nk [] [(0, .int .i64 p_base), (1, .int .i64 p_time)] [] rfl ⟨rfl, rfl, trivial⟩
 refine then_n ?_
 refine f_seq ?_
 refine f_region ?_
 refine lv S (rn_move (S.tm rfl)) rfl ?_; clear S; intro a S
 refine lv S (rn_conv Tryd.underlying3 Tryd.underlying60 (S.tm rfl)) rfl ?_; clear S; intro a S
 refine lv S (rn_move (S.tm rfl)) rfl ?_; clear S; intro a S
 refine lv S (rn_conv Tryd.underlying3 Tryd.underlying60 (S.tm rfl)) rfl ?_; clear S; intro a S
 refine lv S (rn_assign (S.tm rfl)) rfl ?_; clear S; intro a S
 refine lv S (rn_assign (S.tm rfl)) rfl ?_; clear S; intro a S
 refine l_done ?_
 replace S := S.nk [] [(5, .int .u64 (IntKind.wrap .u64 p_base)), (6, .int .u64 (IntKind.wrap .u64 p_time))] [] rfl ⟨rfl, rfl, trivial⟩
 refine then_n ?_
 refine f_seq ?_
 refine f_region ?_
 refine lv S (rn_move (S.tm rfl)) rfl ?_; clear S; intro a S
 refine lv S (rn_move (S.tm rfl)) rfl ?_; clear S; intro a S
 refine lv S (rn_mulk (S.tm rfl) (S.tm rfl)) rfl ?_; clear S; intro a S
 refine lv S (rn_move (S.tm rfl)) rfl ?_; clear S; intro a S
 refine lv S (rn_mulk (S.tm rfl) (S.tm rfl)) rfl ?_; clear S; intro a S
 refine l_enter S (fun _ => run_call (vs := [.int .u64 (IntKind.wrap .u64 ((IntKind.wrap .u64 ((IntKind.wrap .u64 p_base) * (IntKind.wrap .u64 p_base))) * (IntKind.wrap .u64 p_base))), .int .u64 1000]) ⟨(S.tm rfl), rfl, trivial⟩ Tryd.call20) (bits_Mul64_ok _ (IntKind.wrap .u64 ((IntKind.wrap .u64 ((IntKind.wrap .u64 p_base) * (IntKind.wrap .u64 p_base))) * (IntKind.wrap .u64 p_base))) 1000 _ rfl) rfl ?_; clear S; intro v1 a w1 hv1 hk1 hn1 S
 subst hv1
 refine lv S (rn_move (S.tm rfl)) rfl ?_; clear S; intro a S
 refine lv S (rn_extract (S.tm rfl) rfl) rfl ?_; clear S; intro a S
 refine lv S (rn_extract (S.tm rfl) rfl) rfl ?_; clear S; intro a S
 refine lv S (rn_assign (S.tm rfl)) rfl ?_; clear S; intro a S
 refine lv S (rn_assign (S.tm rfl)) rfl ?_; clear S; intro a S
 refine l_done ?_
 replace S := S.nk [] [(6, .int .u64 (IntKind.wrap .u64 p_time)), (7, .int .u64 ((bits_Mul64 (IntKind.wrap .u64 ((IntKind.wrap .u64 ((IntKind.wrap .u64 p_base) * (IntKind.wrap .u64 p_base))) * (IntKind.wrap .u64 p_base))) 1000).1)), (8, .int .u64 ((bits_Mul64 (IntKind.wrap .u64 ((IntKind.wrap .u64 ((IntKind.wrap .u64 p_base) * (IntKind.wrap .u64 p_base))) * (IntKind.wrap .u64 p_base))) 1000).2))] [] rfl ⟨rfl, rfl, rfl, trivial⟩
 refine then_n ?_
 refine f_seq ?_
 refine f_region ?_
 refine lv S (rn_move (S.tm rfl)) rfl ?_; clear S; intro a S
 refine lv S (rn_move (S.tm rfl)) rfl ?_; clear S; intro a S
 refine lv S (rn_mulk (S.tm rfl) (S.tm rfl)) rfl ?_; clear S; intro a S
 refine lv S (rn_move (S.tm rfl)) rfl ?_; clear S; intro a S
 refine lv S (rn_mulk (S.tm rfl) (S.tm rfl)) rfl ?_; clear S; intro a S
 refine lv S (rn_assign (S.tm rfl)) rfl ?_; clear S; intro a S
 refine l_done ?_
 replace S := S.nk [] [(6, .int .u64 (IntKind.wrap .u64 ((IntKind.wrap .u64 ((IntKind.wrap .u64 p_time) * (IntKind.wrap .u64 p_time))) * (IntKind.wrap .u64 p_time)))), (7, .int .u64 ((bits_Mul64 (IntKind.wrap .u64 ((IntKind.wrap .u64 ((IntKind.wrap .u64 p_base) * (IntKind.wrap .u64 p_base))) * (IntKind.wrap .u64 p_base))) 1000).1)), (8, .int .u64 ((bits_Mul64 (IntKind.wrap .u64 ((IntKind.wrap .u64 ((IntKind.wrap .u64 p_base) * (IntKind.wrap .u64 p_base))) * (IntKind.wrap .u64 p_base))) 1000).2))] [] rfl ⟨rfl, rfl, rfl, trivial⟩
 refine then_n ?_
 refine f_seq ?_
 refine f_seq ?_
 refine f_region ?_
 refine lv S (rn_move (S.tm rfl)) rfl ?_; clear S; intro a S
 refine lv S (rn_move (S.tm rfl)) rfl ?_; clear S; intro a S
 refine lv S (rn_geq (S.tm rfl) (S.tm rfl)) rfl ?_; clear S; intro a S
 refine l_done ?_
 replace S := S.nk [] [(6, .int .u64 (IntKind.wrap .u64 ((IntKind.wrap .u64 ((IntKind.wrap .u64 p_time) * (IntKind.wrap .u64 p_time))) * (IntKind.wrap .u64 p_time)))), (7, .int .u64 ((bits_Mul64 (IntKind.wrap .u64 ((IntKind.wrap .u64 ((IntKind.wrap .u64 p_base) * (IntKind.wrap .u64 p_base))) * (IntKind.wrap .u64 p_base))) 1000).1)), (8, .int .u64 ((bits_Mul64 (IntKind.wrap .u64 ((IntKind.wrap .u64 ((IntKind.wrap .u64 p_base) * (IntKind.wrap .u64 p_base))) * (IntKind.wrap .u64 p_base))) 1000).2)), (31, .bool (decide ((IntKind.wrap .u64 ((IntKind.wrap .u64 ((IntKind.wrap .u64 p_time) * (IntKind.wrap .u64 p_time))) * (IntKind.wrap .u64 p_time))) ≤ ((bits_Mul64 (IntKind.wrap .u64 ((IntKind.wrap .u64 ((IntKind.wrap .u64 p_base) * (IntKind.wrap .u64 p_base))) * (IntKind.wrap .u64 p_base))) 1000).1))))] [] rfl ⟨rfl, rfl, rfl, rfl, trivial⟩
 refine then_n ?_
 refine f_cond (S.tm rfl) (fun hb1 => ?_) (fun hb1 => ?_)
 ·replace h := iteT h hb1
  refine f_seq ?_
  refine f_region ?_
  refine lv S (rn_assign rfl) rfl ?_; clear S; intro a S
  refine l_done ?_
  replace S := S.nk [] [(4, .int .i64 1000000000)] [] rfl ⟨rfl, trivial⟩
  refine then_n ?_
  refine wp_ret ?_
  refine then_r ?_
  obtain rfl := Option.some.inj h
  exact f_ret S Tryd.results13 rfl rfl
 ·replace h := iteF h hb1
  refine wp_skip ?_
  refine then_n ?_
  refine f_seq ?_
  refine f_region ?_
  refine lv S (rn_move (S.tm rfl)) rfl ?_; clear S; intro a S
  refine lv S (rn_move (S.tm rfl)) rfl ?_; clear S; intro a S
  refine lv S (rn_move (S.tm rfl)) rfl ?_; clear S; intro a S
  obtain ⟨r1, hr1, h⟩ := bindE h
  refine l_enter S (fun _ => run_call (vs := [.int .u64 ((bits_Mul64 (IntKind.wrap .u64 ((IntKind.wrap .u64 ((IntKind.wrap .u64 p_base) * (IntKind.wrap .u64 p_base))) * (IntKind.wrap .u64 p_base))) 1000).1), .int .u64 ((bits_Mul64 (IntKind.wrap .u64 ((IntKind.wrap .u64 ((IntKind.wrap .u64 p_base) * (IntKind.wrap .u64 p_base))) * (IntKind.wrap .u64 p_base))) 1000).2), .int .u64 (IntKind.wrap .u64 ((IntKind.wrap .u64 ((IntKind.wrap .u64 p_time) * (IntKind.wrap .u64 p_time))) * (IntKind.wrap .u64 p_time)))]) ⟨(S.tm rfl), (S.tm rfl), (S.tm rfl), trivial⟩ Tryd.call21) (bits_Div64_ok _ ((bits_Mul64 (IntKind.wrap .u64 ((IntKind.wrap .u64 ((IntKind.wrap .u64 p_base) * (IntKind.wrap .u64 p_base))) * (IntKind.wrap .u64 p_base))) 1000).1) ((bits_Mul64 (IntKind.wrap .u64 ((IntKind.wrap .u64 ((IntKind.wrap .u64 p_base) * (IntKind.wrap .u64 p_base))) * (IntKind.wrap .u64 p_base))) 1000).2) (IntKind.wrap .u64 ((IntKind.wrap .u64 ((IntKind.wrap .u64 p_time) * (IntKind.wrap .u64 p_time))) * (IntKind.wrap .u64 p_time))) _ hr1) rfl ?_; clear S; intro v2 a w2 hv2 hk2 hn2 S
  subst hv2
  refine lv S (rn_move (S.tm rfl)) rfl ?_; clear S; intro a S
  refine lv S (rn_extract (S.tm rfl) rfl) rfl ?_; clear S; intro a S
  refine lv S (rn_extract (S.tm rfl) rfl) rfl ?_; clear S; intro a S
  refine lv S (rn_assign (S.tm rfl)) rfl ?_; clear S; intro a S
  refine lv S (rn_assign (S.tm rfl)) rfl ?_; clear S; intro a S
  refine l_done ?_
  replace S := S.nk [] [(9, .int .u64 r1.1)] [] rfl ⟨rfl, trivial⟩
  refine then_n ?_
  refine f_seq ?_
  refine f_region ?_
  refine lv S (rn_move (S.tm rfl)) rfl ?_; clear S; intro a S
  refine lv S (rn_min2 (S.tm rfl) rfl) rfl ?_; clear S; intro a S
  refine lv S (rn_conv Tryd.underlying60 Tryd.underlying3 (S.tm rfl)) rfl ?_; clear S; intro a S
  refine lv S (rn_assign (S.tm rfl)) rfl ?_; clear S; intro a S
  refine l_done ?_
  replace S := S.nk [] [(4, .int .i64 (W (imin r1.1 1000000000)))] [] rfl ⟨rfl, trivial⟩
  refine then_n ?_
  refine wp_ret ?_
  obtain rfl := Option.some.inj h
  exact f_ret S Tryd.results13 rfl rfl
theorem points_ByTime_ok (w : World) (v_p_l : Value) (p_l : List GBase) (hs_p_l : Slc (view w []) 2 v_p_l (p_l.map GBase.enc)) (p_race : ByteArray) (p_time : Int) (r : Int × Int) (h : points_ByTime p_l p_race p_time = some r) :
    Calls Tryd.prog 5 [v_p_l, .string p_race, .int .i64 p_time].toArray w (Ret w [] fun _ v _ => v = .tuple #[.int .i64 r.1, .int .i64 r.2]) := by
 refine f_enter [] [] Tryd.func5 rfl Tryd.ntmps5 rfl (by simp) (by simp [fps]) (by simp [fps]) fun a S => ?_
 unfold points_ByTime at h
 replace S := S.nk [] [(0, v_p_l), (1, .string p_race), (2, .int .i64 p_time)] [] rfl ⟨rfl, rfl, rfl, trivial⟩
 refine f_seq ?_
 refine f_region ?_
 refine lv S (rn_assign rfl) rfl ?_; clear S; intro a S
 refine lv S (rn_assign rfl) rfl ?_; clear S; intro a S
 refine l_done ?_
 replace S := S.nk [] [(0, v_p_l), (1, .string p_race), (2, .int .i64 p_time)] [] rfl ⟨rfl, rfl, rfl, trivial⟩
 refine then_n ?_
 refine f_seq ?_
 refine f_seq ?_
 refine f_region ?_
 refine lv S (rn_move (S.tm rfl)) rfl ?_; clear S; intro a S
 obtain ⟨r1, hr1, h⟩ := bindE h
 refine l_enter S (fun _ => run_call (vs := [v_p_l]) ⟨(S.tm rfl), trivial⟩ Tryd.call10) (points_CheckBase_ok _ v_p_l p_l (hs_p_l.mono (S.le_arg nil_sub)) _ hr1) rfl ?_; clear S; intro v1 a w1 hv1 hk1 hn1 S
 subst hv1
 refine lv S (rn_assign (S.tm rfl)) rfl ?_; clear S; intro a S
 refine l_done ?_
 replace S := S.nk [] [(0, v_p_l), (1, .string p_race), (2, .int .i64 p_time), (8, .int .i64 r1)] [] rfl ⟨rfl, rfl, rfl, rfl, trivial⟩
 refine then_n ?_
 refine f_seq ?_
 refine f_region ?_
 refine lv S (rn_move (S.tm rfl)) rfl ?_; clear S; intro a S
 refine lv S (rn_neq (S.tm rfl) rfl) rfl ?_; clear S; intro a S
 refine l_done ?_
 replace S := S.nk [] [(0, v_p_l), (1, .string p_race), (2, .int .i64 p_time), (8, .int .i64 r1), (13, .bool (!decide (r1 = 0)))] [] rfl ⟨rfl, rfl, rfl, rfl, rfl, trivial⟩
 refine then_n ?_
 refine f_cond (S.tm rfl) (fun hb1 => ?_) (fun hb1 => ?_)
 ·replace h := iteT h hb1
  refine f_seq ?_
  refine f_region ?_
  refine lv S (rn_move (S.tm rfl)) rfl ?_; clear S; intro a S
  refine lv S (rn_assign rfl) rfl ?_; clear S; intro a S
  refine lv S (rn_assign (S.tm rfl)) rfl ?_; clear S; intro a S
  refine l_done ?_
  replace S := S.nk [] [(6, .int .i64 0), (7, .int .i64 r1)] [] rfl ⟨rfl, rfl, trivial⟩
  refine then_n ?_
  refine wp_ret ?_
  refine then_r ?_
  obtain rfl := Option.some.inj h
  exact f_ret2 S Tryd.results5 rfl rfl rfl
 ·replace h := iteF h hb1
  refine wp_skip ?_
  refine then_n ?_
  refine f_seq ?_
  refine f_region ?_
  refine lv S (rn_move (S.tm rfl)) rfl ?_; clear S; intro a S
  refine lv S (rn_move (S.tm rfl)) rfl ?_; clear S; intro a S
  refine l_enter S (fun _ => run_call (vs := [v_p_l, .string p_race]) ⟨(S.tm rfl), (S.tm rfl), trivial⟩ Tryd.call11) (points_baseOf_ok _ v_p_l p_l (hs_p_l.mono (S.le_arg nil_sub)) p_race _ rfl) rfl ?_; clear S; intro v2 a w2 hv2 hk2 hn2 S
  subst hv2
  refine lv S (rn_assign (S.tm rfl)) rfl ?_; clear S; intro a S
  refine l_done ?_
  replace S := S.nk [] [(2, .int .i64 p_time), (9, .int .i64 (points_baseOf p_l p_race))] [] rfl ⟨rfl, rfl, trivial⟩
  refine then_n ?_
  refine f_seq ?_
  refine f_seq ?_
  refine f_region ?_
  refine lv S (rn_move (S.tm rfl)) rfl ?_; clear S; intro a S
  refine lv S (rn_eql (S.tm rfl) rfl) rfl ?_; clear S; intro a S
  refine l_done ?_
  replace S := S.nk [] [(2, .int .i64 p_time), (9, .int .i64 (points_baseOf p_l p_race)), (19, .bool (decide ((points_baseOf p_l p_race) = 0)))] [] rfl ⟨rfl, rfl, rfl, trivial⟩
  refine then_n ?_
  refine f_cond (S.tm rfl) (fun hb2 => ?_) (fun hb2 => ?_)
  ·replace h := iteT h hb2
   refine f_seq ?_
   refine f_region ?_
   refine lv S (rn_assign rfl) rfl ?_; clear S; intro a S
   refine lv S (rn_assign rfl) rfl ?_; clear S; intro a S
   refine l_done ?_
   replace S := S.nk [] [(6, .int .i64 0), (7, .int .i64 8)] [] rfl ⟨rfl, rfl, trivial⟩
   refine then_n ?_
   refine wp_ret ?_
   refine then_r ?_
   obtain rfl := Option.some.inj h
   exact f_ret2 S Tryd.results5 rfl rfl rfl
  ·replace h := iteF h hb2
   refine wp_skip ?_
   refine then_n ?_
   refine f_seq ?_
   refine f_seq ?_
   refine f_region ?_
   refine lv S (rn_move (S.tm rfl)) rfl ?_; clear S; intro a S
   refine l_enter S (fun _ => run_call (vs := [.int .i64 p_time]) ⟨(S.tm rfl), trivial⟩ Tryd.call12) (timing_IsTime_ok _ p_time _ rfl) rfl ?_; clear S; intro v3 a w3 hv3 hk3 hn3 S
   subst hv3
   refine lv S (rn_not (S.tm rfl)) rfl ?_; clear S; intro a S
   refine l_done ?_
   replace S := S.nk [] [(2, .int .i64 p_time), (9, .int .i64 (points_baseOf p_l p_race)), (22, .bool (!(timing_IsTime p_time)))] [] rfl ⟨rfl, rfl, rfl, trivial⟩
   refine then_n ?_
   refine f_cond (S.tm rfl) (fun hb3 => ?_) (fun hb3 => ?_)
   ·replace h := iteT h hb3
    refine f_seq ?_
    refine f_region ?_
    refine lv S (rn_assign rfl) rfl ?_; clear S; intro a S
    refine lv S (rn_assign rfl) rfl ?_; clear S; intro a S
    refine l_done ?_
    replace S := S.nk [] [(6, .int .i64 0), (7, .int .i64 1)] [] rfl ⟨rfl, rfl, trivial⟩
    refine then_n ?_
    refine wp_ret ?_
    refine then_r ?_
    obtain rfl := Option.some.inj h
    exact f_ret2 S Tryd.results5 rfl rfl rfl
   ·replace h := iteF h hb3
    refine wp_skip ?_
    refine then_n ?_
    refine f_seq ?_
    refine f_region ?_
    refine lv S (rn_move (S.tm rfl)) rfl ?_; clear S; intro a S
    refine lv S (rn_move (S.tm rfl)) rfl ?_; clear S; intro a S
    obtain ⟨r2, hr2, h⟩ := bindE h
    refine l_enter S (fun _ => run_call (vs := [.int .i64 (points_baseOf p_l p_race), .int .i64 p_time]) ⟨(S.tm rfl), (S.tm rfl), trivial⟩ Tryd.call13) (points_byTime_ok _ (points_baseOf p_l p_race) p_time _ hr2) rfl ?_; clear S; intro v4 a w4 hv4 hk4 hn4 S
    subst hv4
    refine lv S (rn_assign (S.tm rfl)) rfl ?_; clear S; intro a S
    refine lv S (rn_assign rfl) rfl ?_; clear S; intro a S
    refine l_done ?_
    replace S := S.nk [] [(6, .int .i64 r2), (7, .int .i64 0)] [] rfl ⟨rfl, rfl, trivial⟩
    refine then_n ?_
    refine wp_ret ?_
    obtain rfl := Option.some.inj h
    exact f_ret2 S Tryd.results5 rfl rfl rfl
theorem tumbkeep2_errs_ok (w : World) (v_p_l : Value) (p_l : List Int) (hs_p_l : Slc (view w []) 1 v_p_l (p_l.map eInt)) (r : Int) (h : tumbkeep2_errs p_l = r) :
    Calls Tryd.prog 6 [v_p_l].toArray w (Ret w [] fun _ v _ => v = .int .i64 r) := by
 refine f_enter [] [] Tryd.func6 rfl Tryd.ntmps6 rfl (by simp) (by simp [fps]) (by simp [fps]) fun a S => ?_
 unfold tumbkeep2_errs at h
 replace S := S.nk [] [(0, v_p_l)] [] rfl ⟨rfl, trivial⟩
 refine f_seq ?_
 refine f_region ?_
 refine lv S (rn_assign rfl) rfl ?_; clear S; intro a S
 refine l_done ?_
 replace S := S.nk [] [(0, v_p_l)] [] rfl ⟨rfl, trivial⟩
 refine then_n ?_
 refine f_seq ?_
 refine f_seq ?_
 refine f_region ?_
 refine lv S (rn_move (S.tm rfl)) rfl ?_; clear S; intro a S
 refine lv S (rn_lenT sl_42 (S.tm rfl) (slc_len hs_p_l)) rfl ?_; clear S; intro a S
 refine lv S (rn_move rfl) rfl ?_; clear S; intro a S
 refine l_done ?_
 replace S := S.nk [] [(5, v_p_l), (6, .int .i64 (p_l.length : Int)), (7, .int .i64 0)] [] rfl ⟨rfl, rfl, rfl, trivial⟩
 refine then_n ?_
 obtain ⟨j1, hj1, h⟩ := joinE h
 refine f_join (fun a w' => j1 = r ∧ Sx w [] nov [] [] 15 a w') ?_ ?_
 ·refine wp_block ?_
  refine f_loop (fun (ys1 : List Int) a w' => ∃ i1 : Nat, (∃ dn, p_l = dn ++ ys1 ∧ dn.length = i1) ∧ tumbkeep2_errs_l1 j1 ys1 i1 = r ∧ Sx w [] nov [] [(5, v_p_l), (6, .int .i64 (p_l.length : Int)), (7, .int .i64 (i1 : Int))] 15 a w') List.length p_l ⟨0, ⟨[], rfl, rfl⟩, h, S.nf [] rfl ⟨rfl, rfl, rfl, trivial⟩⟩ ?_
  clear S h; rintro ys1 a w1 ⟨i1, ⟨dn, hd1, hi1⟩, h, S⟩
  cases ys1 with
  | nil =>
   rw [tumbkeep2_errs_l1.eq_1] at h
   refine f_seq ?_
   refine f_region ?_
   refine lv S (rn_lss (S.tm rfl) (S.tm rfl)) rfl ?_; clear S; intro a S
   refine l_done ?_
   replace S := S.nk [] [(5, v_p_l), (6, .int .i64 (p_l.length : Int)), (7, .int .i64 (i1 : Int)), (8, .bool (decide ((i1 : Int) < (p_l.length : Int))))] [] rfl ⟨rfl, rfl, rfl, rfl, trivial⟩
   refine then_n ?_
   refine f_seq ?_
   refine wp_cond_false ((S.tm rfl).trans (congrArg Value.bool (rng_nil hd1 hi1))) ?_
   refine wp_exit ?_
   refine then_x ?_
   refine then_x ?_
   refine x_same ?_
   refine then_n ?_
   exact ⟨h, S.nf [] rfl trivial⟩
  | cons y1 ys1 =>
   rw [tumbkeep2_errs_l1.eq_2] at h
   refine f_seq ?_
   refine f_region ?_
   refine lv S (rn_lss (S.tm rfl) (S.tm rfl)) rfl ?_; clear S; intro a S
   refine l_done ?_
   replace S := S.nk [] [(5, v_p_l), (6, .int .i64 (p_l.length : Int)), (7, .int .i64 (i1 : Int)), (8, .bool (decide ((i1 : Int) < (p_l.length : Int))))] [] rfl ⟨rfl, rfl, rfl, rfl, trivial⟩
   refine then_n ?_
   refine f_seq ?_
   refine wp_cond_true ((S.tm rfl).trans (congrArg Value.bool (rng_cons hd1 hi1))) ?_
   refine wp_skip ?_
   refine then_n ?_
   refine f_seq ?_
   refine wp_block ?_
   refine f_seq ?_
   refine f_region ?_
   obtain ⟨b1, o1, hm1, hr1⟩ := rn_indexT (a := a) (x := .tmp 5) (y := .tmp 7) (ty := 0) sl_42 hs_p_l (get_mid hd1 hi1) rfl (S.tm rfl) (S.tm rfl)
   refine lv S (hr1 _) rfl ?_; clear S; intro a S
   clear hr1
   refine lv S (rn_ld Tryd.isAgg30 (off := o1) (o := 0) (S.tm rfl) (hm1.at S.emb0) rfl) rfl ?_; clear S; intro a S
   refine lv S (rn_assign (S.tm rfl)) rfl ?_; clear S; intro a S
   refine l_done ?_
   replace S := S.nk [] [(4, .int .i64 y1), (5, v_p_l), (6, .int .i64 (p_l.length : Int)), (7, .int .i64 (i1 : Int))] [] rfl ⟨rfl, rfl, rfl, rfl, trivial⟩
   refine then_n ?_
   refine f_seq ?_
   refine f_region ?_
   refine lv S (rn_move (S.tm rfl)) rfl ?_; clear S; intro a S
   refine lv S (rn_neq (S.tm rfl) rfl) rfl ?_; clear S; intro a S
   refine l_done ?_
   replace S := S.nk [] [(4, .int .i64 y1), (5, v_p_l), (6, .int .i64 (p_l.length : Int)), (7, .int .i64 (i1 : Int)), (12, .bool (!decide (y1 = 0)))] [] rfl ⟨rfl, rfl, rfl, rfl, rfl, trivial⟩
   refine then_n ?_
   refine f_cond (S.tm rfl) (fun hb1 => ?_) (fun hb1 => ?_)
   ·replace h := iteT h hb1
    refine f_seq ?_
    refine f_region ?_
    refine lv S (rn_move (S.tm rfl)) rfl ?_; clear S; intro a S
    refine lv S (rn_assign (S.tm rfl)) rfl ?_; clear S; intro a S
    refine l_done ?_
    replace S := S.nk [] [(2, .int .i64 y1)] [] rfl ⟨rfl, trivial⟩
    refine then_n ?_
    refine wp_ret ?_
    refine blk_r ?_
    refine then_r ?_
    refine then_r ?_
    refine blk_r ?_
    refine then_r ?_
    refine then_r ?_
    subst h
    exact f_ret S Tryd.results6 rfl rfl
   ·replace h := iteF h hb1
    refine wp_skip ?_
    refine blk_n ?_
    refine then_n ?_
    refine f_region ?_
    refine lv S (rn_add (S.tm rfl) rfl) rfl ?_; clear S; intro a S
    refine lv S (rn_move (S.tm rfl)) rfl ?_; clear S; intro a S
    refine l_done ?_
    replace S := S.nk [] [(5, v_p_l), (6, .int .i64 (p_l.length : Int)), (7, .int .i64 (W ((i1 : Int) + 1)))] [] rfl ⟨rfl, rfl, rfl, trivial⟩
    refine then_n ?_
    exact ⟨ys1, ⟨i1 + 1, ⟨_, (hd1).trans (List.append_cons _ _ _), by simp [hi1]⟩, h, S.nf [] rfl ⟨rfl, rfl, (congrArg (fun z => some (Value.int .i64 z)) (rng_next hd1 hi1 (slc_max hs_p_l))), trivial⟩⟩, Nat.lt_succ_self _⟩
 clear S h; rintro a w2 ⟨h, S⟩; rw [hj1] at h; clear hj1 j1
 refine then_n ?_
 refine f_seq ?_
 refine f_region ?_
 refine lv S (rn_assign rfl) rfl ?_; clear S; intro a S
 refine l_done ?_
 replace S := S.nk [] [(2, .int .i64 0)] [] rfl ⟨rfl, trivial⟩
 refine then_n ?_
 refine wp_ret ?_
 subst h
 exact f_ret S Tryd.results6 rfl rfl
theorem points_TimeFor_ok (w : World) (v_p_l : Value) (p_l : List GBase) (hs_p_l : Slc (view w []) 2 v_p_l (p_l.map GBase.enc)) (p_race : ByteArray) (p_points : Int) (r : Int × Bool × Int) (h : points_TimeFor p_l p_race p_points = some r) :
    Calls Tryd.prog 7 [v_p_l, .string p_race, .int .i64 p_points].toArray w (Ret w [] fun _ v _ => v = .tuple #[.int .i64 r.1, .bool r.2.1, .int .i64 r.2.2]) := by
 refine f_enter [] [] Tryd.func7 rfl Tryd.ntmps7 rfl (by simp) (by simp [fps]) (by simp [fps]) fun a S => ?_
 unfold points_TimeFor at h
 replace S := S.nk [] [(0, v_p_l), (1, .string p_race), (2, .int .i64 p_points)] [] rfl ⟨rfl, rfl, rfl, trivial⟩
 refine f_seq ?_
 refine f_region ?_
 refine lv S (rn_assign rfl) rfl ?_; clear S; intro a S
 refine lv S (rn_assign rfl) rfl ?_; clear S; intro a S
 refine lv S (rn_assign rfl) rfl ?_; clear S; intro a S
 refine l_done ?_
 replace S := S.nk [] [(0, v_p_l), (1, .string p_race), (2, .int .i64 p_points)] [] rfl ⟨rfl, rfl, rfl, trivial⟩
 refine then_n ?_
 refine f_seq ?_
 refine f_seq ?_
 refine f_region ?_
 refine lv S (rn_move (S.tm rfl)) rfl ?_; clear S; intro a S
 obtain ⟨r1, hr1, h⟩ := bindE h
 refine l_enter S (fun _ => run_call (vs := [v_p_l]) ⟨(S.tm rfl), trivial⟩ Tryd.call10) (points_CheckBase_ok _ v_p_l p_l (hs_p_l.mono (S.le_arg nil_sub)) _ hr1) rfl ?_; clear S; intro v1 a w1 hv1 hk1 hn1 S
 subst hv1
 refine lv S (rn_assign (S.tm rfl)) rfl ?_; clear S; intro a S
 refine l_done ?_
 replace S := S.nk [] [(0, v_p_l), (1, .string p_race), (2, .int .i64 p_points), (9, .int .i64 r1)] [] rfl ⟨rfl, rfl, rfl, rfl, trivial⟩
 refine then_n ?_
 refine f_seq ?_
 refine f_region ?_
 refine lv S (rn_move (S.tm rfl)) rfl ?_; clear S; intro a S
 refine lv S (rn_neq (S.tm rfl) rfl) rfl ?_; clear S; intro a S
 refine l_done ?_
 replace S := S.nk [] [(0, v_p_l), (1, .string p_race), (2, .int .i64 p_points), (9, .int .i64 r1), (17, .bool (!decide (r1 = 0)))] [] rfl ⟨rfl, rfl, rfl, rfl, rfl, trivial⟩
 refine then_n ?_
 refine f_cond (S.tm rfl) (fun hb1 => ?_) (fun hb1 => ?_)
 ·replace h := iteT h hb1
  refine f_seq ?_
  refine f_region ?_
  refine lv S (rn_move (S.tm rfl)) rfl ?_; clear S; intro a S
  refine lv S (rn_assign rfl) rfl ?_; clear S; intro a S
  refine lv S (rn_assign rfl) rfl ?_; clear S; intro a S
  refine lv S (rn_assign (S.tm rfl)) rfl ?_; clear S; intro a S
  refine l_done ?_
  replace S := S.nk [] [(6, .int .i64 0), (7, .bool false), (8, .int .i64 r1)] [] rfl ⟨rfl, rfl, rfl, trivial⟩
  refine then_n ?_
  refine wp_ret ?_
  refine then_r ?_
  obtain rfl := Option.some.inj h
  exact f_ret3 S Tryd.results7 rfl rfl rfl rfl
 ·replace h := iteF h hb1
  refine wp_skip ?_
  refine then_n ?_
  refine f_seq ?_
  refine f_region ?_
  refine lv S (rn_move (S.tm rfl)) rfl ?_; clear S; intro a S
  refine lv S (rn_move (S.tm rfl)) rfl ?_; clear S; intro a S
  refine l_enter S (fun _ => run_call (vs := [v_p_l, .string p_race]) ⟨(S.tm rfl), (S.tm rfl), trivial⟩ Tryd.call11) (points_baseOf_ok _ v_p_l p_l (hs_p_l.mono (S.le_arg nil_sub)) p_race _ rfl) rfl ?_; clear S; intro v2 a w2 hv2 hk2 hn2 S
  subst hv2
  refine lv S (rn_assign (S.tm rfl)) rfl ?_; clear S; intro a S
  refine l_done ?_
  replace S := S.nk [] [(2, .int .i64 p_points), (10, .int .i64 (points_baseOf p_l p_race))] [] rfl ⟨rfl, rfl, trivial⟩
  refine then_n ?_
  refine f_seq ?_
  refine f_seq ?_
  refine f_region ?_
  refine lv S (rn_move (S.tm rfl)) rfl ?_; clear S; intro a S
  refine lv S (rn_eql (S.tm rfl) rfl) rfl ?_; clear S; intro a S
  refine l_done ?_
  replace S := S.nk [] [(2, .int .i64 p_points), (10, .int .i64 (points_baseOf p_l p_race)), (23, .bool (decide ((points_baseOf p_l p_race) = 0)))] [] rfl ⟨rfl, rfl, rfl, trivial⟩
  refine then_n ?_
  refine f_cond (S.tm rfl) (fun hb2 => ?_) (fun hb2 => ?_)
  ·replace h := iteT h hb2
   refine f_seq ?_
   refine f_region ?_
   refine lv S (rn_assign rfl) rfl ?_; clear S; intro a S
   refine lv S (rn_assign rfl) rfl ?_; clear S; intro a S
   refine lv S (rn_assign rfl) rfl ?_; clear S; intro a S
   refine l_done ?_
   replace S := S.nk [] [(6, .int .i64 0), (7, .bool false), (8, .int .i64 8)] [] rfl ⟨rfl, rfl, rfl, trivial⟩
   refine then_n ?_
   refine wp_ret ?_
   refine then_r ?_
   obtain rfl := Option.some.inj h
   exact f_ret3 S Tryd.results7 rfl rfl rfl rfl
  ·replace h := iteF h hb2
   refine wp_skip ?_
   refine then_n ?_
   refine f_seq ?_
   refine f_seq ?_
   refine f_region ?_
   refine lv S (rn_move (S.tm rfl)) rfl ?_; clear S; intro a S
   refine l_enter S (fun _ => run_call (vs := [.int .i64 p_points, .int .i64 1, .int .i64 1000000]) ⟨(S.tm rfl), rfl, rfl, trivial⟩ Tryd.call14) (words_Within_ok _ p_points 1 1000000 _ rfl) rfl ?_; clear S; intro v3 a w3 hv3 hk3 hn3 S
   subst hv3
   refine lv S (rn_not (S.tm rfl)) rfl ?_; clear S; intro a S
   refine l_done ?_
   replace S := S.nk [] [(2, .int .i64 p_points), (10, .int .i64 (points_baseOf p_l p_race)), (26, .bool (!(words_Within p_points 1 1000000)))] [] rfl ⟨rfl, rfl, rfl, trivial⟩
   refine then_n ?_
   refine f_cond (S.tm rfl) (fun hb3 => ?_) (fun hb3 => ?_)
   ·replace h := iteT h hb3
    refine f_seq ?_
    refine f_region ?_
    refine lv S (rn_assign rfl) rfl ?_; clear S; intro a S
    refine lv S (rn_assign rfl) rfl ?_; clear S; intro a S
    refine lv S (rn_assign rfl) rfl ?_; clear S; intro a S
    refine l_done ?_
    replace S := S.nk [] [(6, .int .i64 0), (7, .bool false), (8, .int .i64 1)] [] rfl ⟨rfl, rfl, rfl, trivial⟩
    refine then_n ?_
    refine wp_ret ?_
    refine then_r ?_
    obtain rfl := Option.some.inj h
    exact f_ret3 S Tryd.results7 rfl rfl rfl rfl
   ·replace h := iteF h hb3
    refine wp_skip ?_
    refine then_n ?_
    refine f_seq ?_
    refine f_seq ?_
    refine f_region ?_
    refine lv S (rn_move (S.tm rfl)) rfl ?_; clear S; intro a S
    obtain ⟨r2, hr2, h⟩ := bindE h
    refine l_enter S (fun _ => run_call (vs := [.int .i64 (points_baseOf p_l p_race), .int .i64 1]) ⟨(S.tm rfl), rfl, trivial⟩ Tryd.call13) (points_byTime_ok _ (points_baseOf p_l p_race) 1 _ hr2) rfl ?_; clear S; intro v4 a w4 hv4 hk4 hn4 S
    subst hv4
    refine lv S (rn_move (S.tm rfl)) rfl ?_; clear S; intro a S
    refine lv S (rn_lss (S.tm rfl) (S.tm rfl)) rfl ?_; clear S; intro a S
    refine l_done ?_
    replace S := S.nk [] [(2, .int .i64 p_points), (10, .int .i64 (points_baseOf p_l p_race)), (30, .bool (decide (r2 < p_points)))] [] rfl ⟨rfl, rfl, rfl, trivial⟩
    refine then_n ?_
    refine f_cond (S.tm rfl) (fun hb4 => ?_) (fun hb4 => ?_)
    ·replace h := iteT h hb4
     refine f_seq ?_
     refine f_region ?_
     refine lv S (rn_assign rfl) rfl ?_; clear S; intro a S
     refine lv S (rn_assign rfl) rfl ?_; clear S; intro a S
     refine lv S (rn_assign rfl) rfl ?_; clear S; intro a S
     refine l_done ?_
     replace S := S.nk [] [(6, .int .i64 0), (7, .bool false), (8, .int .i64 0)] [] rfl ⟨rfl, rfl, rfl, trivial⟩
     refine then_n ?_
     refine wp_ret ?_
     refine then_r ?_
     obtain rfl := Option.some.inj h
     exact f_ret3 S Tryd.results7 rfl rfl rfl rfl
    ·replace h := iteF h hb4
     refine wp_skip ?_
     refine then_n ?_
     refine f_seq ?_
     refine f_region ?_
     refine lv S (rn_assign rfl) rfl ?_; clear S; intro a S
     refine lv S (rn_assign rfl) rfl ?_; clear S; intro a S
     refine l_done ?_
     replace S := S.nk [] [(2, .int .i64 p_points), (10, .int .i64 (points_baseOf p_l p_race)), (11, .int .i64 1), (12, .int .i64 360000)] [] rfl ⟨rfl, rfl, rfl, rfl, trivial⟩
     refine then_n ?_
     refine f_seq ?_
     obtain ⟨j1, hj1, h⟩ := joinE h
     refine f_join (fun a w' => ∃ x1 : Int, j1 x1 = some r ∧ Sx w [] nov [] [(11, .int .i64 x1)] 48 a w') ?_ ?_
     ·refine wp_block ?_
      refine f_loop (fun (m1 : Nat) a w' => ∃ x1 : Int, ∃ x2 : Int, points_TimeFor_l1 p_l p_race p_points j1 m1 x1 x2 = some r ∧ Sx w [] nov [] [(2, .int .i64 p_points), (10, .int .i64 (points_baseOf p_l p_race)), (11, .int .i64 x1), (12, .int .i64 x2)] 48 a w') id 360001 ⟨1, 360000, h, S.nf [] rfl ⟨rfl, rfl, rfl, rfl, trivial⟩⟩ ?_
      clear S h; rintro m1 a w5 ⟨x1, x2, h, S⟩
      cases m1 with
      | zero => rw [points_TimeFor_l1.eq_1] at h; cases h
      | succ m1 =>
       rw [points_TimeFor_l1.eq_2] at h
       refine f_seq ?_
       refine f_seq ?_
       refine f_region ?_
       refine lv S (rn_move (S.tm rfl)) rfl ?_; clear S; intro a S
       refine lv S (rn_move (S.tm rfl)) rfl ?_; clear S; intro a S
       refine lv S (rn_lss (S.tm rfl) (S.tm rfl)) rfl ?_; clear S; intro a S
       refine l_done ?_
       replace S := S.nk [] [(2, .int .i64 p_points), (10, .int .i64 (points_baseOf p_l p_race)), (11, .int .i64 x1), (12, .int .i64 x2), (33, .bool (decide (x1 < x2)))] [] rfl ⟨rfl, rfl, rfl, rfl, rfl, trivial⟩
       refine then_n ?_
       refine f_cond (S.tm rfl) (fun hb5 => ?_) (fun hb5 => ?_)
       ·replace h := iteT h hb5
        refine wp_skip ?_
        refine then_n ?_
        obtain ⟨j2, hj2, h⟩ := joinE h
        refine f_join (fun a w' => ∃ x3 : Int, ∃ x4 : Int, j2 x3 x4 = some r ∧ Sx w [] nov [] [(2, .int .i64 p_points), (10, .int .i64 (points_baseOf p_l p_race)), (11, .int .i64 x3), (12, .int .i64 x4)] 48 a w') ?_ ?_
        ·refine wp_block ?_
         refine f_seq ?_
         refine f_region ?_
         refine lv S (rn_move (S.tm rfl)) rfl ?_; clear S; intro a S
         refine lv S (rn_move (S.tm rfl)) rfl ?_; clear S; intro a S
         refine lv S (rn_add (S.tm rfl) (S.tm rfl)) rfl ?_; clear S; intro a S
         refine lv S (rn_add (S.tm rfl) rfl) rfl ?_; clear S; intro a S
         refine lv S (rn_quo (S.tm rfl) rfl (by decide)) rfl ?_; clear S; intro a S
         refine lv S (rn_assign (S.tm rfl)) rfl ?_; clear S; intro a S
         refine l_done ?_
         replace S := S.nk [] [(2, .int .i64 p_points), (10, .int .i64 (points_baseOf p_l p_race)), (11, .int .i64 x1), (12, .int .i64 x2), (13, .int .i64 (W (Int.tdiv (W ((W (x1 + x2)) + 1)) 2)))] [] rfl ⟨rfl, rfl, rfl, rfl, rfl, trivial⟩
         refine then_n ?_
         refine f_seq ?_
         refine f_region ?_
         refine lv S (rn_move (S.tm rfl)) rfl ?_; clear S; intro a S
         refine lv S (rn_move (S.tm rfl)) rfl ?_; clear S; intro a S
         obtain ⟨r3, hr3, h⟩ := bindE h
         refine l_enter S (fun _ => run_call (vs := [.int .i64 (points_baseOf p_l p_race), .int .i64 (W (Int.tdiv (W ((W (x1 + x2)) + 1)) 2))]) ⟨(S.tm rfl), (S.tm rfl), trivial⟩ Tryd.call13) (points_byTime_ok _ (points_baseOf p_l p_race) (W (Int.tdiv (W ((W (x1 + x2)) + 1)) 2)) _ hr3) rfl ?_; clear S; intro v5 a w8 hv5 hk5 hn5 S
         subst hv5
         refine lv S (rn_move (S.tm rfl)) rfl ?_; clear S; intro a S
         refine lv S (rn_geq (S.tm rfl) (S.tm rfl)) rfl ?_; clear S; intro a S
         refine l_done ?_
         replace S := S.nk [] [(2, .int .i64 p_points), (10, .int .i64 (points_baseOf p_l p_race)), (11, .int .i64 x1), (12, .int .i64 x2), (13, .int .i64 (W (Int.tdiv (W ((W (x1 + x2)) + 1)) 2))), (43, .bool (decide (p_points ≤ r3)))] [] rfl ⟨rfl, rfl, rfl, rfl, rfl, rfl, trivial⟩
         refine then_n ?_
         obtain ⟨j3, hj3, h⟩ := joinE h
         refine f_join (fun a w' => ∃ x5 : Int, ∃ x6 : Int, j3 x5 x6 = some r ∧ Sx w [] nov [] [(2, .int .i64 p_points), (10, .int .i64 (points_baseOf p_l p_race)), (11, .int .i64 x5), (12, .int .i64 x6)] 48 a w') ?_ ?_
         ·refine f_cond (S.tm rfl) (fun hb6 => ?_) (fun hb6 => ?_)
          ·replace h := iteT h hb6
           refine f_region ?_
           refine lv S (rn_move (S.tm rfl)) rfl ?_; clear S; intro a S
           refine lv S (rn_assign (S.tm rfl)) rfl ?_; clear S; intro a S
           refine l_done ?_
           replace S := S.nk [] [(2, .int .i64 p_points), (10, .int .i64 (points_baseOf p_l p_race)), (11, .int .i64 (W (Int.tdiv (W ((W (x1 + x2)) + 1)) 2))), (12, .int .i64 x2)] [] rfl ⟨rfl, rfl, rfl, rfl, trivial⟩
           refine then_n ?_
           exact ⟨W (Int.tdiv (W ((W (x1 + x2)) + 1)) 2), x2, h, S.nf [] rfl ⟨rfl, rfl, rfl, rfl, trivial⟩⟩
          ·replace h := iteF h hb6
           refine f_region ?_
           refine lv S (rn_move (S.tm rfl)) rfl ?_; clear S; intro a S
           refine lv S (rn_sub (S.tm rfl) rfl) rfl ?_; clear S; intro a S
           refine lv S (rn_assign (S.tm rfl)) rfl ?_; clear S; intro a S
           refine l_done ?_
           replace S := S.nk [] [(2, .int .i64 p_points), (10, .int .i64 (points_baseOf p_l p_race)), (11, .int .i64 x1), (12, .int .i64 (W ((W (Int.tdiv (W ((W (x1 + x2)) + 1)) 2)) - 1)))] [] rfl ⟨rfl, rfl, rfl, rfl, trivial⟩
           refine then_n ?_
           exact ⟨x1, W ((W (Int.tdiv (W ((W (x1 + x2)) + 1)) 2)) - 1), h, S.nf [] rfl ⟨rfl, rfl, rfl, rfl, trivial⟩⟩
         clear S h; rintro a w9 ⟨x5, x6, h, S⟩; rw [hj3] at h; clear hj3 j3
         refine blk_n ?_
         refine then_n ?_
         exact ⟨x5, x6, h, S.nf [] rfl ⟨rfl, rfl, rfl, rfl, trivial⟩⟩
        clear S h; rintro a w7 ⟨x3, x4, h, S⟩; rw [hj2] at h; clear hj2 j2
        refine then_n ?_
        exact ⟨m1, ⟨x3, x4, h, S.nf [] rfl ⟨rfl, rfl, rfl, rfl, trivial⟩⟩, Nat.lt_succ_self _⟩
       ·replace h := iteF h hb5
        refine wp_exit ?_
        refine then_x ?_
        refine then_x ?_
        refine x_same ?_
        refine then_n ?_
        exact ⟨x1, h, S.nf [] rfl ⟨rfl, trivial⟩⟩
     clear S h; rintro a w6 ⟨x1, h, S⟩; rw [hj1] at h; clear hj1 j1
     refine then_n ?_
     refine f_seq ?_
     refine f_region ?_
     refine lv S (rn_move (S.tm rfl)) rfl ?_; clear S; intro a S
     refine lv S (rn_assign (S.tm rfl)) rfl ?_; clear S; intro a S
     refine lv S (rn_assign rfl) rfl ?_; clear S; intro a S
     refine lv S (rn_assign rfl) rfl ?_; clear S; intro a S
     refine l_done ?_
     replace S := S.nk [] [(6, .int .i64 x1), (7, .bool true), (8, .int .i64 0)] [] rfl ⟨rfl, rfl, rfl, trivial⟩
     refine then_n ?_
     refine wp_ret ?_
     obtain rfl := Option.some.inj h
     exact f_ret3 S Tryd.results7 rfl rfl rfl rfl
theorem swimmer_leap_ok (w : World) (p_year : Int) (r : Bool) (h : swimmer_leap p_year = r) :
    Calls Tryd.prog 32 [.int .i64 p_year].toArray w (Ret w [] fun _ v _ => v = .bool r) := by
 refine f_enter [] [] Tryd.func32 rfl Tryd.ntmps32 rfl (by simp) (by simp [fps]) (by simp [fps]) fun a S => ?_
 unfold swimmer_leap at h
 replace S := S.nk [] [(0, .int .i64 p_year)] [] rfl ⟨rfl, trivial⟩
 refine f_seq ?_
 refine f_region ?_
 refine lv S (rn_assign rfl) rfl ?_; clear S; intro a S
 refine l_done ?_
 replace S := S.nk [] [(0, .int .i64 p_year)] [] rfl ⟨rfl, trivial⟩
 refine then_n ?_
 refine f_seq ?_
 refine f_region ?_
 refine lv S (rn_move (S.tm rfl)) rfl ?_; clear S; intro a S
 refine lv S (rn_rem (S.tm rfl) rfl (by decide)) rfl ?_; clear S; intro a S
 refine lv S (rn_eql (S.tm rfl) rfl) rfl ?_; clear S; intro a S
 refine lv S (rn_move (S.tm rfl)) rfl ?_; clear S; intro a S
 refine f_cutm 9 (fun a w' => Keep [] w w' ∧ Sx w [] nov [] [(15, .bool ((decide ((Int.tmod p_year 4) = 0)) && ((!decide ((Int.tmod p_year 100) = 0)) || (decide ((Int.tmod p_year 400) = 0)))))] 16 a w') ?_ ?_
 ·rcases Bool.eq_false_or_eq_true (decide ((Int.tmod p_year 4) = 0)) with hb1 | hb1
  ·refine l_want S rfl rfl rfl hb1 ?_
   refine lv S (rn_move (S.tm rfl)) rfl ?_; clear S; intro a S
   refine l_want S rfl rfl rfl hb1 ?_
   refine lv S (rn_rem (S.tm rfl) rfl (by decide)) rfl ?_; clear S; intro a S
   refine l_want S rfl rfl rfl hb1 ?_
   refine lv S (rn_neq (S.tm rfl) rfl) rfl ?_; clear S; intro a S
   refine l_want S rfl rfl rfl hb1 ?_
   refine lv S (rn_move (S.tm rfl)) rfl ?_; clear S; intro a S
   refine f_cutm 4 (fun a w' => Keep [] w w' ∧ Sx w [] nov [] [(6, .bool (decide ((Int.tmod p_year 4) = 0))), (14, .bool ((!decide ((Int.tmod p_year 100) = 0)) || (decide ((Int.tmod p_year 400) = 0))))] 16 a w') ?_ ?_
   ·rcases Bool.eq_false_or_eq_true (!decide ((Int.tmod p_year 100) = 0)) with hb2 | hb2
    ·refine l_skip S rfl rfl rfl (neq_t hb2) rfl ?_ rfl; clear S; intro a S
     refine l_skip S rfl rfl rfl (neq_t hb2) rfl ?_ rfl; clear S; intro a S
     refine l_skip S rfl rfl rfl (neq_t hb2) rfl ?_ rfl; clear S; intro a S
     refine l_want S rfl rfl rfl hb1 ?_
     refine lv S (rn_or_t (decide ((Int.tmod p_year 400) = 0)) hb2 (S.tm rfl) rfl) rfl ?_; clear S; intro a S
     refine l_done ?_
     refine then_n ?_
     exact ⟨Keep.refl _ _, S.nf [] rfl ⟨rfl, rfl, trivial⟩⟩
    ·refine l_want S rfl rfl rfl hb2 ?_
     refine lv S (rn_move (S.tm rfl)) rfl ?_; clear S; intro a S
     refine l_want S rfl rfl rfl hb2 ?_
     refine lv S (rn_rem (S.tm rfl) rfl (by decide)) rfl ?_; clear S; intro a S
     refine l_want S rfl rfl rfl hb2 ?_
     refine lv S (rn_eql (S.tm rfl) rfl) rfl ?_; clear S; intro a S
     refine l_want S rfl rfl rfl hb1 ?_
     refine lv S (rn_or_f hb2 (S.tm rfl) (S.tm rfl)) rfl ?_; clear S; intro a S
     refine l_done ?_
     refine then_n ?_
     exact ⟨Keep.refl _ _, S.nf [] rfl ⟨rfl, rfl, trivial⟩⟩
   clear S; rintro a w2 ⟨hk1, S⟩
   refine lv S (rn_and_t hb1 (S.tm rfl) (S.tm rfl)) rfl ?_; clear S; intro a S
   refine l_done ?_
   refine then_n ?_
   exact ⟨hk1, S.nf [] rfl ⟨rfl, trivial⟩⟩
  ·refine l_skip S rfl rfl rfl (neq_f hb1) rfl ?_ rfl; clear S; intro a S
   refine l_skip S rfl rfl rfl (neq_f hb1) rfl ?_ rfl; clear S; intro a S
   refine l_skip S rfl rfl rfl (neq_f hb1) rfl ?_ rfl; clear S; intro a S
   refine l_skip S rfl rfl rfl (neq_f hb1) rfl ?_ rfl; clear S; intro a S
   refine l_skipU S rfl rfl rfl rfl ?_; clear S; intro a S
   refine l_skipU S rfl rfl rfl rfl ?_; clear S; intro a S
   refine l_skipU S rfl rfl rfl rfl ?_; clear S; intro a S
   refine l_skip S rfl rfl rfl (neq_f hb1) rfl ?_ rfl; clear S; intro a S
   refine lv S (rn_and_f ((!decide ((Int.tmod p_year 100) = 0)) || (decide ((Int.tmod p_year 400) = 0))) hb1 (S.tm rfl) rfl) rfl ?_; clear S; intro a S
   refine l_done ?_
   refine then_n ?_
   exact ⟨Keep.refl _ _, S.nf [] rfl ⟨rfl, trivial⟩⟩
 clear S; rintro a w1 ⟨hk2, S⟩
 refine lv S (rn_assign (S.tm rfl)) rfl ?_; clear S; intro a S
 refine l_done ?_
 replace S := S.nk [] [(2, .bool ((decide ((Int.tmod p_year 4) = 0)) && ((!decide ((Int.tmod p_year 100) = 0)) || (decide ((Int.tmod p_year 400) = 0)))))] [] rfl ⟨rfl, trivial⟩
 refine then_n ?_
 refine wp_ret ?_
 subst h
 exact f_ret S Tryd.results32 rfl rfl
theorem swimmer_long_ok (w : World) (p_year : Int) (p_month : Int) (r : Int) (h : swimmer_long p_year p_month = r) :
    Calls Tryd.prog 22 [.int .i64 p_year, .int .i64 p_month].toArray w (Ret w [] fun _ v _ => v = .int .i64 r) := by
 refine f_enter [] [] Tryd.func22 rfl Tryd.ntmps22 rfl (by simp) (by simp [fps]) (by simp [fps]) fun a S => ?_
 unfold swimmer_long at h
 replace S := S.nk [] [(0, .int .i64 p_year), (1, .int .i64 p_month)] [] rfl ⟨rfl, rfl, trivial⟩
 refine f_seq ?_
 refine f_region ?_
 refine lv S (rn_assign rfl) rfl ?_; clear S; intro a S
 refine l_done ?_
 replace S := S.nk [] [(0, .int .i64 p_year), (1, .int .i64 p_month)] [] rfl ⟨rfl, rfl, trivial⟩
 refine then_n ?_
 refine f_seq ?_
 refine f_seq ?_
 refine f_region ?_
 refine lv S (rn_move (S.tm rfl)) rfl ?_; clear S; intro a S
 refine l_done ?_
 replace S := S.nk [] [(0, .int .i64 p_year), (5, .int .i64 p_month)] [] rfl ⟨rfl, rfl, trivial⟩
 refine then_n ?_
 refine wp_block ?_
 refine f_seq ?_
 refine f_region ?_
 refine lv S (rn_eql (S.tm rfl) rfl) rfl ?_; clear S; intro a S
 refine lv S (rn_assign (S.tm rfl)) rfl ?_; clear S; intro a S
 refine l_done ?_
 replace S := S.nk [] [(0, .int .i64 p_year), (5, .int .i64 p_month), (6, .bool (decide (p_month = 2)))] [] rfl ⟨rfl, rfl, rfl, trivial⟩
 refine then_n ?_
 refine f_cond (S.tm rfl) (fun hb1 => ?_) (fun hb1 => ?_)
 ·replace h := iteT h hb1
  refine f_seq ?_
  refine f_seq ?_
  refine f_region ?_
  refine lv S (rn_move (S.tm rfl)) rfl ?_; clear S; intro a S
  refine l_enter S (fun _ => run_call (vs := [.int .i64 p_year]) ⟨(S.tm rfl), trivial⟩ Tryd.call32) (swimmer_leap_ok _ p_year _ rfl) rfl ?_; clear S; intro v1 a w1 hv1 hk1 hn1 S
  subst hv1
  refine l_done ?_
  replace S := S.nk [] [(9, .bool (swimmer_leap p_year))] [] rfl ⟨rfl, trivial⟩
  refine then_n ?_
  refine f_cond (S.tm rfl) (fun hb2 => ?_) (fun hb2 => ?_)
  ·replace h := iteT h hb2
   refine f_seq ?_
   refine f_region ?_
   refine lv S (rn_assign rfl) rfl ?_; clear S; intro a S
   refine l_done ?_
   replace S := S.nk [] [(4, .int .i64 29)] [] rfl ⟨rfl, trivial⟩
   refine then_n ?_
   refine wp_ret ?_
   refine then_r ?_
   refine blk_r ?_
   refine then_r ?_
   subst h
   exact f_ret S Tryd.results22 rfl rfl
  ·replace h := iteF h hb2
   refine wp_skip ?_
   refine then_n ?_
   refine f_seq ?_
   refine f_region ?_
   refine lv S (rn_assign rfl) rfl ?_; clear S; intro a S
   refine l_done ?_
   replace S := S.nk [] [(4, .int .i64 28)] [] rfl ⟨rfl, trivial⟩
   refine then_n ?_
   refine wp_ret ?_
   refine blk_r ?_
   refine then_r ?_
   subst h
   exact f_ret S Tryd.results22 rfl rfl
 ·replace h := iteF h hb1
  refine f_seq ?_
  refine f_seq ?_
  refine f_region ?_
  refine lv S (rn_eql (S.tm rfl) rfl) rfl ?_; clear S; intro a S
  refine lv S (rn_assign (S.tm rfl)) rfl ?_; clear S; intro a S
  refine l_done ?_
  replace S := S.nk [] [(5, .int .i64 p_month), (10, .bool (decide (p_month = 4)))] [] rfl ⟨rfl, rfl, trivial⟩
  refine then_n ?_
  obtain ⟨j1, hj1, h⟩ := joinE h
  refine f_join (fun a w' => ∃ x1 : Bool, j1 x1 = r ∧ Sx w [] nov [] [(10, .bool x1)] 15 a w') ?_ ?_
  ·refine f_cond (S.tm rfl) (fun hb3 => ?_) (fun hb3 => ?_)
   ·replace h := iteT h hb3
    refine wp_skip ?_
    refine then_n ?_
    exact ⟨decide (p_month = 4), h, S.nf [] rfl ⟨rfl, trivial⟩⟩
   ·replace h := iteF h hb3
    refine f_seq ?_
    refine f_region ?_
    refine lv S (rn_eql (S.tm rfl) rfl) rfl ?_; clear S; intro a S
    refine lv S (rn_assign (S.tm rfl)) rfl ?_; clear S; intro a S
    refine l_done ?_
    replace S := S.nk [] [(5, .int .i64 p_month), (10, .bool (decide (p_month = 6)))] [] rfl ⟨rfl, rfl, trivial⟩
    refine then_n ?_
    obtain ⟨j2, hj2, h⟩ := joinE h
    refine f_join (fun a w' => ∃ x2 : Bool, j2 x2 = r ∧ Sx w [] nov [] [(10, .bool x2)] 15 a w') ?_ ?_
    ·refine f_cond (S.tm rfl) (fun hb4 => ?_) (fun hb4 => ?_)
     ·replace h := iteT h hb4
      refine wp_skip ?_
      refine then_n ?_
      exact ⟨decide (p_month = 6), h, S.nf [] rfl ⟨rfl, trivial⟩⟩
     ·replace h := iteF h hb4
      refine f_seq ?_
      refine f_region ?_
      refine lv S (rn_eql (S.tm rfl) rfl) rfl ?_; clear S; intro a S
      refine lv S (rn_assign (S.tm rfl)) rfl ?_; clear S; intro a S
      refine l_done ?_
      replace S := S.nk [] [(5, .int .i64 p_month), (10, .bool (decide (p_month = 9)))] [] rfl ⟨rfl, rfl, trivial⟩
      refine then_n ?_
      obtain ⟨j3, hj3, h⟩ := joinE h
      refine f_join (fun a w' => ∃ x3 : Bool, j3 x3 = r ∧ Sx w [] nov [] [(10, .bool x3)] 15 a w') ?_ ?_
      ·refine f_cond (S.tm rfl) (fun hb5 => ?_) (fun hb5 => ?_)
       ·replace h := iteT h hb5
        refine wp_skip ?_
        refine then_n ?_
        exact ⟨decide (p_month = 9), h, S.nf [] rfl ⟨rfl, trivial⟩⟩
       ·replace h := iteF h hb5
        refine f_region ?_
        refine lv S (rn_eql (S.tm rfl) rfl) rfl ?_; clear S; intro a S
        refine lv S (rn_assign (S.tm rfl)) rfl ?_; clear S; intro a S
        refine l_done ?_
        replace S := S.nk [] [(10, .bool (decide (p_month = 11)))] [] rfl ⟨rfl, trivial⟩
        refine then_n ?_
        exact ⟨decide (p_month = 11), h, S.nf [] rfl ⟨rfl, trivial⟩⟩
      clear S h; rintro a w4 ⟨x3, h, S⟩; rw [hj3] at h; clear hj3 j3
      refine then_n ?_
      exact ⟨x3, h, S.nf [] rfl ⟨rfl, trivial⟩⟩
    clear S h; rintro a w3 ⟨x2, h, S⟩; rw [hj2] at h; clear hj2 j2
    refine then_n ?_
    exact ⟨x2, h, S.nf [] rfl ⟨rfl, trivial⟩⟩
  clear S h; rintro a w2 ⟨x1, h, S⟩; rw [hj1] at h; clear hj1 j1
  refine then_n ?_
  refine f_cond (S.tm rfl) (fun hb6 => ?_) (fun hb6 => ?_)
  ·replace h := iteT h hb6
   refine f_seq ?_
   refine f_region ?_
   refine lv S (rn_assign rfl) rfl ?_; clear S; intro a S
   refine l_done ?_
   replace S := S.nk [] [(4, .int .i64 30)] [] rfl ⟨rfl, trivial⟩
   refine then_n ?_
   refine wp_ret ?_
   refine blk_r ?_
   refine then_r ?_
   subst h
   exact f_ret S Tryd.results22 rfl rfl
  ·replace h := iteF h hb6
   refine wp_skip ?_
   refine blk_n ?_
   refine then_n ?_
   refine f_seq ?_
   refine f_region ?_
   refine lv S (rn_assign rfl) rfl ?_; clear S; intro a S
   refine l_done ?_
   replace S := S.nk [] [(4, .int .i64 31)] [] rfl ⟨rfl, trivial⟩
   refine then_n ?_
   refine wp_ret ?_
   subst h
   exact f_ret S Tryd.results22 rfl rfl
theorem swimmer_yearLong_ok (w : World) (p_year : Int) (r : Int) (h : swimmer_yearLong p_year = r) :
    Calls Tryd.prog 23 [.int .i64 p_year].toArray w (Ret w [] fun _ v _ => v = .int .i64 r) := by
 refine f_enter [] [] Tryd.func23 rfl Tryd.ntmps23 rfl (by simp) (by simp [fps]) (by simp [fps]) fun a S => ?_
 unfold swimmer_yearLong at h
 replace S := S.nk [] [(0, .int .i64 p_year)] [] rfl ⟨rfl, trivial⟩
 refine f_seq ?_
 refine f_region ?_
 refine lv S (rn_assign rfl) rfl ?_; clear S; intro a S
 refine l_done ?_
 replace S := S.nk [] [(0, .int .i64 p_year)] [] rfl ⟨rfl, trivial⟩
 refine then_n ?_
 refine f_seq ?_
 refine f_seq ?_
 refine f_region ?_
 refine lv S (rn_move (S.tm rfl)) rfl ?_; clear S; intro a S
 refine l_enter S (fun _ => run_call (vs := [.int .i64 p_year]) ⟨(S.tm rfl), trivial⟩ Tryd.call32) (swimmer_leap_ok _ p_year _ rfl) rfl ?_; clear S; intro v1 a w1 hv1 hk1 hn1 S
 subst hv1
 refine l_done ?_
 replace S := S.nk [] [(4, .bool (swimmer_leap p_year))] [] rfl ⟨rfl, trivial⟩
 refine then_n ?_
 refine f_cond (S.tm rfl) (fun hb1 => ?_) (fun hb1 => ?_)
 ·replace h := iteT h hb1
  refine f_seq ?_
  refine f_region ?_
  refine lv S (rn_assign rfl) rfl ?_; clear S; intro a S
  refine l_done ?_
  replace S := S.nk [] [(2, .int .i64 366)] [] rfl ⟨rfl, trivial⟩
  refine then_n ?_
  refine wp_ret ?_
  refine then_r ?_
  subst h
  exact f_ret S Tryd.results23 rfl rfl
 ·replace h := iteF h hb1
  refine wp_skip ?_
  refine then_n ?_
  refine f_seq ?_
  refine f_region ?_
  refine lv S (rn_assign rfl) rfl ?_; clear S; intro a S
  refine l_done ?_
  replace S := S.nk [] [(2, .int .i64 365)] [] rfl ⟨rfl, trivial⟩
  refine then_n ?_
  refine wp_ret ?_
  subst h
  exact f_ret S Tryd.results23 rfl rfl
theorem swimmer_isDay_ok (w : World) (p_n : Int) (r : Bool) (h : swimmer_isDay p_n = r) :
    Calls Tryd.prog 24 [.int .i64 p_n].toArray w (Ret w [] fun _ v _ => v = .bool r) := by
 refine f_enter [] [] Tryd.func24 rfl Tryd.ntmps24 rfl (by simp) (by simp [fps]) (by simp [fps]) fun a S => ?_
 unfold swimmer_isDay at h
 replace S := S.nk [] [(0, .int .i64 p_n)] [] rfl ⟨rfl, trivial⟩
 refine f_seq ?_
 refine f_region ?_
 refine lv S (rn_assign rfl) rfl ?_; clear S; intro a S
 refine l_done ?_
 replace S := S.nk [] [(0, .int .i64 p_n)] [] rfl ⟨rfl, trivial⟩
 refine then_n ?_
 refine f_seq ?_
 refine f_region ?_
 refine lv S (rn_move (S.tm rfl)) rfl ?_; clear S; intro a S
 refine l_enter S (fun _ => run_call (vs := [.int .i64 p_n, .int .i64 (-40000), .int .i64 4000]) ⟨(S.tm rfl), rfl, rfl, trivial⟩ Tryd.call14) (words_Within_ok _ p_n (-40000) 4000 _ rfl) rfl ?_; clear S; intro v1 a w1 hv1 hk1 hn1 S
 subst hv1
 refine lv S (rn_assign (S.tm rfl)) rfl ?_; clear S; intro a S
 refine l_done ?_
 replace S := S.nk [] [(2, .bool (words_Within p_n (-40000) 4000))] [] rfl ⟨rfl, trivial⟩
 refine then_n ?_
 refine wp_ret ?_
 subst h
 exact f_ret S Tryd.results24 rfl rfl
set_option maxRecDepth 20000 in
theorem swimmer_DayOf_ok (w : World) (p_d : GDate) (r : Int × Int) (h : swimmer_DayOf p_d = some r) :
    Calls Tryd.prog 15 [.agg (GDate.enc p_d).toArray].toArray w (Ret w [] fun _ v _ => v = .tuple #[.int .i64 r.1, .int .i64 r.2]) := by
 refine f_enter [] [] Tryd.func15 rfl Tryd.ntmps15 rfl (by simp) (by simp [fps]) (by simp [fps]) fun a S => ?_
 unfold swimmer_DayOf at h
 replace S := S.nk [] [(0, .agg (GDate.enc p_d).toArray)] [] rfl ⟨rfl, trivial⟩
 refine f_seq ?_
 refine f_region ?_
 refine l_box S (S.tm rfl) (cs := [.int .i64 p_d.Year, .int .i64 p_d.Month, .int .i64 p_d.Day]) rfl rfl ?_; clear S; intro a w1 b1 hz1 hk1 S
 refine lv S (rn_assign rfl) rfl ?_; clear S; intro a S
 refine lv S (rn_assign rfl) rfl ?_; clear S; intro a S
 refine l_done ?_
 replace S := S.nk [.blk b1 [.int .i64 p_d.Year, .int .i64 p_d.Month, .int .i64 p_d.Day] 46] [(1, .pointer (some ⟨b1, 0, none⟩))] [true] rfl ⟨rfl, trivial⟩
 refine then_n ?_
 refine f_seq ?_
 refine f_seq ?_
 obtain ⟨j1, hj1, h⟩ := joinE h
 refine f_join (fun a w' => ∃ x1 : Bool, j1 x1 = some r ∧ Sx w [] nov [.blk b1 [.int .i64 p_d.Year, .int .i64 p_d.Month, .int .i64 p_d.Day] 46] [(1, .pointer (some ⟨b1, 0, none⟩)), (28, .bool x1)] 68 a w') ?_ ?_
 ·rcases Bool.eq_false_or_eq_true (!(words_Within p_d.Year 1900 2100)) with hb1 | hb1
  ·replace h := iteT h hb1
   rcases Bool.eq_false_or_eq_true true with hb2 | hb2
   ·replace h := iteT h hb2
    refine d_region [] ([]) Tryd.mixed S rfl (by kernel_rfl) ?_; clear S; intro w6 hk5 hsel S
    refine d_quiet 0 S hsel rfl rfl rfl (by kernel_rfl) (by kernel_rfl) rfl (fun _ hw => (rn_fld fa_46_0 (S.tm rfl))) ?_; clear S; intro a S
    refine d_quiet 1 S hsel rfl rfl rfl (by kernel_rfl) (by kernel_rfl) rfl (fun _ hw => (rn_ld Tryd.isAgg3 (off := 0) (o := 0) (S.tm rfl) ((S.blk_mem (i := 0) (cells := [.int .i64 p_d.Year, .int .i64 p_d.Month, .int .i64 p_d.Day]) (b := b1) (T := 46) rfl (ne_nil (e' := .blk b1 [.int .i64 p_d.Year, .int .i64 p_d.Month, .int .i64 p_d.Day] 46))).kept hw) rfl)) ?_; clear S; intro a S
    refine d_loud1 2 (by kernel_rfl) rfl ?_
    refine l_enter S (fun _ => run_call (vs := [.int .i64 p_d.Year, .int .i64 1900, .int .i64 2100]) ⟨(S.tm rfl), rfl, rfl, trivial⟩ Tryd.call14) (words_Within_ok _ p_d.Year 1900 2100 _ rfl) rfl ?_; clear S; intro v4 a w7 hv4 hk6 hn4 S
    subst hv4
    refine l_done ?_
    refine d_next hk6 ?_
    refine d_rest [3, 4, 5, 6, 7, 8, 9, 10, 11, 12, 13, 14, 15, 16, 17, 18, 19, 20] hsel (by kernel_rfl) rfl ?_
    clear hsel
    refine s_lv S rfl (rn_not (S.tm rfl)) rfl ?_; clear S; intro a S
    refine s_lv S rfl (rn_move (S.tm rfl)) rfl ?_; clear S; intro a S
    refine s_skip S rfl rfl rfl rfl (neq_t hb1) rfl ?_ rfl; clear S; intro a S
    refine s_skip S rfl rfl rfl rfl (neq_t hb1) rfl ?_ rfl; clear S; intro a S
    refine s_skip S rfl rfl rfl rfl (neq_t hb1) rfl ?_ rfl; clear S; intro a S
    refine s_skip S rfl rfl rfl rfl (neq_t hb1) rfl ?_ rfl; clear S; intro a S
    refine s_lv S rfl (rn_pick_b hb1 (S.tm rfl) rfl) rfl ?_; clear S; intro a S
    refine s_lv S rfl (rn_move (S.tm rfl)) rfl ?_; clear S; intro a S
    refine s_skip S rfl rfl rfl rfl (neq_t hb2) rfl ?_ rfl; clear S; intro a S
    refine s_skip S rfl rfl rfl rfl (neq_t hb2) rfl ?_ rfl; clear S; intro a S
    refine s_skip S rfl rfl rfl rfl (neq_t hb2) rfl ?_ rfl; clear S; intro a S
    refine s_skip S rfl rfl rfl rfl (neq_t hb2) rfl ?_ rfl; clear S; intro a S
    refine s_skip S rfl rfl rfl rfl (neq_t hb2) rfl ?_ rfl; clear S; intro a S
    refine s_skip S rfl rfl rfl rfl (neq_t hb2) rfl ?_ rfl; clear S; intro a S
    refine s_skip S rfl rfl rfl rfl (neq_t hb2) rfl ?_ rfl; clear S; intro a S
    refine s_skip S rfl rfl rfl rfl (neq_t hb2) rfl ?_ rfl; clear S; intro a S
    refine s_skip S rfl rfl rfl rfl (neq_t hb2) rfl ?_ rfl; clear S; intro a S
    refine s_lv S rfl (rn_pick_b hb2 (S.tm rfl) rfl) rfl ?_; clear S; intro a S
    refine s_done ?_
    replace S := S.nk [.blk b1 [.int .i64 p_d.Year, .int .i64 p_d.Month, .int .i64 p_d.Day] 46] [(1, .pointer (some ⟨b1, 0, none⟩)), (28, .bool true)] [true] rfl ⟨rfl, rfl, trivial⟩
    refine then_n ?_
    exact ⟨true, h, S.nf [true] rfl ⟨rfl, rfl, trivial⟩⟩
   ·replace h := iteF h hb2
    refine d_region [] ([]) Tryd.mixed S rfl (by kernel_rfl) ?_; clear S; intro w11 hk10 hsel S
    refine d_quiet 0 S hsel rfl rfl rfl (by kernel_rfl) (by kernel_rfl) rfl (fun _ hw => (rn_fld fa_46_0 (S.tm rfl))) ?_; clear S; intro a S
    refine d_quiet 1 S hsel rfl rfl rfl (by kernel_rfl) (by kernel_rfl) rfl (fun _ hw => (rn_ld Tryd.isAgg3 (off := 0) (o := 0) (S.tm rfl) ((S.blk_mem (i := 0) (cells := [.int .i64 p_d.Year, .int .i64 p_d.Month, .int .i64 p_d.Day]) (b := b1) (T := 46) rfl (ne_nil (e' := .blk b1 [.int .i64 p_d.Year, .int .i64 p_d.Month, .int .i64 p_d.Day] 46))).kept hw) rfl)) ?_; clear S; intro a S
    refine d_loud1 2 (by kernel_rfl) rfl ?_
    refine l_enter S (fun _ => run_call (vs := [.int .i64 p_d.Year, .int .i64 1900, .int .i64 2100]) ⟨(S.tm rfl), rfl, rfl, trivial⟩ Tryd.call14) (words_Within_ok _ p_d.Year 1900 2100 _ rfl) rfl ?_; clear S; intro v8 a w12 hv8 hk11 hn8 S
    subst hv8
    refine l_done ?_
    refine d_next hk11 ?_
    refine d_quiet 3 S hsel rfl rfl rfl (by kernel_rfl) (by kernel_rfl) rfl (fun _ hw => (rn_not (S.tm rfl))) ?_; clear S; intro a S
    refine d_quiet 4 S hsel rfl rfl rfl (by kernel_rfl) (by kernel_rfl) rfl (fun _ hw => (rn_move (S.tm rfl))) ?_; clear S; intro a S
    refine d_skip 5 S hsel rfl rfl rfl rfl (neq_t hb1) rfl (by kernel_rfl) (by kernel_rfl) rfl ?_; clear S; intro a S
    refine d_skip 6 S hsel rfl rfl rfl rfl (neq_t hb1) rfl (by kernel_rfl) (by kernel_rfl) rfl ?_; clear S; intro a S
    refine d_skip 7 S hsel rfl rfl rfl rfl (neq_t hb1) rfl (by kernel_rfl) (by kernel_rfl) rfl ?_; clear S; intro a S
    refine d_skip 8 S hsel rfl rfl rfl rfl (neq_t hb1) rfl (by kernel_rfl) (by kernel_rfl) rfl ?_; clear S; intro a S
    refine d_quiet 9 S hsel rfl rfl rfl (by kernel_rfl) (by kernel_rfl) rfl (fun _ hw => (rn_pick_b hb1 (S.tm rfl) rfl)) ?_; clear S; intro a S
    refine d_quiet 10 S hsel rfl rfl rfl (by kernel_rfl) (by kernel_rfl) rfl (fun _ hw => (rn_move (S.tm rfl))) ?_; clear S; intro a S
    refine d_quiet_g 11 S hsel rfl rfl rfl rfl hb2 rfl rfl (by kernel_rfl) (by kernel_rfl) rfl (fun _ hw => (rn_fld fa_46_2 (S.tm rfl))) ?_; clear S; intro a S
    refine d_quiet_g 12 S hsel rfl rfl rfl rfl hb2 rfl rfl (by kernel_rfl) (by kernel_rfl) rfl (fun _ hw => (rn_ld Tryd.isAgg3 (off := 0) (o := 2) (S.tm rfl) ((S.blk_mem (i := 0) (cells := [.int .i64 p_d.Year, .int .i64 p_d.Month, .int .i64 p_d.Day]) (b := b1) (T := 46) rfl (ne_nil (e' := .blk b1 [.int .i64 p_d.Year, .int .i64 p_d.Month, .int .i64 p_d.Day] 46))).kept hw) rfl)) ?_; clear S; intro a S
    refine d_quiet_g 13 S hsel rfl rfl rfl rfl hb2 rfl rfl (by kernel_rfl) (by kernel_rfl) rfl (fun _ hw => (rn_fld fa_46_0 (S.tm rfl))) ?_; clear S; intro a S
    refine d_quiet_g 14 S hsel rfl rfl rfl rfl hb2 rfl rfl (by kernel_rfl) (by kernel_rfl) rfl (fun _ hw => (rn_ld Tryd.isAgg3 (off := 0) (o := 0) (S.tm rfl) ((S.blk_mem (i := 0) (cells := [.int .i64 p_d.Year, .int .i64 p_d.Month, .int .i64 p_d.Day]) (b := b1) (T := 46) rfl (ne_nil (e' := .blk b1 [.int .i64 p_d.Year, .int .i64 p_d.Month, .int .i64 p_d.Day] 46))).kept hw) rfl)) ?_; clear S; intro a S
    refine d_quiet_g 15 S hsel rfl rfl rfl rfl hb2 rfl rfl (by kernel_rfl) (by kernel_rfl) rfl (fun _ hw => (rn_fld fa_46_1 (S.tm rfl))) ?_; clear S; intro a S
    refine d_quiet_g 16 S hsel rfl rfl rfl rfl hb2 rfl rfl (by kernel_rfl) (by kernel_rfl) rfl (fun _ hw => (rn_ld Tryd.isAgg3 (off := 0) (o := 1) (S.tm rfl) ((S.blk_mem (i := 0) (cells := [.int .i64 p_d.Year, .int .i64 p_d.Month, .int .i64 p_d.Day]) (b := b1) (T := 46) rfl (ne_nil (e' := .blk b1 [.int .i64 p_d.Year, .int .i64 p_d.Month, .int .i64 p_d.Day] 46))).kept hw) rfl)) ?_; clear S; intro a S
    refine d_loud1 17 (by kernel_rfl) rfl ?_
    refine l_want S rfl rfl rfl hb2 ?_
    refine l_enter S (fun _ => run_call (vs := [.int .i64 p_d.Year, .int .i64 p_d.Month]) ⟨(S.tm rfl), (S.tm rfl), trivial⟩ Tryd.call22) (swimmer_long_ok _ p_d.Year p_d.Month _ rfl) rfl ?_; clear S; intro v9 a w13 hv9 hk12 hn9 S
    subst hv9
    refine l_done ?_
    refine d_next hk12 ?_
    refine d_loud1 18 (by kernel_rfl) rfl ?_
    refine l_want S rfl rfl rfl hb2 ?_
    refine l_enter S (fun _ => run_call (vs := [.int .i64 p_d.Day, .int .i64 1, .int .i64 (swimmer_long p_d.Year p_d.Month)]) ⟨(S.tm rfl), rfl, (S.tm rfl), trivial⟩ Tryd.call14) (words_Within_ok _ p_d.Day 1 (swimmer_long p_d.Year p_d.Month) _ rfl) rfl ?_; clear S; intro v10 a w14 hv10 hk13 hn10 S
    subst hv10
    refine l_done ?_
    refine d_next hk13 ?_
    refine d_rest [19, 20] hsel (by kernel_rfl) rfl ?_
    clear hsel
    refine s_want S rfl rfl rfl rfl hb2 ?_
    refine s_lv0 S (rn_not (S.tm rfl)) rfl ?_; clear S; intro a S
    refine s_lv S rfl (rn_pick_c hb2 (S.tm rfl) (S.tm rfl)) rfl ?_; clear S; intro a S
    refine s_done ?_
    replace S := S.nk [.blk b1 [.int .i64 p_d.Year, .int .i64 p_d.Month, .int .i64 p_d.Day] 46] [(1, .pointer (some ⟨b1, 0, none⟩)), (28, .bool (!(words_Within p_d.Day 1 (swimmer_long p_d.Year p_d.Month))))] [true] rfl ⟨rfl, rfl, trivial⟩
    refine then_n ?_
    exact ⟨!(words_Within p_d.Day 1 (swimmer_long p_d.Year p_d.Month)), h, S.nf [true] rfl ⟨rfl, rfl, trivial⟩⟩
  ·replace h := iteF h hb1
   rcases Bool.eq_false_or_eq_true (!(words_Within p_d.Month 1 12)) with hb3 | hb3
   ·replace h := iteT h hb3
    refine d_region [] ([]) Tryd.mixed S rfl (by kernel_rfl) ?_; clear S; intro w19 hk18 hsel S
    refine d_quiet 0 S hsel rfl rfl rfl (by kernel_rfl) (by kernel_rfl) rfl (fun _ hw => (rn_fld fa_46_0 (S.tm rfl))) ?_; clear S; intro a S
    refine d_quiet 1 S hsel rfl rfl rfl (by kernel_rfl) (by kernel_rfl) rfl (fun _ hw => (rn_ld Tryd.isAgg3 (off := 0) (o := 0) (S.tm rfl) ((S.blk_mem (i := 0) (cells := [.int .i64 p_d.Year, .int .i64 p_d.Month, .int .i64 p_d.Day]) (b := b1) (T := 46) rfl (ne_nil (e' := .blk b1 [.int .i64 p_d.Year, .int .i64 p_d.Month, .int .i64 p_d.Day] 46))).kept hw) rfl)) ?_; clear S; intro a S
    refine d_loud1 2 (by kernel_rfl) rfl ?_
    refine l_enter S (fun _ => run_call (vs := [.int .i64 p_d.Year, .int .i64 1900, .int .i64 2100]) ⟨(S.tm rfl), rfl, rfl, trivial⟩ Tryd.call14) (words_Within_ok _ p_d.Year 1900 2100 _ rfl) rfl ?_; clear S; intro v15 a w20 hv15 hk19 hn15 S
    subst hv15
    refine l_done ?_
    refine d_next hk19 ?_
    refine d_quiet 3 S hsel rfl rfl rfl (by kernel_rfl) (by kernel_rfl) rfl (fun _ hw => (rn_not (S.tm rfl))) ?_; clear S; intro a S
    refine d_quiet 4 S hsel rfl rfl rfl (by kernel_rfl) (by kernel_rfl) rfl (fun _ hw => (rn_move (S.tm rfl))) ?_; clear S; intro a S
    refine d_quiet_g 5 S hsel rfl rfl rfl rfl hb1 rfl rfl (by kernel_rfl) (by kernel_rfl) rfl (fun _ hw => (rn_fld fa_46_1 (S.tm rfl))) ?_; clear S; intro a S
    refine d_quiet_g 6 S hsel rfl rfl rfl rfl hb1 rfl rfl (by kernel_rfl) (by kernel_rfl) rfl (fun _ hw => (rn_ld Tryd.isAgg3 (off := 0) (o := 1) (S.tm rfl) ((S.blk_mem (i := 0) (cells := [.int .i64 p_d.Year, .int .i64 p_d.Month, .int .i64 p_d.Day]) (b := b1) (T := 46) rfl (ne_nil (e' := .blk b1 [.int .i64 p_d.Year, .int .i64 p_d.Month, .int .i64 p_d.Day] 46))).kept hw) rfl)) ?_; clear S; intro a S
    refine d_loud1 7 (by kernel_rfl) rfl ?_
    refine l_want S rfl rfl rfl hb1 ?_
    refine l_enter S (fun _ => run_call (vs := [.int .i64 p_d.Month, .int .i64 1, .int .i64 12]) ⟨(S.tm rfl), rfl, rfl, trivial⟩ Tryd.call14) (words_Within_ok _ p_d.Month 1 12 _ rfl) rfl ?_; clear S; intro v16 a w21 hv16 hk20 hn16 S
    subst hv16
    refine l_done ?_
    refine d_next hk20 ?_
    refine d_rest [8, 9, 10, 11, 12, 13, 14, 15, 16, 17, 18, 19, 20] hsel (by kernel_rfl) rfl ?_
    clear hsel
    refine s_want S rfl rfl rfl rfl hb1 ?_
    refine s_lv0 S (rn_not (S.tm rfl)) rfl ?_; clear S; intro a S
    refine s_lv S rfl (rn_pick_c hb1 (S.tm rfl) (S.tm rfl)) rfl ?_; clear S; intro a S
    refine s_lv S rfl (rn_move (S.tm rfl)) rfl ?_; clear S; intro a S
    refine s_skip S rfl rfl rfl rfl (neq_t hb3) rfl ?_ rfl; clear S; intro a S
    refine s_skip S rfl rfl rfl rfl (neq_t hb3) rfl ?_ rfl; clear S; intro a S
    refine s_skip S rfl rfl rfl rfl (neq_t hb3) rfl ?_ rfl; clear S; intro a S
    refine s_skip S rfl rfl rfl rfl (neq_t hb3) rfl ?_ rfl; clear S; intro a S
    refine s_skip S rfl rfl rfl rfl (neq_t hb3) rfl ?_ rfl; clear S; intro a S
    refine s_skip S rfl rfl rfl rfl (neq_t hb3) rfl ?_ rfl; clear S; intro a S
    refine s_skip S rfl rfl rfl rfl (neq_t hb3) rfl ?_ rfl; clear S; intro a S
    refine s_skip S rfl rfl rfl rfl (neq_t hb3) rfl ?_ rfl; clear S; intro a S
    refine s_skip S rfl rfl rfl rfl (neq_t hb3) rfl ?_ rfl; clear S; intro a S
    refine s_lv S rfl (rn_pick_b hb3 (S.tm rfl) rfl) rfl ?_; clear S; intro a S
    refine s_done ?_
    replace S := S.nk [.blk b1 [.int .i64 p_d.Year, .int .i64 p_d.Month, .int .i64 p_d.Day] 46] [(1, .pointer (some ⟨b1, 0, none⟩)), (28, .bool true)] [true] rfl ⟨rfl, rfl, trivial⟩
    refine then_n ?_
    exact ⟨true, h, S.nf [true] rfl ⟨rfl, rfl, trivial⟩⟩
   ·replace h := iteF h hb3
    refine d_region [] ([]) Tryd.mixed S rfl (by kernel_rfl) ?_; clear S; intro w26 hk25 hsel S
    refine d_quiet 0 S hsel rfl rfl rfl (by kernel_rfl) (by kernel_rfl) rfl (fun _ hw => (rn_fld fa_46_0 (S.tm rfl))) ?_; clear S; intro a S
    refine d_quiet 1 S hsel rfl rfl rfl (by kernel_rfl) (by kernel_rfl) rfl (fun _ hw => (rn_ld Tryd.isAgg3 (off := 0) (o := 0) (S.tm rfl) ((S.blk_mem (i := 0) (cells := [.int .i64 p_d.Year, .int .i64 p_d.Month, .int .i64 p_d.Day]) (b := b1) (T := 46) rfl (ne_nil (e' := .blk b1 [.int .i64 p_d.Year, .int .i64 p_d.Month, .int .i64 p_d.Day] 46))).kept hw) rfl)) ?_; clear S; intro a S
    refine d_loud1 2 (by kernel_rfl) rfl ?_
    refine l_enter S (fun _ => run_call (vs := [.int .i64 p_d.Year, .int .i64 1900, .int .i64 2100]) ⟨(S.tm rfl), rfl, rfl, trivial⟩ Tryd.call14) (words_Within_ok _ p_d.Year 1900 2100 _ rfl) rfl ?_; clear S; intro v21 a w27 hv21 hk26 hn21 S
    subst hv21
    refine l_done ?_
    refine d_next hk26 ?_
    refine d_quiet 3 S hsel rfl rfl rfl (by kernel_rfl) (by kernel_rfl) rfl (fun _ hw => (rn_not (S.tm rfl))) ?_; clear S; intro a S
    refine d_quiet 4 S hsel rfl rfl rfl (by kernel_rfl) (by kernel_rfl) rfl (fun _ hw => (rn_move (S.tm rfl))) ?_; clear S; intro a S
    refine d_quiet_g 5 S hsel rfl rfl rfl rfl hb1 rfl rfl (by kernel_rfl) (by kernel_rfl) rfl (fun _ hw => (rn_fld fa_46_1 (S.tm rfl))) ?_; clear S; intro a S
    refine d_quiet_g 6 S hsel rfl rfl rfl rfl hb1 rfl rfl (by kernel_rfl) (by kernel_rfl) rfl (fun _ hw => (rn_ld Tryd.isAgg3 (off := 0) (o := 1) (S.tm rfl) ((S.blk_mem (i := 0) (cells := [.int .i64 p_d.Year, .int .i64 p_d.Month, .int .i64 p_d.Day]) (b := b1) (T := 46) rfl (ne_nil (e' := .blk b1 [.int .i64 p_d.Year, .int .i64 p_d.Month, .int .i64 p_d.Day] 46))).kept hw) rfl)) ?_; clear S; intro a S
    refine d_loud1 7 (by kernel_rfl) rfl ?_
    refine l_want S rfl rfl rfl hb1 ?_
    refine l_enter S (fun _ => run_call (vs := [.int .i64 p_d.Month, .int .i64 1, .int .i64 12]) ⟨(S.tm rfl), rfl, rfl, trivial⟩ Tryd.call14) (words_Within_ok _ p_d.Month 1 12 _ rfl) rfl ?_; clear S; intro v22 a w28 hv22 hk27 hn22 S
    subst hv22
    refine l_done ?_
    refine d_next hk27 ?_
    refine d_quiet_g 8 S hsel rfl rfl rfl rfl hb1 rfl rfl (by kernel_rfl) (by kernel_rfl) rfl (fun _ hw => (rn_not (S.tm rfl))) ?_; clear S; intro a S
    refine d_quiet 9 S hsel rfl rfl rfl (by kernel_rfl) (by kernel_rfl) rfl (fun _ hw => (rn_pick_c hb1 (S.tm rfl) (S.tm rfl))) ?_; clear S; intro a S
    refine d_quiet 10 S hsel rfl rfl rfl (by kernel_rfl) (by kernel_rfl) rfl (fun _ hw => (rn_move (S.tm rfl))) ?_; clear S; intro a S
    refine d_quiet_g 11 S hsel rfl rfl rfl rfl hb3 rfl rfl (by kernel_rfl) (by kernel_rfl) rfl (fun _ hw => (rn_fld fa_46_2 (S.tm rfl))) ?_; clear S; intro a S
    refine d_quiet_g 12 S hsel rfl rfl rfl rfl hb3 rfl rfl (by kernel_rfl) (by kernel_rfl) rfl (fun _ hw => (rn_ld Tryd.isAgg3 (off := 0) (o := 2) (S.tm rfl) ((S.blk_mem (i := 0) (cells := [.int .i64 p_d.Year, .int .i64 p_d.Month, .int .i64 p_d.Day]) (b := b1) (T := 46) rfl (ne_nil (e' := .blk b1 [.int .i64 p_d.Year, .int .i64 p_d.Month, .int .i64 p_d.Day] 46))).kept hw) rfl)) ?_; clear S; intro a S
    refine d_quiet_g 13 S hsel rfl rfl rfl rfl hb3 rfl rfl (by kernel_rfl) (by kernel_rfl) rfl (fun _ hw => (rn_fld fa_46_0 (S.tm rfl))) ?_; clear S; intro a S
    refine d_quiet_g 14 S hsel rfl rfl rfl rfl hb3 rfl rfl (by kernel_rfl) (by kernel_rfl) rfl (fun _ hw => (rn_ld Tryd.isAgg3 (off := 0) (o := 0) (S.tm rfl) ((S.blk_mem (i := 0) (cells := [.int .i64 p_d.Year, .int .i64 p_d.Month, .int .i64 p_d.Day]) (b := b1) (T := 46) rfl (ne_nil (e' := .blk b1 [.int .i64 p_d.Year, .int .i64 p_d.Month, .int .i64 p_d.Day] 46))).kept hw) rfl)) ?_; clear S; intro a S
    refine d_quiet_g 15 S hsel rfl rfl rfl rfl hb3 rfl rfl (by kernel_rfl) (by kernel_rfl) rfl (fun _ hw => (rn_fld fa_46_1 (S.tm rfl))) ?_; clear S; intro a S
    refine d_quiet_g 16 S hsel rfl rfl rfl rfl hb3 rfl rfl (by kernel_rfl) (by kernel_rfl) rfl (fun _ hw => (rn_ld Tryd.isAgg3 (off := 0) (o := 1) (S.tm rfl) ((S.blk_mem (i := 0) (cells := [.int .i64 p_d.Year, .int .i64 p_d.Month, .int .i64 p_d.Day]) (b := b1) (T := 46) rfl (ne_nil (e' := .blk b1 [.int .i64 p_d.Year, .int .i64 p_d.Month, .int .i64 p_d.Day] 46))).kept hw) rfl)) ?_; clear S; intro a S
    refine d_loud1 17 (by kernel_rfl) rfl ?_
    refine l_want S rfl rfl rfl hb3 ?_
    refine l_enter S (fun _ => run_call (vs := [.int .i64 p_d.Year, .int .i64 p_d.Month]) ⟨(S.tm rfl), (S.tm rfl), trivial⟩ Tryd.call22) (swimmer_long_ok _ p_d.Year p_d.Month _ rfl) rfl ?_; clear S; intro v23 a w29 hv23 hk28 hn23 S
    subst hv23
    refine l_done ?_
    refine d_next hk28 ?_
    refine d_loud1 18 (by kernel_rfl) rfl ?_
    refine l_want S rfl rfl rfl hb3 ?_
    refine l_enter S (fun _ => run_call (vs := [.int .i64 p_d.Day, .int .i64 1, .int .i64 (swimmer_long p_d.Year p_d.Month)]) ⟨(S.tm rfl), rfl, (S.tm rfl), trivial⟩ Tryd.call14) (words_Within_ok _ p_d.Day 1 (swimmer_long p_d.Year p_d.Month) _ rfl) rfl ?_; clear S; intro v24 a w30 hv24 hk29 hn24 S
    subst hv24
    refine l_done ?_
    refine d_next hk29 ?_
    refine d_rest [19, 20] hsel (by kernel_rfl) rfl ?_
    clear hsel
    refine s_want S rfl rfl rfl rfl hb3 ?_
    refine s_lv0 S (rn_not (S.tm rfl)) rfl ?_; clear S; intro a S
    refine s_lv S rfl (rn_pick_c hb3 (S.tm rfl) (S.tm rfl)) rfl ?_; clear S; intro a S
    refine s_done ?_
    replace S := S.nk [.blk b1 [.int .i64 p_d.Year, .int .i64 p_d.Month, .int .i64 p_d.Day] 46] [(1, .pointer (some ⟨b1, 0, none⟩)), (28, .bool (!(words_Within p_d.Day 1 (swimmer_long p_d.Year p_d.Month))))] [true] rfl ⟨rfl, rfl, trivial⟩
    refine then_n ?_
    exact ⟨!(words_Within p_d.Day 1 (swimmer_long p_d.Year p_d.Month)), h, S.nf [true] rfl ⟨rfl, rfl, trivial⟩⟩
 clear S h; rintro a w2 ⟨x1, h, S⟩; rw [hj1] at h; clear hj1 j1
 refine then_n ?_
 refine f_cond (S.tm rfl) (fun hb4 => ?_) (fun hb4 => ?_)
 ·replace h := iteT h hb4
  refine f_seq ?_
  refine f_region ?_
  refine lv S (rn_assign rfl) rfl ?_; clear S; intro a S
  refine lv S (rn_assign rfl) rfl ?_; clear S; intro a S
  refine l_done ?_
  replace S := S.nk [] [(2, .int .i64 0), (3, .int .i64 1)] [false] rfl ⟨rfl, rfl, trivial⟩
  refine then_n ?_
  refine wp_ret ?_
  refine then_r ?_
  obtain rfl := Option.some.inj h
  exact f_ret2 S Tryd.results15 rfl rfl rfl
 ·replace h := iteF h hb4
  refine wp_skip ?_
  refine then_n ?_
  refine f_seq ?_
  refine f_region ?_
  refine lv S (rn_fld fa_46_2 (S.tm rfl)) rfl ?_; clear S; intro a S
  refine lv S (rn_load Tryd.isAgg3 (S.tm rfl) (S.cell (i := 0) rfl rfl)) rfl ?_; clear S; intro a S
  refine lv S (rn_sub (S.tm rfl) rfl) rfl ?_; clear S; intro a S
  refine lv S (rn_assign (S.tm rfl)) rfl ?_; clear S; intro a S
  refine l_done ?_
  replace S := S.nk [.blk b1 [.int .i64 p_d.Year, .int .i64 p_d.Month, .int .i64 p_d.Day] 46] [(1, .pointer (some ⟨b1, 0, none⟩)), (4, .int .i64 (W (p_d.Day - 1)))] [true] rfl ⟨rfl, rfl, trivial⟩
  refine then_n ?_
  refine f_seq ?_
  refine f_seq ?_
  refine f_region ?_
  refine lv S (rn_assign rfl) rfl ?_; clear S; intro a S
  refine l_done ?_
  replace S := S.nk [.blk b1 [.int .i64 p_d.Year, .int .i64 p_d.Month, .int .i64 p_d.Day] 46] [(1, .pointer (some ⟨b1, 0, none⟩)), (4, .int .i64 (W (p_d.Day - 1))), (5, .int .i64 1)] [true] rfl ⟨rfl, rfl, rfl, trivial⟩
  refine then_n ?_
  obtain ⟨j2, hj2, h⟩ := joinE h
  refine f_join (fun a w' => ∃ x2 : Int, j2 x2 = some r ∧ Sx w [] nov [.blk b1 [.int .i64 p_d.Year, .int .i64 p_d.Month, .int .i64 p_d.Day] 46] [(1, .pointer (some ⟨b1, 0, none⟩)), (4, .int .i64 x2)] 68 a w') ?_ ?_
  ·refine wp_block ?_
   refine f_loop (fun (m1 : Nat) a w' => ∃ x2 : Int, ∃ x3 : Int, swimmer_DayOf_l1 p_d j2 m1 x2 x3 = some r ∧ Sx w [] nov [.blk b1 [.int .i64 p_d.Year, .int .i64 p_d.Month, .int .i64 p_d.Day] 46] [(1, .pointer (some ⟨b1, 0, none⟩)), (4, .int .i64 x2), (5, .int .i64 x3)] 68 a w') id ((p_d.Month - 1).toNat + 2) ⟨W (p_d.Day - 1), 1, h, S.nf [true] rfl ⟨rfl, rfl, rfl, trivial⟩⟩ ?_
   clear S h; rintro m1 a w31 ⟨x2, x3, h, S⟩
   cases m1 with
   | zero => rw [swimmer_DayOf_l1.eq_1] at h; cases h
   | succ m1 =>
    rw [swimmer_DayOf_l1.eq_2] at h
    refine f_seq ?_
    refine f_seq ?_
    refine f_region ?_
    refine lv S (rn_move (S.tm rfl)) rfl ?_; clear S; intro a S
    refine lv S (rn_fld fa_46_1 (S.tm rfl)) rfl ?_; clear S; intro a S
    refine lv S (rn_load Tryd.isAgg3 (S.tm rfl) (S.cell (i := 0) rfl rfl)) rfl ?_; clear S; intro a S
    refine lv S (rn_lss (S.tm rfl) (S.tm rfl)) rfl ?_; clear S; intro a S
    refine l_done ?_
    replace S := S.nk [.blk b1 [.int .i64 p_d.Year, .int .i64 p_d.Month, .int .i64 p_d.Day] 46] [(1, .pointer (some ⟨b1, 0, none⟩)), (4, .int .i64 x2), (5, .int .i64 x3), (35, .bool (decide (x3 < p_d.Month)))] [true] rfl ⟨rfl, rfl, rfl, rfl, trivial⟩
    refine then_n ?_
    refine f_cond (S.tm rfl) (fun hb5 => ?_) (fun hb5 => ?_)
    ·replace h := iteT h hb5
     refine wp_skip ?_
     refine then_n ?_
     refine f_seq ?_
     refine wp_block ?_
     refine f_region ?_
     refine lv S (rn_move (S.tm rfl)) rfl ?_; clear S; intro a S
     refine lv S (rn_fld fa_46_0 (S.tm rfl)) rfl ?_; clear S; intro a S
     refine lv S (rn_load Tryd.isAgg3 (S.tm rfl) (S.cell (i := 0) rfl rfl)) rfl ?_; clear S; intro a S
     refine lv S (rn_move (S.tm rfl)) rfl ?_; clear S; intro a S
     refine l_enter S (fun _ => run_call (vs := [.int .i64 p_d.Year, .int .i64 x3]) ⟨(S.tm rfl), (S.tm rfl), trivial⟩ Tryd.call22) (swimmer_long_ok _ p_d.Year x3 _ rfl) rfl ?_; clear S; intro v25 a w33 hv25 hk30 hn25 S
     subst hv25
     refine lv S (rn_add (S.tm rfl) (S.tm rfl)) rfl ?_; clear S; intro a S
     refine lv S (rn_assign (S.tm rfl)) rfl ?_; clear S; intro a S
     refine l_done ?_
     replace S := S.nk [.blk b1 [.int .i64 p_d.Year, .int .i64 p_d.Month, .int .i64 p_d.Day] 46] [(1, .pointer (some ⟨b1, 0, none⟩)), (4, .int .i64 (W (x2 + (swimmer_long p_d.Year x3)))), (5, .int .i64 x3)] [true] rfl ⟨rfl, rfl, rfl, trivial⟩
     refine blk_n ?_
     refine then_n ?_
     refine f_region ?_
     refine lv S (rn_move (S.tm rfl)) rfl ?_; clear S; intro a S
     refine lv S (rn_add (S.tm rfl) rfl) rfl ?_; clear S; intro a S
     refine lv S (rn_assign (S.tm rfl)) rfl ?_; clear S; intro a S
     refine l_done ?_
     replace S := S.nk [.blk b1 [.int .i64 p_d.Year, .int .i64 p_d.Month, .int .i64 p_d.Day] 46] [(1, .pointer (some ⟨b1, 0, none⟩)), (4, .int .i64 (W (x2 + (swimmer_long p_d.Year x3)))), (5, .int .i64 (W (x3 + 1)))] [true] rfl ⟨rfl, rfl, rfl, trivial⟩
     refine then_n ?_
     exact ⟨m1, ⟨W (x2 + (swimmer_long p_d.Year x3)), W (x3 + 1), h, S.nf [true] rfl ⟨rfl, rfl, rfl, trivial⟩⟩, Nat.lt_succ_self _⟩
    ·replace h := iteF h hb5
     refine wp_exit ?_
     refine then_x ?_
     refine then_x ?_
     refine x_same ?_
     refine then_n ?_
     exact ⟨x2, h, S.nf [true] rfl ⟨rfl, rfl, trivial⟩⟩
  clear S h; rintro a w32 ⟨x2, h, S⟩; rw [hj2] at h; clear hj2 j2
  refine then_n ?_
  refine f_seq ?_
  refine f_seq ?_
  refine f_region ?_
  refine lv S (rn_assign rfl) rfl ?_; clear S; intro a S
  refine l_done ?_
  replace S := S.nk [.blk b1 [.int .i64 p_d.Year, .int .i64 p_d.Month, .int .i64 p_d.Day] 46] [(1, .pointer (some ⟨b1, 0, none⟩)), (4, .int .i64 x2), (6, .int .i64 2024)] [true] rfl ⟨rfl, rfl, rfl, trivial⟩
  refine then_n ?_
  obtain ⟨j3, hj3, h⟩ := joinE h
  refine f_join (fun a w' => ∃ x4 : Int, j3 x4 = some r ∧ Sx w [] nov [.blk b1 [.int .i64 p_d.Year, .int .i64 p_d.Month, .int .i64 p_d.Day] 46] [(1, .pointer (some ⟨b1, 0, none⟩)), (4, .int .i64 x4)] 68 a w') ?_ ?_
  ·refine wp_block ?_
   refine f_loop (fun (m2 : Nat) a w' => ∃ x4 : Int, ∃ x5 : Int, swimmer_DayOf_l2 p_d j3 m2 x4 x5 = some r ∧ Sx w [] nov [.blk b1 [.int .i64 p_d.Year, .int .i64 p_d.Month, .int .i64 p_d.Day] 46] [(1, .pointer (some ⟨b1, 0, none⟩)), (4, .int .i64 x4), (6, .int .i64 x5)] 68 a w') id ((p_d.Year - 2024).toNat + 2) ⟨x2, 2024, h, S.nf [true] rfl ⟨rfl, rfl, rfl, trivial⟩⟩ ?_
   clear S h; rintro m2 a w34 ⟨x4, x5, h, S⟩
   cases m2 with
   | zero => rw [swimmer_DayOf_l2.eq_1] at h; cases h
   | succ m2 =>
    rw [swimmer_DayOf_l2.eq_2] at h
    refine f_seq ?_
    refine f_seq ?_
    refine f_region ?_
    refine lv S (rn_move (S.tm rfl)) rfl ?_; clear S; intro a S
    refine lv S (rn_fld fa_46_0 (S.tm rfl)) rfl ?_; clear S; intro a S
    refine lv S (rn_load Tryd.isAgg3 (S.tm rfl) (S.cell (i := 0) rfl rfl)) rfl ?_; clear S; intro a S
    refine lv S (rn_lss (S.tm rfl) (S.tm rfl)) rfl ?_; clear S; intro a S
    refine l_done ?_
    replace S := S.nk [.blk b1 [.int .i64 p_d.Year, .int .i64 p_d.Month, .int .i64 p_d.Day] 46] [(1, .pointer (some ⟨b1, 0, none⟩)), (4, .int .i64 x4), (6, .int .i64 x5), (47, .bool (decide (x5 < p_d.Year)))] [true] rfl ⟨rfl, rfl, rfl, rfl, trivial⟩
    refine then_n ?_
    refine f_cond (S.tm rfl) (fun hb6 => ?_) (fun hb6 => ?_)
    ·replace h := iteT h hb6
     refine wp_skip ?_
     refine then_n ?_
     refine f_seq ?_
     refine wp_block ?_
     refine f_region ?_
     refine lv S (rn_move (S.tm rfl)) rfl ?_; clear S; intro a S
     refine lv S (rn_move (S.tm rfl)) rfl ?_; clear S; intro a S
     refine l_enter S (fun _ => run_call (vs := [.int .i64 x5]) ⟨(S.tm rfl), trivial⟩ Tryd.call23) (swimmer_yearLong_ok _ x5 _ rfl) rfl ?_; clear S; intro v26 a w36 hv26 hk31 hn26 S
     subst hv26
     refine lv S (rn_add (S.tm rfl) (S.tm rfl)) rfl ?_; clear S; intro a S
     refine lv S (rn_assign (S.tm rfl)) rfl ?_; clear S; intro a S
     refine l_done ?_
     replace S := S.nk [.blk b1 [.int .i64 p_d.Year, .int .i64 p_d.Month, .int .i64 p_d.Day] 46] [(1, .pointer (some ⟨b1, 0, none⟩)), (4, .int .i64 (W (x4 + (swimmer_yearLong x5)))), (6, .int .i64 x5)] [true] rfl ⟨rfl, rfl, rfl, trivial⟩
     refine blk_n ?_
     refine then_n ?_
     refine f_region ?_
     refine lv S (rn_move (S.tm rfl)) rfl ?_; clear S; intro a S
     refine lv S (rn_add (S.tm rfl) rfl) rfl ?_; clear S; intro a S
     refine lv S (rn_assign (S.tm rfl)) rfl ?_; clear S; intro a S
     refine l_done ?_
     replace S := S.nk [.blk b1 [.int .i64 p_d.Year, .int .i64 p_d.Month, .int .i64 p_d.Day] 46] [(1, .pointer (some ⟨b1, 0, none⟩)), (4, .int .i64 (W (x4 + (swimmer_yearLong x5)))), (6, .int .i64 (W (x5 + 1)))] [true] rfl ⟨rfl, rfl, rfl, trivial⟩
     refine then_n ?_
     exact ⟨m2, ⟨W (x4 + (swimmer_yearLong x5)), W (x5 + 1), h, S.nf [true] rfl ⟨rfl, rfl, rfl, trivial⟩⟩, Nat.lt_succ_self _⟩
    ·replace h := iteF h hb6
     refine wp_exit ?_
     refine then_x ?_
     refine then_x ?_
     refine x_same ?_
     refine then_n ?_
     exact ⟨x4, h, S.nf [true] rfl ⟨rfl, rfl, trivial⟩⟩
  clear S h; rintro a w35 ⟨x4, h, S⟩; rw [hj3] at h; clear hj3 j3
  refine then_n ?_
  refine f_seq ?_
  refine f_seq ?_
  refine f_region ?_
  refine lv S (rn_fld fa_46_0 (S.tm rfl)) rfl ?_; clear S; intro a S
  refine lv S (rn_load Tryd.isAgg3 (S.tm rfl) (S.cell (i := 0) rfl rfl)) rfl ?_; clear S; intro a S
  refine lv S (rn_assign (S.tm rfl)) rfl ?_; clear S; intro a S
  refine l_done ?_
  replace S := S.nk [] [(4, .int .i64 x4), (7, .int .i64 p_d.Year)] [false] rfl ⟨rfl, rfl, trivial⟩
  refine then_n ?_
  obtain ⟨j4, hj4, h⟩ := joinE h
  refine f_join (fun a w' => ∃ x6 : Int, j4 x6 = some r ∧ Sx w [] nov [] [(4, .int .i64 x6)] 68 a w') ?_ ?_
  ·refine wp_block ?_
   refine f_loop (fun (m3 : Nat) a w' => ∃ x6 : Int, ∃ x7 : Int, swimmer_DayOf_l3 j4 m3 x6 x7 = some r ∧ Sx w [] nov [] [(4, .int .i64 x6), (7, .int .i64 x7)] 68 a w') id ((2024 - p_d.Year).toNat + 2) ⟨x4, p_d.Year, h, S.nf [] rfl ⟨rfl, rfl, trivial⟩⟩ ?_
   clear S h; rintro m3 a w37 ⟨x6, x7, h, S⟩
   cases m3 with
   | zero => rw [swimmer_DayOf_l3.eq_1] at h; cases h
   | succ m3 =>
    rw [swimmer_DayOf_l3.eq_2] at h
    refine f_seq ?_
    refine f_seq ?_
    refine f_region ?_
    refine lv S (rn_move (S.tm rfl)) rfl ?_; clear S; intro a S
    refine lv S (rn_lss (S.tm rfl) rfl) rfl ?_; clear S; intro a S
    refine l_done ?_
    replace S := S.nk [] [(4, .int .i64 x6), (7, .int .i64 x7), (57, .bool (decide (x7 < 2024)))] [] rfl ⟨rfl, rfl, rfl, trivial⟩
    refine then_n ?_
    refine f_cond (S.tm rfl) (fun hb7 => ?_) (fun hb7 => ?_)
    ·replace h := iteT h hb7
     refine wp_skip ?_
     refine then_n ?_
     refine f_seq ?_
     refine wp_block ?_
     refine f_region ?_
     refine lv S (rn_move (S.tm rfl)) rfl ?_; clear S; intro a S
     refine lv S (rn_move (S.tm rfl)) rfl ?_; clear S; intro a S
     refine l_enter S (fun _ => run_call (vs := [.int .i64 x7]) ⟨(S.tm rfl), trivial⟩ Tryd.call23) (swimmer_yearLong_ok _ x7 _ rfl) rfl ?_; clear S; intro v27 a w39 hv27 hk32 hn27 S
     subst hv27
     refine lv S (rn_sub (S.tm rfl) (S.tm rfl)) rfl ?_; clear S; intro a S
     refine lv S (rn_assign (S.tm rfl)) rfl ?_; clear S; intro a S
     refine l_done ?_
     replace S := S.nk [] [(4, .int .i64 (W (x6 - (swimmer_yearLong x7)))), (7, .int .i64 x7)] [] rfl ⟨rfl, rfl, trivial⟩
     refine blk_n ?_
     refine then_n ?_
     refine f_region ?_
     refine lv S (rn_move (S.tm rfl)) rfl ?_; clear S; intro a S
     refine lv S (rn_add (S.tm rfl) rfl) rfl ?_; clear S; intro a S
     refine lv S (rn_assign (S.tm rfl)) rfl ?_; clear S; intro a S
     refine l_done ?_
     replace S := S.nk [] [(4, .int .i64 (W (x6 - (swimmer_yearLong x7)))), (7, .int .i64 (W (x7 + 1)))] [] rfl ⟨rfl, rfl, trivial⟩
     refine then_n ?_
     exact ⟨m3, ⟨W (x6 - (swimmer_yearLong x7)), W (x7 + 1), h, S.nf [] rfl ⟨rfl, rfl, trivial⟩⟩, Nat.lt_succ_self _⟩
    ·replace h := iteF h hb7
     refine wp_exit ?_
     refine then_x ?_
     refine then_x ?_
     refine x_same ?_
     refine then_n ?_
     exact ⟨x6, h, S.nf [] rfl ⟨rfl, trivial⟩⟩
  clear S h; rintro a w38 ⟨x6, h, S⟩; rw [hj4] at h; clear hj4 j4
  refine then_n ?_
  refine f_seq ?_
  refine f_seq ?_
  refine f_region ?_
  refine lv S (rn_move (S.tm rfl)) rfl ?_; clear S; intro a S
  refine l_enter S (fun _ => run_call (vs := [.int .i64 x6]) ⟨(S.tm rfl), trivial⟩ Tryd.call24) (swimmer_isDay_ok _ x6 _ rfl) rfl ?_; clear S; intro v28 a w40 hv28 hk33 hn28 S
  subst hv28
  refine lv S (rn_not (S.tm rfl)) rfl ?_; clear S; intro a S
  refine l_done ?_
  replace S := S.nk [] [(4, .int .i64 x6), (66, .bool (!(swimmer_isDay x6)))] [] rfl ⟨rfl, rfl, trivial⟩
  refine then_n ?_
  refine f_cond (S.tm rfl) (fun hb8 => ?_) (fun hb8 => ?_)
  ·replace h := iteT h hb8
   refine f_seq ?_
   refine f_region ?_
   refine lv S (rn_assign rfl) rfl ?_; clear S; intro a S
   refine lv S (rn_assign rfl) rfl ?_; clear S; intro a S
   refine l_done ?_
   replace S := S.nk [] [(2, .int .i64 0), (3, .int .i64 1)] [] rfl ⟨rfl, rfl, trivial⟩
   refine then_n ?_
   refine wp_ret ?_
   refine then_r ?_
   obtain rfl := Option.some.inj h
   exact f_ret2 S Tryd.results15 rfl rfl rfl
  ·replace h := iteF h hb8
   refine wp_skip ?_
   refine then_n ?_
   refine f_seq ?_
   refine f_region ?_
   refine lv S (rn_move (S.tm rfl)) rfl ?_; clear S; intro a S
   refine lv S (rn_assign (S.tm rfl)) rfl ?_; clear S; intro a S
   refine lv S (rn_assign rfl) rfl ?_; clear S; intro a S
   refine l_done ?_
   replace S := S.nk [] [(2, .int .i64 x6), (3, .int .i64 0)] [] rfl ⟨rfl, rfl, trivial⟩
   refine then_n ?_
   refine wp_ret ?_
   obtain rfl := Option.some.inj h
   exact f_ret2 S Tryd.results15 rfl rfl rfl
theorem session_CheckItems_ok (w : World) (v_p_l : Value) (p_l : List GItem) (hs_p_l : Slc (view w []) 5 v_p_l (p_l.map GItem.enc)) (r : Int) (h : session_CheckItems p_l = some r) :
    Calls Tryd.prog 33 [v_p_l].toArray w (Ret w [] fun _ v _ => v = .int .i64 r) := by
 refine f_enter [] [] Tryd.func33 rfl Tryd.ntmps33 rfl (by simp) (by simp [fps]) (by simp [fps]) fun a S => ?_
 unfold session_CheckItems at h
 replace S := S.nk [] [(0, v_p_l)] [] rfl ⟨rfl, trivial⟩
 refine f_seq ?_
 refine f_region ?_
 refine lv S (rn_assign rfl) rfl ?_; clear S; intro a S
 refine l_done ?_
 replace S := S.nk [] [(0, v_p_l)] [] rfl ⟨rfl, trivial⟩
 refine then_n ?_
 refine f_seq ?_
 refine f_seq ?_
 refine f_region ?_
 refine lv S (rn_move (S.tm rfl)) rfl ?_; clear S; intro a S
 refine lv S (rn_lenT sl_50 (S.tm rfl) (slc_len hs_p_l)) rfl ?_; clear S; intro a S
 refine lv S (rn_gtr (S.tm rfl) rfl) rfl ?_; clear S; intro a S
 refine l_done ?_
 replace S := S.nk [] [(0, v_p_l), (8, .bool (decide (100 < (p_l.length : Int))))] [] rfl ⟨rfl, rfl, trivial⟩
 refine then_n ?_
 refine f_cond (S.tm rfl) (fun hb1 => ?_) (fun hb1 => ?_)
 ·replace h := iteT h hb1
  refine f_seq ?_
  refine f_region ?_
  refine lv S (rn_assign rfl) rfl ?_; clear S; intro a S
  refine l_done ?_
  replace S := S.nk [] [(2, .int .i64 2)] [] rfl ⟨rfl, trivial⟩
  refine then_n ?_
  refine wp_ret ?_
  refine then_r ?_
  obtain rfl := Option.some.inj h
  exact f_ret S Tryd.results33 rfl rfl
 ·replace h := iteF h hb1
  refine wp_skip ?_
  refine then_n ?_
  refine f_seq ?_
  refine f_region ?_
  refine l_makeMap (κ := ByteArray) (ν := Bool) S rfl Value.string Value.bool ?_; clear S; intro a w1 b1 hz1 hk1 S
  refine lv S (rn_assign (S.tm rfl)) rfl ?_; clear S; intro a S
  refine l_done ?_
  replace S := S.nk [.map b1 (ments Value.string Value.bool ([] : List (ByteArray × Bool))) ([] : List (ByteArray × Bool)).length] [(0, v_p_l), (3, .map (some b1))] [true] rfl ⟨rfl, rfl, trivial⟩
  refine then_n ?_
  refine f_seq ?_
  refine f_seq ?_
  refine f_region ?_
  refine lv S (rn_move (S.tm rfl)) rfl ?_; clear S; intro a S
  refine lv S (rn_lenT sl_50 (S.tm rfl) (slc_len hs_p_l)) rfl ?_; clear S; intro a S
  refine lv S (rn_move rfl) rfl ?_; clear S; intro a S
  refine l_done ?_
  replace S := S.nk [.map b1 (ments Value.string Value.bool ([] : List (ByteArray × Bool))) ([] : List (ByteArray × Bool)).length] [(3, .map (some b1)), (10, v_p_l), (11, .int .i64 (p_l.length : Int)), (12, .int .i64 0)] [true] rfl ⟨rfl, rfl, rfl, rfl, trivial⟩
  refine then_n ?_
  obtain ⟨j1, hj1, h⟩ := joinE h
  refine f_join (fun a w' => ∃ x1 : List (ByteArray × Bool), j1 x1 = some r ∧ Sx w [] nov [.map b1 (ments Value.string Value.bool x1) x1.length] [] 53 a w') ?_ ?_
  ·refine wp_block ?_
   refine f_loop (fun (ys1 : List GItem) a w' => ∃ i1 : Nat, ∃ x1 : List (ByteArray × Bool), (∃ dn, p_l = dn ++ ys1 ∧ dn.length = i1) ∧ session_CheckItems_l1 j1 ys1 i1 x1 = some r ∧ Sx w [] nov [.map b1 (ments Value.string Value.bool x1) x1.length] [(3, .map (some b1)), (10, v_p_l), (11, .int .i64 (p_l.length : Int)), (12, .int .i64 (i1 : Int))] 53 a w') List.length p_l ⟨0, ([] : List (ByteArray × Bool)), ⟨[], rfl, rfl⟩, h, S.nf [true] rfl ⟨rfl, rfl, rfl, rfl, trivial⟩⟩ ?_
   clear S h; rintro ys1 a w2 ⟨i1, x1, ⟨dn, hd1, hi1⟩, h, S⟩
   cases ys1 with
   | nil =>
    rw [session_CheckItems_l1.eq_1] at h
    refine f_seq ?_
    refine f_region ?_
    refine lv S (rn_lss (S.tm rfl) (S.tm rfl)) rfl ?_; clear S; intro a S
    refine l_done ?_
    replace S := S.nk [.map b1 (ments Value.string Value.bool x1) x1.length] [(3, .map (some b1)), (10, v_p_l), (11, .int .i64 (p_l.length : Int)), (12, .int .i64 (i1 : Int)), (13, .bool (decide ((i1 : Int) < (p_l.length : Int))))] [true] rfl ⟨rfl, rfl, rfl, rfl, rfl, trivial⟩
    refine then_n ?_
    refine f_seq ?_
    refine wp_cond_false ((S.tm rfl).trans (congrArg Value.bool (rng_nil hd1 hi1))) ?_
    refine wp_exit ?_
    refine then_x ?_
    refine then_x ?_
    refine x_same ?_
    refine then_n ?_
    exact ⟨x1, h, S.nf [true] rfl trivial⟩
   | cons y1 ys1 =>
    rw [session_CheckItems_l1.eq_2] at h
    refine f_seq ?_
    refine f_region ?_
    refine lv S (rn_lss (S.tm rfl) (S.tm rfl)) rfl ?_; clear S; intro a S
    refine l_done ?_
    replace S := S.nk [.map b1 (ments Value.string Value.bool x1) x1.length] [(3, .map (some b1)), (10, v_p_l), (11, .int .i64 (p_l.length : Int)), (12, .int .i64 (i1 : Int)), (13, .bool (decide ((i1 : Int) < (p_l.length : Int))))] [true] rfl ⟨rfl, rfl, rfl, rfl, rfl, trivial⟩
    refine then_n ?_
    refine f_seq ?_
    refine wp_cond_true ((S.tm rfl).trans (congrArg Value.bool (rng_cons hd1 hi1))) ?_
    refine wp_skip ?_
    refine then_n ?_
    refine f_seq ?_
    refine wp_block ?_
    refine f_seq ?_
    refine f_region ?_
    obtain ⟨b2, o1, hm1, hr1⟩ := rn_indexT (a := a) (x := .tmp 10) (y := .tmp 12) (ty := 0) sl_50 hs_p_l (get_mid hd1 hi1) rfl (S.tm rfl) (S.tm rfl)
    refine lv S (hr1 _) rfl ?_; clear S; intro a S
    clear hr1
    refine lv S (rn_ldA Tryd.isAgg49 Tryd.sizeOf49 (off := o1) (o := 0) (part := [.string y1.Key, .int .i64 y1.Heats, .int .i64 y1.Long, .int .i64 y1.Gap, .int .i64 y1.Break]) rfl rfl (S.tm rfl) (hm1.at S.emb0)) rfl ?_; clear S; intro a S
    refine l_alloc S Tryd.zeroValue49 (cs := [.string k_empty, .int .i64 0, .int .i64 0, .int .i64 0, .int .i64 0]) rfl rfl ?_; clear S; intro a w4 b3 hz2 hk2 S
    refine l_store S (S.tm rfl) (S.tm rfl) (i := 0) (off := 0) rfl Tryd.sizeOf49 (vs := [.string y1.Key, .int .i64 y1.Heats, .int .i64 y1.Long, .int .i64 y1.Gap, .int .i64 y1.Break]) rfl rfl rfl rfl ?_; clear S; intro w5 hk3 S
    refine l_done ?_
    replace S := S.nk [.blk b3 [.string y1.Key, .int .i64 y1.Heats, .int .i64 y1.Long, .int .i64 y1.Gap, .int .i64 y1.Break] 49, .map b1 (ments Value.string Value.bool x1) x1.length] [(3, .map (some b1)), (5, .pointer (some ⟨b3, 0, none⟩)), (10, v_p_l), (11, .int .i64 (p_l.length : Int)), (12, .int .i64 (i1 : Int))] [true, true] rfl ⟨rfl, rfl, rfl, rfl, rfl, trivial⟩
    refine then_n ?_
    refine f_seq ?_
    refine wp_block ?_
    refine f_seq ?_
    refine f_region ?_
    refine lv S (rn_fld fa_49_0 (S.tm rfl)) rfl ?_; clear S; intro a S
    refine lv S (rn_load Tryd.isAgg9 (S.tm rfl) (S.cell (i := 0) rfl rfl)) rfl ?_; clear S; intro a S
    obtain ⟨r1, hr2, h⟩ := bindE h
    refine l_enter S (fun _ => run_call (vs := [.string y1.Key]) ⟨(S.tm rfl), trivial⟩ Tryd.call19) (words_IsKey_ok _ y1.Key _ hr2) rfl ?_; clear S; intro v1 a w6 hv1 hk4 hn1 S
    subst hv1
    refine lv S (rn_not (S.tm rfl)) rfl ?_; clear S; intro a S
    refine lv S (rn_assign (S.tm rfl)) rfl ?_; clear S; intro a S
    refine l_done ?_
    replace S := S.nk [.blk b3 [.string y1.Key, .int .i64 y1.Heats, .int .i64 y1.Long, .int .i64 y1.Gap, .int .i64 y1.Break] 49, .map b1 (ments Value.string Value.bool x1) x1.length] [(3, .map (some b1)), (5, .pointer (some ⟨b3, 0, none⟩)), (10, v_p_l), (11, .int .i64 (p_l.length : Int)), (12, .int .i64 (i1 : Int)), (16, .bool (!r1))] [true, true] rfl ⟨rfl, rfl, rfl, rfl, rfl, rfl, trivial⟩
    refine then_n ?_
    refine f_cond (S.tm rfl) (fun hb2 => ?_) (fun hb2 => ?_)
    ·replace h := iteT h hb2
     refine f_seq ?_
     refine f_region ?_
     refine lv S (rn_assign rfl) rfl ?_; clear S; intro a S
     refine l_done ?_
     replace S := S.nk [] [(2, .int .i64 5)] [false, false] rfl ⟨rfl, trivial⟩
     refine then_n ?_
     refine wp_ret ?_
     refine blk_r ?_
     refine then_r ?_
     refine blk_r ?_
     refine then_r ?_
     refine then_r ?_
     refine blk_r ?_
     refine then_r ?_
     refine then_r ?_
     obtain rfl := Option.some.inj h
     exact f_ret S Tryd.results33 rfl rfl
    ·replace h := iteF h hb2
     refine f_seq ?_
     refine f_region ?_
     refine lv S (rn_move (S.tm rfl)) rfl ?_; clear S; intro a S
     refine lv S (rn_fld fa_49_0 (S.tm rfl)) rfl ?_; clear S; intro a S
     refine lv S (rn_load Tryd.isAgg9 (S.tm rfl) (S.cell (i := 0) rfl rfl)) rfl ?_; clear S; intro a S
     refine lv S (rn_lookup (kv := Value.string) (vv := Value.bool) (m := x1) (key := y1.Key) (z := false) (S.map_at (i := 1) rfl) Tryd.underlying89 (keyT_str Tryd.underlying9) Tryd.zeroValue4 (S.tm rfl) (S.tm rfl)) rfl ?_; clear S; intro a S
     refine lv S (rn_assign (S.tm rfl)) rfl ?_; clear S; intro a S
     refine l_done ?_
     replace S := S.nk [.blk b3 [.string y1.Key, .int .i64 y1.Heats, .int .i64 y1.Long, .int .i64 y1.Gap, .int .i64 y1.Break] 49, .map b1 (ments Value.string Value.bool x1) x1.length] [(3, .map (some b1)), (5, .pointer (some ⟨b3, 0, none⟩)), (10, v_p_l), (11, .int .i64 (p_l.length : Int)), (12, .int .i64 (i1 : Int)), (21, .bool (mgetD x1 y1.Key false))] [true, true] rfl ⟨rfl, rfl, rfl, rfl, rfl, rfl, trivial⟩
     refine then_n ?_
     refine f_cond (S.tm rfl) (fun hb3 => ?_) (fun hb3 => ?_)
     ·replace h := iteT h hb3
      refine f_seq ?_
      refine f_region ?_
      refine lv S (rn_assign rfl) rfl ?_; clear S; intro a S
      refine l_done ?_
      replace S := S.nk [] [(2, .int .i64 6)] [false, false] rfl ⟨rfl, trivial⟩
      refine then_n ?_
      refine wp_ret ?_
      refine blk_r ?_
      refine then_r ?_
      refine blk_r ?_
      refine then_r ?_
      refine then_r ?_
      refine blk_r ?_
      refine then_r ?_
      refine then_r ?_
      obtain rfl := Option.some.inj h
      exact f_ret S Tryd.results33 rfl rfl
     ·replace h := iteF h hb3
      refine f_seq ?_
      refine f_region ?_
      refine lv S (rn_fld fa_49_1 (S.tm rfl)) rfl ?_; clear S; intro a S
      refine lv S (rn_load Tryd.isAgg3 (S.tm rfl) (S.cell (i := 0) rfl rfl)) rfl ?_; clear S; intro a S
      refine l_enter S (fun _ => run_call (vs := [.int .i64 y1.Heats, .int .i64 1, .int .i64 60]) ⟨(S.tm rfl), rfl, rfl, trivial⟩ Tryd.call14) (words_Within_ok _ y1.Heats 1 60 _ rfl) rfl ?_; clear S; intro v2 a w7 hv2 hk5 hn2 S
      subst hv2
      refine lv S (rn_not (S.tm rfl)) rfl ?_; clear S; intro a S
      refine lv S (rn_move (S.tm rfl)) rfl ?_; clear S; intro a S
      refine f_cutm 5 (fun a w' => Keep [] w7 w' ∧ Sx w [] nov [.blk b3 [.string y1.Key, .int .i64 y1.Heats, .int .i64 y1.Long, .int .i64 y1.Gap, .int .i64 y1.Break] 49, .map b1 (ments Value.string Value.bool x1) x1.length] [(3, .map (some b1)), (5, .pointer (some ⟨b3, 0, none⟩)), (10, v_p_l), (11, .int .i64 (p_l.length : Int)), (12, .int .i64 (i1 : Int)), (36, .bool ((!(words_Within y1.Heats 1 60)) || (!(words_Within y1.Long 1 3600000))))] 53 a w') ?_ ?_
      ·rcases Bool.eq_false_or_eq_true (!(words_Within y1.Heats 1 60)) with hb4 | hb4
       ·refine l_skip S rfl rfl rfl (neq_t hb4) rfl ?_ rfl; clear S; intro a S
        refine l_skip S rfl rfl rfl (neq_t hb4) rfl ?_ rfl; clear S; intro a S
        refine l_skip S rfl rfl rfl (neq_t hb4) rfl ?_ rfl; clear S; intro a S
        refine l_skip S rfl rfl rfl (neq_t hb4) rfl ?_ rfl; clear S; intro a S
        refine lv S (rn_or_t (!(words_Within y1.Long 1 3600000)) hb4 (S.tm rfl) rfl) rfl ?_; clear S; intro a S
        refine l_done ?_
        refine then_n ?_
        exact ⟨Keep.refl _ _, S.nf [true, true] rfl ⟨rfl, rfl, rfl, rfl, rfl, rfl, trivial⟩⟩
       ·refine l_want S rfl rfl rfl hb4 ?_
        refine lv S (rn_fld fa_49_2 (S.tm rfl)) rfl ?_; clear S; intro a S
        refine l_want S rfl rfl rfl hb4 ?_
        refine lv S (rn_load Tryd.isAgg3 (S.tm rfl) (S.cell (i := 0) rfl rfl)) rfl ?_; clear S; intro a S
        refine l_want S rfl rfl rfl hb4 ?_
        refine l_enter S (fun _ => run_call (vs := [.int .i64 y1.Long, .int .i64 1, .int .i64 3600000]) ⟨(S.tm rfl), rfl, rfl, trivial⟩ Tryd.call14) (words_Within_ok _ y1.Long 1 3600000 _ rfl) rfl ?_; clear S; intro v3 a w9 hv3 hk6 hn3 S
        subst hv3
        refine l_want S rfl rfl rfl hb4 ?_
        refine lv S (rn_not (S.tm rfl)) rfl ?_; clear S; intro a S
        refine lv S (rn_or_f hb4 (S.tm rfl) (S.tm rfl)) rfl ?_; clear S; intro a S
        refine l_done ?_
        refine then_n ?_
        exact ⟨hk6, S.nf [true, true] rfl ⟨rfl, rfl, rfl, rfl, rfl, rfl, trivial⟩⟩
      clear S; rintro a w8 ⟨hk7, S⟩
      refine lv S (rn_move (S.tm rfl)) rfl ?_; clear S; intro a S
      refine f_cutm 5 (fun a w' => Keep [] w8 w' ∧ Sx w [] nov [.blk b3 [.string y1.Key, .int .i64 y1.Heats, .int .i64 y1.Long, .int .i64 y1.Gap, .int .i64 y1.Break] 49, .map b1 (ments Value.string Value.bool x1) x1.length] [(3, .map (some b1)), (5, .pointer (some ⟨b3, 0, none⟩)), (10, v_p_l), (11, .int .i64 (p_l.length : Int)), (12, .int .i64 (i1 : Int)), (42, .bool (((!(words_Within y1.Heats 1 60)) || (!(words_Within y1.Long 1 3600000))) || (!(words_Within y1.Gap 0 3600000))))] 53 a w') ?_ ?_
      ·rcases Bool.eq_false_or_eq_true ((!(words_Within y1.Heats 1 60)) || (!(words_Within y1.Long 1 3600000))) with hb5 | hb5
       ·refine l_skip S rfl rfl rfl (neq_t hb5) rfl ?_ rfl; clear S; intro a S
        refine l_skip S rfl rfl rfl (neq_t hb5) rfl ?_ rfl; clear S; intro a S
        refine l_skip S rfl rfl rfl (neq_t hb5) rfl ?_ rfl; clear S; intro a S
        refine l_skip S rfl rfl rfl (neq_t hb5) rfl ?_ rfl; clear S; intro a S
        refine lv S (rn_or_t (!(words_Within y1.Gap 0 3600000)) hb5 (S.tm rfl) rfl) rfl ?_; clear S; intro a S
        refine l_done ?_
        refine then_n ?_
        exact ⟨Keep.refl _ _, S.nf [true, true] rfl ⟨rfl, rfl, rfl, rfl, rfl, rfl, trivial⟩⟩
       ·refine l_want S rfl rfl rfl hb5 ?_
        refine lv S (rn_fld fa_49_3 (S.tm rfl)) rfl ?_; clear S; intro a S
        refine l_want S rfl rfl rfl hb5 ?_
        refine lv S (rn_load Tryd.isAgg3 (S.tm rfl) (S.cell (i := 0) rfl rfl)) rfl ?_; clear S; intro a S
        refine l_want S rfl rfl rfl hb5 ?_
        refine l_enter S (fun _ => run_call (vs := [.int .i64 y1.Gap, .int .i64 0, .int .i64 3600000]) ⟨(S.tm rfl), rfl, rfl, trivial⟩ Tryd.call14) (words_Within_ok _ y1.Gap 0 3600000 _ rfl) rfl ?_; clear S; intro v4 a w11 hv4 hk8 hn4 S
        subst hv4
        refine l_want S rfl rfl rfl hb5 ?_
        refine lv S (rn_not (S.tm rfl)) rfl ?_; clear S; intro a S
        refine lv S (rn_or_f hb5 (S.tm rfl) (S.tm rfl)) rfl ?_; clear S; intro a S
        refine l_done ?_
        refine then_n ?_
        exact ⟨hk8, S.nf [true, true] rfl ⟨rfl, rfl, rfl, rfl, rfl, rfl, trivial⟩⟩
      clear S; rintro a w10 ⟨hk9, S⟩
      refine lv S (rn_move (S.tm rfl)) rfl ?_; clear S; intro a S
      refine f_cutm 5 (fun a w' => Keep [] w10 w' ∧ Sx w [] nov [.blk b3 [.string y1.Key, .int .i64 y1.Heats, .int .i64 y1.Long, .int .i64 y1.Gap, .int .i64 y1.Break] 49, .map b1 (ments Value.string Value.bool x1) x1.length] [(3, .map (some b1)), (5, .pointer (some ⟨b3, 0, none⟩)), (10, v_p_l), (11, .int .i64 (p_l.length : Int)), (12, .int .i64 (i1 : Int)), (48, .bool ((((!(words_Within y1.Heats 1 60)) || (!(words_Within y1.Long 1 3600000))) || (!(words_Within y1.Gap 0 3600000))) || (!(words_Within y1.Break 0 3600000))))] 53 a w') ?_ ?_
      ·rcases Bool.eq_false_or_eq_true (((!(words_Within y1.Heats 1 60)) || (!(words_Within y1.Long 1 3600000))) || (!(words_Within y1.Gap 0 3600000))) with hb6 | hb6
       ·refine l_skip S rfl rfl rfl (neq_t hb6) rfl ?_ rfl; clear S; intro a S
        refine l_skip S rfl rfl rfl (neq_t hb6) rfl ?_ rfl; clear S; intro a S
        refine l_skip S rfl rfl rfl (neq_t hb6) rfl ?_ rfl; clear S; intro a S
        refine l_skip S rfl rfl rfl (neq_t hb6) rfl ?_ rfl; clear S; intro a S
        refine lv S (rn_or_t (!(words_Within y1.Break 0 3600000)) hb6 (S.tm rfl) rfl) rfl ?_; clear S; intro a S
        refine l_done ?_
        refine then_n ?_
        exact ⟨Keep.refl _ _, S.nf [true, true] rfl ⟨rfl, rfl, rfl, rfl, rfl, rfl, trivial⟩⟩
       ·refine l_want S rfl rfl rfl hb6 ?_
        refine lv S (rn_fld fa_49_4 (S.tm rfl)) rfl ?_; clear S; intro a S
        refine l_want S rfl rfl rfl hb6 ?_
        refine lv S (rn_load Tryd.isAgg3 (S.tm rfl) (S.cell (i := 0) rfl rfl)) rfl ?_; clear S; intro a S
        refine l_want S rfl rfl rfl hb6 ?_
        refine l_enter S (fun _ => run_call (vs := [.int .i64 y1.Break, .int .i64 0, .int .i64 3600000]) ⟨(S.tm rfl), rfl, rfl, trivial⟩ Tryd.call14) (words_Within_ok _ y1.Break 0 3600000 _ rfl) rfl ?_; clear S; intro v5 a w13 hv5 hk10 hn5 S
        subst hv5
        refine l_want S rfl rfl rfl hb6 ?_
        refine lv S (rn_not (S.tm rfl)) rfl ?_; clear S; intro a S
        refine lv S (rn_or_f hb6 (S.tm rfl) (S.tm rfl)) rfl ?_; clear S; intro a S
        refine l_done ?_
        refine then_n ?_
        exact ⟨hk10, S.nf [true, true] rfl ⟨rfl, rfl, rfl, rfl, rfl, rfl, trivial⟩⟩
      clear S; rintro a w12 ⟨hk11, S⟩
      refine lv S (rn_assign (S.tm rfl)) rfl ?_; clear S; intro a S
      refine l_done ?_
      replace S := S.nk [.blk b3 [.string y1.Key, .int .i64 y1.Heats, .int .i64 y1.Long, .int .i64 y1.Gap, .int .i64 y1.Break] 49, .map b1 (ments Value.string Value.bool x1) x1.length] [(3, .map (some b1)), (5, .pointer (some ⟨b3, 0, none⟩)), (10, v_p_l), (11, .int .i64 (p_l.length : Int)), (12, .int .i64 (i1 : Int)), (26, .bool ((((!(words_Within y1.Heats 1 60)) || (!(words_Within y1.Long 1 3600000))) || (!(words_Within y1.Gap 0 3600000))) || (!(words_Within y1.Break 0 3600000))))] [true, true] rfl ⟨rfl, rfl, rfl, rfl, rfl, rfl, trivial⟩
      refine then_n ?_
      refine f_cond (S.tm rfl) (fun hb7 => ?_) (fun hb7 => ?_)
      ·replace h := iteT h hb7
       refine f_seq ?_
       refine f_region ?_
       refine lv S (rn_assign rfl) rfl ?_; clear S; intro a S
       refine l_done ?_
       replace S := S.nk [] [(2, .int .i64 1)] [false, false] rfl ⟨rfl, trivial⟩
       refine then_n ?_
       refine wp_ret ?_
       refine blk_r ?_
       refine then_r ?_
       refine blk_r ?_
       refine then_r ?_
       refine then_r ?_
       refine blk_r ?_
       refine then_r ?_
       refine then_r ?_
       obtain rfl := Option.some.inj h
       exact f_ret S Tryd.results33 rfl rfl
      ·replace h := iteF h hb7
       refine wp_skip ?_
       refine blk_n ?_
       refine then_n ?_
       refine f_region ?_
       refine lv S (rn_move (S.tm rfl)) rfl ?_; clear S; intro a S
       refine lv S (rn_fld fa_49_0 (S.tm rfl)) rfl ?_; clear S; intro a S
       refine lv S (rn_load Tryd.isAgg9 (S.tm rfl) (S.cell (i := 0) rfl rfl)) rfl ?_; clear S; intro a S
       refine l_mapUpdate (kv := Value.string) (vv := Value.bool) (m := x1) (key := y1.Key) (val := true) S (i := 1) rfl Tryd.underlying89 (keyT_str Tryd.underlying9) (S.tm rfl) (S.tm rfl) rfl ?_; clear S; intro w14 hk12 S
       refine l_done ?_
       replace S := S.nk [.map b1 (ments Value.string Value.bool (mput x1 y1.Key true)) (mput x1 y1.Key true).length] [(3, .map (some b1)), (10, v_p_l), (11, .int .i64 (p_l.length : Int)), (12, .int .i64 (i1 : Int))] [false, true] rfl ⟨rfl, rfl, rfl, rfl, trivial⟩
       refine blk_n ?_
       refine then_n ?_
       refine f_region ?_
       refine lv S (rn_add (S.tm rfl) rfl) rfl ?_; clear S; intro a S
       refine lv S (rn_move (S.tm rfl)) rfl ?_; clear S; intro a S
       refine l_done ?_
       replace S := S.nk [.map b1 (ments Value.string Value.bool (mput x1 y1.Key true)) (mput x1 y1.Key true).length] [(3, .map (some b1)), (10, v_p_l), (11, .int .i64 (p_l.length : Int)), (12, .int .i64 (W ((i1 : Int) + 1)))] [true] rfl ⟨rfl, rfl, rfl, rfl, trivial⟩
       refine then_n ?_
       exact ⟨ys1, ⟨i1 + 1, (mput x1 y1.Key true), ⟨_, (hd1).trans (List.append_cons _ _ _), by simp [hi1]⟩, h, S.nf [true] rfl ⟨rfl, rfl, rfl, (congrArg (fun z => some (Value.int .i64 z)) (rng_next hd1 hi1 (slc_max hs_p_l))), trivial⟩⟩, Nat.lt_succ_self _⟩
  clear S h; rintro a w3 ⟨x1, h, S⟩; rw [hj1] at h; clear hj1 j1
  refine then_n ?_
  refine f_seq ?_
  refine f_region ?_
  refine lv S (rn_assign rfl) rfl ?_; clear S; intro a S
  refine l_done ?_
  replace S := S.nk [] [(2, .int .i64 0)] [false] rfl ⟨rfl, trivial⟩
  refine then_n ?_
  refine wp_ret ?_
  obtain rfl := Option.some.inj h
  exact f_ret S Tryd.results33 rfl rfl
theorem words_IsMoment_ok (w : World) (p_n : Int) (r : Bool) (h : words_IsMoment p_n = r) :
    Calls Tryd.prog 45 [.int .i64 p_n].toArray w (Ret w [] fun _ v _ => v = .bool r) := by
 refine f_enter [] [] Tryd.func45 rfl Tryd.ntmps45 rfl (by simp) (by simp [fps]) (by simp [fps]) fun a S => ?_
 unfold words_IsMoment at h
 replace S := S.nk [] [(0, .int .i64 p_n)] [] rfl ⟨rfl, trivial⟩
 refine f_seq ?_
 refine f_region ?_
 refine lv S (rn_assign rfl) rfl ?_; clear S; intro a S
 refine l_done ?_
 replace S := S.nk [] [(0, .int .i64 p_n)] [] rfl ⟨rfl, trivial⟩
 refine then_n ?_
 refine f_seq ?_
 refine f_region ?_
 refine lv S (rn_move (S.tm rfl)) rfl ?_; clear S; intro a S
 refine lv S (rn_geq (S.tm rfl) rfl) rfl ?_; clear S; intro a S
 refine lv S (rn_move (S.tm rfl)) rfl ?_; clear S; intro a S
 refine f_cutm 3 (fun a w' => Keep [] w w' ∧ Sx w [] nov [] [(8, .bool ((decide (0 ≤ p_n)) && (decide (p_n < 345686400000))))] 9 a w') ?_ ?_
 ·rcases Bool.eq_false_or_eq_true (decide (0 ≤ p_n)) with hb1 | hb1
  ·refine l_want S rfl rfl rfl hb1 ?_
   refine lv S (rn_move (S.tm rfl)) rfl ?_; clear S; intro a S
   refine l_want S rfl rfl rfl hb1 ?_
   refine lv S (rn_lss (S.tm rfl) rfl) rfl ?_; clear S; intro a S
   refine lv S (rn_and_t hb1 (S.tm rfl) (S.tm rfl)) rfl ?_; clear S; intro a S
   refine l_done ?_
   refine then_n ?_
   exact ⟨Keep.refl _ _, S.nf [] rfl ⟨rfl, trivial⟩⟩
  ·refine l_skip S rfl rfl rfl (neq_f hb1) rfl ?_ rfl; clear S; intro a S
   refine l_skip S rfl rfl rfl (neq_f hb1) rfl ?_ rfl; clear S; intro a S
   refine lv S (rn_and_f (decide (p_n < 345686400000)) hb1 (S.tm rfl) rfl) rfl ?_; clear S; intro a S
   refine l_done ?_
   refine then_n ?_
   exact ⟨Keep.refl _ _, S.nf [] rfl ⟨rfl, trivial⟩⟩
 clear S; rintro a w1 ⟨hk1, S⟩
 refine lv S (rn_assign (S.tm rfl)) rfl ?_; clear S; intro a S
 refine l_done ?_
 replace S := S.nk [] [(2, .bool ((decide (0 ≤ p_n)) && (decide (p_n < 345686400000))))] [] rfl ⟨rfl, trivial⟩
 refine then_n ?_
 refine wp_ret ?_
 subst h
 exact f_ret S Tryd.results45 rfl rfl
theorem session_timetable_ok (w : World) (v_p_l : Value) (p_l : List GItem) (hs_p_l : Slc (view w []) 5 v_p_l (p_l.map GItem.enc)) (p_from : Int) (r : (List GSlot)) (h : session_timetable p_l p_from = some r) :
    Calls Tryd.prog 46 [v_p_l, .int .i64 p_from].toArray w (Ret w [] fun τ v _ => OwnV τ 80 4 v r.length (r.flatMap GSlot.enc)) := by
 refine f_enter [] [] Tryd.func46 rfl Tryd.ntmps46 rfl (by simp) (by simp [fps]) (by simp [fps]) fun a S => ?_
 unfold session_timetable at h
 replace S := S.nk [] [(0, v_p_l), (1, .int .i64 p_from)] [] rfl ⟨rfl, rfl, trivial⟩
 refine f_seq ?_
 refine f_region ?_
 refine lv S (rn_assign rfl) rfl ?_; clear S; intro a S
 refine l_done ?_
 replace S := S.nk [] [(0, v_p_l), (1, .int .i64 p_from)] [] rfl ⟨rfl, rfl, trivial⟩
 refine then_n ?_
 refine f_seq ?_
 refine f_region ?_
 refine lv S (rn_assign rfl) rfl ?_; clear S; intro a S
 replace S := S.nil 80 4
 refine l_done ?_
 replace S := S.nk [.own (.slice none 0 0) 80 4 ([] : List GSlot).length (([] : List GSlot).flatMap GSlot.enc)] [(0, v_p_l), (1, .int .i64 p_from), (5, (.slice none 0 0))] [true] rfl ⟨rfl, rfl, rfl, trivial⟩
 refine then_n ?_
 refine f_seq ?_
 refine f_region ?_
 refine lv S (rn_move (S.tm rfl)) rfl ?_; clear S; intro a S
 refine lv S (rn_assign (S.tm rfl)) rfl ?_; clear S; intro a S
 refine l_done ?_
 replace S := S.nk [.own (.slice none 0 0) 80 4 ([] : List GSlot).length (([] : List GSlot).flatMap GSlot.enc)] [(0, v_p_l), (5, (.slice none 0 0)), (6, .int .i64 p_from)] [true] rfl ⟨rfl, rfl, rfl, trivial⟩
 refine then_n ?_
 refine f_seq ?_
 refine f_seq ?_
 refine f_region ?_
 refine lv S (rn_move (S.tm rfl)) rfl ?_; clear S; intro a S
 refine lv S (rn_lenT sl_50 (S.tm rfl) (slc_len hs_p_l)) rfl ?_; clear S; intro a S
 refine lv S (rn_move rfl) rfl ?_; clear S; intro a S
 refine l_done ?_
 replace S := S.nk [.own (.slice none 0 0) 80 4 ([] : List GSlot).length (([] : List GSlot).flatMap GSlot.enc)] [(5, (.slice none 0 0)), (6, .int .i64 p_from), (11, v_p_l), (12, .int .i64 (p_l.length : Int)), (13, .int .i64 0)] [true] rfl ⟨rfl, rfl, rfl, rfl, rfl, trivial⟩
 refine then_n ?_
 obtain ⟨j1, hj1, h⟩ := joinE h
 refine f_join (fun a w' => ∃ x1 : List GSlot, ∃ v1 : Value, j1 x1 = some r ∧ Sx w [] nov [.own v1 80 4 x1.length (x1.flatMap GSlot.enc)] [(5, v1)] 54 a w') ?_ ?_
 ·refine wp_block ?_
  refine f_loop (fun (ys1 : List GItem) a w' => ∃ i1 : Nat, ∃ x1 : List GSlot, ∃ x2 : Int, ∃ v1 : Value, (∃ dn, p_l = dn ++ ys1 ∧ dn.length = i1) ∧ session_timetable_l1 j1 ys1 i1 x1 x2 = some r ∧ Sx w [] nov [.own v1 80 4 x1.length (x1.flatMap GSlot.enc)] [(5, v1), (6, .int .i64 x2), (11, v_p_l), (12, .int .i64 (p_l.length : Int)), (13, .int .i64 (i1 : Int))] 54 a w') List.length p_l ⟨0, ([] : List GSlot), p_from, (.slice none 0 0), ⟨[], rfl, rfl⟩, h, S.nf [true] rfl ⟨rfl, rfl, rfl, rfl, rfl, trivial⟩⟩ ?_
  clear S h; rintro ys1 a w1 ⟨i1, x1, x2, v1, ⟨dn, hd1, hi1⟩, h, S⟩
  cases ys1 with
  | nil =>
   rw [session_timetable_l1.eq_1] at h
   refine f_seq ?_
   refine f_region ?_
   refine lv S (rn_lss (S.tm rfl) (S.tm rfl)) rfl ?_; clear S; intro a S
   refine l_done ?_
   replace S := S.nk [.own v1 80 4 x1.length (x1.flatMap GSlot.enc)] [(5, v1), (6, .int .i64 x2), (11, v_p_l), (12, .int .i64 (p_l.length : Int)), (13, .int .i64 (i1 : Int)), (14, .bool (decide ((i1 : Int) < (p_l.length : Int))))] [true] rfl ⟨rfl, rfl, rfl, rfl, rfl, rfl, trivial⟩
   refine then_n ?_
   refine f_seq ?_
   refine wp_cond_false ((S.tm rfl).trans (congrArg Value.bool (rng_nil hd1 hi1))) ?_
   refine wp_exit ?_
   refine then_x ?_
   refine then_x ?_
   refine x_same ?_
   refine then_n ?_
   exact ⟨x1, v1, h, S.nf [true] rfl ⟨rfl, trivial⟩⟩
  | cons y1 ys1 =>
   rw [session_timetable_l1.eq_2] at h
   refine f_seq ?_
   refine f_region ?_
   refine lv S (rn_lss (S.tm rfl) (S.tm rfl)) rfl ?_; clear S; intro a S
   refine l_done ?_
   replace S := S.nk [.own v1 80 4 x1.length (x1.flatMap GSlot.enc)] [(5, v1), (6, .int .i64 x2), (11, v_p_l), (12, .int .i64 (p_l.length : Int)), (13, .int .i64 (i1 : Int)), (14, .bool (decide ((i1 : Int) < (p_l.length : Int))))] [true] rfl ⟨rfl, rfl, rfl, rfl, rfl, rfl, trivial⟩
   refine then_n ?_
   refine f_seq ?_
   refine wp_cond_true ((S.tm rfl).trans (congrArg Value.bool (rng_cons hd1 hi1))) ?_
   refine wp_skip ?_
   refine then_n ?_
   refine f_seq ?_
   refine wp_block ?_
   refine f_seq ?_
   refine f_region ?_
   obtain ⟨b1, o1, hm1, hr1⟩ := rn_indexT (a := a) (x := .tmp 11) (y := .tmp 13) (ty := 0) sl_50 hs_p_l (get_mid hd1 hi1) rfl (S.tm rfl) (S.tm rfl)
   refine lv S (hr1 _) rfl ?_; clear S; intro a S
   clear hr1
   refine lv S (rn_ldA Tryd.isAgg49 Tryd.sizeOf49 (off := o1) (o := 0) (part := [.string y1.Key, .int .i64 y1.Heats, .int .i64 y1.Long, .int .i64 y1.Gap, .int .i64 y1.Break]) rfl rfl (S.tm rfl) (hm1.at S.emb0)) rfl ?_; clear S; intro a S
   refine l_alloc S Tryd.zeroValue49 (cs := [.string k_empty, .int .i64 0, .int .i64 0, .int .i64 0, .int .i64 0]) rfl rfl ?_; clear S; intro a w3 b2 hz1 hk1 S
   refine l_store S (S.tm rfl) (S.tm rfl) (i := 0) (off := 0) rfl Tryd.sizeOf49 (vs := [.string y1.Key, .int .i64 y1.Heats, .int .i64 y1.Long, .int .i64 y1.Gap, .int .i64 y1.Break]) rfl rfl rfl rfl ?_; clear S; intro w4 hk2 S
   refine l_done ?_
   replace S := S.nk [.blk b2 [.string y1.Key, .int .i64 y1.Heats, .int .i64 y1.Long, .int .i64 y1.Gap, .int .i64 y1.Break] 49, .own v1 80 4 x1.length (x1.flatMap GSlot.enc)] [(5, v1), (6, .int .i64 x2), (8, .pointer (some ⟨b2, 0, none⟩)), (11, v_p_l), (12, .int .i64 (p_l.length : Int)), (13, .int .i64 (i1 : Int))] [true, true] rfl ⟨rfl, rfl, rfl, rfl, rfl, rfl, trivial⟩
   refine then_n ?_
   refine f_seq ?_
   refine f_seq ?_
   refine f_region ?_
   refine lv S (rn_assign rfl) rfl ?_; clear S; intro a S
   refine l_done ?_
   replace S := S.nk [.blk b2 [.string y1.Key, .int .i64 y1.Heats, .int .i64 y1.Long, .int .i64 y1.Gap, .int .i64 y1.Break] 49, .own v1 80 4 x1.length (x1.flatMap GSlot.enc)] [(5, v1), (6, .int .i64 x2), (8, .pointer (some ⟨b2, 0, none⟩)), (9, .int .i64 1), (11, v_p_l), (12, .int .i64 (p_l.length : Int)), (13, .int .i64 (i1 : Int))] [true, true] rfl ⟨rfl, rfl, rfl, rfl, rfl, rfl, rfl, trivial⟩
   refine then_n ?_
   obtain ⟨j2, hj2, h⟩ := joinE h
   refine f_join (fun a w' => ∃ x3 : List GSlot, ∃ x4 : Int, ∃ v2 : Value, j2 x3 x4 = some r ∧ Sx w [] nov [.blk b2 [.string y1.Key, .int .i64 y1.Heats, .int .i64 y1.Long, .int .i64 y1.Gap, .int .i64 y1.Break] 49, .own v2 80 4 x3.length (x3.flatMap GSlot.enc)] [(5, v2), (6, .int .i64 x4), (8, .pointer (some ⟨b2, 0, none⟩)), (11, v_p_l), (12, .int .i64 (p_l.length : Int)), (13, .int .i64 (i1 : Int))] 54 a w') ?_ ?_
   ·refine wp_block ?_
    refine f_loop (fun (m1 : Nat) a w' => ∃ x3 : List GSlot, ∃ x4 : Int, ∃ x5 : Int, ∃ v2 : Value, session_timetable_l2 y1 j2 m1 x3 x4 x5 = some r ∧ Sx w [] nov [.blk b2 [.string y1.Key, .int .i64 y1.Heats, .int .i64 y1.Long, .int .i64 y1.Gap, .int .i64 y1.Break] 49, .own v2 80 4 x3.length (x3.flatMap GSlot.enc)] [(5, v2), (6, .int .i64 x4), (8, .pointer (some ⟨b2, 0, none⟩)), (9, .int .i64 x5), (11, v_p_l), (12, .int .i64 (p_l.length : Int)), (13, .int .i64 (i1 : Int))] 54 a w') id ((y1.Heats - 1).toNat + 2) ⟨x1, x2, 1, v1, h, S.nf [true, true] rfl ⟨rfl, rfl, rfl, rfl, rfl, rfl, rfl, trivial⟩⟩ ?_
    clear S h; rintro m1 a w5 ⟨x3, x4, x5, v2, h, S⟩
    cases m1 with
    | zero => rw [session_timetable_l2.eq_1] at h; cases h
    | succ m1 =>
     rw [session_timetable_l2.eq_2] at h
     refine f_seq ?_
     refine f_seq ?_
     refine f_region ?_
     refine lv S (rn_move (S.tm rfl)) rfl ?_; clear S; intro a S
     refine lv S (rn_fld fa_49_1 (S.tm rfl)) rfl ?_; clear S; intro a S
     refine lv S (rn_load Tryd.isAgg3 (S.tm rfl) (S.cell (i := 0) rfl rfl)) rfl ?_; clear S; intro a S
     refine lv S (rn_leq (S.tm rfl) (S.tm rfl)) rfl ?_; clear S; intro a S
     refine l_done ?_
     replace S := S.nk [.blk b2 [.string y1.Key, .int .i64 y1.Heats, .int .i64 y1.Long, .int .i64 y1.Gap, .int .i64 y1.Break] 49, .own v2 80 4 x3.length (x3.flatMap GSlot.enc)] [(5, v2), (6, .int .i64 x4), (8, .pointer (some ⟨b2, 0, none⟩)), (9, .int .i64 x5), (11, v_p_l), (12, .int .i64 (p_l.length : Int)), (13, .int .i64 (i1 : Int)), (20, .bool (decide (x5 ≤ y1.Heats)))] [true, true] rfl ⟨rfl, rfl, rfl, rfl, rfl, rfl, rfl, rfl, trivial⟩
     refine then_n ?_
     refine f_cond (S.tm rfl) (fun hb1 => ?_) (fun hb1 => ?_)
     ·replace h := iteT h hb1
      refine wp_skip ?_
      refine then_n ?_
      refine f_seq ?_
      obtain ⟨j3, hj3, h⟩ := joinE h
      refine f_join (fun a w' => ∃ x6 : List GSlot, ∃ x7 : Int, ∃ v3 : Value, j3 x6 x7 = some r ∧ Sx w [] nov [.blk b2 [.string y1.Key, .int .i64 y1.Heats, .int .i64 y1.Long, .int .i64 y1.Gap, .int .i64 y1.Break] 49, .own v3 80 4 x6.length (x6.flatMap GSlot.enc)] [(5, v3), (6, .int .i64 x7), (8, .pointer (some ⟨b2, 0, none⟩)), (9, .int .i64 x5), (11, v_p_l), (12, .int .i64 (p_l.length : Int)), (13, .int .i64 (i1 : Int))] 54 a w') ?_ ?_
      ·refine wp_block ?_
       refine f_seq ?_
       refine f_region ?_
       refine lv S (rn_move (S.tm rfl)) rfl ?_; clear S; intro a S
       refine lv S (rn_fld fa_49_0 (S.tm rfl)) rfl ?_; clear S; intro a S
       refine lv S (rn_load Tryd.isAgg9 (S.tm rfl) (S.cell (i := 0) rfl rfl)) rfl ?_; clear S; intro a S
       refine lv S (rn_move (S.tm rfl)) rfl ?_; clear S; intro a S
       refine lv S (rn_move (S.tm rfl)) rfl ?_; clear S; intro a S
       refine lv S (rn_move (S.tm rfl)) rfl ?_; clear S; intro a S
       refine lv S (rn_fld fa_49_2 (S.tm rfl)) rfl ?_; clear S; intro a S
       refine lv S (rn_load Tryd.isAgg3 (S.tm rfl) (S.cell (i := 0) rfl rfl)) rfl ?_; clear S; intro a S
       refine lv S (rn_add (S.tm rfl) (S.tm rfl)) rfl ?_; clear S; intro a S
       refine lv S (rn_bld bt_78 (pv := [(0, .int .i64 x4), (1, .int .i64 (W (x4 + y1.Long)))]) ⟨rfl, (S.tm rfl), rfl, (S.tm rfl), trivial⟩ (cs := [.int .i64 x4, .int .i64 (W (x4 + y1.Long))]) (by kernel_rfl)) rfl ?_; clear S; intro a S
       refine lv S (rn_bld bt_80 (pv := [(0, .string y1.Key), (1, .int .i64 x5), (2, .agg #[.int .i64 x4, .int .i64 (W (x4 + y1.Long))])]) ⟨rfl, (S.tm rfl), rfl, (S.tm rfl), rfl, (S.tm rfl), trivial⟩ (cs := [.string y1.Key, .int .i64 x5, .int .i64 x4, .int .i64 (W (x4 + y1.Long))]) (by kernel_rfl)) rfl ?_; clear S; intro a S
       refine l_buildSlice S Tryd.underlying64 Tryd.sizeOf80 Tryd.zeroValue80 rfl rfl (pv := [(0, .agg #[.string y1.Key, .int .i64 x5, .int .i64 x4, .int .i64 (W (x4 + y1.Long))])]) ⟨rfl, (S.tm rfl), trivial⟩ (cs := [.string y1.Key, .int .i64 x5, .int .i64 x4, .int .i64 (W (x4 + y1.Long))]) (by kernel_rfl) rfl ?_; clear S; intro a w8 b3 hz2 hk3 S
       obtain ⟨hc1, h⟩ := chkE h
       refine l_appendT sl_64 GSlot.enc_ok S (S.tm rfl) (i := 2) rfl (S.tm rfl) (j := 0) rfl (ys := [(GSlot.mk y1.Key x5 (GWindow.mk x4 (W (x4 + y1.Long))))]) rfl rfl rfl rfl (by have := room_lt hc1; omega) rfl ?_; clear S; intro v4 a w9 hk4 S
       refine lv S (rn_assign (S.tm rfl)) rfl ?_; clear S; intro a S
       refine l_done ?_
       replace S := S.nk [.blk b2 [.string y1.Key, .int .i64 y1.Heats, .int .i64 y1.Long, .int .i64 y1.Gap, .int .i64 y1.Break] 49, .own v4 80 4 (x3 ++ [(GSlot.mk y1.Key x5 (GWindow.mk x4 (W (x4 + y1.Long))))]).length ((x3 ++ [(GSlot.mk y1.Key x5 (GWindow.mk x4 (W (x4 + y1.Long))))]).flatMap GSlot.enc)] [(5, v4), (6, .int .i64 x4), (8, .pointer (some ⟨b2, 0, none⟩)), (9, .int .i64 x5), (11, v_p_l), (12, .int .i64 (p_l.length : Int)), (13, .int .i64 (i1 : Int))] [false, true, true] rfl ⟨rfl, rfl, rfl, rfl, rfl, rfl, rfl, trivial⟩
       refine then_n ?_
       refine f_seq ?_
       refine f_region ?_
       refine lv S (rn_move (S.tm rfl)) rfl ?_; clear S; intro a S
       refine lv S (rn_fld fa_49_2 (S.tm rfl)) rfl ?_; clear S; intro a S
       refine lv S (rn_load Tryd.isAgg3 (S.tm rfl) (S.cell (i := 0) rfl rfl)) rfl ?_; clear S; intro a S
       refine lv S (rn_add (S.tm rfl) (S.tm rfl)) rfl ?_; clear S; intro a S
       refine lv S (rn_assign (S.tm rfl)) rfl ?_; clear S; intro a S
       refine l_done ?_
       replace S := S.nk [.blk b2 [.string y1.Key, .int .i64 y1.Heats, .int .i64 y1.Long, .int .i64 y1.Gap, .int .i64 y1.Break] 49, .own v4 80 4 (x3 ++ [(GSlot.mk y1.Key x5 (GWindow.mk x4 (W (x4 + y1.Long))))]).length ((x3 ++ [(GSlot.mk y1.Key x5 (GWindow.mk x4 (W (x4 + y1.Long))))]).flatMap GSlot.enc)] [(5, v4), (6, .int .i64 (W (x4 + y1.Long))), (8, .pointer (some ⟨b2, 0, none⟩)), (9, .int .i64 x5), (11, v_p_l), (12, .int .i64 (p_l.length : Int)), (13, .int .i64 (i1 : Int))] [true, true] rfl ⟨rfl, rfl, rfl, rfl, rfl, rfl, rfl, trivial⟩
       refine then_n ?_
       refine f_seq ?_
       refine f_region ?_
       refine lv S (rn_move (S.tm rfl)) rfl ?_; clear S; intro a S
       refine lv S (rn_fld fa_49_1 (S.tm rfl)) rfl ?_; clear S; intro a S
       refine lv S (rn_load Tryd.isAgg3 (S.tm rfl) (S.cell (i := 0) rfl rfl)) rfl ?_; clear S; intro a S
       refine lv S (rn_lss (S.tm rfl) (S.tm rfl)) rfl ?_; clear S; intro a S
       refine l_done ?_
       replace S := S.nk [.blk b2 [.string y1.Key, .int .i64 y1.Heats, .int .i64 y1.Long, .int .i64 y1.Gap, .int .i64 y1.Break] 49, .own v4 80 4 (x3 ++ [(GSlot.mk y1.Key x5 (GWindow.mk x4 (W (x4 + y1.Long))))]).length ((x3 ++ [(GSlot.mk y1.Key x5 (GWindow.mk x4 (W (x4 + y1.Long))))]).flatMap GSlot.enc)] [(5, v4), (6, .int .i64 (W (x4 + y1.Long))), (8, .pointer (some ⟨b2, 0, none⟩)), (9, .int .i64 x5), (11, v_p_l), (12, .int .i64 (p_l.length : Int)), (13, .int .i64 (i1 : Int)), (43, .bool (decide (x5 < y1.Heats)))] [true, true] rfl ⟨rfl, rfl, rfl, rfl, rfl, rfl, rfl, rfl, trivial⟩
       refine then_n ?_
       obtain ⟨j4, hj4, h⟩ := joinE h
       refine f_join (fun a w' => ∃ x8 : Int, j4 x8 = some r ∧ Sx w [] nov [.blk b2 [.string y1.Key, .int .i64 y1.Heats, .int .i64 y1.Long, .int .i64 y1.Gap, .int .i64 y1.Break] 49, .own v4 80 4 (x3 ++ [(GSlot.mk y1.Key x5 (GWindow.mk x4 (W (x4 + y1.Long))))]).length ((x3 ++ [(GSlot.mk y1.Key x5 (GWindow.mk x4 (W (x4 + y1.Long))))]).flatMap GSlot.enc)] [(5, v4), (6, .int .i64 x8), (8, .pointer (some ⟨b2, 0, none⟩)), (9, .int .i64 x5), (11, v_p_l), (12, .int .i64 (p_l.length : Int)), (13, .int .i64 (i1 : Int))] 54 a w') ?_ ?_
       ·refine f_cond (S.tm rfl) (fun hb2 => ?_) (fun hb2 => ?_)
        ·replace h := iteT h hb2
         refine f_region ?_
         refine lv S (rn_move (S.tm rfl)) rfl ?_; clear S; intro a S
         refine lv S (rn_fld fa_49_3 (S.tm rfl)) rfl ?_; clear S; intro a S
         refine lv S (rn_load Tryd.isAgg3 (S.tm rfl) (S.cell (i := 0) rfl rfl)) rfl ?_; clear S; intro a S
         refine lv S (rn_add (S.tm rfl) (S.tm rfl)) rfl ?_; clear S; intro a S
         refine lv S (rn_assign (S.tm rfl)) rfl ?_; clear S; intro a S
         refine l_done ?_
         replace S := S.nk [.blk b2 [.string y1.Key, .int .i64 y1.Heats, .int .i64 y1.Long, .int .i64 y1.Gap, .int .i64 y1.Break] 49, .own v4 80 4 (x3 ++ [(GSlot.mk y1.Key x5 (GWindow.mk x4 (W (x4 + y1.Long))))]).length ((x3 ++ [(GSlot.mk y1.Key x5 (GWindow.mk x4 (W (x4 + y1.Long))))]).flatMap GSlot.enc)] [(5, v4), (6, .int .i64 (W ((W (x4 + y1.Long)) + y1.Gap))), (8, .pointer (some ⟨b2, 0, none⟩)), (9, .int .i64 x5), (11, v_p_l), (12, .int .i64 (p_l.length : Int)), (13, .int .i64 (i1 : Int))] [true, true] rfl ⟨rfl, rfl, rfl, rfl, rfl, rfl, rfl, trivial⟩
         refine then_n ?_
         exact ⟨W ((W (x4 + y1.Long)) + y1.Gap), h, S.nf [true, true] rfl ⟨rfl, rfl, rfl, rfl, rfl, rfl, rfl, trivial⟩⟩
        ·replace h := iteF h hb2
         refine wp_skip ?_
         refine then_n ?_
         exact ⟨W (x4 + y1.Long), h, S.nf [true, true] rfl ⟨rfl, rfl, rfl, rfl, rfl, rfl, rfl, trivial⟩⟩
       clear S h; rintro a w10 ⟨x8, h, S⟩; rw [hj4] at h; clear hj4 j4
       refine blk_n ?_
       refine then_n ?_
       exact ⟨(x3 ++ [(GSlot.mk y1.Key x5 (GWindow.mk x4 (W (x4 + y1.Long))))]), x8, v4, h, S.nf [true, true] rfl ⟨rfl, rfl, rfl, rfl, rfl, rfl, rfl, trivial⟩⟩
      clear S h; rintro a w7 ⟨x6, x7, v3, h, S⟩; rw [hj3] at h; clear hj3 j3
      refine then_n ?_
      refine f_region ?_
      refine lv S (rn_move (S.tm rfl)) rfl ?_; clear S; intro a S
      refine lv S (rn_add (S.tm rfl) rfl) rfl ?_; clear S; intro a S
      refine lv S (rn_assign (S.tm rfl)) rfl ?_; clear S; intro a S
      refine l_done ?_
      replace S := S.nk [.blk b2 [.string y1.Key, .int .i64 y1.Heats, .int .i64 y1.Long, .int .i64 y1.Gap, .int .i64 y1.Break] 49, .own v3 80 4 x6.length (x6.flatMap GSlot.enc)] [(5, v3), (6, .int .i64 x7), (8, .pointer (some ⟨b2, 0, none⟩)), (9, .int .i64 (W (x5 + 1))), (11, v_p_l), (12, .int .i64 (p_l.length : Int)), (13, .int .i64 (i1 : Int))] [true, true] rfl ⟨rfl, rfl, rfl, rfl, rfl, rfl, rfl, trivial⟩
      refine then_n ?_
      exact ⟨m1, ⟨x6, x7, W (x5 + 1), v3, h, S.nf [true, true] rfl ⟨rfl, rfl, rfl, rfl, rfl, rfl, rfl, trivial⟩⟩, Nat.lt_succ_self _⟩
     ·replace h := iteF h hb1
      refine wp_exit ?_
      refine then_x ?_
      refine then_x ?_
      refine x_same ?_
      refine then_n ?_
      exact ⟨x3, x4, v2, h, S.nf [true, true] rfl ⟨rfl, rfl, rfl, rfl, rfl, rfl, trivial⟩⟩
   clear S h; rintro a w6 ⟨x3, x4, v2, h, S⟩; rw [hj2] at h; clear hj2 j2
   refine then_n ?_
   refine f_region ?_
   refine lv S (rn_move (S.tm rfl)) rfl ?_; clear S; intro a S
   refine lv S (rn_fld fa_49_4 (S.tm rfl)) rfl ?_; clear S; intro a S
   refine lv S (rn_load Tryd.isAgg3 (S.tm rfl) (S.cell (i := 0) rfl rfl)) rfl ?_; clear S; intro a S
   refine lv S (rn_add (S.tm rfl) (S.tm rfl)) rfl ?_; clear S; intro a S
   refine lv S (rn_assign (S.tm rfl)) rfl ?_; clear S; intro a S
   refine l_done ?_
   replace S := S.nk [.own v2 80 4 x3.length (x3.flatMap GSlot.enc)] [(5, v2), (6, .int .i64 (W (x4 + y1.Break))), (11, v_p_l), (12, .int .i64 (p_l.length : Int)), (13, .int .i64 (i1 : Int))] [false, true] rfl ⟨rfl, rfl, rfl, rfl, rfl, trivial⟩
   refine blk_n ?_
   refine then_n ?_
   refine f_region ?_
   refine lv S (rn_add (S.tm rfl) rfl) rfl ?_; clear S; intro a S
   refine lv S (rn_move (S.tm rfl)) rfl ?_; clear S; intro a S
   refine l_done ?_
   replace S := S.nk [.own v2 80 4 x3.length (x3.flatMap GSlot.enc)] [(5, v2), (6, .int .i64 (W (x4 + y1.Break))), (11, v_p_l), (12, .int .i64 (p_l.length : Int)), (13, .int .i64 (W ((i1 : Int) + 1)))] [true] rfl ⟨rfl, rfl, rfl, rfl, rfl, trivial⟩
   refine then_n ?_
   exact ⟨ys1, ⟨i1 + 1, x3, W (x4 + y1.Break), v2, ⟨_, (hd1).trans (List.append_cons _ _ _), by simp [hi1]⟩, h, S.nf [true] rfl ⟨rfl, rfl, rfl, rfl, (congrArg (fun z => some (Value.int .i64 z)) (rng_next hd1 hi1 (slc_max hs_p_l))), trivial⟩⟩, Nat.lt_succ_self _⟩
 clear S h; rintro a w2 ⟨x1, v1, h, S⟩; rw [hj1] at h; clear hj1 j1
 refine then_n ?_
 refine f_seq ?_
 refine f_region ?_
 refine lv S (rn_move (S.tm rfl)) rfl ?_; clear S; intro a S
 refine lv S (rn_assign (S.tm rfl)) rfl ?_; clear S; intro a S
 refine l_done ?_
 replace S := S.nk [.own v1 80 4 x1.length (x1.flatMap GSlot.enc)] [(4, v1)] [true] rfl ⟨rfl, trivial⟩
 refine then_n ?_
 refine wp_ret ?_
 obtain rfl := Option.some.inj h
 exact f_ret S Tryd.results46 rfl (own_retT S (i := 0) rfl rfl)
theorem session_end_ok (w : World) (v_p_l : Value) (p_l : List GSlot) (hs_p_l : Slc (view w []) 4 v_p_l (p_l.map GSlot.enc)) (p_from : Int) (r : Int) (h : session_end p_l p_from = some r) :
    Calls Tryd.prog 26 [v_p_l, .int .i64 p_from].toArray w (Ret w [] fun _ v _ => v = .int .i64 r) := by
 refine f_enter [] [] Tryd.func26 rfl Tryd.ntmps26 rfl (by simp) (by simp [fps]) (by simp [fps]) fun a S => ?_
 unfold session_end at h
 replace S := S.nk [] [(0, v_p_l), (1, .int .i64 p_from)] [] rfl ⟨rfl, rfl, trivial⟩
 refine f_seq ?_
 refine f_region ?_
 refine lv S (rn_assign rfl) rfl ?_; clear S; intro a S
 refine l_done ?_
 replace S := S.nk [] [(0, v_p_l), (1, .int .i64 p_from)] [] rfl ⟨rfl, rfl, trivial⟩
 refine then_n ?_
 refine f_seq ?_
 refine f_seq ?_
 refine f_region ?_
 refine lv S (rn_move (S.tm rfl)) rfl ?_; clear S; intro a S
 refine lv S (rn_lenT sl_64 (S.tm rfl) (slc_len hs_p_l)) rfl ?_; clear S; intro a S
 refine lv S (rn_eql (S.tm rfl) rfl) rfl ?_; clear S; intro a S
 refine l_done ?_
 replace S := S.nk [] [(0, v_p_l), (1, .int .i64 p_from), (7, .bool (decide ((p_l.length : Int) = 0)))] [] rfl ⟨rfl, rfl, rfl, trivial⟩
 refine then_n ?_
 refine f_cond (S.tm rfl) (fun hb1 => ?_) (fun hb1 => ?_)
 ·replace h := iteT h hb1
  refine f_seq ?_
  refine f_region ?_
  refine lv S (rn_move (S.tm rfl)) rfl ?_; clear S; intro a S
  refine lv S (rn_assign (S.tm rfl)) rfl ?_; clear S; intro a S
  refine l_done ?_
  replace S := S.nk [] [(4, .int .i64 p_from)] [] rfl ⟨rfl, trivial⟩
  refine then_n ?_
  refine wp_ret ?_
  refine then_r ?_
  obtain rfl := Option.some.inj h
  exact f_ret S Tryd.results26 rfl rfl
 ·replace h := iteF h hb1
  refine wp_skip ?_
  refine then_n ?_
  refine f_seq ?_
  refine f_region ?_
  refine lv S (rn_move (S.tm rfl)) rfl ?_; clear S; intro a S
  refine lv S (rn_move (S.tm rfl)) rfl ?_; clear S; intro a S
  refine lv S (rn_lenT sl_64 (S.tm rfl) (slc_len hs_p_l)) rfl ?_; clear S; intro a S
  refine lv S (rn_sub (S.tm rfl) rfl) rfl ?_; clear S; intro a S
  obtain ⟨hc1, h⟩ := chkE h
  obtain ⟨b1, o1, hm1, hr1⟩ := rn_indexT (a := a) (x := .tmp 9) (y := .tmp 12) (ty := 0) sl_64 hs_p_l (inB_get hc1).1 (inB_get hc1).2 (S.tm rfl) (S.tm rfl)
  refine lv S (hr1 _) rfl ?_; clear S; intro a S
  clear hr1
  refine lv S (rn_fld fa_80_2 (S.tm rfl)) rfl ?_; clear S; intro a S
  refine lv S (rn_fld fa_78_1 (S.tm rfl)) rfl ?_; clear S; intro a S
  refine lv S (rn_ld Tryd.isAgg3 (off := o1) (o := 3) (S.tm rfl) (hm1.at S.emb0) rfl) rfl ?_; clear S; intro a S
  refine lv S (rn_assign (S.tm rfl)) rfl ?_; clear S; intro a S
  refine l_done ?_
  replace S := S.nk [] [(4, .int .i64 (((nth p_l (W ((p_l.length : Int) - 1))).Time).To))] [] rfl ⟨rfl, trivial⟩
  refine then_n ?_
  refine wp_ret ?_
  obtain rfl := Option.some.inj h
  exact f_ret S Tryd.results26 rfl rfl
theorem session_begin_ok (w : World) (v_p_l : Value) (p_l : List GItem) (hs_p_l : Slc (view w []) 5 v_p_l (p_l.map GItem.enc)) (p_from : Int) (r : (List GSlot) × Int) (h : session_begin p_l p_from = some r) :
    Calls Tryd.prog 34 [v_p_l, .int .i64 p_from].toArray w (Ret w [] fun τ v _ => ∃ u1 : Value, v = .tuple #[u1, .int .i64 r.2] ∧ OwnV τ 80 4 u1 r.1.length (r.1.flatMap GSlot.enc)) := by
 refine f_enter [] [] Tryd.func34 rfl Tryd.ntmps34 rfl (by simp) (by simp [fps]) (by simp [fps]) fun a S => ?_
 unfold session_begin at h
 replace S := S.nk [] [(0, v_p_l), (1, .int .i64 p_from)] [] rfl ⟨rfl, rfl, trivial⟩
 refine f_seq ?_
 refine f_region ?_
 refine lv S (rn_assign rfl) rfl ?_; clear S; intro a S
 refine lv S (rn_assign rfl) rfl ?_; clear S; intro a S
 refine l_done ?_
 replace S := S.nk [] [(0, v_p_l), (1, .int .i64 p_from)] [] rfl ⟨rfl, rfl, trivial⟩
 refine then_n ?_
 refine f_seq ?_
 refine f_seq ?_
 refine f_region ?_
 refine lv S (rn_move (S.tm rfl)) rfl ?_; clear S; intro a S
 refine l_enter S (fun _ => run_call (vs := [.int .i64 p_from]) ⟨(S.tm rfl), trivial⟩ Tryd.call45) (words_IsMoment_ok _ p_from _ rfl) rfl ?_; clear S; intro v1 a w1 hv1 hk1 hn1 S
 subst hv1
 refine lv S (rn_not (S.tm rfl)) rfl ?_; clear S; intro a S
 refine l_done ?_
 replace S := S.nk [] [(0, v_p_l), (1, .int .i64 p_from), (9, .bool (!(words_IsMoment p_from)))] [] rfl ⟨rfl, rfl, rfl, trivial⟩
 refine then_n ?_
 refine f_cond (S.tm rfl) (fun hb1 => ?_) (fun hb1 => ?_)
 ·replace h := iteT h hb1
  refine f_seq ?_
  refine f_region ?_
  refine lv S (rn_assign rfl) rfl ?_; clear S; intro a S
  refine lv S (rn_assign rfl) rfl ?_; clear S; intro a S
  refine l_done ?_
  replace S := S.nk [] [(4, .slice none 0 0), (5, .int .i64 1)] [] rfl ⟨rfl, rfl, trivial⟩
  refine then_n ?_
  refine wp_ret ?_
  refine then_r ?_
  obtain rfl := Option.some.inj h
  exact f_ret2 S Tryd.results34 rfl rfl ⟨_, rfl, (ownV_nil _ _ _)⟩
 ·replace h := iteF h hb1
  refine wp_skip ?_
  refine then_n ?_
  refine f_seq ?_
  refine f_region ?_
  refine lv S (rn_move (S.tm rfl)) rfl ?_; clear S; intro a S
  refine lv S (rn_move (S.tm rfl)) rfl ?_; clear S; intro a S
  obtain ⟨r1, hr1, h⟩ := bindE h
  have hz1 := S.keep.size
  refine l_enter S (fun _ => run_call (vs := [v_p_l, .int .i64 p_from]) ⟨(S.tm rfl), (S.tm rfl), trivial⟩ Tryd.call46) (session_timetable_ok _ v_p_l p_l (hs_p_l.mono (S.le_arg nil_sub)) p_from _ hr1) rfl ?_; clear S; intro v2 a w2 hv2 hk2 hn2 S
  obtain ⟨φ1, hl1, hm1, S⟩ := S.see' hn2 hz1
  have hs1 := hv2.mono hm1
  refine lv S (rn_assign (S.tm rfl)) rfl ?_; clear S; intro a S
  refine l_done ?_
  replace S := S.nk [] [(1, .int .i64 p_from), (6, v2)] [] rfl ⟨rfl, rfl, trivial⟩
  refine then_n ?_
  refine f_seq ?_
  refine f_seq ?_
  refine f_region ?_
  refine lv S (rn_move (S.tm rfl)) rfl ?_; clear S; intro a S
  refine lv S (rn_move (S.tm rfl)) rfl ?_; clear S; intro a S
  obtain ⟨r2, hr2, h⟩ := bindE h
  refine l_enter S (fun _ => run_call (vs := [v2, .int .i64 p_from]) ⟨(S.tm rfl), (S.tm rfl), trivial⟩ Tryd.call26) (session_end_ok _ v2 r1 (((ownV_slcT GSlot.enc_ok hs1)).mono (S.le_new nil_sub)) p_from _ hr2) rfl ?_; clear S; intro v3 a w3 hv3 hk3 hn3 S
  subst hv3
  refine lv S (rn_gtr (S.tm rfl) rfl) rfl ?_; clear S; intro a S
  refine l_done ?_
  replace S := S.nk [] [(6, v2), (16, .bool (decide (345686400000 < r2)))] [] rfl ⟨rfl, rfl, trivial⟩
  refine then_n ?_
  refine f_cond (S.tm rfl) (fun hb2 => ?_) (fun hb2 => ?_)
  ·replace h := iteT h hb2
   refine f_seq ?_
   refine f_region ?_
   refine lv S (rn_assign rfl) rfl ?_; clear S; intro a S
   refine lv S (rn_assign rfl) rfl ?_; clear S; intro a S
   refine l_done ?_
   replace S := S.nk [] [(4, .slice none 0 0), (5, .int .i64 1)] [] rfl ⟨rfl, rfl, trivial⟩
   refine then_n ?_
   refine wp_ret ?_
   refine then_r ?_
   obtain rfl := Option.some.inj h
   exact f_ret2 S Tryd.results34 rfl rfl ⟨_, rfl, (ownV_nil _ _ _)⟩
  ·replace h := iteF h hb2
   refine wp_skip ?_
   refine then_n ?_
   refine f_seq ?_
   refine f_region ?_
   refine lv S (rn_move (S.tm rfl)) rfl ?_; clear S; intro a S
   refine lv S (rn_assign (S.tm rfl)) rfl ?_; clear S; intro a S
   refine lv S (rn_assign rfl) rfl ?_; clear S; intro a S
   refine l_done ?_
   replace S := S.nk [] [(4, v2), (5, .int .i64 0)] [] rfl ⟨rfl, rfl, trivial⟩
   refine then_n ?_
   refine wp_ret ?_
   obtain rfl := Option.some.inj h
   exact f_ret2 S Tryd.results34 rfl rfl ⟨_, rfl, ((hs1).mono S.le_newer)⟩
theorem session_Timetable_ok (w : World) (v_p_l : Value) (p_l : List GItem) (hs_p_l : Slc (view w []) 5 v_p_l (p_l.map GItem.enc)) (p_from : Int) (r : (List GSlot) × Int) (h : session_Timetable p_l p_from = some r) :
    Calls Tryd.prog 25 [v_p_l, .int .i64 p_from].toArray w (Ret w [] fun τ v _ => ∃ u1 : Value, v = .tuple #[u1, .int .i64 r.2] ∧ OwnV τ 80 4 u1 r.1.length (r.1.flatMap GSlot.enc)) := by
 refine f_enter [] [] Tryd.func25 rfl Tryd.ntmps25 rfl (by simp) (by simp [fps]) (by simp [fps]) fun a S => ?_
 unfold session_Timetable at h
 replace S := S.nk [] [(0, v_p_l), (1, .int .i64 p_from)] [] rfl ⟨rfl, rfl, trivial⟩
 refine f_seq ?_
 refine f_region ?_
 refine lv S (rn_assign rfl) rfl ?_; clear S; intro a S
 refine lv S (rn_assign rfl) rfl ?_; clear S; intro a S
 refine l_done ?_
 replace S := S.nk [] [(0, v_p_l), (1, .int .i64 p_from)] [] rfl ⟨rfl, rfl, trivial⟩
 refine then_n ?_
 refine f_seq ?_
 refine f_seq ?_
 refine f_region ?_
 refine lv S (rn_move (S.tm rfl)) rfl ?_; clear S; intro a S
 obtain ⟨r1, hr1, h⟩ := bindE h
 refine l_enter S (fun _ => run_call (vs := [v_p_l]) ⟨(S.tm rfl), trivial⟩ Tryd.call33) (session_CheckItems_ok _ v_p_l p_l (hs_p_l.mono (S.le_arg nil_sub)) _ hr1) rfl ?_; clear S; intro v1 a w1 hv1 hk1 hn1 S
 subst hv1
 refine lv S (rn_assign (S.tm rfl)) rfl ?_; clear S; intro a S
 refine l_done ?_
 replace S := S.nk [] [(0, v_p_l), (1, .int .i64 p_from), (6, .int .i64 r1)] [] rfl ⟨rfl, rfl, rfl, trivial⟩
 refine then_n ?_
 refine f_seq ?_
 refine f_region ?_
 refine lv S (rn_move (S.tm rfl)) rfl ?_; clear S; intro a S
 refine lv S (rn_neq (S.tm rfl) rfl) rfl ?_; clear S; intro a S
 refine l_done ?_
 replace S := S.nk [] [(0, v_p_l), (1, .int .i64 p_from), (6, .int .i64 r1), (10, .bool (!decide (r1 = 0)))] [] rfl ⟨rfl, rfl, rfl, rfl, trivial⟩
 refine then_n ?_
 refine f_cond (S.tm rfl) (fun hb1 => ?_) (fun hb1 => ?_)
 ·replace h := iteT h hb1
  refine f_seq ?_
  refine f_region ?_
  refine lv S (rn_move (S.tm rfl)) rfl ?_; clear S; intro a S
  refine lv S (rn_assign rfl) rfl ?_; clear S; intro a S
  refine lv S (rn_assign (S.tm rfl)) rfl ?_; clear S; intro a S
  refine l_done ?_
  replace S := S.nk [] [(4, .slice none 0 0), (5, .int .i64 r1)] [] rfl ⟨rfl, rfl, trivial⟩
  refine then_n ?_
  refine wp_ret ?_
  refine then_r ?_
  obtain rfl := Option.some.inj h
  exact f_ret2 S Tryd.results25 rfl rfl ⟨_, rfl, (ownV_nil _ _ _)⟩
 ·replace h := iteF h hb1
  refine wp_skip ?_
  refine then_n ?_
  refine f_seq ?_
  refine f_region ?_
  refine lv S (rn_move (S.tm rfl)) rfl ?_; clear S; intro a S
  refine lv S (rn_move (S.tm rfl)) rfl ?_; clear S; intro a S
  obtain ⟨r2, hr2, h⟩ := bindE h
  have hz1 := S.keep.size
  refine l_enter S (fun _ => run_call (vs := [v_p_l, .int .i64 p_from]) ⟨(S.tm rfl), (S.tm rfl), trivial⟩ Tryd.call34) (session_begin_ok _ v_p_l p_l (hs_p_l.mono (S.le_arg nil_sub)) p_from _ hr2) rfl ?_; clear S; intro v2 a w2 hv2 hk2 hn2 S
  obtain ⟨u1, rfl, ho1⟩ := hv2
  obtain ⟨φ1, hl1, hm1, S⟩ := S.see' hn2 hz1
  have hs1 := ho1.mono hm1
  refine lv S (rn_extract (S.tm rfl) rfl) rfl ?_; clear S; intro a S
  refine lv S (rn_extract (S.tm rfl) rfl) rfl ?_; clear S; intro a S
  refine lv S (rn_assign (S.tm rfl)) rfl ?_; clear S; intro a S
  refine lv S (rn_assign (S.tm rfl)) rfl ?_; clear S; intro a S
  refine l_done ?_
  replace S := S.nk [] [(4, u1), (5, .int .i64 r2.2)] [] rfl ⟨rfl, rfl, trivial⟩
  refine then_n ?_
  refine wp_ret ?_
  obtain rfl := Option.some.inj h
  exact f_ret2 S Tryd.results25 rfl rfl ⟨_, rfl, ((hs1).mono S.le_newer)⟩
theorem session_Ends_ok (w : World) (v_p_l : Value) (p_l : List GItem) (hs_p_l : Slc (view w []) 5 v_p_l (p_l.map GItem.enc)) (p_from : Int) (r : Int × Int) (h : session_Ends p_l p_from = some r) :
    Calls Tryd.prog 16 [v_p_l, .int .i64 p_from].toArray w (Ret w [] fun _ v _ => v = .tuple #[.int .i64 r.1, .int .i64 r.2]) := by
 refine f_enter [] [] Tryd.func16 rfl Tryd.ntmps16 rfl (by simp) (by simp [fps]) (by simp [fps]) fun a S => ?_
 unfold session_Ends at h
 replace S := S.nk [] [(0, v_p_l), (1, .int .i64 p_from)] [] rfl ⟨rfl, rfl, trivial⟩
 refine f_seq ?_
 refine f_region ?_
 refine lv S (rn_assign rfl) rfl ?_; clear S; intro a S
 refine lv S (rn_assign rfl) rfl ?_; clear S; intro a S
 refine l_done ?_
 replace S := S.nk [] [(0, v_p_l), (1, .int .i64 p_from)] [] rfl ⟨rfl, rfl, trivial⟩
 refine then_n ?_
 refine f_seq ?_
 refine f_region ?_
 refine lv S (rn_move (S.tm rfl)) rfl ?_; clear S; intro a S
 refine lv S (rn_move (S.tm rfl)) rfl ?_; clear S; intro a S
 obtain ⟨r1, hr1, h⟩ := bindE h
 have hz1 := S.keep.size
 refine l_enter S (fun _ => run_call (vs := [v_p_l, .int .i64 p_from]) ⟨(S.tm rfl), (S.tm rfl), trivial⟩ Tryd.call25) (session_Timetable_ok _ v_p_l p_l (hs_p_l.mono (S.le_arg nil_sub)) p_from _ hr1) rfl ?_; clear S; intro v1 a w1 hv1 hk1 hn1 S
 obtain ⟨u1, rfl, ho1⟩ := hv1
 obtain ⟨φ1, hl1, hm1, S⟩ := S.see' hn1 hz1
 have hs1 := ho1.mono hm1
 refine lv S (rn_move (S.tm rfl)) rfl ?_; clear S; intro a S
 refine lv S (rn_extract (S.tm rfl) rfl) rfl ?_; clear S; intro a S
 refine lv S (rn_extract (S.tm rfl) rfl) rfl ?_; clear S; intro a S
 refine lv S (rn_assign (S.tm rfl)) rfl ?_; clear S; intro a S
 refine lv S (rn_assign (S.tm rfl)) rfl ?_; clear S; intro a S
 refine l_done ?_
 replace S := S.nk [] [(1, .int .i64 p_from), (6, u1), (7, .int .i64 r1.2)] [] rfl ⟨rfl, rfl, rfl, trivial⟩
 refine then_n ?_
 refine f_seq ?_
 refine f_seq ?_
 refine f_region ?_
 refine lv S (rn_move (S.tm rfl)) rfl ?_; clear S; intro a S
 refine lv S (rn_neq (S.tm rfl) rfl) rfl ?_; clear S; intro a S
 refine l_done ?_
 replace S := S.nk [] [(1, .int .i64 p_from), (6, u1), (7, .int .i64 r1.2), (15, .bool (!decide (r1.2 = 0)))] [] rfl ⟨rfl, rfl, rfl, rfl, trivial⟩
 refine then_n ?_
 refine f_cond (S.tm rfl) (fun hb1 => ?_) (fun hb1 => ?_)
 ·replace h := iteT h hb1
  refine f_seq ?_
  refine f_region ?_
  refine lv S (rn_move (S.tm rfl)) rfl ?_; clear S; intro a S
  refine lv S (rn_assign rfl) rfl ?_; clear S; intro a S
  refine lv S (rn_assign (S.tm rfl)) rfl ?_; clear S; intro a S
  refine l_done ?_
  replace S := S.nk [] [(4, .int .i64 0), (5, .int .i64 r1.2)] [] rfl ⟨rfl, rfl, trivial⟩
  refine then_n ?_
  refine wp_ret ?_
  refine then_r ?_
  obtain rfl := Option.some.inj h
  exact f_ret2 S Tryd.results16 rfl rfl rfl
 ·replace h := iteF h hb1
  refine wp_skip ?_
  refine then_n ?_
  refine f_seq ?_
  refine f_region ?_
  refine lv S (rn_move (S.tm rfl)) rfl ?_; clear S; intro a S
  refine lv S (rn_move (S.tm rfl)) rfl ?_; clear S; intro a S
  obtain ⟨r2, hr2, h⟩ := bindE h
  refine l_enter S (fun _ => run_call (vs := [u1, .int .i64 p_from]) ⟨(S.tm rfl), (S.tm rfl), trivial⟩ Tryd.call26) (session_end_ok _ u1 r1.1 (((ownV_slcT GSlot.enc_ok hs1)).mono (S.le_new nil_sub)) p_from _ hr2) rfl ?_; clear S; intro v2 a w2 hv2 hk2 hn2 S
  subst hv2
  refine lv S (rn_assign (S.tm rfl)) rfl ?_; clear S; intro a S
  refine lv S (rn_assign rfl) rfl ?_; clear S; intro a S
  refine l_done ?_
  replace S := S.nk [] [(4, .int .i64 r2), (5, .int .i64 0)] [] rfl ⟨rfl, rfl, trivial⟩
  refine then_n ?_
  refine wp_ret ?_
  obtain rfl := Option.some.inj h
  exact f_ret2 S Tryd.results16 rfl rfl rfl
end Go.Proofs.YtflmpbghcgplmaaDoor
