/- Each Go function computes its plain twin, by program. -/
import Derived.Test.YtfajklagapggoaaDoorTab
import Derived.Test.YtfajklagapggoaaDoorLay
namespace Go.Proofs.YtfajklagapggoaaDoor
open Go
theorem tumbmake_Below_ok (w : World) (p_x : Int) (p_n : Int) (r : Int) (h : tumbmake_Below p_x p_n = some r) :
    Calls Tryd.prog 39 [.int .i64 p_x, .int .i64 p_n].toArray w (Ret w [] fun _ v _ => v = .int .i64 r) := by
 refine f_enter [] [] Tryd.func39 rfl Tryd.ntmps39 rfl (by simp) (by simp [fps]) (by simp [fps]) fun a S => ?_
 unfold tumbmake_Below at h
 replace S := S.nk [] [(0, .int .i64 p_x), (1, .int .i64 p_n)] [] rfl ⟨rfl, rfl, trivial⟩
 refine f_seq ?_
 refine f_region ?_
 refine lv S (rn_assign rfl) rfl ?_; clear S; intro a S
 refine l_done ?_
 replace S := S.nk [] [(0, .int .i64 p_x), (1, .int .i64 p_n)] [] rfl ⟨rfl, rfl, trivial⟩
 refine then_n ?_
 refine f_seq ?_
 refine f_seq ?_
 refine f_region ?_
 refine lv S (rn_move (S.tm rfl)) rfl ?_; clear S; intro a S
 refine lv S (rn_lss (S.tm rfl) rfl) rfl ?_; clear S; intro a S
 refine l_done ?_
 replace S := S.nk [] [(0, .int .i64 p_x), (1, .int .i64 p_n), (6, .bool (decide (p_n < 1)))] [] rfl ⟨rfl, rfl, rfl, trivial⟩
 refine then_n ?_
 refine f_cond (S.tm rfl) (fun hb1 => ?_) (fun hb1 => ?_)
 ·replace h := iteT h hb1
  refine f_seq ?_
  refine f_region ?_
  refine lv S (rn_assign rfl) rfl ?_; clear S; intro a S
  refine l_done ?_
  replace S := S.nk [] [(4, .int .i64 0)] [] rfl ⟨rfl, trivial⟩
  refine then_n ?_
  refine wp_ret ?_
  refine then_r ?_
  obtain rfl := Option.some.inj h
  exact f_ret S Tryd.results39 rfl rfl
 ·replace h := iteF h hb1
  refine wp_skip ?_
  refine then_n ?_
  refine f_seq ?_
  refine f_region ?_
  refine lv S (rn_move (S.tm rfl)) rfl ?_; clear S; intro a S
  refine lv S (rn_move (S.tm rfl)) rfl ?_; clear S; intro a S
  obtain ⟨hc1, h⟩ := chkE h
  refine lv S (rn_rem (S.tm rfl) (S.tm rfl) (ne0_of hc1)) rfl ?_; clear S; intro a S
  refine lv S (rn_assign (S.tm rfl)) rfl ?_; clear S; intro a S
  refine l_done ?_
  replace S := S.nk [] [(0, .int .i64 (Int.tmod p_x p_n)), (1, .int .i64 p_n)] [] rfl ⟨rfl, rfl, trivial⟩
  refine then_n ?_
  refine f_seq ?_
  refine f_seq ?_
  refine f_region ?_
  refine lv S (rn_move (S.tm rfl)) rfl ?_; clear S; intro a S
  refine lv S (rn_lss (S.tm rfl) rfl) rfl ?_; clear S; intro a S
  refine l_done ?_
  replace S := S.nk [] [(0, .int .i64 (Int.tmod p_x p_n)), (1, .int .i64 p_n), (11, .bool (decide ((Int.tmod p_x p_n) < 0)))] [] rfl ⟨rfl, rfl, rfl, trivial⟩
  refine then_n ?_
  obtain ⟨j1, hj1, h⟩ := joinE h
  refine f_join (fun a w' => ∃ x1 : Int, j1 x1 = some r ∧ Sx w [] nov [] [(0, .int .i64 x1)] 16 a w') ?_ ?_
  ·refine f_cond (S.tm rfl) (fun hb2 => ?_) (fun hb2 => ?_)
   ·replace h := iteT h hb2
    refine f_region ?_
    refine lv S (rn_move (S.tm rfl)) rfl ?_; clear S; intro a S
    refine lv S (rn_move (S.tm rfl)) rfl ?_; clear S; intro a S
    refine lv S (rn_add (S.tm rfl) (S.tm rfl)) rfl ?_; clear S; intro a S
    refine lv S (rn_assign (S.tm rfl)) rfl ?_; clear S; intro a S
    refine l_done ?_
    replace S := S.nk [] [(0, .int .i64 (W ((Int.tmod p_x p_n) + p_n)))] [] rfl ⟨rfl, trivial⟩
    refine then_n ?_
    exact ⟨W ((Int.tmod p_x p_n) + p_n), h, S.nf [] rfl ⟨rfl, trivial⟩⟩
   ·replace h := iteF h hb2
    refine wp_skip ?_
    refine then_n ?_
    exact ⟨Int.tmod p_x p_n, h, S.nf [] rfl ⟨rfl, trivial⟩⟩
  clear S h; rintro a w1 ⟨x1, h, S⟩; rw [hj1] at h; clear hj1 j1
  refine then_n ?_
  refine f_seq ?_
  refine f_region ?_
  refine lv S (rn_move (S.tm rfl)) rfl ?_; clear S; intro a S
  refine lv S (rn_assign (S.tm rfl)) rfl ?_; clear S; intro a S
  refine l_done ?_
  replace S := S.nk [] [(4, .int .i64 x1)] [] rfl ⟨rfl, trivial⟩
  refine then_n ?_
  refine wp_ret ?_
  obtain rfl := Option.some.inj h
  exact f_ret S Tryd.results39 rfl rfl
set_option maxRecDepth 20000 in
theorem Stream_Next_ok (w : World) (b_p_s : Nat) (v_p_s_L : Value) (p_s_L : List Int) (hs_p_s_L : Slc (view w [b_p_s]) 1 v_p_s_L (p_s_L.map eInt)) (p_s_at : Int) (hb_b_p_s : (LEnt.blk b_p_s [v_p_s_L, .int .i64 p_s_at] 25).holds w) (p_n : Int) (r : Int × Int) (h : Stream_Next p_s_L p_s_at p_n = some r) :
    Calls Tryd.prog 23 [.pointer (some ⟨b_p_s, 0, none⟩), .int .i64 p_n].toArray w (Ret w [b_p_s] fun _ v w' => (LEnt.blk b_p_s [v_p_s_L, .int .i64 r.2] 25).holds w' ∧ v = .int .i64 r.1) := by
 refine f_enter [b_p_s] [.blk b_p_s [v_p_s_L, .int .i64 p_s_at] 25] Tryd.func23 rfl Tryd.ntmps23 rfl (fun e he => by simp only [List.mem_singleton] at he; subst he; exact hb_b_p_s) (by simp [fps, LEnt.fp]) (by simp [fps, LEnt.fp]) fun a S => ?_
 unfold Stream_Next at h
 replace S := S.nk [.blk b_p_s [v_p_s_L, .int .i64 p_s_at] 25] [(0, .pointer (some ⟨b_p_s, 0, none⟩)), (1, .int .i64 p_n)] [true] rfl ⟨rfl, rfl, trivial⟩
 refine f_seq ?_
 refine f_region ?_
 refine lv S (rn_assign rfl) rfl ?_; clear S; intro a S
 refine l_done ?_
 replace S := S.nk [.blk b_p_s [v_p_s_L, .int .i64 p_s_at] 25] [(0, .pointer (some ⟨b_p_s, 0, none⟩)), (1, .int .i64 p_n)] [true] rfl ⟨rfl, rfl, trivial⟩
 refine then_n ?_
 refine f_seq ?_
 refine f_region ?_
 refine lv S (rn_move (S.tm rfl)) rfl ?_; clear S; intro a S
 refine lv S (rn_nilCheck (S.tm rfl)) rfl ?_; clear S; intro a S
 refine lv S (rn_fld fa_25_1 (S.tm rfl)) rfl ?_; clear S; intro a S
 refine lv S (rn_load Tryd.isAgg3 (S.tm rfl) (S.cell (i := 0) rfl rfl)) rfl ?_; clear S; intro a S
 refine lv S (rn_add (S.tm rfl) rfl) rfl ?_; clear S; intro a S
 refine lv S (rn_nilCheck (S.tm rfl)) rfl ?_; clear S; intro a S
 refine lv S (rn_fld fa_25_1 (S.tm rfl)) rfl ?_; clear S; intro a S
 refine l_store S (S.tm rfl) (S.tm rfl) (i := 0) (off := 1) rfl Tryd.sizeOf3 (vs := [.int .i64 (W (p_s_at + 1))]) rfl rfl rfl rfl ?_; clear S; intro w1 hk1 S
 refine l_done ?_
 replace S := S.nk [.blk b_p_s [v_p_s_L, .int .i64 (W (p_s_at + 1))] 25] [(0, .pointer (some ⟨b_p_s, 0, none⟩)), (1, .int .i64 p_n)] [true] rfl ⟨rfl, rfl, trivial⟩
 refine then_n ?_
 refine f_seq ?_
 refine f_seq ?_
 refine f_region ?_
 refine lv S (rn_move (S.tm rfl)) rfl ?_; clear S; intro a S
 refine lv S (rn_nilCheck (S.tm rfl)) rfl ?_; clear S; intro a S
 refine lv S (rn_fld fa_25_0 (S.tm rfl)) rfl ?_; clear S; intro a S
 refine lv S (rn_load Tryd.isAgg22 (S.tm rfl) (S.cell (i := 0) rfl rfl)) rfl ?_; clear S; intro a S
 refine lv S (rn_lenT sl_22 (S.tm rfl) (slc_len hs_p_s_L)) rfl ?_; clear S; intro a S
 refine lv S (rn_eql (S.tm rfl) rfl) rfl ?_; clear S; intro a S
 refine l_done ?_
 replace S := S.nk [.blk b_p_s [v_p_s_L, .int .i64 (W (p_s_at + 1))] 25] [(0, .pointer (some ⟨b_p_s, 0, none⟩)), (1, .int .i64 p_n), (19, .bool (decide ((p_s_L.length : Int) = 0)))] [true] rfl ⟨rfl, rfl, rfl, trivial⟩
 refine then_n ?_
 refine f_cond (S.tm rfl) (fun hb1 => ?_) (fun hb1 => ?_)
 ·replace h := iteT h hb1
  refine f_seq ?_
  refine f_region ?_
  refine lv S (rn_move (S.tm rfl)) rfl ?_; clear S; intro a S
  refine lv S (rn_nilCheck (S.tm rfl)) rfl ?_; clear S; intro a S
  refine lv S (rn_fld fa_25_1 (S.tm rfl)) rfl ?_; clear S; intro a S
  refine lv S (rn_load Tryd.isAgg3 (S.tm rfl) (S.cell (i := 0) rfl rfl)) rfl ?_; clear S; intro a S
  refine lv S (rn_mul (S.tm rfl) rfl) rfl ?_; clear S; intro a S
  refine lv S (rn_move (S.tm rfl)) rfl ?_; clear S; intro a S
  obtain ⟨r1, hr1, h⟩ := bindE h
  refine l_enter S (fun _ => run_call (vs := [.int .i64 (W ((W (p_s_at + 1)) * 7919)), .int .i64 p_n]) ⟨(S.tm rfl), (S.tm rfl), trivial⟩ Tryd.call39) (tumbmake_Below_ok _ (W ((W (p_s_at + 1)) * 7919)) p_n _ hr1) rfl ?_; clear S; intro v1 a w2 hv1 hk2 hn1 S
  subst hv1
  refine lv S (rn_assign (S.tm rfl)) rfl ?_; clear S; intro a S
  refine l_done ?_
  replace S := S.nk [.blk b_p_s [v_p_s_L, .int .i64 (W (p_s_at + 1))] 25] [(4, .int .i64 r1)] [true] rfl ⟨rfl, trivial⟩
  refine then_n ?_
  refine wp_ret ?_
  refine then_r ?_
  obtain rfl := Option.some.inj h
  exact f_ret S Tryd.results23 rfl ⟨(S.holds _ (List.mem_of_getElem? (i := 0) rfl)), rfl⟩
 ·replace h := iteF h hb1
  refine wp_skip ?_
  refine then_n ?_
  refine f_seq ?_
  refine d_region [] ([]) Tryd.mixed S rfl (by kernel_rfl) ?_; clear S; intro w3 hk3 hsel S
  refine d_rest [0, 1, 2, 3, 4, 5, 6, 7, 8, 9, 10, 11] hsel (by kernel_rfl) rfl ?_
  clear hsel
  refine s_lv S rfl (rn_move (S.tm rfl)) rfl ?_; clear S; intro a S
  refine s_lv S rfl (rn_nilCheck (S.tm rfl)) rfl ?_; clear S; intro a S
  refine s_lv S rfl (rn_fld fa_25_1 (S.tm rfl)) rfl ?_; clear S; intro a S
  refine s_lv S rfl (rn_load Tryd.isAgg3 (S.tm rfl) (S.cell (i := 0) rfl rfl)) rfl ?_; clear S; intro a S
  refine s_lv S rfl (rn_sub (S.tm rfl) rfl) rfl ?_; clear S; intro a S
  refine s_lv S rfl (rn_move (S.tm rfl)) rfl ?_; clear S; intro a S
  refine s_lv S rfl (rn_nilCheck (S.tm rfl)) rfl ?_; clear S; intro a S
  refine s_lv S rfl (rn_fld fa_25_0 (S.tm rfl)) rfl ?_; clear S; intro a S
  refine s_lv S rfl (rn_load Tryd.isAgg22 (S.tm rfl) (S.cell (i := 0) rfl rfl)) rfl ?_; clear S; intro a S
  refine s_lv S rfl (rn_lenT sl_22 (S.tm rfl) (slc_len hs_p_s_L)) rfl ?_; clear S; intro a S
  obtain ⟨hc1, h⟩ := chkE h
  refine s_lv S rfl (rn_rem (S.tm rfl) (S.tm rfl) (ne0_of hc1)) rfl ?_; clear S; intro a S
  refine s_lv S rfl (rn_assign (S.tm rfl)) rfl ?_; clear S; intro a S
  refine s_done ?_
  replace S := S.nk [.blk b_p_s [v_p_s_L, .int .i64 (W (p_s_at + 1))] 25] [(0, .pointer (some ⟨b_p_s, 0, none⟩)), (1, .int .i64 p_n), (5, .int .i64 (Int.tmod (W ((W (p_s_at + 1)) - 1)) (p_s_L.length : Int)))] [true] rfl ⟨rfl, rfl, rfl, trivial⟩
  refine then_n ?_
  refine f_seq ?_
  refine d_region [] ([]) Tryd.mixed S rfl (by kernel_rfl) ?_; clear S; intro w4 hk4 hsel S
  refine d_rest [0, 1, 2, 3, 4, 5, 6, 7, 8, 9, 10, 11] hsel (by kernel_rfl) rfl ?_
  clear hsel
  refine s_lv S rfl (rn_move (S.tm rfl)) rfl ?_; clear S; intro a S
  refine s_lv S rfl (rn_nilCheck (S.tm rfl)) rfl ?_; clear S; intro a S
  refine s_lv S rfl (rn_fld fa_25_1 (S.tm rfl)) rfl ?_; clear S; intro a S
  refine s_lv S rfl (rn_load Tryd.isAgg3 (S.tm rfl) (S.cell (i := 0) rfl rfl)) rfl ?_; clear S; intro a S
  refine s_lv S rfl (rn_sub (S.tm rfl) rfl) rfl ?_; clear S; intro a S
  refine s_lv S rfl (rn_move (S.tm rfl)) rfl ?_; clear S; intro a S
  refine s_lv S rfl (rn_nilCheck (S.tm rfl)) rfl ?_; clear S; intro a S
  refine s_lv S rfl (rn_fld fa_25_0 (S.tm rfl)) rfl ?_; clear S; intro a S
  refine s_lv S rfl (rn_load Tryd.isAgg22 (S.tm rfl) (S.cell (i := 0) rfl rfl)) rfl ?_; clear S; intro a S
  refine s_lv S rfl (rn_lenT sl_22 (S.tm rfl) (slc_len hs_p_s_L)) rfl ?_; clear S; intro a S
  obtain ⟨hc2, h⟩ := chkE h
  refine s_lv S rfl (rn_quo (S.tm rfl) (S.tm rfl) (ne0_of hc2)) rfl ?_; clear S; intro a S
  refine s_lv S rfl (rn_assign (S.tm rfl)) rfl ?_; clear S; intro a S
  refine s_done ?_
  replace S := S.nk [.blk b_p_s [v_p_s_L, .int .i64 (W (p_s_at + 1))] 25] [(0, .pointer (some ⟨b_p_s, 0, none⟩)), (1, .int .i64 p_n), (5, .int .i64 (Int.tmod (W ((W (p_s_at + 1)) - 1)) (p_s_L.length : Int))), (6, .int .i64 (W (Int.tdiv (W ((W (p_s_at + 1)) - 1)) (p_s_L.length : Int))))] [true] rfl ⟨rfl, rfl, rfl, rfl, trivial⟩
  refine then_n ?_
  refine f_seq ?_
  refine f_region ?_
  refine lv S (rn_move (S.tm rfl)) rfl ?_; clear S; intro a S
  refine lv S (rn_nilCheck (S.tm rfl)) rfl ?_; clear S; intro a S
  refine lv S (rn_fld fa_25_0 (S.tm rfl)) rfl ?_; clear S; intro a S
  refine lv S (rn_load Tryd.isAgg22 (S.tm rfl) (S.cell (i := 0) rfl rfl)) rfl ?_; clear S; intro a S
  refine lv S (rn_move (S.tm rfl)) rfl ?_; clear S; intro a S
  obtain ⟨hc3, h⟩ := chkE h
  obtain ⟨b1, o1, hm1, hr2⟩ := rn_indexT (a := a) (x := .tmp 52) (y := .tmp 53) (ty := 0) sl_22 hs_p_s_L (inB_get hc3).1 (inB_get hc3).2 (S.tm rfl) (S.tm rfl)
  refine lv S (hr2 _) rfl ?_; clear S; intro a S
  clear hr2
  refine lv S (rn_ld Tryd.isAgg3 (off := o1) (o := 0) (S.tm rfl) (hm1.at S.emb0) rfl) rfl ?_; clear S; intro a S
  obtain ⟨r2, hr3, h⟩ := bindE h
  refine l_enter S (fun _ => run_call (vs := [.int .i64 (nth p_s_L (Int.tmod (W ((W (p_s_at + 1)) - 1)) (p_s_L.length : Int))), .int .i64 1073741824]) ⟨(S.tm rfl), rfl, trivial⟩ Tryd.call39) (tumbmake_Below_ok _ (nth p_s_L (Int.tmod (W ((W (p_s_at + 1)) - 1)) (p_s_L.length : Int))) 1073741824 _ hr3) rfl ?_; clear S; intro v2 a w5 hv2 hk5 hn2 S
  subst hv2
  refine lv S (rn_move (S.tm rfl)) rfl ?_; clear S; intro a S
  refine lv S (rn_move (S.tm rfl)) rfl ?_; clear S; intro a S
  refine lv S (rn_add rfl (S.tm rfl)) rfl ?_; clear S; intro a S
  refine lv S (rn_mul (S.tm rfl) (S.tm rfl)) rfl ?_; clear S; intro a S
  refine lv S (rn_add (S.tm rfl) (S.tm rfl)) rfl ?_; clear S; intro a S
  refine lv S (rn_move (S.tm rfl)) rfl ?_; clear S; intro a S
  obtain ⟨r3, hr4, h⟩ := bindE h
  refine l_enter S (fun _ => run_call (vs := [.int .i64 (W (r2 + (W ((W (Int.tdiv (W ((W (p_s_at + 1)) - 1)) (p_s_L.length : Int))) * (W (7919 + (Int.tmod (W ((W (p_s_at + 1)) - 1)) (p_s_L.length : Int)))))))), .int .i64 p_n]) ⟨(S.tm rfl), (S.tm rfl), trivial⟩ Tryd.call39) (tumbmake_Below_ok _ (W (r2 + (W ((W (Int.tdiv (W ((W (p_s_at + 1)) - 1)) (p_s_L.length : Int))) * (W (7919 + (Int.tmod (W ((W (p_s_at + 1)) - 1)) (p_s_L.length : Int)))))))) p_n _ hr4) rfl ?_; clear S; intro v3 a w6 hv3 hk6 hn3 S
  subst hv3
  refine lv S (rn_assign (S.tm rfl)) rfl ?_; clear S; intro a S
  refine l_done ?_
  replace S := S.nk [.blk b_p_s [v_p_s_L, .int .i64 (W (p_s_at + 1))] 25] [(4, .int .i64 r3)] [true] rfl ⟨rfl, trivial⟩
  refine then_n ?_
  refine wp_ret ?_
  obtain rfl := Option.some.inj h
  exact f_ret S Tryd.results23 rfl ⟨(S.holds _ (List.mem_of_getElem? (i := 0) rfl)), rfl⟩
theorem Stream_Range_ok (w : World) (b_p_s : Nat) (v_p_s_L : Value) (p_s_L : List Int) (hs_p_s_L : Slc (view w [b_p_s]) 1 v_p_s_L (p_s_L.map eInt)) (p_s_at : Int) (hb_b_p_s : (LEnt.blk b_p_s [v_p_s_L, .int .i64 p_s_at] 25).holds w) (p_low : Int) (p_high : Int) (r : Int × Int) (h : Stream_Range p_s_L p_s_at p_low p_high = some r) :
    Calls Tryd.prog 5 [.pointer (some ⟨b_p_s, 0, none⟩), .int .i64 p_low, .int .i64 p_high].toArray w (Ret w [b_p_s] fun _ v w' => (LEnt.blk b_p_s [v_p_s_L, .int .i64 r.2] 25).holds w' ∧ v = .int .i64 r.1) := by
 refine f_enter [b_p_s] [.blk b_p_s [v_p_s_L, .int .i64 p_s_at] 25] Tryd.func5 rfl Tryd.ntmps5 rfl (fun e he => by simp only [List.mem_singleton] at he; subst he; exact hb_b_p_s) (by simp [fps, LEnt.fp]) (by simp [fps, LEnt.fp]) fun a S => ?_
 unfold Stream_Range at h
 replace S := S.nk [.blk b_p_s [v_p_s_L, .int .i64 p_s_at] 25] [(0, .pointer (some ⟨b_p_s, 0, none⟩)), (1, .int .i64 p_low), (2, .int .i64 p_high)] [true] rfl ⟨rfl, rfl, rfl, trivial⟩
 refine f_seq ?_
 refine f_region ?_
 refine lv S (rn_assign rfl) rfl ?_; clear S; intro a S
 refine l_done ?_
 replace S := S.nk [.blk b_p_s [v_p_s_L, .int .i64 p_s_at] 25] [(0, .pointer (some ⟨b_p_s, 0, none⟩)), (1, .int .i64 p_low), (2, .int .i64 p_high)] [true] rfl ⟨rfl, rfl, rfl, trivial⟩
 refine then_n ?_
 refine f_seq ?_
 refine f_seq ?_
 refine f_region ?_
 refine lv S (rn_move (S.tm rfl)) rfl ?_; clear S; intro a S
 refine lv S (rn_move (S.tm rfl)) rfl ?_; clear S; intro a S
 refine lv S (rn_lss (S.tm rfl) (S.tm rfl)) rfl ?_; clear S; intro a S
 refine l_done ?_
 replace S := S.nk [.blk b_p_s [v_p_s_L, .int .i64 p_s_at] 25] [(0, .pointer (some ⟨b_p_s, 0, none⟩)), (1, .int .i64 p_low), (2, .int .i64 p_high), (9, .bool (decide (p_high < p_low)))] [true] rfl ⟨rfl, rfl, rfl, rfl, trivial⟩
 refine then_n ?_
 refine f_cond (S.tm rfl) (fun hb1 => ?_) (fun hb1 => ?_)
 ·replace h := iteT h hb1
  refine f_seq ?_
  refine f_region ?_
  refine lv S (rn_move (S.tm rfl)) rfl ?_; clear S; intro a S
  refine lv S (rn_assign (S.tm rfl)) rfl ?_; clear S; intro a S
  refine l_done ?_
  replace S := S.nk [.blk b_p_s [v_p_s_L, .int .i64 p_s_at] 25] [(6, .int .i64 p_low)] [true] rfl ⟨rfl, trivial⟩
  refine then_n ?_
  refine wp_ret ?_
  refine then_r ?_
  obtain rfl := Option.some.inj h
  exact f_ret S Tryd.results5 rfl ⟨(S.holds _ (List.mem_of_getElem? (i := 0) rfl)), rfl⟩
 ·replace h := iteF h hb1
  refine wp_skip ?_
  refine then_n ?_
  refine f_seq ?_
  refine f_region ?_
  refine lv S (rn_move (S.tm rfl)) rfl ?_; clear S; intro a S
  refine lv S (rn_move (S.tm rfl)) rfl ?_; clear S; intro a S
  refine lv S (rn_move (S.tm rfl)) rfl ?_; clear S; intro a S
  refine lv S (rn_move (S.tm rfl)) rfl ?_; clear S; intro a S
  refine lv S (rn_sub (S.tm rfl) (S.tm rfl)) rfl ?_; clear S; intro a S
  refine lv S (rn_add (S.tm rfl) rfl) rfl ?_; clear S; intro a S
  obtain ⟨r1, hr1, h⟩ := bindE h
  refine l_enter1 0 S (b := b_p_s) rfl rfl (fun _ => .blk b_p_s [v_p_s_L, .int .i64 r1.2] 25) (fun _ => run_call (vs := [.pointer (some ⟨b_p_s, 0, none⟩), .int .i64 (W ((W (p_high - p_low)) + 1))]) ⟨(S.tm rfl), (S.tm rfl), trivial⟩ Tryd.call23) (Stream_Next_ok _ b_p_s v_p_s_L p_s_L (hs_p_s_L.mono (S.le_arg (fp_sub (i := 0) (e := .blk b_p_s [v_p_s_L, .int .i64 p_s_at] 25) rfl))) p_s_at (S.holds _ (List.mem_of_getElem? (i := 0) rfl)) (W ((W (p_high - p_low)) + 1)) _ hr1) rfl (fun _ _ _ h => ⟨h.1, fun _ hc => by cases hc; rfl⟩) ?_; clear S; intro v1 a w1 hv1 hk1 hn1 S
  replace hv1 := hv1.2
  subst hv1
  refine lv S (rn_add (S.tm rfl) (S.tm rfl)) rfl ?_; clear S; intro a S
  refine lv S (rn_assign (S.tm rfl)) rfl ?_; clear S; intro a S
  refine l_done ?_
  replace S := S.nk [.blk b_p_s [v_p_s_L, .int .i64 r1.2] 25] [(6, .int .i64 (W (p_low + r1.1)))] [true] rfl ⟨rfl, trivial⟩
  refine then_n ?_
  refine wp_ret ?_
  obtain rfl := Option.some.inj h
  exact f_ret S Tryd.results5 rfl ⟨(S.holds _ (List.mem_of_getElem? (i := 0) rfl)), rfl⟩
theorem Stream_Some_ok (w : World) (b_p_s : Nat) (v_p_s_L : Value) (p_s_L : List Int) (hs_p_s_L : Slc (view w [b_p_s]) 1 v_p_s_L (p_s_L.map eInt)) (p_s_at : Int) (hb_b_p_s : (LEnt.blk b_p_s [v_p_s_L, .int .i64 p_s_at] 25).holds w) (v_p_l : Value) (p_l : List ByteArray) (hs_p_l : Slc (view w [b_p_s]) 1 v_p_l (p_l.map eStr)) (r : ByteArray × Int) (h : Stream_Some p_s_L p_s_at p_l = some r) :
    Calls Tryd.prog 7 [.pointer (some ⟨b_p_s, 0, none⟩), v_p_l].toArray w (Ret w [b_p_s] fun _ v w' => (LEnt.blk b_p_s [v_p_s_L, .int .i64 r.2] 25).holds w' ∧ v = .string r.1) := by
 refine f_enter [b_p_s] [.blk b_p_s [v_p_s_L, .int .i64 p_s_at] 25] Tryd.func7 rfl Tryd.ntmps7 rfl (fun e he => by simp only [List.mem_singleton] at he; subst he; exact hb_b_p_s) (by simp [fps, LEnt.fp]) (by simp [fps, LEnt.fp]) fun a S => ?_
 unfold Stream_Some at h
 replace S := S.nk [.blk b_p_s [v_p_s_L, .int .i64 p_s_at] 25] [(0, .pointer (some ⟨b_p_s, 0, none⟩)), (1, v_p_l)] [true] rfl ⟨rfl, rfl, trivial⟩
 refine f_seq ?_
 refine f_region ?_
 refine lv S (rn_assign rfl) rfl ?_; clear S; intro a S
 refine l_done ?_
 replace S := S.nk [.blk b_p_s [v_p_s_L, .int .i64 p_s_at] 25] [(0, .pointer (some ⟨b_p_s, 0, none⟩)), (1, v_p_l)] [true] rfl ⟨rfl, rfl, trivial⟩
 refine then_n ?_
 refine f_seq ?_
 refine f_region ?_
 refine lv S (rn_move (S.tm rfl)) rfl ?_; clear S; intro a S
 refine lv S (rn_move (S.tm rfl)) rfl ?_; clear S; intro a S
 refine lv S (rn_move (S.tm rfl)) rfl ?_; clear S; intro a S
 refine lv S (rn_lenT sl_52 (S.tm rfl) (slc_len hs_p_l)) rfl ?_; clear S; intro a S
 obtain ⟨r1, hr1, h⟩ := bindE h
 refine l_enter1 0 S (b := b_p_s) rfl rfl (fun _ => .blk b_p_s [v_p_s_L, .int .i64 r1.2] 25) (fun _ => run_call (vs := [.pointer (some ⟨b_p_s, 0, none⟩), .int .i64 (p_l.length : Int)]) ⟨(S.tm rfl), (S.tm rfl), trivial⟩ Tryd.call23) (Stream_Next_ok _ b_p_s v_p_s_L p_s_L (hs_p_s_L.mono (S.le_arg (fp_sub (i := 0) (e := .blk b_p_s [v_p_s_L, .int .i64 p_s_at] 25) rfl))) p_s_at (S.holds _ (List.mem_of_getElem? (i := 0) rfl)) (p_l.length : Int) _ hr1) rfl (fun _ _ _ h => ⟨h.1, fun _ hc => by cases hc; rfl⟩) ?_; clear S; intro v1 a w1 hv1 hk1 hn1 S
 replace hv1 := hv1.2
 subst hv1
 obtain ⟨hc1, h⟩ := chkE h
 obtain ⟨b1, o1, hm1, hr2⟩ := rn_indexT (a := a) (x := .tmp 5) (y := .tmp 9) (ty := 0) sl_52 hs_p_l (inB_get hc1).1 (inB_get hc1).2 (S.tm rfl) (S.tm rfl)
 refine lv S (hr2 _) rfl ?_; clear S; intro a S
 clear hr2
 refine lv S (rn_ld Tryd.isAgg9 (off := o1) (o := 0) (S.tm rfl) (hm1.at S.emb0) rfl) rfl ?_; clear S; intro a S
 refine lv S (rn_assign (S.tm rfl)) rfl ?_; clear S; intro a S
 refine l_done ?_
 replace S := S.nk [.blk b_p_s [v_p_s_L, .int .i64 r1.2] 25] [(4, .string (nth p_l r1.1))] [true] rfl ⟨rfl, trivial⟩
 refine then_n ?_
 refine wp_ret ?_
 obtain rfl := Option.some.inj h
 exact f_ret S Tryd.results7 rfl ⟨(S.holds _ (List.mem_of_getElem? (i := 0) rfl)), rfl⟩
theorem Stream_Pick_ok (w : World) (b_p_s : Nat) (v_p_s_L : Value) (p_s_L : List Int) (hs_p_s_L : Slc (view w [b_p_s]) 1 v_p_s_L (p_s_L.map eInt)) (p_s_at : Int) (hb_b_p_s : (LEnt.blk b_p_s [v_p_s_L, .int .i64 p_s_at] 25).holds w) (v_p_l : Value) (p_l : List Int) (hs_p_l : Slc (view w [b_p_s]) 1 v_p_l (p_l.map eInt)) (r : Int × Int) (h : Stream_Pick p_s_L p_s_at p_l = some r) :
    Calls Tryd.prog 8 [.pointer (some ⟨b_p_s, 0, none⟩), v_p_l].toArray w (Ret w [b_p_s] fun _ v w' => (LEnt.blk b_p_s [v_p_s_L, .int .i64 r.2] 25).holds w' ∧ v = .int .i64 r.1) := by
 refine f_enter [b_p_s] [.blk b_p_s [v_p_s_L, .int .i64 p_s_at] 25] Tryd.func8 rfl Tryd.ntmps8 rfl (fun e he => by simp only [List.mem_singleton] at he; subst he; exact hb_b_p_s) (by simp [fps, LEnt.fp]) (by simp [fps, LEnt.fp]) fun a S => ?_
 unfold Stream_Pick at h
 replace S := S.nk [.blk b_p_s [v_p_s_L, .int .i64 p_s_at] 25] [(0, .pointer (some ⟨b_p_s, 0, none⟩)), (1, v_p_l)] [true] rfl ⟨rfl, rfl, trivial⟩
 refine f_seq ?_
 refine f_region ?_
 refine lv S (rn_assign rfl) rfl ?_; clear S; intro a S
 refine l_done ?_
 replace S := S.nk [.blk b_p_s [v_p_s_L, .int .i64 p_s_at] 25] [(0, .pointer (some ⟨b_p_s, 0, none⟩)), (1, v_p_l)] [true] rfl ⟨rfl, rfl, trivial⟩
 refine then_n ?_
 refine f_seq ?_
 refine f_region ?_
 refine lv S (rn_move (S.tm rfl)) rfl ?_; clear S; intro a S
 refine lv S (rn_move (S.tm rfl)) rfl ?_; clear S; intro a S
 refine lv S (rn_move (S.tm rfl)) rfl ?_; clear S; intro a S
 refine lv S (rn_lenT sl_22 (S.tm rfl) (slc_len hs_p_l)) rfl ?_; clear S; intro a S
 obtain ⟨r1, hr1, h⟩ := bindE h
 refine l_enter1 0 S (b := b_p_s) rfl rfl (fun _ => .blk b_p_s [v_p_s_L, .int .i64 r1.2] 25) (fun _ => run_call (vs := [.pointer (some ⟨b_p_s, 0, none⟩), .int .i64 (p_l.length : Int)]) ⟨(S.tm rfl), (S.tm rfl), trivial⟩ Tryd.call23) (Stream_Next_ok _ b_p_s v_p_s_L p_s_L (hs_p_s_L.mono (S.le_arg (fp_sub (i := 0) (e := .blk b_p_s [v_p_s_L, .int .i64 p_s_at] 25) rfl))) p_s_at (S.holds _ (List.mem_of_getElem? (i := 0) rfl)) (p_l.length : Int) _ hr1) rfl (fun _ _ _ h => ⟨h.1, fun _ hc => by cases hc; rfl⟩) ?_; clear S; intro v1 a w1 hv1 hk1 hn1 S
 replace hv1 := hv1.2
 subst hv1
 obtain ⟨hc1, h⟩ := chkE h
 obtain ⟨b1, o1, hm1, hr2⟩ := rn_indexT (a := a) (x := .tmp 5) (y := .tmp 9) (ty := 0) sl_22 hs_p_l (inB_get hc1).1 (inB_get hc1).2 (S.tm rfl) (S.tm rfl)
 refine lv S (hr2 _) rfl ?_; clear S; intro a S
 clear hr2
 refine lv S (rn_ld Tryd.isAgg3 (off := o1) (o := 0) (S.tm rfl) (hm1.at S.emb0) rfl) rfl ?_; clear S; intro a S
 refine lv S (rn_assign (S.tm rfl)) rfl ?_; clear S; intro a S
 refine l_done ?_
 replace S := S.nk [.blk b_p_s [v_p_s_L, .int .i64 r1.2] 25] [(4, .int .i64 (nth p_l r1.1))] [true] rfl ⟨rfl, trivial⟩
 refine then_n ?_
 refine wp_ret ?_
 obtain rfl := Option.some.inj h
 exact f_ret S Tryd.results8 rfl ⟨(S.holds _ (List.mem_of_getElem? (i := 0) rfl)), rfl⟩
theorem Stream_Flip_ok (w : World) (b_p_s : Nat) (v_p_s_L : Value) (p_s_L : List Int) (hs_p_s_L : Slc (view w [b_p_s]) 1 v_p_s_L (p_s_L.map eInt)) (p_s_at : Int) (hb_b_p_s : (LEnt.blk b_p_s [v_p_s_L, .int .i64 p_s_at] 25).holds w) (p_n : Int) (r : Bool × Int) (h : Stream_Flip p_s_L p_s_at p_n = some r) :
    Calls Tryd.prog 21 [.pointer (some ⟨b_p_s, 0, none⟩), .int .i64 p_n].toArray w (Ret w [b_p_s] fun _ v w' => (LEnt.blk b_p_s [v_p_s_L, .int .i64 r.2] 25).holds w' ∧ v = .bool r.1) := by
 refine f_enter [b_p_s] [.blk b_p_s [v_p_s_L, .int .i64 p_s_at] 25] Tryd.func21 rfl Tryd.ntmps21 rfl (fun e he => by simp only [List.mem_singleton] at he; subst he; exact hb_b_p_s) (by simp [fps, LEnt.fp]) (by simp [fps, LEnt.fp]) fun a S => ?_
 unfold Stream_Flip at h
 replace S := S.nk [.blk b_p_s [v_p_s_L, .int .i64 p_s_at] 25] [(0, .pointer (some ⟨b_p_s, 0, none⟩)), (1, .int .i64 p_n)] [true] rfl ⟨rfl, rfl, trivial⟩
 refine f_seq ?_
 refine f_region ?_
 refine lv S (rn_assign rfl) rfl ?_; clear S; intro a S
 refine l_done ?_
 replace S := S.nk [.blk b_p_s [v_p_s_L, .int .i64 p_s_at] 25] [(0, .pointer (some ⟨b_p_s, 0, none⟩)), (1, .int .i64 p_n)] [true] rfl ⟨rfl, rfl, trivial⟩
 refine then_n ?_
 refine f_seq ?_
 refine f_region ?_
 refine lv S (rn_move (S.tm rfl)) rfl ?_; clear S; intro a S
 refine lv S (rn_move (S.tm rfl)) rfl ?_; clear S; intro a S
 obtain ⟨r1, hr1, h⟩ := bindE h
 refine l_enter1 0 S (b := b_p_s) rfl rfl (fun _ => .blk b_p_s [v_p_s_L, .int .i64 r1.2] 25) (fun _ => run_call (vs := [.pointer (some ⟨b_p_s, 0, none⟩), .int .i64 p_n]) ⟨(S.tm rfl), (S.tm rfl), trivial⟩ Tryd.call23) (Stream_Next_ok _ b_p_s v_p_s_L p_s_L (hs_p_s_L.mono (S.le_arg (fp_sub (i := 0) (e := .blk b_p_s [v_p_s_L, .int .i64 p_s_at] 25) rfl))) p_s_at (S.holds _ (List.mem_of_getElem? (i := 0) rfl)) p_n _ hr1) rfl (fun _ _ _ h => ⟨h.1, fun _ hc => by cases hc; rfl⟩) ?_; clear S; intro v1 a w1 hv1 hk1 hn1 S
 replace hv1 := hv1.2
 subst hv1
 refine lv S (rn_eql (S.tm rfl) rfl) rfl ?_; clear S; intro a S
 refine lv S (rn_assign (S.tm rfl)) rfl ?_; clear S; intro a S
 refine l_done ?_
 replace S := S.nk [.blk b_p_s [v_p_s_L, .int .i64 r1.2] 25] [(4, .bool (decide (r1.1 = 0)))] [true] rfl ⟨rfl, trivial⟩
 refine then_n ?_
 refine wp_ret ?_
 obtain rfl := Option.some.inj h
 exact f_ret S Tryd.results21 rfl ⟨(S.holds _ (List.mem_of_getElem? (i := 0) rfl)), rfl⟩
theorem Stream_Odd_ok (w : World) (b_p_s : Nat) (v_p_s_L : Value) (p_s_L : List Int) (hs_p_s_L : Slc (view w [b_p_s]) 1 v_p_s_L (p_s_L.map eInt)) (p_s_at : Int) (hb_b_p_s : (LEnt.blk b_p_s [v_p_s_L, .int .i64 p_s_at] 25).holds w) (p_low : Int) (p_high : Int) (r : Int × Int) (h : Stream_Odd p_s_L p_s_at p_low p_high = some r) :
    Calls Tryd.prog 22 [.pointer (some ⟨b_p_s, 0, none⟩), .int .i64 p_low, .int .i64 p_high].toArray w (Ret w [b_p_s] fun _ v w' => (LEnt.blk b_p_s [v_p_s_L, .int .i64 r.2] 25).holds w' ∧ v = .int .i64 r.1) := by
 refine f_enter [b_p_s] [.blk b_p_s [v_p_s_L, .int .i64 p_s_at] 25] Tryd.func22 rfl Tryd.ntmps22 rfl (fun e he => by simp only [List.mem_singleton] at he; subst he; exact hb_b_p_s) (by simp [fps, LEnt.fp]) (by simp [fps, LEnt.fp]) fun a S => ?_
 unfold Stream_Odd at h
 replace S := S.nk [.blk b_p_s [v_p_s_L, .int .i64 p_s_at] 25] [(0, .pointer (some ⟨b_p_s, 0, none⟩)), (1, .int .i64 p_low), (2, .int .i64 p_high)] [true] rfl ⟨rfl, rfl, rfl, trivial⟩
 refine f_seq ?_
 refine f_region ?_
 refine lv S (rn_assign rfl) rfl ?_; clear S; intro a S
 refine l_done ?_
 replace S := S.nk [.blk b_p_s [v_p_s_L, .int .i64 p_s_at] 25] [(0, .pointer (some ⟨b_p_s, 0, none⟩)), (1, .int .i64 p_low), (2, .int .i64 p_high)] [true] rfl ⟨rfl, rfl, rfl, trivial⟩
 refine then_n ?_
 refine f_seq ?_
 refine f_seq ?_
 refine f_region ?_
 refine lv S (rn_move (S.tm rfl)) rfl ?_; clear S; intro a S
 obtain ⟨r1, hr1, h⟩ := bindE h
 refine l_enter1 0 S (b := b_p_s) rfl rfl (fun _ => .blk b_p_s [v_p_s_L, .int .i64 r1.2] 25) (fun _ => run_call (vs := [.pointer (some ⟨b_p_s, 0, none⟩), .int .i64 12]) ⟨(S.tm rfl), rfl, trivial⟩ Tryd.call21) (Stream_Flip_ok _ b_p_s v_p_s_L p_s_L (hs_p_s_L.mono (S.le_arg (fp_sub (i := 0) (e := .blk b_p_s [v_p_s_L, .int .i64 p_s_at] 25) rfl))) p_s_at (S.holds _ (List.mem_of_getElem? (i := 0) rfl)) 12 _ hr1) rfl (fun _ _ _ h => ⟨h.1, fun _ hc => by cases hc; rfl⟩) ?_; clear S; intro v1 a w1 hv1 hk1 hn1 S
 replace hv1 := hv1.2
 subst hv1
 refine l_done ?_
 replace S := S.nk [.blk b_p_s [v_p_s_L, .int .i64 r1.2] 25] [(0, .pointer (some ⟨b_p_s, 0, none⟩)), (1, .int .i64 p_low), (2, .int .i64 p_high), (8, .bool r1.1)] [true] rfl ⟨rfl, rfl, rfl, rfl, trivial⟩
 refine then_n ?_
 refine f_cond (S.tm rfl) (fun hb1 => ?_) (fun hb1 => ?_)
 ·replace h := iteT h hb1
  refine f_seq ?_
  refine f_region ?_
  refine lv S (rn_move (S.tm rfl)) rfl ?_; clear S; intro a S
  refine lv S (rn_move (S.tm rfl)) rfl ?_; clear S; intro a S
  refine lv S (rn_sub (S.tm rfl) rfl) rfl ?_; clear S; intro a S
  refine lv S (rn_move (S.tm rfl)) rfl ?_; clear S; intro a S
  refine lv S (rn_add (S.tm rfl) rfl) rfl ?_; clear S; intro a S
  refine lv S (rn_move (S.tm rfl)) rfl ?_; clear S; intro a S
  refine lv S (rn_move (S.tm rfl)) rfl ?_; clear S; intro a S
  refine l_buildSlice S Tryd.underlying22 Tryd.sizeOf3 Tryd.zeroValue3 rfl rfl (pv := [(0, .int .i64 (W (p_low - 1))), (1, .int .i64 (W (p_high + 1))), (2, .int .i64 p_low), (3, .int .i64 p_high), (4, .int .i64 (-1099511627776)), (5, .int .i64 1099511627776)]) ⟨rfl, (S.tm rfl), rfl, (S.tm rfl), rfl, (S.tm rfl), rfl, (S.tm rfl), rfl, rfl, rfl, rfl, trivial⟩ (cs := [.int .i64 (W (p_low - 1)), .int .i64 (W (p_high + 1)), .int .i64 p_low, .int .i64 p_high, .int .i64 (-1099511627776), .int .i64 1099511627776]) (by kernel_rfl) rfl ?_; clear S; intro a w2 b1 hz1 hk2 S
  obtain ⟨r2, hr2, h⟩ := bindE h
  refine l_enter1 1 S (b := b_p_s) rfl rfl (fun _ => .blk b_p_s [v_p_s_L, .int .i64 r2.2] 25) (fun _ => run_call (vs := [.pointer (some ⟨b_p_s, 0, none⟩), .slice (some ⟨b1, 0, none⟩) 6 6]) ⟨(S.tm rfl), (S.tm rfl), trivial⟩ Tryd.call8) (Stream_Pick_ok _ b_p_s v_p_s_L p_s_L (hs_p_s_L.mono (S.le_arg (fp_sub (i := 1) (e := .blk b_p_s [v_p_s_L, .int .i64 r1.2] 25) rfl))) r1.2 (S.holds _ (List.mem_of_getElem? (i := 1) rfl)) (.slice (some ⟨b1, 0, none⟩) 6 6) [W (p_low - 1), W (p_high + 1), p_low, p_high, (-1099511627776), 1099511627776] (lit_slcT enc_int S (i := 0) rfl rfl rfl rfl ((ne_fp (i := 1) (j := 0) (e := .blk b_p_s [v_p_s_L, .int .i64 r1.2] 25) (e' := .blk b1 [.int .i64 (W (p_low - 1)), .int .i64 (W (p_high + 1)), .int .i64 p_low, .int .i64 p_high, .int .i64 (-1099511627776), .int .i64 1099511627776] 3) S rfl rfl rfl) _ rfl)) _ hr2) rfl (fun _ _ _ h => ⟨h.1, fun _ hc => by cases hc; rfl⟩) ?_; clear S; intro v2 a w3 hv2 hk3 hn2 S
  replace hv2 := hv2.2
  subst hv2
  refine lv S (rn_assign (S.tm rfl)) rfl ?_; clear S; intro a S
  refine l_done ?_
  replace S := S.nk [.blk b_p_s [v_p_s_L, .int .i64 r2.2] 25] [(6, .int .i64 r2.1)] [false, true] rfl ⟨rfl, trivial⟩
  refine then_n ?_
  refine wp_ret ?_
  refine then_r ?_
  obtain rfl := Option.some.inj h
  exact f_ret S Tryd.results22 rfl ⟨(S.holds _ (List.mem_of_getElem? (i := 0) rfl)), rfl⟩
 ·replace h := iteF h hb1
  refine wp_skip ?_
  refine then_n ?_
  refine f_seq ?_
  refine f_region ?_
  refine lv S (rn_move (S.tm rfl)) rfl ?_; clear S; intro a S
  refine lv S (rn_move (S.tm rfl)) rfl ?_; clear S; intro a S
  refine lv S (rn_move (S.tm rfl)) rfl ?_; clear S; intro a S
  obtain ⟨r3, hr3, h⟩ := bindE h
  refine l_enter1 0 S (b := b_p_s) rfl rfl (fun _ => .blk b_p_s [v_p_s_L, .int .i64 r3.2] 25) (fun _ => run_call (vs := [.pointer (some ⟨b_p_s, 0, none⟩), .int .i64 p_low, .int .i64 p_high]) ⟨(S.tm rfl), (S.tm rfl), (S.tm rfl), trivial⟩ Tryd.call5) (Stream_Range_ok _ b_p_s v_p_s_L p_s_L (hs_p_s_L.mono (S.le_arg (fp_sub (i := 0) (e := .blk b_p_s [v_p_s_L, .int .i64 r1.2] 25) rfl))) r1.2 (S.holds _ (List.mem_of_getElem? (i := 0) rfl)) p_low p_high _ hr3) rfl (fun _ _ _ h => ⟨h.1, fun _ hc => by cases hc; rfl⟩) ?_; clear S; intro v3 a w4 hv3 hk4 hn3 S
  replace hv3 := hv3.2
  subst hv3
  refine lv S (rn_assign (S.tm rfl)) rfl ?_; clear S; intro a S
  refine l_done ?_
  replace S := S.nk [.blk b_p_s [v_p_s_L, .int .i64 r3.2] 25] [(6, .int .i64 r3.1)] [true] rfl ⟨rfl, trivial⟩
  refine then_n ?_
  refine wp_ret ?_
  obtain rfl := Option.some.inj h
  exact f_ret S Tryd.results22 rfl ⟨(S.holds _ (List.mem_of_getElem? (i := 0) rfl)), rfl⟩
theorem Stream_Marks_ok (w : World) (b_p_s : Nat) (v_p_s_L : Value) (p_s_L : List Int) (hs_p_s_L : Slc (view w [b_p_s]) 1 v_p_s_L (p_s_L.map eInt)) (p_s_at : Int) (hb_b_p_s : (LEnt.blk b_p_s [v_p_s_L, .int .i64 p_s_at] 25).holds w) (p_many : Int) (r : (List GMark) × Int) (h : Stream_Marks p_s_L p_s_at p_many = some r) :
    Calls Tryd.prog 4 [.pointer (some ⟨b_p_s, 0, none⟩), .int .i64 p_many].toArray w (Ret w [b_p_s] fun τ v w' => (LEnt.blk b_p_s [v_p_s_L, .int .i64 r.2] 25).holds w' ∧ OwnV τ 34 4 v r.1.length (r.1.flatMap GMark.enc)) := by
 refine f_enter [b_p_s] [.blk b_p_s [v_p_s_L, .int .i64 p_s_at] 25] Tryd.func4 rfl Tryd.ntmps4 rfl (fun e he => by simp only [List.mem_singleton] at he; subst he; exact hb_b_p_s) (by simp [fps, LEnt.fp]) (by simp [fps, LEnt.fp]) fun a S => ?_
 unfold Stream_Marks at h
 replace S := S.nk [.blk b_p_s [v_p_s_L, .int .i64 p_s_at] 25] [(0, .pointer (some ⟨b_p_s, 0, none⟩)), (1, .int .i64 p_many)] [true] rfl ⟨rfl, rfl, trivial⟩
 refine f_seq ?_
 refine f_region ?_
 refine lv S (rn_assign rfl) rfl ?_; clear S; intro a S
 refine l_done ?_
 replace S := S.nk [.blk b_p_s [v_p_s_L, .int .i64 p_s_at] 25] [(0, .pointer (some ⟨b_p_s, 0, none⟩)), (1, .int .i64 p_many)] [true] rfl ⟨rfl, rfl, trivial⟩
 refine then_n ?_
 refine f_seq ?_
 refine f_region ?_
 refine lv S (rn_assign rfl) rfl ?_; clear S; intro a S
 replace S := S.nil 34 4
 refine l_done ?_
 replace S := S.nk [.own (.slice none 0 0) 34 4 ([] : List GMark).length (([] : List GMark).flatMap GMark.enc), .blk b_p_s [v_p_s_L, .int .i64 p_s_at] 25] [(0, .pointer (some ⟨b_p_s, 0, none⟩)), (1, .int .i64 p_many), (5, (.slice none 0 0))] [true, true] rfl ⟨rfl, rfl, rfl, trivial⟩
 refine then_n ?_
 refine f_seq ?_
 refine f_seq ?_
 refine f_region ?_
 refine lv S (rn_move (S.tm rfl)) rfl ?_; clear S; intro a S
 refine lv S (rn_move rfl) rfl ?_; clear S; intro a S
 refine l_done ?_
 replace S := S.nk [.own (.slice none 0 0) 34 4 ([] : List GMark).length (([] : List GMark).flatMap GMark.enc), .blk b_p_s [v_p_s_L, .int .i64 p_s_at] 25] [(0, .pointer (some ⟨b_p_s, 0, none⟩)), (5, (.slice none 0 0)), (7, .int .i64 p_many), (8, .int .i64 0)] [true, true] rfl ⟨rfl, rfl, rfl, rfl, trivial⟩
 refine then_n ?_
 obtain ⟨j1, hj1, h⟩ := joinE h
 refine f_join (fun a w' => ∃ x1 : List GMark, ∃ x2 : Int, ∃ v1 : Value, j1 x1 x2 = some r ∧ Sx w [b_p_s] nov [.own v1 34 4 x1.length (x1.flatMap GMark.enc), .blk b_p_s [v_p_s_L, .int .i64 x2] 25] [(5, v1)] 48 a w') ?_ ?_
 ·refine wp_block ?_
  refine f_loop (fun (m1 : Nat) a w' => ∃ x1 : List GMark, ∃ x2 : Int, ∃ x3 : Int, ∃ v1 : Value, Stream_Marks_l1 p_many p_s_L j1 m1 x1 x2 x3 = some r ∧ Sx w [b_p_s] nov [.own v1 34 4 x1.length (x1.flatMap GMark.enc), .blk b_p_s [v_p_s_L, .int .i64 x2] 25] [(0, .pointer (some ⟨b_p_s, 0, none⟩)), (5, v1), (7, .int .i64 p_many), (8, .int .i64 x3)] 48 a w') id ((p_many - 0).toNat + 2) ⟨([] : List GMark), p_s_at, 0, (.slice none 0 0), h, S.nf [true, true] rfl ⟨rfl, rfl, rfl, rfl, trivial⟩⟩ ?_
  clear S h; rintro m1 a w1 ⟨x1, x2, x3, v1, h, S⟩
  cases m1 with
  | zero => rw [Stream_Marks_l1.eq_1] at h; cases h
  | succ m1 =>
   rw [Stream_Marks_l1.eq_2] at h
   refine f_seq ?_
   refine f_region ?_
   refine lv S (rn_lss (S.tm rfl) (S.tm rfl)) rfl ?_; clear S; intro a S
   refine l_done ?_
   replace S := S.nk [.own v1 34 4 x1.length (x1.flatMap GMark.enc), .blk b_p_s [v_p_s_L, .int .i64 x2] 25] [(0, .pointer (some ⟨b_p_s, 0, none⟩)), (5, v1), (7, .int .i64 p_many), (8, .int .i64 x3), (9, .bool (decide (x3 < p_many)))] [true, true] rfl ⟨rfl, rfl, rfl, rfl, rfl, trivial⟩
   refine then_n ?_
   refine f_seq ?_
   refine f_cond (S.tm rfl) (fun hb1 => ?_) (fun hb1 => ?_)
   ·replace h := iteT h hb1
    refine wp_skip ?_
    refine then_n ?_
    refine f_seq ?_
    refine wp_block ?_
    refine f_seq ?_
    refine f_region ?_
    refine lv S (rn_move (S.tm rfl)) rfl ?_; clear S; intro a S
    refine l_buildSlice S Tryd.underlying52 Tryd.sizeOf9 Tryd.zeroValue9 rfl rfl (pv := [(0, .string k_ann), (1, .string k_ann), (2, .string k_bea)]) ⟨rfl, rfl, rfl, rfl, rfl, rfl, trivial⟩ (cs := [.string k_ann, .string k_ann, .string k_bea]) (by kernel_rfl) rfl ?_; clear S; intro a w3 b1 hz1 hk1 S
    obtain ⟨r1, hr1, h⟩ := bindE h
    refine l_enter1 2 S (b := b_p_s) rfl rfl (fun _ => .blk b_p_s [v_p_s_L, .int .i64 r1.2] 25) (fun _ => run_call (vs := [.pointer (some ⟨b_p_s, 0, none⟩), .slice (some ⟨b1, 0, none⟩) 3 3]) ⟨(S.tm rfl), (S.tm rfl), trivial⟩ Tryd.call7) (Stream_Some_ok _ b_p_s v_p_s_L p_s_L (hs_p_s_L.mono (S.le_arg (fp_sub (i := 2) (e := .blk b_p_s [v_p_s_L, .int .i64 x2] 25) rfl))) x2 (S.holds _ (List.mem_of_getElem? (i := 2) rfl)) (.slice (some ⟨b1, 0, none⟩) 3 3) [k_ann, k_ann, k_bea] (lit_slcT enc_str S (i := 0) rfl rfl rfl rfl ((ne_fp (i := 2) (j := 0) (e := .blk b_p_s [v_p_s_L, .int .i64 x2] 25) (e' := .blk b1 [.string k_ann, .string k_ann, .string k_bea] 9) S rfl rfl rfl) _ rfl)) _ hr1) rfl (fun _ _ _ h => ⟨h.1, fun _ hc => by cases hc; rfl⟩) ?_; clear S; intro v2 a w4 hv1 hk2 hn1 S
    replace hv1 := hv1.2
    subst hv1
    refine lv S (rn_move (S.tm rfl)) rfl ?_; clear S; intro a S
    refine l_buildSlice S Tryd.underlying52 Tryd.sizeOf9 Tryd.zeroValue9 rfl rfl (pv := [(0, .string k_ra), (1, .string k_ra), (2, .string k_rb)]) ⟨rfl, rfl, rfl, rfl, rfl, rfl, trivial⟩ (cs := [.string k_ra, .string k_ra, .string k_rb]) (by kernel_rfl) rfl ?_; clear S; intro a w5 b2 hz2 hk3 S
    obtain ⟨r2, hr2, h⟩ := bindE h
    refine l_enter1 3 S (b := b_p_s) rfl rfl (fun _ => .blk b_p_s [v_p_s_L, .int .i64 r2.2] 25) (fun _ => run_call (vs := [.pointer (some ⟨b_p_s, 0, none⟩), .slice (some ⟨b2, 0, none⟩) 3 3]) ⟨(S.tm rfl), (S.tm rfl), trivial⟩ Tryd.call7) (Stream_Some_ok _ b_p_s v_p_s_L p_s_L (hs_p_s_L.mono (S.le_arg (fp_sub (i := 3) (e := .blk b_p_s [v_p_s_L, .int .i64 r1.2] 25) rfl))) r1.2 (S.holds _ (List.mem_of_getElem? (i := 3) rfl)) (.slice (some ⟨b2, 0, none⟩) 3 3) [k_ra, k_ra, k_rb] (lit_slcT enc_str S (i := 0) rfl rfl rfl rfl ((ne_fp (i := 3) (j := 0) (e := .blk b_p_s [v_p_s_L, .int .i64 r1.2] 25) (e' := .blk b2 [.string k_ra, .string k_ra, .string k_rb] 9) S rfl rfl rfl) _ rfl)) _ hr2) rfl (fun _ _ _ h => ⟨h.1, fun _ hc => by cases hc; rfl⟩) ?_; clear S; intro v3 a w6 hv2 hk4 hn2 S
    replace hv2 := hv2.2
    subst hv2
    refine lv S (rn_move (S.tm rfl)) rfl ?_; clear S; intro a S
    obtain ⟨r3, hr3, h⟩ := bindE h
    refine l_enter1 3 S (b := b_p_s) rfl rfl (fun _ => .blk b_p_s [v_p_s_L, .int .i64 r3.2] 25) (fun _ => run_call (vs := [.pointer (some ⟨b_p_s, 0, none⟩), .int .i64 0, .int .i64 10]) ⟨(S.tm rfl), rfl, rfl, trivial⟩ Tryd.call5) (Stream_Range_ok _ b_p_s v_p_s_L p_s_L (hs_p_s_L.mono (S.le_arg (fp_sub (i := 3) (e := .blk b_p_s [v_p_s_L, .int .i64 r2.2] 25) rfl))) r2.2 (S.holds _ (List.mem_of_getElem? (i := 3) rfl)) 0 10 _ hr3) rfl (fun _ _ _ h => ⟨h.1, fun _ hc => by cases hc; rfl⟩) ?_; clear S; intro v4 a w7 hv3 hk5 hn3 S
    replace hv3 := hv3.2
    subst hv3
    refine lv S (rn_move (S.tm rfl)) rfl ?_; clear S; intro a S
    refine l_buildSlice S Tryd.underlying22 Tryd.sizeOf3 Tryd.zeroValue3 rfl rfl (pv := [(0, .int .i64 5900), (1, .int .i64 5900), (2, .int .i64 6000), (3, .int .i64 6100)]) ⟨rfl, rfl, rfl, rfl, rfl, rfl, rfl, rfl, trivial⟩ (cs := [.int .i64 5900, .int .i64 5900, .int .i64 6000, .int .i64 6100]) (by kernel_rfl) rfl ?_; clear S; intro a w8 b3 hz3 hk6 S
    obtain ⟨r4, hr4, h⟩ := bindE h
    refine l_enter1 4 S (b := b_p_s) rfl rfl (fun _ => .blk b_p_s [v_p_s_L, .int .i64 r4.2] 25) (fun _ => run_call (vs := [.pointer (some ⟨b_p_s, 0, none⟩), .slice (some ⟨b3, 0, none⟩) 4 4]) ⟨(S.tm rfl), (S.tm rfl), trivial⟩ Tryd.call8) (Stream_Pick_ok _ b_p_s v_p_s_L p_s_L (hs_p_s_L.mono (S.le_arg (fp_sub (i := 4) (e := .blk b_p_s [v_p_s_L, .int .i64 r3.2] 25) rfl))) r3.2 (S.holds _ (List.mem_of_getElem? (i := 4) rfl)) (.slice (some ⟨b3, 0, none⟩) 4 4) [5900, 5900, 6000, 6100] (lit_slcT enc_int S (i := 0) rfl rfl rfl rfl ((ne_fp (i := 4) (j := 0) (e := .blk b_p_s [v_p_s_L, .int .i64 r3.2] 25) (e' := .blk b3 [.int .i64 5900, .int .i64 5900, .int .i64 6000, .int .i64 6100] 3) S rfl rfl rfl) _ rfl)) _ hr4) rfl (fun _ _ _ h => ⟨h.1, fun _ hc => by cases hc; rfl⟩) ?_; clear S; intro v5 a w9 hv4 hk7 hn4 S
    replace hv4 := hv4.2
    subst hv4
    refine lv S (rn_bld bt_34 (pv := [(0, .string r1.1), (1, .string r2.1), (2, .int .i64 r3.1), (3, .int .i64 r4.1)]) ⟨rfl, (S.tm rfl), rfl, (S.tm rfl), rfl, (S.tm rfl), rfl, (S.tm rfl), trivial⟩ (cs := [.string r1.1, .string r2.1, .int .i64 r3.1, .int .i64 r4.1]) (by kernel_rfl)) rfl ?_; clear S; intro a S
    refine l_alloc S Tryd.zeroValue34 (cs := [.string k_empty, .string k_empty, .int .i64 0, .int .i64 0]) rfl rfl ?_; clear S; intro a w10 b4 hz4 hk8 S
    refine l_store S (S.tm rfl) (S.tm rfl) (i := 0) (off := 0) rfl Tryd.sizeOf34 (vs := [.string r1.1, .string r2.1, .int .i64 r3.1, .int .i64 r4.1]) rfl rfl rfl rfl ?_; clear S; intro w11 hk9 S
    refine l_done ?_
    replace S := S.nk [.blk b4 [.string r1.1, .string r2.1, .int .i64 r3.1, .int .i64 r4.1] 34, .own v1 34 4 x1.length (x1.flatMap GMark.enc), .blk b_p_s [v_p_s_L, .int .i64 r4.2] 25] [(0, .pointer (some ⟨b_p_s, 0, none⟩)), (5, v1), (6, .pointer (some ⟨b4, 0, none⟩)), (7, .int .i64 p_many), (8, .int .i64 x3)] [true, false, false, false, true, true] rfl ⟨rfl, rfl, rfl, rfl, rfl, trivial⟩
    refine then_n ?_
    refine f_seq ?_
    refine f_seq ?_
    refine f_region ?_
    refine lv S (rn_move (S.tm rfl)) rfl ?_; clear S; intro a S
    obtain ⟨r5, hr5, h⟩ := bindE h
    refine l_enter1 2 S (b := b_p_s) rfl rfl (fun _ => .blk b_p_s [v_p_s_L, .int .i64 r5.2] 25) (fun _ => run_call (vs := [.pointer (some ⟨b_p_s, 0, none⟩), .int .i64 80]) ⟨(S.tm rfl), rfl, trivial⟩ Tryd.call21) (Stream_Flip_ok _ b_p_s v_p_s_L p_s_L (hs_p_s_L.mono (S.le_arg (fp_sub (i := 2) (e := .blk b_p_s [v_p_s_L, .int .i64 r4.2] 25) rfl))) r4.2 (S.holds _ (List.mem_of_getElem? (i := 2) rfl)) 80 _ hr5) rfl (fun _ _ _ h => ⟨h.1, fun _ hc => by cases hc; rfl⟩) ?_; clear S; intro v6 a w12 hv5 hk10 hn5 S
    replace hv5 := hv5.2
    subst hv5
    refine l_done ?_
    replace S := S.nk [.blk b4 [.string r1.1, .string r2.1, .int .i64 r3.1, .int .i64 r4.1] 34, .own v1 34 4 x1.length (x1.flatMap GMark.enc), .blk b_p_s [v_p_s_L, .int .i64 r5.2] 25] [(0, .pointer (some ⟨b_p_s, 0, none⟩)), (5, v1), (6, .pointer (some ⟨b4, 0, none⟩)), (7, .int .i64 p_many), (8, .int .i64 x3), (23, .bool r5.1)] [true, true, true] rfl ⟨rfl, rfl, rfl, rfl, rfl, rfl, trivial⟩
    refine then_n ?_
    obtain ⟨j2, hj2, h⟩ := joinE h
    refine f_join (fun a w' => ∃ x4 : ByteArray, ∃ x5 : ByteArray, ∃ x6 : Int, ∃ x7 : Int, ∃ x8 : Int, j2 x4 x5 x6 x7 x8 = some r ∧ Sx w [b_p_s] nov [.blk b4 [.string x4, .string x5, .int .i64 x6, .int .i64 x7] 34, .own v1 34 4 x1.length (x1.flatMap GMark.enc), .blk b_p_s [v_p_s_L, .int .i64 x8] 25] [(0, .pointer (some ⟨b_p_s, 0, none⟩)), (5, v1), (6, .pointer (some ⟨b4, 0, none⟩)), (7, .int .i64 p_many), (8, .int .i64 x3)] 48 a w') ?_ ?_
    ·refine f_cond (S.tm rfl) (fun hb2 => ?_) (fun hb2 => ?_)
     ·replace h := iteT h hb2
      obtain ⟨j3, hj3, h⟩ := joinE h
      refine f_join (fun a w' => ∃ x9 : ByteArray, ∃ x10 : ByteArray, ∃ x11 : Int, ∃ x12 : Int, ∃ x13 : Int, j3 x9 x10 x11 x12 x13 = some r ∧ Sx w [b_p_s] nov [.blk b4 [.string x9, .string x10, .int .i64 x11, .int .i64 x12] 34, .own v1 34 4 x1.length (x1.flatMap GMark.enc), .blk b_p_s [v_p_s_L, .int .i64 x13] 25] [(0, .pointer (some ⟨b_p_s, 0, none⟩)), (5, v1), (6, .pointer (some ⟨b4, 0, none⟩)), (7, .int .i64 p_many), (8, .int .i64 x3)] 48 a w') ?_ ?_
      ·obtain ⟨r6, hr6, h⟩ := bindE h
       obtain ⟨r7, hr7, h⟩ := bindE h
       obtain ⟨r8, hr8, h⟩ := bindE h
       obtain ⟨r9, hr9, h⟩ := bindE h
       refine d_region [15, 17, 19, 21] ([b_p_s]) Tryd.mixed S rfl (by kernel_rfl) ?_; clear S; intro w25 hk21 hsel S
       refine d_pure 0 S hsel rfl rfl (by kernel_rfl) (by kernel_rfl) rfl (fun _ => (rn_move (S.tm rfl))) ?_; clear S; intro a S
       refine d_pure 1 S hsel rfl rfl (by kernel_rfl) (by kernel_rfl) rfl (fun _ => (rn_fld fa_34_0 (S.tm rfl))) ?_; clear S; intro a S
       refine d_quiet 2 S hsel rfl (by kernel_rfl) (by kernel_rfl) (by kernel_rfl) (by kernel_rfl) rfl (fun _ hw => (rn_ld Tryd.isAgg9 (off := 0) (o := 0) (S.tm rfl) ((S.blk_mem (i := 0) (cells := [.string r1.1, .string r2.1, .int .i64 r3.1, .int .i64 r4.1]) (b := b4) (T := 34) rfl (ne_fp (i := 2) (j := 0) (e := .blk b_p_s [v_p_s_L, .int .i64 r5.2] 25) (e' := .blk b4 [.string r1.1, .string r2.1, .int .i64 r3.1, .int .i64 r4.1] 34) S rfl rfl rfl)).kept hw) rfl)) ?_; clear S; intro a S
       refine d_pure 5 S hsel rfl rfl (by kernel_rfl) (by kernel_rfl) rfl (fun _ => (rn_move (S.tm rfl))) ?_; clear S; intro a S
       refine d_pure 6 S hsel rfl rfl (by kernel_rfl) (by kernel_rfl) rfl (fun _ => (rn_fld fa_34_1 (S.tm rfl))) ?_; clear S; intro a S
       refine d_quiet 7 S hsel rfl (by kernel_rfl) (by kernel_rfl) (by kernel_rfl) (by kernel_rfl) rfl (fun _ hw => (rn_ld Tryd.isAgg9 (off := 0) (o := 1) (S.tm rfl) ((S.blk_mem (i := 0) (cells := [.string r1.1, .string r2.1, .int .i64 r3.1, .int .i64 r4.1]) (b := b4) (T := 34) rfl (ne_fp (i := 2) (j := 0) (e := .blk b_p_s [v_p_s_L, .int .i64 r5.2] 25) (e' := .blk b4 [.string r1.1, .string r2.1, .int .i64 r3.1, .int .i64 r4.1] 34) S rfl rfl rfl)).kept hw) rfl)) ?_; clear S; intro a S
       refine d_pure 10 S hsel rfl rfl (by kernel_rfl) (by kernel_rfl) rfl (fun _ => (rn_move (S.tm rfl))) ?_; clear S; intro a S
       refine d_pure 12 S hsel rfl rfl (by kernel_rfl) (by kernel_rfl) rfl (fun _ => (rn_move (S.tm rfl))) ?_; clear S; intro a S
       refine d_loud2 3 8 (by kernel_rfl) rfl rfl ?_ ?_
       ·refine l_buildSlice S Tryd.underlying52 Tryd.sizeOf9 Tryd.zeroValue9 rfl rfl (pv := [(0, .string r1.1), (1, .string k_empty)]) ⟨rfl, (S.tm rfl), rfl, rfl, trivial⟩ (cs := [.string r1.1, .string k_empty]) (by kernel_rfl) rfl ?_; clear S; intro a w26 b7 hz7 hk22 S
        refine l_done ?_
        refine d_next (Keep.none hk22) ?_
        refine d_loud2 4 8 (by kernel_rfl) rfl rfl ?_ ?_
        ·refine l_enter1 3 S (b := b_p_s) rfl rfl (fun _ => .blk b_p_s [v_p_s_L, .int .i64 r6.2] 25) (fun _ => run_call (vs := [.pointer (some ⟨b_p_s, 0, none⟩), .slice (some ⟨b7, 0, none⟩) 2 2]) ⟨(S.tm rfl), (S.tm rfl), trivial⟩ Tryd.call7) (Stream_Some_ok _ b_p_s v_p_s_L p_s_L (hs_p_s_L.mono (S.le_arg (fp_sub (i := 3) (e := .blk b_p_s [v_p_s_L, .int .i64 r5.2] 25) rfl))) r5.2 (S.holds _ (List.mem_of_getElem? (i := 3) rfl)) (.slice (some ⟨b7, 0, none⟩) 2 2) [r1.1, k_empty] (lit_slcT enc_str S (i := 0) rfl rfl rfl rfl ((ne_fp (i := 3) (j := 0) (e := .blk b_p_s [v_p_s_L, .int .i64 r5.2] 25) (e' := .blk b7 [.string r1.1, .string k_empty] 9) S rfl rfl rfl) _ rfl)) _ hr6) rfl (fun _ _ _ h => ⟨h.1, fun _ hc => by cases hc; rfl⟩) ?_; clear S; intro v11 a w27 hv10 hk23 hn10 S
         replace hv10 := hv10.2
         subst hv10
         refine l_done ?_
         refine d_next hk23 ?_
         refine d_pure 14 S hsel rfl rfl (by kernel_rfl) (by kernel_rfl) rfl (fun _ => (rn_fld fa_34_0 (S.tm rfl))) ?_; clear S; intro a S
         refine d_loud1 8 (by kernel_rfl) rfl ?_
         refine l_buildSlice S Tryd.underlying52 Tryd.sizeOf9 Tryd.zeroValue9 rfl rfl (pv := [(0, .string r2.1), (1, .string k_A)]) ⟨rfl, (S.tm rfl), rfl, rfl, trivial⟩ (cs := [.string r2.1, .string k_A]) (by kernel_rfl) rfl ?_; clear S; intro a w28 b8 hz8 hk24 S
         refine l_done ?_
         refine d_next (Keep.none hk24) ?_
         refine d_loud1 9 (by kernel_rfl) rfl ?_
         refine l_enter1 4 S (b := b_p_s) rfl rfl (fun _ => .blk b_p_s [v_p_s_L, .int .i64 r7.2] 25) (fun _ => run_call (vs := [.pointer (some ⟨b_p_s, 0, none⟩), .slice (some ⟨b8, 0, none⟩) 2 2]) ⟨(S.tm rfl), (S.tm rfl), trivial⟩ Tryd.call7) (Stream_Some_ok _ b_p_s v_p_s_L p_s_L (hs_p_s_L.mono (S.le_arg (fp_sub (i := 4) (e := .blk b_p_s [v_p_s_L, .int .i64 r6.2] 25) rfl))) r6.2 (S.holds _ (List.mem_of_getElem? (i := 4) rfl)) (.slice (some ⟨b8, 0, none⟩) 2 2) [r2.1, k_A] (lit_slcT enc_str S (i := 0) rfl rfl rfl rfl ((ne_fp (i := 4) (j := 0) (e := .blk b_p_s [v_p_s_L, .int .i64 r6.2] 25) (e' := .blk b8 [.string r2.1, .string k_A] 9) S rfl rfl rfl) _ rfl)) _ hr7) rfl (fun _ _ _ h => ⟨h.1, fun _ hc => by cases hc; rfl⟩) ?_; clear S; intro v12 a w29 hv11 hk25 hn11 S
         replace hv11 := hv11.2
         subst hv11
         refine l_done ?_
         refine d_next hk25 ?_
         refine d_loud1 11 (by kernel_rfl) rfl ?_
         refine l_enter1 4 S (b := b_p_s) rfl rfl (fun _ => .blk b_p_s [v_p_s_L, .int .i64 r8.2] 25) (fun _ => run_call (vs := [.pointer (some ⟨b_p_s, 0, none⟩), .int .i64 (-40000), .int .i64 4000]) ⟨(S.tm rfl), rfl, rfl, trivial⟩ Tryd.call22) (Stream_Odd_ok _ b_p_s v_p_s_L p_s_L (hs_p_s_L.mono (S.le_arg (fp_sub (i := 4) (e := .blk b_p_s [v_p_s_L, .int .i64 r7.2] 25) rfl))) r7.2 (S.holds _ (List.mem_of_getElem? (i := 4) rfl)) (-40000) 4000 _ hr8) rfl (fun _ _ _ h => ⟨h.1, fun _ hc => by cases hc; rfl⟩) ?_; clear S; intro v13 a w30 hv12 hk26 hn12 S
         replace hv12 := hv12.2
         subst hv12
         refine l_done ?_
         refine d_next hk26 ?_
         refine d_loud1 13 (by kernel_rfl) rfl ?_
         refine l_enter1 4 S (b := b_p_s) rfl rfl (fun _ => .blk b_p_s [v_p_s_L, .int .i64 r9.2] 25) (fun _ => run_call (vs := [.pointer (some ⟨b_p_s, 0, none⟩), .int .i64 1, .int .i64 360000]) ⟨(S.tm rfl), rfl, rfl, trivial⟩ Tryd.call22) (Stream_Odd_ok _ b_p_s v_p_s_L p_s_L (hs_p_s_L.mono (S.le_arg (fp_sub (i := 4) (e := .blk b_p_s [v_p_s_L, .int .i64 r8.2] 25) rfl))) r8.2 (S.holds _ (List.mem_of_getElem? (i := 4) rfl)) 1 360000 _ hr9) rfl (fun _ _ _ h => ⟨h.1, fun _ hc => by cases hc; rfl⟩) ?_; clear S; intro v14 a w31 hv13 hk27 hn13 S
         replace hv13 := hv13.2
         subst hv13
         refine l_done ?_
         refine d_next hk27 ?_
         refine d_loudB 15 ([b_p_s] ++ [b4]) rfl (by kernel_rfl) rfl ?_
         refine l_store S (S.tm rfl) (S.tm rfl) (i := 2) (off := 0) rfl Tryd.sizeOf9 (vs := [.string r6.1]) rfl rfl rfl rfl ?_; clear S; intro w32 hk28 S
         refine l_done ?_
         refine d_nextB ?_
         refine d_quiet 16 S hsel rfl rfl rfl (by kernel_rfl) (by kernel_rfl) rfl (fun _ hw => (rn_fld fa_34_1 (S.tm rfl))) ?_; clear S; intro a S
         refine d_loud1 17 (by kernel_rfl) rfl ?_
         refine l_store S (S.tm rfl) (S.tm rfl) (i := 2) (off := 1) rfl Tryd.sizeOf9 (vs := [.string r7.1]) rfl rfl rfl rfl ?_; clear S; intro w33 hk29 S
         refine l_done ?_
         refine d_next (hk29.sub (by intro y hy; simp at hy ⊢; simp [hy])) ?_
         refine d_quiet 18 S hsel rfl rfl rfl (by kernel_rfl) (by kernel_rfl) rfl (fun _ hw => (rn_fld fa_34_2 (S.tm rfl))) ?_; clear S; intro a S
         refine d_loud1 19 (by kernel_rfl) rfl ?_
         refine l_store S (S.tm rfl) (S.tm rfl) (i := 2) (off := 2) rfl Tryd.sizeOf3 (vs := [.int .i64 r8.1]) rfl rfl rfl rfl ?_; clear S; intro w34 hk30 S
         refine l_done ?_
         refine d_next (hk30.sub (by intro y hy; simp at hy ⊢; simp [hy])) ?_
         refine d_quiet 20 S hsel rfl rfl rfl (by kernel_rfl) (by kernel_rfl) rfl (fun _ hw => (rn_fld fa_34_3 (S.tm rfl))) ?_; clear S; intro a S
         refine d_loud1 21 (by kernel_rfl) rfl ?_
         refine l_store S (S.tm rfl) (S.tm rfl) (i := 2) (off := 3) rfl Tryd.sizeOf3 (vs := [.int .i64 r9.1]) rfl rfl rfl rfl ?_; clear S; intro w35 hk31 S
         refine l_done ?_
         refine d_next (hk31.sub (by intro y hy; simp at hy ⊢; simp [hy])) ?_
         refine d_end (by kernel_rfl) ?_
         clear hsel
         replace S := S.nk [.blk b4 [.string r6.1, .string r7.1, .int .i64 r8.1, .int .i64 r9.1] 34, .own v1 34 4 x1.length (x1.flatMap GMark.enc), .blk b_p_s [v_p_s_L, .int .i64 r9.2] 25] [(0, .pointer (some ⟨b_p_s, 0, none⟩)), (5, v1), (6, .pointer (some ⟨b4, 0, none⟩)), (7, .int .i64 p_many), (8, .int .i64 x3)] [false, false, true, true, true] rfl ⟨rfl, rfl, rfl, rfl, rfl, trivial⟩
         refine then_n ?_
         exact ⟨r6.1, r7.1, r8.1, r9.1, r9.2, h, S.nf [true, true, true] rfl ⟨rfl, rfl, rfl, rfl, rfl, trivial⟩⟩
        ·refine l_buildSlice S Tryd.underlying52 Tryd.sizeOf9 Tryd.zeroValue9 rfl rfl (pv := [(0, .string r2.1), (1, .string k_A)]) ⟨rfl, (S.tm rfl), rfl, rfl, trivial⟩ (cs := [.string r2.1, .string k_A]) (by kernel_rfl) rfl ?_; clear S; intro a w36 b9 hz9 hk32 S
         refine l_done ?_
         refine d_next (Keep.none hk32) ?_
         refine d_loud1 4 (by kernel_rfl) rfl ?_
         refine l_enter1 4 S (b := b_p_s) rfl rfl (fun _ => .blk b_p_s [v_p_s_L, .int .i64 r6.2] 25) (fun _ => run_call (vs := [.pointer (some ⟨b_p_s, 0, none⟩), .slice (some ⟨b7, 0, none⟩) 2 2]) ⟨(S.tm rfl), (S.tm rfl), trivial⟩ Tryd.call7) (Stream_Some_ok _ b_p_s v_p_s_L p_s_L (hs_p_s_L.mono (S.le_arg (fp_sub (i := 4) (e := .blk b_p_s [v_p_s_L, .int .i64 r5.2] 25) rfl))) r5.2 (S.holds _ (List.mem_of_getElem? (i := 4) rfl)) (.slice (some ⟨b7, 0, none⟩) 2 2) [r1.1, k_empty] (lit_slcT enc_str S (i := 1) rfl rfl rfl rfl ((ne_fp (i := 4) (j := 1) (e := .blk b_p_s [v_p_s_L, .int .i64 r5.2] 25) (e' := .blk b7 [.string r1.1, .string k_empty] 9) S rfl rfl rfl) _ rfl)) _ hr6) rfl (fun _ _ _ h => ⟨h.1, fun _ hc => by cases hc; rfl⟩) ?_; clear S; intro v15 a w37 hv14 hk33 hn14 S
         replace hv14 := hv14.2
         subst hv14
         refine l_done ?_
         refine d_next hk33 ?_
         refine d_pure 14 S hsel rfl rfl (by kernel_rfl) (by kernel_rfl) rfl (fun _ => (rn_fld fa_34_0 (S.tm rfl))) ?_; clear S; intro a S
         refine d_loud1 9 (by kernel_rfl) rfl ?_
         refine l_enter1 4 S (b := b_p_s) rfl rfl (fun _ => .blk b_p_s [v_p_s_L, .int .i64 r7.2] 25) (fun _ => run_call (vs := [.pointer (some ⟨b_p_s, 0, none⟩), .slice (some ⟨b9, 0, none⟩) 2 2]) ⟨(S.tm rfl), (S.tm rfl), trivial⟩ Tryd.call7) (Stream_Some_ok _ b_p_s v_p_s_L p_s_L (hs_p_s_L.mono (S.le_arg (fp_sub (i := 4) (e := .blk b_p_s [v_p_s_L, .int .i64 r6.2] 25) rfl))) r6.2 (S.holds _ (List.mem_of_getElem? (i := 4) rfl)) (.slice (some ⟨b9, 0, none⟩) 2 2) [r2.1, k_A] (lit_slcT enc_str S (i := 0) rfl rfl rfl rfl ((ne_fp (i := 4) (j := 0) (e := .blk b_p_s [v_p_s_L, .int .i64 r6.2] 25) (e' := .blk b9 [.string r2.1, .string k_A] 9) S rfl rfl rfl) _ rfl)) _ hr7) rfl (fun _ _ _ h => ⟨h.1, fun _ hc => by cases hc; rfl⟩) ?_; clear S; intro v16 a w38 hv15 hk34 hn15 S
         replace hv15 := hv15.2
         subst hv15
         refine l_done ?_
         refine d_next hk34 ?_
         refine d_loud1 11 (by kernel_rfl) rfl ?_
         refine l_enter1 4 S (b := b_p_s) rfl rfl (fun _ => .blk b_p_s [v_p_s_L, .int .i64 r8.2] 25) (fun _ => run_call (vs := [.pointer (some ⟨b_p_s, 0, none⟩), .int .i64 (-40000), .int .i64 4000]) ⟨(S.tm rfl), rfl, rfl, trivial⟩ Tryd.call22) (Stream_Odd_ok _ b_p_s v_p_s_L p_s_L (hs_p_s_L.mono (S.le_arg (fp_sub (i := 4) (e := .blk b_p_s [v_p_s_L, .int .i64 r7.2] 25) rfl))) r7.2 (S.holds _ (List.mem_of_getElem? (i := 4) rfl)) (-40000) 4000 _ hr8) rfl (fun _ _ _ h => ⟨h.1, fun _ hc => by cases hc; rfl⟩) ?_; clear S; intro v17 a w39 hv16 hk35 hn16 S
         replace hv16 := hv16.2
         subst hv16
         refine l_done ?_
         refine d_next hk35 ?_
         refine d_loud1 13 (by kernel_rfl) rfl ?_
         refine l_enter1 4 S (b := b_p_s) rfl rfl (fun _ => .blk b_p_s [v_p_s_L, .int .i64 r9.2] 25) (fun _ => run_call (vs := [.pointer (some ⟨b_p_s, 0, none⟩), .int .i64 1, .int .i64 360000]) ⟨(S.tm rfl), rfl, rfl, trivial⟩ Tryd.call22) (Stream_Odd_ok _ b_p_s v_p_s_L p_s_L (hs_p_s_L.mono (S.le_arg (fp_sub (i := 4) (e := .blk b_p_s [v_p_s_L, .int .i64 r8.2] 25) rfl))) r8.2 (S.holds _ (List.mem_of_getElem? (i := 4) rfl)) 1 360000 _ hr9) rfl (fun _ _ _ h => ⟨h.1, fun _ hc => by cases hc; rfl⟩) ?_; clear S; intro v18 a w40 hv17 hk36 hn17 S
         replace hv17 := hv17.2
         subst hv17
         refine l_done ?_
         refine d_next hk36 ?_
         refine d_loudB 15 ([b_p_s] ++ [b4]) rfl (by kernel_rfl) rfl ?_
         refine l_store S (S.tm rfl) (S.tm rfl) (i := 2) (off := 0) rfl Tryd.sizeOf9 (vs := [.string r6.1]) rfl rfl rfl rfl ?_; clear S; intro w41 hk37 S
         refine l_done ?_
         refine d_nextB ?_
         refine d_quiet 16 S hsel rfl rfl rfl (by kernel_rfl) (by kernel_rfl) rfl (fun _ hw => (rn_fld fa_34_1 (S.tm rfl))) ?_; clear S; intro a S
         refine d_loud1 17 (by kernel_rfl) rfl ?_
         refine l_store S (S.tm rfl) (S.tm rfl) (i := 2) (off := 1) rfl Tryd.sizeOf9 (vs := [.string r7.1]) rfl rfl rfl rfl ?_; clear S; intro w42 hk38 S
         refine l_done ?_
         refine d_next (hk38.sub (by intro y hy; simp at hy ⊢; simp [hy])) ?_
         refine d_quiet 18 S hsel rfl rfl rfl (by kernel_rfl) (by kernel_rfl) rfl (fun _ hw => (rn_fld fa_34_2 (S.tm rfl))) ?_; clear S; intro a S
         refine d_loud1 19 (by kernel_rfl) rfl ?_
         refine l_store S (S.tm rfl) (S.tm rfl) (i := 2) (off := 2) rfl Tryd.sizeOf3 (vs := [.int .i64 r8.1]) rfl rfl rfl rfl ?_; clear S; intro w43 hk39 S
         refine l_done ?_
         refine d_next (hk39.sub (by intro y hy; simp at hy ⊢; simp [hy])) ?_
         refine d_quiet 20 S hsel rfl rfl rfl (by kernel_rfl) (by kernel_rfl) rfl (fun _ hw => (rn_fld fa_34_3 (S.tm rfl))) ?_; clear S; intro a S
         refine d_loud1 21 (by kernel_rfl) rfl ?_
         refine l_store S (S.tm rfl) (S.tm rfl) (i := 2) (off := 3) rfl Tryd.sizeOf3 (vs := [.int .i64 r9.1]) rfl rfl rfl rfl ?_; clear S; intro w44 hk40 S
         refine l_done ?_
         refine d_next (hk40.sub (by intro y hy; simp at hy ⊢; simp [hy])) ?_
         refine d_end (by kernel_rfl) ?_
         clear hsel
         replace S := S.nk [.blk b4 [.string r6.1, .string r7.1, .int .i64 r8.1, .int .i64 r9.1] 34, .own v1 34 4 x1.length (x1.flatMap GMark.enc), .blk b_p_s [v_p_s_L, .int .i64 r9.2] 25] [(0, .pointer (some ⟨b_p_s, 0, none⟩)), (5, v1), (6, .pointer (some ⟨b4, 0, none⟩)), (7, .int .i64 p_many), (8, .int .i64 x3)] [false, false, true, true, true] rfl ⟨rfl, rfl, rfl, rfl, rfl, trivial⟩
         refine then_n ?_
         exact ⟨r6.1, r7.1, r8.1, r9.1, r9.2, h, S.nf [true, true, true] rfl ⟨rfl, rfl, rfl, rfl, rfl, trivial⟩⟩
       ·refine l_buildSlice S Tryd.underlying52 Tryd.sizeOf9 Tryd.zeroValue9 rfl rfl (pv := [(0, .string r2.1), (1, .string k_A)]) ⟨rfl, (S.tm rfl), rfl, rfl, trivial⟩ (cs := [.string r2.1, .string k_A]) (by kernel_rfl) rfl ?_; clear S; intro a w45 b10 hz10 hk41 S
        refine l_done ?_
        refine d_next (Keep.none hk41) ?_
        refine d_loud1 3 (by kernel_rfl) rfl ?_
        refine l_buildSlice S Tryd.underlying52 Tryd.sizeOf9 Tryd.zeroValue9 rfl rfl (pv := [(0, .string r1.1), (1, .string k_empty)]) ⟨rfl, (S.tm rfl), rfl, rfl, trivial⟩ (cs := [.string r1.1, .string k_empty]) (by kernel_rfl) rfl ?_; clear S; intro a w46 b11 hz11 hk42 S
        refine l_done ?_
        refine d_next (Keep.none hk42) ?_
        refine d_loud1 4 (by kernel_rfl) rfl ?_
        refine l_enter1 4 S (b := b_p_s) rfl rfl (fun _ => .blk b_p_s [v_p_s_L, .int .i64 r6.2] 25) (fun _ => run_call (vs := [.pointer (some ⟨b_p_s, 0, none⟩), .slice (some ⟨b11, 0, none⟩) 2 2]) ⟨(S.tm rfl), (S.tm rfl), trivial⟩ Tryd.call7) (Stream_Some_ok _ b_p_s v_p_s_L p_s_L (hs_p_s_L.mono (S.le_arg (fp_sub (i := 4) (e := .blk b_p_s [v_p_s_L, .int .i64 r5.2] 25) rfl))) r5.2 (S.holds _ (List.mem_of_getElem? (i := 4) rfl)) (.slice (some ⟨b11, 0, none⟩) 2 2) [r1.1, k_empty] (lit_slcT enc_str S (i := 0) rfl rfl rfl rfl ((ne_fp (i := 4) (j := 0) (e := .blk b_p_s [v_p_s_L, .int .i64 r5.2] 25) (e' := .blk b11 [.string r1.1, .string k_empty] 9) S rfl rfl rfl) _ rfl)) _ hr6) rfl (fun _ _ _ h => ⟨h.1, fun _ hc => by cases hc; rfl⟩) ?_; clear S; intro v19 a w47 hv18 hk43 hn18 S
        replace hv18 := hv18.2
        subst hv18
        refine l_done ?_
        refine d_next hk43 ?_
        refine d_pure 14 S hsel rfl rfl (by kernel_rfl) (by kernel_rfl) rfl (fun _ => (rn_fld fa_34_0 (S.tm rfl))) ?_; clear S; intro a S
        refine d_loud1 9 (by kernel_rfl) rfl ?_
        refine l_enter1 4 S (b := b_p_s) rfl rfl (fun _ => .blk b_p_s [v_p_s_L, .int .i64 r7.2] 25) (fun _ => run_call (vs := [.pointer (some ⟨b_p_s, 0, none⟩), .slice (some ⟨b10, 0, none⟩) 2 2]) ⟨(S.tm rfl), (S.tm rfl), trivial⟩ Tryd.call7) (Stream_Some_ok _ b_p_s v_p_s_L p_s_L (hs_p_s_L.mono (S.le_arg (fp_sub (i := 4) (e := .blk b_p_s [v_p_s_L, .int .i64 r6.2] 25) rfl))) r6.2 (S.holds _ (List.mem_of_getElem? (i := 4) rfl)) (.slice (some ⟨b10, 0, none⟩) 2 2) [r2.1, k_A] (lit_slcT enc_str S (i := 1) rfl rfl rfl rfl ((ne_fp (i := 4) (j := 1) (e := .blk b_p_s [v_p_s_L, .int .i64 r6.2] 25) (e' := .blk b10 [.string r2.1, .string k_A] 9) S rfl rfl rfl) _ rfl)) _ hr7) rfl (fun _ _ _ h => ⟨h.1, fun _ hc => by cases hc; rfl⟩) ?_; clear S; intro v20 a w48 hv19 hk44 hn19 S
        replace hv19 := hv19.2
        subst hv19
        refine l_done ?_
        refine d_next hk44 ?_
        refine d_loud1 11 (by kernel_rfl) rfl ?_
        refine l_enter1 4 S (b := b_p_s) rfl rfl (fun _ => .blk b_p_s [v_p_s_L, .int .i64 r8.2] 25) (fun _ => run_call (vs := [.pointer (some ⟨b_p_s, 0, none⟩), .int .i64 (-40000), .int .i64 4000]) ⟨(S.tm rfl), rfl, rfl, trivial⟩ Tryd.call22) (Stream_Odd_ok _ b_p_s v_p_s_L p_s_L (hs_p_s_L.mono (S.le_arg (fp_sub (i := 4) (e := .blk b_p_s [v_p_s_L, .int .i64 r7.2] 25) rfl))) r7.2 (S.holds _ (List.mem_of_getElem? (i := 4) rfl)) (-40000) 4000 _ hr8) rfl (fun _ _ _ h => ⟨h.1, fun _ hc => by cases hc; rfl⟩) ?_; clear S; intro v21 a w49 hv20 hk45 hn20 S
        replace hv20 := hv20.2
        subst hv20
        refine l_done ?_
        refine d_next hk45 ?_
        refine d_loud1 13 (by kernel_rfl) rfl ?_
        refine l_enter1 4 S (b := b_p_s) rfl rfl (fun _ => .blk b_p_s [v_p_s_L, .int .i64 r9.2] 25) (fun _ => run_call (vs := [.pointer (some ⟨b_p_s, 0, none⟩), .int .i64 1, .int .i64 360000]) ⟨(S.tm rfl), rfl, rfl, trivial⟩ Tryd.call22) (Stream_Odd_ok _ b_p_s v_p_s_L p_s_L (hs_p_s_L.mono (S.le_arg (fp_sub (i := 4) (e := .blk b_p_s [v_p_s_L, .int .i64 r8.2] 25) rfl))) r8.2 (S.holds _ (List.mem_of_getElem? (i := 4) rfl)) 1 360000 _ hr9) rfl (fun _ _ _ h => ⟨h.1, fun _ hc => by cases hc; rfl⟩) ?_; clear S; intro v22 a w50 hv21 hk46 hn21 S
        replace hv21 := hv21.2
        subst hv21
        refine l_done ?_
        refine d_next hk46 ?_
        refine d_loudB 15 ([b_p_s] ++ [b4]) rfl (by kernel_rfl) rfl ?_
        refine l_store S (S.tm rfl) (S.tm rfl) (i := 2) (off := 0) rfl Tryd.sizeOf9 (vs := [.string r6.1]) rfl rfl rfl rfl ?_; clear S; intro w51 hk47 S
        refine l_done ?_
        refine d_nextB ?_
        refine d_quiet 16 S hsel rfl rfl rfl (by kernel_rfl) (by kernel_rfl) rfl (fun _ hw => (rn_fld fa_34_1 (S.tm rfl))) ?_; clear S; intro a S
        refine d_loud1 17 (by kernel_rfl) rfl ?_
        refine l_store S (S.tm rfl) (S.tm rfl) (i := 2) (off := 1) rfl Tryd.sizeOf9 (vs := [.string r7.1]) rfl rfl rfl rfl ?_; clear S; intro w52 hk48 S
        refine l_done ?_
        refine d_next (hk48.sub (by intro y hy; simp at hy ⊢; simp [hy])) ?_
        refine d_quiet 18 S hsel rfl rfl rfl (by kernel_rfl) (by kernel_rfl) rfl (fun _ hw => (rn_fld fa_34_2 (S.tm rfl))) ?_; clear S; intro a S
        refine d_loud1 19 (by kernel_rfl) rfl ?_
        refine l_store S (S.tm rfl) (S.tm rfl) (i := 2) (off := 2) rfl Tryd.sizeOf3 (vs := [.int .i64 r8.1]) rfl rfl rfl rfl ?_; clear S; intro w53 hk49 S
        refine l_done ?_
        refine d_next (hk49.sub (by intro y hy; simp at hy ⊢; simp [hy])) ?_
        refine d_quiet 20 S hsel rfl rfl rfl (by kernel_rfl) (by kernel_rfl) rfl (fun _ hw => (rn_fld fa_34_3 (S.tm rfl))) ?_; clear S; intro a S
        refine d_loud1 21 (by kernel_rfl) rfl ?_
        refine l_store S (S.tm rfl) (S.tm rfl) (i := 2) (off := 3) rfl Tryd.sizeOf3 (vs := [.int .i64 r9.1]) rfl rfl rfl rfl ?_; clear S; intro w54 hk50 S
        refine l_done ?_
        refine d_next (hk50.sub (by intro y hy; simp at hy ⊢; simp [hy])) ?_
        refine d_end (by kernel_rfl) ?_
        clear hsel
        replace S := S.nk [.blk b4 [.string r6.1, .string r7.1, .int .i64 r8.1, .int .i64 r9.1] 34, .own v1 34 4 x1.length (x1.flatMap GMark.enc), .blk b_p_s [v_p_s_L, .int .i64 r9.2] 25] [(0, .pointer (some ⟨b_p_s, 0, none⟩)), (5, v1), (6, .pointer (some ⟨b4, 0, none⟩)), (7, .int .i64 p_many), (8, .int .i64 x3)] [false, false, true, true, true] rfl ⟨rfl, rfl, rfl, rfl, rfl, trivial⟩
        refine then_n ?_
        exact ⟨r6.1, r7.1, r8.1, r9.1, r9.2, h, S.nf [true, true, true] rfl ⟨rfl, rfl, rfl, rfl, rfl, trivial⟩⟩
      clear S h; rintro a w14 ⟨x9, x10, x11, x12, x13, h, S⟩; rw [hj3] at h; clear hj3 j3
      refine then_n ?_
      exact ⟨x9, x10, x11, x12, x13, h, S.nf [true, true, true] rfl ⟨rfl, rfl, rfl, rfl, rfl, trivial⟩⟩
     ·replace h := iteF h hb2
      refine wp_skip ?_
      refine then_n ?_
      exact ⟨r1.1, r2.1, r3.1, r4.1, r5.2, h, S.nf [true, true, true] rfl ⟨rfl, rfl, rfl, rfl, rfl, trivial⟩⟩
    clear S h; rintro a w13 ⟨x4, x5, x6, x7, x8, h, S⟩; rw [hj2] at h; clear hj2 j2
    refine then_n ?_
    refine f_region ?_
    refine lv S (rn_move (S.tm rfl)) rfl ?_; clear S; intro a S
    refine lv S (rn_ldA Tryd.isAgg34 Tryd.sizeOf34 (off := 0) (o := 0) (part := [.string x4, .string x5, .int .i64 x6, .int .i64 x7]) rfl rfl (S.tm rfl) (S.cellsAt (i := 0) rfl)) rfl ?_; clear S; intro a S
    refine l_buildSlice S Tryd.underlying26 Tryd.sizeOf34 Tryd.zeroValue34 rfl rfl (pv := [(0, .agg #[.string x4, .string x5, .int .i64 x6, .int .i64 x7])]) ⟨rfl, (S.tm rfl), trivial⟩ (cs := [.string x4, .string x5, .int .i64 x6, .int .i64 x7]) (by kernel_rfl) rfl ?_; clear S; intro a w55 b12 hz12 hk51 S
    obtain ⟨hc1, h⟩ := chkE h
    refine l_appendT sl_26 GMark.enc_ok S (S.tm rfl) (i := 2) rfl (S.tm rfl) (j := 0) rfl (ys := [(GMark.mk x4 x5 x6 x7)]) rfl rfl rfl rfl (by have := room_lt hc1; omega) rfl ?_; clear S; intro v23 a w56 hk52 S
    refine lv S (rn_assign (S.tm rfl)) rfl ?_; clear S; intro a S
    refine l_done ?_
    replace S := S.nk [.own v23 34 4 (x1 ++ [(GMark.mk x4 x5 x6 x7)]).length ((x1 ++ [(GMark.mk x4 x5 x6 x7)]).flatMap GMark.enc), .blk b_p_s [v_p_s_L, .int .i64 x8] 25] [(0, .pointer (some ⟨b_p_s, 0, none⟩)), (5, v23), (7, .int .i64 p_many), (8, .int .i64 x3)] [false, false, true, true] rfl ⟨rfl, rfl, rfl, rfl, trivial⟩
    refine blk_n ?_
    refine then_n ?_
    refine f_region ?_
    refine lv S (rn_add (S.tm rfl) rfl) rfl ?_; clear S; intro a S
    refine lv S (rn_move (S.tm rfl)) rfl ?_; clear S; intro a S
    refine l_done ?_
    replace S := S.nk [.own v23 34 4 (x1 ++ [(GMark.mk x4 x5 x6 x7)]).length ((x1 ++ [(GMark.mk x4 x5 x6 x7)]).flatMap GMark.enc), .blk b_p_s [v_p_s_L, .int .i64 x8] 25] [(0, .pointer (some ⟨b_p_s, 0, none⟩)), (5, v23), (7, .int .i64 p_many), (8, .int .i64 (W (x3 + 1)))] [true, true] rfl ⟨rfl, rfl, rfl, rfl, trivial⟩
    refine then_n ?_
    exact ⟨m1, ⟨(x1 ++ [(GMark.mk x4 x5 x6 x7)]), x8, W (x3 + 1), v23, h, S.nf [true, true] rfl ⟨rfl, rfl, rfl, rfl, trivial⟩⟩, Nat.lt_succ_self _⟩
   ·replace h := iteF h hb1
    refine wp_exit ?_
    refine then_x ?_
    refine then_x ?_
    refine x_same ?_
    refine then_n ?_
    exact ⟨x1, x2, v1, h, S.nf [true, true] rfl ⟨rfl, trivial⟩⟩
 clear S h; rintro a w2 ⟨x1, x2, v1, h, S⟩; rw [hj1] at h; clear hj1 j1
 refine then_n ?_
 refine f_seq ?_
 refine f_region ?_
 refine lv S (rn_move (S.tm rfl)) rfl ?_; clear S; intro a S
 refine lv S (rn_assign (S.tm rfl)) rfl ?_; clear S; intro a S
 refine l_done ?_
 replace S := S.nk [.own v1 34 4 x1.length (x1.flatMap GMark.enc), .blk b_p_s [v_p_s_L, .int .i64 x2] 25] [(4, v1)] [true, true] rfl ⟨rfl, trivial⟩
 refine then_n ?_
 refine wp_ret ?_
 obtain rfl := Option.some.inj h
 exact f_ret S Tryd.results4 rfl ⟨(S.holds _ (List.mem_of_getElem? (i := 1) rfl)), (own_retX S (i := 0) rfl (fun c hc hh => not_fps S (i := 1) rfl rfl (j := 0) rfl rfl (by simp at hc; subst hc; exact hh)))⟩
theorem Stream_Standards_ok (w : World) (b_p_s : Nat) (v_p_s_L : Value) (p_s_L : List Int) (hs_p_s_L : Slc (view w [b_p_s]) 1 v_p_s_L (p_s_L.map eInt)) (p_s_at : Int) (hb_b_p_s : (LEnt.blk b_p_s [v_p_s_L, .int .i64 p_s_at] 25).holds w) (r : (List GStandard) × Int) (h : Stream_Standards p_s_L p_s_at = some r) :
    Calls Tryd.prog 6 [.pointer (some ⟨b_p_s, 0, none⟩)].toArray w (Ret w [b_p_s] fun τ v w' => (LEnt.blk b_p_s [v_p_s_L, .int .i64 r.2] 25).holds w' ∧ OwnV τ 54 4 v r.1.length (r.1.flatMap GStandard.enc)) := by
 refine f_enter [b_p_s] [.blk b_p_s [v_p_s_L, .int .i64 p_s_at] 25] Tryd.func6 rfl Tryd.ntmps6 rfl (fun e he => by simp only [List.mem_singleton] at he; subst he; exact hb_b_p_s) (by simp [fps, LEnt.fp]) (by simp [fps, LEnt.fp]) fun a S => ?_
 unfold Stream_Standards at h
 replace S := S.nk [.blk b_p_s [v_p_s_L, .int .i64 p_s_at] 25] [(0, .pointer (some ⟨b_p_s, 0, none⟩))] [true] rfl ⟨rfl, trivial⟩
 refine f_seq ?_
 refine f_region ?_
 refine lv S (rn_assign rfl) rfl ?_; clear S; intro a S
 refine l_done ?_
 replace S := S.nk [.blk b_p_s [v_p_s_L, .int .i64 p_s_at] 25] [(0, .pointer (some ⟨b_p_s, 0, none⟩))] [true] rfl ⟨rfl, trivial⟩
 refine then_n ?_
 refine f_seq ?_
 refine f_region ?_
 refine lv S (rn_assign rfl) rfl ?_; clear S; intro a S
 replace S := S.nil 54 4
 refine l_done ?_
 replace S := S.nk [.own (.slice none 0 0) 54 4 ([] : List GStandard).length (([] : List GStandard).flatMap GStandard.enc), .blk b_p_s [v_p_s_L, .int .i64 p_s_at] 25] [(0, .pointer (some ⟨b_p_s, 0, none⟩)), (3, (.slice none 0 0))] [true, true] rfl ⟨rfl, rfl, trivial⟩
 refine then_n ?_
 refine f_seq ?_
 refine f_seq ?_
 refine f_region ?_
 refine l_buildSlice S Tryd.underlying52 Tryd.sizeOf9 Tryd.zeroValue9 rfl rfl (pv := [(0, .string k_ra), (1, .string k_ra), (2, .string k_rb)]) ⟨rfl, rfl, rfl, rfl, rfl, rfl, trivial⟩ (cs := [.string k_ra, .string k_ra, .string k_rb]) (by kernel_rfl) rfl ?_; clear S; intro a w1 b1 hz1 hk1 S
 refine lv S (rn_lenT sl_52 (S.tm rfl) ⟨_, _, rfl⟩) rfl ?_; clear S; intro a S
 refine lv S (rn_move rfl) rfl ?_; clear S; intro a S
 refine l_done ?_
 replace S := S.nk [.blk b1 [.string k_ra, .string k_ra, .string k_rb] 9, .own (.slice none 0 0) 54 4 ([] : List GStandard).length (([] : List GStandard).flatMap GStandard.enc), .blk b_p_s [v_p_s_L, .int .i64 p_s_at] 25] [(0, .pointer (some ⟨b_p_s, 0, none⟩)), (3, (.slice none 0 0)), (7, .slice (some ⟨b1, 0, none⟩) 3 3), (8, .int .i64 (([k_ra, k_ra, k_rb] : List ByteArray).length : Int)), (9, .int .i64 0)] [true, true, true] rfl ⟨rfl, rfl, rfl, rfl, rfl, trivial⟩
 refine then_n ?_
 replace S := S.litOwn (i := 0) (xs := [k_ra, k_ra, k_rb]) rfl enc_str rfl rfl rfl
 replace S := S.nk [.own (.slice (some ⟨b1, 0, none⟩) 3 3) 9 1 ([k_ra, k_ra, k_rb] : List ByteArray).length (([k_ra, k_ra, k_rb] : List ByteArray).flatMap eStr), .own (.slice none 0 0) 54 4 ([] : List GStandard).length (([] : List GStandard).flatMap GStandard.enc), .blk b_p_s [v_p_s_L, .int .i64 p_s_at] 25] [(0, .pointer (some ⟨b_p_s, 0, none⟩)), (3, (.slice none 0 0)), (7, (.slice (some ⟨b1, 0, none⟩) 3 3)), (8, .int .i64 (([k_ra, k_ra, k_rb] : List ByteArray).length : Int)), (9, .int .i64 0)] [] rfl ⟨rfl, rfl, rfl, rfl, rfl, trivial⟩
 obtain ⟨φ1, hl1, hs1, S⟩ := S.freezeT (xs := ([k_ra, k_ra, k_rb] : List ByteArray)) (enc := eStr) (i := 0) rfl (fun c hc hh => not_fps S (i := 2) rfl rfl (j := 0) rfl rfl (by simp at hc; subst hc; exact hh))
 replace S := S.nk [.own (.slice none 0 0) 54 4 ([] : List GStandard).length (([] : List GStandard).flatMap GStandard.enc), .blk b_p_s [v_p_s_L, .int .i64 p_s_at] 25] [(0, .pointer (some ⟨b_p_s, 0, none⟩)), (3, (.slice none 0 0)), (7, (.slice (some ⟨b1, 0, none⟩) 3 3)), (8, .int .i64 (([k_ra, k_ra, k_rb] : List ByteArray).length : Int)), (9, .int .i64 0)] [] rfl ⟨rfl, rfl, rfl, rfl, rfl, trivial⟩
 obtain ⟨j1, hj1, h⟩ := joinE h
 refine f_join (fun a w' => ∃ x1 : List GStandard, ∃ x2 : Int, ∃ v1 : Value, j1 x1 x2 = some r ∧ Sx w [b_p_s] φ1 [.own v1 54 4 x1.length (x1.flatMap GStandard.enc), .blk b_p_s [v_p_s_L, .int .i64 x2] 25] [(3, v1)] 51 a w') ?_ ?_
 ·refine wp_block ?_
  refine f_loop (fun (ys1 : List ByteArray) a w' => ∃ i1 : Nat, ∃ x1 : List GStandard, ∃ x2 : Int, ∃ v1 : Value, (∃ dn, ([k_ra, k_ra, k_rb] : List ByteArray) = dn ++ ys1 ∧ dn.length = i1) ∧ Stream_Standards_l1 p_s_L j1 ys1 i1 x1 x2 = some r ∧ Sx w [b_p_s] φ1 [.own v1 54 4 x1.length (x1.flatMap GStandard.enc), .blk b_p_s [v_p_s_L, .int .i64 x2] 25] [(0, .pointer (some ⟨b_p_s, 0, none⟩)), (3, v1), (7, (.slice (some ⟨b1, 0, none⟩) 3 3)), (8, .int .i64 (([k_ra, k_ra, k_rb] : List ByteArray).length : Int)), (9, .int .i64 (i1 : Int))] 51 a w') List.length ([k_ra, k_ra, k_rb] : List ByteArray) ⟨0, ([] : List GStandard), p_s_at, (.slice none 0 0), ⟨[], rfl, rfl⟩, h, S.nf [true, true] rfl ⟨rfl, rfl, rfl, rfl, rfl, trivial⟩⟩ ?_
  clear S h; rintro ys1 a w2 ⟨i1, x1, x2, v1, ⟨dn, hd1, hi1⟩, h, S⟩
  cases ys1 with
  | nil =>
   rw [Stream_Standards_l1.eq_1] at h
   refine f_seq ?_
   refine f_region ?_
   refine lv S (rn_lss (S.tm rfl) (S.tm rfl)) rfl ?_; clear S; intro a S
   refine l_done ?_
   replace S := S.nk [.own v1 54 4 x1.length (x1.flatMap GStandard.enc), .blk b_p_s [v_p_s_L, .int .i64 x2] 25] [(0, .pointer (some ⟨b_p_s, 0, none⟩)), (3, v1), (7, (.slice (some ⟨b1, 0, none⟩) 3 3)), (8, .int .i64 (([k_ra, k_ra, k_rb] : List ByteArray).length : Int)), (9, .int .i64 (i1 : Int)), (10, .bool (decide ((i1 : Int) < (([k_ra, k_ra, k_rb] : List ByteArray).length : Int))))] [true, true] rfl ⟨rfl, rfl, rfl, rfl, rfl, rfl, trivial⟩
   refine then_n ?_
   refine f_seq ?_
   refine wp_cond_false ((S.tm rfl).trans (congrArg Value.bool (rng_nil hd1 hi1))) ?_
   refine wp_exit ?_
   refine then_x ?_
   refine then_x ?_
   refine x_same ?_
   refine then_n ?_
   exact ⟨x1, x2, v1, h, S.nf [true, true] rfl ⟨rfl, trivial⟩⟩
  | cons y1 ys1 =>
   rw [Stream_Standards_l1.eq_2] at h
   refine f_seq ?_
   refine f_region ?_
   refine lv S (rn_lss (S.tm rfl) (S.tm rfl)) rfl ?_; clear S; intro a S
   refine l_done ?_
   replace S := S.nk [.own v1 54 4 x1.length (x1.flatMap GStandard.enc), .blk b_p_s [v_p_s_L, .int .i64 x2] 25] [(0, .pointer (some ⟨b_p_s, 0, none⟩)), (3, v1), (7, (.slice (some ⟨b1, 0, none⟩) 3 3)), (8, .int .i64 (([k_ra, k_ra, k_rb] : List ByteArray).length : Int)), (9, .int .i64 (i1 : Int)), (10, .bool (decide ((i1 : Int) < (([k_ra, k_ra, k_rb] : List ByteArray).length : Int))))] [true, true] rfl ⟨rfl, rfl, rfl, rfl, rfl, rfl, trivial⟩
   refine then_n ?_
   refine f_seq ?_
   refine wp_cond_true ((S.tm rfl).trans (congrArg Value.bool (rng_cons hd1 hi1))) ?_
   refine wp_skip ?_
   refine then_n ?_
   refine f_seq ?_
   obtain ⟨j2, hj2, h⟩ := joinE h
   refine f_join (fun a w' => ∃ x3 : List GStandard, ∃ x4 : Int, ∃ v2 : Value, j2 x3 x4 = some r ∧ Sx w [b_p_s] φ1 [.own v2 54 4 x3.length (x3.flatMap GStandard.enc), .blk b_p_s [v_p_s_L, .int .i64 x4] 25] [(0, .pointer (some ⟨b_p_s, 0, none⟩)), (3, v2), (7, (.slice (some ⟨b1, 0, none⟩) 3 3)), (8, .int .i64 (([k_ra, k_ra, k_rb] : List ByteArray).length : Int)), (9, .int .i64 (i1 : Int))] 51 a w') ?_ ?_
   ·refine wp_block ?_
    refine f_seq ?_
    refine f_region ?_
    obtain ⟨b2, o1, hm1, hr1⟩ := rn_indexT (a := a) (x := .tmp 7) (y := .tmp 9) (ty := 0) sl_52 (ownV_slcT enc_str hs1) (get_mid hd1 hi1) rfl (S.tm rfl) (S.tm rfl)
    refine lv S (hr1 _) rfl ?_; clear S; intro a S
    clear hr1
    refine lv S (rn_ld Tryd.isAgg9 (off := o1) (o := 0) (S.tm rfl) (hm1.at S.emb) rfl) rfl ?_; clear S; intro a S
    refine lv S (rn_assign (S.tm rfl)) rfl ?_; clear S; intro a S
    refine l_done ?_
    replace S := S.nk [.own v1 54 4 x1.length (x1.flatMap GStandard.enc), .blk b_p_s [v_p_s_L, .int .i64 x2] 25] [(0, .pointer (some ⟨b_p_s, 0, none⟩)), (3, v1), (5, .string y1), (7, (.slice (some ⟨b1, 0, none⟩) 3 3)), (8, .int .i64 (([k_ra, k_ra, k_rb] : List ByteArray).length : Int)), (9, .int .i64 (i1 : Int))] [true, true] rfl ⟨rfl, rfl, rfl, rfl, rfl, rfl, trivial⟩
    refine then_n ?_
    refine f_seq ?_
    refine f_seq ?_
    refine f_region ?_
    refine lv S (rn_move (S.tm rfl)) rfl ?_; clear S; intro a S
    obtain ⟨r1, hr2, h⟩ := bindE h
    refine l_enter1 1 S (b := b_p_s) rfl rfl (fun _ => .blk b_p_s [v_p_s_L, .int .i64 r1.2] 25) (fun _ => run_call (vs := [.pointer (some ⟨b_p_s, 0, none⟩), .int .i64 3]) ⟨(S.tm rfl), rfl, trivial⟩ Tryd.call21) (Stream_Flip_ok _ b_p_s v_p_s_L p_s_L (hs_p_s_L.mono (S.le_arg (fp_sub (i := 1) (e := .blk b_p_s [v_p_s_L, .int .i64 x2] 25) rfl))) x2 (S.holds _ (List.mem_of_getElem? (i := 1) rfl)) 3 _ hr2) rfl (fun _ _ _ h => ⟨h.1, fun _ hc => by cases hc; rfl⟩) ?_; clear S; intro v3 a w5 hv1 hk2 hn1 S
    replace hv1 := hv1.2
    subst hv1
    refine l_done ?_
    replace S := S.nk [.own v1 54 4 x1.length (x1.flatMap GStandard.enc), .blk b_p_s [v_p_s_L, .int .i64 r1.2] 25] [(0, .pointer (some ⟨b_p_s, 0, none⟩)), (3, v1), (5, .string y1), (7, (.slice (some ⟨b1, 0, none⟩) 3 3)), (8, .int .i64 (([k_ra, k_ra, k_rb] : List ByteArray).length : Int)), (9, .int .i64 (i1 : Int)), (14, .bool r1.1)] [true, true] rfl ⟨rfl, rfl, rfl, rfl, rfl, rfl, rfl, trivial⟩
    refine then_n ?_
    refine f_cond (S.tm rfl) (fun hb1 => ?_) (fun hb1 => ?_)
    ·replace h := iteT h hb1
     refine wp_exit ?_
     refine then_x ?_
     refine x_same ?_
     refine then_n ?_
     exact ⟨x1, r1.2, v1, h, S.nf [true, true] rfl ⟨rfl, rfl, rfl, rfl, rfl, trivial⟩⟩
    ·replace h := iteF h hb1
     refine wp_skip ?_
     refine then_n ?_
     refine f_seq ?_
     refine f_region ?_
     refine lv S (rn_move (S.tm rfl)) rfl ?_; clear S; intro a S
     refine lv S (rn_move (S.tm rfl)) rfl ?_; clear S; intro a S
     refine l_buildSlice S Tryd.underlying22 Tryd.sizeOf3 Tryd.zeroValue3 rfl rfl (pv := [(0, .int .i64 5900), (1, .int .i64 6000), (2, .int .i64 5800)]) ⟨rfl, rfl, rfl, rfl, rfl, rfl, trivial⟩ (cs := [.int .i64 5900, .int .i64 6000, .int .i64 5800]) (by kernel_rfl) rfl ?_; clear S; intro a w6 b3 hz2 hk3 S
     obtain ⟨r2, hr3, h⟩ := bindE h
     refine l_enter1 2 S (b := b_p_s) rfl rfl (fun _ => .blk b_p_s [v_p_s_L, .int .i64 r2.2] 25) (fun _ => run_call (vs := [.pointer (some ⟨b_p_s, 0, none⟩), .slice (some ⟨b3, 0, none⟩) 3 3]) ⟨(S.tm rfl), (S.tm rfl), trivial⟩ Tryd.call8) (Stream_Pick_ok _ b_p_s v_p_s_L p_s_L (hs_p_s_L.mono (S.le_arg (fp_sub (i := 2) (e := .blk b_p_s [v_p_s_L, .int .i64 r1.2] 25) rfl))) r1.2 (S.holds _ (List.mem_of_getElem? (i := 2) rfl)) (.slice (some ⟨b3, 0, none⟩) 3 3) [5900, 6000, 5800] (lit_slcT enc_int S (i := 0) rfl rfl rfl rfl ((ne_fp (i := 2) (j := 0) (e := .blk b_p_s [v_p_s_L, .int .i64 r1.2] 25) (e' := .blk b3 [.int .i64 5900, .int .i64 6000, .int .i64 5800] 3) S rfl rfl rfl) _ rfl)) _ hr3) rfl (fun _ _ _ h => ⟨h.1, fun _ hc => by cases hc; rfl⟩) ?_; clear S; intro v4 a w7 hv2 hk4 hn2 S
     replace hv2 := hv2.2
     subst hv2
     refine lv S (rn_move (S.tm rfl)) rfl ?_; clear S; intro a S
     obtain ⟨r3, hr4, h⟩ := bindE h
     refine l_enter1 2 S (b := b_p_s) rfl rfl (fun _ => .blk b_p_s [v_p_s_L, .int .i64 r3.2] 25) (fun _ => run_call (vs := [.pointer (some ⟨b_p_s, 0, none⟩), .int .i64 0, .int .i64 6]) ⟨(S.tm rfl), rfl, rfl, trivial⟩ Tryd.call5) (Stream_Range_ok _ b_p_s v_p_s_L p_s_L (hs_p_s_L.mono (S.le_arg (fp_sub (i := 2) (e := .blk b_p_s [v_p_s_L, .int .i64 r2.2] 25) rfl))) r2.2 (S.holds _ (List.mem_of_getElem? (i := 2) rfl)) 0 6 _ hr4) rfl (fun _ _ _ h => ⟨h.1, fun _ hc => by cases hc; rfl⟩) ?_; clear S; intro v5 a w8 hv3 hk5 hn3 S
     replace hv3 := hv3.2
     subst hv3
     refine lv S (rn_bld bt_54 (pv := [(0, .string y1), (1, .int .i64 r2.1), (2, .int .i64 r3.1)]) ⟨rfl, (S.tm rfl), rfl, (S.tm rfl), rfl, (S.tm rfl), trivial⟩ (cs := [.string y1, .int .i64 r2.1, .int .i64 r3.1, .int .i64 0]) (by kernel_rfl)) rfl ?_; clear S; intro a S
     refine l_alloc S Tryd.zeroValue54 (cs := [.string k_empty, .int .i64 0, .int .i64 0, .int .i64 0]) rfl rfl ?_; clear S; intro a w9 b4 hz3 hk6 S
     refine l_store S (S.tm rfl) (S.tm rfl) (i := 0) (off := 0) rfl Tryd.sizeOf54 (vs := [.string y1, .int .i64 r2.1, .int .i64 r3.1, .int .i64 0]) rfl rfl rfl rfl ?_; clear S; intro w10 hk7 S
     refine l_done ?_
     replace S := S.nk [.blk b4 [.string y1, .int .i64 r2.1, .int .i64 r3.1, .int .i64 0] 54, .own v1 54 4 x1.length (x1.flatMap GStandard.enc), .blk b_p_s [v_p_s_L, .int .i64 r3.2] 25] [(0, .pointer (some ⟨b_p_s, 0, none⟩)), (3, v1), (5, .string y1), (6, .pointer (some ⟨b4, 0, none⟩)), (7, (.slice (some ⟨b1, 0, none⟩) 3 3)), (8, .int .i64 (([k_ra, k_ra, k_rb] : List ByteArray).length : Int)), (9, .int .i64 (i1 : Int))] [true, false, true, true] rfl ⟨rfl, rfl, rfl, rfl, rfl, rfl, rfl, trivial⟩
     refine then_n ?_
     refine f_seq ?_
     obtain ⟨r4, hr5, h⟩ := bindE h
     refine d_region [7] ([b_p_s]) Tryd.mixed S rfl (by kernel_rfl) ?_; clear S; intro w14 hk11 hsel S
     refine d_pure 0 S hsel rfl rfl (by kernel_rfl) (by kernel_rfl) rfl (fun _ => (rn_fld fa_54_2 (S.tm rfl))) ?_; clear S; intro a S
     refine d_quiet 1 S hsel rfl (by kernel_rfl) (by kernel_rfl) (by kernel_rfl) (by kernel_rfl) rfl (fun _ hw => (rn_ld Tryd.isAgg3 (off := 0) (o := 2) (S.tm rfl) ((S.blk_mem (i := 0) (cells := [.string y1, .int .i64 r2.1, .int .i64 r3.1, .int .i64 0]) (b := b4) (T := 54) rfl (ne_fp (i := 2) (j := 0) (e := .blk b_p_s [v_p_s_L, .int .i64 r3.2] 25) (e' := .blk b4 [.string y1, .int .i64 r2.1, .int .i64 r3.1, .int .i64 0] 54) S rfl rfl rfl)).kept hw) rfl)) ?_; clear S; intro a S
     refine d_pure 2 S hsel rfl rfl (by kernel_rfl) (by kernel_rfl) rfl (fun _ => (rn_move (S.tm rfl))) ?_; clear S; intro a S
     refine d_loud1 3 (by kernel_rfl) rfl ?_
     refine l_buildSlice S Tryd.underlying22 Tryd.sizeOf3 Tryd.zeroValue3 rfl rfl (pv := [(0, .int .i64 0), (1, .int .i64 2), (2, .int .i64 9)]) ⟨rfl, rfl, rfl, rfl, rfl, rfl, trivial⟩ (cs := [.int .i64 0, .int .i64 2, .int .i64 9]) (by kernel_rfl) rfl ?_; clear S; intro a w15 b6 hz5 hk12 S
     refine l_done ?_
     refine d_next (Keep.none hk12) ?_
     refine d_loud1 4 (by kernel_rfl) rfl ?_
     refine l_enter1 3 S (b := b_p_s) rfl rfl (fun _ => .blk b_p_s [v_p_s_L, .int .i64 r4.2] 25) (fun _ => run_call (vs := [.pointer (some ⟨b_p_s, 0, none⟩), .slice (some ⟨b6, 0, none⟩) 3 3]) ⟨(S.tm rfl), (S.tm rfl), trivial⟩ Tryd.call8) (Stream_Pick_ok _ b_p_s v_p_s_L p_s_L (hs_p_s_L.mono (S.le_arg (fp_sub (i := 3) (e := .blk b_p_s [v_p_s_L, .int .i64 r3.2] 25) rfl))) r3.2 (S.holds _ (List.mem_of_getElem? (i := 3) rfl)) (.slice (some ⟨b6, 0, none⟩) 3 3) [0, 2, 9] (lit_slcT enc_int S (i := 0) rfl rfl rfl rfl ((ne_fp (i := 3) (j := 0) (e := .blk b_p_s [v_p_s_L, .int .i64 r3.2] 25) (e' := .blk b6 [.int .i64 0, .int .i64 2, .int .i64 9] 3) S rfl rfl rfl) _ rfl)) _ hr5) rfl (fun _ _ _ h => ⟨h.1, fun _ hc => by cases hc; rfl⟩) ?_; clear S; intro v7 a w16 hv5 hk13 hn5 S
     replace hv5 := hv5.2
     subst hv5
     refine l_done ?_
     refine d_next hk13 ?_
     refine d_pure 5 S hsel rfl rfl (by kernel_rfl) (by kernel_rfl) rfl (fun _ => (rn_add (S.tm rfl) (S.tm rfl))) ?_; clear S; intro a S
     refine d_pure 6 S hsel rfl rfl (by kernel_rfl) (by kernel_rfl) rfl (fun _ => (rn_fld fa_54_3 (S.tm rfl))) ?_; clear S; intro a S
     refine d_loudB 7 ([b_p_s] ++ [b4]) rfl (by kernel_rfl) rfl ?_
     refine l_store S (S.tm rfl) (S.tm rfl) (i := 1) (off := 3) rfl Tryd.sizeOf3 (vs := [.int .i64 (W (r3.1 + r4.1))]) rfl rfl rfl rfl ?_; clear S; intro w17 hk14 S
     refine l_done ?_
     refine d_nextB ?_
     refine d_end (by kernel_rfl) ?_
     clear hsel
     replace S := S.nk [.blk b4 [.string y1, .int .i64 r2.1, .int .i64 r3.1, .int .i64 (W (r3.1 + r4.1))] 54, .own v1 54 4 x1.length (x1.flatMap GStandard.enc), .blk b_p_s [v_p_s_L, .int .i64 r4.2] 25] [(0, .pointer (some ⟨b_p_s, 0, none⟩)), (3, v1), (5, .string y1), (6, .pointer (some ⟨b4, 0, none⟩)), (7, (.slice (some ⟨b1, 0, none⟩) 3 3)), (8, .int .i64 (([k_ra, k_ra, k_rb] : List ByteArray).length : Int)), (9, .int .i64 (i1 : Int))] [false, true, true, true] rfl ⟨rfl, rfl, rfl, rfl, rfl, rfl, rfl, trivial⟩
     refine then_n ?_
     refine f_seq ?_
     refine f_seq ?_
     refine f_region ?_
     refine lv S (rn_move (S.tm rfl)) rfl ?_; clear S; intro a S
     obtain ⟨r5, hr6, h⟩ := bindE h
     refine l_enter1 2 S (b := b_p_s) rfl rfl (fun _ => .blk b_p_s [v_p_s_L, .int .i64 r5.2] 25) (fun _ => run_call (vs := [.pointer (some ⟨b_p_s, 0, none⟩), .int .i64 40]) ⟨(S.tm rfl), rfl, trivial⟩ Tryd.call21) (Stream_Flip_ok _ b_p_s v_p_s_L p_s_L (hs_p_s_L.mono (S.le_arg (fp_sub (i := 2) (e := .blk b_p_s [v_p_s_L, .int .i64 r4.2] 25) rfl))) r4.2 (S.holds _ (List.mem_of_getElem? (i := 2) rfl)) 40 _ hr6) rfl (fun _ _ _ h => ⟨h.1, fun _ hc => by cases hc; rfl⟩) ?_; clear S; intro v8 a w18 hv6 hk15 hn6 S
     replace hv6 := hv6.2
     subst hv6
     refine l_done ?_
     replace S := S.nk [.blk b4 [.string y1, .int .i64 r2.1, .int .i64 r3.1, .int .i64 (W (r3.1 + r4.1))] 54, .own v1 54 4 x1.length (x1.flatMap GStandard.enc), .blk b_p_s [v_p_s_L, .int .i64 r5.2] 25] [(0, .pointer (some ⟨b_p_s, 0, none⟩)), (3, v1), (5, .string y1), (6, .pointer (some ⟨b4, 0, none⟩)), (7, (.slice (some ⟨b1, 0, none⟩) 3 3)), (8, .int .i64 (([k_ra, k_ra, k_rb] : List ByteArray).length : Int)), (9, .int .i64 (i1 : Int)), (30, .bool r5.1)] [true, true, true] rfl ⟨rfl, rfl, rfl, rfl, rfl, rfl, rfl, rfl, trivial⟩
     refine then_n ?_
     obtain ⟨j3, hj3, h⟩ := joinE h
     refine f_join (fun a w' => ∃ x5 : ByteArray, ∃ x6 : Int, ∃ x7 : Int, ∃ x8 : Int, ∃ x9 : Int, j3 x5 x6 x7 x8 x9 = some r ∧ Sx w [b_p_s] φ1 [.blk b4 [.string x5, .int .i64 x6, .int .i64 x7, .int .i64 x8] 54, .own v1 54 4 x1.length (x1.flatMap GStandard.enc), .blk b_p_s [v_p_s_L, .int .i64 x9] 25] [(0, .pointer (some ⟨b_p_s, 0, none⟩)), (3, v1), (6, .pointer (some ⟨b4, 0, none⟩)), (7, (.slice (some ⟨b1, 0, none⟩) 3 3)), (8, .int .i64 (([k_ra, k_ra, k_rb] : List ByteArray).length : Int)), (9, .int .i64 (i1 : Int))] 51 a w') ?_ ?_
     ·refine f_cond (S.tm rfl) (fun hb2 => ?_) (fun hb2 => ?_)
      ·replace h := iteT h hb2
       refine f_region ?_
       refine lv S (rn_move (S.tm rfl)) rfl ?_; clear S; intro a S
       refine lv S (rn_move (S.tm rfl)) rfl ?_; clear S; intro a S
       refine l_buildSlice S Tryd.underlying52 Tryd.sizeOf9 Tryd.zeroValue9 rfl rfl (pv := [(0, .string y1), (1, .string k_empty), (2, .string k_aa)]) ⟨rfl, (S.tm rfl), rfl, rfl, rfl, rfl, trivial⟩ (cs := [.string y1, .string k_empty, .string k_aa]) (by kernel_rfl) rfl ?_; clear S; intro a w20 b7 hz6 hk16 S
       obtain ⟨r6, hr7, h⟩ := bindE h
       refine l_enter1 3 S (b := b_p_s) rfl rfl (fun _ => .blk b_p_s [v_p_s_L, .int .i64 r6.2] 25) (fun _ => run_call (vs := [.pointer (some ⟨b_p_s, 0, none⟩), .slice (some ⟨b7, 0, none⟩) 3 3]) ⟨(S.tm rfl), (S.tm rfl), trivial⟩ Tryd.call7) (Stream_Some_ok _ b_p_s v_p_s_L p_s_L (hs_p_s_L.mono (S.le_arg (fp_sub (i := 3) (e := .blk b_p_s [v_p_s_L, .int .i64 r5.2] 25) rfl))) r5.2 (S.holds _ (List.mem_of_getElem? (i := 3) rfl)) (.slice (some ⟨b7, 0, none⟩) 3 3) [y1, k_empty, k_aa] (lit_slcT enc_str S (i := 0) rfl rfl rfl rfl ((ne_fp (i := 3) (j := 0) (e := .blk b_p_s [v_p_s_L, .int .i64 r5.2] 25) (e' := .blk b7 [.string y1, .string k_empty, .string k_aa] 9) S rfl rfl rfl) _ rfl)) _ hr7) rfl (fun _ _ _ h => ⟨h.1, fun _ hc => by cases hc; rfl⟩) ?_; clear S; intro v9 a w21 hv7 hk17 hn7 S
       replace hv7 := hv7.2
       subst hv7
       refine lv S (rn_move (S.tm rfl)) rfl ?_; clear S; intro a S
       obtain ⟨r7, hr8, h⟩ := bindE h
       refine l_enter1 3 S (b := b_p_s) rfl rfl (fun _ => .blk b_p_s [v_p_s_L, .int .i64 r7.2] 25) (fun _ => run_call (vs := [.pointer (some ⟨b_p_s, 0, none⟩), .int .i64 1, .int .i64 6000]) ⟨(S.tm rfl), rfl, rfl, trivial⟩ Tryd.call22) (Stream_Odd_ok _ b_p_s v_p_s_L p_s_L (hs_p_s_L.mono (S.le_arg (fp_sub (i := 3) (e := .blk b_p_s [v_p_s_L, .int .i64 r6.2] 25) rfl))) r6.2 (S.holds _ (List.mem_of_getElem? (i := 3) rfl)) 1 6000 _ hr8) rfl (fun _ _ _ h => ⟨h.1, fun _ hc => by cases hc; rfl⟩) ?_; clear S; intro v10 a w22 hv8 hk18 hn8 S
       replace hv8 := hv8.2
       subst hv8
       refine lv S (rn_move (S.tm rfl)) rfl ?_; clear S; intro a S
       obtain ⟨r8, hr9, h⟩ := bindE h
       refine l_enter1 3 S (b := b_p_s) rfl rfl (fun _ => .blk b_p_s [v_p_s_L, .int .i64 r8.2] 25) (fun _ => run_call (vs := [.pointer (some ⟨b_p_s, 0, none⟩), .int .i64 0, .int .i64 5]) ⟨(S.tm rfl), rfl, rfl, trivial⟩ Tryd.call22) (Stream_Odd_ok _ b_p_s v_p_s_L p_s_L (hs_p_s_L.mono (S.le_arg (fp_sub (i := 3) (e := .blk b_p_s [v_p_s_L, .int .i64 r7.2] 25) rfl))) r7.2 (S.holds _ (List.mem_of_getElem? (i := 3) rfl)) 0 5 _ hr9) rfl (fun _ _ _ h => ⟨h.1, fun _ hc => by cases hc; rfl⟩) ?_; clear S; intro v11 a w23 hv9 hk19 hn9 S
       replace hv9 := hv9.2
       subst hv9
       refine lv S (rn_move (S.tm rfl)) rfl ?_; clear S; intro a S
       obtain ⟨r9, hr10, h⟩ := bindE h
       refine l_enter1 3 S (b := b_p_s) rfl rfl (fun _ => .blk b_p_s [v_p_s_L, .int .i64 r9.2] 25) (fun _ => run_call (vs := [.pointer (some ⟨b_p_s, 0, none⟩), .int .i64 0, .int .i64 9]) ⟨(S.tm rfl), rfl, rfl, trivial⟩ Tryd.call22) (Stream_Odd_ok _ b_p_s v_p_s_L p_s_L (hs_p_s_L.mono (S.le_arg (fp_sub (i := 3) (e := .blk b_p_s [v_p_s_L, .int .i64 r8.2] 25) rfl))) r8.2 (S.holds _ (List.mem_of_getElem? (i := 3) rfl)) 0 9 _ hr10) rfl (fun _ _ _ h => ⟨h.1, fun _ hc => by cases hc; rfl⟩) ?_; clear S; intro v12 a w24 hv10 hk20 hn10 S
       replace hv10 := hv10.2
       subst hv10
       refine lv S (rn_fld fa_54_0 (S.tm rfl)) rfl ?_; clear S; intro a S
       refine l_store S (S.tm rfl) (S.tm rfl) (i := 1) (off := 0) rfl Tryd.sizeOf9 (vs := [.string r6.1]) rfl rfl rfl rfl ?_; clear S; intro w25 hk21 S
       refine lv S (rn_fld fa_54_1 (S.tm rfl)) rfl ?_; clear S; intro a S
       refine l_store S (S.tm rfl) (S.tm rfl) (i := 1) (off := 1) rfl Tryd.sizeOf3 (vs := [.int .i64 r7.1]) rfl rfl rfl rfl ?_; clear S; intro w26 hk22 S
       refine lv S (rn_fld fa_54_2 (S.tm rfl)) rfl ?_; clear S; intro a S
       refine l_store S (S.tm rfl) (S.tm rfl) (i := 1) (off := 2) rfl Tryd.sizeOf3 (vs := [.int .i64 r8.1]) rfl rfl rfl rfl ?_; clear S; intro w27 hk23 S
       refine lv S (rn_fld fa_54_3 (S.tm rfl)) rfl ?_; clear S; intro a S
       refine l_store S (S.tm rfl) (S.tm rfl) (i := 1) (off := 3) rfl Tryd.sizeOf3 (vs := [.int .i64 r9.1]) rfl rfl rfl rfl ?_; clear S; intro w28 hk24 S
       refine l_done ?_
       replace S := S.nk [.blk b4 [.string r6.1, .int .i64 r7.1, .int .i64 r8.1, .int .i64 r9.1] 54, .own v1 54 4 x1.length (x1.flatMap GStandard.enc), .blk b_p_s [v_p_s_L, .int .i64 r9.2] 25] [(0, .pointer (some ⟨b_p_s, 0, none⟩)), (3, v1), (6, .pointer (some ⟨b4, 0, none⟩)), (7, (.slice (some ⟨b1, 0, none⟩) 3 3)), (8, .int .i64 (([k_ra, k_ra, k_rb] : List ByteArray).length : Int)), (9, .int .i64 (i1 : Int))] [false, true, true, true] rfl ⟨rfl, rfl, rfl, rfl, rfl, rfl, trivial⟩
       refine then_n ?_
       exact ⟨r6.1, r7.1, r8.1, r9.1, r9.2, h, S.nf [true, true, true] rfl ⟨rfl, rfl, rfl, rfl, rfl, rfl, trivial⟩⟩
      ·replace h := iteF h hb2
       refine wp_skip ?_
       refine then_n ?_
       exact ⟨y1, r2.1, r3.1, W (r3.1 + r4.1), r5.2, h, S.nf [true, true, true] rfl ⟨rfl, rfl, rfl, rfl, rfl, rfl, trivial⟩⟩
     clear S h; rintro a w19 ⟨x5, x6, x7, x8, x9, h, S⟩; rw [hj3] at h; clear hj3 j3
     refine then_n ?_
     refine f_region ?_
     refine lv S (rn_move (S.tm rfl)) rfl ?_; clear S; intro a S
     refine lv S (rn_ldA Tryd.isAgg54 Tryd.sizeOf54 (off := 0) (o := 0) (part := [.string x5, .int .i64 x6, .int .i64 x7, .int .i64 x8]) rfl rfl (S.tm rfl) (S.cellsAt (i := 0) rfl)) rfl ?_; clear S; intro a S
     refine l_buildSlice S Tryd.underlying29 Tryd.sizeOf54 Tryd.zeroValue54 rfl rfl (pv := [(0, .agg #[.string x5, .int .i64 x6, .int .i64 x7, .int .i64 x8])]) ⟨rfl, (S.tm rfl), trivial⟩ (cs := [.string x5, .int .i64 x6, .int .i64 x7, .int .i64 x8]) (by kernel_rfl) rfl ?_; clear S; intro a w29 b8 hz7 hk25 S
     obtain ⟨hc1, h⟩ := chkE h
     refine l_appendT sl_29 GStandard.enc_ok S (S.tm rfl) (i := 2) rfl (S.tm rfl) (j := 0) rfl (ys := [(GStandard.mk x5 x6 x7 x8)]) rfl rfl rfl rfl (by have := room_lt hc1; omega) rfl ?_; clear S; intro v13 a w30 hk26 S
     refine lv S (rn_assign (S.tm rfl)) rfl ?_; clear S; intro a S
     refine l_done ?_
     replace S := S.nk [.own v13 54 4 (x1 ++ [(GStandard.mk x5 x6 x7 x8)]).length ((x1 ++ [(GStandard.mk x5 x6 x7 x8)]).flatMap GStandard.enc), .blk b_p_s [v_p_s_L, .int .i64 x9] 25] [(0, .pointer (some ⟨b_p_s, 0, none⟩)), (3, v13), (7, (.slice (some ⟨b1, 0, none⟩) 3 3)), (8, .int .i64 (([k_ra, k_ra, k_rb] : List ByteArray).length : Int)), (9, .int .i64 (i1 : Int))] [false, false, true, true] rfl ⟨rfl, rfl, rfl, rfl, rfl, trivial⟩
     refine blk_n ?_
     refine then_n ?_
     exact ⟨(x1 ++ [(GStandard.mk x5 x6 x7 x8)]), x9, v13, h, S.nf [true, true] rfl ⟨rfl, rfl, rfl, rfl, rfl, trivial⟩⟩
   clear S h; rintro a w4 ⟨x3, x4, v2, h, S⟩; rw [hj2] at h; clear hj2 j2
   refine then_n ?_
   refine f_region ?_
   refine lv S (rn_add (S.tm rfl) rfl) rfl ?_; clear S; intro a S
   refine lv S (rn_move (S.tm rfl)) rfl ?_; clear S; intro a S
   refine l_done ?_
   replace S := S.nk [.own v2 54 4 x3.length (x3.flatMap GStandard.enc), .blk b_p_s [v_p_s_L, .int .i64 x4] 25] [(0, .pointer (some ⟨b_p_s, 0, none⟩)), (3, v2), (7, (.slice (some ⟨b1, 0, none⟩) 3 3)), (8, .int .i64 (([k_ra, k_ra, k_rb] : List ByteArray).length : Int)), (9, .int .i64 (W ((i1 : Int) + 1)))] [true, true] rfl ⟨rfl, rfl, rfl, rfl, rfl, trivial⟩
   refine then_n ?_
   exact ⟨ys1, ⟨i1 + 1, x3, x4, v2, ⟨_, (hd1).trans (List.append_cons _ _ _), by simp [hi1]⟩, h, S.nf [true, true] rfl ⟨rfl, rfl, rfl, rfl, (congrArg (fun z => some (Value.int .i64 z)) (rng_next hd1 hi1 (slc_max (ownV_slcT enc_str hs1)))), trivial⟩⟩, Nat.lt_succ_self _⟩
 clear S h; rintro a w3 ⟨x1, x2, v1, h, S⟩; rw [hj1] at h; clear hj1 j1
 refine then_n ?_
 refine f_seq ?_
 refine f_region ?_
 refine lv S (rn_move (S.tm rfl)) rfl ?_; clear S; intro a S
 refine lv S (rn_assign (S.tm rfl)) rfl ?_; clear S; intro a S
 refine l_done ?_
 replace S := S.nk [.own v1 54 4 x1.length (x1.flatMap GStandard.enc), .blk b_p_s [v_p_s_L, .int .i64 x2] 25] [(2, v1)] [true, true] rfl ⟨rfl, trivial⟩
 refine then_n ?_
 refine wp_ret ?_
 obtain rfl := Option.some.inj h
 exact f_ret S Tryd.results6 rfl ⟨(S.holds _ (List.mem_of_getElem? (i := 1) rfl)), (own_retX S (i := 0) rfl (fun c hc hh => not_fps S (i := 1) rfl rfl (j := 0) rfl rfl (by simp at hc; subst hc; exact hh)))⟩
theorem strings_Trim_ok (w : World) (s c : ByteArray) (r : ByteArray) (h : strings_Trim s c = some r) : Calls Tryd.prog 40 [.string s, .string c].toArray w (Ret w [] fun _ v _ => v = .string r) := by
  unfold strings_Trim at h
  obtain ⟨h1, h⟩ := chkE h
  obtain ⟨h2, h⟩ := chkE h
  obtain ⟨h3, h⟩ := chkE h
  obtain rfl := Option.some.inj h
  exact ret_of_below (Any.strings_Trim_laid Tryd.lays160 (by kernel_rfl) s c w (by simpa using h1) (by simpa using h2) (fun j b hb => by simpa using List.all_eq_true.1 h3 b (List.mem_of_getElem? hb)))
theorem words_IsKey_ok (w : World) (p_s : ByteArray) (r : Bool) (h : words_IsKey p_s = some r) :
    Calls Tryd.prog 24 [.string p_s].toArray w (Ret w [] fun _ v _ => v = .bool r) := by
 refine f_enter [] [] Tryd.func24 rfl Tryd.ntmps24 rfl (by simp) (by simp [fps]) (by simp [fps]) fun a S => ?_
 unfold words_IsKey at h
 replace S := S.nk [] [(0, .string p_s)] [] rfl ⟨rfl, trivial⟩
 refine f_seq ?_
 refine f_region ?_
 refine lv S (rn_assign rfl) rfl ?_; clear S; intro a S
 refine l_done ?_
 replace S := S.nk [] [(0, .string p_s)] [] rfl ⟨rfl, trivial⟩
 refine then_n ?_
 refine f_seq ?_
 refine f_region ?_
 refine lv S (rn_move (S.tm rfl)) rfl ?_; clear S; intro a S
 refine lv S (rn_len_str Tryd.underlying9 (S.tm rfl)) rfl ?_; clear S; intro a S
 refine lv S (rn_geq (S.tm rfl) rfl) rfl ?_; clear S; intro a S
 refine lv S (rn_move (S.tm rfl)) rfl ?_; clear S; intro a S
 refine f_cutm 4 (fun a w' => Keep [] w w' ∧ Sx w [] nov [] [(0, .string p_s), (10, .bool ((decide (1 ≤ (p_s.size : Int))) && (decide ((p_s.size : Int) ≤ 40))))] 26 a w') ?_ ?_
 ·rcases Bool.eq_false_or_eq_true (decide (1 ≤ (p_s.size : Int))) with hb1 | hb1
  ·refine l_want S rfl rfl rfl hb1 ?_
   refine lv S (rn_move (S.tm rfl)) rfl ?_; clear S; intro a S
   refine l_want S rfl rfl rfl hb1 ?_
   refine lv S (rn_len_str Tryd.underlying9 (S.tm rfl)) rfl ?_; clear S; intro a S
   refine l_want S rfl rfl rfl hb1 ?_
   refine lv S (rn_leq (S.tm rfl) rfl) rfl ?_; clear S; intro a S
   refine lv S (rn_and_t hb1 (S.tm rfl) (S.tm rfl)) rfl ?_; clear S; intro a S
   refine l_done ?_
   refine then_n ?_
   exact ⟨Keep.refl _ _, S.nf [] rfl ⟨rfl, rfl, trivial⟩⟩
  ·refine l_skip S rfl rfl rfl (neq_f hb1) rfl ?_ rfl; clear S; intro a S
   refine l_skip S rfl rfl rfl (neq_f hb1) rfl ?_ rfl; clear S; intro a S
   refine l_skip S rfl rfl rfl (neq_f hb1) rfl ?_ rfl; clear S; intro a S
   refine lv S (rn_and_f (decide ((p_s.size : Int) ≤ 40)) hb1 (S.tm rfl) rfl) rfl ?_; clear S; intro a S
   refine l_done ?_
   refine then_n ?_
   exact ⟨Keep.refl _ _, S.nf [] rfl ⟨rfl, rfl, trivial⟩⟩
 clear S; rintro a w1 ⟨hk1, S⟩
 refine lv S (rn_move (S.tm rfl)) rfl ?_; clear S; intro a S
 obtain ⟨j1, hj1, h⟩ := joinE h
 refine f_cutm 4 (fun a w' => ∃ c1, j1 c1 = some r ∧ Keep [] w1 w' ∧ Sx w [] nov [] [(0, .string p_s), (15, .bool c1)] 26 a w') ?_ ?_
 ·rcases Bool.eq_false_or_eq_true ((decide (1 ≤ (p_s.size : Int))) && (decide ((p_s.size : Int) ≤ 40))) with hb2 | hb2
  ·replace h := iteT h hb2
   refine l_want S rfl rfl rfl hb2 ?_
   refine lv S (rn_move (S.tm rfl)) rfl ?_; clear S; intro a S
   refine l_want S rfl rfl rfl hb2 ?_
   obtain ⟨hc1, h⟩ := chkE h
   refine lv S (rn_sindexT Tryd.underlying9 (S.tm rfl) rfl hc1) rfl ?_; clear S; intro a S
   refine l_want S rfl rfl rfl hb2 ?_
   refine lv S (rn_geq (S.tm rfl) rfl) rfl ?_; clear S; intro a S
   refine lv S (rn_and_t hb2 (S.tm rfl) (S.tm rfl)) rfl ?_; clear S; intro a S
   refine l_done ?_
   refine then_n ?_
   exact ⟨_, h, Keep.refl _ _, S.nf [] rfl ⟨rfl, rfl, trivial⟩⟩
  ·replace h := iteF h hb2
   refine l_skip S rfl rfl rfl (neq_f hb2) rfl ?_ rfl; clear S; intro a S
   refine l_skip S rfl rfl rfl (neq_f hb2) rfl ?_ rfl; clear S; intro a S
   refine l_skip S rfl rfl rfl (neq_f hb2) rfl ?_ rfl; clear S; intro a S
   refine lv S (rn_and_f true hb2 (S.tm rfl) rfl) rfl ?_; clear S; intro a S
   refine l_done ?_
   refine then_n ?_
   exact ⟨_, h, Keep.refl _ _, S.nf [] rfl ⟨rfl, rfl, trivial⟩⟩
 clear S h; rintro a w2 ⟨c1, h, hk2, S⟩; rw [hj1] at h; clear hj1 j1
 refine lv S (rn_move (S.tm rfl)) rfl ?_; clear S; intro a S
 obtain ⟨j2, hj2, h⟩ := joinE h
 refine f_cutm 4 (fun a w' => ∃ c2, j2 c2 = some r ∧ Keep [] w2 w' ∧ Sx w [] nov [] [(0, .string p_s), (20, .bool c2)] 26 a w') ?_ ?_
 ·rcases Bool.eq_false_or_eq_true c1 with hb3 | hb3
  ·replace h := iteT h hb3
   refine l_want S rfl rfl rfl hb3 ?_
   refine lv S (rn_move (S.tm rfl)) rfl ?_; clear S; intro a S
   refine l_want S rfl rfl rfl hb3 ?_
   obtain ⟨hc2, h⟩ := chkE h
   refine lv S (rn_sindexT Tryd.underlying9 (S.tm rfl) rfl hc2) rfl ?_; clear S; intro a S
   refine l_want S rfl rfl rfl hb3 ?_
   refine lv S (rn_leq (S.tm rfl) rfl) rfl ?_; clear S; intro a S
   refine lv S (rn_and_t hb3 (S.tm rfl) (S.tm rfl)) rfl ?_; clear S; intro a S
   refine l_done ?_
   refine then_n ?_
   exact ⟨_, h, Keep.refl _ _, S.nf [] rfl ⟨rfl, rfl, trivial⟩⟩
  ·replace h := iteF h hb3
   refine l_skip S rfl rfl rfl (neq_f hb3) rfl ?_ rfl; clear S; intro a S
   refine l_skip S rfl rfl rfl (neq_f hb3) rfl ?_ rfl; clear S; intro a S
   refine l_skip S rfl rfl rfl (neq_f hb3) rfl ?_ rfl; clear S; intro a S
   refine lv S (rn_and_f true hb3 (S.tm rfl) rfl) rfl ?_; clear S; intro a S
   refine l_done ?_
   refine then_n ?_
   exact ⟨_, h, Keep.refl _ _, S.nf [] rfl ⟨rfl, rfl, trivial⟩⟩
 clear S h; rintro a w3 ⟨c2, h, hk3, S⟩; rw [hj2] at h; clear hj2 j2
 refine lv S (rn_move (S.tm rfl)) rfl ?_; clear S; intro a S
 obtain ⟨j3, hj3, h⟩ := joinE h
 refine f_cutm 4 (fun a w' => ∃ c3, j3 c3 = some r ∧ Keep [] w3 w' ∧ Sx w [] nov [] [(25, .bool c3)] 26 a w') ?_ ?_
 ·rcases Bool.eq_false_or_eq_true c2 with hb4 | hb4
  ·replace h := iteT h hb4
   refine l_want S rfl rfl rfl hb4 ?_
   refine lv S (rn_move (S.tm rfl)) rfl ?_; clear S; intro a S
   refine l_want S rfl rfl rfl hb4 ?_
   obtain ⟨r1, hr1, h⟩ := bindE h
   refine l_enter S (fun _ => run_call (vs := [.string p_s, .string k_abcdefghijkl_h0e2e2c]) ⟨(S.tm rfl), rfl, trivial⟩ Tryd.call40) (strings_Trim_ok _ p_s k_abcdefghijkl_h0e2e2c _ hr1) rfl ?_; clear S; intro v1 a w5 hv1 hk4 hn1 S
   subst hv1
   refine l_want S rfl rfl rfl hb4 ?_
   refine lv S (rn_seql (S.tm rfl) rfl) rfl ?_; clear S; intro a S
   refine lv S (rn_and_t hb4 (S.tm rfl) (S.tm rfl)) rfl ?_; clear S; intro a S
   refine l_done ?_
   refine then_n ?_
   exact ⟨_, h, hk4, S.nf [] rfl ⟨rfl, trivial⟩⟩
  ·replace h := iteF h hb4
   refine l_skip S rfl rfl rfl (neq_f hb4) rfl ?_ rfl; clear S; intro a S
   refine l_skip S rfl rfl rfl (neq_f hb4) rfl ?_ rfl; clear S; intro a S
   refine l_skip S rfl rfl rfl (neq_f hb4) rfl ?_ rfl; clear S; intro a S
   refine lv S (rn_and_f true hb4 (S.tm rfl) rfl) rfl ?_; clear S; intro a S
   refine l_done ?_
   refine then_n ?_
   exact ⟨_, h, Keep.refl _ _, S.nf [] rfl ⟨rfl, trivial⟩⟩
 clear S h; rintro a w4 ⟨c3, h, hk5, S⟩; rw [hj3] at h; clear hj3 j3
 refine lv S (rn_assign (S.tm rfl)) rfl ?_; clear S; intro a S
 refine l_done ?_
 replace S := S.nk [] [(2, .bool c3)] [] rfl ⟨rfl, trivial⟩
 refine then_n ?_
 refine wp_ret ?_
 obtain rfl := Option.some.inj h
 exact f_ret S Tryd.results24 rfl rfl
theorem words_Within_ok (w : World) (p_n : Int) (p_low : Int) (p_high : Int) (r : Bool) (h : words_Within p_n p_low p_high = r) :
    Calls Tryd.prog 25 [.int .i64 p_n, .int .i64 p_low, .int .i64 p_high].toArray w (Ret w [] fun _ v _ => v = .bool r) := by
 refine f_enter [] [] Tryd.func25 rfl Tryd.ntmps25 rfl (by simp) (by simp [fps]) (by simp [fps]) fun a S => ?_
 unfold words_Within at h
 replace S := S.nk [] [(0, .int .i64 p_n), (1, .int .i64 p_low), (2, .int .i64 p_high)] [] rfl ⟨rfl, rfl, rfl, trivial⟩
 refine f_seq ?_
 refine f_region ?_
 refine lv S (rn_assign rfl) rfl ?_; clear S; intro a S
 refine l_done ?_
 replace S := S.nk [] [(0, .int .i64 p_n), (1, .int .i64 p_low), (2, .int .i64 p_high)] [] rfl ⟨rfl, rfl, rfl, trivial⟩
 refine then_n ?_
 refine f_seq ?_
 refine f_region ?_
 refine lv S (rn_move (S.tm rfl)) rfl ?_; clear S; intro a S
 refine lv S (rn_move (S.tm rfl)) rfl ?_; clear S; intro a S
 refine lv S (rn_geq (S.tm rfl) (S.tm rfl)) rfl ?_; clear S; intro a S
 refine lv S (rn_move (S.tm rfl)) rfl ?_; clear S; intro a S
 refine f_cutm 4 (fun a w' => Keep [] w w' ∧ Sx w [] nov [] [(14, .bool ((decide (p_low ≤ p_n)) && (decide (p_n ≤ p_high))))] 15 a w') ?_ ?_
 ·rcases Bool.eq_false_or_eq_true (decide (p_low ≤ p_n)) with hb1 | hb1
  ·refine l_want S rfl rfl rfl hb1 ?_
   refine lv S (rn_move (S.tm rfl)) rfl ?_; clear S; intro a S
   refine l_want S rfl rfl rfl hb1 ?_
   refine lv S (rn_move (S.tm rfl)) rfl ?_; clear S; intro a S
   refine l_want S rfl rfl rfl hb1 ?_
   refine lv S (rn_leq (S.tm rfl) (S.tm rfl)) rfl ?_; clear S; intro a S
   refine lv S (rn_and_t hb1 (S.tm rfl) (S.tm rfl)) rfl ?_; clear S; intro a S
   refine l_done ?_
   refine then_n ?_
   exact ⟨Keep.refl _ _, S.nf [] rfl ⟨rfl, trivial⟩⟩
  ·refine l_skip S rfl rfl rfl (neq_f hb1) rfl ?_ rfl; clear S; intro a S
   refine l_skip S rfl rfl rfl (neq_f hb1) rfl ?_ rfl; clear S; intro a S
   refine l_skip S rfl rfl rfl (neq_f hb1) rfl ?_ rfl; clear S; intro a S
   refine lv S (rn_and_f (decide (p_n ≤ p_high)) hb1 (S.tm rfl) rfl) rfl ?_; clear S; intro a S
   refine l_done ?_
   refine then_n ?_
   exact ⟨Keep.refl _ _, S.nf [] rfl ⟨rfl, trivial⟩⟩
 clear S; rintro a w1 ⟨hk1, S⟩
 refine lv S (rn_assign (S.tm rfl)) rfl ?_; clear S; intro a S
 refine l_done ?_
 replace S := S.nk [] [(6, .bool ((decide (p_low ≤ p_n)) && (decide (p_n ≤ p_high))))] [] rfl ⟨rfl, trivial⟩
 refine then_n ?_
 refine wp_ret ?_
 subst h
 exact f_ret S Tryd.results25 rfl rfl
theorem swimmer_isDay_ok (w : World) (p_n : Int) (r : Bool) (h : swimmer_isDay p_n = r) :
    Calls Tryd.prog 36 [.int .i64 p_n].toArray w (Ret w [] fun _ v _ => v = .bool r) := by
 refine f_enter [] [] Tryd.func36 rfl Tryd.ntmps36 rfl (by simp) (by simp [fps]) (by simp [fps]) fun a S => ?_
 unfold swimmer_isDay at h
 replace S := S.nk [] [(0, .int .i64 p_n)] [] rfl ⟨rfl, trivial⟩
 refine f_seq ?_
 refine f_region ?_
 refine lv S (rn_assign rfl) rfl ?_; clear S; intro a S
 refine l_done ?_
 replace S := S.nk [] [(0, .int .i64 p_n)] [] rfl ⟨rfl, trivial⟩
 refine then_n ?_
 refine f_seq ?_
 refine f_region ?_
 refine lv S (rn_move (S.tm rfl)) rfl ?_; clear S; intro a S
 refine l_enter S (fun _ => run_call (vs := [.int .i64 p_n, .int .i64 (-40000), .int .i64 4000]) ⟨(S.tm rfl), rfl, rfl, trivial⟩ Tryd.call25) (words_Within_ok _ p_n (-40000) 4000 _ rfl) rfl ?_; clear S; intro v1 a w1 hv1 hk1 hn1 S
 subst hv1
 refine lv S (rn_assign (S.tm rfl)) rfl ?_; clear S; intro a S
 refine l_done ?_
 replace S := S.nk [] [(2, .bool (words_Within p_n (-40000) 4000))] [] rfl ⟨rfl, trivial⟩
 refine then_n ?_
 refine wp_ret ?_
 subst h
 exact f_ret S Tryd.results36 rfl rfl
theorem timing_IsTime_ok (w : World) (p_n : Int) (r : Bool) (h : timing_IsTime p_n = r) :
    Calls Tryd.prog 37 [.int .i64 p_n].toArray w (Ret w [] fun _ v _ => v = .bool r) := by
 refine f_enter [] [] Tryd.func37 rfl Tryd.ntmps37 rfl (by simp) (by simp [fps]) (by simp [fps]) fun a S => ?_
 unfold timing_IsTime at h
 replace S := S.nk [] [(0, .int .i64 p_n)] [] rfl ⟨rfl, trivial⟩
 refine f_seq ?_
 refine f_region ?_
 refine lv S (rn_assign rfl) rfl ?_; clear S; intro a S
 refine l_done ?_
 replace S := S.nk [] [(0, .int .i64 p_n)] [] rfl ⟨rfl, trivial⟩
 refine then_n ?_
 refine f_seq ?_
 refine f_region ?_
 refine lv S (rn_move (S.tm rfl)) rfl ?_; clear S; intro a S
 refine l_enter S (fun _ => run_call (vs := [.int .i64 p_n, .int .i64 1, .int .i64 360000]) ⟨(S.tm rfl), rfl, rfl, trivial⟩ Tryd.call25) (words_Within_ok _ p_n 1 360000 _ rfl) rfl ?_; clear S; intro v1 a w1 hv1 hk1 hn1 S
 subst hv1
 refine lv S (rn_assign (S.tm rfl)) rfl ?_; clear S; intro a S
 refine l_done ?_
 replace S := S.nk [] [(2, .bool (words_Within p_n 1 360000))] [] rfl ⟨rfl, trivial⟩
 refine then_n ?_
 refine wp_ret ?_
 subst h
 exact f_ret S Tryd.results37 rfl rfl
theorem swimmer_CheckMarks_ok (w : World) (v_p_l : Value) (p_l : List GMark) (hs_p_l : Slc (view w []) 4 v_p_l (p_l.map GMark.enc)) (r : Int) (h : swimmer_CheckMarks p_l = some r) :
    Calls Tryd.prog 17 [v_p_l].toArray w (Ret w [] fun _ v _ => v = .int .i64 r) := by
 refine f_enter [] [] Tryd.func17 rfl Tryd.ntmps17 rfl (by simp) (by simp [fps]) (by simp [fps]) fun a S => ?_
 unfold swimmer_CheckMarks at h
 replace S := S.nk [] [(0, v_p_l)] [] rfl ⟨rfl, trivial⟩
 refine f_seq ?_
 refine f_region ?_
 refine lv S (rn_assign rfl) rfl ?_; clear S; intro a S
 refine l_done ?_
 replace S := S.nk [] [(0, v_p_l)] [] rfl ⟨rfl, trivial⟩
 refine then_n ?_
 refine f_seq ?_
 refine f_seq ?_
 refine f_region ?_
 refine lv S (rn_move (S.tm rfl)) rfl ?_; clear S; intro a S
 refine lv S (rn_lenT sl_26 (S.tm rfl) (slc_len hs_p_l)) rfl ?_; clear S; intro a S
 refine lv S (rn_gtr (S.tm rfl) rfl) rfl ?_; clear S; intro a S
 refine l_done ?_
 replace S := S.nk [] [(0, v_p_l), (7, .bool (decide (2000 < (p_l.length : Int))))] [] rfl ⟨rfl, rfl, trivial⟩
 refine then_n ?_
 refine f_cond (S.tm rfl) (fun hb1 => ?_) (fun hb1 => ?_)
 ·replace h := iteT h hb1
  refine f_seq ?_
  refine f_region ?_
  refine lv S (rn_assign rfl) rfl ?_; clear S; intro a S
  refine l_done ?_
  replace S := S.nk [] [(2, .int .i64 2)] [] rfl ⟨rfl, trivial⟩
  refine then_n ?_
  refine wp_ret ?_
  refine then_r ?_
  obtain rfl := Option.some.inj h
  exact f_ret S Tryd.results17 rfl rfl
 ·replace h := iteF h hb1
  refine wp_skip ?_
  refine then_n ?_
  refine f_seq ?_
  refine f_seq ?_
  refine f_region ?_
  refine lv S (rn_move (S.tm rfl)) rfl ?_; clear S; intro a S
  refine lv S (rn_lenT sl_26 (S.tm rfl) (slc_len hs_p_l)) rfl ?_; clear S; intro a S
  refine lv S (rn_move rfl) rfl ?_; clear S; intro a S
  refine l_done ?_
  replace S := S.nk [] [(8, v_p_l), (9, .int .i64 (p_l.length : Int)), (10, .int .i64 0)] [] rfl ⟨rfl, rfl, rfl, trivial⟩
  refine then_n ?_
  obtain ⟨j1, hj1, h⟩ := joinE h
  refine f_join (fun a w' => j1 = some r ∧ Sx w [] nov [] [] 37 a w') ?_ ?_
  ·refine wp_block ?_
   refine f_loop (fun (ys1 : List GMark) a w' => ∃ i1 : Nat, (∃ dn, p_l = dn ++ ys1 ∧ dn.length = i1) ∧ swimmer_CheckMarks_l1 j1 ys1 i1 = some r ∧ Sx w [] nov [] [(8, v_p_l), (9, .int .i64 (p_l.length : Int)), (10, .int .i64 (i1 : Int))] 37 a w') List.length p_l ⟨0, ⟨[], rfl, rfl⟩, h, S.nf [] rfl ⟨rfl, rfl, rfl, trivial⟩⟩ ?_
   clear S h; rintro ys1 a w1 ⟨i1, ⟨dn, hd1, hi1⟩, h, S⟩
   cases ys1 with
   | nil =>
    rw [swimmer_CheckMarks_l1.eq_1] at h
    refine f_seq ?_
    refine f_region ?_
    refine lv S (rn_lss (S.tm rfl) (S.tm rfl)) rfl ?_; clear S; intro a S
    refine l_done ?_
    replace S := S.nk [] [(8, v_p_l), (9, .int .i64 (p_l.length : Int)), (10, .int .i64 (i1 : Int)), (11, .bool (decide ((i1 : Int) < (p_l.length : Int))))] [] rfl ⟨rfl, rfl, rfl, rfl, trivial⟩
    refine then_n ?_
    refine f_seq ?_
    refine wp_cond_false ((S.tm rfl).trans (congrArg Value.bool (rng_nil hd1 hi1))) ?_
    refine wp_exit ?_
    refine then_x ?_
    refine then_x ?_
    refine x_same ?_
    refine then_n ?_
    exact ⟨h, S.nf [] rfl trivial⟩
   | cons y1 ys1 =>
    rw [swimmer_CheckMarks_l1.eq_2] at h
    refine f_seq ?_
    refine f_region ?_
    refine lv S (rn_lss (S.tm rfl) (S.tm rfl)) rfl ?_; clear S; intro a S
    refine l_done ?_
    replace S := S.nk [] [(8, v_p_l), (9, .int .i64 (p_l.length : Int)), (10, .int .i64 (i1 : Int)), (11, .bool (decide ((i1 : Int) < (p_l.length : Int))))] [] rfl ⟨rfl, rfl, rfl, rfl, trivial⟩
    refine then_n ?_
    refine f_seq ?_
    refine wp_cond_true ((S.tm rfl).trans (congrArg Value.bool (rng_cons hd1 hi1))) ?_
    refine wp_skip ?_
    refine then_n ?_
    refine f_seq ?_
    refine wp_block ?_
    refine f_seq ?_
    refine f_region ?_
    obtain ⟨b1, o1, hm1, hr1⟩ := rn_indexT (a := a) (x := .tmp 8) (y := .tmp 10) (ty := 0) sl_26 hs_p_l (get_mid hd1 hi1) rfl (S.tm rfl) (S.tm rfl)
    refine lv S (hr1 _) rfl ?_; clear S; intro a S
    clear hr1
    refine lv S (rn_ldA Tryd.isAgg34 Tryd.sizeOf34 (off := o1) (o := 0) (part := [.string y1.Who, .string y1.Race, .int .i64 y1.Day, .int .i64 y1.Time]) rfl rfl (S.tm rfl) (hm1.at S.emb0)) rfl ?_; clear S; intro a S
    refine l_alloc S Tryd.zeroValue34 (cs := [.string k_empty, .string k_empty, .int .i64 0, .int .i64 0]) rfl rfl ?_; clear S; intro a w3 b2 hz1 hk1 S
    refine l_store S (S.tm rfl) (S.tm rfl) (i := 0) (off := 0) rfl Tryd.sizeOf34 (vs := [.string y1.Who, .string y1.Race, .int .i64 y1.Day, .int .i64 y1.Time]) rfl rfl rfl rfl ?_; clear S; intro w4 hk2 S
    refine l_done ?_
    replace S := S.nk [.blk b2 [.string y1.Who, .string y1.Race, .int .i64 y1.Day, .int .i64 y1.Time] 34] [(4, .pointer (some ⟨b2, 0, none⟩)), (8, v_p_l), (9, .int .i64 (p_l.length : Int)), (10, .int .i64 (i1 : Int))] [true] rfl ⟨rfl, rfl, rfl, rfl, trivial⟩
    refine then_n ?_
    refine wp_block ?_
    refine f_seq ?_
    refine f_region ?_
    refine lv S (rn_fld fa_34_0 (S.tm rfl)) rfl ?_; clear S; intro a S
    refine lv S (rn_load Tryd.isAgg9 (S.tm rfl) (S.cell (i := 0) rfl rfl)) rfl ?_; clear S; intro a S
    obtain ⟨r1, hr2, h⟩ := bindE h
    refine l_enter S (fun _ => run_call (vs := [.string y1.Who]) ⟨(S.tm rfl), trivial⟩ Tryd.call24) (words_IsKey_ok _ y1.Who _ hr2) rfl ?_; clear S; intro v1 a w5 hv1 hk3 hn1 S
    subst hv1
    refine lv S (rn_not (S.tm rfl)) rfl ?_; clear S; intro a S
    refine lv S (rn_move (S.tm rfl)) rfl ?_; clear S; intro a S
    obtain ⟨j2, hj2, h⟩ := joinE h
    refine f_cutm 5 (fun a w' => ∃ c1, j2 c1 = some r ∧ Keep [] w5 w' ∧ Sx w [] nov [.blk b2 [.string y1.Who, .string y1.Race, .int .i64 y1.Day, .int .i64 y1.Time] 34] [(4, .pointer (some ⟨b2, 0, none⟩)), (8, v_p_l), (9, .int .i64 (p_l.length : Int)), (10, .int .i64 (i1 : Int)), (24, .bool c1)] 37 a w') ?_ ?_
    ·rcases Bool.eq_false_or_eq_true (!r1) with hb2 | hb2
     ·replace h := iteT h hb2
      refine l_skip S rfl rfl rfl (neq_t hb2) rfl ?_ rfl; clear S; intro a S
      refine l_skip S rfl rfl rfl (neq_t hb2) rfl ?_ rfl; clear S; intro a S
      refine l_skip S rfl rfl rfl (neq_t hb2) rfl ?_ rfl; clear S; intro a S
      refine l_skip S rfl rfl rfl (neq_t hb2) rfl ?_ rfl; clear S; intro a S
      refine lv S (rn_or_t true hb2 (S.tm rfl) rfl) rfl ?_; clear S; intro a S
      refine l_done ?_
      refine then_n ?_
      exact ⟨_, h, Keep.refl _ _, S.nf [true] rfl ⟨rfl, rfl, rfl, rfl, rfl, trivial⟩⟩
     ·replace h := iteF h hb2
      refine l_want S rfl rfl rfl hb2 ?_
      refine lv S (rn_fld fa_34_1 (S.tm rfl)) rfl ?_; clear S; intro a S
      refine l_want S rfl rfl rfl hb2 ?_
      refine lv S (rn_load Tryd.isAgg9 (S.tm rfl) (S.cell (i := 0) rfl rfl)) rfl ?_; clear S; intro a S
      refine l_want S rfl rfl rfl hb2 ?_
      obtain ⟨r2, hr3, h⟩ := bindE h
      refine l_enter S (fun _ => run_call (vs := [.string y1.Race]) ⟨(S.tm rfl), trivial⟩ Tryd.call24) (words_IsKey_ok _ y1.Race _ hr3) rfl ?_; clear S; intro v2 a w7 hv2 hk4 hn2 S
      subst hv2
      refine l_want S rfl rfl rfl hb2 ?_
      refine lv S (rn_not (S.tm rfl)) rfl ?_; clear S; intro a S
      refine lv S (rn_or_f hb2 (S.tm rfl) (S.tm rfl)) rfl ?_; clear S; intro a S
      refine l_done ?_
      refine then_n ?_
      exact ⟨_, h, hk4, S.nf [true] rfl ⟨rfl, rfl, rfl, rfl, rfl, trivial⟩⟩
    clear S h; rintro a w6 ⟨c1, h, hk5, S⟩; rw [hj2] at h; clear hj2 j2
    refine lv S (rn_assign (S.tm rfl)) rfl ?_; clear S; intro a S
    refine l_done ?_
    replace S := S.nk [.blk b2 [.string y1.Who, .string y1.Race, .int .i64 y1.Day, .int .i64 y1.Time] 34] [(4, .pointer (some ⟨b2, 0, none⟩)), (8, v_p_l), (9, .int .i64 (p_l.length : Int)), (10, .int .i64 (i1 : Int)), (14, .bool c1)] [true] rfl ⟨rfl, rfl, rfl, rfl, rfl, trivial⟩
    refine then_n ?_
    refine f_cond (S.tm rfl) (fun hb3 => ?_) (fun hb3 => ?_)
    ·replace h := iteT h hb3
     refine f_seq ?_
     refine f_region ?_
     refine lv S (rn_assign rfl) rfl ?_; clear S; intro a S
     refine l_done ?_
     replace S := S.nk [] [(2, .int .i64 5)] [false] rfl ⟨rfl, trivial⟩
     refine then_n ?_
     refine wp_ret ?_
     refine blk_r ?_
     refine blk_r ?_
     refine then_r ?_
     refine then_r ?_
     refine blk_r ?_
     refine then_r ?_
     refine then_r ?_
     obtain rfl := Option.some.inj h
     exact f_ret S Tryd.results17 rfl rfl
    ·replace h := iteF h hb3
     refine f_seq ?_
     refine f_region ?_
     refine lv S (rn_fld fa_34_2 (S.tm rfl)) rfl ?_; clear S; intro a S
     refine lv S (rn_load Tryd.isAgg3 (S.tm rfl) (S.cell (i := 0) rfl rfl)) rfl ?_; clear S; intro a S
     refine l_enter S (fun _ => run_call (vs := [.int .i64 y1.Day]) ⟨(S.tm rfl), trivial⟩ Tryd.call36) (swimmer_isDay_ok _ y1.Day _ rfl) rfl ?_; clear S; intro v3 a w8 hv3 hk6 hn3 S
     subst hv3
     refine lv S (rn_not (S.tm rfl)) rfl ?_; clear S; intro a S
     refine lv S (rn_move (S.tm rfl)) rfl ?_; clear S; intro a S
     refine f_cutm 5 (fun a w' => Keep [] w8 w' ∧ Sx w [] nov [.blk b2 [.string y1.Who, .string y1.Race, .int .i64 y1.Day, .int .i64 y1.Time] 34] [(8, v_p_l), (9, .int .i64 (p_l.length : Int)), (10, .int .i64 (i1 : Int)), (35, .bool ((!(swimmer_isDay y1.Day)) || (!(timing_IsTime y1.Time))))] 37 a w') ?_ ?_
     ·rcases Bool.eq_false_or_eq_true (!(swimmer_isDay y1.Day)) with hb4 | hb4
      ·refine l_skip S rfl rfl rfl (neq_t hb4) rfl ?_ rfl; clear S; intro a S
       refine l_skip S rfl rfl rfl (neq_t hb4) rfl ?_ rfl; clear S; intro a S
       refine l_skip S rfl rfl rfl (neq_t hb4) rfl ?_ rfl; clear S; intro a S
       refine l_skip S rfl rfl rfl (neq_t hb4) rfl ?_ rfl; clear S; intro a S
       refine lv S (rn_or_t (!(timing_IsTime y1.Time)) hb4 (S.tm rfl) rfl) rfl ?_; clear S; intro a S
       refine l_done ?_
       refine then_n ?_
       exact ⟨Keep.refl _ _, S.nf [true] rfl ⟨rfl, rfl, rfl, rfl, trivial⟩⟩
      ·refine l_want S rfl rfl rfl hb4 ?_
       refine lv S (rn_fld fa_34_3 (S.tm rfl)) rfl ?_; clear S; intro a S
       refine l_want S rfl rfl rfl hb4 ?_
       refine lv S (rn_load Tryd.isAgg3 (S.tm rfl) (S.cell (i := 0) rfl rfl)) rfl ?_; clear S; intro a S
       refine l_want S rfl rfl rfl hb4 ?_
       refine l_enter S (fun _ => run_call (vs := [.int .i64 y1.Time]) ⟨(S.tm rfl), trivial⟩ Tryd.call37) (timing_IsTime_ok _ y1.Time _ rfl) rfl ?_; clear S; intro v4 a w10 hv4 hk7 hn4 S
       subst hv4
       refine l_want S rfl rfl rfl hb4 ?_
       refine lv S (rn_not (S.tm rfl)) rfl ?_; clear S; intro a S
       refine lv S (rn_or_f hb4 (S.tm rfl) (S.tm rfl)) rfl ?_; clear S; intro a S
       refine l_done ?_
       refine then_n ?_
       exact ⟨hk7, S.nf [true] rfl ⟨rfl, rfl, rfl, rfl, trivial⟩⟩
     clear S; rintro a w9 ⟨hk8, S⟩
     refine lv S (rn_assign (S.tm rfl)) rfl ?_; clear S; intro a S
     refine l_done ?_
     replace S := S.nk [] [(8, v_p_l), (9, .int .i64 (p_l.length : Int)), (10, .int .i64 (i1 : Int)), (25, .bool ((!(swimmer_isDay y1.Day)) || (!(timing_IsTime y1.Time))))] [false] rfl ⟨rfl, rfl, rfl, rfl, trivial⟩
     refine then_n ?_
     refine f_cond (S.tm rfl) (fun hb5 => ?_) (fun hb5 => ?_)
     ·replace h := iteT h hb5
      refine f_seq ?_
      refine f_region ?_
      refine lv S (rn_assign rfl) rfl ?_; clear S; intro a S
      refine l_done ?_
      replace S := S.nk [] [(2, .int .i64 1)] [] rfl ⟨rfl, trivial⟩
      refine then_n ?_
      refine wp_ret ?_
      refine blk_r ?_
      refine blk_r ?_
      refine then_r ?_
      refine then_r ?_
      refine blk_r ?_
      refine then_r ?_
      refine then_r ?_
      obtain rfl := Option.some.inj h
      exact f_ret S Tryd.results17 rfl rfl
     ·replace h := iteF h hb5
      refine wp_skip ?_
      refine blk_n ?_
      refine blk_n ?_
      refine then_n ?_
      refine f_region ?_
      refine lv S (rn_add (S.tm rfl) rfl) rfl ?_; clear S; intro a S
      refine lv S (rn_move (S.tm rfl)) rfl ?_; clear S; intro a S
      refine l_done ?_
      replace S := S.nk [] [(8, v_p_l), (9, .int .i64 (p_l.length : Int)), (10, .int .i64 (W ((i1 : Int) + 1)))] [] rfl ⟨rfl, rfl, rfl, trivial⟩
      refine then_n ?_
      exact ⟨ys1, ⟨i1 + 1, ⟨_, (hd1).trans (List.append_cons _ _ _), by simp [hi1]⟩, h, S.nf [] rfl ⟨rfl, rfl, (congrArg (fun z => some (Value.int .i64 z)) (rng_next hd1 hi1 (slc_max hs_p_l))), trivial⟩⟩, Nat.lt_succ_self _⟩
  clear S h; rintro a w2 ⟨h, S⟩; rw [hj1] at h; clear hj1 j1
  refine then_n ?_
  refine f_seq ?_
  refine f_region ?_
  refine lv S (rn_assign rfl) rfl ?_; clear S; intro a S
  refine l_done ?_
  replace S := S.nk [] [(2, .int .i64 0)] [] rfl ⟨rfl, trivial⟩
  refine then_n ?_
  refine wp_ret ?_
  obtain rfl := Option.some.inj h
  exact f_ret S Tryd.results17 rfl rfl
theorem cmp_isNaN_int_ok (w : World) (p_x : Int) (r : Bool) (h : cmp_isNaN_int p_x = r) :
    Calls Tryd.prog 55 [.int .i64 p_x].toArray w (Ret w [] fun _ v _ => v = .bool r) := by
 refine f_enter [] [] Tryd.func55 rfl Tryd.ntmps55 rfl (by simp) (by simp [fps]) (by simp [fps]) fun a S => ?_
 unfold cmp_isNaN_int at h
 replace S := S.nk [] [(0, .int .i64 p_x)] [] rfl ⟨rfl, trivial⟩
 refine f_seq ?_
 refine f_region ?_
 refine lv S (rn_assign rfl) rfl ?_; clear S; intro a S
 refine l_done ?_
 replace S := S.nk [] [(0, .int .i64 p_x)] [] rfl ⟨rfl, trivial⟩
 refine then_n ?_
 refine f_seq ?_
 refine f_region ?_
 refine lv S (rn_move (S.tm rfl)) rfl ?_; clear S; intro a S
 refine lv S (rn_move (S.tm rfl)) rfl ?_; clear S; intro a S
 refine lv S (rn_neq (S.tm rfl) (S.tm rfl)) rfl ?_; clear S; intro a S
 refine lv S (rn_assign (S.tm rfl)) rfl ?_; clear S; intro a S
 refine l_done ?_
 replace S := S.nk [] [(2, .bool (!decide (p_x = p_x)))] [] rfl ⟨rfl, trivial⟩
 refine then_n ?_
 refine wp_ret ?_
 subst h
 exact f_ret S Tryd.results55 rfl rfl
theorem cmp_Compare_int_ok (w : World) (p_x : Int) (p_y : Int) (r : Int) (h : cmp_Compare_int p_x p_y = r) :
    Calls Tryd.prog 42 [.int .i64 p_x, .int .i64 p_y].toArray w (Ret w [] fun _ v _ => v = .int .i64 r) := by
 refine f_enter [] [] Tryd.func42 rfl Tryd.ntmps42 rfl (by simp) (by simp [fps]) (by simp [fps]) fun a S => ?_
 unfold cmp_Compare_int at h
 replace S := S.nk [] [(0, .int .i64 p_x), (1, .int .i64 p_y)] [] rfl ⟨rfl, rfl, trivial⟩
 refine f_seq ?_
 refine f_region ?_
 refine lv S (rn_assign rfl) rfl ?_; clear S; intro a S
 refine l_done ?_
 replace S := S.nk [] [(0, .int .i64 p_x), (1, .int .i64 p_y)] [] rfl ⟨rfl, rfl, trivial⟩
 refine then_n ?_
 refine f_seq ?_
 refine f_region ?_
 refine lv S (rn_move (S.tm rfl)) rfl ?_; clear S; intro a S
 refine l_enter S (fun _ => run_call (vs := [.int .i64 p_x]) ⟨(S.tm rfl), trivial⟩ Tryd.call55) (cmp_isNaN_int_ok _ p_x _ rfl) rfl ?_; clear S; intro v1 a w1 hv1 hk1 hn1 S
 subst hv1
 refine lv S (rn_assign (S.tm rfl)) rfl ?_; clear S; intro a S
 refine l_done ?_
 replace S := S.nk [] [(0, .int .i64 p_x), (1, .int .i64 p_y), (5, .bool (cmp_isNaN_int p_x))] [] rfl ⟨rfl, rfl, rfl, trivial⟩
 refine then_n ?_
 refine f_seq ?_
 refine f_region ?_
 refine lv S (rn_move (S.tm rfl)) rfl ?_; clear S; intro a S
 refine l_enter S (fun _ => run_call (vs := [.int .i64 p_y]) ⟨(S.tm rfl), trivial⟩ Tryd.call55) (cmp_isNaN_int_ok _ p_y _ rfl) rfl ?_; clear S; intro v2 a w2 hv2 hk2 hn2 S
 subst hv2
 refine lv S (rn_assign (S.tm rfl)) rfl ?_; clear S; intro a S
 refine l_done ?_
 replace S := S.nk [] [(0, .int .i64 p_x), (1, .int .i64 p_y), (5, .bool (cmp_isNaN_int p_x)), (6, .bool (cmp_isNaN_int p_y))] [] rfl ⟨rfl, rfl, rfl, rfl, trivial⟩
 refine then_n ?_
 refine f_seq ?_
 refine f_seq ?_
 refine f_region ?_
 refine lv S (rn_move (S.tm rfl)) rfl ?_; clear S; intro a S
 refine l_done ?_
 replace S := S.nk [] [(0, .int .i64 p_x), (1, .int .i64 p_y), (6, .bool (cmp_isNaN_int p_y)), (11, .bool (cmp_isNaN_int p_x))] [] rfl ⟨rfl, rfl, rfl, rfl, trivial⟩
 refine then_n ?_
 refine f_cond (S.tm rfl) (fun hb1 => ?_) (fun hb1 => ?_)
 ·replace h := iteT h hb1
  refine f_seq ?_
  refine f_seq ?_
  refine f_region ?_
  refine lv S (rn_move (S.tm rfl)) rfl ?_; clear S; intro a S
  refine l_done ?_
  replace S := S.nk [] [(12, .bool (cmp_isNaN_int p_y))] [] rfl ⟨rfl, trivial⟩
  refine then_n ?_
  refine f_cond (S.tm rfl) (fun hb2 => ?_) (fun hb2 => ?_)
  ·replace h := iteT h hb2
   refine f_seq ?_
   refine f_region ?_
   refine lv S (rn_assign rfl) rfl ?_; clear S; intro a S
   refine l_done ?_
   replace S := S.nk [] [(4, .int .i64 0)] [] rfl ⟨rfl, trivial⟩
   refine then_n ?_
   refine wp_ret ?_
   refine then_r ?_
   refine then_r ?_
   subst h
   exact f_ret S Tryd.results42 rfl rfl
  ·replace h := iteF h hb2
   refine wp_skip ?_
   refine then_n ?_
   refine f_seq ?_
   refine f_region ?_
   refine lv S (rn_assign rfl) rfl ?_; clear S; intro a S
   refine l_done ?_
   replace S := S.nk [] [(4, .int .i64 (-1))] [] rfl ⟨rfl, trivial⟩
   refine then_n ?_
   refine wp_ret ?_
   refine then_r ?_
   subst h
   exact f_ret S Tryd.results42 rfl rfl
 ·replace h := iteF h hb1
  refine wp_skip ?_
  refine then_n ?_
  refine f_seq ?_
  refine f_seq ?_
  refine f_region ?_
  refine lv S (rn_move (S.tm rfl)) rfl ?_; clear S; intro a S
  refine l_done ?_
  replace S := S.nk [] [(0, .int .i64 p_x), (1, .int .i64 p_y), (13, .bool (cmp_isNaN_int p_y))] [] rfl ⟨rfl, rfl, rfl, trivial⟩
  refine then_n ?_
  refine f_cond (S.tm rfl) (fun hb3 => ?_) (fun hb3 => ?_)
  ·replace h := iteT h hb3
   refine f_seq ?_
   refine f_region ?_
   refine lv S (rn_assign rfl) rfl ?_; clear S; intro a S
   refine l_done ?_
   replace S := S.nk [] [(4, .int .i64 1)] [] rfl ⟨rfl, trivial⟩
   refine then_n ?_
   refine wp_ret ?_
   refine then_r ?_
   subst h
   exact f_ret S Tryd.results42 rfl rfl
  ·replace h := iteF h hb3
   refine wp_skip ?_
   refine then_n ?_
   refine f_seq ?_
   refine f_seq ?_
   refine f_region ?_
   refine lv S (rn_move (S.tm rfl)) rfl ?_; clear S; intro a S
   refine lv S (rn_move (S.tm rfl)) rfl ?_; clear S; intro a S
   refine lv S (rn_lss (S.tm rfl) (S.tm rfl)) rfl ?_; clear S; intro a S
   refine l_done ?_
   replace S := S.nk [] [(0, .int .i64 p_x), (1, .int .i64 p_y), (16, .bool (decide (p_x < p_y)))] [] rfl ⟨rfl, rfl, rfl, trivial⟩
   refine then_n ?_
   refine f_cond (S.tm rfl) (fun hb4 => ?_) (fun hb4 => ?_)
   ·replace h := iteT h hb4
    refine f_seq ?_
    refine f_region ?_
    refine lv S (rn_assign rfl) rfl ?_; clear S; intro a S
    refine l_done ?_
    replace S := S.nk [] [(4, .int .i64 (-1))] [] rfl ⟨rfl, trivial⟩
    refine then_n ?_
    refine wp_ret ?_
    refine then_r ?_
    subst h
    exact f_ret S Tryd.results42 rfl rfl
   ·replace h := iteF h hb4
    refine wp_skip ?_
    refine then_n ?_
    refine f_seq ?_
    refine f_seq ?_
    refine f_region ?_
    refine lv S (rn_move (S.tm rfl)) rfl ?_; clear S; intro a S
    refine lv S (rn_move (S.tm rfl)) rfl ?_; clear S; intro a S
    refine lv S (rn_gtr (S.tm rfl) (S.tm rfl)) rfl ?_; clear S; intro a S
    refine l_done ?_
    replace S := S.nk [] [(19, .bool (decide (p_y < p_x)))] [] rfl ⟨rfl, trivial⟩
    refine then_n ?_
    refine f_cond (S.tm rfl) (fun hb5 => ?_) (fun hb5 => ?_)
    ·replace h := iteT h hb5
     refine f_seq ?_
     refine f_region ?_
     refine lv S (rn_assign rfl) rfl ?_; clear S; intro a S
     refine l_done ?_
     replace S := S.nk [] [(4, .int .i64 1)] [] rfl ⟨rfl, trivial⟩
     refine then_n ?_
     refine wp_ret ?_
     refine then_r ?_
     subst h
     exact f_ret S Tryd.results42 rfl rfl
    ·replace h := iteF h hb5
     refine wp_skip ?_
     refine then_n ?_
     refine f_seq ?_
     refine f_region ?_
     refine lv S (rn_assign rfl) rfl ?_; clear S; intro a S
     refine l_done ?_
     replace S := S.nk [] [(4, .int .i64 0)] [] rfl ⟨rfl, trivial⟩
     refine then_n ?_
     refine wp_ret ?_
     subst h
     exact f_ret S Tryd.results42 rfl rfl
theorem cmp_Or_int_ok (w : World) (v_p_vals : Value) (p_vals : List Int) (hs_p_vals : Slc (view w []) 1 v_p_vals (p_vals.map eInt)) (r : Int) (h : cmp_Or_int p_vals = r) :
    Calls Tryd.prog 41 [v_p_vals].toArray w (Ret w [] fun _ v _ => v = .int .i64 r) := by
 refine f_enter [] [] Tryd.func41 rfl Tryd.ntmps41 rfl (by simp) (by simp [fps]) (by simp [fps]) fun a S => ?_
 unfold cmp_Or_int at h
 replace S := S.nk [] [(0, v_p_vals)] [] rfl ⟨rfl, trivial⟩
 refine f_seq ?_
 refine f_region ?_
 refine lv S (rn_assign rfl) rfl ?_; clear S; intro a S
 refine l_done ?_
 replace S := S.nk [] [(0, v_p_vals)] [] rfl ⟨rfl, trivial⟩
 refine then_n ?_
 refine f_seq ?_
 refine f_region ?_
 refine lv S (rn_assign rfl) rfl ?_; clear S; intro a S
 refine l_done ?_
 replace S := S.nk [] [(0, v_p_vals), (3, .int .i64 0)] [] rfl ⟨rfl, rfl, trivial⟩
 refine then_n ?_
 refine f_seq ?_
 refine f_seq ?_
 refine f_region ?_
 refine lv S (rn_move (S.tm rfl)) rfl ?_; clear S; intro a S
 refine lv S (rn_lenT sl_22 (S.tm rfl) (slc_len hs_p_vals)) rfl ?_; clear S; intro a S
 refine lv S (rn_move rfl) rfl ?_; clear S; intro a S
 refine l_done ?_
 replace S := S.nk [] [(3, .int .i64 0), (6, v_p_vals), (7, .int .i64 (p_vals.length : Int)), (8, .int .i64 0)] [] rfl ⟨rfl, rfl, rfl, rfl, trivial⟩
 refine then_n ?_
 obtain ⟨j1, hj1, h⟩ := joinE h
 refine f_join (fun a w' => j1 = r ∧ Sx w [] nov [] [(3, .int .i64 0)] 18 a w') ?_ ?_
 ·refine wp_block ?_
  refine f_loop (fun (ys1 : List Int) a w' => ∃ i1 : Nat, (∃ dn, p_vals = dn ++ ys1 ∧ dn.length = i1) ∧ cmp_Or_int_l1 j1 ys1 i1 = r ∧ Sx w [] nov [] [(3, .int .i64 0), (6, v_p_vals), (7, .int .i64 (p_vals.length : Int)), (8, .int .i64 (i1 : Int))] 18 a w') List.length p_vals ⟨0, ⟨[], rfl, rfl⟩, h, S.nf [] rfl ⟨rfl, rfl, rfl, rfl, trivial⟩⟩ ?_
  clear S h; rintro ys1 a w1 ⟨i1, ⟨dn, hd1, hi1⟩, h, S⟩
  cases ys1 with
  | nil =>
   rw [cmp_Or_int_l1.eq_1] at h
   refine f_seq ?_
   refine f_region ?_
   refine lv S (rn_lss (S.tm rfl) (S.tm rfl)) rfl ?_; clear S; intro a S
   refine l_done ?_
   replace S := S.nk [] [(3, .int .i64 0), (6, v_p_vals), (7, .int .i64 (p_vals.length : Int)), (8, .int .i64 (i1 : Int)), (9, .bool (decide ((i1 : Int) < (p_vals.length : Int))))] [] rfl ⟨rfl, rfl, rfl, rfl, rfl, trivial⟩
   refine then_n ?_
   refine f_seq ?_
   refine wp_cond_false ((S.tm rfl).trans (congrArg Value.bool (rng_nil hd1 hi1))) ?_
   refine wp_exit ?_
   refine then_x ?_
   refine then_x ?_
   refine x_same ?_
   refine then_n ?_
   exact ⟨h, S.nf [] rfl ⟨rfl, trivial⟩⟩
  | cons y1 ys1 =>
   rw [cmp_Or_int_l1.eq_2] at h
   refine f_seq ?_
   refine f_region ?_
   refine lv S (rn_lss (S.tm rfl) (S.tm rfl)) rfl ?_; clear S; intro a S
   refine l_done ?_
   replace S := S.nk [] [(3, .int .i64 0), (6, v_p_vals), (7, .int .i64 (p_vals.length : Int)), (8, .int .i64 (i1 : Int)), (9, .bool (decide ((i1 : Int) < (p_vals.length : Int))))] [] rfl ⟨rfl, rfl, rfl, rfl, rfl, trivial⟩
   refine then_n ?_
   refine f_seq ?_
   refine wp_cond_true ((S.tm rfl).trans (congrArg Value.bool (rng_cons hd1 hi1))) ?_
   refine wp_skip ?_
   refine then_n ?_
   refine f_seq ?_
   refine wp_block ?_
   refine f_seq ?_
   refine f_region ?_
   obtain ⟨b1, o1, hm1, hr1⟩ := rn_indexT (a := a) (x := .tmp 6) (y := .tmp 8) (ty := 0) sl_22 hs_p_vals (get_mid hd1 hi1) rfl (S.tm rfl) (S.tm rfl)
   refine lv S (hr1 _) rfl ?_; clear S; intro a S
   clear hr1
   refine lv S (rn_ld Tryd.isAgg3 (off := o1) (o := 0) (S.tm rfl) (hm1.at S.emb0) rfl) rfl ?_; clear S; intro a S
   refine lv S (rn_assign (S.tm rfl)) rfl ?_; clear S; intro a S
   refine l_done ?_
   replace S := S.nk [] [(3, .int .i64 0), (5, .int .i64 y1), (6, v_p_vals), (7, .int .i64 (p_vals.length : Int)), (8, .int .i64 (i1 : Int))] [] rfl ⟨rfl, rfl, rfl, rfl, rfl, trivial⟩
   refine then_n ?_
   refine f_seq ?_
   refine f_region ?_
   refine lv S (rn_move (S.tm rfl)) rfl ?_; clear S; intro a S
   refine lv S (rn_move (S.tm rfl)) rfl ?_; clear S; intro a S
   refine lv S (rn_neq (S.tm rfl) (S.tm rfl)) rfl ?_; clear S; intro a S
   refine l_done ?_
   replace S := S.nk [] [(3, .int .i64 0), (5, .int .i64 y1), (6, v_p_vals), (7, .int .i64 (p_vals.length : Int)), (8, .int .i64 (i1 : Int)), (14, .bool (!decide (y1 = 0)))] [] rfl ⟨rfl, rfl, rfl, rfl, rfl, rfl, trivial⟩
   refine then_n ?_
   refine f_cond (S.tm rfl) (fun hb1 => ?_) (fun hb1 => ?_)
   ·replace h := iteT h hb1
    refine f_seq ?_
    refine f_region ?_
    refine lv S (rn_move (S.tm rfl)) rfl ?_; clear S; intro a S
    refine lv S (rn_assign (S.tm rfl)) rfl ?_; clear S; intro a S
    refine l_done ?_
    replace S := S.nk [] [(2, .int .i64 y1)] [] rfl ⟨rfl, trivial⟩
    refine then_n ?_
    refine wp_ret ?_
    refine blk_r ?_
    refine then_r ?_
    refine then_r ?_
    refine blk_r ?_
    refine then_r ?_
    refine then_r ?_
    subst h
    exact f_ret S Tryd.results41 rfl rfl
   ·replace h := iteF h hb1
    refine wp_skip ?_
    refine blk_n ?_
    refine then_n ?_
    refine f_region ?_
    refine lv S (rn_add (S.tm rfl) rfl) rfl ?_; clear S; intro a S
    refine lv S (rn_move (S.tm rfl)) rfl ?_; clear S; intro a S
    refine l_done ?_
    replace S := S.nk [] [(3, .int .i64 0), (6, v_p_vals), (7, .int .i64 (p_vals.length : Int)), (8, .int .i64 (W ((i1 : Int) + 1)))] [] rfl ⟨rfl, rfl, rfl, rfl, trivial⟩
    refine then_n ?_
    exact ⟨ys1, ⟨i1 + 1, ⟨_, (hd1).trans (List.append_cons _ _ _), by simp [hi1]⟩, h, S.nf [] rfl ⟨rfl, rfl, rfl, (congrArg (fun z => some (Value.int .i64 z)) (rng_next hd1 hi1 (slc_max hs_p_vals))), trivial⟩⟩, Nat.lt_succ_self _⟩
 clear S h; rintro a w2 ⟨h, S⟩; rw [hj1] at h; clear hj1 j1
 refine then_n ?_
 refine f_seq ?_
 refine f_region ?_
 refine lv S (rn_move (S.tm rfl)) rfl ?_; clear S; intro a S
 refine lv S (rn_assign (S.tm rfl)) rfl ?_; clear S; intro a S
 refine l_done ?_
 replace S := S.nk [] [(2, .int .i64 0)] [] rfl ⟨rfl, trivial⟩
 refine then_n ?_
 refine wp_ret ?_
 subst h
 exact f_ret S Tryd.results41 rfl rfl
set_option maxRecDepth 20000 in
theorem swimmer_best_ok (w : World) (v_p_l : Value) (p_l : List GMark) (hs_p_l : Slc (view w []) 4 v_p_l (p_l.map GMark.enc)) (p_race : ByteArray) (p_who : ByteArray) (p_from : Int) (p_to : Int) (r : GMark × Bool) (h : swimmer_best p_l p_race p_who p_from p_to = r) :
    Calls Tryd.prog 26 [v_p_l, .string p_race, .string p_who, .int .i64 p_from, .int .i64 p_to].toArray w (Ret w [] fun _ v _ => v = .tuple #[.agg (GMark.enc r.1).toArray, .bool r.2]) := by
 refine f_enter [] [] Tryd.func26 rfl Tryd.ntmps26 rfl (by simp) (by simp [fps]) (by simp [fps]) fun a S => ?_
 unfold swimmer_best at h
 replace S := S.nk [] [(0, v_p_l), (1, .string p_race), (2, .string p_who), (3, .int .i64 p_from), (4, .int .i64 p_to)] [] rfl ⟨rfl, rfl, rfl, rfl, rfl, trivial⟩
 refine f_seq ?_
 refine f_region ?_
 refine l_alloc S Tryd.zeroValue34 (cs := [.string k_empty, .string k_empty, .int .i64 0, .int .i64 0]) rfl rfl ?_; clear S; intro a w1 b1 hz1 hk1 S
 refine lv S (rn_assign rfl) rfl ?_; clear S; intro a S
 refine l_done ?_
 replace S := S.nk [.blk b1 [.string k_empty, .string k_empty, .int .i64 0, .int .i64 0] 34] [(0, v_p_l), (1, .string p_race), (2, .string p_who), (3, .int .i64 p_from), (4, .int .i64 p_to), (10, .pointer (some ⟨b1, 0, none⟩))] [true] rfl ⟨rfl, rfl, rfl, rfl, rfl, rfl, trivial⟩
 refine then_n ?_
 refine f_seq ?_
 refine f_region ?_
 refine l_alloc S Tryd.zeroValue34 (cs := [.string k_empty, .string k_empty, .int .i64 0, .int .i64 0]) rfl rfl ?_; clear S; intro a w2 b2 hz2 hk2 S
 refine l_done ?_
 replace S := S.nk [.blk b2 [.string k_empty, .string k_empty, .int .i64 0, .int .i64 0] 34, .blk b1 [.string k_empty, .string k_empty, .int .i64 0, .int .i64 0] 34] [(0, v_p_l), (1, .string p_race), (2, .string p_who), (3, .int .i64 p_from), (4, .int .i64 p_to), (10, .pointer (some ⟨b1, 0, none⟩)), (12, .pointer (some ⟨b2, 0, none⟩))] [true, true] rfl ⟨rfl, rfl, rfl, rfl, rfl, rfl, rfl, trivial⟩
 refine then_n ?_
 refine f_seq ?_
 refine f_region ?_
 refine lv S (rn_assign rfl) rfl ?_; clear S; intro a S
 refine l_done ?_
 replace S := S.nk [.blk b2 [.string k_empty, .string k_empty, .int .i64 0, .int .i64 0] 34, .blk b1 [.string k_empty, .string k_empty, .int .i64 0, .int .i64 0] 34] [(0, v_p_l), (1, .string p_race), (2, .string p_who), (3, .int .i64 p_from), (4, .int .i64 p_to), (10, .pointer (some ⟨b1, 0, none⟩)), (12, .pointer (some ⟨b2, 0, none⟩)), (13, .bool false)] [true, true] rfl ⟨rfl, rfl, rfl, rfl, rfl, rfl, rfl, rfl, trivial⟩
 refine then_n ?_
 refine f_seq ?_
 refine f_seq ?_
 refine f_region ?_
 refine lv S (rn_move (S.tm rfl)) rfl ?_; clear S; intro a S
 refine lv S (rn_lenT sl_26 (S.tm rfl) (slc_len hs_p_l)) rfl ?_; clear S; intro a S
 refine lv S (rn_move rfl) rfl ?_; clear S; intro a S
 refine l_done ?_
 replace S := S.nk [.blk b2 [.string k_empty, .string k_empty, .int .i64 0, .int .i64 0] 34, .blk b1 [.string k_empty, .string k_empty, .int .i64 0, .int .i64 0] 34] [(1, .string p_race), (2, .string p_who), (3, .int .i64 p_from), (4, .int .i64 p_to), (10, .pointer (some ⟨b1, 0, none⟩)), (12, .pointer (some ⟨b2, 0, none⟩)), (13, .bool false), (16, v_p_l), (17, .int .i64 (p_l.length : Int)), (18, .int .i64 0)] [true, true] rfl ⟨rfl, rfl, rfl, rfl, rfl, rfl, rfl, rfl, rfl, rfl, trivial⟩
 refine then_n ?_
 obtain ⟨j1, hj1, h⟩ := joinE h
 refine f_join (fun a w' => ∃ x1 : ByteArray, ∃ x2 : ByteArray, ∃ x3 : Int, ∃ x4 : Int, ∃ x5 : Bool, j1 x1 x2 x3 x4 x5 = r ∧ Sx w [] nov [.blk b2 [.string x1, .string x2, .int .i64 x3, .int .i64 x4] 34, .blk b1 [.string k_empty, .string k_empty, .int .i64 0, .int .i64 0] 34] [(10, .pointer (some ⟨b1, 0, none⟩)), (12, .pointer (some ⟨b2, 0, none⟩)), (13, .bool x5)] 65 a w') ?_ ?_
 ·refine wp_block ?_
  refine f_loop (fun (ys1 : List GMark) a w' => ∃ i1 : Nat, ∃ x1 : ByteArray, ∃ x2 : ByteArray, ∃ x3 : Int, ∃ x4 : Int, ∃ x5 : Bool, (∃ dn, p_l = dn ++ ys1 ∧ dn.length = i1) ∧ swimmer_best_l1 p_race p_who p_from p_to j1 ys1 i1 x1 x2 x3 x4 x5 = r ∧ Sx w [] nov [.blk b2 [.string x1, .string x2, .int .i64 x3, .int .i64 x4] 34, .blk b1 [.string k_empty, .string k_empty, .int .i64 0, .int .i64 0] 34] [(1, .string p_race), (2, .string p_who), (3, .int .i64 p_from), (4, .int .i64 p_to), (10, .pointer (some ⟨b1, 0, none⟩)), (12, .pointer (some ⟨b2, 0, none⟩)), (13, .bool x5), (16, v_p_l), (17, .int .i64 (p_l.length : Int)), (18, .int .i64 (i1 : Int))] 65 a w') List.length p_l ⟨0, k_empty, k_empty, 0, 0, false, ⟨[], rfl, rfl⟩, h, S.nf [true, true] rfl ⟨rfl, rfl, rfl, rfl, rfl, rfl, rfl, rfl, rfl, rfl, trivial⟩⟩ ?_
  clear S h; rintro ys1 a w3 ⟨i1, x1, x2, x3, x4, x5, ⟨dn, hd1, hi1⟩, h, S⟩
  cases ys1 with
  | nil =>
   rw [swimmer_best_l1.eq_1] at h
   refine f_seq ?_
   refine f_region ?_
   refine lv S (rn_lss (S.tm rfl) (S.tm rfl)) rfl ?_; clear S; intro a S
   refine l_done ?_
   replace S := S.nk [.blk b2 [.string x1, .string x2, .int .i64 x3, .int .i64 x4] 34, .blk b1 [.string k_empty, .string k_empty, .int .i64 0, .int .i64 0] 34] [(1, .string p_race), (2, .string p_who), (3, .int .i64 p_from), (4, .int .i64 p_to), (10, .pointer (some ⟨b1, 0, none⟩)), (12, .pointer (some ⟨b2, 0, none⟩)), (13, .bool x5), (16, v_p_l), (17, .int .i64 (p_l.length : Int)), (18, .int .i64 (i1 : Int)), (19, .bool (decide ((i1 : Int) < (p_l.length : Int))))] [true, true] rfl ⟨rfl, rfl, rfl, rfl, rfl, rfl, rfl, rfl, rfl, rfl, rfl, trivial⟩
   refine then_n ?_
   refine f_seq ?_
   refine wp_cond_false ((S.tm rfl).trans (congrArg Value.bool (rng_nil hd1 hi1))) ?_
   refine wp_exit ?_
   refine then_x ?_
   refine then_x ?_
   refine x_same ?_
   refine then_n ?_
   exact ⟨x1, x2, x3, x4, x5, h, S.nf [true, true] rfl ⟨rfl, rfl, rfl, trivial⟩⟩
  | cons y1 ys1 =>
   rw [swimmer_best_l1.eq_2] at h
   refine f_seq ?_
   refine f_region ?_
   refine lv S (rn_lss (S.tm rfl) (S.tm rfl)) rfl ?_; clear S; intro a S
   refine l_done ?_
   replace S := S.nk [.blk b2 [.string x1, .string x2, .int .i64 x3, .int .i64 x4] 34, .blk b1 [.string k_empty, .string k_empty, .int .i64 0, .int .i64 0] 34] [(1, .string p_race), (2, .string p_who), (3, .int .i64 p_from), (4, .int .i64 p_to), (10, .pointer (some ⟨b1, 0, none⟩)), (12, .pointer (some ⟨b2, 0, none⟩)), (13, .bool x5), (16, v_p_l), (17, .int .i64 (p_l.length : Int)), (18, .int .i64 (i1 : Int)), (19, .bool (decide ((i1 : Int) < (p_l.length : Int))))] [true, true] rfl ⟨rfl, rfl, rfl, rfl, rfl, rfl, rfl, rfl, rfl, rfl, rfl, trivial⟩
   refine then_n ?_
   refine f_seq ?_
   refine wp_cond_true ((S.tm rfl).trans (congrArg Value.bool (rng_cons hd1 hi1))) ?_
   refine wp_skip ?_
   refine then_n ?_
   refine f_seq ?_
   obtain ⟨j2, hj2, h⟩ := joinE h
   refine f_join (fun a w' => ∃ x6 : ByteArray, ∃ x7 : ByteArray, ∃ x8 : Int, ∃ x9 : Int, ∃ x10 : Bool, j2 x6 x7 x8 x9 x10 = r ∧ Sx w [] nov [.blk b2 [.string x6, .string x7, .int .i64 x8, .int .i64 x9] 34, .blk b1 [.string k_empty, .string k_empty, .int .i64 0, .int .i64 0] 34] [(1, .string p_race), (2, .string p_who), (3, .int .i64 p_from), (4, .int .i64 p_to), (10, .pointer (some ⟨b1, 0, none⟩)), (12, .pointer (some ⟨b2, 0, none⟩)), (13, .bool x10), (16, v_p_l), (17, .int .i64 (p_l.length : Int)), (18, .int .i64 (i1 : Int))] 65 a w') ?_ ?_
   ·refine wp_block ?_
    refine f_seq ?_
    refine f_region ?_
    obtain ⟨b3, o1, hm1, hr1⟩ := rn_indexT (a := a) (x := .tmp 16) (y := .tmp 18) (ty := 0) sl_26 hs_p_l (get_mid hd1 hi1) rfl (S.tm rfl) (S.tm rfl)
    refine lv S (hr1 _) rfl ?_; clear S; intro a S
    clear hr1
    refine lv S (rn_ldA Tryd.isAgg34 Tryd.sizeOf34 (off := o1) (o := 0) (part := [.string y1.Who, .string y1.Race, .int .i64 y1.Day, .int .i64 y1.Time]) rfl rfl (S.tm rfl) (hm1.at S.emb0)) rfl ?_; clear S; intro a S
    refine l_alloc S Tryd.zeroValue34 (cs := [.string k_empty, .string k_empty, .int .i64 0, .int .i64 0]) rfl rfl ?_; clear S; intro a w6 b4 hz3 hk3 S
    refine l_store S (S.tm rfl) (S.tm rfl) (i := 0) (off := 0) rfl Tryd.sizeOf34 (vs := [.string y1.Who, .string y1.Race, .int .i64 y1.Day, .int .i64 y1.Time]) rfl rfl rfl rfl ?_; clear S; intro w7 hk4 S
    refine l_done ?_
    replace S := S.nk [.blk b4 [.string y1.Who, .string y1.Race, .int .i64 y1.Day, .int .i64 y1.Time] 34, .blk b2 [.string x1, .string x2, .int .i64 x3, .int .i64 x4] 34, .blk b1 [.string k_empty, .string k_empty, .int .i64 0, .int .i64 0] 34] [(1, .string p_race), (2, .string p_who), (3, .int .i64 p_from), (4, .int .i64 p_to), (10, .pointer (some ⟨b1, 0, none⟩)), (12, .pointer (some ⟨b2, 0, none⟩)), (13, .bool x5), (15, .pointer (some ⟨b4, 0, none⟩)), (16, v_p_l), (17, .int .i64 (p_l.length : Int)), (18, .int .i64 (i1 : Int))] [true, true, true] rfl ⟨rfl, rfl, rfl, rfl, rfl, rfl, rfl, rfl, rfl, rfl, rfl, trivial⟩
    refine then_n ?_
    refine f_seq ?_
    refine f_seq ?_
    refine f_region ?_
    refine lv S (rn_fld fa_34_1 (S.tm rfl)) rfl ?_; clear S; intro a S
    refine lv S (rn_load Tryd.isAgg9 (S.tm rfl) (S.cell (i := 0) rfl rfl)) rfl ?_; clear S; intro a S
    refine lv S (rn_move (S.tm rfl)) rfl ?_; clear S; intro a S
    refine lv S (rn_sneq (S.tm rfl) (S.tm rfl)) rfl ?_; clear S; intro a S
    refine lv S (rn_move (S.tm rfl)) rfl ?_; clear S; intro a S
    refine f_cutm 5 (fun a w' => Keep [] w7 w' ∧ Sx w [] nov [.blk b4 [.string y1.Who, .string y1.Race, .int .i64 y1.Day, .int .i64 y1.Time] 34, .blk b2 [.string x1, .string x2, .int .i64 x3, .int .i64 x4] 34, .blk b1 [.string k_empty, .string k_empty, .int .i64 0, .int .i64 0] 34] [(1, .string p_race), (2, .string p_who), (3, .int .i64 p_from), (4, .int .i64 p_to), (10, .pointer (some ⟨b1, 0, none⟩)), (12, .pointer (some ⟨b2, 0, none⟩)), (13, .bool x5), (15, .pointer (some ⟨b4, 0, none⟩)), (16, v_p_l), (17, .int .i64 (p_l.length : Int)), (18, .int .i64 (i1 : Int)), (31, .bool ((!decide (y1.Race = p_race)) || (!decide (y1.Who = p_who))))] 65 a w') ?_ ?_
    ·rcases Bool.eq_false_or_eq_true (!decide (y1.Race = p_race)) with hb1 | hb1
     ·refine l_skip S rfl rfl rfl (neq_t hb1) rfl ?_ rfl; clear S; intro a S
      refine l_skip S rfl rfl rfl (neq_t hb1) rfl ?_ rfl; clear S; intro a S
      refine l_skip S rfl rfl rfl (neq_t hb1) rfl ?_ rfl; clear S; intro a S
      refine l_skip S rfl rfl rfl (neq_t hb1) rfl ?_ rfl; clear S; intro a S
      refine lv S (rn_or_t (!decide (y1.Who = p_who)) hb1 (S.tm rfl) rfl) rfl ?_; clear S; intro a S
      refine l_done ?_
      refine then_n ?_
      exact ⟨Keep.refl _ _, S.nf [true, true, true] rfl ⟨rfl, rfl, rfl, rfl, rfl, rfl, rfl, rfl, rfl, rfl, rfl, rfl, trivial⟩⟩
     ·refine l_want S rfl rfl rfl hb1 ?_
      refine lv S (rn_fld fa_34_0 (S.tm rfl)) rfl ?_; clear S; intro a S
      refine l_want S rfl rfl rfl hb1 ?_
      refine lv S (rn_load Tryd.isAgg9 (S.tm rfl) (S.cell (i := 0) rfl rfl)) rfl ?_; clear S; intro a S
      refine l_want S rfl rfl rfl hb1 ?_
      refine lv S (rn_move (S.tm rfl)) rfl ?_; clear S; intro a S
      refine l_want S rfl rfl rfl hb1 ?_
      refine lv S (rn_sneq (S.tm rfl) (S.tm rfl)) rfl ?_; clear S; intro a S
      refine lv S (rn_or_f hb1 (S.tm rfl) (S.tm rfl)) rfl ?_; clear S; intro a S
      refine l_done ?_
      refine then_n ?_
      exact ⟨Keep.refl _ _, S.nf [true, true, true] rfl ⟨rfl, rfl, rfl, rfl, rfl, rfl, rfl, rfl, rfl, rfl, rfl, rfl, trivial⟩⟩
    clear S; rintro a w8 ⟨hk5, S⟩
    refine lv S (rn_move (S.tm rfl)) rfl ?_; clear S; intro a S
    refine f_cutm 5 (fun a w' => Keep [] w8 w' ∧ Sx w [] nov [.blk b4 [.string y1.Who, .string y1.Race, .int .i64 y1.Day, .int .i64 y1.Time] 34, .blk b2 [.string x1, .string x2, .int .i64 x3, .int .i64 x4] 34, .blk b1 [.string k_empty, .string k_empty, .int .i64 0, .int .i64 0] 34] [(1, .string p_race), (2, .string p_who), (3, .int .i64 p_from), (4, .int .i64 p_to), (10, .pointer (some ⟨b1, 0, none⟩)), (12, .pointer (some ⟨b2, 0, none⟩)), (13, .bool x5), (15, .pointer (some ⟨b4, 0, none⟩)), (16, v_p_l), (17, .int .i64 (p_l.length : Int)), (18, .int .i64 (i1 : Int)), (37, .bool (((!decide (y1.Race = p_race)) || (!decide (y1.Who = p_who))) || (decide (y1.Day < p_from))))] 65 a w') ?_ ?_
    ·rcases Bool.eq_false_or_eq_true ((!decide (y1.Race = p_race)) || (!decide (y1.Who = p_who))) with hb2 | hb2
     ·refine l_skip S rfl rfl rfl (neq_t hb2) rfl ?_ rfl; clear S; intro a S
      refine l_skip S rfl rfl rfl (neq_t hb2) rfl ?_ rfl; clear S; intro a S
      refine l_skip S rfl rfl rfl (neq_t hb2) rfl ?_ rfl; clear S; intro a S
      refine l_skip S rfl rfl rfl (neq_t hb2) rfl ?_ rfl; clear S; intro a S
      refine lv S (rn_or_t (decide (y1.Day < p_from)) hb2 (S.tm rfl) rfl) rfl ?_; clear S; intro a S
      refine l_done ?_
      refine then_n ?_
      exact ⟨Keep.refl _ _, S.nf [true, true, true] rfl ⟨rfl, rfl, rfl, rfl, rfl, rfl, rfl, rfl, rfl, rfl, rfl, rfl, trivial⟩⟩
     ·refine l_want S rfl rfl rfl hb2 ?_
      refine lv S (rn_fld fa_34_2 (S.tm rfl)) rfl ?_; clear S; intro a S
      refine l_want S rfl rfl rfl hb2 ?_
      refine lv S (rn_load Tryd.isAgg3 (S.tm rfl) (S.cell (i := 0) rfl rfl)) rfl ?_; clear S; intro a S
      refine l_want S rfl rfl rfl hb2 ?_
      refine lv S (rn_move (S.tm rfl)) rfl ?_; clear S; intro a S
      refine l_want S rfl rfl rfl hb2 ?_
      refine lv S (rn_lss (S.tm rfl) (S.tm rfl)) rfl ?_; clear S; intro a S
      refine lv S (rn_or_f hb2 (S.tm rfl) (S.tm rfl)) rfl ?_; clear S; intro a S
      refine l_done ?_
      refine then_n ?_
      exact ⟨Keep.refl _ _, S.nf [true, true, true] rfl ⟨rfl, rfl, rfl, rfl, rfl, rfl, rfl, rfl, rfl, rfl, rfl, rfl, trivial⟩⟩
    clear S; rintro a w9 ⟨hk6, S⟩
    refine lv S (rn_move (S.tm rfl)) rfl ?_; clear S; intro a S
    refine f_cutm 5 (fun a w' => Keep [] w9 w' ∧ Sx w [] nov [.blk b4 [.string y1.Who, .string y1.Race, .int .i64 y1.Day, .int .i64 y1.Time] 34, .blk b2 [.string x1, .string x2, .int .i64 x3, .int .i64 x4] 34, .blk b1 [.string k_empty, .string k_empty, .int .i64 0, .int .i64 0] 34] [(1, .string p_race), (2, .string p_who), (3, .int .i64 p_from), (4, .int .i64 p_to), (10, .pointer (some ⟨b1, 0, none⟩)), (12, .pointer (some ⟨b2, 0, none⟩)), (13, .bool x5), (15, .pointer (some ⟨b4, 0, none⟩)), (16, v_p_l), (17, .int .i64 (p_l.length : Int)), (18, .int .i64 (i1 : Int)), (43, .bool ((((!decide (y1.Race = p_race)) || (!decide (y1.Who = p_who))) || (decide (y1.Day < p_from))) || (decide (p_to < y1.Day))))] 65 a w') ?_ ?_
    ·rcases Bool.eq_false_or_eq_true (((!decide (y1.Race = p_race)) || (!decide (y1.Who = p_who))) || (decide (y1.Day < p_from))) with hb3 | hb3
     ·refine l_skip S rfl rfl rfl (neq_t hb3) rfl ?_ rfl; clear S; intro a S
      refine l_skip S rfl rfl rfl (neq_t hb3) rfl ?_ rfl; clear S; intro a S
      refine l_skip S rfl rfl rfl (neq_t hb3) rfl ?_ rfl; clear S; intro a S
      refine l_skip S rfl rfl rfl (neq_t hb3) rfl ?_ rfl; clear S; intro a S
      refine lv S (rn_or_t (decide (p_to < y1.Day)) hb3 (S.tm rfl) rfl) rfl ?_; clear S; intro a S
      refine l_done ?_
      refine then_n ?_
      exact ⟨Keep.refl _ _, S.nf [true, true, true] rfl ⟨rfl, rfl, rfl, rfl, rfl, rfl, rfl, rfl, rfl, rfl, rfl, rfl, trivial⟩⟩
     ·refine l_want S rfl rfl rfl hb3 ?_
      refine lv S (rn_fld fa_34_2 (S.tm rfl)) rfl ?_; clear S; intro a S
      refine l_want S rfl rfl rfl hb3 ?_
      refine lv S (rn_load Tryd.isAgg3 (S.tm rfl) (S.cell (i := 0) rfl rfl)) rfl ?_; clear S; intro a S
      refine l_want S rfl rfl rfl hb3 ?_
      refine lv S (rn_move (S.tm rfl)) rfl ?_; clear S; intro a S
      refine l_want S rfl rfl rfl hb3 ?_
      refine lv S (rn_gtr (S.tm rfl) (S.tm rfl)) rfl ?_; clear S; intro a S
      refine lv S (rn_or_f hb3 (S.tm rfl) (S.tm rfl)) rfl ?_; clear S; intro a S
      refine l_done ?_
      refine then_n ?_
      exact ⟨Keep.refl _ _, S.nf [true, true, true] rfl ⟨rfl, rfl, rfl, rfl, rfl, rfl, rfl, rfl, rfl, rfl, rfl, rfl, trivial⟩⟩
    clear S; rintro a w10 ⟨hk7, S⟩
    refine l_done ?_
    replace S := S.nk [.blk b4 [.string y1.Who, .string y1.Race, .int .i64 y1.Day, .int .i64 y1.Time] 34, .blk b2 [.string x1, .string x2, .int .i64 x3, .int .i64 x4] 34, .blk b1 [.string k_empty, .string k_empty, .int .i64 0, .int .i64 0] 34] [(1, .string p_race), (2, .string p_who), (3, .int .i64 p_from), (4, .int .i64 p_to), (10, .pointer (some ⟨b1, 0, none⟩)), (12, .pointer (some ⟨b2, 0, none⟩)), (13, .bool x5), (15, .pointer (some ⟨b4, 0, none⟩)), (16, v_p_l), (17, .int .i64 (p_l.length : Int)), (18, .int .i64 (i1 : Int)), (43, .bool ((((!decide (y1.Race = p_race)) || (!decide (y1.Who = p_who))) || (decide (y1.Day < p_from))) || (decide (p_to < y1.Day))))] [true, true, true] rfl ⟨rfl, rfl, rfl, rfl, rfl, rfl, rfl, rfl, rfl, rfl, rfl, rfl, trivial⟩
    refine then_n ?_
    refine f_cond (S.tm rfl) (fun hb4 => ?_) (fun hb4 => ?_)
    ·replace h := iteT h hb4
     refine wp_exit ?_
     refine then_x ?_
     refine x_same ?_
     refine then_n ?_
     exact ⟨x1, x2, x3, x4, x5, h, S.nf [false, true, true] rfl ⟨rfl, rfl, rfl, rfl, rfl, rfl, rfl, rfl, rfl, rfl, trivial⟩⟩
    ·replace h := iteF h hb4
     refine wp_skip ?_
     refine then_n ?_
     refine f_seq ?_
     obtain ⟨j3, hj3, h⟩ := joinE h
     refine f_join (fun a w' => ∃ x11 : Bool, j3 x11 = r ∧ Sx w [] nov [.blk b4 [.string y1.Who, .string y1.Race, .int .i64 y1.Day, .int .i64 y1.Time] 34, .blk b2 [.string x1, .string x2, .int .i64 x3, .int .i64 x4] 34, .blk b1 [.string k_empty, .string k_empty, .int .i64 0, .int .i64 0] 34] [(1, .string p_race), (2, .string p_who), (3, .int .i64 p_from), (4, .int .i64 p_to), (10, .pointer (some ⟨b1, 0, none⟩)), (12, .pointer (some ⟨b2, 0, none⟩)), (13, .bool x5), (15, .pointer (some ⟨b4, 0, none⟩)), (16, v_p_l), (17, .int .i64 (p_l.length : Int)), (18, .int .i64 (i1 : Int)), (60, .bool x11)] 65 a w') ?_ ?_
     ·rcases Bool.eq_false_or_eq_true (!x5) with hb5 | hb5
      ·replace h := iteT h hb5
       refine d_region [] ([]) Tryd.mixed S rfl (by kernel_rfl) ?_; clear S; intro w12 hk8 hsel S
       refine d_rest [0, 1, 2, 3, 4, 5, 6, 7, 8, 9, 10, 11, 12, 13, 14, 15, 16] hsel (by kernel_rfl) rfl ?_
       clear hsel
       refine s_lv S rfl (rn_move (S.tm rfl)) rfl ?_; clear S; intro a S
       refine s_lv S rfl (rn_not (S.tm rfl)) rfl ?_; clear S; intro a S
       refine s_lv S rfl (rn_move (S.tm rfl)) rfl ?_; clear S; intro a S
       refine s_skip S rfl rfl rfl rfl (neq_t hb5) rfl ?_ rfl; clear S; intro a S
       refine s_skip S rfl rfl rfl rfl (neq_t hb5) rfl ?_ rfl; clear S; intro a S
       refine s_skip S rfl rfl rfl rfl (neq_t hb5) rfl ?_ rfl; clear S; intro a S
       refine s_skip S rfl rfl rfl rfl (neq_t hb5) rfl ?_ rfl; clear S; intro a S
       refine s_skip S rfl rfl rfl rfl (neq_t hb5) rfl ?_ rfl; clear S; intro a S
       refine s_skip S rfl rfl rfl rfl (neq_t hb5) rfl ?_ rfl; clear S; intro a S
       refine s_skip S rfl rfl rfl rfl (neq_t hb5) rfl ?_ rfl; clear S; intro a S
       refine s_skip S rfl rfl rfl rfl (neq_t hb5) rfl ?_ rfl; clear S; intro a S
       refine s_skip S rfl rfl rfl rfl (neq_t hb5) rfl ?_ rfl; clear S; intro a S
       refine s_skip S rfl rfl rfl rfl (neq_t hb5) rfl ?_ rfl; clear S; intro a S
       refine s_skip S rfl rfl rfl rfl (neq_t hb5) rfl ?_ rfl; clear S; intro a S
       refine s_skip S rfl rfl rfl rfl (neq_t hb5) rfl ?_ rfl; clear S; intro a S
       refine s_skip S rfl rfl rfl rfl (neq_t hb5) rfl ?_ rfl; clear S; intro a S
       refine s_lv S rfl (rn_pick_b hb5 (S.tm rfl) rfl) rfl ?_; clear S; intro a S
       refine s_done ?_
       replace S := S.nk [.blk b4 [.string y1.Who, .string y1.Race, .int .i64 y1.Day, .int .i64 y1.Time] 34, .blk b2 [.string x1, .string x2, .int .i64 x3, .int .i64 x4] 34, .blk b1 [.string k_empty, .string k_empty, .int .i64 0, .int .i64 0] 34] [(1, .string p_race), (2, .string p_who), (3, .int .i64 p_from), (4, .int .i64 p_to), (10, .pointer (some ⟨b1, 0, none⟩)), (12, .pointer (some ⟨b2, 0, none⟩)), (13, .bool x5), (15, .pointer (some ⟨b4, 0, none⟩)), (16, v_p_l), (17, .int .i64 (p_l.length : Int)), (18, .int .i64 (i1 : Int)), (60, .bool true)] [true, true, true] rfl ⟨rfl, rfl, rfl, rfl, rfl, rfl, rfl, rfl, rfl, rfl, rfl, rfl, trivial⟩
       refine then_n ?_
       exact ⟨true, h, S.nf [true, true, true] rfl ⟨rfl, rfl, rfl, rfl, rfl, rfl, rfl, rfl, rfl, rfl, rfl, rfl, trivial⟩⟩
      ·replace h := iteF h hb5
       refine d_region [] ([]) Tryd.mixed S rfl (by kernel_rfl) ?_; clear S; intro w17 hk13 hsel S
       refine d_quiet 0 S hsel rfl rfl rfl (by kernel_rfl) (by kernel_rfl) rfl (fun _ hw => (rn_move (S.tm rfl))) ?_; clear S; intro a S
       refine d_quiet 1 S hsel rfl rfl rfl (by kernel_rfl) (by kernel_rfl) rfl (fun _ hw => (rn_not (S.tm rfl))) ?_; clear S; intro a S
       refine d_quiet 2 S hsel rfl rfl rfl (by kernel_rfl) (by kernel_rfl) rfl (fun _ hw => (rn_move (S.tm rfl))) ?_; clear S; intro a S
       refine d_quiet_g 3 S hsel rfl rfl rfl rfl hb5 rfl rfl (by kernel_rfl) (by kernel_rfl) rfl (fun _ hw => (rn_fld fa_34_3 (S.tm rfl))) ?_; clear S; intro a S
       refine d_quiet_g 4 S hsel rfl rfl rfl rfl hb5 rfl rfl (by kernel_rfl) (by kernel_rfl) rfl (fun _ hw => (rn_ld Tryd.isAgg3 (off := 0) (o := 3) (S.tm rfl) ((S.blk_mem (i := 0) (cells := [.string y1.Who, .string y1.Race, .int .i64 y1.Day, .int .i64 y1.Time]) (b := b4) (T := 34) rfl (ne_nil (e' := .blk b4 [.string y1.Who, .string y1.Race, .int .i64 y1.Day, .int .i64 y1.Time] 34))).kept hw) rfl)) ?_; clear S; intro a S
       refine d_quiet_g 5 S hsel rfl rfl rfl rfl hb5 rfl rfl (by kernel_rfl) (by kernel_rfl) rfl (fun _ hw => (rn_fld fa_34_3 (S.tm rfl))) ?_; clear S; intro a S
       refine d_quiet_g 6 S hsel rfl rfl rfl rfl hb5 rfl rfl (by kernel_rfl) (by kernel_rfl) rfl (fun _ hw => (rn_ld Tryd.isAgg3 (off := 0) (o := 3) (S.tm rfl) ((S.blk_mem (i := 1) (cells := [.string x1, .string x2, .int .i64 x3, .int .i64 x4]) (b := b2) (T := 34) rfl (ne_nil (e' := .blk b2 [.string x1, .string x2, .int .i64 x3, .int .i64 x4] 34))).kept hw) rfl)) ?_; clear S; intro a S
       refine d_quiet_g 8 S hsel rfl rfl rfl rfl hb5 rfl rfl (by kernel_rfl) (by kernel_rfl) rfl (fun _ hw => (rn_fld fa_34_2 (S.tm rfl))) ?_; clear S; intro a S
       refine d_quiet_g 9 S hsel rfl rfl rfl rfl hb5 rfl rfl (by kernel_rfl) (by kernel_rfl) rfl (fun _ hw => (rn_ld Tryd.isAgg3 (off := 0) (o := 2) (S.tm rfl) ((S.blk_mem (i := 0) (cells := [.string y1.Who, .string y1.Race, .int .i64 y1.Day, .int .i64 y1.Time]) (b := b4) (T := 34) rfl (ne_nil (e' := .blk b4 [.string y1.Who, .string y1.Race, .int .i64 y1.Day, .int .i64 y1.Time] 34))).kept hw) rfl)) ?_; clear S; intro a S
       refine d_quiet_g 10 S hsel rfl rfl rfl rfl hb5 rfl rfl (by kernel_rfl) (by kernel_rfl) rfl (fun _ hw => (rn_fld fa_34_2 (S.tm rfl))) ?_; clear S; intro a S
       refine d_quiet_g 11 S hsel rfl rfl rfl rfl hb5 rfl rfl (by kernel_rfl) (by kernel_rfl) rfl (fun _ hw => (rn_ld Tryd.isAgg3 (off := 0) (o := 2) (S.tm rfl) ((S.blk_mem (i := 1) (cells := [.string x1, .string x2, .int .i64 x3, .int .i64 x4]) (b := b2) (T := 34) rfl (ne_nil (e' := .blk b2 [.string x1, .string x2, .int .i64 x3, .int .i64 x4] 34))).kept hw) rfl)) ?_; clear S; intro a S
       refine d_loud1 7 (by kernel_rfl) rfl ?_
       refine l_want S rfl rfl rfl hb5 ?_
       refine l_enter S (fun _ => run_call (vs := [.int .i64 y1.Time, .int .i64 x4]) ⟨(S.tm rfl), (S.tm rfl), trivial⟩ Tryd.call42) (cmp_Compare_int_ok _ y1.Time x4 _ rfl) rfl ?_; clear S; intro v4 a w18 hv4 hk14 hn4 S
       subst hv4
       refine l_done ?_
       refine d_next hk14 ?_
       refine d_loud1 12 (by kernel_rfl) rfl ?_
       refine l_want S rfl rfl rfl hb5 ?_
       refine l_enter S (fun _ => run_call (vs := [.int .i64 y1.Day, .int .i64 x3]) ⟨(S.tm rfl), (S.tm rfl), trivial⟩ Tryd.call42) (cmp_Compare_int_ok _ y1.Day x3 _ rfl) rfl ?_; clear S; intro v5 a w19 hv5 hk15 hn5 S
       subst hv5
       refine l_done ?_
       refine d_next hk15 ?_
       refine d_loud1 13 (by kernel_rfl) rfl ?_
       refine l_want S rfl rfl rfl hb5 ?_
       refine l_buildSlice S Tryd.underlying22 Tryd.sizeOf3 Tryd.zeroValue3 rfl rfl (pv := [(0, .int .i64 (cmp_Compare_int y1.Time x4)), (1, .int .i64 (cmp_Compare_int y1.Day x3))]) ⟨rfl, (S.tm rfl), rfl, (S.tm rfl), trivial⟩ (cs := [.int .i64 (cmp_Compare_int y1.Time x4), .int .i64 (cmp_Compare_int y1.Day x3)]) (by kernel_rfl) rfl ?_; clear S; intro a w20 b6 hz5 hk16 S
       refine l_done ?_
       refine d_next hk16 ?_
       refine d_loud1 14 (by kernel_rfl) rfl ?_
       refine l_want S rfl rfl rfl hb5 ?_
       refine l_enter S (fun _ => run_call (vs := [.slice (some ⟨b6, 0, none⟩) 2 2]) ⟨(S.tm rfl), trivial⟩ Tryd.call41) (cmp_Or_int_ok _ (.slice (some ⟨b6, 0, none⟩) 2 2) [(cmp_Compare_int y1.Time x4), (cmp_Compare_int y1.Day x3)] (lit_slcT enc_int S (i := 0) rfl rfl rfl rfl ((ne_nil (e' := .blk b6 [.int .i64 (cmp_Compare_int y1.Time x4), .int .i64 (cmp_Compare_int y1.Day x3)] 3)) _ rfl)) _ rfl) rfl ?_; clear S; intro v6 a w21 hv6 hk17 hn6 S
       subst hv6
       refine l_done ?_
       refine d_next hk17 ?_
       refine d_rest [15, 16] hsel (by kernel_rfl) rfl ?_
       clear hsel
       refine s_want S rfl rfl rfl rfl hb5 ?_
       refine s_lv0 S (rn_lss (S.tm rfl) rfl) rfl ?_; clear S; intro a S
       refine s_lv S rfl (rn_pick_c hb5 (S.tm rfl) (S.tm rfl)) rfl ?_; clear S; intro a S
       refine s_done ?_
       replace S := S.nk [.blk b6 [.int .i64 (cmp_Compare_int y1.Time x4), .int .i64 (cmp_Compare_int y1.Day x3)] 3, .blk b4 [.string y1.Who, .string y1.Race, .int .i64 y1.Day, .int .i64 y1.Time] 34, .blk b2 [.string x1, .string x2, .int .i64 x3, .int .i64 x4] 34, .blk b1 [.string k_empty, .string k_empty, .int .i64 0, .int .i64 0] 34] [(1, .string p_race), (2, .string p_who), (3, .int .i64 p_from), (4, .int .i64 p_to), (10, .pointer (some ⟨b1, 0, none⟩)), (12, .pointer (some ⟨b2, 0, none⟩)), (13, .bool x5), (15, .pointer (some ⟨b4, 0, none⟩)), (16, v_p_l), (17, .int .i64 (p_l.length : Int)), (18, .int .i64 (i1 : Int)), (47, .pointer (some ⟨b4, 3, none⟩)), (48, .int .i64 y1.Time), (49, .pointer (some ⟨b2, 3, none⟩)), (50, .int .i64 x4), (51, .int .i64 (cmp_Compare_int y1.Time x4)), (52, .pointer (some ⟨b4, 2, none⟩)), (53, .int .i64 y1.Day), (54, .pointer (some ⟨b2, 2, none⟩)), (55, .int .i64 x3), (56, .int .i64 (cmp_Compare_int y1.Day x3)), (57, .slice (some ⟨b6, 0, none⟩) 2 2), (58, .int .i64 (cmp_Or_int [(cmp_Compare_int y1.Time x4), (cmp_Compare_int y1.Day x3)])), (59, .bool (decide ((cmp_Or_int [(cmp_Compare_int y1.Time x4), (cmp_Compare_int y1.Day x3)]) < 0))), (60, .bool (decide ((cmp_Or_int [(cmp_Compare_int y1.Time x4), (cmp_Compare_int y1.Day x3)]) < 0)))] [true, true, true, true] rfl ⟨rfl, rfl, rfl, rfl, rfl, rfl, rfl, rfl, rfl, rfl, rfl, rfl, rfl, rfl, rfl, rfl, rfl, rfl, rfl, rfl, rfl, rfl, rfl, rfl, rfl, trivial⟩
       refine then_n ?_
       exact ⟨decide ((cmp_Or_int [(cmp_Compare_int y1.Time x4), (cmp_Compare_int y1.Day x3)]) < 0), h, S.nf [false, true, true, true] rfl ⟨rfl, rfl, rfl, rfl, rfl, rfl, rfl, rfl, rfl, rfl, rfl, rfl, trivial⟩⟩
     clear S h; rintro a w11 ⟨x11, h, S⟩; rw [hj3] at h; clear hj3 j3
     refine then_n ?_
     obtain ⟨j4, hj4, h⟩ := joinE h
     refine f_join (fun a w' => ∃ x12 : ByteArray, ∃ x13 : ByteArray, ∃ x14 : Int, ∃ x15 : Int, ∃ x16 : Bool, j4 x12 x13 x14 x15 x16 = r ∧ Sx w [] nov [.blk b2 [.string x12, .string x13, .int .i64 x14, .int .i64 x15] 34, .blk b1 [.string k_empty, .string k_empty, .int .i64 0, .int .i64 0] 34] [(1, .string p_race), (2, .string p_who), (3, .int .i64 p_from), (4, .int .i64 p_to), (10, .pointer (some ⟨b1, 0, none⟩)), (12, .pointer (some ⟨b2, 0, none⟩)), (13, .bool x16), (16, v_p_l), (17, .int .i64 (p_l.length : Int)), (18, .int .i64 (i1 : Int))] 65 a w') ?_ ?_
     ·refine f_cond (S.tm rfl) (fun hb6 => ?_) (fun hb6 => ?_)
      ·replace h := iteT h hb6
       refine f_region ?_
       refine lv S (rn_ldA Tryd.isAgg34 Tryd.sizeOf34 (off := 0) (o := 0) (part := [.string y1.Who, .string y1.Race, .int .i64 y1.Day, .int .i64 y1.Time]) rfl rfl (S.tm rfl) (S.cellsAt (i := 0) rfl)) rfl ?_; clear S; intro a S
       refine l_store S (S.tm rfl) (S.tm rfl) (i := 1) (off := 0) rfl Tryd.sizeOf34 (vs := [.string y1.Who, .string y1.Race, .int .i64 y1.Day, .int .i64 y1.Time]) rfl rfl rfl rfl ?_; clear S; intro w23 hk18 S
       refine lv S (rn_assign rfl) rfl ?_; clear S; intro a S
       refine l_done ?_
       replace S := S.nk [.blk b2 [.string y1.Who, .string y1.Race, .int .i64 y1.Day, .int .i64 y1.Time] 34, .blk b1 [.string k_empty, .string k_empty, .int .i64 0, .int .i64 0] 34] [(1, .string p_race), (2, .string p_who), (3, .int .i64 p_from), (4, .int .i64 p_to), (10, .pointer (some ⟨b1, 0, none⟩)), (12, .pointer (some ⟨b2, 0, none⟩)), (13, .bool true), (16, v_p_l), (17, .int .i64 (p_l.length : Int)), (18, .int .i64 (i1 : Int))] [false, true, true] rfl ⟨rfl, rfl, rfl, rfl, rfl, rfl, rfl, rfl, rfl, rfl, trivial⟩
       refine then_n ?_
       exact ⟨y1.Who, y1.Race, y1.Day, y1.Time, true, h, S.nf [true, true] rfl ⟨rfl, rfl, rfl, rfl, rfl, rfl, rfl, rfl, rfl, rfl, trivial⟩⟩
      ·replace h := iteF h hb6
       refine wp_skip ?_
       refine then_n ?_
       exact ⟨x1, x2, x3, x4, x5, h, S.nf [false, true, true] rfl ⟨rfl, rfl, rfl, rfl, rfl, rfl, rfl, rfl, rfl, rfl, trivial⟩⟩
     clear S h; rintro a w22 ⟨x12, x13, x14, x15, x16, h, S⟩; rw [hj4] at h; clear hj4 j4
     refine blk_n ?_
     refine then_n ?_
     exact ⟨x12, x13, x14, x15, x16, h, S.nf [true, true] rfl ⟨rfl, rfl, rfl, rfl, rfl, rfl, rfl, rfl, rfl, rfl, trivial⟩⟩
   clear S h; rintro a w5 ⟨x6, x7, x8, x9, x10, h, S⟩; rw [hj2] at h; clear hj2 j2
   refine then_n ?_
   refine f_region ?_
   refine lv S (rn_add (S.tm rfl) rfl) rfl ?_; clear S; intro a S
   refine lv S (rn_move (S.tm rfl)) rfl ?_; clear S; intro a S
   refine l_done ?_
   replace S := S.nk [.blk b2 [.string x6, .string x7, .int .i64 x8, .int .i64 x9] 34, .blk b1 [.string k_empty, .string k_empty, .int .i64 0, .int .i64 0] 34] [(1, .string p_race), (2, .string p_who), (3, .int .i64 p_from), (4, .int .i64 p_to), (10, .pointer (some ⟨b1, 0, none⟩)), (12, .pointer (some ⟨b2, 0, none⟩)), (13, .bool x10), (16, v_p_l), (17, .int .i64 (p_l.length : Int)), (18, .int .i64 (W ((i1 : Int) + 1)))] [true, true] rfl ⟨rfl, rfl, rfl, rfl, rfl, rfl, rfl, rfl, rfl, rfl, trivial⟩
   refine then_n ?_
   exact ⟨ys1, ⟨i1 + 1, x6, x7, x8, x9, x10, ⟨_, (hd1).trans (List.append_cons _ _ _), by simp [hi1]⟩, h, S.nf [true, true] rfl ⟨rfl, rfl, rfl, rfl, rfl, rfl, rfl, rfl, rfl, (congrArg (fun z => some (Value.int .i64 z)) (rng_next hd1 hi1 (slc_max hs_p_l))), trivial⟩⟩, Nat.lt_succ_self _⟩
 clear S h; rintro a w4 ⟨x1, x2, x3, x4, x5, h, S⟩; rw [hj1] at h; clear hj1 j1
 refine then_n ?_
 refine f_seq ?_
 refine f_region ?_
 refine lv S (rn_ldA Tryd.isAgg34 Tryd.sizeOf34 (off := 0) (o := 0) (part := [.string x1, .string x2, .int .i64 x3, .int .i64 x4]) rfl rfl (S.tm rfl) (S.cellsAt (i := 0) rfl)) rfl ?_; clear S; intro a S
 refine lv S (rn_move (S.tm rfl)) rfl ?_; clear S; intro a S
 refine l_store S (S.tm rfl) (S.tm rfl) (i := 1) (off := 0) rfl Tryd.sizeOf34 (vs := [.string x1, .string x2, .int .i64 x3, .int .i64 x4]) rfl rfl rfl rfl ?_; clear S; intro w24 hk19 S
 refine lv S (rn_assign (S.tm rfl)) rfl ?_; clear S; intro a S
 refine l_done ?_
 replace S := S.nk [.blk b1 [.string x1, .string x2, .int .i64 x3, .int .i64 x4] 34] [(10, .pointer (some ⟨b1, 0, none⟩)), (11, .bool x5)] [false, true] rfl ⟨rfl, rfl, trivial⟩
 refine then_n ?_
 refine wp_ret ?_
 subst h
 exact f_retG S (rs := [.cell 10 34, .tmp 11]) (vs := [.agg #[.string x1, .string x2, .int .i64 x3, .int .i64 x4], .bool x5]) Tryd.results26 ⟨(res_cell (off := 0) S rfl Tryd.isAgg34 Tryd.sizeOf34 rfl (S.cellsAt (i := 0) rfl)), (res_tmp S rfl), trivial⟩ rfl rfl
theorem swimmer_Best_ok (w : World) (v_p_l : Value) (p_l : List GMark) (hs_p_l : Slc (view w []) 4 v_p_l (p_l.map GMark.enc)) (p_race : ByteArray) (p_who : ByteArray) (p_from : Int) (p_to : Int) (r : GMark × Bool × Int) (h : swimmer_Best p_l p_race p_who p_from p_to = some r) :
    Calls Tryd.prog 9 [v_p_l, .string p_race, .string p_who, .int .i64 p_from, .int .i64 p_to].toArray w (Ret w [] fun _ v _ => v = .tuple #[.agg (GMark.enc r.1).toArray, .bool r.2.1, .int .i64 r.2.2]) := by
 refine f_enter [] [] Tryd.func9 rfl Tryd.ntmps9 rfl (by simp) (by simp [fps]) (by simp [fps]) fun a S => ?_
 unfold swimmer_Best at h
 replace S := S.nk [] [(0, v_p_l), (1, .string p_race), (2, .string p_who), (3, .int .i64 p_from), (4, .int .i64 p_to)] [] rfl ⟨rfl, rfl, rfl, rfl, rfl, trivial⟩
 refine f_seq ?_
 refine f_region ?_
 refine l_alloc S Tryd.zeroValue34 (cs := [.string k_empty, .string k_empty, .int .i64 0, .int .i64 0]) rfl rfl ?_; clear S; intro a w1 b1 hz1 hk1 S
 refine lv S (rn_assign rfl) rfl ?_; clear S; intro a S
 refine lv S (rn_assign rfl) rfl ?_; clear S; intro a S
 refine l_done ?_
 replace S := S.nk [.blk b1 [.string k_empty, .string k_empty, .int .i64 0, .int .i64 0] 34] [(0, v_p_l), (1, .string p_race), (2, .string p_who), (3, .int .i64 p_from), (4, .int .i64 p_to), (10, .pointer (some ⟨b1, 0, none⟩))] [true] rfl ⟨rfl, rfl, rfl, rfl, rfl, rfl, trivial⟩
 refine then_n ?_
 refine f_seq ?_
 refine f_seq ?_
 refine f_region ?_
 refine lv S (rn_move (S.tm rfl)) rfl ?_; clear S; intro a S
 obtain ⟨r1, hr1, h⟩ := bindE h
 refine l_enter S (fun _ => run_call (vs := [v_p_l]) ⟨(S.tm rfl), trivial⟩ Tryd.call17) (swimmer_CheckMarks_ok _ v_p_l p_l (hs_p_l.mono (S.le_arg nil_sub)) _ hr1) rfl ?_; clear S; intro v1 a w2 hv1 hk2 hn1 S
 subst hv1
 refine lv S (rn_assign (S.tm rfl)) rfl ?_; clear S; intro a S
 refine l_done ?_
 replace S := S.nk [.blk b1 [.string k_empty, .string k_empty, .int .i64 0, .int .i64 0] 34] [(0, v_p_l), (1, .string p_race), (2, .string p_who), (3, .int .i64 p_from), (4, .int .i64 p_to), (10, .pointer (some ⟨b1, 0, none⟩)), (13, .int .i64 r1)] [true] rfl ⟨rfl, rfl, rfl, rfl, rfl, rfl, rfl, trivial⟩
 refine then_n ?_
 refine f_seq ?_
 refine f_region ?_
 refine lv S (rn_move (S.tm rfl)) rfl ?_; clear S; intro a S
 refine lv S (rn_neq (S.tm rfl) rfl) rfl ?_; clear S; intro a S
 refine l_done ?_
 replace S := S.nk [.blk b1 [.string k_empty, .string k_empty, .int .i64 0, .int .i64 0] 34] [(0, v_p_l), (1, .string p_race), (2, .string p_who), (3, .int .i64 p_from), (4, .int .i64 p_to), (10, .pointer (some ⟨b1, 0, none⟩)), (13, .int .i64 r1), (19, .bool (!decide (r1 = 0)))] [true] rfl ⟨rfl, rfl, rfl, rfl, rfl, rfl, rfl, rfl, trivial⟩
 refine then_n ?_
 refine f_cond (S.tm rfl) (fun hb1 => ?_) (fun hb1 => ?_)
 ·replace h := iteT h hb1
  refine f_seq ?_
  refine f_region ?_
  refine lv S (rn_bld bt_34 (pv := []) trivial (cs := [.string k_empty, .string k_empty, .int .i64 0, .int .i64 0]) (by kernel_rfl)) rfl ?_; clear S; intro a S
  refine lv S (rn_move (S.tm rfl)) rfl ?_; clear S; intro a S
  refine l_store S (S.tm rfl) (S.tm rfl) (i := 0) (off := 0) rfl Tryd.sizeOf34 (vs := [.string k_empty, .string k_empty, .int .i64 0, .int .i64 0]) rfl rfl rfl rfl ?_; clear S; intro w3 hk3 S
  refine lv S (rn_assign rfl) rfl ?_; clear S; intro a S
  refine lv S (rn_assign (S.tm rfl)) rfl ?_; clear S; intro a S
  refine l_done ?_
  replace S := S.nk [.blk b1 [.string k_empty, .string k_empty, .int .i64 0, .int .i64 0] 34] [(10, .pointer (some ⟨b1, 0, none⟩)), (11, .bool false), (12, .int .i64 r1)] [true] rfl ⟨rfl, rfl, rfl, trivial⟩
  refine then_n ?_
  refine wp_ret ?_
  refine then_r ?_
  obtain rfl := Option.some.inj h
  exact f_retG S (rs := [.cell 10 34, .tmp 11, .tmp 12]) (vs := [.agg #[.string k_empty, .string k_empty, .int .i64 0, .int .i64 0], .bool false, .int .i64 r1]) Tryd.results9 ⟨(res_cell (off := 0) S rfl Tryd.isAgg34 Tryd.sizeOf34 rfl (S.cellsAt (i := 0) rfl)), (res_tmp S rfl), (res_tmp S rfl), trivial⟩ rfl rfl
 ·replace h := iteF h hb1
  refine wp_skip ?_
  refine then_n ?_
  refine f_seq ?_
  refine f_seq ?_
  refine f_region ?_
  refine lv S (rn_move (S.tm rfl)) rfl ?_; clear S; intro a S
  obtain ⟨r2, hr2, h⟩ := bindE h
  refine l_enter S (fun _ => run_call (vs := [.string p_race]) ⟨(S.tm rfl), trivial⟩ Tryd.call24) (words_IsKey_ok _ p_race _ hr2) rfl ?_; clear S; intro v2 a w4 hv2 hk4 hn2 S
  subst hv2
  refine lv S (rn_not (S.tm rfl)) rfl ?_; clear S; intro a S
  refine lv S (rn_move (S.tm rfl)) rfl ?_; clear S; intro a S
  obtain ⟨j1, hj1, h⟩ := joinE h
  refine f_cutm 4 (fun a w' => ∃ c1, j1 c1 = some r ∧ Keep [] w4 w' ∧ Sx w [] nov [.blk b1 [.string k_empty, .string k_empty, .int .i64 0, .int .i64 0] 34] [(0, v_p_l), (1, .string p_race), (2, .string p_who), (3, .int .i64 p_from), (4, .int .i64 p_to), (10, .pointer (some ⟨b1, 0, none⟩)), (29, .bool c1)] 51 a w') ?_ ?_
  ·rcases Bool.eq_false_or_eq_true (!r2) with hb2 | hb2
   ·replace h := iteT h hb2
    refine l_skip S rfl rfl rfl (neq_t hb2) rfl ?_ rfl; clear S; intro a S
    refine l_skip S rfl rfl rfl (neq_t hb2) rfl ?_ rfl; clear S; intro a S
    refine l_skip S rfl rfl rfl (neq_t hb2) rfl ?_ rfl; clear S; intro a S
    refine lv S (rn_or_t true hb2 (S.tm rfl) rfl) rfl ?_; clear S; intro a S
    refine l_done ?_
    refine then_n ?_
    exact ⟨_, h, Keep.refl _ _, S.nf [true] rfl ⟨rfl, rfl, rfl, rfl, rfl, rfl, rfl, trivial⟩⟩
   ·replace h := iteF h hb2
    refine l_want S rfl rfl rfl hb2 ?_
    refine lv S (rn_move (S.tm rfl)) rfl ?_; clear S; intro a S
    refine l_want S rfl rfl rfl hb2 ?_
    obtain ⟨r3, hr3, h⟩ := bindE h
    refine l_enter S (fun _ => run_call (vs := [.string p_who]) ⟨(S.tm rfl), trivial⟩ Tryd.call24) (words_IsKey_ok _ p_who _ hr3) rfl ?_; clear S; intro v3 a w6 hv3 hk5 hn3 S
    subst hv3
    refine l_want S rfl rfl rfl hb2 ?_
    refine lv S (rn_not (S.tm rfl)) rfl ?_; clear S; intro a S
    refine lv S (rn_or_f hb2 (S.tm rfl) (S.tm rfl)) rfl ?_; clear S; intro a S
    refine l_done ?_
    refine then_n ?_
    exact ⟨_, h, hk5, S.nf [true] rfl ⟨rfl, rfl, rfl, rfl, rfl, rfl, rfl, trivial⟩⟩
  clear S h; rintro a w5 ⟨c1, h, hk6, S⟩; rw [hj1] at h; clear hj1 j1
  refine l_done ?_
  replace S := S.nk [.blk b1 [.string k_empty, .string k_empty, .int .i64 0, .int .i64 0] 34] [(0, v_p_l), (1, .string p_race), (2, .string p_who), (3, .int .i64 p_from), (4, .int .i64 p_to), (10, .pointer (some ⟨b1, 0, none⟩)), (29, .bool c1)] [true] rfl ⟨rfl, rfl, rfl, rfl, rfl, rfl, rfl, trivial⟩
  refine then_n ?_
  refine f_cond (S.tm rfl) (fun hb3 => ?_) (fun hb3 => ?_)
  ·replace h := iteT h hb3
   refine f_seq ?_
   refine f_region ?_
   refine lv S (rn_bld bt_34 (pv := []) trivial (cs := [.string k_empty, .string k_empty, .int .i64 0, .int .i64 0]) (by kernel_rfl)) rfl ?_; clear S; intro a S
   refine l_store S (S.tm rfl) (S.tm rfl) (i := 0) (off := 0) rfl Tryd.sizeOf34 (vs := [.string k_empty, .string k_empty, .int .i64 0, .int .i64 0]) rfl rfl rfl rfl ?_; clear S; intro w7 hk7 S
   refine lv S (rn_assign rfl) rfl ?_; clear S; intro a S
   refine lv S (rn_assign rfl) rfl ?_; clear S; intro a S
   refine l_done ?_
   replace S := S.nk [.blk b1 [.string k_empty, .string k_empty, .int .i64 0, .int .i64 0] 34] [(10, .pointer (some ⟨b1, 0, none⟩)), (11, .bool false), (12, .int .i64 5)] [true] rfl ⟨rfl, rfl, rfl, trivial⟩
   refine then_n ?_
   refine wp_ret ?_
   refine then_r ?_
   obtain rfl := Option.some.inj h
   exact f_retG S (rs := [.cell 10 34, .tmp 11, .tmp 12]) (vs := [.agg #[.string k_empty, .string k_empty, .int .i64 0, .int .i64 0], .bool false, .int .i64 5]) Tryd.results9 ⟨(res_cell (off := 0) S rfl Tryd.isAgg34 Tryd.sizeOf34 rfl (S.cellsAt (i := 0) rfl)), (res_tmp S rfl), (res_tmp S rfl), trivial⟩ rfl rfl
  ·replace h := iteF h hb3
   refine wp_skip ?_
   refine then_n ?_
   refine f_seq ?_
   refine f_seq ?_
   refine f_region ?_
   refine lv S (rn_move (S.tm rfl)) rfl ?_; clear S; intro a S
   refine lv S (rn_move (S.tm rfl)) rfl ?_; clear S; intro a S
   refine l_enter S (fun _ => run_call (vs := [.int .i64 p_from, .int .i64 (-40000), .int .i64 p_to]) ⟨(S.tm rfl), rfl, (S.tm rfl), trivial⟩ Tryd.call25) (words_Within_ok _ p_from (-40000) p_to _ rfl) rfl ?_; clear S; intro v4 a w8 hv4 hk8 hn4 S
   subst hv4
   refine lv S (rn_not (S.tm rfl)) rfl ?_; clear S; intro a S
   refine lv S (rn_move (S.tm rfl)) rfl ?_; clear S; intro a S
   refine f_cutm 3 (fun a w' => Keep [] w8 w' ∧ Sx w [] nov [.blk b1 [.string k_empty, .string k_empty, .int .i64 0, .int .i64 0] 34] [(0, v_p_l), (1, .string p_race), (2, .string p_who), (3, .int .i64 p_from), (4, .int .i64 p_to), (10, .pointer (some ⟨b1, 0, none⟩)), (38, .bool ((!(words_Within p_from (-40000) p_to)) || (decide (4000 < p_to))))] 51 a w') ?_ ?_
   ·rcases Bool.eq_false_or_eq_true (!(words_Within p_from (-40000) p_to)) with hb4 | hb4
    ·refine l_skip S rfl rfl rfl (neq_t hb4) rfl ?_ rfl; clear S; intro a S
     refine l_skip S rfl rfl rfl (neq_t hb4) rfl ?_ rfl; clear S; intro a S
     refine lv S (rn_or_t (decide (4000 < p_to)) hb4 (S.tm rfl) rfl) rfl ?_; clear S; intro a S
     refine l_done ?_
     refine then_n ?_
     exact ⟨Keep.refl _ _, S.nf [true] rfl ⟨rfl, rfl, rfl, rfl, rfl, rfl, rfl, trivial⟩⟩
    ·refine l_want S rfl rfl rfl hb4 ?_
     refine lv S (rn_move (S.tm rfl)) rfl ?_; clear S; intro a S
     refine l_want S rfl rfl rfl hb4 ?_
     refine lv S (rn_gtr (S.tm rfl) rfl) rfl ?_; clear S; intro a S
     refine lv S (rn_or_f hb4 (S.tm rfl) (S.tm rfl)) rfl ?_; clear S; intro a S
     refine l_done ?_
     refine then_n ?_
     exact ⟨Keep.refl _ _, S.nf [true] rfl ⟨rfl, rfl, rfl, rfl, rfl, rfl, rfl, trivial⟩⟩
   clear S; rintro a w9 ⟨hk9, S⟩
   refine l_done ?_
   replace S := S.nk [.blk b1 [.string k_empty, .string k_empty, .int .i64 0, .int .i64 0] 34] [(0, v_p_l), (1, .string p_race), (2, .string p_who), (3, .int .i64 p_from), (4, .int .i64 p_to), (10, .pointer (some ⟨b1, 0, none⟩)), (38, .bool ((!(words_Within p_from (-40000) p_to)) || (decide (4000 < p_to))))] [true] rfl ⟨rfl, rfl, rfl, rfl, rfl, rfl, rfl, trivial⟩
   refine then_n ?_
   refine f_cond (S.tm rfl) (fun hb5 => ?_) (fun hb5 => ?_)
   ·replace h := iteT h hb5
    refine f_seq ?_
    refine f_region ?_
    refine lv S (rn_bld bt_34 (pv := []) trivial (cs := [.string k_empty, .string k_empty, .int .i64 0, .int .i64 0]) (by kernel_rfl)) rfl ?_; clear S; intro a S
    refine l_store S (S.tm rfl) (S.tm rfl) (i := 0) (off := 0) rfl Tryd.sizeOf34 (vs := [.string k_empty, .string k_empty, .int .i64 0, .int .i64 0]) rfl rfl rfl rfl ?_; clear S; intro w10 hk10 S
    refine lv S (rn_assign rfl) rfl ?_; clear S; intro a S
    refine lv S (rn_assign rfl) rfl ?_; clear S; intro a S
    refine l_done ?_
    replace S := S.nk [.blk b1 [.string k_empty, .string k_empty, .int .i64 0, .int .i64 0] 34] [(10, .pointer (some ⟨b1, 0, none⟩)), (11, .bool false), (12, .int .i64 1)] [true] rfl ⟨rfl, rfl, rfl, trivial⟩
    refine then_n ?_
    refine wp_ret ?_
    refine then_r ?_
    obtain rfl := Option.some.inj h
    exact f_retG S (rs := [.cell 10 34, .tmp 11, .tmp 12]) (vs := [.agg #[.string k_empty, .string k_empty, .int .i64 0, .int .i64 0], .bool false, .int .i64 1]) Tryd.results9 ⟨(res_cell (off := 0) S rfl Tryd.isAgg34 Tryd.sizeOf34 rfl (S.cellsAt (i := 0) rfl)), (res_tmp S rfl), (res_tmp S rfl), trivial⟩ rfl rfl
   ·replace h := iteF h hb5
    refine wp_skip ?_
    refine then_n ?_
    refine f_seq ?_
    refine f_region ?_
    refine lv S (rn_move (S.tm rfl)) rfl ?_; clear S; intro a S
    refine lv S (rn_move (S.tm rfl)) rfl ?_; clear S; intro a S
    refine lv S (rn_move (S.tm rfl)) rfl ?_; clear S; intro a S
    refine lv S (rn_move (S.tm rfl)) rfl ?_; clear S; intro a S
    refine lv S (rn_move (S.tm rfl)) rfl ?_; clear S; intro a S
    refine l_enter S (fun _ => run_call (vs := [v_p_l, .string p_race, .string p_who, .int .i64 p_from, .int .i64 p_to]) ⟨(S.tm rfl), (S.tm rfl), (S.tm rfl), (S.tm rfl), (S.tm rfl), trivial⟩ Tryd.call26) (swimmer_best_ok _ v_p_l p_l (hs_p_l.mono (S.le_arg nil_sub)) p_race p_who p_from p_to _ rfl) rfl ?_; clear S; intro v5 a w11 hv5 hk11 hn5 S
    subst hv5
    refine lv S (rn_move (S.tm rfl)) rfl ?_; clear S; intro a S
    refine lv S (rn_extract (S.tm rfl) rfl) rfl ?_; clear S; intro a S
    refine lv S (rn_extract (S.tm rfl) rfl) rfl ?_; clear S; intro a S
    refine l_alloc S Tryd.zeroValue34 (cs := [.string k_empty, .string k_empty, .int .i64 0, .int .i64 0]) rfl rfl ?_; clear S; intro a w12 b2 hz2 hk12 S
    refine l_store S (S.tm rfl) (S.tm rfl) (i := 0) (off := 0) rfl Tryd.sizeOf34 (vs := [.string (((swimmer_best p_l p_race p_who p_from p_to).1).Who), .string (((swimmer_best p_l p_race p_who p_from p_to).1).Race), .int .i64 (((swimmer_best p_l p_race p_who p_from p_to).1).Day), .int .i64 (((swimmer_best p_l p_race p_who p_from p_to).1).Time)]) rfl rfl rfl rfl ?_; clear S; intro w13 hk13 S
    refine lv S (rn_assign (S.tm rfl)) rfl ?_; clear S; intro a S
    refine l_done ?_
    replace S := S.nk [.blk b2 [.string (((swimmer_best p_l p_race p_who p_from p_to).1).Who), .string (((swimmer_best p_l p_race p_who p_from p_to).1).Race), .int .i64 (((swimmer_best p_l p_race p_who p_from p_to).1).Day), .int .i64 (((swimmer_best p_l p_race p_who p_from p_to).1).Time)] 34, .blk b1 [.string k_empty, .string k_empty, .int .i64 0, .int .i64 0] 34] [(10, .pointer (some ⟨b1, 0, none⟩)), (14, .pointer (some ⟨b2, 0, none⟩)), (15, .bool ((swimmer_best p_l p_race p_who p_from p_to).2))] [true, true] rfl ⟨rfl, rfl, rfl, trivial⟩
    refine then_n ?_
    refine f_seq ?_
    refine f_region ?_
    refine lv S (rn_ldA Tryd.isAgg34 Tryd.sizeOf34 (off := 0) (o := 0) (part := [.string (((swimmer_best p_l p_race p_who p_from p_to).1).Who), .string (((swimmer_best p_l p_race p_who p_from p_to).1).Race), .int .i64 (((swimmer_best p_l p_race p_who p_from p_to).1).Day), .int .i64 (((swimmer_best p_l p_race p_who p_from p_to).1).Time)]) rfl rfl (S.tm rfl) (S.cellsAt (i := 0) rfl)) rfl ?_; clear S; intro a S
    refine lv S (rn_move (S.tm rfl)) rfl ?_; clear S; intro a S
    refine l_store S (S.tm rfl) (S.tm rfl) (i := 1) (off := 0) rfl Tryd.sizeOf34 (vs := [.string (((swimmer_best p_l p_race p_who p_from p_to).1).Who), .string (((swimmer_best p_l p_race p_who p_from p_to).1).Race), .int .i64 (((swimmer_best p_l p_race p_who p_from p_to).1).Day), .int .i64 (((swimmer_best p_l p_race p_who p_from p_to).1).Time)]) rfl rfl rfl rfl ?_; clear S; intro w14 hk14 S
    refine lv S (rn_assign (S.tm rfl)) rfl ?_; clear S; intro a S
    refine lv S (rn_assign rfl) rfl ?_; clear S; intro a S
    refine l_done ?_
    replace S := S.nk [.blk b1 [.string (((swimmer_best p_l p_race p_who p_from p_to).1).Who), .string (((swimmer_best p_l p_race p_who p_from p_to).1).Race), .int .i64 (((swimmer_best p_l p_race p_who p_from p_to).1).Day), .int .i64 (((swimmer_best p_l p_race p_who p_from p_to).1).Time)] 34] [(10, .pointer (some ⟨b1, 0, none⟩)), (11, .bool ((swimmer_best p_l p_race p_who p_from p_to).2)), (12, .int .i64 0)] [false, true] rfl ⟨rfl, rfl, rfl, trivial⟩
    refine then_n ?_
    refine wp_ret ?_
    obtain rfl := Option.some.inj h
    exact f_retG S (rs := [.cell 10 34, .tmp 11, .tmp 12]) (vs := [.agg #[.string (((swimmer_best p_l p_race p_who p_from p_to).1).Who), .string (((swimmer_best p_l p_race p_who p_from p_to).1).Race), .int .i64 (((swimmer_best p_l p_race p_who p_from p_to).1).Day), .int .i64 (((swimmer_best p_l p_race p_who p_from p_to).1).Time)], .bool ((swimmer_best p_l p_race p_who p_from p_to).2), .int .i64 0]) Tryd.results9 ⟨(res_cell (off := 0) S rfl Tryd.isAgg34 Tryd.sizeOf34 rfl (S.cellsAt (i := 0) rfl)), (res_tmp S rfl), (res_tmp S rfl), trivial⟩ rfl rfl
set_option maxRecDepth 20000 in
theorem swimmer_CheckStandards_ok (w : World) (v_p_l : Value) (p_l : List GStandard) (hs_p_l : Slc (view w []) 4 v_p_l (p_l.map GStandard.enc)) (r : Int) (h : swimmer_CheckStandards p_l = some r) :
    Calls Tryd.prog 18 [v_p_l].toArray w (Ret w [] fun _ v _ => v = .int .i64 r) := by
 refine f_enter [] [] Tryd.func18 rfl Tryd.ntmps18 rfl (by simp) (by simp [fps]) (by simp [fps]) fun a S => ?_
 unfold swimmer_CheckStandards at h
 replace S := S.nk [] [(0, v_p_l)] [] rfl ⟨rfl, trivial⟩
 refine f_seq ?_
 refine f_region ?_
 refine lv S (rn_assign rfl) rfl ?_; clear S; intro a S
 refine l_done ?_
 replace S := S.nk [] [(0, v_p_l)] [] rfl ⟨rfl, trivial⟩
 refine then_n ?_
 refine f_seq ?_
 refine f_seq ?_
 refine f_region ?_
 refine lv S (rn_move (S.tm rfl)) rfl ?_; clear S; intro a S
 refine lv S (rn_lenT sl_29 (S.tm rfl) (slc_len hs_p_l)) rfl ?_; clear S; intro a S
 refine lv S (rn_gtr (S.tm rfl) rfl) rfl ?_; clear S; intro a S
 refine l_done ?_
 replace S := S.nk [] [(0, v_p_l), (7, .bool (decide (200 < (p_l.length : Int))))] [] rfl ⟨rfl, rfl, trivial⟩
 refine then_n ?_
 refine f_cond (S.tm rfl) (fun hb1 => ?_) (fun hb1 => ?_)
 ·replace h := iteT h hb1
  refine f_seq ?_
  refine f_region ?_
  refine lv S (rn_assign rfl) rfl ?_; clear S; intro a S
  refine l_done ?_
  replace S := S.nk [] [(2, .int .i64 2)] [] rfl ⟨rfl, trivial⟩
  refine then_n ?_
  refine wp_ret ?_
  refine then_r ?_
  obtain rfl := Option.some.inj h
  exact f_ret S Tryd.results18 rfl rfl
 ·replace h := iteF h hb1
  refine wp_skip ?_
  refine then_n ?_
  refine f_seq ?_
  refine f_seq ?_
  refine f_region ?_
  refine lv S (rn_move (S.tm rfl)) rfl ?_; clear S; intro a S
  refine lv S (rn_lenT sl_29 (S.tm rfl) (slc_len hs_p_l)) rfl ?_; clear S; intro a S
  refine lv S (rn_move rfl) rfl ?_; clear S; intro a S
  refine l_done ?_
  replace S := S.nk [] [(0, v_p_l), (8, v_p_l), (9, .int .i64 (p_l.length : Int)), (10, .int .i64 0)] [] rfl ⟨rfl, rfl, rfl, rfl, trivial⟩
  refine then_n ?_
  obtain ⟨j1, hj1, h⟩ := joinE h
  refine f_join (fun a w' => j1 = some r ∧ Sx w [] nov [] [] 53 a w') ?_ ?_
  ·refine wp_block ?_
   refine f_loop (fun (ys1 : List GStandard) a w' => ∃ i1 : Nat, (∃ dn, p_l = dn ++ ys1 ∧ dn.length = i1) ∧ swimmer_CheckStandards_l1 p_l j1 ys1 i1 = some r ∧ Sx w [] nov [] [(0, v_p_l), (8, v_p_l), (9, .int .i64 (p_l.length : Int)), (10, .int .i64 (i1 : Int))] 53 a w') List.length p_l ⟨0, ⟨[], rfl, rfl⟩, h, S.nf [] rfl ⟨rfl, rfl, rfl, rfl, trivial⟩⟩ ?_
   clear S h; rintro ys1 a w1 ⟨i1, ⟨dn, hd1, hi1⟩, h, S⟩
   cases ys1 with
   | nil =>
    rw [swimmer_CheckStandards_l1.eq_1] at h
    refine f_seq ?_
    refine f_region ?_
    refine lv S (rn_lss (S.tm rfl) (S.tm rfl)) rfl ?_; clear S; intro a S
    refine l_done ?_
    replace S := S.nk [] [(0, v_p_l), (8, v_p_l), (9, .int .i64 (p_l.length : Int)), (10, .int .i64 (i1 : Int)), (11, .bool (decide ((i1 : Int) < (p_l.length : Int))))] [] rfl ⟨rfl, rfl, rfl, rfl, rfl, trivial⟩
    refine then_n ?_
    refine f_seq ?_
    refine wp_cond_false ((S.tm rfl).trans (congrArg Value.bool (rng_nil hd1 hi1))) ?_
    refine wp_exit ?_
    refine then_x ?_
    refine then_x ?_
    refine x_same ?_
    refine then_n ?_
    exact ⟨h, S.nf [] rfl trivial⟩
   | cons y1 ys1 =>
    rw [swimmer_CheckStandards_l1.eq_2] at h
    refine f_seq ?_
    refine f_region ?_
    refine lv S (rn_lss (S.tm rfl) (S.tm rfl)) rfl ?_; clear S; intro a S
    refine l_done ?_
    replace S := S.nk [] [(0, v_p_l), (8, v_p_l), (9, .int .i64 (p_l.length : Int)), (10, .int .i64 (i1 : Int)), (11, .bool (decide ((i1 : Int) < (p_l.length : Int))))] [] rfl ⟨rfl, rfl, rfl, rfl, rfl, trivial⟩
    refine then_n ?_
    refine f_seq ?_
    refine wp_cond_true ((S.tm rfl).trans (congrArg Value.bool (rng_cons hd1 hi1))) ?_
    refine wp_skip ?_
    refine then_n ?_
    refine f_seq ?_
    refine wp_block ?_
    refine f_seq ?_
    refine f_region ?_
    refine lv S (rn_move (S.tm rfl)) rfl ?_; clear S; intro a S
    obtain ⟨b1, o1, hm1, hr1⟩ := rn_indexT (a := a) (x := .tmp 8) (y := .tmp 10) (ty := 0) sl_29 hs_p_l (get_mid hd1 hi1) rfl (S.tm rfl) (S.tm rfl)
    refine lv S (hr1 _) rfl ?_; clear S; intro a S
    clear hr1
    refine lv S (rn_ldA Tryd.isAgg54 Tryd.sizeOf54 (off := o1) (o := 0) (part := [.string y1.Race, .int .i64 y1.Time, .int .i64 y1.From, .int .i64 y1.To]) rfl rfl (S.tm rfl) (hm1.at S.emb0)) rfl ?_; clear S; intro a S
    refine l_alloc S Tryd.zeroValue54 (cs := [.string k_empty, .int .i64 0, .int .i64 0, .int .i64 0]) rfl rfl ?_; clear S; intro a w3 b2 hz1 hk1 S
    refine lv S (rn_assign (S.tm rfl)) rfl ?_; clear S; intro a S
    refine l_store S (S.tm rfl) (S.tm rfl) (i := 0) (off := 0) rfl Tryd.sizeOf54 (vs := [.string y1.Race, .int .i64 y1.Time, .int .i64 y1.From, .int .i64 y1.To]) rfl rfl rfl rfl ?_; clear S; intro w4 hk2 S
    refine l_done ?_
    replace S := S.nk [.blk b2 [.string y1.Race, .int .i64 y1.Time, .int .i64 y1.From, .int .i64 y1.To] 54] [(0, v_p_l), (3, .int .i64 (i1 : Int)), (4, .pointer (some ⟨b2, 0, none⟩)), (8, v_p_l), (9, .int .i64 (p_l.length : Int)), (10, .int .i64 (i1 : Int))] [true] rfl ⟨rfl, rfl, rfl, rfl, rfl, rfl, trivial⟩
    refine then_n ?_
    refine wp_block ?_
    refine f_seq ?_
    refine f_region ?_
    refine lv S (rn_fld fa_54_0 (S.tm rfl)) rfl ?_; clear S; intro a S
    refine lv S (rn_load Tryd.isAgg9 (S.tm rfl) (S.cell (i := 0) rfl rfl)) rfl ?_; clear S; intro a S
    obtain ⟨r1, hr2, h⟩ := bindE h
    refine l_enter S (fun _ => run_call (vs := [.string y1.Race]) ⟨(S.tm rfl), trivial⟩ Tryd.call24) (words_IsKey_ok _ y1.Race _ hr2) rfl ?_; clear S; intro v1 a w5 hv1 hk3 hn1 S
    subst hv1
    refine lv S (rn_not (S.tm rfl)) rfl ?_; clear S; intro a S
    refine lv S (rn_assign (S.tm rfl)) rfl ?_; clear S; intro a S
    refine l_done ?_
    replace S := S.nk [.blk b2 [.string y1.Race, .int .i64 y1.Time, .int .i64 y1.From, .int .i64 y1.To] 54] [(0, v_p_l), (3, .int .i64 (i1 : Int)), (4, .pointer (some ⟨b2, 0, none⟩)), (8, v_p_l), (9, .int .i64 (p_l.length : Int)), (10, .int .i64 (i1 : Int)), (15, .bool (!r1))] [true] rfl ⟨rfl, rfl, rfl, rfl, rfl, rfl, rfl, trivial⟩
    refine then_n ?_
    refine f_cond (S.tm rfl) (fun hb2 => ?_) (fun hb2 => ?_)
    ·replace h := iteT h hb2
     refine f_seq ?_
     refine f_region ?_
     refine lv S (rn_assign rfl) rfl ?_; clear S; intro a S
     refine l_done ?_
     replace S := S.nk [] [(2, .int .i64 5)] [false] rfl ⟨rfl, trivial⟩
     refine then_n ?_
     refine wp_ret ?_
     refine blk_r ?_
     refine blk_r ?_
     refine then_r ?_
     refine then_r ?_
     refine blk_r ?_
     refine then_r ?_
     refine then_r ?_
     obtain rfl := Option.some.inj h
     exact f_ret S Tryd.results18 rfl rfl
    ·replace h := iteF h hb2
     refine f_seq ?_
     refine f_region ?_
     refine lv S (rn_fld fa_54_1 (S.tm rfl)) rfl ?_; clear S; intro a S
     refine lv S (rn_load Tryd.isAgg3 (S.tm rfl) (S.cell (i := 0) rfl rfl)) rfl ?_; clear S; intro a S
     refine l_enter S (fun _ => run_call (vs := [.int .i64 y1.Time]) ⟨(S.tm rfl), trivial⟩ Tryd.call37) (timing_IsTime_ok _ y1.Time _ rfl) rfl ?_; clear S; intro v2 a w6 hv2 hk4 hn2 S
     subst hv2
     refine lv S (rn_not (S.tm rfl)) rfl ?_; clear S; intro a S
     refine lv S (rn_move (S.tm rfl)) rfl ?_; clear S; intro a S
     refine f_cutm 7 (fun a w' => Keep [] w6 w' ∧ Sx w [] nov [.blk b2 [.string y1.Race, .int .i64 y1.Time, .int .i64 y1.From, .int .i64 y1.To] 54] [(0, v_p_l), (3, .int .i64 (i1 : Int)), (4, .pointer (some ⟨b2, 0, none⟩)), (8, v_p_l), (9, .int .i64 (p_l.length : Int)), (10, .int .i64 (i1 : Int)), (32, .bool ((!(timing_IsTime y1.Time)) || (!(words_Within y1.From (-40000) y1.To))))] 53 a w') ?_ ?_
     ·rcases Bool.eq_false_or_eq_true (!(timing_IsTime y1.Time)) with hb3 | hb3
      ·refine l_skip S rfl rfl rfl (neq_t hb3) rfl ?_ rfl; clear S; intro a S
       refine l_skip S rfl rfl rfl (neq_t hb3) rfl ?_ rfl; clear S; intro a S
       refine l_skip S rfl rfl rfl (neq_t hb3) rfl ?_ rfl; clear S; intro a S
       refine l_skip S rfl rfl rfl (neq_t hb3) rfl ?_ rfl; clear S; intro a S
       refine l_skip S rfl rfl rfl (neq_t hb3) rfl ?_ rfl; clear S; intro a S
       refine l_skip S rfl rfl rfl (neq_t hb3) rfl ?_ rfl; clear S; intro a S
       refine lv S (rn_or_t (!(words_Within y1.From (-40000) y1.To)) hb3 (S.tm rfl) rfl) rfl ?_; clear S; intro a S
       refine l_done ?_
       refine then_n ?_
       exact ⟨Keep.refl _ _, S.nf [true] rfl ⟨rfl, rfl, rfl, rfl, rfl, rfl, rfl, trivial⟩⟩
      ·refine l_want S rfl rfl rfl hb3 ?_
       refine lv S (rn_fld fa_54_2 (S.tm rfl)) rfl ?_; clear S; intro a S
       refine l_want S rfl rfl rfl hb3 ?_
       refine lv S (rn_load Tryd.isAgg3 (S.tm rfl) (S.cell (i := 0) rfl rfl)) rfl ?_; clear S; intro a S
       refine l_want S rfl rfl rfl hb3 ?_
       refine lv S (rn_fld fa_54_3 (S.tm rfl)) rfl ?_; clear S; intro a S
       refine l_want S rfl rfl rfl hb3 ?_
       refine lv S (rn_load Tryd.isAgg3 (S.tm rfl) (S.cell (i := 0) rfl rfl)) rfl ?_; clear S; intro a S
       refine l_want S rfl rfl rfl hb3 ?_
       refine l_enter S (fun _ => run_call (vs := [.int .i64 y1.From, .int .i64 (-40000), .int .i64 y1.To]) ⟨(S.tm rfl), rfl, (S.tm rfl), trivial⟩ Tryd.call25) (words_Within_ok _ y1.From (-40000) y1.To _ rfl) rfl ?_; clear S; intro v3 a w8 hv3 hk5 hn3 S
       subst hv3
       refine l_want S rfl rfl rfl hb3 ?_
       refine lv S (rn_not (S.tm rfl)) rfl ?_; clear S; intro a S
       refine lv S (rn_or_f hb3 (S.tm rfl) (S.tm rfl)) rfl ?_; clear S; intro a S
       refine l_done ?_
       refine then_n ?_
       exact ⟨hk5, S.nf [true] rfl ⟨rfl, rfl, rfl, rfl, rfl, rfl, rfl, trivial⟩⟩
     clear S; rintro a w7 ⟨hk6, S⟩
     refine lv S (rn_move (S.tm rfl)) rfl ?_; clear S; intro a S
     refine f_cutm 4 (fun a w' => Keep [] w7 w' ∧ Sx w [] nov [.blk b2 [.string y1.Race, .int .i64 y1.Time, .int .i64 y1.From, .int .i64 y1.To] 54] [(0, v_p_l), (3, .int .i64 (i1 : Int)), (4, .pointer (some ⟨b2, 0, none⟩)), (8, v_p_l), (9, .int .i64 (p_l.length : Int)), (10, .int .i64 (i1 : Int)), (37, .bool (((!(timing_IsTime y1.Time)) || (!(words_Within y1.From (-40000) y1.To))) || (decide (4000 < y1.To))))] 53 a w') ?_ ?_
     ·rcases Bool.eq_false_or_eq_true ((!(timing_IsTime y1.Time)) || (!(words_Within y1.From (-40000) y1.To))) with hb4 | hb4
      ·refine l_skip S rfl rfl rfl (neq_t hb4) rfl ?_ rfl; clear S; intro a S
       refine l_skip S rfl rfl rfl (neq_t hb4) rfl ?_ rfl; clear S; intro a S
       refine l_skip S rfl rfl rfl (neq_t hb4) rfl ?_ rfl; clear S; intro a S
       refine lv S (rn_or_t (decide (4000 < y1.To)) hb4 (S.tm rfl) rfl) rfl ?_; clear S; intro a S
       refine l_done ?_
       refine then_n ?_
       exact ⟨Keep.refl _ _, S.nf [true] rfl ⟨rfl, rfl, rfl, rfl, rfl, rfl, rfl, trivial⟩⟩
      ·refine l_want S rfl rfl rfl hb4 ?_
       refine lv S (rn_fld fa_54_3 (S.tm rfl)) rfl ?_; clear S; intro a S
       refine l_want S rfl rfl rfl hb4 ?_
       refine lv S (rn_load Tryd.isAgg3 (S.tm rfl) (S.cell (i := 0) rfl rfl)) rfl ?_; clear S; intro a S
       refine l_want S rfl rfl rfl hb4 ?_
       refine lv S (rn_gtr (S.tm rfl) rfl) rfl ?_; clear S; intro a S
       refine lv S (rn_or_f hb4 (S.tm rfl) (S.tm rfl)) rfl ?_; clear S; intro a S
       refine l_done ?_
       refine then_n ?_
       exact ⟨Keep.refl _ _, S.nf [true] rfl ⟨rfl, rfl, rfl, rfl, rfl, rfl, rfl, trivial⟩⟩
     clear S; rintro a w9 ⟨hk7, S⟩
     refine lv S (rn_assign (S.tm rfl)) rfl ?_; clear S; intro a S
     refine l_done ?_
     replace S := S.nk [.blk b2 [.string y1.Race, .int .i64 y1.Time, .int .i64 y1.From, .int .i64 y1.To] 54] [(0, v_p_l), (3, .int .i64 (i1 : Int)), (4, .pointer (some ⟨b2, 0, none⟩)), (8, v_p_l), (9, .int .i64 (p_l.length : Int)), (10, .int .i64 (i1 : Int)), (20, .bool (((!(timing_IsTime y1.Time)) || (!(words_Within y1.From (-40000) y1.To))) || (decide (4000 < y1.To))))] [true] rfl ⟨rfl, rfl, rfl, rfl, rfl, rfl, rfl, trivial⟩
     refine then_n ?_
     refine f_cond (S.tm rfl) (fun hb5 => ?_) (fun hb5 => ?_)
     ·replace h := iteT h hb5
      refine f_seq ?_
      refine f_region ?_
      refine lv S (rn_assign rfl) rfl ?_; clear S; intro a S
      refine l_done ?_
      replace S := S.nk [] [(2, .int .i64 1)] [false] rfl ⟨rfl, trivial⟩
      refine then_n ?_
      refine wp_ret ?_
      refine blk_r ?_
      refine blk_r ?_
      refine then_r ?_
      refine then_r ?_
      refine blk_r ?_
      refine then_r ?_
      refine then_r ?_
      obtain rfl := Option.some.inj h
      exact f_ret S Tryd.results18 rfl rfl
     ·replace h := iteF h hb5
      refine f_seq ?_
      refine d_region [] ([]) Tryd.mixed S rfl (by kernel_rfl) ?_; clear S; intro w10 hk8 hsel S
      refine d_rest [0, 1, 2, 3, 4, 5, 6, 7, 8, 9, 10, 11, 12, 13] hsel (by kernel_rfl) rfl ?_
      clear hsel
      refine s_lv S rfl (rn_move (S.tm rfl)) rfl ?_; clear S; intro a S
      refine s_lv S rfl (rn_gtr (S.tm rfl) rfl) rfl ?_; clear S; intro a S
      refine s_lv S rfl (rn_move (S.tm rfl)) rfl ?_; clear S; intro a S
      obtain ⟨j2, hj2, h⟩ := joinE h
      refine s_cutm 10 (fun a w' => ∃ c1, j2 c1 = some r ∧ Keep [] w10 w' ∧ Sx w [] nov [.blk b2 [.string y1.Race, .int .i64 y1.Time, .int .i64 y1.From, .int .i64 y1.To] 54] [(0, v_p_l), (8, v_p_l), (9, .int .i64 (p_l.length : Int)), (10, .int .i64 (i1 : Int)), (51, .bool c1)] 53 a w') ?_ ?_
      ·rcases Bool.eq_false_or_eq_true (decide (0 < (i1 : Int))) with hb6 | hb6
       ·replace h := iteT h hb6
        refine s_want S rfl rfl rfl rfl hb6 ?_
        refine s_lv0 S (rn_fld fa_54_0 (S.tm rfl)) rfl ?_; clear S; intro a S
        refine s_want S rfl rfl rfl rfl hb6 ?_
        refine s_lv0 S (rn_load Tryd.isAgg9 (S.tm rfl) (S.cell (i := 0) rfl rfl)) rfl ?_; clear S; intro a S
        refine s_want S rfl rfl rfl rfl hb6 ?_
        refine s_lv0 S (rn_move (S.tm rfl)) rfl ?_; clear S; intro a S
        refine s_want S rfl rfl rfl rfl hb6 ?_
        refine s_lv0 S (rn_move (S.tm rfl)) rfl ?_; clear S; intro a S
        refine s_want S rfl rfl rfl rfl hb6 ?_
        refine s_lv0 S (rn_sub (S.tm rfl) rfl) rfl ?_; clear S; intro a S
        refine s_want S rfl rfl rfl rfl hb6 ?_
        obtain ⟨hc1, h⟩ := chkE h
        obtain ⟨b3, o2, hm2, hr3⟩ := rn_indexT (a := a) (x := .tmp 44) (y := .tmp 46) (ty := 0) sl_29 hs_p_l (inB_get hc1).1 (inB_get hc1).2 (S.tm rfl) (S.tm rfl)
        refine s_lv0 S (hr3 _) rfl ?_; clear S; intro a S
        clear hr3
        refine s_want S rfl rfl rfl rfl hb6 ?_
        refine s_lv0 S (rn_fld fa_54_0 (S.tm rfl)) rfl ?_; clear S; intro a S
        refine s_want S rfl rfl rfl rfl hb6 ?_
        refine s_lv0 S (rn_ld Tryd.isAgg9 (off := o2) (o := 0) (S.tm rfl) (hm2.at S.emb0) rfl) rfl ?_; clear S; intro a S
        refine s_want S rfl rfl rfl rfl hb6 ?_
        refine s_lv0 S (rn_slss (S.tm rfl) (S.tm rfl)) rfl ?_; clear S; intro a S
        refine s_lv S rfl (rn_and_t hb6 (S.tm rfl) (S.tm rfl)) rfl ?_; clear S; intro a S
        refine s_done ?_
        exact ⟨_, h, Keep.refl _ _, S.nf [true] rfl ⟨rfl, rfl, rfl, rfl, rfl, trivial⟩⟩
       ·replace h := iteF h hb6
        refine s_skip S rfl rfl rfl rfl (neq_f hb6) rfl ?_ rfl; clear S; intro a S
        refine s_skip S rfl rfl rfl rfl (neq_f hb6) rfl ?_ rfl; clear S; intro a S
        refine s_skip S rfl rfl rfl rfl (neq_f hb6) rfl ?_ rfl; clear S; intro a S
        refine s_skip S rfl rfl rfl rfl (neq_f hb6) rfl ?_ rfl; clear S; intro a S
        refine s_skip S rfl rfl rfl rfl (neq_f hb6) rfl ?_ rfl; clear S; intro a S
        refine s_skip S rfl rfl rfl rfl (neq_f hb6) rfl ?_ rfl; clear S; intro a S
        refine s_skip S rfl rfl rfl rfl (neq_f hb6) rfl ?_ rfl; clear S; intro a S
        refine s_skip S rfl rfl rfl rfl (neq_f hb6) rfl ?_ rfl; clear S; intro a S
        refine s_skip S rfl rfl rfl rfl (neq_f hb6) rfl ?_ rfl; clear S; intro a S
        refine s_lv S rfl (rn_and_f true hb6 (S.tm rfl) rfl) rfl ?_; clear S; intro a S
        refine s_done ?_
        exact ⟨_, h, Keep.refl _ _, S.nf [true] rfl ⟨rfl, rfl, rfl, rfl, rfl, trivial⟩⟩
      clear S h; rintro a w11 ⟨c1, h, hk9, S⟩; rw [hj2] at h; clear hj2 j2
      refine s_lv S rfl (rn_assign (S.tm rfl)) rfl ?_; clear S; intro a S
      refine s_done ?_
      replace S := S.nk [] [(0, v_p_l), (8, v_p_l), (9, .int .i64 (p_l.length : Int)), (10, .int .i64 (i1 : Int)), (38, .bool c1)] [false] rfl ⟨rfl, rfl, rfl, rfl, rfl, trivial⟩
      refine then_n ?_
      refine f_cond (S.tm rfl) (fun hb7 => ?_) (fun hb7 => ?_)
      ·replace h := iteT h hb7
       refine f_seq ?_
       refine f_region ?_
       refine lv S (rn_assign rfl) rfl ?_; clear S; intro a S
       refine l_done ?_
       replace S := S.nk [] [(2, .int .i64 7)] [] rfl ⟨rfl, trivial⟩
       refine then_n ?_
       refine wp_ret ?_
       refine blk_r ?_
       refine blk_r ?_
       refine then_r ?_
       refine then_r ?_
       refine blk_r ?_
       refine then_r ?_
       refine then_r ?_
       obtain rfl := Option.some.inj h
       exact f_ret S Tryd.results18 rfl rfl
      ·replace h := iteF h hb7
       refine wp_skip ?_
       refine blk_n ?_
       refine blk_n ?_
       refine then_n ?_
       refine f_region ?_
       refine lv S (rn_add (S.tm rfl) rfl) rfl ?_; clear S; intro a S
       refine lv S (rn_move (S.tm rfl)) rfl ?_; clear S; intro a S
       refine l_done ?_
       replace S := S.nk [] [(0, v_p_l), (8, v_p_l), (9, .int .i64 (p_l.length : Int)), (10, .int .i64 (W ((i1 : Int) + 1)))] [] rfl ⟨rfl, rfl, rfl, rfl, trivial⟩
       refine then_n ?_
       exact ⟨ys1, ⟨i1 + 1, ⟨_, (hd1).trans (List.append_cons _ _ _), by simp [hi1]⟩, h, S.nf [] rfl ⟨rfl, rfl, rfl, (congrArg (fun z => some (Value.int .i64 z)) (rng_next hd1 hi1 (slc_max hs_p_l))), trivial⟩⟩, Nat.lt_succ_self _⟩
  clear S h; rintro a w2 ⟨h, S⟩; rw [hj1] at h; clear hj1 j1
  refine then_n ?_
  refine f_seq ?_
  refine f_region ?_
  refine lv S (rn_assign rfl) rfl ?_; clear S; intro a S
  refine l_done ?_
  replace S := S.nk [] [(2, .int .i64 0)] [] rfl ⟨rfl, trivial⟩
  refine then_n ?_
  refine wp_ret ?_
  obtain rfl := Option.some.inj h
  exact f_ret S Tryd.results18 rfl rfl
theorem swimmer_Qualified_ok (w : World) (v_p_l : Value) (p_l : List GStandard) (hs_p_l : Slc (view w []) 4 v_p_l (p_l.map GStandard.enc)) (v_p_m : Value) (p_m : List GMark) (hs_p_m : Slc (view w []) 4 v_p_m (p_m.map GMark.enc)) (p_race : ByteArray) (p_who : ByteArray) (r : Bool × Int) (h : swimmer_Qualified p_l p_m p_race p_who = some r) :
    Calls Tryd.prog 10 [v_p_l, v_p_m, .string p_race, .string p_who].toArray w (Ret w [] fun _ v _ => v = .tuple #[.bool r.1, .int .i64 r.2]) := by
 refine f_enter [] [] Tryd.func10 rfl Tryd.ntmps10 rfl (by simp) (by simp [fps]) (by simp [fps]) fun a S => ?_
 unfold swimmer_Qualified at h
 replace S := S.nk [] [(0, v_p_l), (1, v_p_m), (2, .string p_race), (3, .string p_who)] [] rfl ⟨rfl, rfl, rfl, rfl, trivial⟩
 refine f_seq ?_
 refine f_region ?_
 refine lv S (rn_assign rfl) rfl ?_; clear S; intro a S
 refine lv S (rn_assign rfl) rfl ?_; clear S; intro a S
 refine l_done ?_
 replace S := S.nk [] [(0, v_p_l), (1, v_p_m), (2, .string p_race), (3, .string p_who)] [] rfl ⟨rfl, rfl, rfl, rfl, trivial⟩
 refine then_n ?_
 refine f_seq ?_
 refine f_seq ?_
 refine f_region ?_
 refine lv S (rn_move (S.tm rfl)) rfl ?_; clear S; intro a S
 obtain ⟨r1, hr1, h⟩ := bindE h
 refine l_enter S (fun _ => run_call (vs := [v_p_l]) ⟨(S.tm rfl), trivial⟩ Tryd.call18) (swimmer_CheckStandards_ok _ v_p_l p_l (hs_p_l.mono (S.le_arg nil_sub)) _ hr1) rfl ?_; clear S; intro v1 a w1 hv1 hk1 hn1 S
 subst hv1
 refine lv S (rn_assign (S.tm rfl)) rfl ?_; clear S; intro a S
 refine l_done ?_
 replace S := S.nk [] [(0, v_p_l), (1, v_p_m), (2, .string p_race), (3, .string p_who), (10, .int .i64 r1)] [] rfl ⟨rfl, rfl, rfl, rfl, rfl, trivial⟩
 refine then_n ?_
 refine f_seq ?_
 refine f_region ?_
 refine lv S (rn_move (S.tm rfl)) rfl ?_; clear S; intro a S
 refine lv S (rn_neq (S.tm rfl) rfl) rfl ?_; clear S; intro a S
 refine l_done ?_
 replace S := S.nk [] [(0, v_p_l), (1, v_p_m), (2, .string p_race), (3, .string p_who), (10, .int .i64 r1), (20, .bool (!decide (r1 = 0)))] [] rfl ⟨rfl, rfl, rfl, rfl, rfl, rfl, trivial⟩
 refine then_n ?_
 refine f_cond (S.tm rfl) (fun hb1 => ?_) (fun hb1 => ?_)
 ·replace h := iteT h hb1
  refine f_seq ?_
  refine f_region ?_
  refine lv S (rn_move (S.tm rfl)) rfl ?_; clear S; intro a S
  refine lv S (rn_assign rfl) rfl ?_; clear S; intro a S
  refine lv S (rn_assign (S.tm rfl)) rfl ?_; clear S; intro a S
  refine l_done ?_
  replace S := S.nk [] [(8, .bool false), (9, .int .i64 r1)] [] rfl ⟨rfl, rfl, trivial⟩
  refine then_n ?_
  refine wp_ret ?_
  refine then_r ?_
  obtain rfl := Option.some.inj h
  exact f_ret2 S Tryd.results10 rfl rfl rfl
 ·replace h := iteF h hb1
  refine wp_skip ?_
  refine then_n ?_
  refine f_seq ?_
  refine f_seq ?_
  refine f_region ?_
  refine lv S (rn_move (S.tm rfl)) rfl ?_; clear S; intro a S
  obtain ⟨r2, hr2, h⟩ := bindE h
  refine l_enter S (fun _ => run_call (vs := [v_p_m]) ⟨(S.tm rfl), trivial⟩ Tryd.call17) (swimmer_CheckMarks_ok _ v_p_m p_m (hs_p_m.mono (S.le_arg nil_sub)) _ hr2) rfl ?_; clear S; intro v2 a w2 hv2 hk2 hn2 S
  subst hv2
  refine lv S (rn_assign (S.tm rfl)) rfl ?_; clear S; intro a S
  refine l_done ?_
  replace S := S.nk [] [(0, v_p_l), (1, v_p_m), (2, .string p_race), (3, .string p_who), (11, .int .i64 r2)] [] rfl ⟨rfl, rfl, rfl, rfl, rfl, trivial⟩
  refine then_n ?_
  refine f_seq ?_
  refine f_region ?_
  refine lv S (rn_move (S.tm rfl)) rfl ?_; clear S; intro a S
  refine lv S (rn_neq (S.tm rfl) rfl) rfl ?_; clear S; intro a S
  refine l_done ?_
  replace S := S.nk [] [(0, v_p_l), (1, v_p_m), (2, .string p_race), (3, .string p_who), (11, .int .i64 r2), (25, .bool (!decide (r2 = 0)))] [] rfl ⟨rfl, rfl, rfl, rfl, rfl, rfl, trivial⟩
  refine then_n ?_
  refine f_cond (S.tm rfl) (fun hb2 => ?_) (fun hb2 => ?_)
  ·replace h := iteT h hb2
   refine f_seq ?_
   refine f_region ?_
   refine lv S (rn_move (S.tm rfl)) rfl ?_; clear S; intro a S
   refine lv S (rn_assign rfl) rfl ?_; clear S; intro a S
   refine lv S (rn_assign (S.tm rfl)) rfl ?_; clear S; intro a S
   refine l_done ?_
   replace S := S.nk [] [(8, .bool false), (9, .int .i64 r2)] [] rfl ⟨rfl, rfl, trivial⟩
   refine then_n ?_
   refine wp_ret ?_
   refine then_r ?_
   obtain rfl := Option.some.inj h
   exact f_ret2 S Tryd.results10 rfl rfl rfl
  ·replace h := iteF h hb2
   refine wp_skip ?_
   refine then_n ?_
   refine f_seq ?_
   refine f_seq ?_
   refine f_region ?_
   refine lv S (rn_move (S.tm rfl)) rfl ?_; clear S; intro a S
   obtain ⟨r3, hr3, h⟩ := bindE h
   refine l_enter S (fun _ => run_call (vs := [.string p_race]) ⟨(S.tm rfl), trivial⟩ Tryd.call24) (words_IsKey_ok _ p_race _ hr3) rfl ?_; clear S; intro v3 a w3 hv3 hk3 hn3 S
   subst hv3
   refine lv S (rn_not (S.tm rfl)) rfl ?_; clear S; intro a S
   refine lv S (rn_move (S.tm rfl)) rfl ?_; clear S; intro a S
   obtain ⟨j1, hj1, h⟩ := joinE h
   refine f_cutm 4 (fun a w' => ∃ c1, j1 c1 = some r ∧ Keep [] w3 w' ∧ Sx w [] nov [] [(0, v_p_l), (1, v_p_m), (2, .string p_race), (3, .string p_who), (34, .bool c1)] 66 a w') ?_ ?_
   ·rcases Bool.eq_false_or_eq_true (!r3) with hb3 | hb3
    ·replace h := iteT h hb3
     refine l_skip S rfl rfl rfl (neq_t hb3) rfl ?_ rfl; clear S; intro a S
     refine l_skip S rfl rfl rfl (neq_t hb3) rfl ?_ rfl; clear S; intro a S
     refine l_skip S rfl rfl rfl (neq_t hb3) rfl ?_ rfl; clear S; intro a S
     refine lv S (rn_or_t true hb3 (S.tm rfl) rfl) rfl ?_; clear S; intro a S
     refine l_done ?_
     refine then_n ?_
     exact ⟨_, h, Keep.refl _ _, S.nf [] rfl ⟨rfl, rfl, rfl, rfl, rfl, trivial⟩⟩
    ·replace h := iteF h hb3
     refine l_want S rfl rfl rfl hb3 ?_
     refine lv S (rn_move (S.tm rfl)) rfl ?_; clear S; intro a S
     refine l_want S rfl rfl rfl hb3 ?_
     obtain ⟨r4, hr4, h⟩ := bindE h
     refine l_enter S (fun _ => run_call (vs := [.string p_who]) ⟨(S.tm rfl), trivial⟩ Tryd.call24) (words_IsKey_ok _ p_who _ hr4) rfl ?_; clear S; intro v4 a w5 hv4 hk4 hn4 S
     subst hv4
     refine l_want S rfl rfl rfl hb3 ?_
     refine lv S (rn_not (S.tm rfl)) rfl ?_; clear S; intro a S
     refine lv S (rn_or_f hb3 (S.tm rfl) (S.tm rfl)) rfl ?_; clear S; intro a S
     refine l_done ?_
     refine then_n ?_
     exact ⟨_, h, hk4, S.nf [] rfl ⟨rfl, rfl, rfl, rfl, rfl, trivial⟩⟩
   clear S h; rintro a w4 ⟨c1, h, hk5, S⟩; rw [hj1] at h; clear hj1 j1
   refine l_done ?_
   replace S := S.nk [] [(0, v_p_l), (1, v_p_m), (2, .string p_race), (3, .string p_who), (34, .bool c1)] [] rfl ⟨rfl, rfl, rfl, rfl, rfl, trivial⟩
   refine then_n ?_
   refine f_cond (S.tm rfl) (fun hb4 => ?_) (fun hb4 => ?_)
   ·replace h := iteT h hb4
    refine f_seq ?_
    refine f_region ?_
    refine lv S (rn_assign rfl) rfl ?_; clear S; intro a S
    refine lv S (rn_assign rfl) rfl ?_; clear S; intro a S
    refine l_done ?_
    replace S := S.nk [] [(8, .bool false), (9, .int .i64 5)] [] rfl ⟨rfl, rfl, trivial⟩
    refine then_n ?_
    refine wp_ret ?_
    refine then_r ?_
    obtain rfl := Option.some.inj h
    exact f_ret2 S Tryd.results10 rfl rfl rfl
   ·replace h := iteF h hb4
    refine wp_skip ?_
    refine then_n ?_
    refine f_seq ?_
    refine f_region ?_
    refine lv S (rn_assign rfl) rfl ?_; clear S; intro a S
    refine l_done ?_
    replace S := S.nk [] [(0, v_p_l), (1, v_p_m), (2, .string p_race), (3, .string p_who), (12, .bool true)] [] rfl ⟨rfl, rfl, rfl, rfl, rfl, trivial⟩
    refine then_n ?_
    refine f_seq ?_
    refine f_seq ?_
    refine f_region ?_
    refine lv S (rn_move (S.tm rfl)) rfl ?_; clear S; intro a S
    refine lv S (rn_lenT sl_29 (S.tm rfl) (slc_len hs_p_l)) rfl ?_; clear S; intro a S
    refine lv S (rn_move rfl) rfl ?_; clear S; intro a S
    refine l_done ?_
    replace S := S.nk [] [(1, v_p_m), (2, .string p_race), (3, .string p_who), (12, .bool true), (35, v_p_l), (36, .int .i64 (p_l.length : Int)), (37, .int .i64 0)] [] rfl ⟨rfl, rfl, rfl, rfl, rfl, rfl, rfl, trivial⟩
    refine then_n ?_
    obtain ⟨j2, hj2, h⟩ := joinE h
    refine f_join (fun a w' => ∃ x1 : Bool, j2 x1 = some r ∧ Sx w [] nov [] [(12, .bool x1)] 66 a w') ?_ ?_
    ·refine wp_block ?_
     refine f_loop (fun (ys1 : List GStandard) a w' => ∃ i1 : Nat, ∃ x1 : Bool, (∃ dn, p_l = dn ++ ys1 ∧ dn.length = i1) ∧ swimmer_Qualified_l1 p_race p_m p_who j2 ys1 i1 x1 = some r ∧ Sx w [] nov [] [(1, v_p_m), (2, .string p_race), (3, .string p_who), (12, .bool x1), (35, v_p_l), (36, .int .i64 (p_l.length : Int)), (37, .int .i64 (i1 : Int))] 66 a w') List.length p_l ⟨0, true, ⟨[], rfl, rfl⟩, h, S.nf [] rfl ⟨rfl, rfl, rfl, rfl, rfl, rfl, rfl, trivial⟩⟩ ?_
     clear S h; rintro ys1 a w6 ⟨i1, x1, ⟨dn, hd1, hi1⟩, h, S⟩
     cases ys1 with
     | nil =>
      rw [swimmer_Qualified_l1.eq_1] at h
      refine f_seq ?_
      refine f_region ?_
      refine lv S (rn_lss (S.tm rfl) (S.tm rfl)) rfl ?_; clear S; intro a S
      refine l_done ?_
      replace S := S.nk [] [(1, v_p_m), (2, .string p_race), (3, .string p_who), (12, .bool x1), (35, v_p_l), (36, .int .i64 (p_l.length : Int)), (37, .int .i64 (i1 : Int)), (38, .bool (decide ((i1 : Int) < (p_l.length : Int))))] [] rfl ⟨rfl, rfl, rfl, rfl, rfl, rfl, rfl, rfl, trivial⟩
      refine then_n ?_
      refine f_seq ?_
      refine wp_cond_false ((S.tm rfl).trans (congrArg Value.bool (rng_nil hd1 hi1))) ?_
      refine wp_exit ?_
      refine then_x ?_
      refine then_x ?_
      refine x_same ?_
      refine then_n ?_
      exact ⟨x1, h, S.nf [] rfl ⟨rfl, trivial⟩⟩
     | cons y1 ys1 =>
      rw [swimmer_Qualified_l1.eq_2] at h
      refine f_seq ?_
      refine f_region ?_
      refine lv S (rn_lss (S.tm rfl) (S.tm rfl)) rfl ?_; clear S; intro a S
      refine l_done ?_
      replace S := S.nk [] [(1, v_p_m), (2, .string p_race), (3, .string p_who), (12, .bool x1), (35, v_p_l), (36, .int .i64 (p_l.length : Int)), (37, .int .i64 (i1 : Int)), (38, .bool (decide ((i1 : Int) < (p_l.length : Int))))] [] rfl ⟨rfl, rfl, rfl, rfl, rfl, rfl, rfl, rfl, trivial⟩
      refine then_n ?_
      refine f_seq ?_
      refine wp_cond_true ((S.tm rfl).trans (congrArg Value.bool (rng_cons hd1 hi1))) ?_
      refine wp_skip ?_
      refine then_n ?_
      refine f_seq ?_
      obtain ⟨j3, hj3, h⟩ := joinE h
      refine f_join (fun a w' => ∃ x2 : Bool, j3 x2 = some r ∧ Sx w [] nov [] [(1, v_p_m), (2, .string p_race), (3, .string p_who), (12, .bool x2), (35, v_p_l), (36, .int .i64 (p_l.length : Int)), (37, .int .i64 (i1 : Int))] 66 a w') ?_ ?_
      ·refine wp_block ?_
       refine f_seq ?_
       refine f_region ?_
       obtain ⟨b1, o1, hm1, hr5⟩ := rn_indexT (a := a) (x := .tmp 35) (y := .tmp 37) (ty := 0) sl_29 hs_p_l (get_mid hd1 hi1) rfl (S.tm rfl) (S.tm rfl)
       refine lv S (hr5 _) rfl ?_; clear S; intro a S
       clear hr5
       refine lv S (rn_ldA Tryd.isAgg54 Tryd.sizeOf54 (off := o1) (o := 0) (part := [.string y1.Race, .int .i64 y1.Time, .int .i64 y1.From, .int .i64 y1.To]) rfl rfl (S.tm rfl) (hm1.at S.emb0)) rfl ?_; clear S; intro a S
       refine l_alloc S Tryd.zeroValue54 (cs := [.string k_empty, .int .i64 0, .int .i64 0, .int .i64 0]) rfl rfl ?_; clear S; intro a w9 b2 hz1 hk6 S
       refine l_store S (S.tm rfl) (S.tm rfl) (i := 0) (off := 0) rfl Tryd.sizeOf54 (vs := [.string y1.Race, .int .i64 y1.Time, .int .i64 y1.From, .int .i64 y1.To]) rfl rfl rfl rfl ?_; clear S; intro w10 hk7 S
       refine l_done ?_
       replace S := S.nk [.blk b2 [.string y1.Race, .int .i64 y1.Time, .int .i64 y1.From, .int .i64 y1.To] 54] [(1, v_p_m), (2, .string p_race), (3, .string p_who), (12, .bool x1), (14, .pointer (some ⟨b2, 0, none⟩)), (35, v_p_l), (36, .int .i64 (p_l.length : Int)), (37, .int .i64 (i1 : Int))] [true] rfl ⟨rfl, rfl, rfl, rfl, rfl, rfl, rfl, rfl, trivial⟩
       refine then_n ?_
       refine f_seq ?_
       refine f_seq ?_
       refine f_region ?_
       refine lv S (rn_fld fa_54_0 (S.tm rfl)) rfl ?_; clear S; intro a S
       refine lv S (rn_load Tryd.isAgg9 (S.tm rfl) (S.cell (i := 0) rfl rfl)) rfl ?_; clear S; intro a S
       refine lv S (rn_move (S.tm rfl)) rfl ?_; clear S; intro a S
       refine lv S (rn_sneq (S.tm rfl) (S.tm rfl)) rfl ?_; clear S; intro a S
       refine l_done ?_
       replace S := S.nk [.blk b2 [.string y1.Race, .int .i64 y1.Time, .int .i64 y1.From, .int .i64 y1.To] 54] [(1, v_p_m), (2, .string p_race), (3, .string p_who), (12, .bool x1), (14, .pointer (some ⟨b2, 0, none⟩)), (35, v_p_l), (36, .int .i64 (p_l.length : Int)), (37, .int .i64 (i1 : Int)), (44, .bool (!decide (y1.Race = p_race)))] [true] rfl ⟨rfl, rfl, rfl, rfl, rfl, rfl, rfl, rfl, rfl, trivial⟩
       refine then_n ?_
       refine f_cond (S.tm rfl) (fun hb5 => ?_) (fun hb5 => ?_)
       ·replace h := iteT h hb5
        refine wp_exit ?_
        refine then_x ?_
        refine x_same ?_
        refine then_n ?_
        exact ⟨x1, h, S.nf [false] rfl ⟨rfl, rfl, rfl, rfl, rfl, rfl, rfl, trivial⟩⟩
       ·replace h := iteF h hb5
        refine wp_skip ?_
        refine then_n ?_
        refine f_seq ?_
        refine f_region ?_
        refine lv S (rn_assign rfl) rfl ?_; clear S; intro a S
        refine l_done ?_
        replace S := S.nk [.blk b2 [.string y1.Race, .int .i64 y1.Time, .int .i64 y1.From, .int .i64 y1.To] 54] [(1, v_p_m), (2, .string p_race), (3, .string p_who), (12, .bool false), (14, .pointer (some ⟨b2, 0, none⟩)), (35, v_p_l), (36, .int .i64 (p_l.length : Int)), (37, .int .i64 (i1 : Int))] [true] rfl ⟨rfl, rfl, rfl, rfl, rfl, rfl, rfl, rfl, trivial⟩
        refine then_n ?_
        refine f_seq ?_
        refine f_region ?_
        refine lv S (rn_move (S.tm rfl)) rfl ?_; clear S; intro a S
        refine lv S (rn_move (S.tm rfl)) rfl ?_; clear S; intro a S
        refine lv S (rn_move (S.tm rfl)) rfl ?_; clear S; intro a S
        refine lv S (rn_fld fa_54_2 (S.tm rfl)) rfl ?_; clear S; intro a S
        refine lv S (rn_load Tryd.isAgg3 (S.tm rfl) (S.cell (i := 0) rfl rfl)) rfl ?_; clear S; intro a S
        refine lv S (rn_fld fa_54_3 (S.tm rfl)) rfl ?_; clear S; intro a S
        refine lv S (rn_load Tryd.isAgg3 (S.tm rfl) (S.cell (i := 0) rfl rfl)) rfl ?_; clear S; intro a S
        refine l_enter S (fun _ => run_call (vs := [v_p_m, .string p_race, .string p_who, .int .i64 y1.From, .int .i64 y1.To]) ⟨(S.tm rfl), (S.tm rfl), (S.tm rfl), (S.tm rfl), (S.tm rfl), trivial⟩ Tryd.call26) (swimmer_best_ok _ v_p_m p_m (hs_p_m.mono (S.le_arg nil_sub)) p_race p_who y1.From y1.To _ rfl) rfl ?_; clear S; intro v5 a w11 hv5 hk8 hn5 S
        subst hv5
        refine lv S (rn_move (S.tm rfl)) rfl ?_; clear S; intro a S
        refine lv S (rn_extract (S.tm rfl) rfl) rfl ?_; clear S; intro a S
        refine lv S (rn_extract (S.tm rfl) rfl) rfl ?_; clear S; intro a S
        refine l_alloc S Tryd.zeroValue34 (cs := [.string k_empty, .string k_empty, .int .i64 0, .int .i64 0]) rfl rfl ?_; clear S; intro a w12 b3 hz2 hk9 S
        refine l_store S (S.tm rfl) (S.tm rfl) (i := 0) (off := 0) rfl Tryd.sizeOf34 (vs := [.string (((swimmer_best p_m p_race p_who y1.From y1.To).1).Who), .string (((swimmer_best p_m p_race p_who y1.From y1.To).1).Race), .int .i64 (((swimmer_best p_m p_race p_who y1.From y1.To).1).Day), .int .i64 (((swimmer_best p_m p_race p_who y1.From y1.To).1).Time)]) rfl rfl rfl rfl ?_; clear S; intro w13 hk10 S
        refine lv S (rn_assign (S.tm rfl)) rfl ?_; clear S; intro a S
        refine l_done ?_
        replace S := S.nk [.blk b3 [.string (((swimmer_best p_m p_race p_who y1.From y1.To).1).Who), .string (((swimmer_best p_m p_race p_who y1.From y1.To).1).Race), .int .i64 (((swimmer_best p_m p_race p_who y1.From y1.To).1).Day), .int .i64 (((swimmer_best p_m p_race p_who y1.From y1.To).1).Time)] 34, .blk b2 [.string y1.Race, .int .i64 y1.Time, .int .i64 y1.From, .int .i64 y1.To] 54] [(1, v_p_m), (2, .string p_race), (3, .string p_who), (12, .bool false), (14, .pointer (some ⟨b2, 0, none⟩)), (15, .pointer (some ⟨b3, 0, none⟩)), (16, .bool ((swimmer_best p_m p_race p_who y1.From y1.To).2)), (35, v_p_l), (36, .int .i64 (p_l.length : Int)), (37, .int .i64 (i1 : Int))] [true, true] rfl ⟨rfl, rfl, rfl, rfl, rfl, rfl, rfl, rfl, rfl, rfl, trivial⟩
        refine then_n ?_
        refine f_seq ?_
        refine f_region ?_
        refine lv S (rn_move (S.tm rfl)) rfl ?_; clear S; intro a S
        refine lv S (rn_move (S.tm rfl)) rfl ?_; clear S; intro a S
        refine f_cutm 6 (fun a w' => Keep [] w13 w' ∧ Sx w [] nov [.blk b3 [.string (((swimmer_best p_m p_race p_who y1.From y1.To).1).Who), .string (((swimmer_best p_m p_race p_who y1.From y1.To).1).Race), .int .i64 (((swimmer_best p_m p_race p_who y1.From y1.To).1).Day), .int .i64 (((swimmer_best p_m p_race p_who y1.From y1.To).1).Time)] 34, .blk b2 [.string y1.Race, .int .i64 y1.Time, .int .i64 y1.From, .int .i64 y1.To] 54] [(1, v_p_m), (2, .string p_race), (3, .string p_who), (12, .bool false), (35, v_p_l), (36, .int .i64 (p_l.length : Int)), (37, .int .i64 (i1 : Int)), (63, .bool (((swimmer_best p_m p_race p_who y1.From y1.To).2) && (decide ((((swimmer_best p_m p_race p_who y1.From y1.To).1).Time) ≤ y1.Time))))] 66 a w') ?_ ?_
        ·rcases Bool.eq_false_or_eq_true ((swimmer_best p_m p_race p_who y1.From y1.To).2) with hb6 | hb6
         ·refine l_want S rfl rfl rfl hb6 ?_
          refine lv S (rn_fld fa_34_3 (S.tm rfl)) rfl ?_; clear S; intro a S
          refine l_want S rfl rfl rfl hb6 ?_
          refine lv S (rn_load Tryd.isAgg3 (S.tm rfl) (S.cell (i := 0) rfl rfl)) rfl ?_; clear S; intro a S
          refine l_want S rfl rfl rfl hb6 ?_
          refine lv S (rn_fld fa_54_1 (S.tm rfl)) rfl ?_; clear S; intro a S
          refine l_want S rfl rfl rfl hb6 ?_
          refine lv S (rn_load Tryd.isAgg3 (S.tm rfl) (S.cell (i := 1) rfl rfl)) rfl ?_; clear S; intro a S
          refine l_want S rfl rfl rfl hb6 ?_
          refine lv S (rn_leq (S.tm rfl) (S.tm rfl)) rfl ?_; clear S; intro a S
          refine lv S (rn_and_t hb6 (S.tm rfl) (S.tm rfl)) rfl ?_; clear S; intro a S
          refine l_done ?_
          refine then_n ?_
          exact ⟨Keep.refl _ _, S.nf [true, true] rfl ⟨rfl, rfl, rfl, rfl, rfl, rfl, rfl, rfl, trivial⟩⟩
         ·refine l_skip S rfl rfl rfl (neq_f hb6) rfl ?_ rfl; clear S; intro a S
          refine l_skip S rfl rfl rfl (neq_f hb6) rfl ?_ rfl; clear S; intro a S
          refine l_skip S rfl rfl rfl (neq_f hb6) rfl ?_ rfl; clear S; intro a S
          refine l_skip S rfl rfl rfl (neq_f hb6) rfl ?_ rfl; clear S; intro a S
          refine l_skip S rfl rfl rfl (neq_f hb6) rfl ?_ rfl; clear S; intro a S
          refine lv S (rn_and_f (decide ((((swimmer_best p_m p_race p_who y1.From y1.To).1).Time) ≤ y1.Time)) hb6 (S.tm rfl) rfl) rfl ?_; clear S; intro a S
          refine l_done ?_
          refine then_n ?_
          exact ⟨Keep.refl _ _, S.nf [true, true] rfl ⟨rfl, rfl, rfl, rfl, rfl, rfl, rfl, rfl, trivial⟩⟩
        clear S; rintro a w14 ⟨hk11, S⟩
        refine l_done ?_
        replace S := S.nk [] [(1, v_p_m), (2, .string p_race), (3, .string p_who), (12, .bool false), (35, v_p_l), (36, .int .i64 (p_l.length : Int)), (37, .int .i64 (i1 : Int)), (63, .bool (((swimmer_best p_m p_race p_who y1.From y1.To).2) && (decide ((((swimmer_best p_m p_race p_who y1.From y1.To).1).Time) ≤ y1.Time))))] [false, false] rfl ⟨rfl, rfl, rfl, rfl, rfl, rfl, rfl, rfl, trivial⟩
        refine then_n ?_
        refine f_cond (S.tm rfl) (fun hb7 => ?_) (fun hb7 => ?_)
        ·replace h := iteT h hb7
         refine f_seq ?_
         refine f_region ?_
         refine lv S (rn_assign rfl) rfl ?_; clear S; intro a S
         refine lv S (rn_assign rfl) rfl ?_; clear S; intro a S
         refine l_done ?_
         replace S := S.nk [] [(8, .bool true), (9, .int .i64 0)] [] rfl ⟨rfl, rfl, trivial⟩
         refine then_n ?_
         refine wp_ret ?_
         refine blk_r ?_
         refine then_r ?_
         refine then_r ?_
         refine then_r ?_
         refine blk_r ?_
         refine then_r ?_
         refine then_r ?_
         obtain rfl := Option.some.inj h
         exact f_ret2 S Tryd.results10 rfl rfl rfl
        ·replace h := iteF h hb7
         refine wp_skip ?_
         refine blk_n ?_
         refine then_n ?_
         exact ⟨false, h, S.nf [] rfl ⟨rfl, rfl, rfl, rfl, rfl, rfl, rfl, trivial⟩⟩
      clear S h; rintro a w8 ⟨x2, h, S⟩; rw [hj3] at h; clear hj3 j3
      refine then_n ?_
      refine f_region ?_
      refine lv S (rn_add (S.tm rfl) rfl) rfl ?_; clear S; intro a S
      refine lv S (rn_move (S.tm rfl)) rfl ?_; clear S; intro a S
      refine l_done ?_
      replace S := S.nk [] [(1, v_p_m), (2, .string p_race), (3, .string p_who), (12, .bool x2), (35, v_p_l), (36, .int .i64 (p_l.length : Int)), (37, .int .i64 (W ((i1 : Int) + 1)))] [] rfl ⟨rfl, rfl, rfl, rfl, rfl, rfl, rfl, trivial⟩
      refine then_n ?_
      exact ⟨ys1, ⟨i1 + 1, x2, ⟨_, (hd1).trans (List.append_cons _ _ _), by simp [hi1]⟩, h, S.nf [] rfl ⟨rfl, rfl, rfl, rfl, rfl, rfl, (congrArg (fun z => some (Value.int .i64 z)) (rng_next hd1 hi1 (slc_max hs_p_l))), trivial⟩⟩, Nat.lt_succ_self _⟩
    clear S h; rintro a w7 ⟨x1, h, S⟩; rw [hj2] at h; clear hj2 j2
    refine then_n ?_
    refine f_seq ?_
    refine f_region ?_
    refine lv S (rn_move (S.tm rfl)) rfl ?_; clear S; intro a S
    refine lv S (rn_assign (S.tm rfl)) rfl ?_; clear S; intro a S
    refine lv S (rn_assign rfl) rfl ?_; clear S; intro a S
    refine l_done ?_
    replace S := S.nk [] [(8, .bool x1), (9, .int .i64 0)] [] rfl ⟨rfl, rfl, trivial⟩
    refine then_n ?_
    refine wp_ret ?_
    obtain rfl := Option.some.inj h
    exact f_ret2 S Tryd.results10 rfl rfl rfl
theorem tumbref2_in_ok (w : World) (p_n : Int) (p_low : Int) (p_high : Int) (r : Bool) (h : tumbref2_in p_n p_low p_high = r) :
    Calls Tryd.prog 29 [.int .i64 p_n, .int .i64 p_low, .int .i64 p_high].toArray w (Ret w [] fun _ v _ => v = .bool r) := by
 refine f_enter [] [] Tryd.func29 rfl Tryd.ntmps29 rfl (by simp) (by simp [fps]) (by simp [fps]) fun a S => ?_
 unfold tumbref2_in at h
 replace S := S.nk [] [(0, .int .i64 p_n), (1, .int .i64 p_low), (2, .int .i64 p_high)] [] rfl ⟨rfl, rfl, rfl, trivial⟩
 refine f_seq ?_
 refine f_region ?_
 refine lv S (rn_assign rfl) rfl ?_; clear S; intro a S
 refine l_done ?_
 replace S := S.nk [] [(0, .int .i64 p_n), (1, .int .i64 p_low), (2, .int .i64 p_high)] [] rfl ⟨rfl, rfl, rfl, trivial⟩
 refine then_n ?_
 refine f_seq ?_
 refine f_region ?_
 refine lv S (rn_move (S.tm rfl)) rfl ?_; clear S; intro a S
 refine lv S (rn_move (S.tm rfl)) rfl ?_; clear S; intro a S
 refine lv S (rn_leq (S.tm rfl) (S.tm rfl)) rfl ?_; clear S; intro a S
 refine lv S (rn_move (S.tm rfl)) rfl ?_; clear S; intro a S
 refine f_cutm 4 (fun a w' => Keep [] w w' ∧ Sx w [] nov [] [(14, .bool ((decide (p_low ≤ p_n)) && (decide (p_n ≤ p_high))))] 15 a w') ?_ ?_
 ·rcases Bool.eq_false_or_eq_true (decide (p_low ≤ p_n)) with hb1 | hb1
  ·refine l_want S rfl rfl rfl hb1 ?_
   refine lv S (rn_move (S.tm rfl)) rfl ?_; clear S; intro a S
   refine l_want S rfl rfl rfl hb1 ?_
   refine lv S (rn_move (S.tm rfl)) rfl ?_; clear S; intro a S
   refine l_want S rfl rfl rfl hb1 ?_
   refine lv S (rn_leq (S.tm rfl) (S.tm rfl)) rfl ?_; clear S; intro a S
   refine lv S (rn_and_t hb1 (S.tm rfl) (S.tm rfl)) rfl ?_; clear S; intro a S
   refine l_done ?_
   refine then_n ?_
   exact ⟨Keep.refl _ _, S.nf [] rfl ⟨rfl, trivial⟩⟩
  ·refine l_skip S rfl rfl rfl (neq_f hb1) rfl ?_ rfl; clear S; intro a S
   refine l_skip S rfl rfl rfl (neq_f hb1) rfl ?_ rfl; clear S; intro a S
   refine l_skip S rfl rfl rfl (neq_f hb1) rfl ?_ rfl; clear S; intro a S
   refine lv S (rn_and_f (decide (p_n ≤ p_high)) hb1 (S.tm rfl) rfl) rfl ?_; clear S; intro a S
   refine l_done ?_
   refine then_n ?_
   exact ⟨Keep.refl _ _, S.nf [] rfl ⟨rfl, trivial⟩⟩
 clear S; rintro a w1 ⟨hk1, S⟩
 refine lv S (rn_assign (S.tm rfl)) rfl ?_; clear S; intro a S
 refine l_done ?_
 replace S := S.nk [] [(6, .bool ((decide (p_low ≤ p_n)) && (decide (p_n ≤ p_high))))] [] rfl ⟨rfl, trivial⟩
 refine then_n ?_
 refine wp_ret ?_
 subst h
 exact f_ret S Tryd.results29 rfl rfl
theorem strings_IndexByte_ok (w : World) (s : ByteArray) (c : Int) (r : Int) (h : strings_IndexByte s c = r) : Calls Tryd.prog 56 [.string s, .int .u8 c].toArray w (Ret w [] fun _ v _ => v = .int .i64 r) := by
  subst h
  exact ret_of_same (Any.strings_IndexByte Tryd.lays137 s c w)
theorem tumbref2_only_ok (w : World) (p_s : ByteArray) (p_some : ByteArray) (r : Bool) (h : tumbref2_only p_s p_some = some r) :
    Calls Tryd.prog 43 [.string p_s, .string p_some].toArray w (Ret w [] fun _ v _ => v = .bool r) := by
 refine f_enter [] [] Tryd.func43 rfl Tryd.ntmps43 rfl (by simp) (by simp [fps]) (by simp [fps]) fun a S => ?_
 unfold tumbref2_only at h
 replace S := S.nk [] [(0, .string p_s), (1, .string p_some)] [] rfl ⟨rfl, rfl, trivial⟩
 refine f_seq ?_
 refine f_region ?_
 refine lv S (rn_assign rfl) rfl ?_; clear S; intro a S
 refine l_done ?_
 replace S := S.nk [] [(0, .string p_s), (1, .string p_some)] [] rfl ⟨rfl, rfl, trivial⟩
 refine then_n ?_
 refine f_seq ?_
 refine f_seq ?_
 refine f_region ?_
 refine lv S (rn_move (S.tm rfl)) rfl ?_; clear S; intro a S
 refine lv S (rn_len_str Tryd.underlying9 (S.tm rfl)) rfl ?_; clear S; intro a S
 refine lv S (rn_move rfl) rfl ?_; clear S; intro a S
 refine l_done ?_
 replace S := S.nk [] [(0, .string p_s), (1, .string p_some), (7, .int .i64 (p_s.size : Int)), (8, .int .i64 0)] [] rfl ⟨rfl, rfl, rfl, rfl, trivial⟩
 refine then_n ?_
 obtain ⟨j1, hj1, h⟩ := joinE h
 refine f_join (fun a w' => j1 = some r ∧ Sx w [] nov [] [] 18 a w') ?_ ?_
 ·refine wp_block ?_
  refine f_loop (fun (m1 : Nat) a w' => ∃ x1 : Int, tumbref2_only_l1 p_s p_some j1 m1 x1 = some r ∧ Sx w [] nov [] [(0, .string p_s), (1, .string p_some), (7, .int .i64 (p_s.size : Int)), (8, .int .i64 x1)] 18 a w') id (((p_s.size : Int) - 0).toNat + 2) ⟨0, h, S.nf [] rfl ⟨rfl, rfl, rfl, rfl, trivial⟩⟩ ?_
  clear S h; rintro m1 a w1 ⟨x1, h, S⟩
  cases m1 with
  | zero => rw [tumbref2_only_l1.eq_1] at h; cases h
  | succ m1 =>
   rw [tumbref2_only_l1.eq_2] at h
   refine f_seq ?_
   refine f_region ?_
   refine lv S (rn_lss (S.tm rfl) (S.tm rfl)) rfl ?_; clear S; intro a S
   refine l_done ?_
   replace S := S.nk [] [(0, .string p_s), (1, .string p_some), (7, .int .i64 (p_s.size : Int)), (8, .int .i64 x1), (9, .bool (decide (x1 < (p_s.size : Int))))] [] rfl ⟨rfl, rfl, rfl, rfl, rfl, trivial⟩
   refine then_n ?_
   refine f_seq ?_
   refine f_cond (S.tm rfl) (fun hb1 => ?_) (fun hb1 => ?_)
   ·replace h := iteT h hb1
    refine wp_skip ?_
    refine then_n ?_
    refine f_seq ?_
    refine wp_block ?_
    refine f_seq ?_
    refine f_region ?_
    refine lv S (rn_move (S.tm rfl)) rfl ?_; clear S; intro a S
    refine lv S (rn_assign (S.tm rfl)) rfl ?_; clear S; intro a S
    refine l_done ?_
    replace S := S.nk [] [(0, .string p_s), (1, .string p_some), (5, .int .i64 x1), (7, .int .i64 (p_s.size : Int)), (8, .int .i64 x1)] [] rfl ⟨rfl, rfl, rfl, rfl, rfl, trivial⟩
    refine then_n ?_
    refine f_seq ?_
    refine f_region ?_
    refine lv S (rn_move (S.tm rfl)) rfl ?_; clear S; intro a S
    refine lv S (rn_move (S.tm rfl)) rfl ?_; clear S; intro a S
    refine lv S (rn_move (S.tm rfl)) rfl ?_; clear S; intro a S
    obtain ⟨hc1, h⟩ := chkE h
    refine lv S (rn_sindexT Tryd.underlying9 (S.tm rfl) (S.tm rfl) hc1) rfl ?_; clear S; intro a S
    refine l_enter S (fun _ => run_call (vs := [.string p_some, .int .u8 (sbyte p_s x1)]) ⟨(S.tm rfl), (S.tm rfl), trivial⟩ Tryd.call56) (strings_IndexByte_ok _ p_some (sbyte p_s x1) _ rfl) rfl ?_; clear S; intro v1 a w3 hv1 hk1 hn1 S
    subst hv1
    refine lv S (rn_lss (S.tm rfl) rfl) rfl ?_; clear S; intro a S
    refine l_done ?_
    replace S := S.nk [] [(0, .string p_s), (1, .string p_some), (7, .int .i64 (p_s.size : Int)), (8, .int .i64 x1), (16, .bool (decide ((strings_IndexByte p_some (sbyte p_s x1)) < 0)))] [] rfl ⟨rfl, rfl, rfl, rfl, rfl, trivial⟩
    refine then_n ?_
    refine f_cond (S.tm rfl) (fun hb2 => ?_) (fun hb2 => ?_)
    ·replace h := iteT h hb2
     refine f_seq ?_
     refine f_region ?_
     refine lv S (rn_assign rfl) rfl ?_; clear S; intro a S
     refine l_done ?_
     replace S := S.nk [] [(4, .bool false)] [] rfl ⟨rfl, trivial⟩
     refine then_n ?_
     refine wp_ret ?_
     refine blk_r ?_
     refine then_r ?_
     refine then_r ?_
     refine blk_r ?_
     refine then_r ?_
     refine then_r ?_
     obtain rfl := Option.some.inj h
     exact f_ret S Tryd.results43 rfl rfl
    ·replace h := iteF h hb2
     refine wp_skip ?_
     refine blk_n ?_
     refine then_n ?_
     refine f_region ?_
     refine lv S (rn_add (S.tm rfl) rfl) rfl ?_; clear S; intro a S
     refine lv S (rn_move (S.tm rfl)) rfl ?_; clear S; intro a S
     refine l_done ?_
     replace S := S.nk [] [(0, .string p_s), (1, .string p_some), (7, .int .i64 (p_s.size : Int)), (8, .int .i64 (W (x1 + 1)))] [] rfl ⟨rfl, rfl, rfl, rfl, trivial⟩
     refine then_n ?_
     exact ⟨m1, ⟨W (x1 + 1), h, S.nf [] rfl ⟨rfl, rfl, rfl, rfl, trivial⟩⟩, Nat.lt_succ_self _⟩
   ·replace h := iteF h hb1
    refine wp_exit ?_
    refine then_x ?_
    refine then_x ?_
    refine x_same ?_
    refine then_n ?_
    exact ⟨h, S.nf [] rfl trivial⟩
 clear S h; rintro a w2 ⟨h, S⟩; rw [hj1] at h; clear hj1 j1
 refine then_n ?_
 refine f_seq ?_
 refine f_region ?_
 refine lv S (rn_assign rfl) rfl ?_; clear S; intro a S
 refine l_done ?_
 replace S := S.nk [] [(4, .bool true)] [] rfl ⟨rfl, trivial⟩
 refine then_n ?_
 refine wp_ret ?_
 obtain rfl := Option.some.inj h
 exact f_ret S Tryd.results43 rfl rfl
theorem tumbref2_Key_ok (w : World) (p_s : ByteArray) (r : Bool) (h : tumbref2_Key p_s = some r) :
    Calls Tryd.prog 27 [.string p_s].toArray w (Ret w [] fun _ v _ => v = .bool r) := by
 refine f_enter [] [] Tryd.func27 rfl Tryd.ntmps27 rfl (by simp) (by simp [fps]) (by simp [fps]) fun a S => ?_
 unfold tumbref2_Key at h
 replace S := S.nk [] [(0, .string p_s)] [] rfl ⟨rfl, trivial⟩
 refine f_seq ?_
 refine f_region ?_
 refine lv S (rn_assign rfl) rfl ?_; clear S; intro a S
 refine l_done ?_
 replace S := S.nk [] [(0, .string p_s)] [] rfl ⟨rfl, trivial⟩
 refine then_n ?_
 refine f_seq ?_
 refine f_region ?_
 refine lv S (rn_move (S.tm rfl)) rfl ?_; clear S; intro a S
 refine lv S (rn_len_str Tryd.underlying9 (S.tm rfl)) rfl ?_; clear S; intro a S
 refine l_enter S (fun _ => run_call (vs := [.int .i64 (p_s.size : Int), .int .i64 1, .int .i64 40]) ⟨(S.tm rfl), rfl, rfl, trivial⟩ Tryd.call29) (tumbref2_in_ok _ (p_s.size : Int) 1 40 _ rfl) rfl ?_; clear S; intro v1 a w1 hv1 hk1 hn1 S
 subst hv1
 refine lv S (rn_move (S.tm rfl)) rfl ?_; clear S; intro a S
 obtain ⟨j1, hj1, h⟩ := joinE h
 refine f_cutm 4 (fun a w' => ∃ c1, j1 c1 = some r ∧ Keep [] w1 w' ∧ Sx w [] nov [] [(0, .string p_s), (10, .bool c1)] 15 a w') ?_ ?_
 ·rcases Bool.eq_false_or_eq_true (tumbref2_in (p_s.size : Int) 1 40) with hb1 | hb1
  ·replace h := iteT h hb1
   refine l_want S rfl rfl rfl hb1 ?_
   refine lv S (rn_move (S.tm rfl)) rfl ?_; clear S; intro a S
   refine l_want S rfl rfl rfl hb1 ?_
   obtain ⟨hc1, h⟩ := chkE h
   refine lv S (rn_scutTh Tryd.underlying9 (S.tm rfl) rfl hc1) rfl ?_; clear S; intro a S
   refine l_want S rfl rfl rfl hb1 ?_
   obtain ⟨r1, hr1, h⟩ := bindE h
   refine l_enter S (fun _ => run_call (vs := [.string (scut p_s 0 1), .string k_abcdefghijklmnopqrstuvwxyz]) ⟨(S.tm rfl), rfl, trivial⟩ Tryd.call43) (tumbref2_only_ok _ (scut p_s 0 1) k_abcdefghijklmnopqrstuvwxyz _ hr1) rfl ?_; clear S; intro v2 a w3 hv2 hk2 hn2 S
   subst hv2
   refine lv S (rn_and_t hb1 (S.tm rfl) (S.tm rfl)) rfl ?_; clear S; intro a S
   refine l_done ?_
   refine then_n ?_
   exact ⟨_, h, hk2, S.nf [] rfl ⟨rfl, rfl, trivial⟩⟩
  ·replace h := iteF h hb1
   refine l_skip S rfl rfl rfl (neq_f hb1) rfl ?_ rfl; clear S; intro a S
   refine l_skip S rfl rfl rfl (neq_f hb1) rfl ?_ rfl; clear S; intro a S
   refine l_skip S rfl rfl rfl (neq_f hb1) rfl ?_ rfl; clear S; intro a S
   refine lv S (rn_and_f true hb1 (S.tm rfl) rfl) rfl ?_; clear S; intro a S
   refine l_done ?_
   refine then_n ?_
   exact ⟨_, h, Keep.refl _ _, S.nf [] rfl ⟨rfl, rfl, trivial⟩⟩
 clear S h; rintro a w2 ⟨c1, h, hk3, S⟩; rw [hj1] at h; clear hj1 j1
 refine lv S (rn_move (S.tm rfl)) rfl ?_; clear S; intro a S
 obtain ⟨j2, hj2, h⟩ := joinE h
 refine f_cutm 3 (fun a w' => ∃ c2, j2 c2 = some r ∧ Keep [] w2 w' ∧ Sx w [] nov [] [(14, .bool c2)] 15 a w') ?_ ?_
 ·rcases Bool.eq_false_or_eq_true c1 with hb2 | hb2
  ·replace h := iteT h hb2
   refine l_want S rfl rfl rfl hb2 ?_
   refine lv S (rn_move (S.tm rfl)) rfl ?_; clear S; intro a S
   refine l_want S rfl rfl rfl hb2 ?_
   obtain ⟨r2, hr2, h⟩ := bindE h
   refine l_enter S (fun _ => run_call (vs := [.string p_s, .string k_abcdefghijkl_h0e2e2c]) ⟨(S.tm rfl), rfl, trivial⟩ Tryd.call43) (tumbref2_only_ok _ p_s k_abcdefghijkl_h0e2e2c _ hr2) rfl ?_; clear S; intro v3 a w5 hv3 hk4 hn3 S
   subst hv3
   refine lv S (rn_and_t hb2 (S.tm rfl) (S.tm rfl)) rfl ?_; clear S; intro a S
   refine l_done ?_
   refine then_n ?_
   exact ⟨_, h, hk4, S.nf [] rfl ⟨rfl, trivial⟩⟩
  ·replace h := iteF h hb2
   refine l_skip S rfl rfl rfl (neq_f hb2) rfl ?_ rfl; clear S; intro a S
   refine l_skip S rfl rfl rfl (neq_f hb2) rfl ?_ rfl; clear S; intro a S
   refine lv S (rn_and_f true hb2 (S.tm rfl) rfl) rfl ?_; clear S; intro a S
   refine l_done ?_
   refine then_n ?_
   exact ⟨_, h, Keep.refl _ _, S.nf [] rfl ⟨rfl, trivial⟩⟩
 clear S h; rintro a w4 ⟨c2, h, hk5, S⟩; rw [hj2] at h; clear hj2 j2
 refine lv S (rn_assign (S.tm rfl)) rfl ?_; clear S; intro a S
 refine l_done ?_
 replace S := S.nk [] [(2, .bool c2)] [] rfl ⟨rfl, trivial⟩
 refine then_n ?_
 refine wp_ret ?_
 obtain rfl := Option.some.inj h
 exact f_ret S Tryd.results27 rfl rfl
theorem tumbref2_Day_ok (w : World) (p_n : Int) (r : Bool) (h : tumbref2_Day p_n = r) :
    Calls Tryd.prog 28 [.int .i64 p_n].toArray w (Ret w [] fun _ v _ => v = .bool r) := by
 refine f_enter [] [] Tryd.func28 rfl Tryd.ntmps28 rfl (by simp) (by simp [fps]) (by simp [fps]) fun a S => ?_
 unfold tumbref2_Day at h
 replace S := S.nk [] [(0, .int .i64 p_n)] [] rfl ⟨rfl, trivial⟩
 refine f_seq ?_
 refine f_region ?_
 refine lv S (rn_assign rfl) rfl ?_; clear S; intro a S
 refine l_done ?_
 replace S := S.nk [] [(0, .int .i64 p_n)] [] rfl ⟨rfl, trivial⟩
 refine then_n ?_
 refine f_seq ?_
 refine f_region ?_
 refine lv S (rn_move (S.tm rfl)) rfl ?_; clear S; intro a S
 refine l_enter S (fun _ => run_call (vs := [.int .i64 p_n, .int .i64 (-40000), .int .i64 4000]) ⟨(S.tm rfl), rfl, rfl, trivial⟩ Tryd.call29) (tumbref2_in_ok _ p_n (-40000) 4000 _ rfl) rfl ?_; clear S; intro v1 a w1 hv1 hk1 hn1 S
 subst hv1
 refine lv S (rn_assign (S.tm rfl)) rfl ?_; clear S; intro a S
 refine l_done ?_
 replace S := S.nk [] [(2, .bool (tumbref2_in p_n (-40000) 4000))] [] rfl ⟨rfl, trivial⟩
 refine then_n ?_
 refine wp_ret ?_
 subst h
 exact f_ret S Tryd.results28 rfl rfl
theorem tumbref2_MarksFault_ok (w : World) (v_p_l : Value) (p_l : List GMark) (hs_p_l : Slc (view w []) 4 v_p_l (p_l.map GMark.enc)) (r : Int) (h : tumbref2_MarksFault p_l = some r) :
    Calls Tryd.prog 11 [v_p_l].toArray w (Ret w [] fun _ v _ => v = .int .i64 r) := by
 refine f_enter [] [] Tryd.func11 rfl Tryd.ntmps11 rfl (by simp) (by simp [fps]) (by simp [fps]) fun a S => ?_
 unfold tumbref2_MarksFault at h
 replace S := S.nk [] [(0, v_p_l)] [] rfl ⟨rfl, trivial⟩
 refine f_seq ?_
 refine f_region ?_
 refine lv S (rn_assign rfl) rfl ?_; clear S; intro a S
 refine l_done ?_
 replace S := S.nk [] [(0, v_p_l)] [] rfl ⟨rfl, trivial⟩
 refine then_n ?_
 refine f_seq ?_
 refine f_seq ?_
 refine f_region ?_
 refine lv S (rn_move (S.tm rfl)) rfl ?_; clear S; intro a S
 refine lv S (rn_lenT sl_26 (S.tm rfl) (slc_len hs_p_l)) rfl ?_; clear S; intro a S
 refine lv S (rn_gtr (S.tm rfl) rfl) rfl ?_; clear S; intro a S
 refine l_done ?_
 replace S := S.nk [] [(0, v_p_l), (7, .bool (decide (2000 < (p_l.length : Int))))] [] rfl ⟨rfl, rfl, trivial⟩
 refine then_n ?_
 refine f_cond (S.tm rfl) (fun hb1 => ?_) (fun hb1 => ?_)
 ·replace h := iteT h hb1
  refine f_seq ?_
  refine f_region ?_
  refine lv S (rn_assign rfl) rfl ?_; clear S; intro a S
  refine l_done ?_
  replace S := S.nk [] [(2, .int .i64 2)] [] rfl ⟨rfl, trivial⟩
  refine then_n ?_
  refine wp_ret ?_
  refine then_r ?_
  obtain rfl := Option.some.inj h
  exact f_ret S Tryd.results11 rfl rfl
 ·replace h := iteF h hb1
  refine wp_skip ?_
  refine then_n ?_
  refine f_seq ?_
  refine f_seq ?_
  refine f_region ?_
  refine lv S (rn_move (S.tm rfl)) rfl ?_; clear S; intro a S
  refine lv S (rn_lenT sl_26 (S.tm rfl) (slc_len hs_p_l)) rfl ?_; clear S; intro a S
  refine lv S (rn_move rfl) rfl ?_; clear S; intro a S
  refine l_done ?_
  replace S := S.nk [] [(8, v_p_l), (9, .int .i64 (p_l.length : Int)), (10, .int .i64 0)] [] rfl ⟨rfl, rfl, rfl, trivial⟩
  refine then_n ?_
  obtain ⟨j1, hj1, h⟩ := joinE h
  refine f_join (fun a w' => j1 = some r ∧ Sx w [] nov [] [] 37 a w') ?_ ?_
  ·refine wp_block ?_
   refine f_loop (fun (ys1 : List GMark) a w' => ∃ i1 : Nat, (∃ dn, p_l = dn ++ ys1 ∧ dn.length = i1) ∧ tumbref2_MarksFault_l1 j1 ys1 i1 = some r ∧ Sx w [] nov [] [(8, v_p_l), (9, .int .i64 (p_l.length : Int)), (10, .int .i64 (i1 : Int))] 37 a w') List.length p_l ⟨0, ⟨[], rfl, rfl⟩, h, S.nf [] rfl ⟨rfl, rfl, rfl, trivial⟩⟩ ?_
   clear S h; rintro ys1 a w1 ⟨i1, ⟨dn, hd1, hi1⟩, h, S⟩
   cases ys1 with
   | nil =>
    rw [tumbref2_MarksFault_l1.eq_1] at h
    refine f_seq ?_
    refine f_region ?_
    refine lv S (rn_lss (S.tm rfl) (S.tm rfl)) rfl ?_; clear S; intro a S
    refine l_done ?_
    replace S := S.nk [] [(8, v_p_l), (9, .int .i64 (p_l.length : Int)), (10, .int .i64 (i1 : Int)), (11, .bool (decide ((i1 : Int) < (p_l.length : Int))))] [] rfl ⟨rfl, rfl, rfl, rfl, trivial⟩
    refine then_n ?_
    refine f_seq ?_
    refine wp_cond_false ((S.tm rfl).trans (congrArg Value.bool (rng_nil hd1 hi1))) ?_
    refine wp_exit ?_
    refine then_x ?_
    refine then_x ?_
    refine x_same ?_
    refine then_n ?_
    exact ⟨h, S.nf [] rfl trivial⟩
   | cons y1 ys1 =>
    rw [tumbref2_MarksFault_l1.eq_2] at h
    refine f_seq ?_
    refine f_region ?_
    refine lv S (rn_lss (S.tm rfl) (S.tm rfl)) rfl ?_; clear S; intro a S
    refine l_done ?_
    replace S := S.nk [] [(8, v_p_l), (9, .int .i64 (p_l.length : Int)), (10, .int .i64 (i1 : Int)), (11, .bool (decide ((i1 : Int) < (p_l.length : Int))))] [] rfl ⟨rfl, rfl, rfl, rfl, trivial⟩
    refine then_n ?_
    refine f_seq ?_
    refine wp_cond_true ((S.tm rfl).trans (congrArg Value.bool (rng_cons hd1 hi1))) ?_
    refine wp_skip ?_
    refine then_n ?_
    refine f_seq ?_
    refine wp_block ?_
    refine f_seq ?_
    refine f_region ?_
    obtain ⟨b1, o1, hm1, hr1⟩ := rn_indexT (a := a) (x := .tmp 8) (y := .tmp 10) (ty := 0) sl_26 hs_p_l (get_mid hd1 hi1) rfl (S.tm rfl) (S.tm rfl)
    refine lv S (hr1 _) rfl ?_; clear S; intro a S
    clear hr1
    refine lv S (rn_ldA Tryd.isAgg34 Tryd.sizeOf34 (off := o1) (o := 0) (part := [.string y1.Who, .string y1.Race, .int .i64 y1.Day, .int .i64 y1.Time]) rfl rfl (S.tm rfl) (hm1.at S.emb0)) rfl ?_; clear S; intro a S
    refine l_alloc S Tryd.zeroValue34 (cs := [.string k_empty, .string k_empty, .int .i64 0, .int .i64 0]) rfl rfl ?_; clear S; intro a w3 b2 hz1 hk1 S
    refine l_store S (S.tm rfl) (S.tm rfl) (i := 0) (off := 0) rfl Tryd.sizeOf34 (vs := [.string y1.Who, .string y1.Race, .int .i64 y1.Day, .int .i64 y1.Time]) rfl rfl rfl rfl ?_; clear S; intro w4 hk2 S
    refine l_done ?_
    replace S := S.nk [.blk b2 [.string y1.Who, .string y1.Race, .int .i64 y1.Day, .int .i64 y1.Time] 34] [(4, .pointer (some ⟨b2, 0, none⟩)), (8, v_p_l), (9, .int .i64 (p_l.length : Int)), (10, .int .i64 (i1 : Int))] [true] rfl ⟨rfl, rfl, rfl, rfl, trivial⟩
    refine then_n ?_
    refine wp_block ?_
    refine f_seq ?_
    refine f_region ?_
    refine lv S (rn_fld fa_34_0 (S.tm rfl)) rfl ?_; clear S; intro a S
    refine lv S (rn_load Tryd.isAgg9 (S.tm rfl) (S.cell (i := 0) rfl rfl)) rfl ?_; clear S; intro a S
    obtain ⟨r1, hr2, h⟩ := bindE h
    refine l_enter S (fun _ => run_call (vs := [.string y1.Who]) ⟨(S.tm rfl), trivial⟩ Tryd.call27) (tumbref2_Key_ok _ y1.Who _ hr2) rfl ?_; clear S; intro v1 a w5 hv1 hk3 hn1 S
    subst hv1
    refine lv S (rn_not (S.tm rfl)) rfl ?_; clear S; intro a S
    refine lv S (rn_move (S.tm rfl)) rfl ?_; clear S; intro a S
    obtain ⟨j2, hj2, h⟩ := joinE h
    refine f_cutm 5 (fun a w' => ∃ c1, j2 c1 = some r ∧ Keep [] w5 w' ∧ Sx w [] nov [.blk b2 [.string y1.Who, .string y1.Race, .int .i64 y1.Day, .int .i64 y1.Time] 34] [(4, .pointer (some ⟨b2, 0, none⟩)), (8, v_p_l), (9, .int .i64 (p_l.length : Int)), (10, .int .i64 (i1 : Int)), (24, .bool c1)] 37 a w') ?_ ?_
    ·rcases Bool.eq_false_or_eq_true (!r1) with hb2 | hb2
     ·replace h := iteT h hb2
      refine l_skip S rfl rfl rfl (neq_t hb2) rfl ?_ rfl; clear S; intro a S
      refine l_skip S rfl rfl rfl (neq_t hb2) rfl ?_ rfl; clear S; intro a S
      refine l_skip S rfl rfl rfl (neq_t hb2) rfl ?_ rfl; clear S; intro a S
      refine l_skip S rfl rfl rfl (neq_t hb2) rfl ?_ rfl; clear S; intro a S
      refine lv S (rn_or_t true hb2 (S.tm rfl) rfl) rfl ?_; clear S; intro a S
      refine l_done ?_
      refine then_n ?_
      exact ⟨_, h, Keep.refl _ _, S.nf [true] rfl ⟨rfl, rfl, rfl, rfl, rfl, trivial⟩⟩
     ·replace h := iteF h hb2
      refine l_want S rfl rfl rfl hb2 ?_
      refine lv S (rn_fld fa_34_1 (S.tm rfl)) rfl ?_; clear S; intro a S
      refine l_want S rfl rfl rfl hb2 ?_
      refine lv S (rn_load Tryd.isAgg9 (S.tm rfl) (S.cell (i := 0) rfl rfl)) rfl ?_; clear S; intro a S
      refine l_want S rfl rfl rfl hb2 ?_
      obtain ⟨r2, hr3, h⟩ := bindE h
      refine l_enter S (fun _ => run_call (vs := [.string y1.Race]) ⟨(S.tm rfl), trivial⟩ Tryd.call27) (tumbref2_Key_ok _ y1.Race _ hr3) rfl ?_; clear S; intro v2 a w7 hv2 hk4 hn2 S
      subst hv2
      refine l_want S rfl rfl rfl hb2 ?_
      refine lv S (rn_not (S.tm rfl)) rfl ?_; clear S; intro a S
      refine lv S (rn_or_f hb2 (S.tm rfl) (S.tm rfl)) rfl ?_; clear S; intro a S
      refine l_done ?_
      refine then_n ?_
      exact ⟨_, h, hk4, S.nf [true] rfl ⟨rfl, rfl, rfl, rfl, rfl, trivial⟩⟩
    clear S h; rintro a w6 ⟨c1, h, hk5, S⟩; rw [hj2] at h; clear hj2 j2
    refine lv S (rn_assign (S.tm rfl)) rfl ?_; clear S; intro a S
    refine l_done ?_
    replace S := S.nk [.blk b2 [.string y1.Who, .string y1.Race, .int .i64 y1.Day, .int .i64 y1.Time] 34] [(4, .pointer (some ⟨b2, 0, none⟩)), (8, v_p_l), (9, .int .i64 (p_l.length : Int)), (10, .int .i64 (i1 : Int)), (14, .bool c1)] [true] rfl ⟨rfl, rfl, rfl, rfl, rfl, trivial⟩
    refine then_n ?_
    refine f_cond (S.tm rfl) (fun hb3 => ?_) (fun hb3 => ?_)
    ·replace h := iteT h hb3
     refine f_seq ?_
     refine f_region ?_
     refine lv S (rn_assign rfl) rfl ?_; clear S; intro a S
     refine l_done ?_
     replace S := S.nk [] [(2, .int .i64 5)] [false] rfl ⟨rfl, trivial⟩
     refine then_n ?_
     refine wp_ret ?_
     refine blk_r ?_
     refine blk_r ?_
     refine then_r ?_
     refine then_r ?_
     refine blk_r ?_
     refine then_r ?_
     refine then_r ?_
     obtain rfl := Option.some.inj h
     exact f_ret S Tryd.results11 rfl rfl
    ·replace h := iteF h hb3
     refine f_seq ?_
     refine f_region ?_
     refine lv S (rn_fld fa_34_2 (S.tm rfl)) rfl ?_; clear S; intro a S
     refine lv S (rn_load Tryd.isAgg3 (S.tm rfl) (S.cell (i := 0) rfl rfl)) rfl ?_; clear S; intro a S
     refine l_enter S (fun _ => run_call (vs := [.int .i64 y1.Day]) ⟨(S.tm rfl), trivial⟩ Tryd.call28) (tumbref2_Day_ok _ y1.Day _ rfl) rfl ?_; clear S; intro v3 a w8 hv3 hk6 hn3 S
     subst hv3
     refine lv S (rn_not (S.tm rfl)) rfl ?_; clear S; intro a S
     refine lv S (rn_move (S.tm rfl)) rfl ?_; clear S; intro a S
     refine f_cutm 5 (fun a w' => Keep [] w8 w' ∧ Sx w [] nov [.blk b2 [.string y1.Who, .string y1.Race, .int .i64 y1.Day, .int .i64 y1.Time] 34] [(8, v_p_l), (9, .int .i64 (p_l.length : Int)), (10, .int .i64 (i1 : Int)), (35, .bool ((!(tumbref2_Day y1.Day)) || (!(tumbref2_in y1.Time 1 360000))))] 37 a w') ?_ ?_
     ·rcases Bool.eq_false_or_eq_true (!(tumbref2_Day y1.Day)) with hb4 | hb4
      ·refine l_skip S rfl rfl rfl (neq_t hb4) rfl ?_ rfl; clear S; intro a S
       refine l_skip S rfl rfl rfl (neq_t hb4) rfl ?_ rfl; clear S; intro a S
       refine l_skip S rfl rfl rfl (neq_t hb4) rfl ?_ rfl; clear S; intro a S
       refine l_skip S rfl rfl rfl (neq_t hb4) rfl ?_ rfl; clear S; intro a S
       refine lv S (rn_or_t (!(tumbref2_in y1.Time 1 360000)) hb4 (S.tm rfl) rfl) rfl ?_; clear S; intro a S
       refine l_done ?_
       refine then_n ?_
       exact ⟨Keep.refl _ _, S.nf [true] rfl ⟨rfl, rfl, rfl, rfl, trivial⟩⟩
      ·refine l_want S rfl rfl rfl hb4 ?_
       refine lv S (rn_fld fa_34_3 (S.tm rfl)) rfl ?_; clear S; intro a S
       refine l_want S rfl rfl rfl hb4 ?_
       refine lv S (rn_load Tryd.isAgg3 (S.tm rfl) (S.cell (i := 0) rfl rfl)) rfl ?_; clear S; intro a S
       refine l_want S rfl rfl rfl hb4 ?_
       refine l_enter S (fun _ => run_call (vs := [.int .i64 y1.Time, .int .i64 1, .int .i64 360000]) ⟨(S.tm rfl), rfl, rfl, trivial⟩ Tryd.call29) (tumbref2_in_ok _ y1.Time 1 360000 _ rfl) rfl ?_; clear S; intro v4 a w10 hv4 hk7 hn4 S
       subst hv4
       refine l_want S rfl rfl rfl hb4 ?_
       refine lv S (rn_not (S.tm rfl)) rfl ?_; clear S; intro a S
       refine lv S (rn_or_f hb4 (S.tm rfl) (S.tm rfl)) rfl ?_; clear S; intro a S
       refine l_done ?_
       refine then_n ?_
       exact ⟨hk7, S.nf [true] rfl ⟨rfl, rfl, rfl, rfl, trivial⟩⟩
     clear S; rintro a w9 ⟨hk8, S⟩
     refine lv S (rn_assign (S.tm rfl)) rfl ?_; clear S; intro a S
     refine l_done ?_
     replace S := S.nk [] [(8, v_p_l), (9, .int .i64 (p_l.length : Int)), (10, .int .i64 (i1 : Int)), (25, .bool ((!(tumbref2_Day y1.Day)) || (!(tumbref2_in y1.Time 1 360000))))] [false] rfl ⟨rfl, rfl, rfl, rfl, trivial⟩
     refine then_n ?_
     refine f_cond (S.tm rfl) (fun hb5 => ?_) (fun hb5 => ?_)
     ·replace h := iteT h hb5
      refine f_seq ?_
      refine f_region ?_
      refine lv S (rn_assign rfl) rfl ?_; clear S; intro a S
      refine l_done ?_
      replace S := S.nk [] [(2, .int .i64 1)] [] rfl ⟨rfl, trivial⟩
      refine then_n ?_
      refine wp_ret ?_
      refine blk_r ?_
      refine blk_r ?_
      refine then_r ?_
      refine then_r ?_
      refine blk_r ?_
      refine then_r ?_
      refine then_r ?_
      obtain rfl := Option.some.inj h
      exact f_ret S Tryd.results11 rfl rfl
     ·replace h := iteF h hb5
      refine wp_skip ?_
      refine blk_n ?_
      refine blk_n ?_
      refine then_n ?_
      refine f_region ?_
      refine lv S (rn_add (S.tm rfl) rfl) rfl ?_; clear S; intro a S
      refine lv S (rn_move (S.tm rfl)) rfl ?_; clear S; intro a S
      refine l_done ?_
      replace S := S.nk [] [(8, v_p_l), (9, .int .i64 (p_l.length : Int)), (10, .int .i64 (W ((i1 : Int) + 1)))] [] rfl ⟨rfl, rfl, rfl, trivial⟩
      refine then_n ?_
      exact ⟨ys1, ⟨i1 + 1, ⟨_, (hd1).trans (List.append_cons _ _ _), by simp [hi1]⟩, h, S.nf [] rfl ⟨rfl, rfl, (congrArg (fun z => some (Value.int .i64 z)) (rng_next hd1 hi1 (slc_max hs_p_l))), trivial⟩⟩, Nat.lt_succ_self _⟩
  clear S h; rintro a w2 ⟨h, S⟩; rw [hj1] at h; clear hj1 j1
  refine then_n ?_
  refine f_seq ?_
  refine f_region ?_
  refine lv S (rn_assign rfl) rfl ?_; clear S; intro a S
  refine l_done ?_
  replace S := S.nk [] [(2, .int .i64 0)] [] rfl ⟨rfl, trivial⟩
  refine then_n ?_
  refine wp_ret ?_
  obtain rfl := Option.some.inj h
  exact f_ret S Tryd.results11 rfl rfl
theorem tumblaw2_when_ok (w : World) (p_is : Bool) (p_e : Int) (r : Int) (h : tumblaw2_when p_is p_e = r) :
    Calls Tryd.prog 14 [.bool p_is, .int .i64 p_e].toArray w (Ret w [] fun _ v _ => v = .int .i64 r) := by
 refine f_enter [] [] Tryd.func14 rfl Tryd.ntmps14 rfl (by simp) (by simp [fps]) (by simp [fps]) fun a S => ?_
 unfold tumblaw2_when at h
 replace S := S.nk [] [(0, .bool p_is), (1, .int .i64 p_e)] [] rfl ⟨rfl, rfl, trivial⟩
 refine f_seq ?_
 refine f_region ?_
 refine lv S (rn_assign rfl) rfl ?_; clear S; intro a S
 refine l_done ?_
 replace S := S.nk [] [(0, .bool p_is), (1, .int .i64 p_e)] [] rfl ⟨rfl, rfl, trivial⟩
 refine then_n ?_
 refine f_seq ?_
 refine f_seq ?_
 refine f_region ?_
 refine lv S (rn_move (S.tm rfl)) rfl ?_; clear S; intro a S
 refine l_done ?_
 replace S := S.nk [] [(1, .int .i64 p_e), (5, .bool p_is)] [] rfl ⟨rfl, rfl, trivial⟩
 refine then_n ?_
 refine f_cond (S.tm rfl) (fun hb1 => ?_) (fun hb1 => ?_)
 ·replace h := iteT h hb1
  refine f_seq ?_
  refine f_region ?_
  refine lv S (rn_move (S.tm rfl)) rfl ?_; clear S; intro a S
  refine lv S (rn_assign (S.tm rfl)) rfl ?_; clear S; intro a S
  refine l_done ?_
  replace S := S.nk [] [(4, .int .i64 p_e)] [] rfl ⟨rfl, trivial⟩
  refine then_n ?_
  refine wp_ret ?_
  refine then_r ?_
  subst h
  exact f_ret S Tryd.results14 rfl rfl
 ·replace h := iteF h hb1
  refine wp_skip ?_
  refine then_n ?_
  refine f_seq ?_
  refine f_region ?_
  refine lv S (rn_assign rfl) rfl ?_; clear S; intro a S
  refine l_done ?_
  replace S := S.nk [] [(4, .int .i64 0)] [] rfl ⟨rfl, trivial⟩
  refine then_n ?_
  refine wp_ret ?_
  subst h
  exact f_ret S Tryd.results14 rfl rfl
theorem tumblaw2_nameFault_ok (w : World) (p_s : ByteArray) (r : Int) (h : tumblaw2_nameFault p_s = some r) :
    Calls Tryd.prog 13 [.string p_s].toArray w (Ret w [] fun _ v _ => v = .int .i64 r) := by
 refine f_enter [] [] Tryd.func13 rfl Tryd.ntmps13 rfl (by simp) (by simp [fps]) (by simp [fps]) fun a S => ?_
 unfold tumblaw2_nameFault at h
 replace S := S.nk [] [(0, .string p_s)] [] rfl ⟨rfl, trivial⟩
 refine f_seq ?_
 refine f_region ?_
 refine lv S (rn_assign rfl) rfl ?_; clear S; intro a S
 refine l_done ?_
 replace S := S.nk [] [(0, .string p_s)] [] rfl ⟨rfl, trivial⟩
 refine then_n ?_
 refine f_seq ?_
 refine f_region ?_
 refine lv S (rn_move (S.tm rfl)) rfl ?_; clear S; intro a S
 obtain ⟨r1, hr1, h⟩ := bindE h
 refine l_enter S (fun _ => run_call (vs := [.string p_s]) ⟨(S.tm rfl), trivial⟩ Tryd.call27) (tumbref2_Key_ok _ p_s _ hr1) rfl ?_; clear S; intro v1 a w1 hv1 hk1 hn1 S
 subst hv1
 refine lv S (rn_not (S.tm rfl)) rfl ?_; clear S; intro a S
 refine l_enter S (fun _ => run_call (vs := [.bool (!r1), .int .i64 5]) ⟨(S.tm rfl), rfl, trivial⟩ Tryd.call14) (tumblaw2_when_ok _ (!r1) 5 _ rfl) rfl ?_; clear S; intro v2 a w2 hv2 hk2 hn2 S
 subst hv2
 refine lv S (rn_assign (S.tm rfl)) rfl ?_; clear S; intro a S
 refine l_done ?_
 replace S := S.nk [] [(2, .int .i64 (tumblaw2_when (!r1) 5))] [] rfl ⟨rfl, trivial⟩
 refine then_n ?_
 refine wp_ret ?_
 obtain rfl := Option.some.inj h
 exact f_ret S Tryd.results13 rfl rfl
theorem tumblaw2_errs_ok (w : World) (v_p_l : Value) (p_l : List Int) (hs_p_l : Slc (view w []) 1 v_p_l (p_l.map eInt)) (r : Int) (h : tumblaw2_errs p_l = r) :
    Calls Tryd.prog 12 [v_p_l].toArray w (Ret w [] fun _ v _ => v = .int .i64 r) := by
 refine f_enter [] [] Tryd.func12 rfl Tryd.ntmps12 rfl (by simp) (by simp [fps]) (by simp [fps]) fun a S => ?_
 unfold tumblaw2_errs at h
 replace S := S.nk [] [(0, v_p_l)] [] rfl ⟨rfl, trivial⟩
 refine f_seq ?_
 refine f_region ?_
 refine lv S (rn_assign rfl) rfl ?_; clear S; intro a S
 refine l_done ?_
 replace S := S.nk [] [(0, v_p_l)] [] rfl ⟨rfl, trivial⟩
 refine then_n ?_
 refine f_seq ?_
 refine f_seq ?_
 refine f_region ?_
 refine lv S (rn_move (S.tm rfl)) rfl ?_; clear S; intro a S
 refine lv S (rn_lenT sl_57 (S.tm rfl) (slc_len hs_p_l)) rfl ?_; clear S; intro a S
 refine lv S (rn_move rfl) rfl ?_; clear S; intro a S
 refine l_done ?_
 replace S := S.nk [] [(5, v_p_l), (6, .int .i64 (p_l.length : Int)), (7, .int .i64 0)] [] rfl ⟨rfl, rfl, rfl, trivial⟩
 refine then_n ?_
 obtain ⟨j1, hj1, h⟩ := joinE h
 refine f_join (fun a w' => j1 = r ∧ Sx w [] nov [] [] 15 a w') ?_ ?_
 ·refine wp_block ?_
  refine f_loop (fun (ys1 : List Int) a w' => ∃ i1 : Nat, (∃ dn, p_l = dn ++ ys1 ∧ dn.length = i1) ∧ tumblaw2_errs_l1 j1 ys1 i1 = r ∧ Sx w [] nov [] [(5, v_p_l), (6, .int .i64 (p_l.length : Int)), (7, .int .i64 (i1 : Int))] 15 a w') List.length p_l ⟨0, ⟨[], rfl, rfl⟩, h, S.nf [] rfl ⟨rfl, rfl, rfl, trivial⟩⟩ ?_
  clear S h; rintro ys1 a w1 ⟨i1, ⟨dn, hd1, hi1⟩, h, S⟩
  cases ys1 with
  | nil =>
   rw [tumblaw2_errs_l1.eq_1] at h
   refine f_seq ?_
   refine f_region ?_
   refine lv S (rn_lss (S.tm rfl) (S.tm rfl)) rfl ?_; clear S; intro a S
   refine l_done ?_
   replace S := S.nk [] [(5, v_p_l), (6, .int .i64 (p_l.length : Int)), (7, .int .i64 (i1 : Int)), (8, .bool (decide ((i1 : Int) < (p_l.length : Int))))] [] rfl ⟨rfl, rfl, rfl, rfl, trivial⟩
   refine then_n ?_
   refine f_seq ?_
   refine wp_cond_false ((S.tm rfl).trans (congrArg Value.bool (rng_nil hd1 hi1))) ?_
   refine wp_exit ?_
   refine then_x ?_
   refine then_x ?_
   refine x_same ?_
   refine then_n ?_
   exact ⟨h, S.nf [] rfl trivial⟩
  | cons y1 ys1 =>
   rw [tumblaw2_errs_l1.eq_2] at h
   refine f_seq ?_
   refine f_region ?_
   refine lv S (rn_lss (S.tm rfl) (S.tm rfl)) rfl ?_; clear S; intro a S
   refine l_done ?_
   replace S := S.nk [] [(5, v_p_l), (6, .int .i64 (p_l.length : Int)), (7, .int .i64 (i1 : Int)), (8, .bool (decide ((i1 : Int) < (p_l.length : Int))))] [] rfl ⟨rfl, rfl, rfl, rfl, trivial⟩
   refine then_n ?_
   refine f_seq ?_
   refine wp_cond_true ((S.tm rfl).trans (congrArg Value.bool (rng_cons hd1 hi1))) ?_
   refine wp_skip ?_
   refine then_n ?_
   refine f_seq ?_
   refine wp_block ?_
   refine f_seq ?_
   refine f_region ?_
   obtain ⟨b1, o1, hm1, hr1⟩ := rn_indexT (a := a) (x := .tmp 5) (y := .tmp 7) (ty := 0) sl_57 hs_p_l (get_mid hd1 hi1) rfl (S.tm rfl) (S.tm rfl)
   refine lv S (hr1 _) rfl ?_; clear S; intro a S
   clear hr1
   refine lv S (rn_ld Tryd.isAgg35 (off := o1) (o := 0) (S.tm rfl) (hm1.at S.emb0) rfl) rfl ?_; clear S; intro a S
   refine lv S (rn_assign (S.tm rfl)) rfl ?_; clear S; intro a S
   refine l_done ?_
   replace S := S.nk [] [(4, .int .i64 y1), (5, v_p_l), (6, .int .i64 (p_l.length : Int)), (7, .int .i64 (i1 : Int))] [] rfl ⟨rfl, rfl, rfl, rfl, trivial⟩
   refine then_n ?_
   refine f_seq ?_
   refine f_region ?_
   refine lv S (rn_move (S.tm rfl)) rfl ?_; clear S; intro a S
   refine lv S (rn_neq (S.tm rfl) rfl) rfl ?_; clear S; intro a S
   refine l_done ?_
   replace S := S.nk [] [(4, .int .i64 y1), (5, v_p_l), (6, .int .i64 (p_l.length : Int)), (7, .int .i64 (i1 : Int)), (12, .bool (!decide (y1 = 0)))] [] rfl ⟨rfl, rfl, rfl, rfl, rfl, trivial⟩
   refine then_n ?_
   refine f_cond (S.tm rfl) (fun hb1 => ?_) (fun hb1 => ?_)
   ·replace h := iteT h hb1
    refine f_seq ?_
    refine f_region ?_
    refine lv S (rn_move (S.tm rfl)) rfl ?_; clear S; intro a S
    refine lv S (rn_assign (S.tm rfl)) rfl ?_; clear S; intro a S
    refine l_done ?_
    replace S := S.nk [] [(2, .int .i64 y1)] [] rfl ⟨rfl, trivial⟩
    refine then_n ?_
    refine wp_ret ?_
    refine blk_r ?_
    refine then_r ?_
    refine then_r ?_
    refine blk_r ?_
    refine then_r ?_
    refine then_r ?_
    subst h
    exact f_ret S Tryd.results12 rfl rfl
   ·replace h := iteF h hb1
    refine wp_skip ?_
    refine blk_n ?_
    refine then_n ?_
    refine f_region ?_
    refine lv S (rn_add (S.tm rfl) rfl) rfl ?_; clear S; intro a S
    refine lv S (rn_move (S.tm rfl)) rfl ?_; clear S; intro a S
    refine l_done ?_
    replace S := S.nk [] [(5, v_p_l), (6, .int .i64 (p_l.length : Int)), (7, .int .i64 (W ((i1 : Int) + 1)))] [] rfl ⟨rfl, rfl, rfl, trivial⟩
    refine then_n ?_
    exact ⟨ys1, ⟨i1 + 1, ⟨_, (hd1).trans (List.append_cons _ _ _), by simp [hi1]⟩, h, S.nf [] rfl ⟨rfl, rfl, (congrArg (fun z => some (Value.int .i64 z)) (rng_next hd1 hi1 (slc_max hs_p_l))), trivial⟩⟩, Nat.lt_succ_self _⟩
 clear S h; rintro a w2 ⟨h, S⟩; rw [hj1] at h; clear hj1 j1
 refine then_n ?_
 refine f_seq ?_
 refine f_region ?_
 refine lv S (rn_assign rfl) rfl ?_; clear S; intro a S
 refine l_done ?_
 replace S := S.nk [] [(2, .int .i64 0)] [] rfl ⟨rfl, trivial⟩
 refine then_n ?_
 refine wp_ret ?_
 subst h
 exact f_ret S Tryd.results12 rfl rfl
end Go.Proofs.YtfajklagapggoaaDoor
