/- Each Go function computes its plain twin, by program. -/
import Derived.Test.YtdcmeoefpigcdaaGreatDoorTab
import Derived.Test.YtdcmeoefpigcdaaGreatDoorLay
namespace Go.Proofs.YtdcmeoefpigcdaaGreatDoor
open Go
theorem tumbmake_Below_ok (w : World) (p_x : Int) (p_n : Int) (r : Int) (h : tumbmake_Below p_x p_n = some r) :
    Calls Tryz.prog 38 [.int .i64 p_x, .int .i64 p_n].toArray w (Ret w [] fun _ v _ => v = .int .i64 r) := by
 refine f_enter [] [] Tryz.func38 rfl Tryz.ntmps38 rfl (by simp) (by simp [fps]) (by simp [fps]) fun a S => ?_
 unfold tumbmake_Below at h
 replace S := S.nk [] [(0, .int .i64 p_x), (1, .int .i64 p_n)] [] rfl ⟨rfl, rfl, trivial⟩
 refine f_seq ?_
 refine f_region ?_
 refine lv S (rn_assign rfl) rfl ?_; clear S; intro a S
 refine l_done ?_
 replace S := S.nk [] [(0, .int .i64 p_x), (1, .int .i64 p_n)] [] rfl ⟨rfl, rfl, trivial⟩
 refine then_n ?_
 refine f_seq ?_
 refine f_seq ?_
 refine f_region ?_
 refine lv S (rn_move (S.tm rfl)) rfl ?_; clear S; intro a S
 refine lv S (rn_lss (S.tm rfl) rfl) rfl ?_; clear S; intro a S
 refine l_done ?_
 replace S := S.nk [] [(0, .int .i64 p_x), (1, .int .i64 p_n), (6, .bool (decide (p_n < 1)))] [] rfl ⟨rfl, rfl, rfl, trivial⟩
 refine then_n ?_
 refine f_cond (S.tm rfl) (fun hb1 => ?_) (fun hb1 => ?_)
 ·replace h := iteT h hb1
  refine f_seq ?_
  refine f_region ?_
  refine lv S (rn_assign rfl) rfl ?_; clear S; intro a S
  refine l_done ?_
  replace S := S.nk [] [(4, .int .i64 0)] [] rfl ⟨rfl, trivial⟩
  refine then_n ?_
  refine wp_ret ?_
  refine then_r ?_
  obtain rfl := Option.some.inj h
  exact f_ret S Tryz.results38 rfl rfl
 ·replace h := iteF h hb1
  refine wp_skip ?_
  refine then_n ?_
  refine f_seq ?_
  refine f_region ?_
  refine lv S (rn_move (S.tm rfl)) rfl ?_; clear S; intro a S
  refine lv S (rn_move (S.tm rfl)) rfl ?_; clear S; intro a S
  obtain ⟨hc1, h⟩ := chkE h
  refine lv S (rn_rem (S.tm rfl) (S.tm rfl) (ne0_of hc1)) rfl ?_; clear S; intro a S
  refine lv S (rn_assign (S.tm rfl)) rfl ?_; clear S; intro a S
  refine l_done ?_
  replace S := S.nk [] [(0, .int .i64 (Int.tmod p_x p_n)), (1, .int .i64 p_n)] [] rfl ⟨rfl, rfl, trivial⟩
  refine then_n ?_
  refine f_seq ?_
  refine f_seq ?_
  refine f_region ?_
  refine lv S (rn_move (S.tm rfl)) rfl ?_; clear S; intro a S
  refine lv S (rn_lss (S.tm rfl) rfl) rfl ?_; clear S; intro a S
  refine l_done ?_
  replace S := S.nk [] [(0, .int .i64 (Int.tmod p_x p_n)), (1, .int .i64 p_n), (11, .bool (decide ((Int.tmod p_x p_n) < 0)))] [] rfl ⟨rfl, rfl, rfl, trivial⟩
  refine then_n ?_
  obtain ⟨j1, hj1, h⟩ := joinE h
  refine f_join (fun a w' => ∃ x1 : Int, j1 x1 = some r ∧ Sx w [] nov [] [(0, .int .i64 x1)] 16 a w') ?_ ?_
  ·refine f_cond (S.tm rfl) (fun hb2 => ?_) (fun hb2 => ?_)
   ·replace h := iteT h hb2
    refine f_region ?_
    refine lv S (rn_move (S.tm rfl)) rfl ?_; clear S; intro a S
    refine lv S (rn_move (S.tm rfl)) rfl ?_; clear S; intro a S
    refine lv S (rn_add (S.tm rfl) (S.tm rfl)) rfl ?_; clear S; intro a S
    refine lv S (rn_assign (S.tm rfl)) rfl ?_; clear S; intro a S
    refine l_done ?_
    replace S := S.nk [] [(0, .int .i64 (W ((Int.tmod p_x p_n) + p_n)))] [] rfl ⟨rfl, trivial⟩
    refine then_n ?_
    exact ⟨W ((Int.tmod p_x p_n) + p_n), h, S.nf [] rfl ⟨rfl, trivial⟩⟩
   ·replace h := iteF h hb2
    refine wp_skip ?_
    refine then_n ?_
    exact ⟨Int.tmod p_x p_n, h, S.nf [] rfl ⟨rfl, trivial⟩⟩
  clear S h; rintro a w1 ⟨x1, h, S⟩; rw [hj1] at h; clear hj1 j1
  refine then_n ?_
  refine f_seq ?_
  refine f_region ?_
  refine lv S (rn_move (S.tm rfl)) rfl ?_; clear S; intro a S
  refine lv S (rn_assign (S.tm rfl)) rfl ?_; clear S; intro a S
  refine l_done ?_
  replace S := S.nk [] [(4, .int .i64 x1)] [] rfl ⟨rfl, trivial⟩
  refine then_n ?_
  refine wp_ret ?_
  obtain rfl := Option.some.inj h
  exact f_ret S Tryz.results38 rfl rfl
set_option maxRecDepth 20000 in
theorem Stream_Next_ok (w : World) (b_p_s : Nat) (v_p_s_L : Value) (p_s_L : List Int) (hs_p_s_L : Slc (view w [b_p_s]) 1 v_p_s_L (p_s_L.map eInt)) (p_s_at : Int) (hb_b_p_s : (LEnt.blk b_p_s [v_p_s_L, .int .i64 p_s_at] 25).holds w) (p_n : Int) (r : Int × Int) (h : Stream_Next p_s_L p_s_at p_n = some r) :
    Calls Tryz.prog 22 [.pointer (some ⟨b_p_s, 0, none⟩), .int .i64 p_n].toArray w (Ret w [b_p_s] fun _ v w' => (LEnt.blk b_p_s [v_p_s_L, .int .i64 r.2] 25).holds w' ∧ v = .int .i64 r.1) := by
 refine f_enter [b_p_s] [.blk b_p_s [v_p_s_L, .int .i64 p_s_at] 25] Tryz.func22 rfl Tryz.ntmps22 rfl (fun e he => by simp only [List.mem_singleton] at he; subst he; exact hb_b_p_s) (by simp [fps, LEnt.fp]) (by simp [fps, LEnt.fp]) fun a S => ?_
 unfold Stream_Next at h
 replace S := S.nk [.blk b_p_s [v_p_s_L, .int .i64 p_s_at] 25] [(0, .pointer (some ⟨b_p_s, 0, none⟩)), (1, .int .i64 p_n)] [true] rfl ⟨rfl, rfl, trivial⟩
 refine f_seq ?_
 refine f_region ?_
 refine lv S (rn_assign rfl) rfl ?_; clear S; intro a S
 refine l_done ?_
 replace S := S.nk [.blk b_p_s [v_p_s_L, .int .i64 p_s_at] 25] [(0, .pointer (some ⟨b_p_s, 0, none⟩)), (1, .int .i64 p_n)] [true] rfl ⟨rfl, rfl, trivial⟩
 refine then_n ?_
 refine f_seq ?_
 refine f_region ?_
 refine lv S (rn_move (S.tm rfl)) rfl ?_; clear S; intro a S
 refine lv S (rn_nilCheck (S.tm rfl)) rfl ?_; clear S; intro a S
 refine lv S (rn_fld fa_25_1 (S.tm rfl)) rfl ?_; clear S; intro a S
 refine lv S (rn_load Tryz.isAgg3 (S.tm rfl) (S.cell (i := 0) rfl rfl)) rfl ?_; clear S; intro a S
 refine lv S (rn_add (S.tm rfl) rfl) rfl ?_; clear S; intro a S
 refine lv S (rn_nilCheck (S.tm rfl)) rfl ?_; clear S; intro a S
 refine lv S (rn_fld fa_25_1 (S.tm rfl)) rfl ?_; clear S; intro a S
 refine l_store S (S.tm rfl) (S.tm rfl) (i := 0) (off := 1) rfl Tryz.sizeOf3 (vs := [.int .i64 (W (p_s_at + 1))]) rfl rfl rfl rfl ?_; clear S; intro w1 hk1 S
 refine l_done ?_
 replace S := S.nk [.blk b_p_s [v_p_s_L, .int .i64 (W (p_s_at + 1))] 25] [(0, .pointer (some ⟨b_p_s, 0, none⟩)), (1, .int .i64 p_n)] [true] rfl ⟨rfl, rfl, trivial⟩
 refine then_n ?_
 refine f_seq ?_
 refine f_seq ?_
 refine f_region ?_
 refine lv S (rn_move (S.tm rfl)) rfl ?_; clear S; intro a S
 refine lv S (rn_nilCheck (S.tm rfl)) rfl ?_; clear S; intro a S
 refine lv S (rn_fld fa_25_0 (S.tm rfl)) rfl ?_; clear S; intro a S
 refine lv S (rn_load Tryz.isAgg22 (S.tm rfl) (S.cell (i := 0) rfl rfl)) rfl ?_; clear S; intro a S
 refine lv S (rn_lenT sl_22 (S.tm rfl) (slc_len hs_p_s_L)) rfl ?_; clear S; intro a S
 refine lv S (rn_eql (S.tm rfl) rfl) rfl ?_; clear S; intro a S
 refine l_done ?_
 replace S := S.nk [.blk b_p_s [v_p_s_L, .int .i64 (W (p_s_at + 1))] 25] [(0, .pointer (some ⟨b_p_s, 0, none⟩)), (1, .int .i64 p_n), (19, .bool (decide ((p_s_L.length : Int) = 0)))] [true] rfl ⟨rfl, rfl, rfl, trivial⟩
 refine then_n ?_
 refine f_cond (S.tm rfl) (fun hb1 => ?_) (fun hb1 => ?_)
 ·replace h := iteT h hb1
  refine f_seq ?_
  refine f_region ?_
  refine lv S (rn_move (S.tm rfl)) rfl ?_; clear S; intro a S
  refine lv S (rn_nilCheck (S.tm rfl)) rfl ?_; clear S; intro a S
  refine lv S (rn_fld fa_25_1 (S.tm rfl)) rfl ?_; clear S; intro a S
  refine lv S (rn_load Tryz.isAgg3 (S.tm rfl) (S.cell (i := 0) rfl rfl)) rfl ?_; clear S; intro a S
  refine lv S (rn_mul (S.tm rfl) rfl) rfl ?_; clear S; intro a S
  refine lv S (rn_move (S.tm rfl)) rfl ?_; clear S; intro a S
  obtain ⟨r1, hr1, h⟩ := bindE h
  refine l_enter S (fun _ => run_call (vs := [.int .i64 (W ((W (p_s_at + 1)) * 7919)), .int .i64 p_n]) ⟨(S.tm rfl), (S.tm rfl), trivial⟩ Tryz.call38) (tumbmake_Below_ok _ (W ((W (p_s_at + 1)) * 7919)) p_n _ hr1) rfl ?_; clear S; intro v1 a w2 hv1 hk2 hn1 S
  subst hv1
  refine lv S (rn_assign (S.tm rfl)) rfl ?_; clear S; intro a S
  refine l_done ?_
  replace S := S.nk [.blk b_p_s [v_p_s_L, .int .i64 (W (p_s_at + 1))] 25] [(4, .int .i64 r1)] [true] rfl ⟨rfl, trivial⟩
  refine then_n ?_
  refine wp_ret ?_
  refine then_r ?_
  obtain rfl := Option.some.inj h
  exact f_ret S Tryz.results22 rfl ⟨(S.holds _ (List.mem_of_getElem? (i := 0) rfl)), rfl⟩
 ·replace h := iteF h hb1
  refine wp_skip ?_
  refine then_n ?_
  refine f_seq ?_
  refine d_region [] ([]) Tryz.mixed S rfl (by kernel_rfl) ?_; clear S; intro w3 hk3 hsel S
  refine d_rest [0, 1, 2, 3, 4, 5, 6, 7, 8, 9, 10, 11] hsel (by kernel_rfl) rfl ?_
  clear hsel
  refine s_lv S rfl (rn_move (S.tm rfl)) rfl ?_; clear S; intro a S
  refine s_lv S rfl (rn_nilCheck (S.tm rfl)) rfl ?_; clear S; intro a S
  refine s_lv S rfl (rn_fld fa_25_1 (S.tm rfl)) rfl ?_; clear S; intro a S
  refine s_lv S rfl (rn_load Tryz.isAgg3 (S.tm rfl) (S.cell (i := 0) rfl rfl)) rfl ?_; clear S; intro a S
  refine s_lv S rfl (rn_sub (S.tm rfl) rfl) rfl ?_; clear S; intro a S
  refine s_lv S rfl (rn_move (S.tm rfl)) rfl ?_; clear S; intro a S
  refine s_lv S rfl (rn_nilCheck (S.tm rfl)) rfl ?_; clear S; intro a S
  refine s_lv S rfl (rn_fld fa_25_0 (S.tm rfl)) rfl ?_; clear S; intro a S
  refine s_lv S rfl (rn_load Tryz.isAgg22 (S.tm rfl) (S.cell (i := 0) rfl rfl)) rfl ?_; clear S; intro a S
  refine s_lv S rfl (rn_lenT sl_22 (S.tm rfl) (slc_len hs_p_s_L)) rfl ?_; clear S; intro a S
  obtain ⟨hc1, h⟩ := chkE h
  refine s_lv S rfl (rn_rem (S.tm rfl) (S.tm rfl) (ne0_of hc1)) rfl ?_; clear S; intro a S
  refine s_lv S rfl (rn_assign (S.tm rfl)) rfl ?_; clear S; intro a S
  refine s_done ?_
  replace S := S.nk [.blk b_p_s [v_p_s_L, .int .i64 (W (p_s_at + 1))] 25] [(0, .pointer (some ⟨b_p_s, 0, none⟩)), (1, .int .i64 p_n), (5, .int .i64 (Int.tmod (W ((W (p_s_at + 1)) - 1)) (p_s_L.length : Int)))] [true] rfl ⟨rfl, rfl, rfl, trivial⟩
  refine then_n ?_
  refine f_seq ?_
  refine d_region [] ([]) Tryz.mixed S rfl (by kernel_rfl) ?_; clear S; intro w4 hk4 hsel S
  refine d_rest [0, 1, 2, 3, 4, 5, 6, 7, 8, 9, 10, 11] hsel (by kernel_rfl) rfl ?_
  clear hsel
  refine s_lv S rfl (rn_move (S.tm rfl)) rfl ?_; clear S; intro a S
  refine s_lv S rfl (rn_nilCheck (S.tm rfl)) rfl ?_; clear S; intro a S
  refine s_lv S rfl (rn_fld fa_25_1 (S.tm rfl)) rfl ?_; clear S; intro a S
  refine s_lv S rfl (rn_load Tryz.isAgg3 (S.tm rfl) (S.cell (i := 0) rfl rfl)) rfl ?_; clear S; intro a S
  refine s_lv S rfl (rn_sub (S.tm rfl) rfl) rfl ?_; clear S; intro a S
  refine s_lv S rfl (rn_move (S.tm rfl)) rfl ?_; clear S; intro a S
  refine s_lv S rfl (rn_nilCheck (S.tm rfl)) rfl ?_; clear S; intro a S
  refine s_lv S rfl (rn_fld fa_25_0 (S.tm rfl)) rfl ?_; clear S; intro a S
  refine s_lv S rfl (rn_load Tryz.isAgg22 (S.tm rfl) (S.cell (i := 0) rfl rfl)) rfl ?_; clear S; intro a S
  refine s_lv S rfl (rn_lenT sl_22 (S.tm rfl) (slc_len hs_p_s_L)) rfl ?_; clear S; intro a S
  obtain ⟨hc2, h⟩ := chkE h
  refine s_lv S rfl (rn_quo (S.tm rfl) (S.tm rfl) (ne0_of hc2)) rfl ?_; clear S; intro a S
  refine s_lv S rfl (rn_assign (S.tm rfl)) rfl ?_; clear S; intro a S
  refine s_done ?_
  replace S := S.nk [.blk b_p_s [v_p_s_L, .int .i64 (W (p_s_at + 1))] 25] [(0, .pointer (some ⟨b_p_s, 0, none⟩)), (1, .int .i64 p_n), (5, .int .i64 (Int.tmod (W ((W (p_s_at + 1)) - 1)) (p_s_L.length : Int))), (6, .int .i64 (W (Int.tdiv (W ((W (p_s_at + 1)) - 1)) (p_s_L.length : Int))))] [true] rfl ⟨rfl, rfl, rfl, rfl, trivial⟩
  refine then_n ?_
  refine f_seq ?_
  refine f_region ?_
  refine lv S (rn_move (S.tm rfl)) rfl ?_; clear S; intro a S
  refine lv S (rn_nilCheck (S.tm rfl)) rfl ?_; clear S; intro a S
  refine lv S (rn_fld fa_25_0 (S.tm rfl)) rfl ?_; clear S; intro a S
  refine lv S (rn_load Tryz.isAgg22 (S.tm rfl) (S.cell (i := 0) rfl rfl)) rfl ?_; clear S; intro a S
  refine lv S (rn_move (S.tm rfl)) rfl ?_; clear S; intro a S
  obtain ⟨hc3, h⟩ := chkE h
  obtain ⟨b1, o1, hm1, hr2⟩ := rn_indexT (a := a) (x := .tmp 52) (y := .tmp 53) (ty := 0) sl_22 hs_p_s_L (inB_get hc3).1 (inB_get hc3).2 (S.tm rfl) (S.tm rfl)
  refine lv S (hr2 _) rfl ?_; clear S; intro a S
  clear hr2
  refine lv S (rn_ld Tryz.isAgg3 (off := o1) (o := 0) (S.tm rfl) (hm1.at S.emb0) rfl) rfl ?_; clear S; intro a S
  obtain ⟨r2, hr3, h⟩ := bindE h
  refine l_enter S (fun _ => run_call (vs := [.int .i64 (nth p_s_L (Int.tmod (W ((W (p_s_at + 1)) - 1)) (p_s_L.length : Int))), .int .i64 1073741824]) ⟨(S.tm rfl), rfl, trivial⟩ Tryz.call38) (tumbmake_Below_ok _ (nth p_s_L (Int.tmod (W ((W (p_s_at + 1)) - 1)) (p_s_L.length : Int))) 1073741824 _ hr3) rfl ?_; clear S; intro v2 a w5 hv2 hk5 hn2 S
  subst hv2
  refine lv S (rn_move (S.tm rfl)) rfl ?_; clear S; intro a S
  refine lv S (rn_move (S.tm rfl)) rfl ?_; clear S; intro a S
  refine lv S (rn_add rfl (S.tm rfl)) rfl ?_; clear S; intro a S
  refine lv S (rn_mul (S.tm rfl) (S.tm rfl)) rfl ?_; clear S; intro a S
  refine lv S (rn_add (S.tm rfl) (S.tm rfl)) rfl ?_; clear S; intro a S
  refine lv S (rn_move (S.tm rfl)) rfl ?_; clear S; intro a S
  obtain ⟨r3, hr4, h⟩ := bindE h
  refine l_enter S (fun _ => run_call (vs := [.int .i64 (W (r2 + (W ((W (Int.tdiv (W ((W (p_s_at + 1)) - 1)) (p_s_L.length : Int))) * (W (7919 + (Int.tmod (W ((W (p_s_at + 1)) - 1)) (p_s_L.length : Int)))))))), .int .i64 p_n]) ⟨(S.tm rfl), (S.tm rfl), trivial⟩ Tryz.call38) (tumbmake_Below_ok _ (W (r2 + (W ((W (Int.tdiv (W ((W (p_s_at + 1)) - 1)) (p_s_L.length : Int))) * (W (7919 + (Int.tmod (W ((W (p_s_at + 1)) - 1)) (p_s_L.length : Int)))))))) p_n _ hr4) rfl ?_; clear S; intro v3 a w6 hv3 hk6 hn3 S
  subst hv3
  refine lv S (rn_assign (S.tm rfl)) rfl ?_; clear S; intro a S
  refine l_done ?_
  replace S := S.nk [.blk b_p_s [v_p_s_L, .int .i64 (W (p_s_at + 1))] 25] [(4, .int .i64 r3)] [true] rfl ⟨rfl, trivial⟩
  refine then_n ?_
  refine wp_ret ?_
  obtain rfl := Option.some.inj h
  exact f_ret S Tryz.results22 rfl ⟨(S.holds _ (List.mem_of_getElem? (i := 0) rfl)), rfl⟩
theorem Stream_Flip_ok (w : World) (b_p_s : Nat) (v_p_s_L : Value) (p_s_L : List Int) (hs_p_s_L : Slc (view w [b_p_s]) 1 v_p_s_L (p_s_L.map eInt)) (p_s_at : Int) (hb_b_p_s : (LEnt.blk b_p_s [v_p_s_L, .int .i64 p_s_at] 25).holds w) (p_n : Int) (r : Bool × Int) (h : Stream_Flip p_s_L p_s_at p_n = some r) :
    Calls Tryz.prog 16 [.pointer (some ⟨b_p_s, 0, none⟩), .int .i64 p_n].toArray w (Ret w [b_p_s] fun _ v w' => (LEnt.blk b_p_s [v_p_s_L, .int .i64 r.2] 25).holds w' ∧ v = .bool r.1) := by
 refine f_enter [b_p_s] [.blk b_p_s [v_p_s_L, .int .i64 p_s_at] 25] Tryz.func16 rfl Tryz.ntmps16 rfl (fun e he => by simp only [List.mem_singleton] at he; subst he; exact hb_b_p_s) (by simp [fps, LEnt.fp]) (by simp [fps, LEnt.fp]) fun a S => ?_
 unfold Stream_Flip at h
 replace S := S.nk [.blk b_p_s [v_p_s_L, .int .i64 p_s_at] 25] [(0, .pointer (some ⟨b_p_s, 0, none⟩)), (1, .int .i64 p_n)] [true] rfl ⟨rfl, rfl, trivial⟩
 refine f_seq ?_
 refine f_region ?_
 refine lv S (rn_assign rfl) rfl ?_; clear S; intro a S
 refine l_done ?_
 replace S := S.nk [.blk b_p_s [v_p_s_L, .int .i64 p_s_at] 25] [(0, .pointer (some ⟨b_p_s, 0, none⟩)), (1, .int .i64 p_n)] [true] rfl ⟨rfl, rfl, trivial⟩
 refine then_n ?_
 refine f_seq ?_
 refine f_region ?_
 refine lv S (rn_move (S.tm rfl)) rfl ?_; clear S; intro a S
 refine lv S (rn_move (S.tm rfl)) rfl ?_; clear S; intro a S
 obtain ⟨r1, hr1, h⟩ := bindE h
 refine l_enter1 0 S (b := b_p_s) rfl rfl (fun _ => .blk b_p_s [v_p_s_L, .int .i64 r1.2] 25) (fun _ => run_call (vs := [.pointer (some ⟨b_p_s, 0, none⟩), .int .i64 p_n]) ⟨(S.tm rfl), (S.tm rfl), trivial⟩ Tryz.call22) (Stream_Next_ok _ b_p_s v_p_s_L p_s_L (hs_p_s_L.mono (S.le_arg (fp_sub (i := 0) (e := .blk b_p_s [v_p_s_L, .int .i64 p_s_at] 25) rfl))) p_s_at (S.holds _ (List.mem_of_getElem? (i := 0) rfl)) p_n _ hr1) rfl (fun _ _ _ h => ⟨h.1, fun _ hc => by cases hc; rfl⟩) ?_; clear S; intro v1 a w1 hv1 hk1 hn1 S
 replace hv1 := hv1.2
 subst hv1
 refine lv S (rn_eql (S.tm rfl) rfl) rfl ?_; clear S; intro a S
 refine lv S (rn_assign (S.tm rfl)) rfl ?_; clear S; intro a S
 refine l_done ?_
 replace S := S.nk [.blk b_p_s [v_p_s_L, .int .i64 r1.2] 25] [(4, .bool (decide (r1.1 = 0)))] [true] rfl ⟨rfl, trivial⟩
 refine then_n ?_
 refine wp_ret ?_
 obtain rfl := Option.some.inj h
 exact f_ret S Tryz.results16 rfl ⟨(S.holds _ (List.mem_of_getElem? (i := 0) rfl)), rfl⟩
theorem Stream_Pick_ok (w : World) (b_p_s : Nat) (v_p_s_L : Value) (p_s_L : List Int) (hs_p_s_L : Slc (view w [b_p_s]) 1 v_p_s_L (p_s_L.map eInt)) (p_s_at : Int) (hb_b_p_s : (LEnt.blk b_p_s [v_p_s_L, .int .i64 p_s_at] 25).holds w) (v_p_l : Value) (p_l : List Int) (hs_p_l : Slc (view w [b_p_s]) 1 v_p_l (p_l.map eInt)) (r : Int × Int) (h : Stream_Pick p_s_L p_s_at p_l = some r) :
    Calls Tryz.prog 18 [.pointer (some ⟨b_p_s, 0, none⟩), v_p_l].toArray w (Ret w [b_p_s] fun _ v w' => (LEnt.blk b_p_s [v_p_s_L, .int .i64 r.2] 25).holds w' ∧ v = .int .i64 r.1) := by
 refine f_enter [b_p_s] [.blk b_p_s [v_p_s_L, .int .i64 p_s_at] 25] Tryz.func18 rfl Tryz.ntmps18 rfl (fun e he => by simp only [List.mem_singleton] at he; subst he; exact hb_b_p_s) (by simp [fps, LEnt.fp]) (by simp [fps, LEnt.fp]) fun a S => ?_
 unfold Stream_Pick at h
 replace S := S.nk [.blk b_p_s [v_p_s_L, .int .i64 p_s_at] 25] [(0, .pointer (some ⟨b_p_s, 0, none⟩)), (1, v_p_l)] [true] rfl ⟨rfl, rfl, trivial⟩
 refine f_seq ?_
 refine f_region ?_
 refine lv S (rn_assign rfl) rfl ?_; clear S; intro a S
 refine l_done ?_
 replace S := S.nk [.blk b_p_s [v_p_s_L, .int .i64 p_s_at] 25] [(0, .pointer (some ⟨b_p_s, 0, none⟩)), (1, v_p_l)] [true] rfl ⟨rfl, rfl, trivial⟩
 refine then_n ?_
 refine f_seq ?_
 refine f_region ?_
 refine lv S (rn_move (S.tm rfl)) rfl ?_; clear S; intro a S
 refine lv S (rn_move (S.tm rfl)) rfl ?_; clear S; intro a S
 refine lv S (rn_move (S.tm rfl)) rfl ?_; clear S; intro a S
 refine lv S (rn_lenT sl_22 (S.tm rfl) (slc_len hs_p_l)) rfl ?_; clear S; intro a S
 obtain ⟨r1, hr1, h⟩ := bindE h
 refine l_enter1 0 S (b := b_p_s) rfl rfl (fun _ => .blk b_p_s [v_p_s_L, .int .i64 r1.2] 25) (fun _ => run_call (vs := [.pointer (some ⟨b_p_s, 0, none⟩), .int .i64 (p_l.length : Int)]) ⟨(S.tm rfl), (S.tm rfl), trivial⟩ Tryz.call22) (Stream_Next_ok _ b_p_s v_p_s_L p_s_L (hs_p_s_L.mono (S.le_arg (fp_sub (i := 0) (e := .blk b_p_s [v_p_s_L, .int .i64 p_s_at] 25) rfl))) p_s_at (S.holds _ (List.mem_of_getElem? (i := 0) rfl)) (p_l.length : Int) _ hr1) rfl (fun _ _ _ h => ⟨h.1, fun _ hc => by cases hc; rfl⟩) ?_; clear S; intro v1 a w1 hv1 hk1 hn1 S
 replace hv1 := hv1.2
 subst hv1
 obtain ⟨hc1, h⟩ := chkE h
 obtain ⟨b1, o1, hm1, hr2⟩ := rn_indexT (a := a) (x := .tmp 5) (y := .tmp 9) (ty := 0) sl_22 hs_p_l (inB_get hc1).1 (inB_get hc1).2 (S.tm rfl) (S.tm rfl)
 refine lv S (hr2 _) rfl ?_; clear S; intro a S
 clear hr2
 refine lv S (rn_ld Tryz.isAgg3 (off := o1) (o := 0) (S.tm rfl) (hm1.at S.emb0) rfl) rfl ?_; clear S; intro a S
 refine lv S (rn_assign (S.tm rfl)) rfl ?_; clear S; intro a S
 refine l_done ?_
 replace S := S.nk [.blk b_p_s [v_p_s_L, .int .i64 r1.2] 25] [(4, .int .i64 (nth p_l r1.1))] [true] rfl ⟨rfl, trivial⟩
 refine then_n ?_
 refine wp_ret ?_
 obtain rfl := Option.some.inj h
 exact f_ret S Tryz.results18 rfl ⟨(S.holds _ (List.mem_of_getElem? (i := 0) rfl)), rfl⟩
theorem Stream_MeetRace_ok (w : World) (b_p_s : Nat) (v_p_s_L : Value) (p_s_L : List Int) (hs_p_s_L : Slc (view w [b_p_s]) 1 v_p_s_L (p_s_L.map eInt)) (p_s_at : Int) (hb_b_p_s : (LEnt.blk b_p_s [v_p_s_L, .int .i64 p_s_at] 25).holds w) (p_key : ByteArray) (r : GRace × Int) (h : Stream_MeetRace p_s_L p_s_at p_key = some r) :
    Calls Tryz.prog 17 [.pointer (some ⟨b_p_s, 0, none⟩), .string p_key].toArray w (Ret w [b_p_s] fun _ v w' => (LEnt.blk b_p_s [v_p_s_L, .int .i64 r.2] 25).holds w' ∧ v = .agg (GRace.enc r.1).toArray) := by
 refine f_enter [b_p_s] [.blk b_p_s [v_p_s_L, .int .i64 p_s_at] 25] Tryz.func17 rfl Tryz.ntmps17 rfl (fun e he => by simp only [List.mem_singleton] at he; subst he; exact hb_b_p_s) (by simp [fps, LEnt.fp]) (by simp [fps, LEnt.fp]) fun a S => ?_
 unfold Stream_MeetRace at h
 replace S := S.nk [.blk b_p_s [v_p_s_L, .int .i64 p_s_at] 25] [(0, .pointer (some ⟨b_p_s, 0, none⟩)), (1, .string p_key)] [true] rfl ⟨rfl, rfl, trivial⟩
 refine f_seq ?_
 refine f_region ?_
 refine l_alloc S Tryz.zeroValue52 (cs := [.string k_empty, .int .i64 0, .int .i64 0, .int .i64 0, .int .i64 0, .int .i64 0, .int .i64 0, .int .i64 0]) rfl rfl ?_; clear S; intro a w1 b1 hz1 hk1 S
 refine l_done ?_
 replace S := S.nk [.blk b1 [.string k_empty, .int .i64 0, .int .i64 0, .int .i64 0, .int .i64 0, .int .i64 0, .int .i64 0, .int .i64 0] 52, .blk b_p_s [v_p_s_L, .int .i64 p_s_at] 25] [(0, .pointer (some ⟨b_p_s, 0, none⟩)), (1, .string p_key), (4, .pointer (some ⟨b1, 0, none⟩))] [true, true] rfl ⟨rfl, rfl, rfl, trivial⟩
 refine then_n ?_
 refine f_seq ?_
 refine f_region ?_
 refine lv S (rn_move (S.tm rfl)) rfl ?_; clear S; intro a S
 refine lv S (rn_move (S.tm rfl)) rfl ?_; clear S; intro a S
 refine l_buildSlice S Tryz.underlying22 Tryz.sizeOf3 Tryz.zeroValue3 rfl rfl (pv := [(0, .int .i64 50), (1, .int .i64 100), (2, .int .i64 200)]) ⟨rfl, rfl, rfl, rfl, rfl, rfl, trivial⟩ (cs := [.int .i64 50, .int .i64 100, .int .i64 200]) (by kernel_rfl) rfl ?_; clear S; intro a w2 b2 hz2 hk2 S
 obtain ⟨r1, hr1, h⟩ := bindE h
 refine l_enter1 2 S (b := b_p_s) rfl rfl (fun _ => .blk b_p_s [v_p_s_L, .int .i64 r1.2] 25) (fun _ => run_call (vs := [.pointer (some ⟨b_p_s, 0, none⟩), .slice (some ⟨b2, 0, none⟩) 3 3]) ⟨(S.tm rfl), (S.tm rfl), trivial⟩ Tryz.call18) (Stream_Pick_ok _ b_p_s v_p_s_L p_s_L (hs_p_s_L.mono (S.le_arg (fp_sub (i := 2) (e := .blk b_p_s [v_p_s_L, .int .i64 p_s_at] 25) rfl))) p_s_at (S.holds _ (List.mem_of_getElem? (i := 2) rfl)) (.slice (some ⟨b2, 0, none⟩) 3 3) [50, 100, 200] (lit_slcT enc_int S (i := 0) rfl rfl rfl rfl ((ne_fp (i := 2) (j := 0) (e := .blk b_p_s [v_p_s_L, .int .i64 p_s_at] 25) (e' := .blk b2 [.int .i64 50, .int .i64 100, .int .i64 200] 3) S rfl rfl rfl) _ rfl)) _ hr1) rfl (fun _ _ _ h => ⟨h.1, fun _ hc => by cases hc; rfl⟩) ?_; clear S; intro v1 a w3 hv1 hk3 hn1 S
 replace hv1 := hv1.2
 subst hv1
 refine lv S (rn_move (S.tm rfl)) rfl ?_; clear S; intro a S
 refine l_buildSlice S Tryz.underlying22 Tryz.sizeOf3 Tryz.zeroValue3 rfl rfl (pv := [(0, .int .i64 1), (1, .int .i64 2), (2, .int .i64 3), (3, .int .i64 4)]) ⟨rfl, rfl, rfl, rfl, rfl, rfl, rfl, rfl, trivial⟩ (cs := [.int .i64 1, .int .i64 2, .int .i64 3, .int .i64 4]) (by kernel_rfl) rfl ?_; clear S; intro a w4 b3 hz3 hk4 S
 obtain ⟨r2, hr2, h⟩ := bindE h
 refine l_enter1 3 S (b := b_p_s) rfl rfl (fun _ => .blk b_p_s [v_p_s_L, .int .i64 r2.2] 25) (fun _ => run_call (vs := [.pointer (some ⟨b_p_s, 0, none⟩), .slice (some ⟨b3, 0, none⟩) 4 4]) ⟨(S.tm rfl), (S.tm rfl), trivial⟩ Tryz.call18) (Stream_Pick_ok _ b_p_s v_p_s_L p_s_L (hs_p_s_L.mono (S.le_arg (fp_sub (i := 3) (e := .blk b_p_s [v_p_s_L, .int .i64 r1.2] 25) rfl))) r1.2 (S.holds _ (List.mem_of_getElem? (i := 3) rfl)) (.slice (some ⟨b3, 0, none⟩) 4 4) [1, 2, 3, 4] (lit_slcT enc_int S (i := 0) rfl rfl rfl rfl ((ne_fp (i := 3) (j := 0) (e := .blk b_p_s [v_p_s_L, .int .i64 r1.2] 25) (e' := .blk b3 [.int .i64 1, .int .i64 2, .int .i64 3, .int .i64 4] 3) S rfl rfl rfl) _ rfl)) _ hr2) rfl (fun _ _ _ h => ⟨h.1, fun _ hc => by cases hc; rfl⟩) ?_; clear S; intro v2 a w5 hv2 hk5 hn2 S
 replace hv2 := hv2.2
 subst hv2
 refine lv S (rn_move (S.tm rfl)) rfl ?_; clear S; intro a S
 refine l_buildSlice S Tryz.underlying22 Tryz.sizeOf3 Tryz.zeroValue3 rfl rfl (pv := [(0, .int .i64 25), (1, .int .i64 50)]) ⟨rfl, rfl, rfl, rfl, trivial⟩ (cs := [.int .i64 25, .int .i64 50]) (by kernel_rfl) rfl ?_; clear S; intro a w6 b4 hz4 hk6 S
 obtain ⟨r3, hr3, h⟩ := bindE h
 refine l_enter1 4 S (b := b_p_s) rfl rfl (fun _ => .blk b_p_s [v_p_s_L, .int .i64 r3.2] 25) (fun _ => run_call (vs := [.pointer (some ⟨b_p_s, 0, none⟩), .slice (some ⟨b4, 0, none⟩) 2 2]) ⟨(S.tm rfl), (S.tm rfl), trivial⟩ Tryz.call18) (Stream_Pick_ok _ b_p_s v_p_s_L p_s_L (hs_p_s_L.mono (S.le_arg (fp_sub (i := 4) (e := .blk b_p_s [v_p_s_L, .int .i64 r2.2] 25) rfl))) r2.2 (S.holds _ (List.mem_of_getElem? (i := 4) rfl)) (.slice (some ⟨b4, 0, none⟩) 2 2) [25, 50] (lit_slcT enc_int S (i := 0) rfl rfl rfl rfl ((ne_fp (i := 4) (j := 0) (e := .blk b_p_s [v_p_s_L, .int .i64 r2.2] 25) (e' := .blk b4 [.int .i64 25, .int .i64 50] 3) S rfl rfl rfl) _ rfl)) _ hr3) rfl (fun _ _ _ h => ⟨h.1, fun _ hc => by cases hc; rfl⟩) ?_; clear S; intro v3 a w7 hv3 hk7 hn3 S
 replace hv3 := hv3.2
 subst hv3
 refine lv S (rn_move (S.tm rfl)) rfl ?_; clear S; intro a S
 refine l_buildSlice S Tryz.underlying22 Tryz.sizeOf3 Tryz.zeroValue3 rfl rfl (pv := [(0, .int .i64 1), (1, .int .i64 1), (2, .int .i64 1), (3, .int .i64 4)]) ⟨rfl, rfl, rfl, rfl, rfl, rfl, rfl, rfl, trivial⟩ (cs := [.int .i64 1, .int .i64 1, .int .i64 1, .int .i64 4]) (by kernel_rfl) rfl ?_; clear S; intro a w8 b5 hz5 hk8 S
 obtain ⟨r4, hr4, h⟩ := bindE h
 refine l_enter1 5 S (b := b_p_s) rfl rfl (fun _ => .blk b_p_s [v_p_s_L, .int .i64 r4.2] 25) (fun _ => run_call (vs := [.pointer (some ⟨b_p_s, 0, none⟩), .slice (some ⟨b5, 0, none⟩) 4 4]) ⟨(S.tm rfl), (S.tm rfl), trivial⟩ Tryz.call18) (Stream_Pick_ok _ b_p_s v_p_s_L p_s_L (hs_p_s_L.mono (S.le_arg (fp_sub (i := 5) (e := .blk b_p_s [v_p_s_L, .int .i64 r3.2] 25) rfl))) r3.2 (S.holds _ (List.mem_of_getElem? (i := 5) rfl)) (.slice (some ⟨b5, 0, none⟩) 4 4) [1, 1, 1, 4] (lit_slcT enc_int S (i := 0) rfl rfl rfl rfl ((ne_fp (i := 5) (j := 0) (e := .blk b_p_s [v_p_s_L, .int .i64 r3.2] 25) (e' := .blk b5 [.int .i64 1, .int .i64 1, .int .i64 1, .int .i64 4] 3) S rfl rfl rfl) _ rfl)) _ hr4) rfl (fun _ _ _ h => ⟨h.1, fun _ hc => by cases hc; rfl⟩) ?_; clear S; intro v4 a w9 hv4 hk9 hn4 S
 replace hv4 := hv4.2
 subst hv4
 refine lv S (rn_move (S.tm rfl)) rfl ?_; clear S; intro a S
 refine l_buildSlice S Tryz.underlying22 Tryz.sizeOf3 Tryz.zeroValue3 rfl rfl (pv := [(0, .int .i64 0), (1, .int .i64 1), (2, .int .i64 2)]) ⟨rfl, rfl, rfl, rfl, rfl, rfl, trivial⟩ (cs := [.int .i64 0, .int .i64 1, .int .i64 2]) (by kernel_rfl) rfl ?_; clear S; intro a w10 b6 hz6 hk10 S
 obtain ⟨r5, hr5, h⟩ := bindE h
 refine l_enter1 6 S (b := b_p_s) rfl rfl (fun _ => .blk b_p_s [v_p_s_L, .int .i64 r5.2] 25) (fun _ => run_call (vs := [.pointer (some ⟨b_p_s, 0, none⟩), .slice (some ⟨b6, 0, none⟩) 3 3]) ⟨(S.tm rfl), (S.tm rfl), trivial⟩ Tryz.call18) (Stream_Pick_ok _ b_p_s v_p_s_L p_s_L (hs_p_s_L.mono (S.le_arg (fp_sub (i := 6) (e := .blk b_p_s [v_p_s_L, .int .i64 r4.2] 25) rfl))) r4.2 (S.holds _ (List.mem_of_getElem? (i := 6) rfl)) (.slice (some ⟨b6, 0, none⟩) 3 3) [0, 1, 2] (lit_slcT enc_int S (i := 0) rfl rfl rfl rfl ((ne_fp (i := 6) (j := 0) (e := .blk b_p_s [v_p_s_L, .int .i64 r4.2] 25) (e' := .blk b6 [.int .i64 0, .int .i64 1, .int .i64 2] 3) S rfl rfl rfl) _ rfl)) _ hr5) rfl (fun _ _ _ h => ⟨h.1, fun _ hc => by cases hc; rfl⟩) ?_; clear S; intro v5 a w11 hv5 hk11 hn5 S
 replace hv5 := hv5.2
 subst hv5
 refine lv S (rn_move (S.tm rfl)) rfl ?_; clear S; intro a S
 refine l_buildSlice S Tryz.underlying22 Tryz.sizeOf3 Tryz.zeroValue3 rfl rfl (pv := [(0, .int .i64 0), (1, .int .i64 0), (2, .int .i64 5), (3, .int .i64 10)]) ⟨rfl, rfl, rfl, rfl, rfl, rfl, rfl, rfl, trivial⟩ (cs := [.int .i64 0, .int .i64 0, .int .i64 5, .int .i64 10]) (by kernel_rfl) rfl ?_; clear S; intro a w12 b7 hz7 hk12 S
 obtain ⟨r6, hr6, h⟩ := bindE h
 refine l_enter1 7 S (b := b_p_s) rfl rfl (fun _ => .blk b_p_s [v_p_s_L, .int .i64 r6.2] 25) (fun _ => run_call (vs := [.pointer (some ⟨b_p_s, 0, none⟩), .slice (some ⟨b7, 0, none⟩) 4 4]) ⟨(S.tm rfl), (S.tm rfl), trivial⟩ Tryz.call18) (Stream_Pick_ok _ b_p_s v_p_s_L p_s_L (hs_p_s_L.mono (S.le_arg (fp_sub (i := 7) (e := .blk b_p_s [v_p_s_L, .int .i64 r5.2] 25) rfl))) r5.2 (S.holds _ (List.mem_of_getElem? (i := 7) rfl)) (.slice (some ⟨b7, 0, none⟩) 4 4) [0, 0, 5, 10] (lit_slcT enc_int S (i := 0) rfl rfl rfl rfl ((ne_fp (i := 7) (j := 0) (e := .blk b_p_s [v_p_s_L, .int .i64 r5.2] 25) (e' := .blk b7 [.int .i64 0, .int .i64 0, .int .i64 5, .int .i64 10] 3) S rfl rfl rfl) _ rfl)) _ hr6) rfl (fun _ _ _ h => ⟨h.1, fun _ hc => by cases hc; rfl⟩) ?_; clear S; intro v6 a w13 hv6 hk13 hn6 S
 replace hv6 := hv6.2
 subst hv6
 refine lv S (rn_bld bt_52 (pv := [(0, .string p_key), (1, .int .i64 r1.1), (2, .int .i64 r2.1), (3, .int .i64 r3.1), (4, .int .i64 r4.1), (5, .int .i64 r5.1), (6, .int .i64 r6.1)]) ⟨rfl, (S.tm rfl), rfl, (S.tm rfl), rfl, (S.tm rfl), rfl, (S.tm rfl), rfl, (S.tm rfl), rfl, (S.tm rfl), rfl, (S.tm rfl), trivial⟩ (cs := [.string p_key, .int .i64 r1.1, .int .i64 r2.1, .int .i64 r3.1, .int .i64 r4.1, .int .i64 r5.1, .int .i64 r6.1, .int .i64 0]) (by kernel_rfl)) rfl ?_; clear S; intro a S
 refine l_alloc S Tryz.zeroValue52 (cs := [.string k_empty, .int .i64 0, .int .i64 0, .int .i64 0, .int .i64 0, .int .i64 0, .int .i64 0, .int .i64 0]) rfl rfl ?_; clear S; intro a w14 b8 hz8 hk14 S
 refine l_store S (S.tm rfl) (S.tm rfl) (i := 0) (off := 0) rfl Tryz.sizeOf52 (vs := [.string p_key, .int .i64 r1.1, .int .i64 r2.1, .int .i64 r3.1, .int .i64 r4.1, .int .i64 r5.1, .int .i64 r6.1, .int .i64 0]) rfl rfl rfl rfl ?_; clear S; intro w15 hk15 S
 refine l_done ?_
 replace S := S.nk [.blk b8 [.string p_key, .int .i64 r1.1, .int .i64 r2.1, .int .i64 r3.1, .int .i64 r4.1, .int .i64 r5.1, .int .i64 r6.1, .int .i64 0] 52, .blk b1 [.string k_empty, .int .i64 0, .int .i64 0, .int .i64 0, .int .i64 0, .int .i64 0, .int .i64 0, .int .i64 0] 52, .blk b_p_s [v_p_s_L, .int .i64 r6.2] 25] [(0, .pointer (some ⟨b_p_s, 0, none⟩)), (4, .pointer (some ⟨b1, 0, none⟩)), (5, .pointer (some ⟨b8, 0, none⟩))] [true, false, false, false, false, false, false, true, true] rfl ⟨rfl, rfl, rfl, trivial⟩
 refine then_n ?_
 refine f_seq ?_
 obtain ⟨r7, hr7, h⟩ := bindE h
 refine d_region [7] ([b_p_s]) Tryz.mixed S rfl (by kernel_rfl) ?_; clear S; intro w19 hk19 hsel S
 refine d_pure 0 S hsel rfl rfl (by kernel_rfl) (by kernel_rfl) rfl (fun _ => (rn_fld fa_52_6 (S.tm rfl))) ?_; clear S; intro a S
 refine d_quiet 1 S hsel rfl (by kernel_rfl) (by kernel_rfl) (by kernel_rfl) (by kernel_rfl) rfl (fun _ hw => (rn_ld Tryz.isAgg3 (off := 0) (o := 6) (S.tm rfl) ((S.blk_mem (i := 0) (cells := [.string p_key, .int .i64 r1.1, .int .i64 r2.1, .int .i64 r3.1, .int .i64 r4.1, .int .i64 r5.1, .int .i64 r6.1, .int .i64 0]) (b := b8) (T := 52) rfl (ne_fp (i := 2) (j := 0) (e := .blk b_p_s [v_p_s_L, .int .i64 r6.2] 25) (e' := .blk b8 [.string p_key, .int .i64 r1.1, .int .i64 r2.1, .int .i64 r3.1, .int .i64 r4.1, .int .i64 r5.1, .int .i64 r6.1, .int .i64 0] 52) S rfl rfl rfl)).kept hw) rfl)) ?_; clear S; intro a S
 refine d_pure 2 S hsel rfl rfl (by kernel_rfl) (by kernel_rfl) rfl (fun _ => (rn_move (S.tm rfl))) ?_; clear S; intro a S
 refine d_loud1 3 (by kernel_rfl) rfl ?_
 refine l_buildSlice S Tryz.underlying22 Tryz.sizeOf3 Tryz.zeroValue3 rfl rfl (pv := [(0, .int .i64 0), (1, .int .i64 5), (2, .int .i64 90)]) ⟨rfl, rfl, rfl, rfl, rfl, rfl, trivial⟩ (cs := [.int .i64 0, .int .i64 5, .int .i64 90]) (by kernel_rfl) rfl ?_; clear S; intro a w20 b10 hz10 hk20 S
 refine l_done ?_
 refine d_next (Keep.none hk20) ?_
 refine d_loud1 4 (by kernel_rfl) rfl ?_
 refine l_enter1 3 S (b := b_p_s) rfl rfl (fun _ => .blk b_p_s [v_p_s_L, .int .i64 r7.2] 25) (fun _ => run_call (vs := [.pointer (some ⟨b_p_s, 0, none⟩), .slice (some ⟨b10, 0, none⟩) 3 3]) ⟨(S.tm rfl), (S.tm rfl), trivial⟩ Tryz.call18) (Stream_Pick_ok _ b_p_s v_p_s_L p_s_L (hs_p_s_L.mono (S.le_arg (fp_sub (i := 3) (e := .blk b_p_s [v_p_s_L, .int .i64 r6.2] 25) rfl))) r6.2 (S.holds _ (List.mem_of_getElem? (i := 3) rfl)) (.slice (some ⟨b10, 0, none⟩) 3 3) [0, 5, 90] (lit_slcT enc_int S (i := 0) rfl rfl rfl rfl ((ne_fp (i := 3) (j := 0) (e := .blk b_p_s [v_p_s_L, .int .i64 r6.2] 25) (e' := .blk b10 [.int .i64 0, .int .i64 5, .int .i64 90] 3) S rfl rfl rfl) _ rfl)) _ hr7) rfl (fun _ _ _ h => ⟨h.1, fun _ hc => by cases hc; rfl⟩) ?_; clear S; intro v8 a w21 hv8 hk21 hn8 S
 replace hv8 := hv8.2
 subst hv8
 refine l_done ?_
 refine d_next hk21 ?_
 refine d_pure 5 S hsel rfl rfl (by kernel_rfl) (by kernel_rfl) rfl (fun _ => (rn_add (S.tm rfl) (S.tm rfl))) ?_; clear S; intro a S
 refine d_pure 6 S hsel rfl rfl (by kernel_rfl) (by kernel_rfl) rfl (fun _ => (rn_fld fa_52_7 (S.tm rfl))) ?_; clear S; intro a S
 refine d_loudB 7 ([b_p_s] ++ [b8]) rfl (by kernel_rfl) rfl ?_
 refine l_store S (S.tm rfl) (S.tm rfl) (i := 1) (off := 7) rfl Tryz.sizeOf3 (vs := [.int .i64 (W (r6.1 + r7.1))]) rfl rfl rfl rfl ?_; clear S; intro w22 hk22 S
 refine l_done ?_
 refine d_nextB ?_
 refine d_end (by kernel_rfl) ?_
 clear hsel
 replace S := S.nk [.blk b8 [.string p_key, .int .i64 r1.1, .int .i64 r2.1, .int .i64 r3.1, .int .i64 r4.1, .int .i64 r5.1, .int .i64 r6.1, .int .i64 (W (r6.1 + r7.1))] 52, .blk b1 [.string k_empty, .int .i64 0, .int .i64 0, .int .i64 0, .int .i64 0, .int .i64 0, .int .i64 0, .int .i64 0] 52, .blk b_p_s [v_p_s_L, .int .i64 r7.2] 25] [(4, .pointer (some ⟨b1, 0, none⟩)), (5, .pointer (some ⟨b8, 0, none⟩))] [false, true, true, true] rfl ⟨rfl, rfl, trivial⟩
 refine then_n ?_
 refine f_seq ?_
 refine f_region ?_
 refine lv S (rn_ldA Tryz.isAgg52 Tryz.sizeOf52 (off := 0) (o := 0) (part := [.string p_key, .int .i64 r1.1, .int .i64 r2.1, .int .i64 r3.1, .int .i64 r4.1, .int .i64 r5.1, .int .i64 r6.1, .int .i64 (W (r6.1 + r7.1))]) rfl rfl (S.tm rfl) (S.cellsAt (i := 0) rfl)) rfl ?_; clear S; intro a S
 refine l_store S (S.tm rfl) (S.tm rfl) (i := 1) (off := 0) rfl Tryz.sizeOf52 (vs := [.string p_key, .int .i64 r1.1, .int .i64 r2.1, .int .i64 r3.1, .int .i64 r4.1, .int .i64 r5.1, .int .i64 r6.1, .int .i64 (W (r6.1 + r7.1))]) rfl rfl rfl rfl ?_; clear S; intro w23 hk23 S
 refine l_done ?_
 replace S := S.nk [.blk b1 [.string p_key, .int .i64 r1.1, .int .i64 r2.1, .int .i64 r3.1, .int .i64 r4.1, .int .i64 r5.1, .int .i64 r6.1, .int .i64 (W (r6.1 + r7.1))] 52, .blk b_p_s [v_p_s_L, .int .i64 r7.2] 25] [(4, .pointer (some ⟨b1, 0, none⟩))] [false, true, true] rfl ⟨rfl, trivial⟩
 refine then_n ?_
 refine wp_ret ?_
 obtain rfl := Option.some.inj h
 exact f_retG S (rs := [.cell 4 52]) (vs := [.agg #[.string p_key, .int .i64 r1.1, .int .i64 r2.1, .int .i64 r3.1, .int .i64 r4.1, .int .i64 r5.1, .int .i64 r6.1, .int .i64 (W (r6.1 + r7.1))]]) Tryz.results17 ⟨(res_cell (off := 0) S rfl Tryz.isAgg52 Tryz.sizeOf52 rfl (S.cellsAt (i := 0) rfl)), trivial⟩ rfl ⟨(S.holds _ (List.mem_of_getElem? (i := 1) rfl)), rfl⟩
theorem Stream_MeetRaces_ok (w : World) (b_p_s : Nat) (v_p_s_L : Value) (p_s_L : List Int) (hs_p_s_L : Slc (view w [b_p_s]) 1 v_p_s_L (p_s_L.map eInt)) (p_s_at : Int) (hb_b_p_s : (LEnt.blk b_p_s [v_p_s_L, .int .i64 p_s_at] 25).holds w) (r : (List GRace) × Int) (h : Stream_MeetRaces p_s_L p_s_at = some r) :
    Calls Tryz.prog 4 [.pointer (some ⟨b_p_s, 0, none⟩)].toArray w (Ret w [b_p_s] fun τ v w' => (LEnt.blk b_p_s [v_p_s_L, .int .i64 r.2] 25).holds w' ∧ OwnV τ 52 8 v r.1.length (r.1.flatMap GRace.enc)) := by
 refine f_enter [b_p_s] [.blk b_p_s [v_p_s_L, .int .i64 p_s_at] 25] Tryz.func4 rfl Tryz.ntmps4 rfl (fun e he => by simp only [List.mem_singleton] at he; subst he; exact hb_b_p_s) (by simp [fps, LEnt.fp]) (by simp [fps, LEnt.fp]) fun a S => ?_
 unfold Stream_MeetRaces at h
 replace S := S.nk [.blk b_p_s [v_p_s_L, .int .i64 p_s_at] 25] [(0, .pointer (some ⟨b_p_s, 0, none⟩))] [true] rfl ⟨rfl, trivial⟩
 refine f_seq ?_
 refine f_region ?_
 refine lv S (rn_assign rfl) rfl ?_; clear S; intro a S
 refine l_done ?_
 replace S := S.nk [.blk b_p_s [v_p_s_L, .int .i64 p_s_at] 25] [(0, .pointer (some ⟨b_p_s, 0, none⟩))] [true] rfl ⟨rfl, trivial⟩
 refine then_n ?_
 refine f_seq ?_
 refine f_region ?_
 refine lv S (rn_assign rfl) rfl ?_; clear S; intro a S
 replace S := S.nil 52 8
 refine l_done ?_
 replace S := S.nk [.own (.slice none 0 0) 52 8 ([] : List GRace).length (([] : List GRace).flatMap GRace.enc), .blk b_p_s [v_p_s_L, .int .i64 p_s_at] 25] [(0, .pointer (some ⟨b_p_s, 0, none⟩)), (3, (.slice none 0 0))] [true, true] rfl ⟨rfl, rfl, trivial⟩
 refine then_n ?_
 refine f_seq ?_
 refine f_seq ?_
 refine f_region ?_
 refine l_buildSlice S Tryz.underlying49 Tryz.sizeOf9 Tryz.zeroValue9 rfl rfl (pv := [(0, .string k_ra), (1, .string k_rb), (2, .string k_rc)]) ⟨rfl, rfl, rfl, rfl, rfl, rfl, trivial⟩ (cs := [.string k_ra, .string k_rb, .string k_rc]) (by kernel_rfl) rfl ?_; clear S; intro a w1 b1 hz1 hk1 S
 refine lv S (rn_lenT sl_49 (S.tm rfl) ⟨_, _, rfl⟩) rfl ?_; clear S; intro a S
 refine lv S (rn_move rfl) rfl ?_; clear S; intro a S
 refine l_done ?_
 replace S := S.nk [.blk b1 [.string k_ra, .string k_rb, .string k_rc] 9, .own (.slice none 0 0) 52 8 ([] : List GRace).length (([] : List GRace).flatMap GRace.enc), .blk b_p_s [v_p_s_L, .int .i64 p_s_at] 25] [(0, .pointer (some ⟨b_p_s, 0, none⟩)), (3, (.slice none 0 0)), (6, .slice (some ⟨b1, 0, none⟩) 3 3), (7, .int .i64 (([k_ra, k_rb, k_rc] : List ByteArray).length : Int)), (8, .int .i64 0)] [true, true, true] rfl ⟨rfl, rfl, rfl, rfl, rfl, trivial⟩
 refine then_n ?_
 replace S := S.litOwn (i := 0) (xs := [k_ra, k_rb, k_rc]) rfl enc_str rfl rfl rfl
 replace S := S.nk [.own (.slice (some ⟨b1, 0, none⟩) 3 3) 9 1 ([k_ra, k_rb, k_rc] : List ByteArray).length (([k_ra, k_rb, k_rc] : List ByteArray).flatMap eStr), .own (.slice none 0 0) 52 8 ([] : List GRace).length (([] : List GRace).flatMap GRace.enc), .blk b_p_s [v_p_s_L, .int .i64 p_s_at] 25] [(0, .pointer (some ⟨b_p_s, 0, none⟩)), (3, (.slice none 0 0)), (6, (.slice (some ⟨b1, 0, none⟩) 3 3)), (7, .int .i64 (([k_ra, k_rb, k_rc] : List ByteArray).length : Int)), (8, .int .i64 0)] [] rfl ⟨rfl, rfl, rfl, rfl, rfl, trivial⟩
 obtain ⟨φ1, hl1, hs1, S⟩ := S.freezeT (xs := ([k_ra, k_rb, k_rc] : List ByteArray)) (enc := eStr) (i := 0) rfl (fun c hc hh => not_fps S (i := 2) rfl rfl (j := 0) rfl rfl (by simp at hc; subst hc; exact hh))
 replace S := S.nk [.own (.slice none 0 0) 52 8 ([] : List GRace).length (([] : List GRace).flatMap GRace.enc), .blk b_p_s [v_p_s_L, .int .i64 p_s_at] 25] [(0, .pointer (some ⟨b_p_s, 0, none⟩)), (3, (.slice none 0 0)), (6, (.slice (some ⟨b1, 0, none⟩) 3 3)), (7, .int .i64 (([k_ra, k_rb, k_rc] : List ByteArray).length : Int)), (8, .int .i64 0)] [] rfl ⟨rfl, rfl, rfl, rfl, rfl, trivial⟩
 obtain ⟨j1, hj1, h⟩ := joinE h
 refine f_join (fun a w' => ∃ x1 : List GRace, ∃ x2 : Int, ∃ v1 : Value, j1 x1 x2 = some r ∧ Sx w [b_p_s] φ1 [.own v1 52 8 x1.length (x1.flatMap GRace.enc), .blk b_p_s [v_p_s_L, .int .i64 x2] 25] [(3, v1)] 23 a w') ?_ ?_
 ·refine wp_block ?_
  refine f_loop (fun (ys1 : List ByteArray) a w' => ∃ i1 : Nat, ∃ x1 : List GRace, ∃ x2 : Int, ∃ v1 : Value, (∃ dn, ([k_ra, k_rb, k_rc] : List ByteArray) = dn ++ ys1 ∧ dn.length = i1) ∧ Stream_MeetRaces_l1 p_s_L j1 ys1 i1 x1 x2 = some r ∧ Sx w [b_p_s] φ1 [.own v1 52 8 x1.length (x1.flatMap GRace.enc), .blk b_p_s [v_p_s_L, .int .i64 x2] 25] [(0, .pointer (some ⟨b_p_s, 0, none⟩)), (3, v1), (6, (.slice (some ⟨b1, 0, none⟩) 3 3)), (7, .int .i64 (([k_ra, k_rb, k_rc] : List ByteArray).length : Int)), (8, .int .i64 (i1 : Int))] 23 a w') List.length ([k_ra, k_rb, k_rc] : List ByteArray) ⟨0, ([] : List GRace), p_s_at, (.slice none 0 0), ⟨[], rfl, rfl⟩, h, S.nf [true, true] rfl ⟨rfl, rfl, rfl, rfl, rfl, trivial⟩⟩ ?_
  clear S h; rintro ys1 a w2 ⟨i1, x1, x2, v1, ⟨dn, hd1, hi1⟩, h, S⟩
  cases ys1 with
  | nil =>
   rw [Stream_MeetRaces_l1.eq_1] at h
   refine f_seq ?_
   refine f_region ?_
   refine lv S (rn_lss (S.tm rfl) (S.tm rfl)) rfl ?_; clear S; intro a S
   refine l_done ?_
   replace S := S.nk [.own v1 52 8 x1.length (x1.flatMap GRace.enc), .blk b_p_s [v_p_s_L, .int .i64 x2] 25] [(0, .pointer (some ⟨b_p_s, 0, none⟩)), (3, v1), (6, (.slice (some ⟨b1, 0, none⟩) 3 3)), (7, .int .i64 (([k_ra, k_rb, k_rc] : List ByteArray).length : Int)), (8, .int .i64 (i1 : Int)), (9, .bool (decide ((i1 : Int) < (([k_ra, k_rb, k_rc] : List ByteArray).length : Int))))] [true, true] rfl ⟨rfl, rfl, rfl, rfl, rfl, rfl, trivial⟩
   refine then_n ?_
   refine f_seq ?_
   refine wp_cond_false ((S.tm rfl).trans (congrArg Value.bool (rng_nil hd1 hi1))) ?_
   refine wp_exit ?_
   refine then_x ?_
   refine then_x ?_
   refine x_same ?_
   refine then_n ?_
   exact ⟨x1, x2, v1, h, S.nf [true, true] rfl ⟨rfl, trivial⟩⟩
  | cons y1 ys1 =>
   rw [Stream_MeetRaces_l1.eq_2] at h
   refine f_seq ?_
   refine f_region ?_
   refine lv S (rn_lss (S.tm rfl) (S.tm rfl)) rfl ?_; clear S; intro a S
   refine l_done ?_
   replace S := S.nk [.own v1 52 8 x1.length (x1.flatMap GRace.enc), .blk b_p_s [v_p_s_L, .int .i64 x2] 25] [(0, .pointer (some ⟨b_p_s, 0, none⟩)), (3, v1), (6, (.slice (some ⟨b1, 0, none⟩) 3 3)), (7, .int .i64 (([k_ra, k_rb, k_rc] : List ByteArray).length : Int)), (8, .int .i64 (i1 : Int)), (9, .bool (decide ((i1 : Int) < (([k_ra, k_rb, k_rc] : List ByteArray).length : Int))))] [true, true] rfl ⟨rfl, rfl, rfl, rfl, rfl, rfl, trivial⟩
   refine then_n ?_
   refine f_seq ?_
   refine wp_cond_true ((S.tm rfl).trans (congrArg Value.bool (rng_cons hd1 hi1))) ?_
   refine wp_skip ?_
   refine then_n ?_
   refine f_seq ?_
   obtain ⟨j2, hj2, h⟩ := joinE h
   refine f_join (fun a w' => ∃ x3 : List GRace, ∃ x4 : Int, ∃ v2 : Value, j2 x3 x4 = some r ∧ Sx w [b_p_s] φ1 [.own v2 52 8 x3.length (x3.flatMap GRace.enc), .blk b_p_s [v_p_s_L, .int .i64 x4] 25] [(0, .pointer (some ⟨b_p_s, 0, none⟩)), (3, v2), (6, (.slice (some ⟨b1, 0, none⟩) 3 3)), (7, .int .i64 (([k_ra, k_rb, k_rc] : List ByteArray).length : Int)), (8, .int .i64 (i1 : Int))] 23 a w') ?_ ?_
   ·refine wp_block ?_
    refine f_seq ?_
    refine f_region ?_
    obtain ⟨b2, o1, hm1, hr1⟩ := rn_indexT (a := a) (x := .tmp 6) (y := .tmp 8) (ty := 0) sl_49 (ownV_slcT enc_str hs1) (get_mid hd1 hi1) rfl (S.tm rfl) (S.tm rfl)
    refine lv S (hr1 _) rfl ?_; clear S; intro a S
    clear hr1
    refine lv S (rn_ld Tryz.isAgg9 (off := o1) (o := 0) (S.tm rfl) (hm1.at S.emb) rfl) rfl ?_; clear S; intro a S
    refine lv S (rn_assign (S.tm rfl)) rfl ?_; clear S; intro a S
    refine l_done ?_
    replace S := S.nk [.own v1 52 8 x1.length (x1.flatMap GRace.enc), .blk b_p_s [v_p_s_L, .int .i64 x2] 25] [(0, .pointer (some ⟨b_p_s, 0, none⟩)), (3, v1), (5, .string y1), (6, (.slice (some ⟨b1, 0, none⟩) 3 3)), (7, .int .i64 (([k_ra, k_rb, k_rc] : List ByteArray).length : Int)), (8, .int .i64 (i1 : Int))] [true, true] rfl ⟨rfl, rfl, rfl, rfl, rfl, rfl, trivial⟩
    refine then_n ?_
    refine f_seq ?_
    refine f_region ?_
    refine lv S (rn_move (S.tm rfl)) rfl ?_; clear S; intro a S
    obtain ⟨r1, hr2, h⟩ := bindE h
    refine l_enter1 1 S (b := b_p_s) rfl rfl (fun _ => .blk b_p_s [v_p_s_L, .int .i64 r1.2] 25) (fun _ => run_call (vs := [.pointer (some ⟨b_p_s, 0, none⟩), .int .i64 6]) ⟨(S.tm rfl), rfl, trivial⟩ Tryz.call16) (Stream_Flip_ok _ b_p_s v_p_s_L p_s_L (hs_p_s_L.mono (S.le_arg (fp_sub (i := 1) (e := .blk b_p_s [v_p_s_L, .int .i64 x2] 25) rfl))) x2 (S.holds _ (List.mem_of_getElem? (i := 1) rfl)) 6 _ hr2) rfl (fun _ _ _ h => ⟨h.1, fun _ hc => by cases hc; rfl⟩) ?_; clear S; intro v3 a w5 hv1 hk2 hn1 S
    replace hv1 := hv1.2
    subst hv1
    refine lv S (rn_not (S.tm rfl)) rfl ?_; clear S; intro a S
    refine l_done ?_
    replace S := S.nk [.own v1 52 8 x1.length (x1.flatMap GRace.enc), .blk b_p_s [v_p_s_L, .int .i64 r1.2] 25] [(0, .pointer (some ⟨b_p_s, 0, none⟩)), (3, v1), (5, .string y1), (6, (.slice (some ⟨b1, 0, none⟩) 3 3)), (7, .int .i64 (([k_ra, k_rb, k_rc] : List ByteArray).length : Int)), (8, .int .i64 (i1 : Int)), (14, .bool (!r1.1))] [true, true] rfl ⟨rfl, rfl, rfl, rfl, rfl, rfl, rfl, trivial⟩
    refine then_n ?_
    obtain ⟨j3, hj3, h⟩ := joinE h
    refine f_join (fun a w' => ∃ x5 : List GRace, ∃ x6 : Int, ∃ v4 : Value, j3 x5 x6 = some r ∧ Sx w [b_p_s] φ1 [.own v4 52 8 x5.length (x5.flatMap GRace.enc), .blk b_p_s [v_p_s_L, .int .i64 x6] 25] [(0, .pointer (some ⟨b_p_s, 0, none⟩)), (3, v4), (6, (.slice (some ⟨b1, 0, none⟩) 3 3)), (7, .int .i64 (([k_ra, k_rb, k_rc] : List ByteArray).length : Int)), (8, .int .i64 (i1 : Int))] 23 a w') ?_ ?_
    ·refine f_cond (S.tm rfl) (fun hb1 => ?_) (fun hb1 => ?_)
     ·replace h := iteT h hb1
      refine f_region ?_
      refine lv S (rn_move (S.tm rfl)) rfl ?_; clear S; intro a S
      refine lv S (rn_move (S.tm rfl)) rfl ?_; clear S; intro a S
      refine lv S (rn_move (S.tm rfl)) rfl ?_; clear S; intro a S
      obtain ⟨r2, hr3, h⟩ := bindE h
      refine l_enter1 1 S (b := b_p_s) rfl rfl (fun _ => .blk b_p_s [v_p_s_L, .int .i64 r2.2] 25) (fun _ => run_call (vs := [.pointer (some ⟨b_p_s, 0, none⟩), .string y1]) ⟨(S.tm rfl), (S.tm rfl), trivial⟩ Tryz.call17) (Stream_MeetRace_ok _ b_p_s v_p_s_L p_s_L (hs_p_s_L.mono (S.le_arg (fp_sub (i := 1) (e := .blk b_p_s [v_p_s_L, .int .i64 r1.2] 25) rfl))) r1.2 (S.holds _ (List.mem_of_getElem? (i := 1) rfl)) y1 _ hr3) rfl (fun _ _ _ h => ⟨h.1, fun _ hc => by cases hc; rfl⟩) ?_; clear S; intro v5 a w7 hv2 hk3 hn2 S
      replace hv2 := hv2.2
      subst hv2
      refine l_buildSlice S Tryz.underlying26 Tryz.sizeOf52 Tryz.zeroValue52 rfl rfl (pv := [(0, .agg (GRace.enc r2.1).toArray)]) ⟨rfl, (S.tm rfl), trivial⟩ (cs := [.string r2.1.Key, .int .i64 r2.1.Metres, .int .i64 r2.1.Stroke, .int .i64 r2.1.Course, .int .i64 r2.1.Legs, .int .i64 r2.1.Sex, .int .i64 r2.1.Young, .int .i64 r2.1.Old]) (by kernel_rfl) rfl ?_; clear S; intro a w8 b3 hz2 hk4 S
      obtain ⟨hc1, h⟩ := chkE h
      refine l_appendT sl_26 GRace.enc_ok S (S.tm rfl) (i := 1) rfl (S.tm rfl) (j := 0) rfl (ys := [r2.1]) rfl rfl rfl rfl (by have := room_lt hc1; omega) rfl ?_; clear S; intro v6 a w9 hk5 S
      refine lv S (rn_assign (S.tm rfl)) rfl ?_; clear S; intro a S
      refine l_done ?_
      replace S := S.nk [.own v6 52 8 (x1 ++ [r2.1]).length ((x1 ++ [r2.1]).flatMap GRace.enc), .blk b_p_s [v_p_s_L, .int .i64 r2.2] 25] [(0, .pointer (some ⟨b_p_s, 0, none⟩)), (3, v6), (6, (.slice (some ⟨b1, 0, none⟩) 3 3)), (7, .int .i64 (([k_ra, k_rb, k_rc] : List ByteArray).length : Int)), (8, .int .i64 (i1 : Int))] [false, true, true] rfl ⟨rfl, rfl, rfl, rfl, rfl, trivial⟩
      refine then_n ?_
      exact ⟨(x1 ++ [r2.1]), r2.2, v6, h, S.nf [true, true] rfl ⟨rfl, rfl, rfl, rfl, rfl, trivial⟩⟩
     ·replace h := iteF h hb1
      refine wp_skip ?_
      refine then_n ?_
      exact ⟨x1, r1.2, v1, h, S.nf [true, true] rfl ⟨rfl, rfl, rfl, rfl, rfl, trivial⟩⟩
    clear S h; rintro a w6 ⟨x5, x6, v4, h, S⟩; rw [hj3] at h; clear hj3 j3
    refine blk_n ?_
    refine then_n ?_
    exact ⟨x5, x6, v4, h, S.nf [true, true] rfl ⟨rfl, rfl, rfl, rfl, rfl, trivial⟩⟩
   clear S h; rintro a w4 ⟨x3, x4, v2, h, S⟩; rw [hj2] at h; clear hj2 j2
   refine then_n ?_
   refine f_region ?_
   refine lv S (rn_add (S.tm rfl) rfl) rfl ?_; clear S; intro a S
   refine lv S (rn_move (S.tm rfl)) rfl ?_; clear S; intro a S
   refine l_done ?_
   replace S := S.nk [.own v2 52 8 x3.length (x3.flatMap GRace.enc), .blk b_p_s [v_p_s_L, .int .i64 x4] 25] [(0, .pointer (some ⟨b_p_s, 0, none⟩)), (3, v2), (6, (.slice (some ⟨b1, 0, none⟩) 3 3)), (7, .int .i64 (([k_ra, k_rb, k_rc] : List ByteArray).length : Int)), (8, .int .i64 (W ((i1 : Int) + 1)))] [true, true] rfl ⟨rfl, rfl, rfl, rfl, rfl, trivial⟩
   refine then_n ?_
   exact ⟨ys1, ⟨i1 + 1, x3, x4, v2, ⟨_, (hd1).trans (List.append_cons _ _ _), by simp [hi1]⟩, h, S.nf [true, true] rfl ⟨rfl, rfl, rfl, rfl, (congrArg (fun z => some (Value.int .i64 z)) (rng_next hd1 hi1 (slc_max (ownV_slcT enc_str hs1)))), trivial⟩⟩, Nat.lt_succ_self _⟩
 clear S h; rintro a w3 ⟨x1, x2, v1, h, S⟩; rw [hj1] at h; clear hj1 j1
 refine then_n ?_
 refine f_seq ?_
 refine f_region ?_
 refine lv S (rn_move (S.tm rfl)) rfl ?_; clear S; intro a S
 refine lv S (rn_assign (S.tm rfl)) rfl ?_; clear S; intro a S
 refine l_done ?_
 replace S := S.nk [.own v1 52 8 x1.length (x1.flatMap GRace.enc), .blk b_p_s [v_p_s_L, .int .i64 x2] 25] [(2, v1)] [true, true] rfl ⟨rfl, trivial⟩
 refine then_n ?_
 refine wp_ret ?_
 obtain rfl := Option.some.inj h
 exact f_ret S Tryz.results4 rfl ⟨(S.holds _ (List.mem_of_getElem? (i := 1) rfl)), (own_retX S (i := 0) rfl (fun c hc hh => not_fps S (i := 1) rfl rfl (j := 0) rfl rfl (by simp at hc; subst hc; exact hh)))⟩
theorem Stream_RightSwimmers_ok (w : World) (b_p_s : Nat) (v_p_s_L : Value) (p_s_L : List Int) (hs_p_s_L : Slc (view w [b_p_s]) 1 v_p_s_L (p_s_L.map eInt)) (p_s_at : Int) (hb_b_p_s : (LEnt.blk b_p_s [v_p_s_L, .int .i64 p_s_at] 25).holds w) (r : (List GSwimmer) × Int) (h : Stream_RightSwimmers p_s_L p_s_at = some r) :
    Calls Tryz.prog 5 [.pointer (some ⟨b_p_s, 0, none⟩)].toArray w (Ret w [b_p_s] fun τ v w' => (LEnt.blk b_p_s [v_p_s_L, .int .i64 r.2] 25).holds w' ∧ OwnV τ 56 3 v r.1.length (r.1.flatMap GSwimmer.enc)) := by
 refine f_enter [b_p_s] [.blk b_p_s [v_p_s_L, .int .i64 p_s_at] 25] Tryz.func5 rfl Tryz.ntmps5 rfl (fun e he => by simp only [List.mem_singleton] at he; subst he; exact hb_b_p_s) (by simp [fps, LEnt.fp]) (by simp [fps, LEnt.fp]) fun a S => ?_
 unfold Stream_RightSwimmers at h
 replace S := S.nk [.blk b_p_s [v_p_s_L, .int .i64 p_s_at] 25] [(0, .pointer (some ⟨b_p_s, 0, none⟩))] [true] rfl ⟨rfl, trivial⟩
 refine f_seq ?_
 refine f_region ?_
 refine lv S (rn_assign rfl) rfl ?_; clear S; intro a S
 refine l_done ?_
 replace S := S.nk [.blk b_p_s [v_p_s_L, .int .i64 p_s_at] 25] [(0, .pointer (some ⟨b_p_s, 0, none⟩))] [true] rfl ⟨rfl, trivial⟩
 refine then_n ?_
 refine f_seq ?_
 refine f_region ?_
 refine lv S (rn_assign rfl) rfl ?_; clear S; intro a S
 replace S := S.nil 56 3
 refine l_done ?_
 replace S := S.nk [.own (.slice none 0 0) 56 3 ([] : List GSwimmer).length (([] : List GSwimmer).flatMap GSwimmer.enc), .blk b_p_s [v_p_s_L, .int .i64 p_s_at] 25] [(0, .pointer (some ⟨b_p_s, 0, none⟩)), (3, (.slice none 0 0))] [true, true] rfl ⟨rfl, rfl, trivial⟩
 refine then_n ?_
 refine f_seq ?_
 refine f_seq ?_
 refine f_region ?_
 refine l_buildSlice S Tryz.underlying49 Tryz.sizeOf9 Tryz.zeroValue9 rfl rfl (pv := [(0, .string k_ann), (1, .string k_bea), (2, .string k_cid), (3, .string k_dan), (4, .string k_eve), (5, .string k_fox)]) ⟨rfl, rfl, rfl, rfl, rfl, rfl, rfl, rfl, rfl, rfl, rfl, rfl, trivial⟩ (cs := [.string k_ann, .string k_bea, .string k_cid, .string k_dan, .string k_eve, .string k_fox]) (by kernel_rfl) rfl ?_; clear S; intro a w1 b1 hz1 hk1 S
 refine lv S (rn_lenT sl_49 (S.tm rfl) ⟨_, _, rfl⟩) rfl ?_; clear S; intro a S
 refine lv S (rn_move rfl) rfl ?_; clear S; intro a S
 refine l_done ?_
 replace S := S.nk [.blk b1 [.string k_ann, .string k_bea, .string k_cid, .string k_dan, .string k_eve, .string k_fox] 9, .own (.slice none 0 0) 56 3 ([] : List GSwimmer).length (([] : List GSwimmer).flatMap GSwimmer.enc), .blk b_p_s [v_p_s_L, .int .i64 p_s_at] 25] [(0, .pointer (some ⟨b_p_s, 0, none⟩)), (3, (.slice none 0 0)), (6, .slice (some ⟨b1, 0, none⟩) 6 6), (7, .int .i64 (([k_ann, k_bea, k_cid, k_dan, k_eve, k_fox] : List ByteArray).length : Int)), (8, .int .i64 0)] [true, true, true] rfl ⟨rfl, rfl, rfl, rfl, rfl, trivial⟩
 refine then_n ?_
 replace S := S.litOwn (i := 0) (xs := [k_ann, k_bea, k_cid, k_dan, k_eve, k_fox]) rfl enc_str rfl rfl rfl
 replace S := S.nk [.own (.slice (some ⟨b1, 0, none⟩) 6 6) 9 1 ([k_ann, k_bea, k_cid, k_dan, k_eve, k_fox] : List ByteArray).length (([k_ann, k_bea, k_cid, k_dan, k_eve, k_fox] : List ByteArray).flatMap eStr), .own (.slice none 0 0) 56 3 ([] : List GSwimmer).length (([] : List GSwimmer).flatMap GSwimmer.enc), .blk b_p_s [v_p_s_L, .int .i64 p_s_at] 25] [(0, .pointer (some ⟨b_p_s, 0, none⟩)), (3, (.slice none 0 0)), (6, (.slice (some ⟨b1, 0, none⟩) 6 6)), (7, .int .i64 (([k_ann, k_bea, k_cid, k_dan, k_eve, k_fox] : List ByteArray).length : Int)), (8, .int .i64 0)] [] rfl ⟨rfl, rfl, rfl, rfl, rfl, trivial⟩
 obtain ⟨φ1, hl1, hs1, S⟩ := S.freezeT (xs := ([k_ann, k_bea, k_cid, k_dan, k_eve, k_fox] : List ByteArray)) (enc := eStr) (i := 0) rfl (fun c hc hh => not_fps S (i := 2) rfl rfl (j := 0) rfl rfl (by simp at hc; subst hc; exact hh))
 replace S := S.nk [.own (.slice none 0 0) 56 3 ([] : List GSwimmer).length (([] : List GSwimmer).flatMap GSwimmer.enc), .blk b_p_s [v_p_s_L, .int .i64 p_s_at] 25] [(0, .pointer (some ⟨b_p_s, 0, none⟩)), (3, (.slice none 0 0)), (6, (.slice (some ⟨b1, 0, none⟩) 6 6)), (7, .int .i64 (([k_ann, k_bea, k_cid, k_dan, k_eve, k_fox] : List ByteArray).length : Int)), (8, .int .i64 0)] [] rfl ⟨rfl, rfl, rfl, rfl, rfl, trivial⟩
 obtain ⟨j1, hj1, h⟩ := joinE h
 refine f_join (fun a w' => ∃ x1 : List GSwimmer, ∃ x2 : Int, ∃ v1 : Value, j1 x1 x2 = some r ∧ Sx w [b_p_s] φ1 [.own v1 56 3 x1.length (x1.flatMap GSwimmer.enc), .blk b_p_s [v_p_s_L, .int .i64 x2] 25] [(3, v1)] 27 a w') ?_ ?_
 ·refine wp_block ?_
  refine f_loop (fun (ys1 : List ByteArray) a w' => ∃ i1 : Nat, ∃ x1 : List GSwimmer, ∃ x2 : Int, ∃ v1 : Value, (∃ dn, ([k_ann, k_bea, k_cid, k_dan, k_eve, k_fox] : List ByteArray) = dn ++ ys1 ∧ dn.length = i1) ∧ Stream_RightSwimmers_l1 p_s_L j1 ys1 i1 x1 x2 = some r ∧ Sx w [b_p_s] φ1 [.own v1 56 3 x1.length (x1.flatMap GSwimmer.enc), .blk b_p_s [v_p_s_L, .int .i64 x2] 25] [(0, .pointer (some ⟨b_p_s, 0, none⟩)), (3, v1), (6, (.slice (some ⟨b1, 0, none⟩) 6 6)), (7, .int .i64 (([k_ann, k_bea, k_cid, k_dan, k_eve, k_fox] : List ByteArray).length : Int)), (8, .int .i64 (i1 : Int))] 27 a w') List.length ([k_ann, k_bea, k_cid, k_dan, k_eve, k_fox] : List ByteArray) ⟨0, ([] : List GSwimmer), p_s_at, (.slice none 0 0), ⟨[], rfl, rfl⟩, h, S.nf [true, true] rfl ⟨rfl, rfl, rfl, rfl, rfl, trivial⟩⟩ ?_
  clear S h; rintro ys1 a w2 ⟨i1, x1, x2, v1, ⟨dn, hd1, hi1⟩, h, S⟩
  cases ys1 with
  | nil =>
   rw [Stream_RightSwimmers_l1.eq_1] at h
   refine f_seq ?_
   refine f_region ?_
   refine lv S (rn_lss (S.tm rfl) (S.tm rfl)) rfl ?_; clear S; intro a S
   refine l_done ?_
   replace S := S.nk [.own v1 56 3 x1.length (x1.flatMap GSwimmer.enc), .blk b_p_s [v_p_s_L, .int .i64 x2] 25] [(0, .pointer (some ⟨b_p_s, 0, none⟩)), (3, v1), (6, (.slice (some ⟨b1, 0, none⟩) 6 6)), (7, .int .i64 (([k_ann, k_bea, k_cid, k_dan, k_eve, k_fox] : List ByteArray).length : Int)), (8, .int .i64 (i1 : Int)), (9, .bool (decide ((i1 : Int) < (([k_ann, k_bea, k_cid, k_dan, k_eve, k_fox] : List ByteArray).length : Int))))] [true, true] rfl ⟨rfl, rfl, rfl, rfl, rfl, rfl, trivial⟩
   refine then_n ?_
   refine f_seq ?_
   refine wp_cond_false ((S.tm rfl).trans (congrArg Value.bool (rng_nil hd1 hi1))) ?_
   refine wp_exit ?_
   refine then_x ?_
   refine then_x ?_
   refine x_same ?_
   refine then_n ?_
   exact ⟨x1, x2, v1, h, S.nf [true, true] rfl ⟨rfl, trivial⟩⟩
  | cons y1 ys1 =>
   rw [Stream_RightSwimmers_l1.eq_2] at h
   refine f_seq ?_
   refine f_region ?_
   refine lv S (rn_lss (S.tm rfl) (S.tm rfl)) rfl ?_; clear S; intro a S
   refine l_done ?_
   replace S := S.nk [.own v1 56 3 x1.length (x1.flatMap GSwimmer.enc), .blk b_p_s [v_p_s_L, .int .i64 x2] 25] [(0, .pointer (some ⟨b_p_s, 0, none⟩)), (3, v1), (6, (.slice (some ⟨b1, 0, none⟩) 6 6)), (7, .int .i64 (([k_ann, k_bea, k_cid, k_dan, k_eve, k_fox] : List ByteArray).length : Int)), (8, .int .i64 (i1 : Int)), (9, .bool (decide ((i1 : Int) < (([k_ann, k_bea, k_cid, k_dan, k_eve, k_fox] : List ByteArray).length : Int))))] [true, true] rfl ⟨rfl, rfl, rfl, rfl, rfl, rfl, trivial⟩
   refine then_n ?_
   refine f_seq ?_
   refine wp_cond_true ((S.tm rfl).trans (congrArg Value.bool (rng_cons hd1 hi1))) ?_
   refine wp_skip ?_
   refine then_n ?_
   refine f_seq ?_
   obtain ⟨j2, hj2, h⟩ := joinE h
   refine f_join (fun a w' => ∃ x3 : List GSwimmer, ∃ x4 : Int, ∃ v2 : Value, j2 x3 x4 = some r ∧ Sx w [b_p_s] φ1 [.own v2 56 3 x3.length (x3.flatMap GSwimmer.enc), .blk b_p_s [v_p_s_L, .int .i64 x4] 25] [(0, .pointer (some ⟨b_p_s, 0, none⟩)), (3, v2), (6, (.slice (some ⟨b1, 0, none⟩) 6 6)), (7, .int .i64 (([k_ann, k_bea, k_cid, k_dan, k_eve, k_fox] : List ByteArray).length : Int)), (8, .int .i64 (i1 : Int))] 27 a w') ?_ ?_
   ·refine wp_block ?_
    refine f_seq ?_
    refine f_region ?_
    obtain ⟨b2, o1, hm1, hr1⟩ := rn_indexT (a := a) (x := .tmp 6) (y := .tmp 8) (ty := 0) sl_49 (ownV_slcT enc_str hs1) (get_mid hd1 hi1) rfl (S.tm rfl) (S.tm rfl)
    refine lv S (hr1 _) rfl ?_; clear S; intro a S
    clear hr1
    refine lv S (rn_ld Tryz.isAgg9 (off := o1) (o := 0) (S.tm rfl) (hm1.at S.emb) rfl) rfl ?_; clear S; intro a S
    refine lv S (rn_assign (S.tm rfl)) rfl ?_; clear S; intro a S
    refine l_done ?_
    replace S := S.nk [.own v1 56 3 x1.length (x1.flatMap GSwimmer.enc), .blk b_p_s [v_p_s_L, .int .i64 x2] 25] [(0, .pointer (some ⟨b_p_s, 0, none⟩)), (3, v1), (5, .string y1), (6, (.slice (some ⟨b1, 0, none⟩) 6 6)), (7, .int .i64 (([k_ann, k_bea, k_cid, k_dan, k_eve, k_fox] : List ByteArray).length : Int)), (8, .int .i64 (i1 : Int))] [true, true] rfl ⟨rfl, rfl, rfl, rfl, rfl, rfl, trivial⟩
    refine then_n ?_
    refine f_seq ?_
    refine f_seq ?_
    refine f_region ?_
    refine lv S (rn_move (S.tm rfl)) rfl ?_; clear S; intro a S
    obtain ⟨r1, hr2, h⟩ := bindE h
    refine l_enter1 1 S (b := b_p_s) rfl rfl (fun _ => .blk b_p_s [v_p_s_L, .int .i64 r1.2] 25) (fun _ => run_call (vs := [.pointer (some ⟨b_p_s, 0, none⟩), .int .i64 8]) ⟨(S.tm rfl), rfl, trivial⟩ Tryz.call16) (Stream_Flip_ok _ b_p_s v_p_s_L p_s_L (hs_p_s_L.mono (S.le_arg (fp_sub (i := 1) (e := .blk b_p_s [v_p_s_L, .int .i64 x2] 25) rfl))) x2 (S.holds _ (List.mem_of_getElem? (i := 1) rfl)) 8 _ hr2) rfl (fun _ _ _ h => ⟨h.1, fun _ hc => by cases hc; rfl⟩) ?_; clear S; intro v3 a w5 hv1 hk2 hn1 S
    replace hv1 := hv1.2
    subst hv1
    refine l_done ?_
    replace S := S.nk [.own v1 56 3 x1.length (x1.flatMap GSwimmer.enc), .blk b_p_s [v_p_s_L, .int .i64 r1.2] 25] [(0, .pointer (some ⟨b_p_s, 0, none⟩)), (3, v1), (5, .string y1), (6, (.slice (some ⟨b1, 0, none⟩) 6 6)), (7, .int .i64 (([k_ann, k_bea, k_cid, k_dan, k_eve, k_fox] : List ByteArray).length : Int)), (8, .int .i64 (i1 : Int)), (13, .bool r1.1)] [true, true] rfl ⟨rfl, rfl, rfl, rfl, rfl, rfl, rfl, trivial⟩
    refine then_n ?_
    refine f_cond (S.tm rfl) (fun hb1 => ?_) (fun hb1 => ?_)
    ·replace h := iteT h hb1
     refine wp_exit ?_
     refine then_x ?_
     refine x_same ?_
     refine then_n ?_
     exact ⟨x1, r1.2, v1, h, S.nf [true, true] rfl ⟨rfl, rfl, rfl, rfl, rfl, trivial⟩⟩
    ·replace h := iteF h hb1
     refine wp_skip ?_
     refine then_n ?_
     refine f_region ?_
     refine lv S (rn_move (S.tm rfl)) rfl ?_; clear S; intro a S
     refine lv S (rn_move (S.tm rfl)) rfl ?_; clear S; intro a S
     refine lv S (rn_move (S.tm rfl)) rfl ?_; clear S; intro a S
     refine l_buildSlice S Tryz.underlying22 Tryz.sizeOf3 Tryz.zeroValue3 rfl rfl (pv := [(0, .int .i64 1), (1, .int .i64 2)]) ⟨rfl, rfl, rfl, rfl, trivial⟩ (cs := [.int .i64 1, .int .i64 2]) (by kernel_rfl) rfl ?_; clear S; intro a w6 b3 hz2 hk3 S
     obtain ⟨r2, hr3, h⟩ := bindE h
     refine l_enter1 2 S (b := b_p_s) rfl rfl (fun _ => .blk b_p_s [v_p_s_L, .int .i64 r2.2] 25) (fun _ => run_call (vs := [.pointer (some ⟨b_p_s, 0, none⟩), .slice (some ⟨b3, 0, none⟩) 2 2]) ⟨(S.tm rfl), (S.tm rfl), trivial⟩ Tryz.call18) (Stream_Pick_ok _ b_p_s v_p_s_L p_s_L (hs_p_s_L.mono (S.le_arg (fp_sub (i := 2) (e := .blk b_p_s [v_p_s_L, .int .i64 r1.2] 25) rfl))) r1.2 (S.holds _ (List.mem_of_getElem? (i := 2) rfl)) (.slice (some ⟨b3, 0, none⟩) 2 2) [1, 2] (lit_slcT enc_int S (i := 0) rfl rfl rfl rfl ((ne_fp (i := 2) (j := 0) (e := .blk b_p_s [v_p_s_L, .int .i64 r1.2] 25) (e' := .blk b3 [.int .i64 1, .int .i64 2] 3) S rfl rfl rfl) _ rfl)) _ hr3) rfl (fun _ _ _ h => ⟨h.1, fun _ hc => by cases hc; rfl⟩) ?_; clear S; intro v4 a w7 hv2 hk4 hn2 S
     replace hv2 := hv2.2
     subst hv2
     refine lv S (rn_move (S.tm rfl)) rfl ?_; clear S; intro a S
     refine l_buildSlice S Tryz.underlying22 Tryz.sizeOf3 Tryz.zeroValue3 rfl rfl (pv := [(0, .int .i64 59), (1, .int .i64 0), (2, .int .i64 (-1)), (3, .int .i64 (-307)), (4, .int .i64 (-3653)), (5, .int .i64 (-5000)), (6, .int .i64 365), (7, .int .i64 1520)]) ⟨rfl, rfl, rfl, rfl, rfl, rfl, rfl, rfl, rfl, rfl, rfl, rfl, rfl, rfl, rfl, rfl, trivial⟩ (cs := [.int .i64 59, .int .i64 0, .int .i64 (-1), .int .i64 (-307), .int .i64 (-3653), .int .i64 (-5000), .int .i64 365, .int .i64 1520]) (by kernel_rfl) rfl ?_; clear S; intro a w8 b4 hz3 hk5 S
     obtain ⟨r3, hr4, h⟩ := bindE h
     refine l_enter1 3 S (b := b_p_s) rfl rfl (fun _ => .blk b_p_s [v_p_s_L, .int .i64 r3.2] 25) (fun _ => run_call (vs := [.pointer (some ⟨b_p_s, 0, none⟩), .slice (some ⟨b4, 0, none⟩) 8 8]) ⟨(S.tm rfl), (S.tm rfl), trivial⟩ Tryz.call18) (Stream_Pick_ok _ b_p_s v_p_s_L p_s_L (hs_p_s_L.mono (S.le_arg (fp_sub (i := 3) (e := .blk b_p_s [v_p_s_L, .int .i64 r2.2] 25) rfl))) r2.2 (S.holds _ (List.mem_of_getElem? (i := 3) rfl)) (.slice (some ⟨b4, 0, none⟩) 8 8) [59, 0, (-1), (-307), (-3653), (-5000), 365, 1520] (lit_slcT enc_int S (i := 0) rfl rfl rfl rfl ((ne_fp (i := 3) (j := 0) (e := .blk b_p_s [v_p_s_L, .int .i64 r2.2] 25) (e' := .blk b4 [.int .i64 59, .int .i64 0, .int .i64 (-1), .int .i64 (-307), .int .i64 (-3653), .int .i64 (-5000), .int .i64 365, .int .i64 1520] 3) S rfl rfl rfl) _ rfl)) _ hr4) rfl (fun _ _ _ h => ⟨h.1, fun _ hc => by cases hc; rfl⟩) ?_; clear S; intro v5 a w9 hv3 hk6 hn3 S
     replace hv3 := hv3.2
     subst hv3
     refine lv S (rn_bld bt_56 (pv := [(0, .string y1), (1, .int .i64 r2.1), (2, .int .i64 r3.1)]) ⟨rfl, (S.tm rfl), rfl, (S.tm rfl), rfl, (S.tm rfl), trivial⟩ (cs := [.string y1, .int .i64 r2.1, .int .i64 r3.1]) (by kernel_rfl)) rfl ?_; clear S; intro a S
     refine l_buildSlice S Tryz.underlying28 Tryz.sizeOf56 Tryz.zeroValue56 rfl rfl (pv := [(0, .agg #[.string y1, .int .i64 r2.1, .int .i64 r3.1])]) ⟨rfl, (S.tm rfl), trivial⟩ (cs := [.string y1, .int .i64 r2.1, .int .i64 r3.1]) (by kernel_rfl) rfl ?_; clear S; intro a w10 b5 hz4 hk7 S
     obtain ⟨hc1, h⟩ := chkE h
     refine l_appendT sl_28 GSwimmer.enc_ok S (S.tm rfl) (i := 3) rfl (S.tm rfl) (j := 0) rfl (ys := [(GSwimmer.mk y1 r2.1 r3.1)]) rfl rfl rfl rfl (by have := room_lt hc1; omega) rfl ?_; clear S; intro v6 a w11 hk8 S
     refine lv S (rn_assign (S.tm rfl)) rfl ?_; clear S; intro a S
     refine l_done ?_
     replace S := S.nk [.own v6 56 3 (x1 ++ [(GSwimmer.mk y1 r2.1 r3.1)]).length ((x1 ++ [(GSwimmer.mk y1 r2.1 r3.1)]).flatMap GSwimmer.enc), .blk b_p_s [v_p_s_L, .int .i64 r3.2] 25] [(0, .pointer (some ⟨b_p_s, 0, none⟩)), (3, v6), (6, (.slice (some ⟨b1, 0, none⟩) 6 6)), (7, .int .i64 (([k_ann, k_bea, k_cid, k_dan, k_eve, k_fox] : List ByteArray).length : Int)), (8, .int .i64 (i1 : Int))] [false, false, false, true, true] rfl ⟨rfl, rfl, rfl, rfl, rfl, trivial⟩
     refine blk_n ?_
     refine then_n ?_
     exact ⟨(x1 ++ [(GSwimmer.mk y1 r2.1 r3.1)]), r3.2, v6, h, S.nf [true, true] rfl ⟨rfl, rfl, rfl, rfl, rfl, trivial⟩⟩
   clear S h; rintro a w4 ⟨x3, x4, v2, h, S⟩; rw [hj2] at h; clear hj2 j2
   refine then_n ?_
   refine f_region ?_
   refine lv S (rn_add (S.tm rfl) rfl) rfl ?_; clear S; intro a S
   refine lv S (rn_move (S.tm rfl)) rfl ?_; clear S; intro a S
   refine l_done ?_
   replace S := S.nk [.own v2 56 3 x3.length (x3.flatMap GSwimmer.enc), .blk b_p_s [v_p_s_L, .int .i64 x4] 25] [(0, .pointer (some ⟨b_p_s, 0, none⟩)), (3, v2), (6, (.slice (some ⟨b1, 0, none⟩) 6 6)), (7, .int .i64 (([k_ann, k_bea, k_cid, k_dan, k_eve, k_fox] : List ByteArray).length : Int)), (8, .int .i64 (W ((i1 : Int) + 1)))] [true, true] rfl ⟨rfl, rfl, rfl, rfl, rfl, trivial⟩
   refine then_n ?_
   exact ⟨ys1, ⟨i1 + 1, x3, x4, v2, ⟨_, (hd1).trans (List.append_cons _ _ _), by simp [hi1]⟩, h, S.nf [true, true] rfl ⟨rfl, rfl, rfl, rfl, (congrArg (fun z => some (Value.int .i64 z)) (rng_next hd1 hi1 (slc_max (ownV_slcT enc_str hs1)))), trivial⟩⟩, Nat.lt_succ_self _⟩
 clear S h; rintro a w3 ⟨x1, x2, v1, h, S⟩; rw [hj1] at h; clear hj1 j1
 refine then_n ?_
 refine f_seq ?_
 refine f_region ?_
 refine lv S (rn_move (S.tm rfl)) rfl ?_; clear S; intro a S
 refine lv S (rn_assign (S.tm rfl)) rfl ?_; clear S; intro a S
 refine l_done ?_
 replace S := S.nk [.own v1 56 3 x1.length (x1.flatMap GSwimmer.enc), .blk b_p_s [v_p_s_L, .int .i64 x2] 25] [(2, v1)] [true, true] rfl ⟨rfl, trivial⟩
 refine then_n ?_
 refine wp_ret ?_
 obtain rfl := Option.some.inj h
 exact f_ret S Tryz.results5 rfl ⟨(S.holds _ (List.mem_of_getElem? (i := 1) rfl)), (own_retX S (i := 0) rfl (fun c hc hh => not_fps S (i := 1) rfl rfl (j := 0) rfl rfl (by simp at hc; subst hc; exact hh)))⟩
theorem Stream_OneClub_ok (w : World) (b_p_s : Nat) (v_p_s_L : Value) (p_s_L : List Int) (hs_p_s_L : Slc (view w []) 1 v_p_s_L (p_s_L.map eInt)) (p_s_at : Int) (hb_b_p_s : view w [] b_p_s = some (.cells [v_p_s_L, .int .i64 p_s_at].toArray 25 (0, 0))) (r : (List GMove)) (h : Stream_OneClub p_s_L p_s_at = some r) :
    Calls Tryz.prog 6 [.pointer (some ⟨b_p_s, 0, none⟩)].toArray w (Ret w [] fun τ v _ => OwnV τ 58 3 v r.length (r.flatMap GMove.enc)) := by
 refine f_enter [] [] Tryz.func6 rfl Tryz.ntmps6 rfl (by simp) (by simp [fps]) (by simp [fps]) fun a S => ?_
 unfold Stream_OneClub at h
 replace S := S.nk [] [] [] rfl trivial
 refine f_seq ?_
 refine f_region ?_
 refine lv S (rn_assign rfl) rfl ?_; clear S; intro a S
 refine l_done ?_
 replace S := S.nk [] [] [] rfl trivial
 refine then_n ?_
 refine f_seq ?_
 refine f_region ?_
 refine lv S (rn_assign rfl) rfl ?_; clear S; intro a S
 replace S := S.nil 58 3
 refine l_done ?_
 replace S := S.nk [.own (.slice none 0 0) 58 3 ([] : List GMove).length (([] : List GMove).flatMap GMove.enc)] [(3, (.slice none 0 0))] [true] rfl ⟨rfl, trivial⟩
 refine then_n ?_
 refine f_seq ?_
 refine f_seq ?_
 refine f_region ?_
 refine l_buildSlice S Tryz.underlying49 Tryz.sizeOf9 Tryz.zeroValue9 rfl rfl (pv := [(0, .string k_ann), (1, .string k_bea), (2, .string k_cid), (3, .string k_dan), (4, .string k_eve), (5, .string k_fox)]) ⟨rfl, rfl, rfl, rfl, rfl, rfl, rfl, rfl, rfl, rfl, rfl, rfl, trivial⟩ (cs := [.string k_ann, .string k_bea, .string k_cid, .string k_dan, .string k_eve, .string k_fox]) (by kernel_rfl) rfl ?_; clear S; intro a w1 b1 hz1 hk1 S
 refine lv S (rn_lenT sl_49 (S.tm rfl) ⟨_, _, rfl⟩) rfl ?_; clear S; intro a S
 refine lv S (rn_move rfl) rfl ?_; clear S; intro a S
 refine l_done ?_
 replace S := S.nk [.blk b1 [.string k_ann, .string k_bea, .string k_cid, .string k_dan, .string k_eve, .string k_fox] 9, .own (.slice none 0 0) 58 3 ([] : List GMove).length (([] : List GMove).flatMap GMove.enc)] [(3, (.slice none 0 0)), (6, .slice (some ⟨b1, 0, none⟩) 6 6), (7, .int .i64 (([k_ann, k_bea, k_cid, k_dan, k_eve, k_fox] : List ByteArray).length : Int)), (8, .int .i64 0)] [true, true] rfl ⟨rfl, rfl, rfl, rfl, trivial⟩
 refine then_n ?_
 replace S := S.litOwn (i := 0) (xs := [k_ann, k_bea, k_cid, k_dan, k_eve, k_fox]) rfl enc_str rfl rfl rfl
 replace S := S.nk [.own (.slice (some ⟨b1, 0, none⟩) 6 6) 9 1 ([k_ann, k_bea, k_cid, k_dan, k_eve, k_fox] : List ByteArray).length (([k_ann, k_bea, k_cid, k_dan, k_eve, k_fox] : List ByteArray).flatMap eStr), .own (.slice none 0 0) 58 3 ([] : List GMove).length (([] : List GMove).flatMap GMove.enc)] [(3, (.slice none 0 0)), (6, (.slice (some ⟨b1, 0, none⟩) 6 6)), (7, .int .i64 (([k_ann, k_bea, k_cid, k_dan, k_eve, k_fox] : List ByteArray).length : Int)), (8, .int .i64 0)] [] rfl ⟨rfl, rfl, rfl, rfl, trivial⟩
 obtain ⟨φ1, hl1, hs1, S⟩ := S.freezeT (xs := ([k_ann, k_bea, k_cid, k_dan, k_eve, k_fox] : List ByteArray)) (enc := eStr) (i := 0) rfl (fun _ h => by cases h)
 replace S := S.nk [.own (.slice none 0 0) 58 3 ([] : List GMove).length (([] : List GMove).flatMap GMove.enc)] [(3, (.slice none 0 0)), (6, (.slice (some ⟨b1, 0, none⟩) 6 6)), (7, .int .i64 (([k_ann, k_bea, k_cid, k_dan, k_eve, k_fox] : List ByteArray).length : Int)), (8, .int .i64 0)] [] rfl ⟨rfl, rfl, rfl, rfl, trivial⟩
 obtain ⟨j1, hj1, h⟩ := joinE h
 refine f_join (fun a w' => ∃ x1 : List GMove, ∃ v1 : Value, j1 x1 = some r ∧ Sx w [] φ1 [.own v1 58 3 x1.length (x1.flatMap GMove.enc)] [(3, v1)] 19 a w') ?_ ?_
 ·refine wp_block ?_
  refine f_loop (fun (ys1 : List ByteArray) a w' => ∃ i1 : Nat, ∃ x1 : List GMove, ∃ v1 : Value, (∃ dn, ([k_ann, k_bea, k_cid, k_dan, k_eve, k_fox] : List ByteArray) = dn ++ ys1 ∧ dn.length = i1) ∧ Stream_OneClub_l1 j1 ys1 i1 x1 = some r ∧ Sx w [] φ1 [.own v1 58 3 x1.length (x1.flatMap GMove.enc)] [(3, v1), (6, (.slice (some ⟨b1, 0, none⟩) 6 6)), (7, .int .i64 (([k_ann, k_bea, k_cid, k_dan, k_eve, k_fox] : List ByteArray).length : Int)), (8, .int .i64 (i1 : Int))] 19 a w') List.length ([k_ann, k_bea, k_cid, k_dan, k_eve, k_fox] : List ByteArray) ⟨0, ([] : List GMove), (.slice none 0 0), ⟨[], rfl, rfl⟩, h, S.nf [true] rfl ⟨rfl, rfl, rfl, rfl, trivial⟩⟩ ?_
  clear S h; rintro ys1 a w2 ⟨i1, x1, v1, ⟨dn, hd1, hi1⟩, h, S⟩
  cases ys1 with
  | nil =>
   rw [Stream_OneClub_l1.eq_1] at h
   refine f_seq ?_
   refine f_region ?_
   refine lv S (rn_lss (S.tm rfl) (S.tm rfl)) rfl ?_; clear S; intro a S
   refine l_done ?_
   replace S := S.nk [.own v1 58 3 x1.length (x1.flatMap GMove.enc)] [(3, v1), (6, (.slice (some ⟨b1, 0, none⟩) 6 6)), (7, .int .i64 (([k_ann, k_bea, k_cid, k_dan, k_eve, k_fox] : List ByteArray).length : Int)), (8, .int .i64 (i1 : Int)), (9, .bool (decide ((i1 : Int) < (([k_ann, k_bea, k_cid, k_dan, k_eve, k_fox] : List ByteArray).length : Int))))] [true] rfl ⟨rfl, rfl, rfl, rfl, rfl, trivial⟩
   refine then_n ?_
   refine f_seq ?_
   refine wp_cond_false ((S.tm rfl).trans (congrArg Value.bool (rng_nil hd1 hi1))) ?_
   refine wp_exit ?_
   refine then_x ?_
   refine then_x ?_
   refine x_same ?_
   refine then_n ?_
   exact ⟨x1, v1, h, S.nf [true] rfl ⟨rfl, trivial⟩⟩
  | cons y1 ys1 =>
   rw [Stream_OneClub_l1.eq_2] at h
   refine f_seq ?_
   refine f_region ?_
   refine lv S (rn_lss (S.tm rfl) (S.tm rfl)) rfl ?_; clear S; intro a S
   refine l_done ?_
   replace S := S.nk [.own v1 58 3 x1.length (x1.flatMap GMove.enc)] [(3, v1), (6, (.slice (some ⟨b1, 0, none⟩) 6 6)), (7, .int .i64 (([k_ann, k_bea, k_cid, k_dan, k_eve, k_fox] : List ByteArray).length : Int)), (8, .int .i64 (i1 : Int)), (9, .bool (decide ((i1 : Int) < (([k_ann, k_bea, k_cid, k_dan, k_eve, k_fox] : List ByteArray).length : Int))))] [true] rfl ⟨rfl, rfl, rfl, rfl, rfl, trivial⟩
   refine then_n ?_
   refine f_seq ?_
   refine wp_cond_true ((S.tm rfl).trans (congrArg Value.bool (rng_cons hd1 hi1))) ?_
   refine wp_skip ?_
   refine then_n ?_
   refine f_seq ?_
   refine wp_block ?_
   refine f_seq ?_
   refine f_region ?_
   obtain ⟨b2, o1, hm1, hr1⟩ := rn_indexT (a := a) (x := .tmp 6) (y := .tmp 8) (ty := 0) sl_49 (ownV_slcT enc_str hs1) (get_mid hd1 hi1) rfl (S.tm rfl) (S.tm rfl)
   refine lv S (hr1 _) rfl ?_; clear S; intro a S
   clear hr1
   refine lv S (rn_ld Tryz.isAgg9 (off := o1) (o := 0) (S.tm rfl) (hm1.at S.emb) rfl) rfl ?_; clear S; intro a S
   refine lv S (rn_assign (S.tm rfl)) rfl ?_; clear S; intro a S
   refine l_done ?_
   replace S := S.nk [.own v1 58 3 x1.length (x1.flatMap GMove.enc)] [(3, v1), (5, .string y1), (6, (.slice (some ⟨b1, 0, none⟩) 6 6)), (7, .int .i64 (([k_ann, k_bea, k_cid, k_dan, k_eve, k_fox] : List ByteArray).length : Int)), (8, .int .i64 (i1 : Int))] [true] rfl ⟨rfl, rfl, rfl, rfl, rfl, trivial⟩
   refine then_n ?_
   refine f_region ?_
   refine lv S (rn_move (S.tm rfl)) rfl ?_; clear S; intro a S
   refine lv S (rn_move (S.tm rfl)) rfl ?_; clear S; intro a S
   refine lv S (rn_bld bt_58 (pv := [(0, .string y1), (1, .string k_blue)]) ⟨rfl, (S.tm rfl), rfl, rfl, trivial⟩ (cs := [.string y1, .string k_blue, .int .i64 0]) (by kernel_rfl)) rfl ?_; clear S; intro a S
   refine l_buildSlice S Tryz.underlying30 Tryz.sizeOf58 Tryz.zeroValue58 rfl rfl (pv := [(0, .agg #[.string y1, .string k_blue, .int .i64 0])]) ⟨rfl, (S.tm rfl), trivial⟩ (cs := [.string y1, .string k_blue, .int .i64 0]) (by kernel_rfl) rfl ?_; clear S; intro a w4 b3 hz2 hk2 S
   obtain ⟨hc1, h⟩ := chkE h
   refine l_appendT sl_30 GMove.enc_ok S (S.tm rfl) (i := 1) rfl (S.tm rfl) (j := 0) rfl (ys := [(GMove.mk y1 k_blue 0)]) rfl rfl rfl rfl (by have := room_lt hc1; omega) rfl ?_; clear S; intro v2 a w5 hk3 S
   refine lv S (rn_assign (S.tm rfl)) rfl ?_; clear S; intro a S
   refine l_done ?_
   replace S := S.nk [.own v2 58 3 (x1 ++ [(GMove.mk y1 k_blue 0)]).length ((x1 ++ [(GMove.mk y1 k_blue 0)]).flatMap GMove.enc)] [(3, v2), (6, (.slice (some ⟨b1, 0, none⟩) 6 6)), (7, .int .i64 (([k_ann, k_bea, k_cid, k_dan, k_eve, k_fox] : List ByteArray).length : Int)), (8, .int .i64 (i1 : Int))] [false, true] rfl ⟨rfl, rfl, rfl, rfl, trivial⟩
   refine blk_n ?_
   refine then_n ?_
   refine f_region ?_
   refine lv S (rn_add (S.tm rfl) rfl) rfl ?_; clear S; intro a S
   refine lv S (rn_move (S.tm rfl)) rfl ?_; clear S; intro a S
   refine l_done ?_
   replace S := S.nk [.own v2 58 3 (x1 ++ [(GMove.mk y1 k_blue 0)]).length ((x1 ++ [(GMove.mk y1 k_blue 0)]).flatMap GMove.enc)] [(3, v2), (6, (.slice (some ⟨b1, 0, none⟩) 6 6)), (7, .int .i64 (([k_ann, k_bea, k_cid, k_dan, k_eve, k_fox] : List ByteArray).length : Int)), (8, .int .i64 (W ((i1 : Int) + 1)))] [true] rfl ⟨rfl, rfl, rfl, rfl, trivial⟩
   refine then_n ?_
   exact ⟨ys1, ⟨i1 + 1, (x1 ++ [(GMove.mk y1 k_blue 0)]), v2, ⟨_, (hd1).trans (List.append_cons _ _ _), by simp [hi1]⟩, h, S.nf [true] rfl ⟨rfl, rfl, rfl, (congrArg (fun z => some (Value.int .i64 z)) (rng_next hd1 hi1 (slc_max (ownV_slcT enc_str hs1)))), trivial⟩⟩, Nat.lt_succ_self _⟩
 clear S h; rintro a w3 ⟨x1, v1, h, S⟩; rw [hj1] at h; clear hj1 j1
 refine then_n ?_
 refine f_seq ?_
 refine f_region ?_
 refine lv S (rn_move (S.tm rfl)) rfl ?_; clear S; intro a S
 refine lv S (rn_assign (S.tm rfl)) rfl ?_; clear S; intro a S
 refine l_done ?_
 replace S := S.nk [.own v1 58 3 x1.length (x1.flatMap GMove.enc)] [(2, v1)] [true] rfl ⟨rfl, trivial⟩
 refine then_n ?_
 refine wp_ret ?_
 obtain rfl := Option.some.inj h
 exact f_ret S Tryz.results6 rfl (own_retT S (i := 0) rfl rfl)
theorem Stream_Range_ok (w : World) (b_p_s : Nat) (v_p_s_L : Value) (p_s_L : List Int) (hs_p_s_L : Slc (view w [b_p_s]) 1 v_p_s_L (p_s_L.map eInt)) (p_s_at : Int) (hb_b_p_s : (LEnt.blk b_p_s [v_p_s_L, .int .i64 p_s_at] 25).holds w) (p_low : Int) (p_high : Int) (r : Int × Int) (h : Stream_Range p_s_L p_s_at p_low p_high = some r) :
    Calls Tryz.prog 9 [.pointer (some ⟨b_p_s, 0, none⟩), .int .i64 p_low, .int .i64 p_high].toArray w (Ret w [b_p_s] fun _ v w' => (LEnt.blk b_p_s [v_p_s_L, .int .i64 r.2] 25).holds w' ∧ v = .int .i64 r.1) := by
 refine f_enter [b_p_s] [.blk b_p_s [v_p_s_L, .int .i64 p_s_at] 25] Tryz.func9 rfl Tryz.ntmps9 rfl (fun e he => by simp only [List.mem_singleton] at he; subst he; exact hb_b_p_s) (by simp [fps, LEnt.fp]) (by simp [fps, LEnt.fp]) fun a S => ?_
 unfold Stream_Range at h
 replace S := S.nk [.blk b_p_s [v_p_s_L, .int .i64 p_s_at] 25] [(0, .pointer (some ⟨b_p_s, 0, none⟩)), (1, .int .i64 p_low), (2, .int .i64 p_high)] [true] rfl ⟨rfl, rfl, rfl, trivial⟩
 refine f_seq ?_
 refine f_region ?_
 refine lv S (rn_assign rfl) rfl ?_; clear S; intro a S
 refine l_done ?_
 replace S := S.nk [.blk b_p_s [v_p_s_L, .int .i64 p_s_at] 25] [(0, .pointer (some ⟨b_p_s, 0, none⟩)), (1, .int .i64 p_low), (2, .int .i64 p_high)] [true] rfl ⟨rfl, rfl, rfl, trivial⟩
 refine then_n ?_
 refine f_seq ?_
 refine f_seq ?_
 refine f_region ?_
 refine lv S (rn_move (S.tm rfl)) rfl ?_; clear S; intro a S
 refine lv S (rn_move (S.tm rfl)) rfl ?_; clear S; intro a S
 refine lv S (rn_lss (S.tm rfl) (S.tm rfl)) rfl ?_; clear S; intro a S
 refine l_done ?_
 replace S := S.nk [.blk b_p_s [v_p_s_L, .int .i64 p_s_at] 25] [(0, .pointer (some ⟨b_p_s, 0, none⟩)), (1, .int .i64 p_low), (2, .int .i64 p_high), (9, .bool (decide (p_high < p_low)))] [true] rfl ⟨rfl, rfl, rfl, rfl, trivial⟩
 refine then_n ?_
 refine f_cond (S.tm rfl) (fun hb1 => ?_) (fun hb1 => ?_)
 ·replace h := iteT h hb1
  refine f_seq ?_
  refine f_region ?_
  refine lv S (rn_move (S.tm rfl)) rfl ?_; clear S; intro a S
  refine lv S (rn_assign (S.tm rfl)) rfl ?_; clear S; intro a S
  refine l_done ?_
  replace S := S.nk [.blk b_p_s [v_p_s_L, .int .i64 p_s_at] 25] [(6, .int .i64 p_low)] [true] rfl ⟨rfl, trivial⟩
  refine then_n ?_
  refine wp_ret ?_
  refine then_r ?_
  obtain rfl := Option.some.inj h
  exact f_ret S Tryz.results9 rfl ⟨(S.holds _ (List.mem_of_getElem? (i := 0) rfl)), rfl⟩
 ·replace h := iteF h hb1
  refine wp_skip ?_
  refine then_n ?_
  refine f_seq ?_
  refine f_region ?_
  refine lv S (rn_move (S.tm rfl)) rfl ?_; clear S; intro a S
  refine lv S (rn_move (S.tm rfl)) rfl ?_; clear S; intro a S
  refine lv S (rn_move (S.tm rfl)) rfl ?_; clear S; intro a S
  refine lv S (rn_move (S.tm rfl)) rfl ?_; clear S; intro a S
  refine lv S (rn_sub (S.tm rfl) (S.tm rfl)) rfl ?_; clear S; intro a S
  refine lv S (rn_add (S.tm rfl) rfl) rfl ?_; clear S; intro a S
  obtain ⟨r1, hr1, h⟩ := bindE h
  refine l_enter1 0 S (b := b_p_s) rfl rfl (fun _ => .blk b_p_s [v_p_s_L, .int .i64 r1.2] 25) (fun _ => run_call (vs := [.pointer (some ⟨b_p_s, 0, none⟩), .int .i64 (W ((W (p_high - p_low)) + 1))]) ⟨(S.tm rfl), (S.tm rfl), trivial⟩ Tryz.call22) (Stream_Next_ok _ b_p_s v_p_s_L p_s_L (hs_p_s_L.mono (S.le_arg (fp_sub (i := 0) (e := .blk b_p_s [v_p_s_L, .int .i64 p_s_at] 25) rfl))) p_s_at (S.holds _ (List.mem_of_getElem? (i := 0) rfl)) (W ((W (p_high - p_low)) + 1)) _ hr1) rfl (fun _ _ _ h => ⟨h.1, fun _ hc => by cases hc; rfl⟩) ?_; clear S; intro v1 a w1 hv1 hk1 hn1 S
  replace hv1 := hv1.2
  subst hv1
  refine lv S (rn_add (S.tm rfl) (S.tm rfl)) rfl ?_; clear S; intro a S
  refine lv S (rn_assign (S.tm rfl)) rfl ?_; clear S; intro a S
  refine l_done ?_
  replace S := S.nk [.blk b_p_s [v_p_s_L, .int .i64 r1.2] 25] [(6, .int .i64 (W (p_low + r1.1)))] [true] rfl ⟨rfl, trivial⟩
  refine then_n ?_
  refine wp_ret ?_
  obtain rfl := Option.some.inj h
  exact f_ret S Tryz.results9 rfl ⟨(S.holds _ (List.mem_of_getElem? (i := 0) rfl)), rfl⟩
theorem Stream_Odd_ok (w : World) (b_p_s : Nat) (v_p_s_L : Value) (p_s_L : List Int) (hs_p_s_L : Slc (view w [b_p_s]) 1 v_p_s_L (p_s_L.map eInt)) (p_s_at : Int) (hb_b_p_s : (LEnt.blk b_p_s [v_p_s_L, .int .i64 p_s_at] 25).holds w) (p_low : Int) (p_high : Int) (r : Int × Int) (h : Stream_Odd p_s_L p_s_at p_low p_high = some r) :
    Calls Tryz.prog 19 [.pointer (some ⟨b_p_s, 0, none⟩), .int .i64 p_low, .int .i64 p_high].toArray w (Ret w [b_p_s] fun _ v w' => (LEnt.blk b_p_s [v_p_s_L, .int .i64 r.2] 25).holds w' ∧ v = .int .i64 r.1) := by
 refine f_enter [b_p_s] [.blk b_p_s [v_p_s_L, .int .i64 p_s_at] 25] Tryz.func19 rfl Tryz.ntmps19 rfl (fun e he => by simp only [List.mem_singleton] at he; subst he; exact hb_b_p_s) (by simp [fps, LEnt.fp]) (by simp [fps, LEnt.fp]) fun a S => ?_
 unfold Stream_Odd at h
 replace S := S.nk [.blk b_p_s [v_p_s_L, .int .i64 p_s_at] 25] [(0, .pointer (some ⟨b_p_s, 0, none⟩)), (1, .int .i64 p_low), (2, .int .i64 p_high)] [true] rfl ⟨rfl, rfl, rfl, trivial⟩
 refine f_seq ?_
 refine f_region ?_
 refine lv S (rn_assign rfl) rfl ?_; clear S; intro a S
 refine l_done ?_
 replace S := S.nk [.blk b_p_s [v_p_s_L, .int .i64 p_s_at] 25] [(0, .pointer (some ⟨b_p_s, 0, none⟩)), (1, .int .i64 p_low), (2, .int .i64 p_high)] [true] rfl ⟨rfl, rfl, rfl, trivial⟩
 refine then_n ?_
 refine f_seq ?_
 refine f_seq ?_
 refine f_region ?_
 refine lv S (rn_move (S.tm rfl)) rfl ?_; clear S; intro a S
 obtain ⟨r1, hr1, h⟩ := bindE h
 refine l_enter1 0 S (b := b_p_s) rfl rfl (fun _ => .blk b_p_s [v_p_s_L, .int .i64 r1.2] 25) (fun _ => run_call (vs := [.pointer (some ⟨b_p_s, 0, none⟩), .int .i64 12]) ⟨(S.tm rfl), rfl, trivial⟩ Tryz.call16) (Stream_Flip_ok _ b_p_s v_p_s_L p_s_L (hs_p_s_L.mono (S.le_arg (fp_sub (i := 0) (e := .blk b_p_s [v_p_s_L, .int .i64 p_s_at] 25) rfl))) p_s_at (S.holds _ (List.mem_of_getElem? (i := 0) rfl)) 12 _ hr1) rfl (fun _ _ _ h => ⟨h.1, fun _ hc => by cases hc; rfl⟩) ?_; clear S; intro v1 a w1 hv1 hk1 hn1 S
 replace hv1 := hv1.2
 subst hv1
 refine l_done ?_
 replace S := S.nk [.blk b_p_s [v_p_s_L, .int .i64 r1.2] 25] [(0, .pointer (some ⟨b_p_s, 0, none⟩)), (1, .int .i64 p_low), (2, .int .i64 p_high), (8, .bool r1.1)] [true] rfl ⟨rfl, rfl, rfl, rfl, trivial⟩
 refine then_n ?_
 refine f_cond (S.tm rfl) (fun hb1 => ?_) (fun hb1 => ?_)
 ·replace h := iteT h hb1
  refine f_seq ?_
  refine f_region ?_
  refine lv S (rn_move (S.tm rfl)) rfl ?_; clear S; intro a S
  refine lv S (rn_move (S.tm rfl)) rfl ?_; clear S; intro a S
  refine lv S (rn_sub (S.tm rfl) rfl) rfl ?_; clear S; intro a S
  refine lv S (rn_move (S.tm rfl)) rfl ?_; clear S; intro a S
  refine lv S (rn_add (S.tm rfl) rfl) rfl ?_; clear S; intro a S
  refine lv S (rn_move (S.tm rfl)) rfl ?_; clear S; intro a S
  refine lv S (rn_move (S.tm rfl)) rfl ?_; clear S; intro a S
  refine l_buildSlice S Tryz.underlying22 Tryz.sizeOf3 Tryz.zeroValue3 rfl rfl (pv := [(0, .int .i64 (W (p_low - 1))), (1, .int .i64 (W (p_high + 1))), (2, .int .i64 p_low), (3, .int .i64 p_high), (4, .int .i64 (-1099511627776)), (5, .int .i64 1099511627776)]) ⟨rfl, (S.tm rfl), rfl, (S.tm rfl), rfl, (S.tm rfl), rfl, (S.tm rfl), rfl, rfl, rfl, rfl, trivial⟩ (cs := [.int .i64 (W (p_low - 1)), .int .i64 (W (p_high + 1)), .int .i64 p_low, .int .i64 p_high, .int .i64 (-1099511627776), .int .i64 1099511627776]) (by kernel_rfl) rfl ?_; clear S; intro a w2 b1 hz1 hk2 S
  obtain ⟨r2, hr2, h⟩ := bindE h
  refine l_enter1 1 S (b := b_p_s) rfl rfl (fun _ => .blk b_p_s [v_p_s_L, .int .i64 r2.2] 25) (fun _ => run_call (vs := [.pointer (some ⟨b_p_s, 0, none⟩), .slice (some ⟨b1, 0, none⟩) 6 6]) ⟨(S.tm rfl), (S.tm rfl), trivial⟩ Tryz.call18) (Stream_Pick_ok _ b_p_s v_p_s_L p_s_L (hs_p_s_L.mono (S.le_arg (fp_sub (i := 1) (e := .blk b_p_s [v_p_s_L, .int .i64 r1.2] 25) rfl))) r1.2 (S.holds _ (List.mem_of_getElem? (i := 1) rfl)) (.slice (some ⟨b1, 0, none⟩) 6 6) [W (p_low - 1), W (p_high + 1), p_low, p_high, (-1099511627776), 1099511627776] (lit_slcT enc_int S (i := 0) rfl rfl rfl rfl ((ne_fp (i := 1) (j := 0) (e := .blk b_p_s [v_p_s_L, .int .i64 r1.2] 25) (e' := .blk b1 [.int .i64 (W (p_low - 1)), .int .i64 (W (p_high + 1)), .int .i64 p_low, .int .i64 p_high, .int .i64 (-1099511627776), .int .i64 1099511627776] 3) S rfl rfl rfl) _ rfl)) _ hr2) rfl (fun _ _ _ h => ⟨h.1, fun _ hc => by cases hc; rfl⟩) ?_; clear S; intro v2 a w3 hv2 hk3 hn2 S
  replace hv2 := hv2.2
  subst hv2
  refine lv S (rn_assign (S.tm rfl)) rfl ?_; clear S; intro a S
  refine l_done ?_
  replace S := S.nk [.blk b_p_s [v_p_s_L, .int .i64 r2.2] 25] [(6, .int .i64 r2.1)] [false, true] rfl ⟨rfl, trivial⟩
  refine then_n ?_
  refine wp_ret ?_
  refine then_r ?_
  obtain rfl := Option.some.inj h
  exact f_ret S Tryz.results19 rfl ⟨(S.holds _ (List.mem_of_getElem? (i := 0) rfl)), rfl⟩
 ·replace h := iteF h hb1
  refine wp_skip ?_
  refine then_n ?_
  refine f_seq ?_
  refine f_region ?_
  refine lv S (rn_move (S.tm rfl)) rfl ?_; clear S; intro a S
  refine lv S (rn_move (S.tm rfl)) rfl ?_; clear S; intro a S
  refine lv S (rn_move (S.tm rfl)) rfl ?_; clear S; intro a S
  obtain ⟨r3, hr3, h⟩ := bindE h
  refine l_enter1 0 S (b := b_p_s) rfl rfl (fun _ => .blk b_p_s [v_p_s_L, .int .i64 r3.2] 25) (fun _ => run_call (vs := [.pointer (some ⟨b_p_s, 0, none⟩), .int .i64 p_low, .int .i64 p_high]) ⟨(S.tm rfl), (S.tm rfl), (S.tm rfl), trivial⟩ Tryz.call9) (Stream_Range_ok _ b_p_s v_p_s_L p_s_L (hs_p_s_L.mono (S.le_arg (fp_sub (i := 0) (e := .blk b_p_s [v_p_s_L, .int .i64 r1.2] 25) rfl))) r1.2 (S.holds _ (List.mem_of_getElem? (i := 0) rfl)) p_low p_high _ hr3) rfl (fun _ _ _ h => ⟨h.1, fun _ hc => by cases hc; rfl⟩) ?_; clear S; intro v3 a w4 hv3 hk4 hn3 S
  replace hv3 := hv3.2
  subst hv3
  refine lv S (rn_assign (S.tm rfl)) rfl ?_; clear S; intro a S
  refine l_done ?_
  replace S := S.nk [.blk b_p_s [v_p_s_L, .int .i64 r3.2] 25] [(6, .int .i64 r3.1)] [true] rfl ⟨rfl, trivial⟩
  refine then_n ?_
  refine wp_ret ?_
  obtain rfl := Option.some.inj h
  exact f_ret S Tryz.results19 rfl ⟨(S.holds _ (List.mem_of_getElem? (i := 0) rfl)), rfl⟩
theorem Stream_Bounds_ok (w : World) (b_p_s : Nat) (v_p_s_L : Value) (p_s_L : List Int) (hs_p_s_L : Slc (view w [b_p_s]) 1 v_p_s_L (p_s_L.map eInt)) (p_s_at : Int) (hb_b_p_s : (LEnt.blk b_p_s [v_p_s_L, .int .i64 p_s_at] 25).holds w) (r : GBounds × Int) (h : Stream_Bounds p_s_L p_s_at = some r) :
    Calls Tryz.prog 7 [.pointer (some ⟨b_p_s, 0, none⟩)].toArray w (Ret w [b_p_s] fun _ v w' => (LEnt.blk b_p_s [v_p_s_L, .int .i64 r.2] 25).holds w' ∧ v = .agg (GBounds.enc r.1).toArray) := by
 refine f_enter [b_p_s] [.blk b_p_s [v_p_s_L, .int .i64 p_s_at] 25] Tryz.func7 rfl Tryz.ntmps7 rfl (fun e he => by simp only [List.mem_singleton] at he; subst he; exact hb_b_p_s) (by simp [fps, LEnt.fp]) (by simp [fps, LEnt.fp]) fun a S => ?_
 unfold Stream_Bounds at h
 replace S := S.nk [.blk b_p_s [v_p_s_L, .int .i64 p_s_at] 25] [(0, .pointer (some ⟨b_p_s, 0, none⟩))] [true] rfl ⟨rfl, trivial⟩
 refine f_seq ?_
 refine f_region ?_
 refine l_alloc S Tryz.zeroValue33 (cs := [.int .i64 0, .int .i64 0, .int .i64 0, .int .i64 0]) rfl rfl ?_; clear S; intro a w1 b1 hz1 hk1 S
 refine l_done ?_
 replace S := S.nk [.blk b1 [.int .i64 0, .int .i64 0, .int .i64 0, .int .i64 0] 33, .blk b_p_s [v_p_s_L, .int .i64 p_s_at] 25] [(0, .pointer (some ⟨b_p_s, 0, none⟩)), (2, .pointer (some ⟨b1, 0, none⟩))] [true, true] rfl ⟨rfl, rfl, trivial⟩
 refine then_n ?_
 refine f_seq ?_
 refine f_region ?_
 refine lv S (rn_move (S.tm rfl)) rfl ?_; clear S; intro a S
 refine l_buildSlice S Tryz.underlying22 Tryz.sizeOf3 Tryz.zeroValue3 rfl rfl (pv := [(0, .int .i64 0), (1, .int .i64 1), (2, .int .i64 2), (3, .int .i64 5)]) ⟨rfl, rfl, rfl, rfl, rfl, rfl, rfl, rfl, trivial⟩ (cs := [.int .i64 0, .int .i64 1, .int .i64 2, .int .i64 5]) (by kernel_rfl) rfl ?_; clear S; intro a w2 b2 hz2 hk2 S
 obtain ⟨r1, hr1, h⟩ := bindE h
 refine l_enter1 2 S (b := b_p_s) rfl rfl (fun _ => .blk b_p_s [v_p_s_L, .int .i64 r1.2] 25) (fun _ => run_call (vs := [.pointer (some ⟨b_p_s, 0, none⟩), .slice (some ⟨b2, 0, none⟩) 4 4]) ⟨(S.tm rfl), (S.tm rfl), trivial⟩ Tryz.call18) (Stream_Pick_ok _ b_p_s v_p_s_L p_s_L (hs_p_s_L.mono (S.le_arg (fp_sub (i := 2) (e := .blk b_p_s [v_p_s_L, .int .i64 p_s_at] 25) rfl))) p_s_at (S.holds _ (List.mem_of_getElem? (i := 2) rfl)) (.slice (some ⟨b2, 0, none⟩) 4 4) [0, 1, 2, 5] (lit_slcT enc_int S (i := 0) rfl rfl rfl rfl ((ne_fp (i := 2) (j := 0) (e := .blk b_p_s [v_p_s_L, .int .i64 p_s_at] 25) (e' := .blk b2 [.int .i64 0, .int .i64 1, .int .i64 2, .int .i64 5] 3) S rfl rfl rfl) _ rfl)) _ hr1) rfl (fun _ _ _ h => ⟨h.1, fun _ hc => by cases hc; rfl⟩) ?_; clear S; intro v1 a w3 hv1 hk3 hn1 S
 replace hv1 := hv1.2
 subst hv1
 refine lv S (rn_move (S.tm rfl)) rfl ?_; clear S; intro a S
 refine l_buildSlice S Tryz.underlying22 Tryz.sizeOf3 Tryz.zeroValue3 rfl rfl (pv := [(0, .int .i64 0), (1, .int .i64 1), (2, .int .i64 2), (3, .int .i64 9)]) ⟨rfl, rfl, rfl, rfl, rfl, rfl, rfl, rfl, trivial⟩ (cs := [.int .i64 0, .int .i64 1, .int .i64 2, .int .i64 9]) (by kernel_rfl) rfl ?_; clear S; intro a w4 b3 hz3 hk4 S
 obtain ⟨r2, hr2, h⟩ := bindE h
 refine l_enter1 3 S (b := b_p_s) rfl rfl (fun _ => .blk b_p_s [v_p_s_L, .int .i64 r2.2] 25) (fun _ => run_call (vs := [.pointer (some ⟨b_p_s, 0, none⟩), .slice (some ⟨b3, 0, none⟩) 4 4]) ⟨(S.tm rfl), (S.tm rfl), trivial⟩ Tryz.call18) (Stream_Pick_ok _ b_p_s v_p_s_L p_s_L (hs_p_s_L.mono (S.le_arg (fp_sub (i := 3) (e := .blk b_p_s [v_p_s_L, .int .i64 r1.2] 25) rfl))) r1.2 (S.holds _ (List.mem_of_getElem? (i := 3) rfl)) (.slice (some ⟨b3, 0, none⟩) 4 4) [0, 1, 2, 9] (lit_slcT enc_int S (i := 0) rfl rfl rfl rfl ((ne_fp (i := 3) (j := 0) (e := .blk b_p_s [v_p_s_L, .int .i64 r1.2] 25) (e' := .blk b3 [.int .i64 0, .int .i64 1, .int .i64 2, .int .i64 9] 3) S rfl rfl rfl) _ rfl)) _ hr2) rfl (fun _ _ _ h => ⟨h.1, fun _ hc => by cases hc; rfl⟩) ?_; clear S; intro v2 a w5 hv2 hk5 hn2 S
 replace hv2 := hv2.2
 subst hv2
 refine lv S (rn_move (S.tm rfl)) rfl ?_; clear S; intro a S
 refine l_buildSlice S Tryz.underlying22 Tryz.sizeOf3 Tryz.zeroValue3 rfl rfl (pv := [(0, .int .i64 1), (1, .int .i64 2)]) ⟨rfl, rfl, rfl, rfl, trivial⟩ (cs := [.int .i64 1, .int .i64 2]) (by kernel_rfl) rfl ?_; clear S; intro a w6 b4 hz4 hk6 S
 obtain ⟨r3, hr3, h⟩ := bindE h
 refine l_enter1 4 S (b := b_p_s) rfl rfl (fun _ => .blk b_p_s [v_p_s_L, .int .i64 r3.2] 25) (fun _ => run_call (vs := [.pointer (some ⟨b_p_s, 0, none⟩), .slice (some ⟨b4, 0, none⟩) 2 2]) ⟨(S.tm rfl), (S.tm rfl), trivial⟩ Tryz.call18) (Stream_Pick_ok _ b_p_s v_p_s_L p_s_L (hs_p_s_L.mono (S.le_arg (fp_sub (i := 4) (e := .blk b_p_s [v_p_s_L, .int .i64 r2.2] 25) rfl))) r2.2 (S.holds _ (List.mem_of_getElem? (i := 4) rfl)) (.slice (some ⟨b4, 0, none⟩) 2 2) [1, 2] (lit_slcT enc_int S (i := 0) rfl rfl rfl rfl ((ne_fp (i := 4) (j := 0) (e := .blk b_p_s [v_p_s_L, .int .i64 r2.2] 25) (e' := .blk b4 [.int .i64 1, .int .i64 2] 3) S rfl rfl rfl) _ rfl)) _ hr3) rfl (fun _ _ _ h => ⟨h.1, fun _ hc => by cases hc; rfl⟩) ?_; clear S; intro v3 a w7 hv3 hk7 hn3 S
 replace hv3 := hv3.2
 subst hv3
 refine lv S (rn_move (S.tm rfl)) rfl ?_; clear S; intro a S
 refine l_buildSlice S Tryz.underlying22 Tryz.sizeOf3 Tryz.zeroValue3 rfl rfl (pv := [(0, .int .i64 60), (1, .int .i64 425), (2, .int .i64 1000), (3, .int .i64 1600), (4, .int .i64 4000)]) ⟨rfl, rfl, rfl, rfl, rfl, rfl, rfl, rfl, rfl, rfl, trivial⟩ (cs := [.int .i64 60, .int .i64 425, .int .i64 1000, .int .i64 1600, .int .i64 4000]) (by kernel_rfl) rfl ?_; clear S; intro a w8 b5 hz5 hk8 S
 obtain ⟨r4, hr4, h⟩ := bindE h
 refine l_enter1 5 S (b := b_p_s) rfl rfl (fun _ => .blk b_p_s [v_p_s_L, .int .i64 r4.2] 25) (fun _ => run_call (vs := [.pointer (some ⟨b_p_s, 0, none⟩), .slice (some ⟨b5, 0, none⟩) 5 5]) ⟨(S.tm rfl), (S.tm rfl), trivial⟩ Tryz.call18) (Stream_Pick_ok _ b_p_s v_p_s_L p_s_L (hs_p_s_L.mono (S.le_arg (fp_sub (i := 5) (e := .blk b_p_s [v_p_s_L, .int .i64 r3.2] 25) rfl))) r3.2 (S.holds _ (List.mem_of_getElem? (i := 5) rfl)) (.slice (some ⟨b5, 0, none⟩) 5 5) [60, 425, 1000, 1600, 4000] (lit_slcT enc_int S (i := 0) rfl rfl rfl rfl ((ne_fp (i := 5) (j := 0) (e := .blk b_p_s [v_p_s_L, .int .i64 r3.2] 25) (e' := .blk b5 [.int .i64 60, .int .i64 425, .int .i64 1000, .int .i64 1600, .int .i64 4000] 3) S rfl rfl rfl) _ rfl)) _ hr4) rfl (fun _ _ _ h => ⟨h.1, fun _ hc => by cases hc; rfl⟩) ?_; clear S; intro v4 a w9 hv4 hk9 hn4 S
 replace hv4 := hv4.2
 subst hv4
 refine lv S (rn_bld bt_33 (pv := [(0, .int .i64 r1.1), (1, .int .i64 r2.1), (2, .int .i64 r3.1), (3, .int .i64 r4.1)]) ⟨rfl, (S.tm rfl), rfl, (S.tm rfl), rfl, (S.tm rfl), rfl, (S.tm rfl), trivial⟩ (cs := [.int .i64 r1.1, .int .i64 r2.1, .int .i64 r3.1, .int .i64 r4.1]) (by kernel_rfl)) rfl ?_; clear S; intro a S
 refine l_alloc S Tryz.zeroValue33 (cs := [.int .i64 0, .int .i64 0, .int .i64 0, .int .i64 0]) rfl rfl ?_; clear S; intro a w10 b6 hz6 hk10 S
 refine l_store S (S.tm rfl) (S.tm rfl) (i := 0) (off := 0) rfl Tryz.sizeOf33 (vs := [.int .i64 r1.1, .int .i64 r2.1, .int .i64 r3.1, .int .i64 r4.1]) rfl rfl rfl rfl ?_; clear S; intro w11 hk11 S
 refine l_done ?_
 replace S := S.nk [.blk b6 [.int .i64 r1.1, .int .i64 r2.1, .int .i64 r3.1, .int .i64 r4.1] 33, .blk b1 [.int .i64 0, .int .i64 0, .int .i64 0, .int .i64 0] 33, .blk b_p_s [v_p_s_L, .int .i64 r4.2] 25] [(0, .pointer (some ⟨b_p_s, 0, none⟩)), (2, .pointer (some ⟨b1, 0, none⟩)), (3, .pointer (some ⟨b6, 0, none⟩))] [true, false, false, false, false, true, true] rfl ⟨rfl, rfl, rfl, trivial⟩
 refine then_n ?_
 refine f_seq ?_
 refine f_seq ?_
 refine f_region ?_
 refine lv S (rn_move (S.tm rfl)) rfl ?_; clear S; intro a S
 obtain ⟨r5, hr5, h⟩ := bindE h
 refine l_enter1 2 S (b := b_p_s) rfl rfl (fun _ => .blk b_p_s [v_p_s_L, .int .i64 r5.2] 25) (fun _ => run_call (vs := [.pointer (some ⟨b_p_s, 0, none⟩), .int .i64 15]) ⟨(S.tm rfl), rfl, trivial⟩ Tryz.call16) (Stream_Flip_ok _ b_p_s v_p_s_L p_s_L (hs_p_s_L.mono (S.le_arg (fp_sub (i := 2) (e := .blk b_p_s [v_p_s_L, .int .i64 r4.2] 25) rfl))) r4.2 (S.holds _ (List.mem_of_getElem? (i := 2) rfl)) 15 _ hr5) rfl (fun _ _ _ h => ⟨h.1, fun _ hc => by cases hc; rfl⟩) ?_; clear S; intro v5 a w12 hv5 hk12 hn5 S
 replace hv5 := hv5.2
 subst hv5
 refine l_done ?_
 replace S := S.nk [.blk b6 [.int .i64 r1.1, .int .i64 r2.1, .int .i64 r3.1, .int .i64 r4.1] 33, .blk b1 [.int .i64 0, .int .i64 0, .int .i64 0, .int .i64 0] 33, .blk b_p_s [v_p_s_L, .int .i64 r5.2] 25] [(0, .pointer (some ⟨b_p_s, 0, none⟩)), (2, .pointer (some ⟨b1, 0, none⟩)), (3, .pointer (some ⟨b6, 0, none⟩)), (18, .bool r5.1)] [true, true, true] rfl ⟨rfl, rfl, rfl, rfl, trivial⟩
 refine then_n ?_
 obtain ⟨j1, hj1, h⟩ := joinE h
 refine f_join (fun a w' => ∃ x1 : Int, ∃ x2 : Int, ∃ x3 : Int, ∃ x4 : Int, ∃ x5 : Int, j1 x1 x2 x3 x4 x5 = some r ∧ Sx w [b_p_s] nov [.blk b6 [.int .i64 x1, .int .i64 x2, .int .i64 x3, .int .i64 x4] 33, .blk b1 [.int .i64 0, .int .i64 0, .int .i64 0, .int .i64 0] 33, .blk b_p_s [v_p_s_L, .int .i64 x5] 25] [(2, .pointer (some ⟨b1, 0, none⟩)), (3, .pointer (some ⟨b6, 0, none⟩))] 29 a w') ?_ ?_
 ·refine f_cond (S.tm rfl) (fun hb1 => ?_) (fun hb1 => ?_)
  ·replace h := iteT h hb1
   refine f_region ?_
   refine lv S (rn_move (S.tm rfl)) rfl ?_; clear S; intro a S
   obtain ⟨r6, hr6, h⟩ := bindE h
   refine l_enter1 2 S (b := b_p_s) rfl rfl (fun _ => .blk b_p_s [v_p_s_L, .int .i64 r6.2] 25) (fun _ => run_call (vs := [.pointer (some ⟨b_p_s, 0, none⟩), .int .i64 0, .int .i64 100]) ⟨(S.tm rfl), rfl, rfl, trivial⟩ Tryz.call19) (Stream_Odd_ok _ b_p_s v_p_s_L p_s_L (hs_p_s_L.mono (S.le_arg (fp_sub (i := 2) (e := .blk b_p_s [v_p_s_L, .int .i64 r5.2] 25) rfl))) r5.2 (S.holds _ (List.mem_of_getElem? (i := 2) rfl)) 0 100 _ hr6) rfl (fun _ _ _ h => ⟨h.1, fun _ hc => by cases hc; rfl⟩) ?_; clear S; intro v6 a w14 hv6 hk13 hn6 S
   replace hv6 := hv6.2
   subst hv6
   refine lv S (rn_move (S.tm rfl)) rfl ?_; clear S; intro a S
   obtain ⟨r7, hr7, h⟩ := bindE h
   refine l_enter1 2 S (b := b_p_s) rfl rfl (fun _ => .blk b_p_s [v_p_s_L, .int .i64 r7.2] 25) (fun _ => run_call (vs := [.pointer (some ⟨b_p_s, 0, none⟩), .int .i64 0, .int .i64 1500]) ⟨(S.tm rfl), rfl, rfl, trivial⟩ Tryz.call19) (Stream_Odd_ok _ b_p_s v_p_s_L p_s_L (hs_p_s_L.mono (S.le_arg (fp_sub (i := 2) (e := .blk b_p_s [v_p_s_L, .int .i64 r6.2] 25) rfl))) r6.2 (S.holds _ (List.mem_of_getElem? (i := 2) rfl)) 0 1500 _ hr7) rfl (fun _ _ _ h => ⟨h.1, fun _ hc => by cases hc; rfl⟩) ?_; clear S; intro v7 a w15 hv7 hk14 hn7 S
   replace hv7 := hv7.2
   subst hv7
   refine lv S (rn_move (S.tm rfl)) rfl ?_; clear S; intro a S
   obtain ⟨r8, hr8, h⟩ := bindE h
   refine l_enter1 2 S (b := b_p_s) rfl rfl (fun _ => .blk b_p_s [v_p_s_L, .int .i64 r8.2] 25) (fun _ => run_call (vs := [.pointer (some ⟨b_p_s, 0, none⟩), .int .i64 1, .int .i64 2]) ⟨(S.tm rfl), rfl, rfl, trivial⟩ Tryz.call19) (Stream_Odd_ok _ b_p_s v_p_s_L p_s_L (hs_p_s_L.mono (S.le_arg (fp_sub (i := 2) (e := .blk b_p_s [v_p_s_L, .int .i64 r7.2] 25) rfl))) r7.2 (S.holds _ (List.mem_of_getElem? (i := 2) rfl)) 1 2 _ hr8) rfl (fun _ _ _ h => ⟨h.1, fun _ hc => by cases hc; rfl⟩) ?_; clear S; intro v8 a w16 hv8 hk15 hn8 S
   replace hv8 := hv8.2
   subst hv8
   refine lv S (rn_move (S.tm rfl)) rfl ?_; clear S; intro a S
   obtain ⟨r9, hr9, h⟩ := bindE h
   refine l_enter1 2 S (b := b_p_s) rfl rfl (fun _ => .blk b_p_s [v_p_s_L, .int .i64 r9.2] 25) (fun _ => run_call (vs := [.pointer (some ⟨b_p_s, 0, none⟩), .int .i64 (-40000), .int .i64 4000]) ⟨(S.tm rfl), rfl, rfl, trivial⟩ Tryz.call19) (Stream_Odd_ok _ b_p_s v_p_s_L p_s_L (hs_p_s_L.mono (S.le_arg (fp_sub (i := 2) (e := .blk b_p_s [v_p_s_L, .int .i64 r8.2] 25) rfl))) r8.2 (S.holds _ (List.mem_of_getElem? (i := 2) rfl)) (-40000) 4000 _ hr9) rfl (fun _ _ _ h => ⟨h.1, fun _ hc => by cases hc; rfl⟩) ?_; clear S; intro v9 a w17 hv9 hk16 hn9 S
   replace hv9 := hv9.2
   subst hv9
   refine lv S (rn_bld bt_33 (pv := [(0, .int .i64 r6.1), (1, .int .i64 r7.1), (2, .int .i64 r8.1), (3, .int .i64 r9.1)]) ⟨rfl, (S.tm rfl), rfl, (S.tm rfl), rfl, (S.tm rfl), rfl, (S.tm rfl), trivial⟩ (cs := [.int .i64 r6.1, .int .i64 r7.1, .int .i64 r8.1, .int .i64 r9.1]) (by kernel_rfl)) rfl ?_; clear S; intro a S
   refine l_store S (S.tm rfl) (S.tm rfl) (i := 0) (off := 0) rfl Tryz.sizeOf33 (vs := [.int .i64 r6.1, .int .i64 r7.1, .int .i64 r8.1, .int .i64 r9.1]) rfl rfl rfl rfl ?_; clear S; intro w18 hk17 S
   refine l_done ?_
   replace S := S.nk [.blk b6 [.int .i64 r6.1, .int .i64 r7.1, .int .i64 r8.1, .int .i64 r9.1] 33, .blk b1 [.int .i64 0, .int .i64 0, .int .i64 0, .int .i64 0] 33, .blk b_p_s [v_p_s_L, .int .i64 r9.2] 25] [(2, .pointer (some ⟨b1, 0, none⟩)), (3, .pointer (some ⟨b6, 0, none⟩))] [true, true, true] rfl ⟨rfl, rfl, trivial⟩
   refine then_n ?_
   exact ⟨r6.1, r7.1, r8.1, r9.1, r9.2, h, S.nf [true, true, true] rfl ⟨rfl, rfl, trivial⟩⟩
  ·replace h := iteF h hb1
   refine wp_skip ?_
   refine then_n ?_
   exact ⟨r1.1, r2.1, r3.1, r4.1, r5.2, h, S.nf [true, true, true] rfl ⟨rfl, rfl, trivial⟩⟩
 clear S h; rintro a w13 ⟨x1, x2, x3, x4, x5, h, S⟩; rw [hj1] at h; clear hj1 j1
 refine then_n ?_
 refine f_seq ?_
 refine f_region ?_
 refine lv S (rn_ldA Tryz.isAgg33 Tryz.sizeOf33 (off := 0) (o := 0) (part := [.int .i64 x1, .int .i64 x2, .int .i64 x3, .int .i64 x4]) rfl rfl (S.tm rfl) (S.cellsAt (i := 0) rfl)) rfl ?_; clear S; intro a S
 refine l_store S (S.tm rfl) (S.tm rfl) (i := 1) (off := 0) rfl Tryz.sizeOf33 (vs := [.int .i64 x1, .int .i64 x2, .int .i64 x3, .int .i64 x4]) rfl rfl rfl rfl ?_; clear S; intro w19 hk18 S
 refine l_done ?_
 replace S := S.nk [.blk b1 [.int .i64 x1, .int .i64 x2, .int .i64 x3, .int .i64 x4] 33, .blk b_p_s [v_p_s_L, .int .i64 x5] 25] [(2, .pointer (some ⟨b1, 0, none⟩))] [false, true, true] rfl ⟨rfl, trivial⟩
 refine then_n ?_
 refine wp_ret ?_
 obtain rfl := Option.some.inj h
 exact f_retG S (rs := [.cell 2 33]) (vs := [.agg #[.int .i64 x1, .int .i64 x2, .int .i64 x3, .int .i64 x4]]) Tryz.results7 ⟨(res_cell (off := 0) S rfl Tryz.isAgg33 Tryz.sizeOf33 rfl (S.cellsAt (i := 0) rfl)), trivial⟩ rfl ⟨(S.holds _ (List.mem_of_getElem? (i := 1) rfl)), rfl⟩
theorem Stream_Some_ok (w : World) (b_p_s : Nat) (v_p_s_L : Value) (p_s_L : List Int) (hs_p_s_L : Slc (view w [b_p_s]) 1 v_p_s_L (p_s_L.map eInt)) (p_s_at : Int) (hb_b_p_s : (LEnt.blk b_p_s [v_p_s_L, .int .i64 p_s_at] 25).holds w) (v_p_l : Value) (p_l : List ByteArray) (hs_p_l : Slc (view w [b_p_s]) 1 v_p_l (p_l.map eStr)) (r : ByteArray × Int) (h : Stream_Some p_s_L p_s_at p_l = some r) :
    Calls Tryz.prog 20 [.pointer (some ⟨b_p_s, 0, none⟩), v_p_l].toArray w (Ret w [b_p_s] fun _ v w' => (LEnt.blk b_p_s [v_p_s_L, .int .i64 r.2] 25).holds w' ∧ v = .string r.1) := by
 refine f_enter [b_p_s] [.blk b_p_s [v_p_s_L, .int .i64 p_s_at] 25] Tryz.func20 rfl Tryz.ntmps20 rfl (fun e he => by simp only [List.mem_singleton] at he; subst he; exact hb_b_p_s) (by simp [fps, LEnt.fp]) (by simp [fps, LEnt.fp]) fun a S => ?_
 unfold Stream_Some at h
 replace S := S.nk [.blk b_p_s [v_p_s_L, .int .i64 p_s_at] 25] [(0, .pointer (some ⟨b_p_s, 0, none⟩)), (1, v_p_l)] [true] rfl ⟨rfl, rfl, trivial⟩
 refine f_seq ?_
 refine f_region ?_
 refine lv S (rn_assign rfl) rfl ?_; clear S; intro a S
 refine l_done ?_
 replace S := S.nk [.blk b_p_s [v_p_s_L, .int .i64 p_s_at] 25] [(0, .pointer (some ⟨b_p_s, 0, none⟩)), (1, v_p_l)] [true] rfl ⟨rfl, rfl, trivial⟩
 refine then_n ?_
 refine f_seq ?_
 refine f_region ?_
 refine lv S (rn_move (S.tm rfl)) rfl ?_; clear S; intro a S
 refine lv S (rn_move (S.tm rfl)) rfl ?_; clear S; intro a S
 refine lv S (rn_move (S.tm rfl)) rfl ?_; clear S; intro a S
 refine lv S (rn_lenT sl_49 (S.tm rfl) (slc_len hs_p_l)) rfl ?_; clear S; intro a S
 obtain ⟨r1, hr1, h⟩ := bindE h
 refine l_enter1 0 S (b := b_p_s) rfl rfl (fun _ => .blk b_p_s [v_p_s_L, .int .i64 r1.2] 25) (fun _ => run_call (vs := [.pointer (some ⟨b_p_s, 0, none⟩), .int .i64 (p_l.length : Int)]) ⟨(S.tm rfl), (S.tm rfl), trivial⟩ Tryz.call22) (Stream_Next_ok _ b_p_s v_p_s_L p_s_L (hs_p_s_L.mono (S.le_arg (fp_sub (i := 0) (e := .blk b_p_s [v_p_s_L, .int .i64 p_s_at] 25) rfl))) p_s_at (S.holds _ (List.mem_of_getElem? (i := 0) rfl)) (p_l.length : Int) _ hr1) rfl (fun _ _ _ h => ⟨h.1, fun _ hc => by cases hc; rfl⟩) ?_; clear S; intro v1 a w1 hv1 hk1 hn1 S
 replace hv1 := hv1.2
 subst hv1
 obtain ⟨hc1, h⟩ := chkE h
 obtain ⟨b1, o1, hm1, hr2⟩ := rn_indexT (a := a) (x := .tmp 5) (y := .tmp 9) (ty := 0) sl_49 hs_p_l (inB_get hc1).1 (inB_get hc1).2 (S.tm rfl) (S.tm rfl)
 refine lv S (hr2 _) rfl ?_; clear S; intro a S
 clear hr2
 refine lv S (rn_ld Tryz.isAgg9 (off := o1) (o := 0) (S.tm rfl) (hm1.at S.emb0) rfl) rfl ?_; clear S; intro a S
 refine lv S (rn_assign (S.tm rfl)) rfl ?_; clear S; intro a S
 refine l_done ?_
 replace S := S.nk [.blk b_p_s [v_p_s_L, .int .i64 r1.2] 25] [(4, .string (nth p_l r1.1))] [true] rfl ⟨rfl, trivial⟩
 refine then_n ?_
 refine wp_ret ?_
 obtain rfl := Option.some.inj h
 exact f_ret S Tryz.results20 rfl ⟨(S.holds _ (List.mem_of_getElem? (i := 0) rfl)), rfl⟩
set_option maxRecDepth 20000 in
theorem slices_Index_Entry_ok (w : World) (v_p_s : Value) (p_s : List GEntry) (hs_p_s : Slc (view w []) 2 v_p_s (p_s.map GEntry.enc)) (p_v : GEntry) (r : Int) (h : slices_Index_Entry p_s p_v = r) :
    Calls Tryz.prog 37 [v_p_s, .agg (GEntry.enc p_v).toArray].toArray w (Ret w [] fun _ v _ => v = .int .i64 r) := by
 refine f_enter [] [] Tryz.func37 rfl Tryz.ntmps37 rfl (by simp) (by simp [fps]) (by simp [fps]) fun a S => ?_
 unfold slices_Index_Entry at h
 replace S := S.nk [] [(0, v_p_s), (1, .agg (GEntry.enc p_v).toArray)] [] rfl ⟨rfl, rfl, trivial⟩
 refine f_seq ?_
 refine f_region ?_
 refine l_box S (S.tm rfl) (cs := [.string p_v.Who, .string p_v.Race]) rfl rfl ?_; clear S; intro a w1 b1 hz1 hk1 S
 refine lv S (rn_assign rfl) rfl ?_; clear S; intro a S
 refine l_done ?_
 replace S := S.nk [.blk b1 [.string p_v.Who, .string p_v.Race] 45] [(0, v_p_s), (3, .pointer (some ⟨b1, 0, none⟩))] [true] rfl ⟨rfl, rfl, trivial⟩
 refine then_n ?_
 refine f_seq ?_
 refine f_seq ?_
 refine f_region ?_
 refine lv S (rn_move (S.tm rfl)) rfl ?_; clear S; intro a S
 refine lv S (rn_lenT sl_35 (S.tm rfl) (slc_len hs_p_s)) rfl ?_; clear S; intro a S
 refine lv S (rn_move rfl) rfl ?_; clear S; intro a S
 refine l_done ?_
 replace S := S.nk [.blk b1 [.string p_v.Who, .string p_v.Race] 45] [(0, v_p_s), (3, .pointer (some ⟨b1, 0, none⟩)), (7, .int .i64 (p_s.length : Int)), (8, .int .i64 0)] [true] rfl ⟨rfl, rfl, rfl, rfl, trivial⟩
 refine then_n ?_
 obtain ⟨j1, hj1, h⟩ := joinE h
 refine f_join (fun a w' => j1 = r ∧ Sx w [] nov [.blk b1 [.string p_v.Who, .string p_v.Race] 45] [] 19 a w') ?_ ?_
 ·refine wp_block ?_
  refine f_loop (fun (ys1 : List GEntry) a w' => ∃ i1 : Nat, (∃ dn, p_s = dn ++ ys1 ∧ dn.length = i1) ∧ slices_Index_Entry_l1 p_v j1 ys1 i1 = r ∧ Sx w [] nov [.blk b1 [.string p_v.Who, .string p_v.Race] 45] [(0, v_p_s), (3, .pointer (some ⟨b1, 0, none⟩)), (7, .int .i64 (p_s.length : Int)), (8, .int .i64 (i1 : Int))] 19 a w') List.length p_s ⟨0, ⟨[], rfl, rfl⟩, h, S.nf [true] rfl ⟨rfl, rfl, rfl, rfl, trivial⟩⟩ ?_
  clear S h; rintro ys1 a w2 ⟨i1, ⟨dn, hd1, hi1⟩, h, S⟩
  cases ys1 with
  | nil =>
   rw [slices_Index_Entry_l1.eq_1] at h
   refine f_seq ?_
   refine f_region ?_
   refine lv S (rn_lss (S.tm rfl) (S.tm rfl)) rfl ?_; clear S; intro a S
   refine l_done ?_
   replace S := S.nk [.blk b1 [.string p_v.Who, .string p_v.Race] 45] [(0, v_p_s), (3, .pointer (some ⟨b1, 0, none⟩)), (7, .int .i64 (p_s.length : Int)), (8, .int .i64 (i1 : Int)), (9, .bool (decide ((i1 : Int) < (p_s.length : Int))))] [true] rfl ⟨rfl, rfl, rfl, rfl, rfl, trivial⟩
   refine then_n ?_
   refine f_seq ?_
   refine wp_cond_false ((S.tm rfl).trans (congrArg Value.bool (rng_nil hd1 hi1))) ?_
   refine wp_exit ?_
   refine then_x ?_
   refine then_x ?_
   refine x_same ?_
   refine then_n ?_
   exact ⟨h, S.nf [true] rfl trivial⟩
  | cons y1 ys1 =>
   rw [slices_Index_Entry_l1.eq_2] at h
   refine f_seq ?_
   refine f_region ?_
   refine lv S (rn_lss (S.tm rfl) (S.tm rfl)) rfl ?_; clear S; intro a S
   refine l_done ?_
   replace S := S.nk [.blk b1 [.string p_v.Who, .string p_v.Race] 45] [(0, v_p_s), (3, .pointer (some ⟨b1, 0, none⟩)), (7, .int .i64 (p_s.length : Int)), (8, .int .i64 (i1 : Int)), (9, .bool (decide ((i1 : Int) < (p_s.length : Int))))] [true] rfl ⟨rfl, rfl, rfl, rfl, rfl, trivial⟩
   refine then_n ?_
   refine f_seq ?_
   refine wp_cond_true ((S.tm rfl).trans (congrArg Value.bool (rng_cons hd1 hi1))) ?_
   refine wp_skip ?_
   refine then_n ?_
   refine f_seq ?_
   refine wp_block ?_
   refine f_seq ?_
   refine f_region ?_
   refine lv S (rn_move (S.tm rfl)) rfl ?_; clear S; intro a S
   refine lv S (rn_assign (S.tm rfl)) rfl ?_; clear S; intro a S
   refine l_done ?_
   replace S := S.nk [.blk b1 [.string p_v.Who, .string p_v.Race] 45] [(0, v_p_s), (3, .pointer (some ⟨b1, 0, none⟩)), (5, .int .i64 (i1 : Int)), (7, .int .i64 (p_s.length : Int)), (8, .int .i64 (i1 : Int))] [true] rfl ⟨rfl, rfl, rfl, rfl, rfl, trivial⟩
   refine then_n ?_
   refine f_seq ?_
   refine d_region [] ([]) Tryz.mixed S rfl (by kernel_rfl) ?_; clear S; intro w4 hk2 hsel S
   refine d_rest [0, 1, 2, 3, 4, 5] hsel (by kernel_rfl) rfl ?_
   clear hsel
   refine s_lv S rfl (rn_ldA Tryz.isAgg45 Tryz.sizeOf45 (off := 0) (o := 0) (part := [.string p_v.Who, .string p_v.Race]) rfl rfl (S.tm rfl) (S.cellsAt (i := 0) rfl)) rfl ?_; clear S; intro a S
   refine s_lv S rfl (rn_move (S.tm rfl)) rfl ?_; clear S; intro a S
   refine s_lv S rfl (rn_move (S.tm rfl)) rfl ?_; clear S; intro a S
   obtain ⟨b2, o1, hm1, hr1⟩ := rn_indexT (a := a) (x := .tmp 12) (y := .tmp 13) (ty := 0) sl_35 hs_p_s (get_mid hd1 hi1) rfl (S.tm rfl) (S.tm rfl)
   refine s_lv S rfl (hr1 _) rfl ?_; clear S; intro a S
   clear hr1
   refine s_lv S rfl (rn_ldA Tryz.isAgg45 Tryz.sizeOf45 (off := o1) (o := 0) (part := [.string y1.Who, .string y1.Race]) rfl rfl (S.tm rfl) (hm1.at S.emb0)) rfl ?_; clear S; intro a S
   refine s_lv S rfl (rn_eql_45 (m := p_v) (n := y1) (S.tm rfl) (S.tm rfl)) rfl ?_; clear S; intro a S
   refine s_done ?_
   replace S := S.nk [.blk b1 [.string p_v.Who, .string p_v.Race] 45] [(0, v_p_s), (3, .pointer (some ⟨b1, 0, none⟩)), (5, .int .i64 (i1 : Int)), (7, .int .i64 (p_s.length : Int)), (8, .int .i64 (i1 : Int)), (16, .bool (decide (p_v = y1)))] [true] rfl ⟨rfl, rfl, rfl, rfl, rfl, rfl, trivial⟩
   refine then_n ?_
   refine f_cond (S.tm rfl) (fun hb1 => ?_) (fun hb1 => ?_)
   ·replace h := iteT h hb1
    refine f_seq ?_
    refine f_region ?_
    refine lv S (rn_move (S.tm rfl)) rfl ?_; clear S; intro a S
    refine lv S (rn_assign (S.tm rfl)) rfl ?_; clear S; intro a S
    refine l_done ?_
    replace S := S.nk [] [(4, .int .i64 (i1 : Int))] [false] rfl ⟨rfl, trivial⟩
    refine then_n ?_
    refine wp_ret ?_
    refine blk_r ?_
    refine then_r ?_
    refine then_r ?_
    refine blk_r ?_
    refine then_r ?_
    refine then_r ?_
    subst h
    exact f_ret S Tryz.results37 rfl rfl
   ·replace h := iteF h hb1
    refine wp_skip ?_
    refine blk_n ?_
    refine then_n ?_
    refine f_region ?_
    refine lv S (rn_add (S.tm rfl) rfl) rfl ?_; clear S; intro a S
    refine lv S (rn_move (S.tm rfl)) rfl ?_; clear S; intro a S
    refine l_done ?_
    replace S := S.nk [.blk b1 [.string p_v.Who, .string p_v.Race] 45] [(0, v_p_s), (3, .pointer (some ⟨b1, 0, none⟩)), (7, .int .i64 (p_s.length : Int)), (8, .int .i64 (W ((i1 : Int) + 1)))] [true] rfl ⟨rfl, rfl, rfl, rfl, trivial⟩
    refine then_n ?_
    exact ⟨ys1, ⟨i1 + 1, ⟨_, (hd1).trans (List.append_cons _ _ _), by simp [hi1]⟩, h, S.nf [true] rfl ⟨rfl, rfl, rfl, (congrArg (fun z => some (Value.int .i64 z)) (rng_next hd1 hi1 (slc_max hs_p_s))), trivial⟩⟩, Nat.lt_succ_self _⟩
 clear S h; rintro a w3 ⟨h, S⟩; rw [hj1] at h; clear hj1 j1
 refine then_n ?_
 refine f_seq ?_
 refine f_region ?_
 refine lv S (rn_assign rfl) rfl ?_; clear S; intro a S
 refine l_done ?_
 replace S := S.nk [] [(4, .int .i64 (-1))] [false] rfl ⟨rfl, trivial⟩
 refine then_n ?_
 refine wp_ret ?_
 subst h
 exact f_ret S Tryz.results37 rfl rfl
theorem slices_Contains_Entry_ok (w : World) (v_p_s : Value) (p_s : List GEntry) (hs_p_s : Slc (view w []) 2 v_p_s (p_s.map GEntry.enc)) (p_v : GEntry) (r : Bool) (h : slices_Contains_Entry p_s p_v = r) :
    Calls Tryz.prog 21 [v_p_s, .agg (GEntry.enc p_v).toArray].toArray w (Ret w [] fun _ v _ => v = .bool r) := by
 refine f_enter [] [] Tryz.func21 rfl Tryz.ntmps21 rfl (by simp) (by simp [fps]) (by simp [fps]) fun a S => ?_
 unfold slices_Contains_Entry at h
 replace S := S.nk [] [(0, v_p_s), (1, .agg (GEntry.enc p_v).toArray)] [] rfl ⟨rfl, rfl, trivial⟩
 refine f_seq ?_
 refine f_region ?_
 refine l_box S (S.tm rfl) (cs := [.string p_v.Who, .string p_v.Race]) rfl rfl ?_; clear S; intro a w1 b1 hz1 hk1 S
 refine lv S (rn_assign rfl) rfl ?_; clear S; intro a S
 refine l_done ?_
 replace S := S.nk [.blk b1 [.string p_v.Who, .string p_v.Race] 45] [(0, v_p_s), (3, .pointer (some ⟨b1, 0, none⟩))] [true] rfl ⟨rfl, rfl, trivial⟩
 refine then_n ?_
 refine f_seq ?_
 refine f_region ?_
 refine lv S (rn_move (S.tm rfl)) rfl ?_; clear S; intro a S
 refine lv S (rn_ldA Tryz.isAgg45 Tryz.sizeOf45 (off := 0) (o := 0) (part := [.string p_v.Who, .string p_v.Race]) rfl rfl (S.tm rfl) (S.cellsAt (i := 0) rfl)) rfl ?_; clear S; intro a S
 refine l_enter S (fun _ => run_call (vs := [v_p_s, .agg (GEntry.enc p_v).toArray]) ⟨(S.tm rfl), (S.tm rfl), trivial⟩ Tryz.call37) (slices_Index_Entry_ok _ v_p_s p_s (hs_p_s.mono (S.le_arg nil_sub)) p_v _ rfl) rfl ?_; clear S; intro v1 a w2 hv1 hk2 hn1 S
 subst hv1
 refine lv S (rn_geq (S.tm rfl) rfl) rfl ?_; clear S; intro a S
 refine lv S (rn_assign (S.tm rfl)) rfl ?_; clear S; intro a S
 refine l_done ?_
 replace S := S.nk [] [(4, .bool (decide (0 ≤ (slices_Index_Entry p_s p_v))))] [false] rfl ⟨rfl, trivial⟩
 refine then_n ?_
 refine wp_ret ?_
 subst h
 exact f_ret S Tryz.results21 rfl rfl
theorem Stream_Entries_ok (w : World) (b_p_s : Nat) (v_p_s_L : Value) (p_s_L : List Int) (hs_p_s_L : Slc (view w [b_p_s]) 1 v_p_s_L (p_s_L.map eInt)) (p_s_at : Int) (hb_b_p_s : (LEnt.blk b_p_s [v_p_s_L, .int .i64 p_s_at] 25).holds w) (p_many : Int) (r : (List GEntry) × Int) (h : Stream_Entries p_s_L p_s_at p_many = some r) :
    Calls Tryz.prog 8 [.pointer (some ⟨b_p_s, 0, none⟩), .int .i64 p_many].toArray w (Ret w [b_p_s] fun τ v w' => (LEnt.blk b_p_s [v_p_s_L, .int .i64 r.2] 25).holds w' ∧ OwnV τ 45 2 v r.1.length (r.1.flatMap GEntry.enc)) := by
 refine f_enter [b_p_s] [.blk b_p_s [v_p_s_L, .int .i64 p_s_at] 25] Tryz.func8 rfl Tryz.ntmps8 rfl (fun e he => by simp only [List.mem_singleton] at he; subst he; exact hb_b_p_s) (by simp [fps, LEnt.fp]) (by simp [fps, LEnt.fp]) fun a S => ?_
 unfold Stream_Entries at h
 replace S := S.nk [.blk b_p_s [v_p_s_L, .int .i64 p_s_at] 25] [(0, .pointer (some ⟨b_p_s, 0, none⟩)), (1, .int .i64 p_many)] [true] rfl ⟨rfl, rfl, trivial⟩
 refine f_seq ?_
 refine f_region ?_
 refine lv S (rn_assign rfl) rfl ?_; clear S; intro a S
 refine l_done ?_
 replace S := S.nk [.blk b_p_s [v_p_s_L, .int .i64 p_s_at] 25] [(0, .pointer (some ⟨b_p_s, 0, none⟩)), (1, .int .i64 p_many)] [true] rfl ⟨rfl, rfl, trivial⟩
 refine then_n ?_
 refine f_seq ?_
 refine f_region ?_
 refine lv S (rn_assign rfl) rfl ?_; clear S; intro a S
 replace S := S.nil 45 2
 refine l_done ?_
 replace S := S.nk [.own (.slice none 0 0) 45 2 ([] : List GEntry).length (([] : List GEntry).flatMap GEntry.enc), .blk b_p_s [v_p_s_L, .int .i64 p_s_at] 25] [(0, .pointer (some ⟨b_p_s, 0, none⟩)), (1, .int .i64 p_many), (5, (.slice none 0 0))] [true, true] rfl ⟨rfl, rfl, rfl, trivial⟩
 refine then_n ?_
 refine f_seq ?_
 refine f_seq ?_
 refine f_region ?_
 refine lv S (rn_move (S.tm rfl)) rfl ?_; clear S; intro a S
 refine lv S (rn_move rfl) rfl ?_; clear S; intro a S
 refine l_done ?_
 replace S := S.nk [.own (.slice none 0 0) 45 2 ([] : List GEntry).length (([] : List GEntry).flatMap GEntry.enc), .blk b_p_s [v_p_s_L, .int .i64 p_s_at] 25] [(0, .pointer (some ⟨b_p_s, 0, none⟩)), (5, (.slice none 0 0)), (7, .int .i64 p_many), (8, .int .i64 0)] [true, true] rfl ⟨rfl, rfl, rfl, rfl, trivial⟩
 refine then_n ?_
 obtain ⟨j1, hj1, h⟩ := joinE h
 refine f_join (fun a w' => ∃ x1 : List GEntry, ∃ x2 : Int, ∃ v1 : Value, j1 x1 x2 = some r ∧ Sx w [b_p_s] nov [.own v1 45 2 x1.length (x1.flatMap GEntry.enc), .blk b_p_s [v_p_s_L, .int .i64 x2] 25] [(5, v1)] 43 a w') ?_ ?_
 ·refine wp_block ?_
  refine f_loop (fun (m1 : Nat) a w' => ∃ x1 : List GEntry, ∃ x2 : Int, ∃ x3 : Int, ∃ v1 : Value, Stream_Entries_l1 p_many p_s_L j1 m1 x1 x2 x3 = some r ∧ Sx w [b_p_s] nov [.own v1 45 2 x1.length (x1.flatMap GEntry.enc), .blk b_p_s [v_p_s_L, .int .i64 x2] 25] [(0, .pointer (some ⟨b_p_s, 0, none⟩)), (5, v1), (7, .int .i64 p_many), (8, .int .i64 x3)] 43 a w') id ((p_many - 0).toNat + 2) ⟨([] : List GEntry), p_s_at, 0, (.slice none 0 0), h, S.nf [true, true] rfl ⟨rfl, rfl, rfl, rfl, trivial⟩⟩ ?_
  clear S h; rintro m1 a w1 ⟨x1, x2, x3, v1, h, S⟩
  cases m1 with
  | zero => rw [Stream_Entries_l1.eq_1] at h; cases h
  | succ m1 =>
   rw [Stream_Entries_l1.eq_2] at h
   refine f_seq ?_
   refine f_region ?_
   refine lv S (rn_lss (S.tm rfl) (S.tm rfl)) rfl ?_; clear S; intro a S
   refine l_done ?_
   replace S := S.nk [.own v1 45 2 x1.length (x1.flatMap GEntry.enc), .blk b_p_s [v_p_s_L, .int .i64 x2] 25] [(0, .pointer (some ⟨b_p_s, 0, none⟩)), (5, v1), (7, .int .i64 p_many), (8, .int .i64 x3), (9, .bool (decide (x3 < p_many)))] [true, true] rfl ⟨rfl, rfl, rfl, rfl, rfl, trivial⟩
   refine then_n ?_
   refine f_seq ?_
   refine f_cond (S.tm rfl) (fun hb1 => ?_) (fun hb1 => ?_)
   ·replace h := iteT h hb1
    refine wp_skip ?_
    refine then_n ?_
    refine f_seq ?_
    obtain ⟨j2, hj2, h⟩ := joinE h
    refine f_join (fun a w' => ∃ x4 : List GEntry, ∃ x5 : Int, ∃ v2 : Value, j2 x4 x5 = some r ∧ Sx w [b_p_s] nov [.own v2 45 2 x4.length (x4.flatMap GEntry.enc), .blk b_p_s [v_p_s_L, .int .i64 x5] 25] [(0, .pointer (some ⟨b_p_s, 0, none⟩)), (5, v2), (7, .int .i64 p_many), (8, .int .i64 x3)] 43 a w') ?_ ?_
    ·refine wp_block ?_
     refine f_seq ?_
     refine f_region ?_
     refine lv S (rn_move (S.tm rfl)) rfl ?_; clear S; intro a S
     refine l_buildSlice S Tryz.underlying49 Tryz.sizeOf9 Tryz.zeroValue9 rfl rfl (pv := [(0, .string k_ann), (1, .string k_bea), (2, .string k_cid), (3, .string k_dan), (4, .string k_eve), (5, .string k_zed)]) ⟨rfl, rfl, rfl, rfl, rfl, rfl, rfl, rfl, rfl, rfl, rfl, rfl, trivial⟩ (cs := [.string k_ann, .string k_bea, .string k_cid, .string k_dan, .string k_eve, .string k_zed]) (by kernel_rfl) rfl ?_; clear S; intro a w4 b1 hz1 hk1 S
     obtain ⟨r1, hr1, h⟩ := bindE h
     refine l_enter1 2 S (b := b_p_s) rfl rfl (fun _ => .blk b_p_s [v_p_s_L, .int .i64 r1.2] 25) (fun _ => run_call (vs := [.pointer (some ⟨b_p_s, 0, none⟩), .slice (some ⟨b1, 0, none⟩) 6 6]) ⟨(S.tm rfl), (S.tm rfl), trivial⟩ Tryz.call20) (Stream_Some_ok _ b_p_s v_p_s_L p_s_L (hs_p_s_L.mono (S.le_arg (fp_sub (i := 2) (e := .blk b_p_s [v_p_s_L, .int .i64 x2] 25) rfl))) x2 (S.holds _ (List.mem_of_getElem? (i := 2) rfl)) (.slice (some ⟨b1, 0, none⟩) 6 6) [k_ann, k_bea, k_cid, k_dan, k_eve, k_zed] (lit_slcT enc_str S (i := 0) rfl rfl rfl rfl ((ne_fp (i := 2) (j := 0) (e := .blk b_p_s [v_p_s_L, .int .i64 x2] 25) (e' := .blk b1 [.string k_ann, .string k_bea, .string k_cid, .string k_dan, .string k_eve, .string k_zed] 9) S rfl rfl rfl) _ rfl)) _ hr1) rfl (fun _ _ _ h => ⟨h.1, fun _ hc => by cases hc; rfl⟩) ?_; clear S; intro v3 a w5 hv1 hk2 hn1 S
     replace hv1 := hv1.2
     subst hv1
     refine lv S (rn_move (S.tm rfl)) rfl ?_; clear S; intro a S
     refine l_buildSlice S Tryz.underlying49 Tryz.sizeOf9 Tryz.zeroValue9 rfl rfl (pv := [(0, .string k_ra), (1, .string k_ra), (2, .string k_rb), (3, .string k_rc), (4, .string k_rz)]) ⟨rfl, rfl, rfl, rfl, rfl, rfl, rfl, rfl, rfl, rfl, trivial⟩ (cs := [.string k_ra, .string k_ra, .string k_rb, .string k_rc, .string k_rz]) (by kernel_rfl) rfl ?_; clear S; intro a w6 b2 hz2 hk3 S
     obtain ⟨r2, hr2, h⟩ := bindE h
     refine l_enter1 3 S (b := b_p_s) rfl rfl (fun _ => .blk b_p_s [v_p_s_L, .int .i64 r2.2] 25) (fun _ => run_call (vs := [.pointer (some ⟨b_p_s, 0, none⟩), .slice (some ⟨b2, 0, none⟩) 5 5]) ⟨(S.tm rfl), (S.tm rfl), trivial⟩ Tryz.call20) (Stream_Some_ok _ b_p_s v_p_s_L p_s_L (hs_p_s_L.mono (S.le_arg (fp_sub (i := 3) (e := .blk b_p_s [v_p_s_L, .int .i64 r1.2] 25) rfl))) r1.2 (S.holds _ (List.mem_of_getElem? (i := 3) rfl)) (.slice (some ⟨b2, 0, none⟩) 5 5) [k_ra, k_ra, k_rb, k_rc, k_rz] (lit_slcT enc_str S (i := 0) rfl rfl rfl rfl ((ne_fp (i := 3) (j := 0) (e := .blk b_p_s [v_p_s_L, .int .i64 r1.2] 25) (e' := .blk b2 [.string k_ra, .string k_ra, .string k_rb, .string k_rc, .string k_rz] 9) S rfl rfl rfl) _ rfl)) _ hr2) rfl (fun _ _ _ h => ⟨h.1, fun _ hc => by cases hc; rfl⟩) ?_; clear S; intro v4 a w7 hv2 hk4 hn2 S
     replace hv2 := hv2.2
     subst hv2
     refine lv S (rn_bld bt_45 (pv := [(0, .string r1.1), (1, .string r2.1)]) ⟨rfl, (S.tm rfl), rfl, (S.tm rfl), trivial⟩ (cs := [.string r1.1, .string r2.1]) (by kernel_rfl)) rfl ?_; clear S; intro a S
     refine l_alloc S Tryz.zeroValue45 (cs := [.string k_empty, .string k_empty]) rfl rfl ?_; clear S; intro a w8 b3 hz3 hk5 S
     refine l_store S (S.tm rfl) (S.tm rfl) (i := 0) (off := 0) rfl Tryz.sizeOf45 (vs := [.string r1.1, .string r2.1]) rfl rfl rfl rfl ?_; clear S; intro w9 hk6 S
     refine l_done ?_
     replace S := S.nk [.blk b3 [.string r1.1, .string r2.1] 45, .own v1 45 2 x1.length (x1.flatMap GEntry.enc), .blk b_p_s [v_p_s_L, .int .i64 r2.2] 25] [(0, .pointer (some ⟨b_p_s, 0, none⟩)), (5, v1), (6, .pointer (some ⟨b3, 0, none⟩)), (7, .int .i64 p_many), (8, .int .i64 x3)] [true, false, false, true, true] rfl ⟨rfl, rfl, rfl, rfl, rfl, trivial⟩
     refine then_n ?_
     refine f_seq ?_
     refine f_seq ?_
     refine f_region ?_
     refine lv S (rn_move (S.tm rfl)) rfl ?_; clear S; intro a S
     refine lv S (rn_ldA Tryz.isAgg45 Tryz.sizeOf45 (off := 0) (o := 0) (part := [.string r1.1, .string r2.1]) rfl rfl (S.tm rfl) (S.cellsAt (i := 0) rfl)) rfl ?_; clear S; intro a S
     refine l_enter S (fun _ => run_call (vs := [v1, .agg (GEntry.enc (GEntry.mk r1.1 r2.1)).toArray]) ⟨(S.tm rfl), (S.tm rfl), trivial⟩ Tryz.call21) (slices_Contains_Entry_ok _ v1 x1 (own_slcT GEntry.enc_ok S (i := 1) rfl (ne_nil (e' := .own v1 45 2 x1.length (x1.flatMap GEntry.enc)))) (GEntry.mk r1.1 r2.1) _ rfl) rfl ?_; clear S; intro v5 a w10 hv3 hk7 hn3 S
     subst hv3
     refine lv S (rn_not (S.tm rfl)) rfl ?_; clear S; intro a S
     refine lv S (rn_move (S.tm rfl)) rfl ?_; clear S; intro a S
     obtain ⟨j3, hj3, h⟩ := joinE h
     refine f_cutm 3 (fun a w' => ∃ x6 : Int, ∃ x7 : Bool, j3 x6 x7 = some r ∧ Sx w [b_p_s] nov [.blk b3 [.string r1.1, .string r2.1] 45, .own v1 45 2 x1.length (x1.flatMap GEntry.enc), .blk b_p_s [v_p_s_L, .int .i64 x6] 25] [(0, .pointer (some ⟨b_p_s, 0, none⟩)), (5, v1), (6, .pointer (some ⟨b3, 0, none⟩)), (7, .int .i64 p_many), (8, .int .i64 x3), (24, .bool x7)] 43 a w') ?_ ?_
     ·rcases Bool.eq_false_or_eq_true (!(slices_Contains_Entry x1 (GEntry.mk r1.1 r2.1))) with hb2 | hb2
      ·replace h := iteT h hb2
       refine l_skip S rfl rfl rfl (neq_t hb2) rfl ?_ rfl; clear S; intro a S
       refine l_skip S rfl rfl rfl (neq_t hb2) rfl ?_ rfl; clear S; intro a S
       refine lv S (rn_pick_b hb2 (S.tm rfl) rfl) rfl ?_; clear S; intro a S
       refine l_done ?_
       refine then_n ?_
       exact ⟨r2.2, true, h, S.nf [true, true, true] rfl ⟨rfl, rfl, rfl, rfl, rfl, rfl, trivial⟩⟩
      ·replace h := iteF h hb2
       refine l_want S rfl rfl rfl hb2 ?_
       refine lv S (rn_move (S.tm rfl)) rfl ?_; clear S; intro a S
       refine l_want S rfl rfl rfl hb2 ?_
       obtain ⟨r3, hr3, h⟩ := bindE h
       refine l_enter1 2 S (b := b_p_s) rfl rfl (fun _ => .blk b_p_s [v_p_s_L, .int .i64 r3.2] 25) (fun _ => run_call (vs := [.pointer (some ⟨b_p_s, 0, none⟩), .int .i64 60]) ⟨(S.tm rfl), rfl, trivial⟩ Tryz.call16) (Stream_Flip_ok _ b_p_s v_p_s_L p_s_L (hs_p_s_L.mono (S.le_arg (fp_sub (i := 2) (e := .blk b_p_s [v_p_s_L, .int .i64 r2.2] 25) rfl))) r2.2 (S.holds _ (List.mem_of_getElem? (i := 2) rfl)) 60 _ hr3) rfl (fun _ _ _ h => ⟨h.1, fun _ hc => by cases hc; rfl⟩) ?_; clear S; intro v6 a w12 hv4 hk8 hn4 S
       replace hv4 := hv4.2
       subst hv4
       refine lv S (rn_pick_c hb2 (S.tm rfl) (S.tm rfl)) rfl ?_; clear S; intro a S
       refine l_done ?_
       refine then_n ?_
       exact ⟨r3.2, r3.1, h, S.nf [true, true, true] rfl ⟨rfl, rfl, rfl, rfl, rfl, rfl, trivial⟩⟩
     clear S h; rintro a w11 ⟨x6, x7, h, S⟩; rw [hj3] at h; clear hj3 j3
     refine l_done ?_
     replace S := S.nk [.blk b3 [.string r1.1, .string r2.1] 45, .own v1 45 2 x1.length (x1.flatMap GEntry.enc), .blk b_p_s [v_p_s_L, .int .i64 x6] 25] [(0, .pointer (some ⟨b_p_s, 0, none⟩)), (5, v1), (6, .pointer (some ⟨b3, 0, none⟩)), (7, .int .i64 p_many), (8, .int .i64 x3), (24, .bool x7)] [true, true, true] rfl ⟨rfl, rfl, rfl, rfl, rfl, rfl, trivial⟩
     refine then_n ?_
     obtain ⟨j4, hj4, h⟩ := joinE h
     refine f_join (fun a w' => ∃ x8 : List GEntry, ∃ v7 : Value, j4 x8 = some r ∧ Sx w [b_p_s] nov [.own v7 45 2 x8.length (x8.flatMap GEntry.enc), .blk b_p_s [v_p_s_L, .int .i64 x6] 25] [(0, .pointer (some ⟨b_p_s, 0, none⟩)), (5, v7), (7, .int .i64 p_many), (8, .int .i64 x3)] 43 a w') ?_ ?_
     ·refine f_cond (S.tm rfl) (fun hb3 => ?_) (fun hb3 => ?_)
      ·replace h := iteT h hb3
       refine f_region ?_
       refine lv S (rn_move (S.tm rfl)) rfl ?_; clear S; intro a S
       refine lv S (rn_ldA Tryz.isAgg45 Tryz.sizeOf45 (off := 0) (o := 0) (part := [.string r1.1, .string r2.1]) rfl rfl (S.tm rfl) (S.cellsAt (i := 0) rfl)) rfl ?_; clear S; intro a S
       refine l_buildSlice S Tryz.underlying35 Tryz.sizeOf45 Tryz.zeroValue45 rfl rfl (pv := [(0, .agg #[.string r1.1, .string r2.1])]) ⟨rfl, (S.tm rfl), trivial⟩ (cs := [.string r1.1, .string r2.1]) (by kernel_rfl) rfl ?_; clear S; intro a w14 b4 hz4 hk9 S
       obtain ⟨hc1, h⟩ := chkE h
       refine l_appendT sl_35 GEntry.enc_ok S (S.tm rfl) (i := 2) rfl (S.tm rfl) (j := 0) rfl (ys := [(GEntry.mk r1.1 r2.1)]) rfl rfl rfl rfl (by have := room_lt hc1; omega) rfl ?_; clear S; intro v8 a w15 hk10 S
       refine lv S (rn_assign (S.tm rfl)) rfl ?_; clear S; intro a S
       refine l_done ?_
       replace S := S.nk [.own v8 45 2 (x1 ++ [(GEntry.mk r1.1 r2.1)]).length ((x1 ++ [(GEntry.mk r1.1 r2.1)]).flatMap GEntry.enc), .blk b_p_s [v_p_s_L, .int .i64 x6] 25] [(0, .pointer (some ⟨b_p_s, 0, none⟩)), (5, v8), (7, .int .i64 p_many), (8, .int .i64 x3)] [false, false, true, true] rfl ⟨rfl, rfl, rfl, rfl, trivial⟩
       refine then_n ?_
       exact ⟨(x1 ++ [(GEntry.mk r1.1 r2.1)]), v8, h, S.nf [true, true] rfl ⟨rfl, rfl, rfl, rfl, trivial⟩⟩
      ·replace h := iteF h hb3
       refine wp_skip ?_
       refine then_n ?_
       exact ⟨x1, v1, h, S.nf [false, true, true] rfl ⟨rfl, rfl, rfl, rfl, trivial⟩⟩
     clear S h; rintro a w13 ⟨x8, v7, h, S⟩; rw [hj4] at h; clear hj4 j4
     refine then_n ?_
     refine f_seq ?_
     refine f_region ?_
     refine lv S (rn_move (S.tm rfl)) rfl ?_; clear S; intro a S
     obtain ⟨r4, hr4, h⟩ := bindE h
     refine l_enter1 1 S (b := b_p_s) rfl rfl (fun _ => .blk b_p_s [v_p_s_L, .int .i64 r4.2] 25) (fun _ => run_call (vs := [.pointer (some ⟨b_p_s, 0, none⟩), .int .i64 150]) ⟨(S.tm rfl), rfl, trivial⟩ Tryz.call16) (Stream_Flip_ok _ b_p_s v_p_s_L p_s_L (hs_p_s_L.mono (S.le_arg (fp_sub (i := 1) (e := .blk b_p_s [v_p_s_L, .int .i64 x6] 25) rfl))) x6 (S.holds _ (List.mem_of_getElem? (i := 1) rfl)) 150 _ hr4) rfl (fun _ _ _ h => ⟨h.1, fun _ hc => by cases hc; rfl⟩) ?_; clear S; intro v9 a w16 hv5 hk11 hn5 S
     replace hv5 := hv5.2
     subst hv5
     refine l_done ?_
     replace S := S.nk [.own v7 45 2 x8.length (x8.flatMap GEntry.enc), .blk b_p_s [v_p_s_L, .int .i64 r4.2] 25] [(0, .pointer (some ⟨b_p_s, 0, none⟩)), (5, v7), (7, .int .i64 p_many), (8, .int .i64 x3), (30, .bool r4.1)] [true, true] rfl ⟨rfl, rfl, rfl, rfl, rfl, trivial⟩
     refine then_n ?_
     obtain ⟨j5, hj5, h⟩ := joinE h
     refine f_join (fun a w' => ∃ x9 : List GEntry, ∃ x10 : Int, ∃ v10 : Value, j5 x9 x10 = some r ∧ Sx w [b_p_s] nov [.own v10 45 2 x9.length (x9.flatMap GEntry.enc), .blk b_p_s [v_p_s_L, .int .i64 x10] 25] [(0, .pointer (some ⟨b_p_s, 0, none⟩)), (5, v10), (7, .int .i64 p_many), (8, .int .i64 x3)] 43 a w') ?_ ?_
     ·refine f_cond (S.tm rfl) (fun hb4 => ?_) (fun hb4 => ?_)
      ·replace h := iteT h hb4
       refine f_region ?_
       refine lv S (rn_move (S.tm rfl)) rfl ?_; clear S; intro a S
       refine lv S (rn_move (S.tm rfl)) rfl ?_; clear S; intro a S
       refine l_buildSlice S Tryz.underlying49 Tryz.sizeOf9 Tryz.zeroValue9 rfl rfl (pv := [(0, .string k_empty), (1, .string k_ann)]) ⟨rfl, rfl, rfl, rfl, trivial⟩ (cs := [.string k_empty, .string k_ann]) (by kernel_rfl) rfl ?_; clear S; intro a w18 b5 hz5 hk12 S
       obtain ⟨r5, hr5, h⟩ := bindE h
       refine l_enter1 2 S (b := b_p_s) rfl rfl (fun _ => .blk b_p_s [v_p_s_L, .int .i64 r5.2] 25) (fun _ => run_call (vs := [.pointer (some ⟨b_p_s, 0, none⟩), .slice (some ⟨b5, 0, none⟩) 2 2]) ⟨(S.tm rfl), (S.tm rfl), trivial⟩ Tryz.call20) (Stream_Some_ok _ b_p_s v_p_s_L p_s_L (hs_p_s_L.mono (S.le_arg (fp_sub (i := 2) (e := .blk b_p_s [v_p_s_L, .int .i64 r4.2] 25) rfl))) r4.2 (S.holds _ (List.mem_of_getElem? (i := 2) rfl)) (.slice (some ⟨b5, 0, none⟩) 2 2) [k_empty, k_ann] (lit_slcT enc_str S (i := 0) rfl rfl rfl rfl ((ne_fp (i := 2) (j := 0) (e := .blk b_p_s [v_p_s_L, .int .i64 r4.2] 25) (e' := .blk b5 [.string k_empty, .string k_ann] 9) S rfl rfl rfl) _ rfl)) _ hr5) rfl (fun _ _ _ h => ⟨h.1, fun _ hc => by cases hc; rfl⟩) ?_; clear S; intro v11 a w19 hv6 hk13 hn6 S
       replace hv6 := hv6.2
       subst hv6
       refine lv S (rn_move (S.tm rfl)) rfl ?_; clear S; intro a S
       refine l_buildSlice S Tryz.underlying49 Tryz.sizeOf9 Tryz.zeroValue9 rfl rfl (pv := [(0, .string k_A), (1, .string k_ra)]) ⟨rfl, rfl, rfl, rfl, trivial⟩ (cs := [.string k_A, .string k_ra]) (by kernel_rfl) rfl ?_; clear S; intro a w20 b6 hz6 hk14 S
       obtain ⟨r6, hr6, h⟩ := bindE h
       refine l_enter1 3 S (b := b_p_s) rfl rfl (fun _ => .blk b_p_s [v_p_s_L, .int .i64 r6.2] 25) (fun _ => run_call (vs := [.pointer (some ⟨b_p_s, 0, none⟩), .slice (some ⟨b6, 0, none⟩) 2 2]) ⟨(S.tm rfl), (S.tm rfl), trivial⟩ Tryz.call20) (Stream_Some_ok _ b_p_s v_p_s_L p_s_L (hs_p_s_L.mono (S.le_arg (fp_sub (i := 3) (e := .blk b_p_s [v_p_s_L, .int .i64 r5.2] 25) rfl))) r5.2 (S.holds _ (List.mem_of_getElem? (i := 3) rfl)) (.slice (some ⟨b6, 0, none⟩) 2 2) [k_A, k_ra] (lit_slcT enc_str S (i := 0) rfl rfl rfl rfl ((ne_fp (i := 3) (j := 0) (e := .blk b_p_s [v_p_s_L, .int .i64 r5.2] 25) (e' := .blk b6 [.string k_A, .string k_ra] 9) S rfl rfl rfl) _ rfl)) _ hr6) rfl (fun _ _ _ h => ⟨h.1, fun _ hc => by cases hc; rfl⟩) ?_; clear S; intro v12 a w21 hv7 hk15 hn7 S
       replace hv7 := hv7.2
       subst hv7
       refine lv S (rn_bld bt_45 (pv := [(0, .string r5.1), (1, .string r6.1)]) ⟨rfl, (S.tm rfl), rfl, (S.tm rfl), trivial⟩ (cs := [.string r5.1, .string r6.1]) (by kernel_rfl)) rfl ?_; clear S; intro a S
       refine l_buildSlice S Tryz.underlying35 Tryz.sizeOf45 Tryz.zeroValue45 rfl rfl (pv := [(0, .agg #[.string r5.1, .string r6.1])]) ⟨rfl, (S.tm rfl), trivial⟩ (cs := [.string r5.1, .string r6.1]) (by kernel_rfl) rfl ?_; clear S; intro a w22 b7 hz7 hk16 S
       obtain ⟨hc2, h⟩ := chkE h
       refine l_appendT sl_35 GEntry.enc_ok S (S.tm rfl) (i := 3) rfl (S.tm rfl) (j := 0) rfl (ys := [(GEntry.mk r5.1 r6.1)]) rfl rfl rfl rfl (by have := room_lt hc2; omega) rfl ?_; clear S; intro v13 a w23 hk17 S
       refine lv S (rn_assign (S.tm rfl)) rfl ?_; clear S; intro a S
       refine l_done ?_
       replace S := S.nk [.own v13 45 2 (x8 ++ [(GEntry.mk r5.1 r6.1)]).length ((x8 ++ [(GEntry.mk r5.1 r6.1)]).flatMap GEntry.enc), .blk b_p_s [v_p_s_L, .int .i64 r6.2] 25] [(0, .pointer (some ⟨b_p_s, 0, none⟩)), (5, v13), (7, .int .i64 p_many), (8, .int .i64 x3)] [false, false, false, true, true] rfl ⟨rfl, rfl, rfl, rfl, trivial⟩
       refine then_n ?_
       exact ⟨(x8 ++ [(GEntry.mk r5.1 r6.1)]), r6.2, v13, h, S.nf [true, true] rfl ⟨rfl, rfl, rfl, rfl, trivial⟩⟩
      ·replace h := iteF h hb4
       refine wp_skip ?_
       refine then_n ?_
       exact ⟨x8, r4.2, v7, h, S.nf [true, true] rfl ⟨rfl, rfl, rfl, rfl, trivial⟩⟩
     clear S h; rintro a w17 ⟨x9, x10, v10, h, S⟩; rw [hj5] at h; clear hj5 j5
     refine blk_n ?_
     refine then_n ?_
     exact ⟨x9, x10, v10, h, S.nf [true, true] rfl ⟨rfl, rfl, rfl, rfl, trivial⟩⟩
    clear S h; rintro a w3 ⟨x4, x5, v2, h, S⟩; rw [hj2] at h; clear hj2 j2
    refine then_n ?_
    refine f_region ?_
    refine lv S (rn_add (S.tm rfl) rfl) rfl ?_; clear S; intro a S
    refine lv S (rn_move (S.tm rfl)) rfl ?_; clear S; intro a S
    refine l_done ?_
    replace S := S.nk [.own v2 45 2 x4.length (x4.flatMap GEntry.enc), .blk b_p_s [v_p_s_L, .int .i64 x5] 25] [(0, .pointer (some ⟨b_p_s, 0, none⟩)), (5, v2), (7, .int .i64 p_many), (8, .int .i64 (W (x3 + 1)))] [true, true] rfl ⟨rfl, rfl, rfl, rfl, trivial⟩
    refine then_n ?_
    exact ⟨m1, ⟨x4, x5, W (x3 + 1), v2, h, S.nf [true, true] rfl ⟨rfl, rfl, rfl, rfl, trivial⟩⟩, Nat.lt_succ_self _⟩
   ·replace h := iteF h hb1
    refine wp_exit ?_
    refine then_x ?_
    refine then_x ?_
    refine x_same ?_
    refine then_n ?_
    exact ⟨x1, x2, v1, h, S.nf [true, true] rfl ⟨rfl, trivial⟩⟩
 clear S h; rintro a w2 ⟨x1, x2, v1, h, S⟩; rw [hj1] at h; clear hj1 j1
 refine then_n ?_
 refine f_seq ?_
 refine f_region ?_
 refine lv S (rn_move (S.tm rfl)) rfl ?_; clear S; intro a S
 refine lv S (rn_assign (S.tm rfl)) rfl ?_; clear S; intro a S
 refine l_done ?_
 replace S := S.nk [.own v1 45 2 x1.length (x1.flatMap GEntry.enc), .blk b_p_s [v_p_s_L, .int .i64 x2] 25] [(4, v1)] [true, true] rfl ⟨rfl, trivial⟩
 refine then_n ?_
 refine wp_ret ?_
 obtain rfl := Option.some.inj h
 exact f_ret S Tryz.results8 rfl ⟨(S.holds _ (List.mem_of_getElem? (i := 1) rfl)), (own_retX S (i := 0) rfl (fun c hc hh => not_fps S (i := 1) rfl rfl (j := 0) rfl rfl (by simp at hc; subst hc; exact hh)))⟩
theorem tumbref2_in_ok (w : World) (p_n : Int) (p_low : Int) (p_high : Int) (r : Bool) (h : tumbref2_in p_n p_low p_high = r) :
    Calls Tryz.prog 23 [.int .i64 p_n, .int .i64 p_low, .int .i64 p_high].toArray w (Ret w [] fun _ v _ => v = .bool r) := by
 refine f_enter [] [] Tryz.func23 rfl Tryz.ntmps23 rfl (by simp) (by simp [fps]) (by simp [fps]) fun a S => ?_
 unfold tumbref2_in at h
 replace S := S.nk [] [(0, .int .i64 p_n), (1, .int .i64 p_low), (2, .int .i64 p_high)] [] rfl ⟨rfl, rfl, rfl, trivial⟩
 refine f_seq ?_
 refine f_region ?_
 refine lv S (rn_assign rfl) rfl ?_; clear S; intro a S
 refine l_done ?_
 replace S := S.nk [] [(0, .int .i64 p_n), (1, .int .i64 p_low), (2, .int .i64 p_high)] [] rfl ⟨rfl, rfl, rfl, trivial⟩
 refine then_n ?_
 refine f_seq ?_
 refine f_region ?_
 refine lv S (rn_move (S.tm rfl)) rfl ?_; clear S; intro a S
 refine lv S (rn_move (S.tm rfl)) rfl ?_; clear S; intro a S
 refine lv S (rn_leq (S.tm rfl) (S.tm rfl)) rfl ?_; clear S; intro a S
 refine lv S (rn_move (S.tm rfl)) rfl ?_; clear S; intro a S
 refine f_cutm 4 (fun a w' => Keep [] w w' ∧ Sx w [] nov [] [(14, .bool ((decide (p_low ≤ p_n)) && (decide (p_n ≤ p_high))))] 15 a w') ?_ ?_
 ·rcases Bool.eq_false_or_eq_true (decide (p_low ≤ p_n)) with hb1 | hb1
  ·refine l_want S rfl rfl rfl hb1 ?_
   refine lv S (rn_move (S.tm rfl)) rfl ?_; clear S; intro a S
   refine l_want S rfl rfl rfl hb1 ?_
   refine lv S (rn_move (S.tm rfl)) rfl ?_; clear S; intro a S
   refine l_want S rfl rfl rfl hb1 ?_
   refine lv S (rn_leq (S.tm rfl) (S.tm rfl)) rfl ?_; clear S; intro a S
   refine lv S (rn_and_t hb1 (S.tm rfl) (S.tm rfl)) rfl ?_; clear S; intro a S
   refine l_done ?_
   refine then_n ?_
   exact ⟨Keep.refl _ _, S.nf [] rfl ⟨rfl, trivial⟩⟩
  ·refine l_skip S rfl rfl rfl (neq_f hb1) rfl ?_ rfl; clear S; intro a S
   refine l_skip S rfl rfl rfl (neq_f hb1) rfl ?_ rfl; clear S; intro a S
   refine l_skip S rfl rfl rfl (neq_f hb1) rfl ?_ rfl; clear S; intro a S
   refine lv S (rn_and_f (decide (p_n ≤ p_high)) hb1 (S.tm rfl) rfl) rfl ?_; clear S; intro a S
   refine l_done ?_
   refine then_n ?_
   exact ⟨Keep.refl _ _, S.nf [] rfl ⟨rfl, trivial⟩⟩
 clear S; rintro a w1 ⟨hk1, S⟩
 refine lv S (rn_assign (S.tm rfl)) rfl ?_; clear S; intro a S
 refine l_done ?_
 replace S := S.nk [] [(6, .bool ((decide (p_low ≤ p_n)) && (decide (p_n ≤ p_high))))] [] rfl ⟨rfl, trivial⟩
 refine then_n ?_
 refine wp_ret ?_
 subst h
 exact f_ret S Tryz.results23 rfl rfl
theorem tumbref2_Day_ok (w : World) (p_n : Int) (r : Bool) (h : tumbref2_Day p_n = r) :
    Calls Tryz.prog 24 [.int .i64 p_n].toArray w (Ret w [] fun _ v _ => v = .bool r) := by
 refine f_enter [] [] Tryz.func24 rfl Tryz.ntmps24 rfl (by simp) (by simp [fps]) (by simp [fps]) fun a S => ?_
 unfold tumbref2_Day at h
 replace S := S.nk [] [(0, .int .i64 p_n)] [] rfl ⟨rfl, trivial⟩
 refine f_seq ?_
 refine f_region ?_
 refine lv S (rn_assign rfl) rfl ?_; clear S; intro a S
 refine l_done ?_
 replace S := S.nk [] [(0, .int .i64 p_n)] [] rfl ⟨rfl, trivial⟩
 refine then_n ?_
 refine f_seq ?_
 refine f_region ?_
 refine lv S (rn_move (S.tm rfl)) rfl ?_; clear S; intro a S
 refine l_enter S (fun _ => run_call (vs := [.int .i64 p_n, .int .i64 (-40000), .int .i64 4000]) ⟨(S.tm rfl), rfl, rfl, trivial⟩ Tryz.call23) (tumbref2_in_ok _ p_n (-40000) 4000 _ rfl) rfl ?_; clear S; intro v1 a w1 hv1 hk1 hn1 S
 subst hv1
 refine lv S (rn_assign (S.tm rfl)) rfl ?_; clear S; intro a S
 refine l_done ?_
 replace S := S.nk [] [(2, .bool (tumbref2_in p_n (-40000) 4000))] [] rfl ⟨rfl, trivial⟩
 refine then_n ?_
 refine wp_ret ?_
 subst h
 exact f_ret S Tryz.results24 rfl rfl
theorem tumbref2_BoundsFault_ok (w : World) (p_b : GBounds) (r : Int) (h : tumbref2_BoundsFault p_b = r) :
    Calls Tryz.prog 10 [.agg (GBounds.enc p_b).toArray].toArray w (Ret w [] fun _ v _ => v = .int .i64 r) := by
 refine f_enter [] [] Tryz.func10 rfl Tryz.ntmps10 rfl (by simp) (by simp [fps]) (by simp [fps]) fun a S => ?_
 unfold tumbref2_BoundsFault at h
 replace S := S.nk [] [(0, .agg (GBounds.enc p_b).toArray)] [] rfl ⟨rfl, trivial⟩
 refine f_seq ?_
 refine f_region ?_
 refine l_box S (S.tm rfl) (cs := [.int .i64 p_b.Races, .int .i64 p_b.Club, .int .i64 p_b.Age, .int .i64 p_b.Day]) rfl rfl ?_; clear S; intro a w1 b1 hz1 hk1 S
 refine lv S (rn_assign rfl) rfl ?_; clear S; intro a S
 refine l_done ?_
 replace S := S.nk [.blk b1 [.int .i64 p_b.Races, .int .i64 p_b.Club, .int .i64 p_b.Age, .int .i64 p_b.Day] 33] [(1, .pointer (some ⟨b1, 0, none⟩))] [true] rfl ⟨rfl, trivial⟩
 refine then_n ?_
 refine f_seq ?_
 refine wp_block ?_
 refine f_seq ?_
 refine f_region ?_
 refine lv S (rn_fld fa_33_0 (S.tm rfl)) rfl ?_; clear S; intro a S
 refine lv S (rn_load Tryz.isAgg3 (S.tm rfl) (S.cell (i := 0) rfl rfl)) rfl ?_; clear S; intro a S
 refine l_enter S (fun _ => run_call (vs := [.int .i64 p_b.Races, .int .i64 0, .int .i64 100]) ⟨(S.tm rfl), rfl, rfl, trivial⟩ Tryz.call23) (tumbref2_in_ok _ p_b.Races 0 100 _ rfl) rfl ?_; clear S; intro v1 a w2 hv1 hk2 hn1 S
 subst hv1
 refine lv S (rn_not (S.tm rfl)) rfl ?_; clear S; intro a S
 refine lv S (rn_move (S.tm rfl)) rfl ?_; clear S; intro a S
 refine f_cutm 5 (fun a w' => Keep [] w2 w' ∧ Sx w [] nov [.blk b1 [.int .i64 p_b.Races, .int .i64 p_b.Club, .int .i64 p_b.Age, .int .i64 p_b.Day] 33] [(1, .pointer (some ⟨b1, 0, none⟩)), (13, .bool ((!(tumbref2_in p_b.Races 0 100)) || (!(tumbref2_in p_b.Club 0 1500))))] 24 a w') ?_ ?_
 ·rcases Bool.eq_false_or_eq_true (!(tumbref2_in p_b.Races 0 100)) with hb1 | hb1
  ·refine l_skip S rfl rfl rfl (neq_t hb1) rfl ?_ rfl; clear S; intro a S
   refine l_skip S rfl rfl rfl (neq_t hb1) rfl ?_ rfl; clear S; intro a S
   refine l_skip S rfl rfl rfl (neq_t hb1) rfl ?_ rfl; clear S; intro a S
   refine l_skip S rfl rfl rfl (neq_t hb1) rfl ?_ rfl; clear S; intro a S
   refine lv S (rn_or_t (!(tumbref2_in p_b.Club 0 1500)) hb1 (S.tm rfl) rfl) rfl ?_; clear S; intro a S
   refine l_done ?_
   refine then_n ?_
   exact ⟨Keep.refl _ _, S.nf [true] rfl ⟨rfl, rfl, trivial⟩⟩
  ·refine l_want S rfl rfl rfl hb1 ?_
   refine lv S (rn_fld fa_33_1 (S.tm rfl)) rfl ?_; clear S; intro a S
   refine l_want S rfl rfl rfl hb1 ?_
   refine lv S (rn_load Tryz.isAgg3 (S.tm rfl) (S.cell (i := 0) rfl rfl)) rfl ?_; clear S; intro a S
   refine l_want S rfl rfl rfl hb1 ?_
   refine l_enter S (fun _ => run_call (vs := [.int .i64 p_b.Club, .int .i64 0, .int .i64 1500]) ⟨(S.tm rfl), rfl, rfl, trivial⟩ Tryz.call23) (tumbref2_in_ok _ p_b.Club 0 1500 _ rfl) rfl ?_; clear S; intro v2 a w4 hv2 hk3 hn2 S
   subst hv2
   refine l_want S rfl rfl rfl hb1 ?_
   refine lv S (rn_not (S.tm rfl)) rfl ?_; clear S; intro a S
   refine lv S (rn_or_f hb1 (S.tm rfl) (S.tm rfl)) rfl ?_; clear S; intro a S
   refine l_done ?_
   refine then_n ?_
   exact ⟨hk3, S.nf [true] rfl ⟨rfl, rfl, trivial⟩⟩
 clear S; rintro a w3 ⟨hk4, S⟩
 refine lv S (rn_assign (S.tm rfl)) rfl ?_; clear S; intro a S
 refine l_done ?_
 replace S := S.nk [.blk b1 [.int .i64 p_b.Races, .int .i64 p_b.Club, .int .i64 p_b.Age, .int .i64 p_b.Day] 33] [(1, .pointer (some ⟨b1, 0, none⟩)), (3, .bool ((!(tumbref2_in p_b.Races 0 100)) || (!(tumbref2_in p_b.Club 0 1500))))] [true] rfl ⟨rfl, rfl, trivial⟩
 refine then_n ?_
 refine f_cond (S.tm rfl) (fun hb2 => ?_) (fun hb2 => ?_)
 ·replace h := iteT h hb2
  refine f_seq ?_
  refine f_region ?_
  refine lv S (rn_assign rfl) rfl ?_; clear S; intro a S
  refine l_done ?_
  replace S := S.nk [] [(2, .int .i64 1)] [false] rfl ⟨rfl, trivial⟩
  refine then_n ?_
  refine wp_ret ?_
  refine blk_r ?_
  refine then_r ?_
  subst h
  exact f_ret S Tryz.results10 rfl rfl
 ·replace h := iteF h hb2
  refine f_seq ?_
  refine f_region ?_
  refine lv S (rn_fld fa_33_2 (S.tm rfl)) rfl ?_; clear S; intro a S
  refine lv S (rn_load Tryz.isAgg3 (S.tm rfl) (S.cell (i := 0) rfl rfl)) rfl ?_; clear S; intro a S
  refine l_enter S (fun _ => run_call (vs := [.int .i64 p_b.Age, .int .i64 1, .int .i64 2]) ⟨(S.tm rfl), rfl, rfl, trivial⟩ Tryz.call23) (tumbref2_in_ok _ p_b.Age 1 2 _ rfl) rfl ?_; clear S; intro v3 a w5 hv3 hk5 hn3 S
  subst hv3
  refine lv S (rn_not (S.tm rfl)) rfl ?_; clear S; intro a S
  refine lv S (rn_assign (S.tm rfl)) rfl ?_; clear S; intro a S
  refine l_done ?_
  replace S := S.nk [.blk b1 [.int .i64 p_b.Races, .int .i64 p_b.Club, .int .i64 p_b.Age, .int .i64 p_b.Day] 33] [(1, .pointer (some ⟨b1, 0, none⟩)), (14, .bool (!(tumbref2_in p_b.Age 1 2)))] [true] rfl ⟨rfl, rfl, trivial⟩
  refine then_n ?_
  refine f_cond (S.tm rfl) (fun hb3 => ?_) (fun hb3 => ?_)
  ·replace h := iteT h hb3
   refine f_seq ?_
   refine f_region ?_
   refine lv S (rn_assign rfl) rfl ?_; clear S; intro a S
   refine l_done ?_
   replace S := S.nk [] [(2, .int .i64 4)] [false] rfl ⟨rfl, trivial⟩
   refine then_n ?_
   refine wp_ret ?_
   refine blk_r ?_
   refine then_r ?_
   subst h
   exact f_ret S Tryz.results10 rfl rfl
  ·replace h := iteF h hb3
   refine f_seq ?_
   refine f_region ?_
   refine lv S (rn_fld fa_33_3 (S.tm rfl)) rfl ?_; clear S; intro a S
   refine lv S (rn_load Tryz.isAgg3 (S.tm rfl) (S.cell (i := 0) rfl rfl)) rfl ?_; clear S; intro a S
   refine l_enter S (fun _ => run_call (vs := [.int .i64 p_b.Day]) ⟨(S.tm rfl), trivial⟩ Tryz.call24) (tumbref2_Day_ok _ p_b.Day _ rfl) rfl ?_; clear S; intro v4 a w6 hv4 hk6 hn4 S
   subst hv4
   refine lv S (rn_not (S.tm rfl)) rfl ?_; clear S; intro a S
   refine lv S (rn_assign (S.tm rfl)) rfl ?_; clear S; intro a S
   refine l_done ?_
   replace S := S.nk [] [(19, .bool (!(tumbref2_Day p_b.Day)))] [false] rfl ⟨rfl, trivial⟩
   refine then_n ?_
   refine f_cond (S.tm rfl) (fun hb4 => ?_) (fun hb4 => ?_)
   ·replace h := iteT h hb4
    refine f_seq ?_
    refine f_region ?_
    refine lv S (rn_assign rfl) rfl ?_; clear S; intro a S
    refine l_done ?_
    replace S := S.nk [] [(2, .int .i64 1)] [] rfl ⟨rfl, trivial⟩
    refine then_n ?_
    refine wp_ret ?_
    refine blk_r ?_
    refine then_r ?_
    subst h
    exact f_ret S Tryz.results10 rfl rfl
   ·replace h := iteF h hb4
    refine wp_skip ?_
    refine blk_n ?_
    refine then_n ?_
    refine f_seq ?_
    refine f_region ?_
    refine lv S (rn_assign rfl) rfl ?_; clear S; intro a S
    refine l_done ?_
    replace S := S.nk [] [(2, .int .i64 0)] [] rfl ⟨rfl, trivial⟩
    refine then_n ?_
    refine wp_ret ?_
    subst h
    exact f_ret S Tryz.results10 rfl rfl
theorem strings_IndexByte_ok (w : World) (s : ByteArray) (c : Int) (r : Int) (h : strings_IndexByte s c = r) : Calls Tryz.prog 63 [.string s, .int .u8 c].toArray w (Ret w [] fun _ v _ => v = .int .i64 r) := by
  subst h
  exact ret_of_same (Any.strings_IndexByte Tryz.lays137 s c w)
theorem tumbref2_only_ok (w : World) (p_s : ByteArray) (p_some : ByteArray) (r : Bool) (h : tumbref2_only p_s p_some = some r) :
    Calls Tryz.prog 39 [.string p_s, .string p_some].toArray w (Ret w [] fun _ v _ => v = .bool r) := by
 refine f_enter [] [] Tryz.func39 rfl Tryz.ntmps39 rfl (by simp) (by simp [fps]) (by simp [fps]) fun a S => ?_
 unfold tumbref2_only at h
 replace S := S.nk [] [(0, .string p_s), (1, .string p_some)] [] rfl ⟨rfl, rfl, trivial⟩
 refine f_seq ?_
 refine f_region ?_
 refine lv S (rn_assign rfl) rfl ?_; clear S; intro a S
 refine l_done ?_
 replace S := S.nk [] [(0, .string p_s), (1, .string p_some)] [] rfl ⟨rfl, rfl, trivial⟩
 refine then_n ?_
 refine f_seq ?_
 refine f_seq ?_
 refine f_region ?_
 refine lv S (rn_move (S.tm rfl)) rfl ?_; clear S; intro a S
 refine lv S (rn_len_str Tryz.underlying9 (S.tm rfl)) rfl ?_; clear S; intro a S
 refine lv S (rn_move rfl) rfl ?_; clear S; intro a S
 refine l_done ?_
 replace S := S.nk [] [(0, .string p_s), (1, .string p_some), (7, .int .i64 (p_s.size : Int)), (8, .int .i64 0)] [] rfl ⟨rfl, rfl, rfl, rfl, trivial⟩
 refine then_n ?_
 obtain ⟨j1, hj1, h⟩ := joinE h
 refine f_join (fun a w' => j1 = some r ∧ Sx w [] nov [] [] 18 a w') ?_ ?_
 ·refine wp_block ?_
  refine f_loop (fun (m1 : Nat) a w' => ∃ x1 : Int, tumbref2_only_l1 p_s p_some j1 m1 x1 = some r ∧ Sx w [] nov [] [(0, .string p_s), (1, .string p_some), (7, .int .i64 (p_s.size : Int)), (8, .int .i64 x1)] 18 a w') id (((p_s.size : Int) - 0).toNat + 2) ⟨0, h, S.nf [] rfl ⟨rfl, rfl, rfl, rfl, trivial⟩⟩ ?_
  clear S h; rintro m1 a w1 ⟨x1, h, S⟩
  cases m1 with
  | zero => rw [tumbref2_only_l1.eq_1] at h; cases h
  | succ m1 =>
   rw [tumbref2_only_l1.eq_2] at h
   refine f_seq ?_
   refine f_region ?_
   refine lv S (rn_lss (S.tm rfl) (S.tm rfl)) rfl ?_; clear S; intro a S
   refine l_done ?_
   replace S := S.nk [] [(0, .string p_s), (1, .string p_some), (7, .int .i64 (p_s.size : Int)), (8, .int .i64 x1), (9, .bool (decide (x1 < (p_s.size : Int))))] [] rfl ⟨rfl, rfl, rfl, rfl, rfl, trivial⟩
   refine then_n ?_
   refine f_seq ?_
   refine f_cond (S.tm rfl) (fun hb1 => ?_) (fun hb1 => ?_)
   ·replace h := iteT h hb1
    refine wp_skip ?_
    refine then_n ?_
    refine f_seq ?_
    refine wp_block ?_
    refine f_seq ?_
    refine f_region ?_
    refine lv S (rn_move (S.tm rfl)) rfl ?_; clear S; intro a S
    refine lv S (rn_assign (S.tm rfl)) rfl ?_; clear S; intro a S
    refine l_done ?_
    replace S := S.nk [] [(0, .string p_s), (1, .string p_some), (5, .int .i64 x1), (7, .int .i64 (p_s.size : Int)), (8, .int .i64 x1)] [] rfl ⟨rfl, rfl, rfl, rfl, rfl, trivial⟩
    refine then_n ?_
    refine f_seq ?_
    refine f_region ?_
    refine lv S (rn_move (S.tm rfl)) rfl ?_; clear S; intro a S
    refine lv S (rn_move (S.tm rfl)) rfl ?_; clear S; intro a S
    refine lv S (rn_move (S.tm rfl)) rfl ?_; clear S; intro a S
    obtain ⟨hc1, h⟩ := chkE h
    refine lv S (rn_sindexT Tryz.underlying9 (S.tm rfl) (S.tm rfl) hc1) rfl ?_; clear S; intro a S
    refine l_enter S (fun _ => run_call (vs := [.string p_some, .int .u8 (sbyte p_s x1)]) ⟨(S.tm rfl), (S.tm rfl), trivial⟩ Tryz.call63) (strings_IndexByte_ok _ p_some (sbyte p_s x1) _ rfl) rfl ?_; clear S; intro v1 a w3 hv1 hk1 hn1 S
    subst hv1
    refine lv S (rn_lss (S.tm rfl) rfl) rfl ?_; clear S; intro a S
    refine l_done ?_
    replace S := S.nk [] [(0, .string p_s), (1, .string p_some), (7, .int .i64 (p_s.size : Int)), (8, .int .i64 x1), (16, .bool (decide ((strings_IndexByte p_some (sbyte p_s x1)) < 0)))] [] rfl ⟨rfl, rfl, rfl, rfl, rfl, trivial⟩
    refine then_n ?_
    refine f_cond (S.tm rfl) (fun hb2 => ?_) (fun hb2 => ?_)
    ·replace h := iteT h hb2
     refine f_seq ?_
     refine f_region ?_
     refine lv S (rn_assign rfl) rfl ?_; clear S; intro a S
     refine l_done ?_
     replace S := S.nk [] [(4, .bool false)] [] rfl ⟨rfl, trivial⟩
     refine then_n ?_
     refine wp_ret ?_
     refine blk_r ?_
     refine then_r ?_
     refine then_r ?_
     refine blk_r ?_
     refine then_r ?_
     refine then_r ?_
     obtain rfl := Option.some.inj h
     exact f_ret S Tryz.results39 rfl rfl
    ·replace h := iteF h hb2
     refine wp_skip ?_
     refine blk_n ?_
     refine then_n ?_
     refine f_region ?_
     refine lv S (rn_add (S.tm rfl) rfl) rfl ?_; clear S; intro a S
     refine lv S (rn_move (S.tm rfl)) rfl ?_; clear S; intro a S
     refine l_done ?_
     replace S := S.nk [] [(0, .string p_s), (1, .string p_some), (7, .int .i64 (p_s.size : Int)), (8, .int .i64 (W (x1 + 1)))] [] rfl ⟨rfl, rfl, rfl, rfl, trivial⟩
     refine then_n ?_
     exact ⟨m1, ⟨W (x1 + 1), h, S.nf [] rfl ⟨rfl, rfl, rfl, rfl, trivial⟩⟩, Nat.lt_succ_self _⟩
   ·replace h := iteF h hb1
    refine wp_exit ?_
    refine then_x ?_
    refine then_x ?_
    refine x_same ?_
    refine then_n ?_
    exact ⟨h, S.nf [] rfl trivial⟩
 clear S h; rintro a w2 ⟨h, S⟩; rw [hj1] at h; clear hj1 j1
 refine then_n ?_
 refine f_seq ?_
 refine f_region ?_
 refine lv S (rn_assign rfl) rfl ?_; clear S; intro a S
 refine l_done ?_
 replace S := S.nk [] [(4, .bool true)] [] rfl ⟨rfl, trivial⟩
 refine then_n ?_
 refine wp_ret ?_
 obtain rfl := Option.some.inj h
 exact f_ret S Tryz.results39 rfl rfl
theorem tumbref2_Key_ok (w : World) (p_s : ByteArray) (r : Bool) (h : tumbref2_Key p_s = some r) :
    Calls Tryz.prog 25 [.string p_s].toArray w (Ret w [] fun _ v _ => v = .bool r) := by
 refine f_enter [] [] Tryz.func25 rfl Tryz.ntmps25 rfl (by simp) (by simp [fps]) (by simp [fps]) fun a S => ?_
 unfold tumbref2_Key at h
 replace S := S.nk [] [(0, .string p_s)] [] rfl ⟨rfl, trivial⟩
 refine f_seq ?_
 refine f_region ?_
 refine lv S (rn_assign rfl) rfl ?_; clear S; intro a S
 refine l_done ?_
 replace S := S.nk [] [(0, .string p_s)] [] rfl ⟨rfl, trivial⟩
 refine then_n ?_
 refine f_seq ?_
 refine f_region ?_
 refine lv S (rn_move (S.tm rfl)) rfl ?_; clear S; intro a S
 refine lv S (rn_len_str Tryz.underlying9 (S.tm rfl)) rfl ?_; clear S; intro a S
 refine l_enter S (fun _ => run_call (vs := [.int .i64 (p_s.size : Int), .int .i64 1, .int .i64 40]) ⟨(S.tm rfl), rfl, rfl, trivial⟩ Tryz.call23) (tumbref2_in_ok _ (p_s.size : Int) 1 40 _ rfl) rfl ?_; clear S; intro v1 a w1 hv1 hk1 hn1 S
 subst hv1
 refine lv S (rn_move (S.tm rfl)) rfl ?_; clear S; intro a S
 obtain ⟨j1, hj1, h⟩ := joinE h
 refine f_cutm 4 (fun a w' => ∃ c1, j1 c1 = some r ∧ Keep [] w1 w' ∧ Sx w [] nov [] [(0, .string p_s), (10, .bool c1)] 15 a w') ?_ ?_
 ·rcases Bool.eq_false_or_eq_true (tumbref2_in (p_s.size : Int) 1 40) with hb1 | hb1
  ·replace h := iteT h hb1
   refine l_want S rfl rfl rfl hb1 ?_
   refine lv S (rn_move (S.tm rfl)) rfl ?_; clear S; intro a S
   refine l_want S rfl rfl rfl hb1 ?_
   obtain ⟨hc1, h⟩ := chkE h
   refine lv S (rn_scutTh Tryz.underlying9 (S.tm rfl) rfl hc1) rfl ?_; clear S; intro a S
   refine l_want S rfl rfl rfl hb1 ?_
   obtain ⟨r1, hr1, h⟩ := bindE h
   refine l_enter S (fun _ => run_call (vs := [.string (scut p_s 0 1), .string k_abcdefghijklmnopqrstuvwxyz]) ⟨(S.tm rfl), rfl, trivial⟩ Tryz.call39) (tumbref2_only_ok _ (scut p_s 0 1) k_abcdefghijklmnopqrstuvwxyz _ hr1) rfl ?_; clear S; intro v2 a w3 hv2 hk2 hn2 S
   subst hv2
   refine lv S (rn_and_t hb1 (S.tm rfl) (S.tm rfl)) rfl ?_; clear S; intro a S
   refine l_done ?_
   refine then_n ?_
   exact ⟨_, h, hk2, S.nf [] rfl ⟨rfl, rfl, trivial⟩⟩
  ·replace h := iteF h hb1
   refine l_skip S rfl rfl rfl (neq_f hb1) rfl ?_ rfl; clear S; intro a S
   refine l_skip S rfl rfl rfl (neq_f hb1) rfl ?_ rfl; clear S; intro a S
   refine l_skip S rfl rfl rfl (neq_f hb1) rfl ?_ rfl; clear S; intro a S
   refine lv S (rn_and_f true hb1 (S.tm rfl) rfl) rfl ?_; clear S; intro a S
   refine l_done ?_
   refine then_n ?_
   exact ⟨_, h, Keep.refl _ _, S.nf [] rfl ⟨rfl, rfl, trivial⟩⟩
 clear S h; rintro a w2 ⟨c1, h, hk3, S⟩; rw [hj1] at h; clear hj1 j1
 refine lv S (rn_move (S.tm rfl)) rfl ?_; clear S; intro a S
 obtain ⟨j2, hj2, h⟩ := joinE h
 refine f_cutm 3 (fun a w' => ∃ c2, j2 c2 = some r ∧ Keep [] w2 w' ∧ Sx w [] nov [] [(14, .bool c2)] 15 a w') ?_ ?_
 ·rcases Bool.eq_false_or_eq_true c1 with hb2 | hb2
  ·replace h := iteT h hb2
   refine l_want S rfl rfl rfl hb2 ?_
   refine lv S (rn_move (S.tm rfl)) rfl ?_; clear S; intro a S
   refine l_want S rfl rfl rfl hb2 ?_
   obtain ⟨r2, hr2, h⟩ := bindE h
   refine l_enter S (fun _ => run_call (vs := [.string p_s, .string k_abcdefghijkl_h0e2e2c]) ⟨(S.tm rfl), rfl, trivial⟩ Tryz.call39) (tumbref2_only_ok _ p_s k_abcdefghijkl_h0e2e2c _ hr2) rfl ?_; clear S; intro v3 a w5 hv3 hk4 hn3 S
   subst hv3
   refine lv S (rn_and_t hb2 (S.tm rfl) (S.tm rfl)) rfl ?_; clear S; intro a S
   refine l_done ?_
   refine then_n ?_
   exact ⟨_, h, hk4, S.nf [] rfl ⟨rfl, trivial⟩⟩
  ·replace h := iteF h hb2
   refine l_skip S rfl rfl rfl (neq_f hb2) rfl ?_ rfl; clear S; intro a S
   refine l_skip S rfl rfl rfl (neq_f hb2) rfl ?_ rfl; clear S; intro a S
   refine lv S (rn_and_f true hb2 (S.tm rfl) rfl) rfl ?_; clear S; intro a S
   refine l_done ?_
   refine then_n ?_
   exact ⟨_, h, Keep.refl _ _, S.nf [] rfl ⟨rfl, trivial⟩⟩
 clear S h; rintro a w4 ⟨c2, h, hk5, S⟩; rw [hj2] at h; clear hj2 j2
 refine lv S (rn_assign (S.tm rfl)) rfl ?_; clear S; intro a S
 refine l_done ?_
 replace S := S.nk [] [(2, .bool c2)] [] rfl ⟨rfl, trivial⟩
 refine then_n ?_
 refine wp_ret ?_
 obtain rfl := Option.some.inj h
 exact f_ret S Tryz.results25 rfl rfl
theorem tumbref2_EntriesFault_ok (w : World) (v_p_l : Value) (p_l : List GEntry) (hs_p_l : Slc (view w []) 2 v_p_l (p_l.map GEntry.enc)) (r : Int) (h : tumbref2_EntriesFault p_l = some r) :
    Calls Tryz.prog 11 [v_p_l].toArray w (Ret w [] fun _ v _ => v = .int .i64 r) := by
 refine f_enter [] [] Tryz.func11 rfl Tryz.ntmps11 rfl (by simp) (by simp [fps]) (by simp [fps]) fun a S => ?_
 unfold tumbref2_EntriesFault at h
 replace S := S.nk [] [(0, v_p_l)] [] rfl ⟨rfl, trivial⟩
 refine f_seq ?_
 refine f_region ?_
 refine lv S (rn_assign rfl) rfl ?_; clear S; intro a S
 refine l_done ?_
 replace S := S.nk [] [(0, v_p_l)] [] rfl ⟨rfl, trivial⟩
 refine then_n ?_
 refine f_seq ?_
 refine f_seq ?_
 refine f_region ?_
 refine lv S (rn_move (S.tm rfl)) rfl ?_; clear S; intro a S
 refine lv S (rn_lenT sl_35 (S.tm rfl) (slc_len hs_p_l)) rfl ?_; clear S; intro a S
 refine lv S (rn_gtr (S.tm rfl) rfl) rfl ?_; clear S; intro a S
 refine l_done ?_
 replace S := S.nk [] [(0, v_p_l), (9, .bool (decide (1500 < (p_l.length : Int))))] [] rfl ⟨rfl, rfl, trivial⟩
 refine then_n ?_
 refine f_cond (S.tm rfl) (fun hb1 => ?_) (fun hb1 => ?_)
 ·replace h := iteT h hb1
  refine f_seq ?_
  refine f_region ?_
  refine lv S (rn_assign rfl) rfl ?_; clear S; intro a S
  refine l_done ?_
  replace S := S.nk [] [(2, .int .i64 2)] [] rfl ⟨rfl, trivial⟩
  refine then_n ?_
  refine wp_ret ?_
  refine then_r ?_
  obtain rfl := Option.some.inj h
  exact f_ret S Tryz.results11 rfl rfl
 ·replace h := iteF h hb1
  refine wp_skip ?_
  refine then_n ?_
  refine f_seq ?_
  refine f_seq ?_
  refine f_region ?_
  refine lv S (rn_move (S.tm rfl)) rfl ?_; clear S; intro a S
  refine lv S (rn_lenT sl_35 (S.tm rfl) (slc_len hs_p_l)) rfl ?_; clear S; intro a S
  refine lv S (rn_move rfl) rfl ?_; clear S; intro a S
  refine l_done ?_
  replace S := S.nk [] [(0, v_p_l), (10, v_p_l), (11, .int .i64 (p_l.length : Int)), (12, .int .i64 0)] [] rfl ⟨rfl, rfl, rfl, rfl, trivial⟩
  refine then_n ?_
  obtain ⟨j1, hj1, h⟩ := joinE h
  refine f_join (fun a w' => j1 = some r ∧ Sx w [] nov [] [(0, v_p_l)] 40 a w') ?_ ?_
  ·refine wp_block ?_
   refine f_loop (fun (ys1 : List GEntry) a w' => ∃ i1 : Nat, (∃ dn, p_l = dn ++ ys1 ∧ dn.length = i1) ∧ tumbref2_EntriesFault_l1 j1 ys1 i1 = some r ∧ Sx w [] nov [] [(0, v_p_l), (10, v_p_l), (11, .int .i64 (p_l.length : Int)), (12, .int .i64 (i1 : Int))] 40 a w') List.length p_l ⟨0, ⟨[], rfl, rfl⟩, h, S.nf [] rfl ⟨rfl, rfl, rfl, rfl, trivial⟩⟩ ?_
   clear S h; rintro ys1 a w1 ⟨i1, ⟨dn, hd1, hi1⟩, h, S⟩
   cases ys1 with
   | nil =>
    rw [tumbref2_EntriesFault_l1.eq_1] at h
    refine f_seq ?_
    refine f_region ?_
    refine lv S (rn_lss (S.tm rfl) (S.tm rfl)) rfl ?_; clear S; intro a S
    refine l_done ?_
    replace S := S.nk [] [(0, v_p_l), (10, v_p_l), (11, .int .i64 (p_l.length : Int)), (12, .int .i64 (i1 : Int)), (13, .bool (decide ((i1 : Int) < (p_l.length : Int))))] [] rfl ⟨rfl, rfl, rfl, rfl, rfl, trivial⟩
    refine then_n ?_
    refine f_seq ?_
    refine wp_cond_false ((S.tm rfl).trans (congrArg Value.bool (rng_nil hd1 hi1))) ?_
    refine wp_exit ?_
    refine then_x ?_
    refine then_x ?_
    refine x_same ?_
    refine then_n ?_
    exact ⟨h, S.nf [] rfl ⟨rfl, trivial⟩⟩
   | cons y1 ys1 =>
    rw [tumbref2_EntriesFault_l1.eq_2] at h
    refine f_seq ?_
    refine f_region ?_
    refine lv S (rn_lss (S.tm rfl) (S.tm rfl)) rfl ?_; clear S; intro a S
    refine l_done ?_
    replace S := S.nk [] [(0, v_p_l), (10, v_p_l), (11, .int .i64 (p_l.length : Int)), (12, .int .i64 (i1 : Int)), (13, .bool (decide ((i1 : Int) < (p_l.length : Int))))] [] rfl ⟨rfl, rfl, rfl, rfl, rfl, trivial⟩
    refine then_n ?_
    refine f_seq ?_
    refine wp_cond_true ((S.tm rfl).trans (congrArg Value.bool (rng_cons hd1 hi1))) ?_
    refine wp_skip ?_
    refine then_n ?_
    refine f_seq ?_
    refine wp_block ?_
    refine f_seq ?_
    refine f_region ?_
    obtain ⟨b1, o1, hm1, hr1⟩ := rn_indexT (a := a) (x := .tmp 10) (y := .tmp 12) (ty := 0) sl_35 hs_p_l (get_mid hd1 hi1) rfl (S.tm rfl) (S.tm rfl)
    refine lv S (hr1 _) rfl ?_; clear S; intro a S
    clear hr1
    refine lv S (rn_ldA Tryz.isAgg45 Tryz.sizeOf45 (off := o1) (o := 0) (part := [.string y1.Who, .string y1.Race]) rfl rfl (S.tm rfl) (hm1.at S.emb0)) rfl ?_; clear S; intro a S
    refine l_alloc S Tryz.zeroValue45 (cs := [.string k_empty, .string k_empty]) rfl rfl ?_; clear S; intro a w3 b2 hz1 hk1 S
    refine l_store S (S.tm rfl) (S.tm rfl) (i := 0) (off := 0) rfl Tryz.sizeOf45 (vs := [.string y1.Who, .string y1.Race]) rfl rfl rfl rfl ?_; clear S; intro w4 hk2 S
    refine l_done ?_
    replace S := S.nk [.blk b2 [.string y1.Who, .string y1.Race] 45] [(0, v_p_l), (4, .pointer (some ⟨b2, 0, none⟩)), (10, v_p_l), (11, .int .i64 (p_l.length : Int)), (12, .int .i64 (i1 : Int))] [true] rfl ⟨rfl, rfl, rfl, rfl, rfl, trivial⟩
    refine then_n ?_
    refine f_seq ?_
    refine f_region ?_
    refine lv S (rn_fld fa_45_0 (S.tm rfl)) rfl ?_; clear S; intro a S
    refine lv S (rn_load Tryz.isAgg9 (S.tm rfl) (S.cell (i := 0) rfl rfl)) rfl ?_; clear S; intro a S
    obtain ⟨r1, hr2, h⟩ := bindE h
    refine l_enter S (fun _ => run_call (vs := [.string y1.Who]) ⟨(S.tm rfl), trivial⟩ Tryz.call25) (tumbref2_Key_ok _ y1.Who _ hr2) rfl ?_; clear S; intro v1 a w5 hv1 hk3 hn1 S
    subst hv1
    refine lv S (rn_not (S.tm rfl)) rfl ?_; clear S; intro a S
    refine lv S (rn_move (S.tm rfl)) rfl ?_; clear S; intro a S
    obtain ⟨j2, hj2, h⟩ := joinE h
    refine f_cutm 5 (fun a w' => ∃ c1, j2 c1 = some r ∧ Keep [] w5 w' ∧ Sx w [] nov [.blk b2 [.string y1.Who, .string y1.Race] 45] [(0, v_p_l), (10, v_p_l), (11, .int .i64 (p_l.length : Int)), (12, .int .i64 (i1 : Int)), (25, .bool c1)] 40 a w') ?_ ?_
    ·rcases Bool.eq_false_or_eq_true (!r1) with hb2 | hb2
     ·replace h := iteT h hb2
      refine l_skip S rfl rfl rfl (neq_t hb2) rfl ?_ rfl; clear S; intro a S
      refine l_skip S rfl rfl rfl (neq_t hb2) rfl ?_ rfl; clear S; intro a S
      refine l_skip S rfl rfl rfl (neq_t hb2) rfl ?_ rfl; clear S; intro a S
      refine l_skip S rfl rfl rfl (neq_t hb2) rfl ?_ rfl; clear S; intro a S
      refine lv S (rn_or_t true hb2 (S.tm rfl) rfl) rfl ?_; clear S; intro a S
      refine l_done ?_
      refine then_n ?_
      exact ⟨_, h, Keep.refl _ _, S.nf [true] rfl ⟨rfl, rfl, rfl, rfl, rfl, trivial⟩⟩
     ·replace h := iteF h hb2
      refine l_want S rfl rfl rfl hb2 ?_
      refine lv S (rn_fld fa_45_1 (S.tm rfl)) rfl ?_; clear S; intro a S
      refine l_want S rfl rfl rfl hb2 ?_
      refine lv S (rn_load Tryz.isAgg9 (S.tm rfl) (S.cell (i := 0) rfl rfl)) rfl ?_; clear S; intro a S
      refine l_want S rfl rfl rfl hb2 ?_
      obtain ⟨r2, hr3, h⟩ := bindE h
      refine l_enter S (fun _ => run_call (vs := [.string y1.Race]) ⟨(S.tm rfl), trivial⟩ Tryz.call25) (tumbref2_Key_ok _ y1.Race _ hr3) rfl ?_; clear S; intro v2 a w7 hv2 hk4 hn2 S
      subst hv2
      refine l_want S rfl rfl rfl hb2 ?_
      refine lv S (rn_not (S.tm rfl)) rfl ?_; clear S; intro a S
      refine lv S (rn_or_f hb2 (S.tm rfl) (S.tm rfl)) rfl ?_; clear S; intro a S
      refine l_done ?_
      refine then_n ?_
      exact ⟨_, h, hk4, S.nf [true] rfl ⟨rfl, rfl, rfl, rfl, rfl, trivial⟩⟩
    clear S h; rintro a w6 ⟨c1, h, hk5, S⟩; rw [hj2] at h; clear hj2 j2
    refine l_done ?_
    replace S := S.nk [] [(0, v_p_l), (10, v_p_l), (11, .int .i64 (p_l.length : Int)), (12, .int .i64 (i1 : Int)), (25, .bool c1)] [false] rfl ⟨rfl, rfl, rfl, rfl, rfl, trivial⟩
    refine then_n ?_
    refine f_cond (S.tm rfl) (fun hb3 => ?_) (fun hb3 => ?_)
    ·replace h := iteT h hb3
     refine f_seq ?_
     refine f_region ?_
     refine lv S (rn_assign rfl) rfl ?_; clear S; intro a S
     refine l_done ?_
     replace S := S.nk [] [(2, .int .i64 5)] [] rfl ⟨rfl, trivial⟩
     refine then_n ?_
     refine wp_ret ?_
     refine blk_r ?_
     refine then_r ?_
     refine then_r ?_
     refine blk_r ?_
     refine then_r ?_
     refine then_r ?_
     obtain rfl := Option.some.inj h
     exact f_ret S Tryz.results11 rfl rfl
    ·replace h := iteF h hb3
     refine wp_skip ?_
     refine blk_n ?_
     refine then_n ?_
     refine f_region ?_
     refine lv S (rn_add (S.tm rfl) rfl) rfl ?_; clear S; intro a S
     refine lv S (rn_move (S.tm rfl)) rfl ?_; clear S; intro a S
     refine l_done ?_
     replace S := S.nk [] [(0, v_p_l), (10, v_p_l), (11, .int .i64 (p_l.length : Int)), (12, .int .i64 (W ((i1 : Int) + 1)))] [] rfl ⟨rfl, rfl, rfl, rfl, trivial⟩
     refine then_n ?_
     exact ⟨ys1, ⟨i1 + 1, ⟨_, (hd1).trans (List.append_cons _ _ _), by simp [hi1]⟩, h, S.nf [] rfl ⟨rfl, rfl, rfl, (congrArg (fun z => some (Value.int .i64 z)) (rng_next hd1 hi1 (slc_max hs_p_l))), trivial⟩⟩, Nat.lt_succ_self _⟩
  clear S h; rintro a w2 ⟨h, S⟩; rw [hj1] at h; clear hj1 j1
  refine then_n ?_
  refine f_seq ?_
  refine f_seq ?_
  refine f_region ?_
  refine lv S (rn_move (S.tm rfl)) rfl ?_; clear S; intro a S
  refine lv S (rn_lenT sl_35 (S.tm rfl) (slc_len hs_p_l)) rfl ?_; clear S; intro a S
  refine lv S (rn_move rfl) rfl ?_; clear S; intro a S
  refine l_done ?_
  replace S := S.nk [] [(0, v_p_l), (27, v_p_l), (28, .int .i64 (p_l.length : Int)), (29, .int .i64 0)] [] rfl ⟨rfl, rfl, rfl, rfl, trivial⟩
  refine then_n ?_
  obtain ⟨j3, hj3, h⟩ := joinE h
  refine f_join (fun a w' => j3 = some r ∧ Sx w [] nov [] [] 40 a w') ?_ ?_
  ·refine wp_block ?_
   refine f_loop (fun (ys2 : List GEntry) a w' => ∃ i2 : Nat, (∃ dn, p_l = dn ++ ys2 ∧ dn.length = i2) ∧ tumbref2_EntriesFault_l2 p_l j3 ys2 i2 = some r ∧ Sx w [] nov [] [(0, v_p_l), (27, v_p_l), (28, .int .i64 (p_l.length : Int)), (29, .int .i64 (i2 : Int))] 40 a w') List.length p_l ⟨0, ⟨[], rfl, rfl⟩, h, S.nf [] rfl ⟨rfl, rfl, rfl, rfl, trivial⟩⟩ ?_
   clear S h; rintro ys2 a w8 ⟨i2, ⟨dn, hd2, hi2⟩, h, S⟩
   cases ys2 with
   | nil =>
    rw [tumbref2_EntriesFault_l2.eq_1] at h
    refine f_seq ?_
    refine f_region ?_
    refine lv S (rn_lss (S.tm rfl) (S.tm rfl)) rfl ?_; clear S; intro a S
    refine l_done ?_
    replace S := S.nk [] [(0, v_p_l), (27, v_p_l), (28, .int .i64 (p_l.length : Int)), (29, .int .i64 (i2 : Int)), (30, .bool (decide ((i2 : Int) < (p_l.length : Int))))] [] rfl ⟨rfl, rfl, rfl, rfl, rfl, trivial⟩
    refine then_n ?_
    refine f_seq ?_
    refine wp_cond_false ((S.tm rfl).trans (congrArg Value.bool (rng_nil hd2 hi2))) ?_
    refine wp_exit ?_
    refine then_x ?_
    refine then_x ?_
    refine x_same ?_
    refine then_n ?_
    exact ⟨h, S.nf [] rfl trivial⟩
   | cons y2 ys2 =>
    rw [tumbref2_EntriesFault_l2.eq_2] at h
    refine f_seq ?_
    refine f_region ?_
    refine lv S (rn_lss (S.tm rfl) (S.tm rfl)) rfl ?_; clear S; intro a S
    refine l_done ?_
    replace S := S.nk [] [(0, v_p_l), (27, v_p_l), (28, .int .i64 (p_l.length : Int)), (29, .int .i64 (i2 : Int)), (30, .bool (decide ((i2 : Int) < (p_l.length : Int))))] [] rfl ⟨rfl, rfl, rfl, rfl, rfl, trivial⟩
    refine then_n ?_
    refine f_seq ?_
    refine wp_cond_true ((S.tm rfl).trans (congrArg Value.bool (rng_cons hd2 hi2))) ?_
    refine wp_skip ?_
    refine then_n ?_
    refine f_seq ?_
    refine wp_block ?_
    refine f_seq ?_
    refine f_region ?_
    refine lv S (rn_move (S.tm rfl)) rfl ?_; clear S; intro a S
    obtain ⟨b3, o2, hm2, hr4⟩ := rn_indexT (a := a) (x := .tmp 27) (y := .tmp 29) (ty := 0) sl_35 hs_p_l (get_mid hd2 hi2) rfl (S.tm rfl) (S.tm rfl)
    refine lv S (hr4 _) rfl ?_; clear S; intro a S
    clear hr4
    refine lv S (rn_ldA Tryz.isAgg45 Tryz.sizeOf45 (off := o2) (o := 0) (part := [.string y2.Who, .string y2.Race]) rfl rfl (S.tm rfl) (hm2.at S.emb0)) rfl ?_; clear S; intro a S
    refine l_alloc S Tryz.zeroValue45 (cs := [.string k_empty, .string k_empty]) rfl rfl ?_; clear S; intro a w10 b4 hz2 hk6 S
    refine lv S (rn_assign (S.tm rfl)) rfl ?_; clear S; intro a S
    refine l_store S (S.tm rfl) (S.tm rfl) (i := 0) (off := 0) rfl Tryz.sizeOf45 (vs := [.string y2.Who, .string y2.Race]) rfl rfl rfl rfl ?_; clear S; intro w11 hk7 S
    refine l_done ?_
    replace S := S.nk [.blk b4 [.string y2.Who, .string y2.Race] 45] [(0, v_p_l), (5, .int .i64 (i2 : Int)), (6, .pointer (some ⟨b4, 0, none⟩)), (27, v_p_l), (28, .int .i64 (p_l.length : Int)), (29, .int .i64 (i2 : Int))] [true] rfl ⟨rfl, rfl, rfl, rfl, rfl, rfl, trivial⟩
    refine then_n ?_
    refine f_seq ?_
    obtain ⟨hc1, h⟩ := chkE h
    refine d_region [] ([]) Tryz.mixed S rfl (by kernel_rfl) ?_; clear S; intro w13 hk9 hsel S
    refine d_quiet 0 S hsel rfl rfl rfl (by kernel_rfl) (by kernel_rfl) rfl (fun _ hw => (rn_move (S.tm rfl))) ?_; clear S; intro a S
    refine d_quiet 1 S hsel rfl rfl rfl (by kernel_rfl) (by kernel_rfl) rfl (fun _ hw => (rn_move (S.tm rfl))) ?_; clear S; intro a S
    obtain ⟨v5, hs2, hr6⟩ := rn_cutTh (a := a) (x := .tmp 34) (y' := .tmp 35) (ty := 35) sl_35 hs_p_l (S.tm rfl) (S.tm rfl) hc1
    refine d_quiet 2 S hsel rfl rfl rfl (by kernel_rfl) (by kernel_rfl) rfl (fun _ hw => (hr6 _)) ?_; clear S; intro a S
    clear hr6
    refine d_quiet 3 S hsel rfl rfl rfl (by kernel_rfl) (by kernel_rfl) rfl (fun _ hw => (rn_ldA Tryz.isAgg45 Tryz.sizeOf45 (off := 0) (o := 0) (part := [.string y2.Who, .string y2.Race]) rfl rfl (S.tm rfl) ((S.blk_mem (i := 0) (cells := [.string y2.Who, .string y2.Race]) (b := b4) (T := 45) rfl (ne_nil (e' := .blk b4 [.string y2.Who, .string y2.Race] 45))).kept hw))) ?_; clear S; intro a S
    refine d_loud1 4 (by kernel_rfl) rfl ?_
    refine l_enter S (fun _ => run_call (vs := [v5, .agg (GEntry.enc y2).toArray]) ⟨(S.tm rfl), (S.tm rfl), trivial⟩ Tryz.call21) (slices_Contains_Entry_ok _ v5 (cut p_l 0 (i2 : Int)) (hs2.mono (S.le_arg nil_sub)) y2 _ rfl) rfl ?_; clear S; intro v6 a w14 hv4 hk10 hn4 S
    subst hv4
    refine l_done ?_
    refine d_next hk10 ?_
    refine d_end (by kernel_rfl) ?_
    clear hsel
    replace S := S.nk [] [(0, v_p_l), (27, v_p_l), (28, .int .i64 (p_l.length : Int)), (29, .int .i64 (i2 : Int)), (38, .bool (slices_Contains_Entry (cut p_l 0 (i2 : Int)) y2))] [false] rfl ⟨rfl, rfl, rfl, rfl, rfl, trivial⟩
    refine then_n ?_
    refine f_cond (S.tm rfl) (fun hb4 => ?_) (fun hb4 => ?_)
    ·replace h := iteT h hb4
     refine f_seq ?_
     refine f_region ?_
     refine lv S (rn_assign rfl) rfl ?_; clear S; intro a S
     refine l_done ?_
     replace S := S.nk [] [(2, .int .i64 6)] [] rfl ⟨rfl, trivial⟩
     refine then_n ?_
     refine wp_ret ?_
     refine blk_r ?_
     refine then_r ?_
     refine then_r ?_
     refine blk_r ?_
     refine then_r ?_
     refine then_r ?_
     obtain rfl := Option.some.inj h
     exact f_ret S Tryz.results11 rfl rfl
    ·replace h := iteF h hb4
     refine wp_skip ?_
     refine blk_n ?_
     refine then_n ?_
     refine f_region ?_
     refine lv S (rn_add (S.tm rfl) rfl) rfl ?_; clear S; intro a S
     refine lv S (rn_move (S.tm rfl)) rfl ?_; clear S; intro a S
     refine l_done ?_
     replace S := S.nk [] [(0, v_p_l), (27, v_p_l), (28, .int .i64 (p_l.length : Int)), (29, .int .i64 (W ((i2 : Int) + 1)))] [] rfl ⟨rfl, rfl, rfl, rfl, trivial⟩
     refine then_n ?_
     exact ⟨ys2, ⟨i2 + 1, ⟨_, (hd2).trans (List.append_cons _ _ _), by simp [hi2]⟩, h, S.nf [] rfl ⟨rfl, rfl, rfl, (congrArg (fun z => some (Value.int .i64 z)) (rng_next hd2 hi2 (slc_max hs_p_l))), trivial⟩⟩, Nat.lt_succ_self _⟩
  clear S h; rintro a w9 ⟨h, S⟩; rw [hj3] at h; clear hj3 j3
  refine then_n ?_
  refine f_seq ?_
  refine f_region ?_
  refine lv S (rn_assign rfl) rfl ?_; clear S; intro a S
  refine l_done ?_
  replace S := S.nk [] [(2, .int .i64 0)] [] rfl ⟨rfl, trivial⟩
  refine then_n ?_
  refine wp_ret ?_
  obtain rfl := Option.some.inj h
  exact f_ret S Tryz.results11 rfl rfl
theorem words_Within_ok (w : World) (p_n : Int) (p_low : Int) (p_high : Int) (r : Bool) (h : words_Within p_n p_low p_high = r) :
    Calls Tryz.prog 40 [.int .i64 p_n, .int .i64 p_low, .int .i64 p_high].toArray w (Ret w [] fun _ v _ => v = .bool r) := by
 refine f_enter [] [] Tryz.func40 rfl Tryz.ntmps40 rfl (by simp) (by simp [fps]) (by simp [fps]) fun a S => ?_
 unfold words_Within at h
 replace S := S.nk [] [(0, .int .i64 p_n), (1, .int .i64 p_low), (2, .int .i64 p_high)] [] rfl ⟨rfl, rfl, rfl, trivial⟩
 refine f_seq ?_
 refine f_region ?_
 refine lv S (rn_assign rfl) rfl ?_; clear S; intro a S
 refine l_done ?_
 replace S := S.nk [] [(0, .int .i64 p_n), (1, .int .i64 p_low), (2, .int .i64 p_high)] [] rfl ⟨rfl, rfl, rfl, trivial⟩
 refine then_n ?_
 refine f_seq ?_
 refine f_region ?_
 refine lv S (rn_move (S.tm rfl)) rfl ?_; clear S; intro a S
 refine lv S (rn_move (S.tm rfl)) rfl ?_; clear S; intro a S
 refine lv S (rn_geq (S.tm rfl) (S.tm rfl)) rfl ?_; clear S; intro a S
 refine lv S (rn_move (S.tm rfl)) rfl ?_; clear S; intro a S
 refine f_cutm 4 (fun a w' => Keep [] w w' ∧ Sx w [] nov [] [(14, .bool ((decide (p_low ≤ p_n)) && (decide (p_n ≤ p_high))))] 15 a w') ?_ ?_
 ·rcases Bool.eq_false_or_eq_true (decide (p_low ≤ p_n)) with hb1 | hb1
  ·refine l_want S rfl rfl rfl hb1 ?_
   refine lv S (rn_move (S.tm rfl)) rfl ?_; clear S; intro a S
   refine l_want S rfl rfl rfl hb1 ?_
   refine lv S (rn_move (S.tm rfl)) rfl ?_; clear S; intro a S
   refine l_want S rfl rfl rfl hb1 ?_
   refine lv S (rn_leq (S.tm rfl) (S.tm rfl)) rfl ?_; clear S; intro a S
   refine lv S (rn_and_t hb1 (S.tm rfl) (S.tm rfl)) rfl ?_; clear S; intro a S
   refine l_done ?_
   refine then_n ?_
   exact ⟨Keep.refl _ _, S.nf [] rfl ⟨rfl, trivial⟩⟩
  ·refine l_skip S rfl rfl rfl (neq_f hb1) rfl ?_ rfl; clear S; intro a S
   refine l_skip S rfl rfl rfl (neq_f hb1) rfl ?_ rfl; clear S; intro a S
   refine l_skip S rfl rfl rfl (neq_f hb1) rfl ?_ rfl; clear S; intro a S
   refine lv S (rn_and_f (decide (p_n ≤ p_high)) hb1 (S.tm rfl) rfl) rfl ?_; clear S; intro a S
   refine l_done ?_
   refine then_n ?_
   exact ⟨Keep.refl _ _, S.nf [] rfl ⟨rfl, trivial⟩⟩
 clear S; rintro a w1 ⟨hk1, S⟩
 refine lv S (rn_assign (S.tm rfl)) rfl ?_; clear S; intro a S
 refine l_done ?_
 replace S := S.nk [] [(6, .bool ((decide (p_low ≤ p_n)) && (decide (p_n ≤ p_high))))] [] rfl ⟨rfl, trivial⟩
 refine then_n ?_
 refine wp_ret ?_
 subst h
 exact f_ret S Tryz.results40 rfl rfl
theorem swimmer_leap_ok (w : World) (p_year : Int) (r : Bool) (h : swimmer_leap p_year = r) :
    Calls Tryz.prog 64 [.int .i64 p_year].toArray w (Ret w [] fun _ v _ => v = .bool r) := by
 refine f_enter [] [] Tryz.func64 rfl Tryz.ntmps64 rfl (by simp) (by simp [fps]) (by simp [fps]) fun a S => ?_
 unfold swimmer_leap at h
 replace S := S.nk [] [(0, .int .i64 p_year)] [] rfl ⟨rfl, trivial⟩
 refine f_seq ?_
 refine f_region ?_
 refine lv S (rn_assign rfl) rfl ?_; clear S; intro a S
 refine l_done ?_
 replace S := S.nk [] [(0, .int .i64 p_year)] [] rfl ⟨rfl, trivial⟩
 refine then_n ?_
 refine f_seq ?_
 refine f_region ?_
 refine lv S (rn_move (S.tm rfl)) rfl ?_; clear S; intro a S
 refine lv S (rn_rem (S.tm rfl) rfl (by decide)) rfl ?_; clear S; intro a S
 refine lv S (rn_eql (S.tm rfl) rfl) rfl ?_; clear S; intro a S
 refine lv S (rn_move (S.tm rfl)) rfl ?_; clear S; intro a S
 refine f_cutm 9 (fun a w' => Keep [] w w' ∧ Sx w [] nov [] [(15, .bool ((decide ((Int.tmod p_year 4) = 0)) && ((!decide ((Int.tmod p_year 100) = 0)) || (decide ((Int.tmod p_year 400) = 0)))))] 16 a w') ?_ ?_
 ·rcases Bool.eq_false_or_eq_true (decide ((Int.tmod p_year 4) = 0)) with hb1 | hb1
  ·refine l_want S rfl rfl rfl hb1 ?_
   refine lv S (rn_move (S.tm rfl)) rfl ?_; clear S; intro a S
   refine l_want S rfl rfl rfl hb1 ?_
   refine lv S (rn_rem (S.tm rfl) rfl (by decide)) rfl ?_; clear S; intro a S
   refine l_want S rfl rfl rfl hb1 ?_
   refine lv S (rn_neq (S.tm rfl) rfl) rfl ?_; clear S; intro a S
   refine l_want S rfl rfl rfl hb1 ?_
   refine lv S (rn_move (S.tm rfl)) rfl ?_; clear S; intro a S
   refine f_cutm 4 (fun a w' => Keep [] w w' ∧ Sx w [] nov [] [(6, .bool (decide ((Int.tmod p_year 4) = 0))), (14, .bool ((!decide ((Int.tmod p_year 100) = 0)) || (decide ((Int.tmod p_year 400) = 0))))] 16 a w') ?_ ?_
   ·rcases Bool.eq_false_or_eq_true (!decide ((Int.tmod p_year 100) = 0)) with hb2 | hb2
    ·refine l_skip S rfl rfl rfl (neq_t hb2) rfl ?_ rfl; clear S; intro a S
     refine l_skip S rfl rfl rfl (neq_t hb2) rfl ?_ rfl; clear S; intro a S
     refine l_skip S rfl rfl rfl (neq_t hb2) rfl ?_ rfl; clear S; intro a S
     refine l_want S rfl rfl rfl hb1 ?_
     refine lv S (rn_or_t (decide ((Int.tmod p_year 400) = 0)) hb2 (S.tm rfl) rfl) rfl ?_; clear S; intro a S
     refine l_done ?_
     refine then_n ?_
     exact ⟨Keep.refl _ _, S.nf [] rfl ⟨rfl, rfl, trivial⟩⟩
    ·refine l_want S rfl rfl rfl hb2 ?_
     refine lv S (rn_move (S.tm rfl)) rfl ?_; clear S; intro a S
     refine l_want S rfl rfl rfl hb2 ?_
     refine lv S (rn_rem (S.tm rfl) rfl (by decide)) rfl ?_; clear S; intro a S
     refine l_want S rfl rfl rfl hb2 ?_
     refine lv S (rn_eql (S.tm rfl) rfl) rfl ?_; clear S; intro a S
     refine l_want S rfl rfl rfl hb1 ?_
     refine lv S (rn_or_f hb2 (S.tm rfl) (S.tm rfl)) rfl ?_; clear S; intro a S
     refine l_done ?_
     refine then_n ?_
     exact ⟨Keep.refl _ _, S.nf [] rfl ⟨rfl, rfl, trivial⟩⟩
   clear S; rintro a w2 ⟨hk1, S⟩
   refine lv S (rn_and_t hb1 (S.tm rfl) (S.tm rfl)) rfl ?_; clear S; intro a S
   refine l_done ?_
   refine then_n ?_
   exact ⟨hk1, S.nf [] rfl ⟨rfl, trivial⟩⟩
  ·refine l_skip S rfl rfl rfl (neq_f hb1) rfl ?_ rfl; clear S; intro a S
   refine l_skip S rfl rfl rfl (neq_f hb1) rfl ?_ rfl; clear S; intro a S
   refine l_skip S rfl rfl rfl (neq_f hb1) rfl ?_ rfl; clear S; intro a S
   refine l_skip S rfl rfl rfl (neq_f hb1) rfl ?_ rfl; clear S; intro a S
   refine l_skipU S rfl rfl rfl rfl ?_; clear S; intro a S
   refine l_skipU S rfl rfl rfl rfl ?_; clear S; intro a S
   refine l_skipU S rfl rfl rfl rfl ?_; clear S; intro a S
   refine l_skip S rfl rfl rfl (neq_f hb1) rfl ?_ rfl; clear S; intro a S
   refine lv S (rn_and_f ((!decide ((Int.tmod p_year 100) = 0)) || (decide ((Int.tmod p_year 400) = 0))) hb1 (S.tm rfl) rfl) rfl ?_; clear S; intro a S
   refine l_done ?_
   refine then_n ?_
   exact ⟨Keep.refl _ _, S.nf [] rfl ⟨rfl, trivial⟩⟩
 clear S; rintro a w1 ⟨hk2, S⟩
 refine lv S (rn_assign (S.tm rfl)) rfl ?_; clear S; intro a S
 refine l_done ?_
 replace S := S.nk [] [(2, .bool ((decide ((Int.tmod p_year 4) = 0)) && ((!decide ((Int.tmod p_year 100) = 0)) || (decide ((Int.tmod p_year 400) = 0)))))] [] rfl ⟨rfl, trivial⟩
 refine then_n ?_
 refine wp_ret ?_
 subst h
 exact f_ret S Tryz.results64 rfl rfl
theorem swimmer_long_ok (w : World) (p_year : Int) (p_month : Int) (r : Int) (h : swimmer_long p_year p_month = r) :
    Calls Tryz.prog 41 [.int .i64 p_year, .int .i64 p_month].toArray w (Ret w [] fun _ v _ => v = .int .i64 r) := by
 refine f_enter [] [] Tryz.func41 rfl Tryz.ntmps41 rfl (by simp) (by simp [fps]) (by simp [fps]) fun a S => ?_
 unfold swimmer_long at h
 replace S := S.nk [] [(0, .int .i64 p_year), (1, .int .i64 p_month)] [] rfl ⟨rfl, rfl, trivial⟩
 refine f_seq ?_
 refine f_region ?_
 refine lv S (rn_assign rfl) rfl ?_; clear S; intro a S
 refine l_done ?_
 replace S := S.nk [] [(0, .int .i64 p_year), (1, .int .i64 p_month)] [] rfl ⟨rfl, rfl, trivial⟩
 refine then_n ?_
 refine f_seq ?_
 refine f_seq ?_
 refine f_region ?_
 refine lv S (rn_move (S.tm rfl)) rfl ?_; clear S; intro a S
 refine l_done ?_
 replace S := S.nk [] [(0, .int .i64 p_year), (5, .int .i64 p_month)] [] rfl ⟨rfl, rfl, trivial⟩
 refine then_n ?_
 refine wp_block ?_
 refine f_seq ?_
 refine f_region ?_
 refine lv S (rn_eql (S.tm rfl) rfl) rfl ?_; clear S; intro a S
 refine lv S (rn_assign (S.tm rfl)) rfl ?_; clear S; intro a S
 refine l_done ?_
 replace S := S.nk [] [(0, .int .i64 p_year), (5, .int .i64 p_month), (6, .bool (decide (p_month = 2)))] [] rfl ⟨rfl, rfl, rfl, trivial⟩
 refine then_n ?_
 refine f_cond (S.tm rfl) (fun hb1 => ?_) (fun hb1 => ?_)
 ·replace h := iteT h hb1
  refine f_seq ?_
  refine f_seq ?_
  refine f_region ?_
  refine lv S (rn_move (S.tm rfl)) rfl ?_; clear S; intro a S
  refine l_enter S (fun _ => run_call (vs := [.int .i64 p_year]) ⟨(S.tm rfl), trivial⟩ Tryz.call64) (swimmer_leap_ok _ p_year _ rfl) rfl ?_; clear S; intro v1 a w1 hv1 hk1 hn1 S
  subst hv1
  refine l_done ?_
  replace S := S.nk [] [(9, .bool (swimmer_leap p_year))] [] rfl ⟨rfl, trivial⟩
  refine then_n ?_
  refine f_cond (S.tm rfl) (fun hb2 => ?_) (fun hb2 => ?_)
  ·replace h := iteT h hb2
   refine f_seq ?_
   refine f_region ?_
   refine lv S (rn_assign rfl) rfl ?_; clear S; intro a S
   refine l_done ?_
   replace S := S.nk [] [(4, .int .i64 29)] [] rfl ⟨rfl, trivial⟩
   refine then_n ?_
   refine wp_ret ?_
   refine then_r ?_
   refine blk_r ?_
   refine then_r ?_
   subst h
   exact f_ret S Tryz.results41 rfl rfl
  ·replace h := iteF h hb2
   refine wp_skip ?_
   refine then_n ?_
   refine f_seq ?_
   refine f_region ?_
   refine lv S (rn_assign rfl) rfl ?_; clear S; intro a S
   refine l_done ?_
   replace S := S.nk [] [(4, .int .i64 28)] [] rfl ⟨rfl, trivial⟩
   refine then_n ?_
   refine wp_ret ?_
   refine blk_r ?_
   refine then_r ?_
   subst h
   exact f_ret S Tryz.results41 rfl rfl
 ·replace h := iteF h hb1
  refine f_seq ?_
  refine f_seq ?_
  refine f_region ?_
  refine lv S (rn_eql (S.tm rfl) rfl) rfl ?_; clear S; intro a S
  refine lv S (rn_assign (S.tm rfl)) rfl ?_; clear S; intro a S
  refine l_done ?_
  replace S := S.nk [] [(5, .int .i64 p_month), (10, .bool (decide (p_month = 4)))] [] rfl ⟨rfl, rfl, trivial⟩
  refine then_n ?_
  obtain ⟨j1, hj1, h⟩ := joinE h
  refine f_join (fun a w' => ∃ x1 : Bool, j1 x1 = r ∧ Sx w [] nov [] [(10, .bool x1)] 15 a w') ?_ ?_
  ·refine f_cond (S.tm rfl) (fun hb3 => ?_) (fun hb3 => ?_)
   ·replace h := iteT h hb3
    refine wp_skip ?_
    refine then_n ?_
    exact ⟨decide (p_month = 4), h, S.nf [] rfl ⟨rfl, trivial⟩⟩
   ·replace h := iteF h hb3
    refine f_seq ?_
    refine f_region ?_
    refine lv S (rn_eql (S.tm rfl) rfl) rfl ?_; clear S; intro a S
    refine lv S (rn_assign (S.tm rfl)) rfl ?_; clear S; intro a S
    refine l_done ?_
    replace S := S.nk [] [(5, .int .i64 p_month), (10, .bool (decide (p_month = 6)))] [] rfl ⟨rfl, rfl, trivial⟩
    refine then_n ?_
    obtain ⟨j2, hj2, h⟩ := joinE h
    refine f_join (fun a w' => ∃ x2 : Bool, j2 x2 = r ∧ Sx w [] nov [] [(10, .bool x2)] 15 a w') ?_ ?_
    ·refine f_cond (S.tm rfl) (fun hb4 => ?_) (fun hb4 => ?_)
     ·replace h := iteT h hb4
      refine wp_skip ?_
      refine then_n ?_
      exact ⟨decide (p_month = 6), h, S.nf [] rfl ⟨rfl, trivial⟩⟩
     ·replace h := iteF h hb4
      refine f_seq ?_
      refine f_region ?_
      refine lv S (rn_eql (S.tm rfl) rfl) rfl ?_; clear S; intro a S
      refine lv S (rn_assign (S.tm rfl)) rfl ?_; clear S; intro a S
      refine l_done ?_
      replace S := S.nk [] [(5, .int .i64 p_month), (10, .bool (decide (p_month = 9)))] [] rfl ⟨rfl, rfl, trivial⟩
      refine then_n ?_
      obtain ⟨j3, hj3, h⟩ := joinE h
      refine f_join (fun a w' => ∃ x3 : Bool, j3 x3 = r ∧ Sx w [] nov [] [(10, .bool x3)] 15 a w') ?_ ?_
      ·refine f_cond (S.tm rfl) (fun hb5 => ?_) (fun hb5 => ?_)
       ·replace h := iteT h hb5
        refine wp_skip ?_
        refine then_n ?_
        exact ⟨decide (p_month = 9), h, S.nf [] rfl ⟨rfl, trivial⟩⟩
       ·replace h := iteF h hb5
        refine f_region ?_
        refine lv S (rn_eql (S.tm rfl) rfl) rfl ?_; clear S; intro a S
        refine lv S (rn_assign (S.tm rfl)) rfl ?_; clear S; intro a S
        refine l_done ?_
        replace S := S.nk [] [(10, .bool (decide (p_month = 11)))] [] rfl ⟨rfl, trivial⟩
        refine then_n ?_
        exact ⟨decide (p_month = 11), h, S.nf [] rfl ⟨rfl, trivial⟩⟩
      clear S h; rintro a w4 ⟨x3, h, S⟩; rw [hj3] at h; clear hj3 j3
      refine then_n ?_
      exact ⟨x3, h, S.nf [] rfl ⟨rfl, trivial⟩⟩
    clear S h; rintro a w3 ⟨x2, h, S⟩; rw [hj2] at h; clear hj2 j2
    refine then_n ?_
    exact ⟨x2, h, S.nf [] rfl ⟨rfl, trivial⟩⟩
  clear S h; rintro a w2 ⟨x1, h, S⟩; rw [hj1] at h; clear hj1 j1
  refine then_n ?_
  refine f_cond (S.tm rfl) (fun hb6 => ?_) (fun hb6 => ?_)
  ·replace h := iteT h hb6
   refine f_seq ?_
   refine f_region ?_
   refine lv S (rn_assign rfl) rfl ?_; clear S; intro a S
   refine l_done ?_
   replace S := S.nk [] [(4, .int .i64 30)] [] rfl ⟨rfl, trivial⟩
   refine then_n ?_
   refine wp_ret ?_
   refine blk_r ?_
   refine then_r ?_
   subst h
   exact f_ret S Tryz.results41 rfl rfl
  ·replace h := iteF h hb6
   refine wp_skip ?_
   refine blk_n ?_
   refine then_n ?_
   refine f_seq ?_
   refine f_region ?_
   refine lv S (rn_assign rfl) rfl ?_; clear S; intro a S
   refine l_done ?_
   replace S := S.nk [] [(4, .int .i64 31)] [] rfl ⟨rfl, trivial⟩
   refine then_n ?_
   refine wp_ret ?_
   subst h
   exact f_ret S Tryz.results41 rfl rfl
theorem swimmer_yearLong_ok (w : World) (p_year : Int) (r : Int) (h : swimmer_yearLong p_year = r) :
    Calls Tryz.prog 42 [.int .i64 p_year].toArray w (Ret w [] fun _ v _ => v = .int .i64 r) := by
 refine f_enter [] [] Tryz.func42 rfl Tryz.ntmps42 rfl (by simp) (by simp [fps]) (by simp [fps]) fun a S => ?_
 unfold swimmer_yearLong at h
 replace S := S.nk [] [(0, .int .i64 p_year)] [] rfl ⟨rfl, trivial⟩
 refine f_seq ?_
 refine f_region ?_
 refine lv S (rn_assign rfl) rfl ?_; clear S; intro a S
 refine l_done ?_
 replace S := S.nk [] [(0, .int .i64 p_year)] [] rfl ⟨rfl, trivial⟩
 refine then_n ?_
 refine f_seq ?_
 refine f_seq ?_
 refine f_region ?_
 refine lv S (rn_move (S.tm rfl)) rfl ?_; clear S; intro a S
 refine l_enter S (fun _ => run_call (vs := [.int .i64 p_year]) ⟨(S.tm rfl), trivial⟩ Tryz.call64) (swimmer_leap_ok _ p_year _ rfl) rfl ?_; clear S; intro v1 a w1 hv1 hk1 hn1 S
 subst hv1
 refine l_done ?_
 replace S := S.nk [] [(4, .bool (swimmer_leap p_year))] [] rfl ⟨rfl, trivial⟩
 refine then_n ?_
 refine f_cond (S.tm rfl) (fun hb1 => ?_) (fun hb1 => ?_)
 ·replace h := iteT h hb1
  refine f_seq ?_
  refine f_region ?_
  refine lv S (rn_assign rfl) rfl ?_; clear S; intro a S
  refine l_done ?_
  replace S := S.nk [] [(2, .int .i64 366)] [] rfl ⟨rfl, trivial⟩
  refine then_n ?_
  refine wp_ret ?_
  refine then_r ?_
  subst h
  exact f_ret S Tryz.results42 rfl rfl
 ·replace h := iteF h hb1
  refine wp_skip ?_
  refine then_n ?_
  refine f_seq ?_
  refine f_region ?_
  refine lv S (rn_assign rfl) rfl ?_; clear S; intro a S
  refine l_done ?_
  replace S := S.nk [] [(2, .int .i64 365)] [] rfl ⟨rfl, trivial⟩
  refine then_n ?_
  refine wp_ret ?_
  subst h
  exact f_ret S Tryz.results42 rfl rfl
theorem swimmer_isDay_ok (w : World) (p_n : Int) (r : Bool) (h : swimmer_isDay p_n = r) :
    Calls Tryz.prog 43 [.int .i64 p_n].toArray w (Ret w [] fun _ v _ => v = .bool r) := by
 refine f_enter [] [] Tryz.func43 rfl Tryz.ntmps43 rfl (by simp) (by simp [fps]) (by simp [fps]) fun a S => ?_
 unfold swimmer_isDay at h
 replace S := S.nk [] [(0, .int .i64 p_n)] [] rfl ⟨rfl, trivial⟩
 refine f_seq ?_
 refine f_region ?_
 refine lv S (rn_assign rfl) rfl ?_; clear S; intro a S
 refine l_done ?_
 replace S := S.nk [] [(0, .int .i64 p_n)] [] rfl ⟨rfl, trivial⟩
 refine then_n ?_
 refine f_seq ?_
 refine f_region ?_
 refine lv S (rn_move (S.tm rfl)) rfl ?_; clear S; intro a S
 refine l_enter S (fun _ => run_call (vs := [.int .i64 p_n, .int .i64 (-40000), .int .i64 4000]) ⟨(S.tm rfl), rfl, rfl, trivial⟩ Tryz.call40) (words_Within_ok _ p_n (-40000) 4000 _ rfl) rfl ?_; clear S; intro v1 a w1 hv1 hk1 hn1 S
 subst hv1
 refine lv S (rn_assign (S.tm rfl)) rfl ?_; clear S; intro a S
 refine l_done ?_
 replace S := S.nk [] [(2, .bool (words_Within p_n (-40000) 4000))] [] rfl ⟨rfl, trivial⟩
 refine then_n ?_
 refine wp_ret ?_
 subst h
 exact f_ret S Tryz.results43 rfl rfl
set_option maxRecDepth 20000 in
theorem swimmer_DayOf_ok (w : World) (p_d : GDate) (r : Int × Int) (h : swimmer_DayOf p_d = some r) :
    Calls Tryz.prog 26 [.agg (GDate.enc p_d).toArray].toArray w (Ret w [] fun _ v _ => v = .tuple #[.int .i64 r.1, .int .i64 r.2]) := by
 refine f_enter [] [] Tryz.func26 rfl Tryz.ntmps26 rfl (by simp) (by simp [fps]) (by simp [fps]) fun a S => ?_
 unfold swimmer_DayOf at h
 replace S := S.nk [] [(0, .agg (GDate.enc p_d).toArray)] [] rfl ⟨rfl, trivial⟩
 refine f_seq ?_
 refine f_region ?_
 refine l_box S (S.tm rfl) (cs := [.int .i64 p_d.Year, .int .i64 p_d.Month, .int .i64 p_d.Day]) rfl rfl ?_; clear S; intro a w1 b1 hz1 hk1 S
 refine lv S (rn_assign rfl) rfl ?_; clear S; intro a S
 refine lv S (rn_assign rfl) rfl ?_; clear S; intro a S
 refine l_done ?_
 replace S := S.nk [.blk b1 [.int .i64 p_d.Year, .int .i64 p_d.Month, .int .i64 p_d.Day] 67] [(1, .pointer (some ⟨b1, 0, none⟩))] [true] rfl ⟨rfl, trivial⟩
 refine then_n ?_
 refine f_seq ?_
 refine f_seq ?_
 obtain ⟨j1, hj1, h⟩ := joinE h
 refine f_join (fun a w' => ∃ x1 : Bool, j1 x1 = some r ∧ Sx w [] nov [.blk b1 [.int .i64 p_d.Year, .int .i64 p_d.Month, .int .i64 p_d.Day] 67] [(1, .pointer (some ⟨b1, 0, none⟩)), (28, .bool x1)] 68 a w') ?_ ?_
 ·rcases Bool.eq_false_or_eq_true (!(words_Within p_d.Year 1900 2100)) with hb1 | hb1
  ·replace h := iteT h hb1
   rcases Bool.eq_false_or_eq_true true with hb2 | hb2
   ·replace h := iteT h hb2
    refine d_region [] ([]) Tryz.mixed S rfl (by kernel_rfl) ?_; clear S; intro w6 hk5 hsel S
    refine d_quiet 0 S hsel rfl rfl rfl (by kernel_rfl) (by kernel_rfl) rfl (fun _ hw => (rn_fld fa_67_0 (S.tm rfl))) ?_; clear S; intro a S
    refine d_quiet 1 S hsel rfl rfl rfl (by kernel_rfl) (by kernel_rfl) rfl (fun _ hw => (rn_ld Tryz.isAgg3 (off := 0) (o := 0) (S.tm rfl) ((S.blk_mem (i := 0) (cells := [.int .i64 p_d.Year, .int .i64 p_d.Month, .int .i64 p_d.Day]) (b := b1) (T := 67) rfl (ne_nil (e' := .blk b1 [.int .i64 p_d.Year, .int .i64 p_d.Month, .int .i64 p_d.Day] 67))).kept hw) rfl)) ?_; clear S; intro a S
    refine d_loud1 2 (by kernel_rfl) rfl ?_
    refine l_enter S (fun _ => run_call (vs := [.int .i64 p_d.Year, .int .i64 1900, .int .i64 2100]) ⟨(S.tm rfl), rfl, rfl, trivial⟩ Tryz.call40) (words_Within_ok _ p_d.Year 1900 2100 _ rfl) rfl ?_; clear S; intro v4 a w7 hv4 hk6 hn4 S
    subst hv4
    refine l_done ?_
    refine d_next hk6 ?_
    refine d_rest [3, 4, 5, 6, 7, 8, 9, 10, 11, 12, 13, 14, 15, 16, 17, 18, 19, 20] hsel (by kernel_rfl) rfl ?_
    clear hsel
    refine s_lv S rfl (rn_not (S.tm rfl)) rfl ?_; clear S; intro a S
    refine s_lv S rfl (rn_move (S.tm rfl)) rfl ?_; clear S; intro a S
    refine s_skip S rfl rfl rfl rfl (neq_t hb1) rfl ?_ rfl; clear S; intro a S
    refine s_skip S rfl rfl rfl rfl (neq_t hb1) rfl ?_ rfl; clear S; intro a S
    refine s_skip S rfl rfl rfl rfl (neq_t hb1) rfl ?_ rfl; clear S; intro a S
    refine s_skip S rfl rfl rfl rfl (neq_t hb1) rfl ?_ rfl; clear S; intro a S
    refine s_lv S rfl (rn_pick_b hb1 (S.tm rfl) rfl) rfl ?_; clear S; intro a S
    refine s_lv S rfl (rn_move (S.tm rfl)) rfl ?_; clear S; intro a S
    refine s_skip S rfl rfl rfl rfl (neq_t hb2) rfl ?_ rfl; clear S; intro a S
    refine s_skip S rfl rfl rfl rfl (neq_t hb2) rfl ?_ rfl; clear S; intro a S
    refine s_skip S rfl rfl rfl rfl (neq_t hb2) rfl ?_ rfl; clear S; intro a S
    refine s_skip S rfl rfl rfl rfl (neq_t hb2) rfl ?_ rfl; clear S; intro a S
    refine s_skip S rfl rfl rfl rfl (neq_t hb2) rfl ?_ rfl; clear S; intro a S
    refine s_skip S rfl rfl rfl rfl (neq_t hb2) rfl ?_ rfl; clear S; intro a S
    refine s_skip S rfl rfl rfl rfl (neq_t hb2) rfl ?_ rfl; clear S; intro a S
    refine s_skip S rfl rfl rfl rfl (neq_t hb2) rfl ?_ rfl; clear S; intro a S
    refine s_skip S rfl rfl rfl rfl (neq_t hb2) rfl ?_ rfl; clear S; intro a S
    refine s_lv S rfl (rn_pick_b hb2 (S.tm rfl) rfl) rfl ?_; clear S; intro a S
    refine s_done ?_
    replace S := S.nk [.blk b1 [.int .i64 p_d.Year, .int .i64 p_d.Month, .int .i64 p_d.Day] 67] [(1, .pointer (some ⟨b1, 0, none⟩)), (28, .bool true)] [true] rfl ⟨rfl, rfl, trivial⟩
    refine then_n ?_
    exact ⟨true, h, S.nf [true] rfl ⟨rfl, rfl, trivial⟩⟩
   ·replace h := iteF h hb2
    refine d_region [] ([]) Tryz.mixed S rfl (by kernel_rfl) ?_; clear S; intro w11 hk10 hsel S
    refine d_quiet 0 S hsel rfl rfl rfl (by kernel_rfl) (by kernel_rfl) rfl (fun _ hw => (rn_fld fa_67_0 (S.tm rfl))) ?_; clear S; intro a S
    refine d_quiet 1 S hsel rfl rfl rfl (by kernel_rfl) (by kernel_rfl) rfl (fun _ hw => (rn_ld Tryz.isAgg3 (off := 0) (o := 0) (S.tm rfl) ((S.blk_mem (i := 0) (cells := [.int .i64 p_d.Year, .int .i64 p_d.Month, .int .i64 p_d.Day]) (b := b1) (T := 67) rfl (ne_nil (e' := .blk b1 [.int .i64 p_d.Year, .int .i64 p_d.Month, .int .i64 p_d.Day] 67))).kept hw) rfl)) ?_; clear S; intro a S
    refine d_loud1 2 (by kernel_rfl) rfl ?_
    refine l_enter S (fun _ => run_call (vs := [.int .i64 p_d.Year, .int .i64 1900, .int .i64 2100]) ⟨(S.tm rfl), rfl, rfl, trivial⟩ Tryz.call40) (words_Within_ok _ p_d.Year 1900 2100 _ rfl) rfl ?_; clear S; intro v8 a w12 hv8 hk11 hn8 S
    subst hv8
    refine l_done ?_
    refine d_next hk11 ?_
    refine d_quiet 3 S hsel rfl rfl rfl (by kernel_rfl) (by kernel_rfl) rfl (fun _ hw => (rn_not (S.tm rfl))) ?_; clear S; intro a S
    refine d_quiet 4 S hsel rfl rfl rfl (by kernel_rfl) (by kernel_rfl) rfl (fun _ hw => (rn_move (S.tm rfl))) ?_; clear S; intro a S
    refine d_skip 5 S hsel rfl rfl rfl rfl (neq_t hb1) rfl (by kernel_rfl) (by kernel_rfl) rfl ?_; clear S; intro a S
    refine d_skip 6 S hsel rfl rfl rfl rfl (neq_t hb1) rfl (by kernel_rfl) (by kernel_rfl) rfl ?_; clear S; intro a S
    refine d_skip 7 S hsel rfl rfl rfl rfl (neq_t hb1) rfl (by kernel_rfl) (by kernel_rfl) rfl ?_; clear S; intro a S
    refine d_skip 8 S hsel rfl rfl rfl rfl (neq_t hb1) rfl (by kernel_rfl) (by kernel_rfl) rfl ?_; clear S; intro a S
    refine d_quiet 9 S hsel rfl rfl rfl (by kernel_rfl) (by kernel_rfl) rfl (fun _ hw => (rn_pick_b hb1 (S.tm rfl) rfl)) ?_; clear S; intro a S
    refine d_quiet 10 S hsel rfl rfl rfl (by kernel_rfl) (by kernel_rfl) rfl (fun _ hw => (rn_move (S.tm rfl))) ?_; clear S; intro a S
    refine d_quiet_g 11 S hsel rfl rfl rfl rfl hb2 rfl rfl (by kernel_rfl) (by kernel_rfl) rfl (fun _ hw => (rn_fld fa_67_2 (S.tm rfl))) ?_; clear S; intro a S
    refine d_quiet_g 12 S hsel rfl rfl rfl rfl hb2 rfl rfl (by kernel_rfl) (by kernel_rfl) rfl (fun _ hw => (rn_ld Tryz.isAgg3 (off := 0) (o := 2) (S.tm rfl) ((S.blk_mem (i := 0) (cells := [.int .i64 p_d.Year, .int .i64 p_d.Month, .int .i64 p_d.Day]) (b := b1) (T := 67) rfl (ne_nil (e' := .blk b1 [.int .i64 p_d.Year, .int .i64 p_d.Month, .int .i64 p_d.Day] 67))).kept hw) rfl)) ?_; clear S; intro a S
    refine d_quiet_g 13 S hsel rfl rfl rfl rfl hb2 rfl rfl (by kernel_rfl) (by kernel_rfl) rfl (fun _ hw => (rn_fld fa_67_0 (S.tm rfl))) ?_; clear S; intro a S
    refine d_quiet_g 14 S hsel rfl rfl rfl rfl hb2 rfl rfl (by kernel_rfl) (by kernel_rfl) rfl (fun _ hw => (rn_ld Tryz.isAgg3 (off := 0) (o := 0) (S.tm rfl) ((S.blk_mem (i := 0) (cells := [.int .i64 p_d.Year, .int .i64 p_d.Month, .int .i64 p_d.Day]) (b := b1) (T := 67) rfl (ne_nil (e' := .blk b1 [.int .i64 p_d.Year, .int .i64 p_d.Month, .int .i64 p_d.Day] 67))).kept hw) rfl)) ?_; clear S; intro a S
    refine d_quiet_g 15 S hsel rfl rfl rfl rfl hb2 rfl rfl (by kernel_rfl) (by kernel_rfl) rfl (fun _ hw => (rn_fld fa_67_1 (S.tm rfl))) ?_; clear S; intro a S
    refine d_quiet_g 16 S hsel rfl rfl rfl rfl hb2 rfl rfl (by kernel_rfl) (by kernel_rfl) rfl (fun _ hw => (rn_ld Tryz.isAgg3 (off := 0) (o := 1) (S.tm rfl) ((S.blk_mem (i := 0) (cells := [.int .i64 p_d.Year, .int .i64 p_d.Month, .int .i64 p_d.Day]) (b := b1) (T := 67) rfl (ne_nil (e' := .blk b1 [.int .i64 p_d.Year, .int .i64 p_d.Month, .int .i64 p_d.Day] 67))).kept hw) rfl)) ?_; clear S; intro a S
    refine d_loud1 17 (by kernel_rfl) rfl ?_
    refine l_want S rfl rfl rfl hb2 ?_
    refine l_enter S (fun _ => run_call (vs := [.int .i64 p_d.Year, .int .i64 p_d.Month]) ⟨(S.tm rfl), (S.tm rfl), trivial⟩ Tryz.call41) (swimmer_long_ok _ p_d.Year p_d.Month _ rfl) rfl ?_; clear S; intro v9 a w13 hv9 hk12 hn9 S
    subst hv9
    refine l_done ?_
    refine d_next hk12 ?_
    refine d_loud1 18 (by kernel_rfl) rfl ?_
    refine l_want S rfl rfl rfl hb2 ?_
    refine l_enter S (fun _ => run_call (vs := [.int .i64 p_d.Day, .int .i64 1, .int .i64 (swimmer_long p_d.Year p_d.Month)]) ⟨(S.tm rfl), rfl, (S.tm rfl), trivial⟩ Tryz.call40) (words_Within_ok _ p_d.Day 1 (swimmer_long p_d.Year p_d.Month) _ rfl) rfl ?_; clear S; intro v10 a w14 hv10 hk13 hn10 S
    subst hv10
    refine l_done ?_
    refine d_next hk13 ?_
    refine d_rest [19, 20] hsel (by kernel_rfl) rfl ?_
    clear hsel
    refine s_want S rfl rfl rfl rfl hb2 ?_
    refine s_lv0 S (rn_not (S.tm rfl)) rfl ?_; clear S; intro a S
    refine s_lv S rfl (rn_pick_c hb2 (S.tm rfl) (S.tm rfl)) rfl ?_; clear S; intro a S
    refine s_done ?_
    replace S := S.nk [.blk b1 [.int .i64 p_d.Year, .int .i64 p_d.Month, .int .i64 p_d.Day] 67] [(1, .pointer (some ⟨b1, 0, none⟩)), (28, .bool (!(words_Within p_d.Day 1 (swimmer_long p_d.Year p_d.Month))))] [true] rfl ⟨rfl, rfl, trivial⟩
    refine then_n ?_
    exact ⟨!(words_Within p_d.Day 1 (swimmer_long p_d.Year p_d.Month)), h, S.nf [true] rfl ⟨rfl, rfl, trivial⟩⟩
  ·replace h := iteF h hb1
   rcases Bool.eq_false_or_eq_true (!(words_Within p_d.Month 1 12)) with hb3 | hb3
   ·replace h := iteT h hb3
    refine d_region [] ([]) Tryz.mixed S rfl (by kernel_rfl) ?_; clear S; intro w19 hk18 hsel S
    refine d_quiet 0 S hsel rfl rfl rfl (by kernel_rfl) (by kernel_rfl) rfl (fun _ hw => (rn_fld fa_67_0 (S.tm rfl))) ?_; clear S; intro a S
    refine d_quiet 1 S hsel rfl rfl rfl (by kernel_rfl) (by kernel_rfl) rfl (fun _ hw => (rn_ld Tryz.isAgg3 (off := 0) (o := 0) (S.tm rfl) ((S.blk_mem (i := 0) (cells := [.int .i64 p_d.Year, .int .i64 p_d.Month, .int .i64 p_d.Day]) (b := b1) (T := 67) rfl (ne_nil (e' := .blk b1 [.int .i64 p_d.Year, .int .i64 p_d.Month, .int .i64 p_d.Day] 67))).kept hw) rfl)) ?_; clear S; intro a S
    refine d_loud1 2 (by kernel_rfl) rfl ?_
    refine l_enter S (fun _ => run_call (vs := [.int .i64 p_d.Year, .int .i64 1900, .int .i64 2100]) ⟨(S.tm rfl), rfl, rfl, trivial⟩ Tryz.call40) (words_Within_ok _ p_d.Year 1900 2100 _ rfl) rfl ?_; clear S; intro v15 a w20 hv15 hk19 hn15 S
    subst hv15
    refine l_done ?_
    refine d_next hk19 ?_
    refine d_quiet 3 S hsel rfl rfl rfl (by kernel_rfl) (by kernel_rfl) rfl (fun _ hw => (rn_not (S.tm rfl))) ?_; clear S; intro a S
    refine d_quiet 4 S hsel rfl rfl rfl (by kernel_rfl) (by kernel_rfl) rfl (fun _ hw => (rn_move (S.tm rfl))) ?_; clear S; intro a S
    refine d_quiet_g 5 S hsel rfl rfl rfl rfl hb1 rfl rfl (by kernel_rfl) (by kernel_rfl) rfl (fun _ hw => (rn_fld fa_67_1 (S.tm rfl))) ?_; clear S; intro a S
    refine d_quiet_g 6 S hsel rfl rfl rfl rfl hb1 rfl rfl (by kernel_rfl) (by kernel_rfl) rfl (fun _ hw => (rn_ld Tryz.isAgg3 (off := 0) (o := 1) (S.tm rfl) ((S.blk_mem (i := 0) (cells := [.int .i64 p_d.Year, .int .i64 p_d.Month, .int .i64 p_d.Day]) (b := b1) (T := 67) rfl (ne_nil (e' := .blk b1 [.int .i64 p_d.Year, .int .i64 p_d.Month, .int .i64 p_d.Day] 67))).kept hw) rfl)) ?_; clear S; intro a S
    refine d_loud1 7 (by kernel_rfl) rfl ?_
    refine l_want S rfl rfl rfl hb1 ?_
    refine l_enter S (fun _ => run_call (vs := [.int .i64 p_d.Month, .int .i64 1, .int .i64 12]) ⟨(S.tm rfl), rfl, rfl, trivial⟩ Tryz.call40) (words_Within_ok _ p_d.Month 1 12 _ rfl) rfl ?_; clear S; intro v16 a w21 hv16 hk20 hn16 S
    subst hv16
    refine l_done ?_
    refine d_next hk20 ?_
    refine d_rest [8, 9, 10, 11, 12, 13, 14, 15, 16, 17, 18, 19, 20] hsel (by kernel_rfl) rfl ?_
    clear hsel
    refine s_want S rfl rfl rfl rfl hb1 ?_
    refine s_lv0 S (rn_not (S.tm rfl)) rfl ?_; clear S; intro a S
    refine s_lv S rfl (rn_pick_c hb1 (S.tm rfl) (S.tm rfl)) rfl ?_; clear S; intro a S
    refine s_lv S rfl (rn_move (S.tm rfl)) rfl ?_; clear S; intro a S
    refine s_skip S rfl rfl rfl rfl (neq_t hb3) rfl ?_ rfl; clear S; intro a S
    refine s_skip S rfl rfl rfl rfl (neq_t hb3) rfl ?_ rfl; clear S; intro a S
    refine s_skip S rfl rfl rfl rfl (neq_t hb3) rfl ?_ rfl; clear S; intro a S
    refine s_skip S rfl rfl rfl rfl (neq_t hb3) rfl ?_ rfl; clear S; intro a S
    refine s_skip S rfl rfl rfl rfl (neq_t hb3) rfl ?_ rfl; clear S; intro a S
    refine s_skip S rfl rfl rfl rfl (neq_t hb3) rfl ?_ rfl; clear S; intro a S
    refine s_skip S rfl rfl rfl rfl (neq_t hb3) rfl ?_ rfl; clear S; intro a S
    refine s_skip S rfl rfl rfl rfl (neq_t hb3) rfl ?_ rfl; clear S; intro a S
    refine s_skip S rfl rfl rfl rfl (neq_t hb3) rfl ?_ rfl; clear S; intro a S
    refine s_lv S rfl (rn_pick_b hb3 (S.tm rfl) rfl) rfl ?_; clear S; intro a S
    refine s_done ?_
    replace S := S.nk [.blk b1 [.int .i64 p_d.Year, .int .i64 p_d.Month, .int .i64 p_d.Day] 67] [(1, .pointer (some ⟨b1, 0, none⟩)), (28, .bool true)] [true] rfl ⟨rfl, rfl, trivial⟩
    refine then_n ?_
    exact ⟨true, h, S.nf [true] rfl ⟨rfl, rfl, trivial⟩⟩
   ·replace h := iteF h hb3
    refine d_region [] ([]) Tryz.mixed S rfl (by kernel_rfl) ?_; clear S; intro w26 hk25 hsel S
    refine d_quiet 0 S hsel rfl rfl rfl (by kernel_rfl) (by kernel_rfl) rfl (fun _ hw => (rn_fld fa_67_0 (S.tm rfl))) ?_; clear S; intro a S
    refine d_quiet 1 S hsel rfl rfl rfl (by kernel_rfl) (by kernel_rfl) rfl (fun _ hw => (rn_ld Tryz.isAgg3 (off := 0) (o := 0) (S.tm rfl) ((S.blk_mem (i := 0) (cells := [.int .i64 p_d.Year, .int .i64 p_d.Month, .int .i64 p_d.Day]) (b := b1) (T := 67) rfl (ne_nil (e' := .blk b1 [.int .i64 p_d.Year, .int .i64 p_d.Month, .int .i64 p_d.Day] 67))).kept hw) rfl)) ?_; clear S; intro a S
    refine d_loud1 2 (by kernel_rfl) rfl ?_
    refine l_enter S (fun _ => run_call (vs := [.int .i64 p_d.Year, .int .i64 1900, .int .i64 2100]) ⟨(S.tm rfl), rfl, rfl, trivial⟩ Tryz.call40) (words_Within_ok _ p_d.Year 1900 2100 _ rfl) rfl ?_; clear S; intro v21 a w27 hv21 hk26 hn21 S
    subst hv21
    refine l_done ?_
    refine d_next hk26 ?_
    refine d_quiet 3 S hsel rfl rfl rfl (by kernel_rfl) (by kernel_rfl) rfl (fun _ hw => (rn_not (S.tm rfl))) ?_; clear S; intro a S
    refine d_quiet 4 S hsel rfl rfl rfl (by kernel_rfl) (by kernel_rfl) rfl (fun _ hw => (rn_move (S.tm rfl))) ?_; clear S; intro a S
    refine d_quiet_g 5 S hsel rfl rfl rfl rfl hb1 rfl rfl (by kernel_rfl) (by kernel_rfl) rfl (fun _ hw => (rn_fld fa_67_1 (S.tm rfl))) ?_; clear S; intro a S
    refine d_quiet_g 6 S hsel rfl rfl rfl rfl hb1 rfl rfl (by kernel_rfl) (by kernel_rfl) rfl (fun _ hw => (rn_ld Tryz.isAgg3 (off := 0) (o := 1) (S.tm rfl) ((S.blk_mem (i := 0) (cells := [.int .i64 p_d.Year, .int .i64 p_d.Month, .int .i64 p_d.Day]) (b := b1) (T := 67) rfl (ne_nil (e' := .blk b1 [.int .i64 p_d.Year, .int .i64 p_d.Month, .int .i64 p_d.Day] 67))).kept hw) rfl)) ?_; clear S; intro a S
    refine d_loud1 7 (by kernel_rfl) rfl ?_
    refine l_want S rfl rfl rfl hb1 ?_
    refine l_enter S (fun _ => run_call (vs := [.int .i64 p_d.Month, .int .i64 1, .int .i64 12]) ⟨(S.tm rfl), rfl, rfl, trivial⟩ Tryz.call40) (words_Within_ok _ p_d.Month 1 12 _ rfl) rfl ?_; clear S; intro v22 a w28 hv22 hk27 hn22 S
    subst hv22
    refine l_done ?_
    refine d_next hk27 ?_
    refine d_quiet_g 8 S hsel rfl rfl rfl rfl hb1 rfl rfl (by kernel_rfl) (by kernel_rfl) rfl (fun _ hw => (rn_not (S.tm rfl))) ?_; clear S; intro a S
    refine d_quiet 9 S hsel rfl rfl rfl (by kernel_rfl) (by kernel_rfl) rfl (fun _ hw => (rn_pick_c hb1 (S.tm rfl) (S.tm rfl))) ?_; clear S; intro a S
    refine d_quiet 10 S hsel rfl rfl rfl (by kernel_rfl) (by kernel_rfl) rfl (fun _ hw => (rn_move (S.tm rfl))) ?_; clear S; intro a S
    refine d_quiet_g 11 S hsel rfl rfl rfl rfl hb3 rfl rfl (by kernel_rfl) (by kernel_rfl) rfl (fun _ hw => (rn_fld fa_67_2 (S.tm rfl))) ?_; clear S; intro a S
    refine d_quiet_g 12 S hsel rfl rfl rfl rfl hb3 rfl rfl (by kernel_rfl) (by kernel_rfl) rfl (fun _ hw => (rn_ld Tryz.isAgg3 (off := 0) (o := 2) (S.tm rfl) ((S.blk_mem (i := 0) (cells := [.int .i64 p_d.Year, .int .i64 p_d.Month, .int .i64 p_d.Day]) (b := b1) (T := 67) rfl (ne_nil (e' := .blk b1 [.int .i64 p_d.Year, .int .i64 p_d.Month, .int .i64 p_d.Day] 67))).kept hw) rfl)) ?_; clear S; intro a S
    refine d_quiet_g 13 S hsel rfl rfl rfl rfl hb3 rfl rfl (by kernel_rfl) (by kernel_rfl) rfl (fun _ hw => (rn_fld fa_67_0 (S.tm rfl))) ?_; clear S; intro a S
    refine d_quiet_g 14 S hsel rfl rfl rfl rfl hb3 rfl rfl (by kernel_rfl) (by kernel_rfl) rfl (fun _ hw => (rn_ld Tryz.isAgg3 (off := 0) (o := 0) (S.tm rfl) ((S.blk_mem (i := 0) (cells := [.int .i64 p_d.Year, .int .i64 p_d.Month, .int .i64 p_d.Day]) (b := b1) (T := 67) rfl (ne_nil (e' := .blk b1 [.int .i64 p_d.Year, .int .i64 p_d.Month, .int .i64 p_d.Day] 67))).kept hw) rfl)) ?_; clear S; intro a S
    refine d_quiet_g 15 S hsel rfl rfl rfl rfl hb3 rfl rfl (by kernel_rfl) (by kernel_rfl) rfl (fun _ hw => (rn_fld fa_67_1 (S.tm rfl))) ?_; clear S; intro a S
    refine d_quiet_g 16 S hsel rfl rfl rfl rfl hb3 rfl rfl (by kernel_rfl) (by kernel_rfl) rfl (fun _ hw => (rn_ld Tryz.isAgg3 (off := 0) (o := 1) (S.tm rfl) ((S.blk_mem (i := 0) (cells := [.int .i64 p_d.Year, .int .i64 p_d.Month, .int .i64 p_d.Day]) (b := b1) (T := 67) rfl (ne_nil (e' := .blk b1 [.int .i64 p_d.Year, .int .i64 p_d.Month, .int .i64 p_d.Day] 67))).kept hw) rfl)) ?_; clear S; intro a S
    refine d_loud1 17 (by kernel_rfl) rfl ?_
    refine l_want S rfl rfl rfl hb3 ?_
    refine l_enter S (fun _ => run_call (vs := [.int .i64 p_d.Year, .int .i64 p_d.Month]) ⟨(S.tm rfl), (S.tm rfl), trivial⟩ Tryz.call41) (swimmer_long_ok _ p_d.Year p_d.Month _ rfl) rfl ?_; clear S; intro v23 a w29 hv23 hk28 hn23 S
    subst hv23
    refine l_done ?_
    refine d_next hk28 ?_
    refine d_loud1 18 (by kernel_rfl) rfl ?_
    refine l_want S rfl rfl rfl hb3 ?_
    refine l_enter S (fun _ => run_call (vs := [.int .i64 p_d.Day, .int .i64 1, .int .i64 (swimmer_long p_d.Year p_d.Month)]) ⟨(S.tm rfl), rfl, (S.tm rfl), trivial⟩ Tryz.call40) (words_Within_ok _ p_d.Day 1 (swimmer_long p_d.Year p_d.Month) _ rfl) rfl ?_; clear S; intro v24 a w30 hv24 hk29 hn24 S
    subst hv24
    refine l_done ?_
    refine d_next hk29 ?_
    refine d_rest [19, 20] hsel (by kernel_rfl) rfl ?_
    clear hsel
    refine s_want S rfl rfl rfl rfl hb3 ?_
    refine s_lv0 S (rn_not (S.tm rfl)) rfl ?_; clear S; intro a S
    refine s_lv S rfl (rn_pick_c hb3 (S.tm rfl) (S.tm rfl)) rfl ?_; clear S; intro a S
    refine s_done ?_
    replace S := S.nk [.blk b1 [.int .i64 p_d.Year, .int .i64 p_d.Month, .int .i64 p_d.Day] 67] [(1, .pointer (some ⟨b1, 0, none⟩)), (28, .bool (!(words_Within p_d.Day 1 (swimmer_long p_d.Year p_d.Month))))] [true] rfl ⟨rfl, rfl, trivial⟩
    refine then_n ?_
    exact ⟨!(words_Within p_d.Day 1 (swimmer_long p_d.Year p_d.Month)), h, S.nf [true] rfl ⟨rfl, rfl, trivial⟩⟩
 clear S h; rintro a w2 ⟨x1, h, S⟩; rw [hj1] at h; clear hj1 j1
 refine then_n ?_
 refine f_cond (S.tm rfl) (fun hb4 => ?_) (fun hb4 => ?_)
 ·replace h := iteT h hb4
  refine f_seq ?_
  refine f_region ?_
  refine lv S (rn_assign rfl) rfl ?_; clear S; intro a S
  refine lv S (rn_assign rfl) rfl ?_; clear S; intro a S
  refine l_done ?_
  replace S := S.nk [] [(2, .int .i64 0), (3, .int .i64 1)] [false] rfl ⟨rfl, rfl, trivial⟩
  refine then_n ?_
  refine wp_ret ?_
  refine then_r ?_
  obtain rfl := Option.some.inj h
  exact f_ret2 S Tryz.results26 rfl rfl rfl
 ·replace h := iteF h hb4
  refine wp_skip ?_
  refine then_n ?_
  refine f_seq ?_
  refine f_region ?_
  refine lv S (rn_fld fa_67_2 (S.tm rfl)) rfl ?_; clear S; intro a S
  refine lv S (rn_load Tryz.isAgg3 (S.tm rfl) (S.cell (i := 0) rfl rfl)) rfl ?_; clear S; intro a S
  refine lv S (rn_sub (S.tm rfl) rfl) rfl ?_; clear S; intro a S
  refine lv S (rn_assign (S.tm rfl)) rfl ?_; clear S; intro a S
  refine l_done ?_
  replace S := S.nk [.blk b1 [.int .i64 p_d.Year, .int .i64 p_d.Month, .int .i64 p_d.Day] 67] [(1, .pointer (some ⟨b1, 0, none⟩)), (4, .int .i64 (W (p_d.Day - 1)))] [true] rfl ⟨rfl, rfl, trivial⟩
  refine then_n ?_
  refine f_seq ?_
  refine f_seq ?_
  refine f_region ?_
  refine lv S (rn_assign rfl) rfl ?_; clear S; intro a S
  refine l_done ?_
  replace S := S.nk [.blk b1 [.int .i64 p_d.Year, .int .i64 p_d.Month, .int .i64 p_d.Day] 67] [(1, .pointer (some ⟨b1, 0, none⟩)), (4, .int .i64 (W (p_d.Day - 1))), (5, .int .i64 1)] [true] rfl ⟨rfl, rfl, rfl, trivial⟩
  refine then_n ?_
  obtain ⟨j2, hj2, h⟩ := joinE h
  refine f_join (fun a w' => ∃ x2 : Int, j2 x2 = some r ∧ Sx w [] nov [.blk b1 [.int .i64 p_d.Year, .int .i64 p_d.Month, .int .i64 p_d.Day] 67] [(1, .pointer (some ⟨b1, 0, none⟩)), (4, .int .i64 x2)] 68 a w') ?_ ?_
  ·refine wp_block ?_
   refine f_loop (fun (m1 : Nat) a w' => ∃ x2 : Int, ∃ x3 : Int, swimmer_DayOf_l1 p_d j2 m1 x2 x3 = some r ∧ Sx w [] nov [.blk b1 [.int .i64 p_d.Year, .int .i64 p_d.Month, .int .i64 p_d.Day] 67] [(1, .pointer (some ⟨b1, 0, none⟩)), (4, .int .i64 x2), (5, .int .i64 x3)] 68 a w') id ((p_d.Month - 1).toNat + 2) ⟨W (p_d.Day - 1), 1, h, S.nf [true] rfl ⟨rfl, rfl, rfl, trivial⟩⟩ ?_
   clear S h; rintro m1 a w31 ⟨x2, x3, h, S⟩
   cases m1 with
   | zero => rw [swimmer_DayOf_l1.eq_1] at h; cases h
   | succ m1 =>
    rw [swimmer_DayOf_l1.eq_2] at h
    refine f_seq ?_
    refine f_seq ?_
    refine f_region ?_
    refine lv S (rn_move (S.tm rfl)) rfl ?_; clear S; intro a S
    refine lv S (rn_fld fa_67_1 (S.tm rfl)) rfl ?_; clear S; intro a S
    refine lv S (rn_load Tryz.isAgg3 (S.tm rfl) (S.cell (i := 0) rfl rfl)) rfl ?_; clear S; intro a S
    refine lv S (rn_lss (S.tm rfl) (S.tm rfl)) rfl ?_; clear S; intro a S
    refine l_done ?_
    replace S := S.nk [.blk b1 [.int .i64 p_d.Year, .int .i64 p_d.Month, .int .i64 p_d.Day] 67] [(1, .pointer (some ⟨b1, 0, none⟩)), (4, .int .i64 x2), (5, .int .i64 x3), (35, .bool (decide (x3 < p_d.Month)))] [true] rfl ⟨rfl, rfl, rfl, rfl, trivial⟩
    refine then_n ?_
    refine f_cond (S.tm rfl) (fun hb5 => ?_) (fun hb5 => ?_)
    ·replace h := iteT h hb5
     refine wp_skip ?_
     refine then_n ?_
     refine f_seq ?_
     refine wp_block ?_
     refine f_region ?_
     refine lv S (rn_move (S.tm rfl)) rfl ?_; clear S; intro a S
     refine lv S (rn_fld fa_67_0 (S.tm rfl)) rfl ?_; clear S; intro a S
     refine lv S (rn_load Tryz.isAgg3 (S.tm rfl) (S.cell (i := 0) rfl rfl)) rfl ?_; clear S; intro a S
     refine lv S (rn_move (S.tm rfl)) rfl ?_; clear S; intro a S
     refine l_enter S (fun _ => run_call (vs := [.int .i64 p_d.Year, .int .i64 x3]) ⟨(S.tm rfl), (S.tm rfl), trivial⟩ Tryz.call41) (swimmer_long_ok _ p_d.Year x3 _ rfl) rfl ?_; clear S; intro v25 a w33 hv25 hk30 hn25 S
     subst hv25
     refine lv S (rn_add (S.tm rfl) (S.tm rfl)) rfl ?_; clear S; intro a S
     refine lv S (rn_assign (S.tm rfl)) rfl ?_; clear S; intro a S
     refine l_done ?_
     replace S := S.nk [.blk b1 [.int .i64 p_d.Year, .int .i64 p_d.Month, .int .i64 p_d.Day] 67] [(1, .pointer (some ⟨b1, 0, none⟩)), (4, .int .i64 (W (x2 + (swimmer_long p_d.Year x3)))), (5, .int .i64 x3)] [true] rfl ⟨rfl, rfl, rfl, trivial⟩
     refine blk_n ?_
     refine then_n ?_
     refine f_region ?_
     refine lv S (rn_move (S.tm rfl)) rfl ?_; clear S; intro a S
     refine lv S (rn_add (S.tm rfl) rfl) rfl ?_; clear S; intro a S
     refine lv S (rn_assign (S.tm rfl)) rfl ?_; clear S; intro a S
     refine l_done ?_
     replace S := S.nk [.blk b1 [.int .i64 p_d.Year, .int .i64 p_d.Month, .int .i64 p_d.Day] 67] [(1, .pointer (some ⟨b1, 0, none⟩)), (4, .int .i64 (W (x2 + (swimmer_long p_d.Year x3)))), (5, .int .i64 (W (x3 + 1)))] [true] rfl ⟨rfl, rfl, rfl, trivial⟩
     refine then_n ?_
     exact ⟨m1, ⟨W (x2 + (swimmer_long p_d.Year x3)), W (x3 + 1), h, S.nf [true] rfl ⟨rfl, rfl, rfl, trivial⟩⟩, Nat.lt_succ_self _⟩
    ·replace h := iteF h hb5
     refine wp_exit ?_
     refine then_x ?_
     refine then_x ?_
     refine x_same ?_
     refine then_n ?_
     exact ⟨x2, h, S.nf [true] rfl ⟨rfl, rfl, trivial⟩⟩
  clear S h; rintro a w32 ⟨x2, h, S⟩; rw [hj2] at h; clear hj2 j2
  refine then_n ?_
  refine f_seq ?_
  refine f_seq ?_
  refine f_region ?_
  refine lv S (rn_assign rfl) rfl ?_; clear S; intro a S
  refine l_done ?_
  replace S := S.nk [.blk b1 [.int .i64 p_d.Year, .int .i64 p_d.Month, .int .i64 p_d.Day] 67] [(1, .pointer (some ⟨b1, 0, none⟩)), (4, .int .i64 x2), (6, .int .i64 2024)] [true] rfl ⟨rfl, rfl, rfl, trivial⟩
  refine then_n ?_
  obtain ⟨j3, hj3, h⟩ := joinE h
  refine f_join (fun a w' => ∃ x4 : Int, j3 x4 = some r ∧ Sx w [] nov [.blk b1 [.int .i64 p_d.Year, .int .i64 p_d.Month, .int .i64 p_d.Day] 67] [(1, .pointer (some ⟨b1, 0, none⟩)), (4, .int .i64 x4)] 68 a w') ?_ ?_
  ·refine wp_block ?_
   refine f_loop (fun (m2 : Nat) a w' => ∃ x4 : Int, ∃ x5 : Int, swimmer_DayOf_l2 p_d j3 m2 x4 x5 = some r ∧ Sx w [] nov [.blk b1 [.int .i64 p_d.Year, .int .i64 p_d.Month, .int .i64 p_d.Day] 67] [(1, .pointer (some ⟨b1, 0, none⟩)), (4, .int .i64 x4), (6, .int .i64 x5)] 68 a w') id ((p_d.Year - 2024).toNat + 2) ⟨x2, 2024, h, S.nf [true] rfl ⟨rfl, rfl, rfl, trivial⟩⟩ ?_
   clear S h; rintro m2 a w34 ⟨x4, x5, h, S⟩
   cases m2 with
   | zero => rw [swimmer_DayOf_l2.eq_1] at h; cases h
   | succ m2 =>
    rw [swimmer_DayOf_l2.eq_2] at h
    refine f_seq ?_
    refine f_seq ?_
    refine f_region ?_
    refine lv S (rn_move (S.tm rfl)) rfl ?_; clear S; intro a S
    refine lv S (rn_fld fa_67_0 (S.tm rfl)) rfl ?_; clear S; intro a S
    refine lv S (rn_load Tryz.isAgg3 (S.tm rfl) (S.cell (i := 0) rfl rfl)) rfl ?_; clear S; intro a S
    refine lv S (rn_lss (S.tm rfl) (S.tm rfl)) rfl ?_; clear S; intro a S
    refine l_done ?_
    replace S := S.nk [.blk b1 [.int .i64 p_d.Year, .int .i64 p_d.Month, .int .i64 p_d.Day] 67] [(1, .pointer (some ⟨b1, 0, none⟩)), (4, .int .i64 x4), (6, .int .i64 x5), (47, .bool (decide (x5 < p_d.Year)))] [true] rfl ⟨rfl, rfl, rfl, rfl, trivial⟩
    refine then_n ?_
    refine f_cond (S.tm rfl) (fun hb6 => ?_) (fun hb6 => ?_)
    ·replace h := iteT h hb6
     refine wp_skip ?_
     refine then_n ?_
     refine f_seq ?_
     refine wp_block ?_
     refine f_region ?_
     refine lv S (rn_move (S.tm rfl)) rfl ?_; clear S; intro a S
     refine lv S (rn_move (S.tm rfl)) rfl ?_; clear S; intro a S
     refine l_enter S (fun _ => run_call (vs := [.int .i64 x5]) ⟨(S.tm rfl), trivial⟩ Tryz.call42) (swimmer_yearLong_ok _ x5 _ rfl) rfl ?_; clear S; intro v26 a w36 hv26 hk31 hn26 S
     subst hv26
     refine lv S (rn_add (S.tm rfl) (S.tm rfl)) rfl ?_; clear S; intro a S
     refine lv S (rn_assign (S.tm rfl)) rfl ?_; clear S; intro a S
     refine l_done ?_
     replace S := S.nk [.blk b1 [.int .i64 p_d.Year, .int .i64 p_d.Month, .int .i64 p_d.Day] 67] [(1, .pointer (some ⟨b1, 0, none⟩)), (4, .int .i64 (W (x4 + (swimmer_yearLong x5)))), (6, .int .i64 x5)] [true] rfl ⟨rfl, rfl, rfl, trivial⟩
     refine blk_n ?_
     refine then_n ?_
     refine f_region ?_
     refine lv S (rn_move (S.tm rfl)) rfl ?_; clear S; intro a S
     refine lv S (rn_add (S.tm rfl) rfl) rfl ?_; clear S; intro a S
     refine lv S (rn_assign (S.tm rfl)) rfl ?_; clear S; intro a S
     refine l_done ?_
     replace S := S.nk [.blk b1 [.int .i64 p_d.Year, .int .i64 p_d.Month, .int .i64 p_d.Day] 67] [(1, .pointer (some ⟨b1, 0, none⟩)), (4, .int .i64 (W (x4 + (swimmer_yearLong x5)))), (6, .int .i64 (W (x5 + 1)))] [true] rfl ⟨rfl, rfl, rfl, trivial⟩
     refine then_n ?_
     exact ⟨m2, ⟨W (x4 + (swimmer_yearLong x5)), W (x5 + 1), h, S.nf [true] rfl ⟨rfl, rfl, rfl, trivial⟩⟩, Nat.lt_succ_self _⟩
    ·replace h := iteF h hb6
     refine wp_exit ?_
     refine then_x ?_
     refine then_x ?_
     refine x_same ?_
     refine then_n ?_
     exact ⟨x4, h, S.nf [true] rfl ⟨rfl, rfl, trivial⟩⟩
  clear S h; rintro a w35 ⟨x4, h, S⟩; rw [hj3] at h; clear hj3 j3
  refine then_n ?_
  refine f_seq ?_
  refine f_seq ?_
  refine f_region ?_
  refine lv S (rn_fld fa_67_0 (S.tm rfl)) rfl ?_; clear S; intro a S
  refine lv S (rn_load Tryz.isAgg3 (S.tm rfl) (S.cell (i := 0) rfl rfl)) rfl ?_; clear S; intro a S
  refine lv S (rn_assign (S.tm rfl)) rfl ?_; clear S; intro a S
  refine l_done ?_
  replace S := S.nk [] [(4, .int .i64 x4), (7, .int .i64 p_d.Year)] [false] rfl ⟨rfl, rfl, trivial⟩
  refine then_n ?_
  obtain ⟨j4, hj4, h⟩ := joinE h
  refine f_join (fun a w' => ∃ x6 : Int, j4 x6 = some r ∧ Sx w [] nov [] [(4, .int .i64 x6)] 68 a w') ?_ ?_
  ·refine wp_block ?_
   refine f_loop (fun (m3 : Nat) a w' => ∃ x6 : Int, ∃ x7 : Int, swimmer_DayOf_l3 j4 m3 x6 x7 = some r ∧ Sx w [] nov [] [(4, .int .i64 x6), (7, .int .i64 x7)] 68 a w') id ((2024 - p_d.Year).toNat + 2) ⟨x4, p_d.Year, h, S.nf [] rfl ⟨rfl, rfl, trivial⟩⟩ ?_
   clear S h; rintro m3 a w37 ⟨x6, x7, h, S⟩
   cases m3 with
   | zero => rw [swimmer_DayOf_l3.eq_1] at h; cases h
   | succ m3 =>
    rw [swimmer_DayOf_l3.eq_2] at h
    refine f_seq ?_
    refine f_seq ?_
    refine f_region ?_
    refine lv S (rn_move (S.tm rfl)) rfl ?_; clear S; intro a S
    refine lv S (rn_lss (S.tm rfl) rfl) rfl ?_; clear S; intro a S
    refine l_done ?_
    replace S := S.nk [] [(4, .int .i64 x6), (7, .int .i64 x7), (57, .bool (decide (x7 < 2024)))] [] rfl ⟨rfl, rfl, rfl, trivial⟩
    refine then_n ?_
    refine f_cond (S.tm rfl) (fun hb7 => ?_) (fun hb7 => ?_)
    ·replace h := iteT h hb7
     refine wp_skip ?_
     refine then_n ?_
     refine f_seq ?_
     refine wp_block ?_
     refine f_region ?_
     refine lv S (rn_move (S.tm rfl)) rfl ?_; clear S; intro a S
     refine lv S (rn_move (S.tm rfl)) rfl ?_; clear S; intro a S
     refine l_enter S (fun _ => run_call (vs := [.int .i64 x7]) ⟨(S.tm rfl), trivial⟩ Tryz.call42) (swimmer_yearLong_ok _ x7 _ rfl) rfl ?_; clear S; intro v27 a w39 hv27 hk32 hn27 S
     subst hv27
     refine lv S (rn_sub (S.tm rfl) (S.tm rfl)) rfl ?_; clear S; intro a S
     refine lv S (rn_assign (S.tm rfl)) rfl ?_; clear S; intro a S
     refine l_done ?_
     replace S := S.nk [] [(4, .int .i64 (W (x6 - (swimmer_yearLong x7)))), (7, .int .i64 x7)] [] rfl ⟨rfl, rfl, trivial⟩
     refine blk_n ?_
     refine then_n ?_
     refine f_region ?_
     refine lv S (rn_move (S.tm rfl)) rfl ?_; clear S; intro a S
     refine lv S (rn_add (S.tm rfl) rfl) rfl ?_; clear S; intro a S
     refine lv S (rn_assign (S.tm rfl)) rfl ?_; clear S; intro a S
     refine l_done ?_
     replace S := S.nk [] [(4, .int .i64 (W (x6 - (swimmer_yearLong x7)))), (7, .int .i64 (W (x7 + 1)))] [] rfl ⟨rfl, rfl, trivial⟩
     refine then_n ?_
     exact ⟨m3, ⟨W (x6 - (swimmer_yearLong x7)), W (x7 + 1), h, S.nf [] rfl ⟨rfl, rfl, trivial⟩⟩, Nat.lt_succ_self _⟩
    ·replace h := iteF h hb7
     refine wp_exit ?_
     refine then_x ?_
     refine then_x ?_
     refine x_same ?_
     refine then_n ?_
     exact ⟨x6, h, S.nf [] rfl ⟨rfl, trivial⟩⟩
  clear S h; rintro a w38 ⟨x6, h, S⟩; rw [hj4] at h; clear hj4 j4
  refine then_n ?_
  refine f_seq ?_
  refine f_seq ?_
  refine f_region ?_
  refine lv S (rn_move (S.tm rfl)) rfl ?_; clear S; intro a S
  refine l_enter S (fun _ => run_call (vs := [.int .i64 x6]) ⟨(S.tm rfl), trivial⟩ Tryz.call43) (swimmer_isDay_ok _ x6 _ rfl) rfl ?_; clear S; intro v28 a w40 hv28 hk33 hn28 S
  subst hv28
  refine lv S (rn_not (S.tm rfl)) rfl ?_; clear S; intro a S
  refine l_done ?_
  replace S := S.nk [] [(4, .int .i64 x6), (66, .bool (!(swimmer_isDay x6)))] [] rfl ⟨rfl, rfl, trivial⟩
  refine then_n ?_
  refine f_cond (S.tm rfl) (fun hb8 => ?_) (fun hb8 => ?_)
  ·replace h := iteT h hb8
   refine f_seq ?_
   refine f_region ?_
   refine lv S (rn_assign rfl) rfl ?_; clear S; intro a S
   refine lv S (rn_assign rfl) rfl ?_; clear S; intro a S
   refine l_done ?_
   replace S := S.nk [] [(2, .int .i64 0), (3, .int .i64 1)] [] rfl ⟨rfl, rfl, trivial⟩
   refine then_n ?_
   refine wp_ret ?_
   refine then_r ?_
   obtain rfl := Option.some.inj h
   exact f_ret2 S Tryz.results26 rfl rfl rfl
  ·replace h := iteF h hb8
   refine wp_skip ?_
   refine then_n ?_
   refine f_seq ?_
   refine f_region ?_
   refine lv S (rn_move (S.tm rfl)) rfl ?_; clear S; intro a S
   refine lv S (rn_assign (S.tm rfl)) rfl ?_; clear S; intro a S
   refine lv S (rn_assign rfl) rfl ?_; clear S; intro a S
   refine l_done ?_
   replace S := S.nk [] [(2, .int .i64 x6), (3, .int .i64 0)] [] rfl ⟨rfl, rfl, trivial⟩
   refine then_n ?_
   refine wp_ret ?_
   obtain rfl := Option.some.inj h
   exact f_ret2 S Tryz.results26 rfl rfl rfl
theorem strings_Trim_ok (w : World) (s c : ByteArray) (r : ByteArray) (h : strings_Trim s c = some r) : Calls Tryz.prog 76 [.string s, .string c].toArray w (Ret w [] fun _ v _ => v = .string r) := by
  unfold strings_Trim at h
  obtain ⟨h1, h⟩ := chkE h
  obtain ⟨h2, h⟩ := chkE h
  obtain ⟨h3, h⟩ := chkE h
  obtain rfl := Option.some.inj h
  exact ret_of_below (Any.strings_Trim_laid Tryz.lays160 (by kernel_rfl) s c w (by simpa using h1) (by simpa using h2) (fun j b hb => by simpa using List.all_eq_true.1 h3 b (List.mem_of_getElem? hb)))
theorem words_IsKey_ok (w : World) (p_s : ByteArray) (r : Bool) (h : words_IsKey p_s = some r) :
    Calls Tryz.prog 57 [.string p_s].toArray w (Ret w [] fun _ v _ => v = .bool r) := by
 refine f_enter [] [] Tryz.func57 rfl Tryz.ntmps57 rfl (by simp) (by simp [fps]) (by simp [fps]) fun a S => ?_
 unfold words_IsKey at h
 replace S := S.nk [] [(0, .string p_s)] [] rfl ⟨rfl, trivial⟩
 refine f_seq ?_
 refine f_region ?_
 refine lv S (rn_assign rfl) rfl ?_; clear S; intro a S
 refine l_done ?_
 replace S := S.nk [] [(0, .string p_s)] [] rfl ⟨rfl, trivial⟩
 refine then_n ?_
 refine f_seq ?_
 refine f_region ?_
 refine lv S (rn_move (S.tm rfl)) rfl ?_; clear S; intro a S
 refine lv S (rn_len_str Tryz.underlying9 (S.tm rfl)) rfl ?_; clear S; intro a S
 refine lv S (rn_geq (S.tm rfl) rfl) rfl ?_; clear S; intro a S
 refine lv S (rn_move (S.tm rfl)) rfl ?_; clear S; intro a S
 refine f_cutm 4 (fun a w' => Keep [] w w' ∧ Sx w [] nov [] [(0, .string p_s), (10, .bool ((decide (1 ≤ (p_s.size : Int))) && (decide ((p_s.size : Int) ≤ 40))))] 26 a w') ?_ ?_
 ·rcases Bool.eq_false_or_eq_true (decide (1 ≤ (p_s.size : Int))) with hb1 | hb1
  ·refine l_want S rfl rfl rfl hb1 ?_
   refine lv S (rn_move (S.tm rfl)) rfl ?_; clear S; intro a S
   refine l_want S rfl rfl rfl hb1 ?_
   refine lv S (rn_len_str Tryz.underlying9 (S.tm rfl)) rfl ?_; clear S; intro a S
   refine l_want S rfl rfl rfl hb1 ?_
   refine lv S (rn_leq (S.tm rfl) rfl) rfl ?_; clear S; intro a S
   refine lv S (rn_and_t hb1 (S.tm rfl) (S.tm rfl)) rfl ?_; clear S; intro a S
   refine l_done ?_
   refine then_n ?_
   exact ⟨Keep.refl _ _, S.nf [] rfl ⟨rfl, rfl, trivial⟩⟩
  ·refine l_skip S rfl rfl rfl (neq_f hb1) rfl ?_ rfl; clear S; intro a S
   refine l_skip S rfl rfl rfl (neq_f hb1) rfl ?_ rfl; clear S; intro a S
   refine l_skip S rfl rfl rfl (neq_f hb1) rfl ?_ rfl; clear S; intro a S
   refine lv S (rn_and_f (decide ((p_s.size : Int) ≤ 40)) hb1 (S.tm rfl) rfl) rfl ?_; clear S; intro a S
   refine l_done ?_
   refine then_n ?_
   exact ⟨Keep.refl _ _, S.nf [] rfl ⟨rfl, rfl, trivial⟩⟩
 clear S; rintro a w1 ⟨hk1, S⟩
 refine lv S (rn_move (S.tm rfl)) rfl ?_; clear S; intro a S
 obtain ⟨j1, hj1, h⟩ := joinE h
 refine f_cutm 4 (fun a w' => ∃ c1, j1 c1 = some r ∧ Keep [] w1 w' ∧ Sx w [] nov [] [(0, .string p_s), (15, .bool c1)] 26 a w') ?_ ?_
 ·rcases Bool.eq_false_or_eq_true ((decide (1 ≤ (p_s.size : Int))) && (decide ((p_s.size : Int) ≤ 40))) with hb2 | hb2
  ·replace h := iteT h hb2
   refine l_want S rfl rfl rfl hb2 ?_
   refine lv S (rn_move (S.tm rfl)) rfl ?_; clear S; intro a S
   refine l_want S rfl rfl rfl hb2 ?_
   obtain ⟨hc1, h⟩ := chkE h
   refine lv S (rn_sindexT Tryz.underlying9 (S.tm rfl) rfl hc1) rfl ?_; clear S; intro a S
   refine l_want S rfl rfl rfl hb2 ?_
   refine lv S (rn_geq (S.tm rfl) rfl) rfl ?_; clear S; intro a S
   refine lv S (rn_and_t hb2 (S.tm rfl) (S.tm rfl)) rfl ?_; clear S; intro a S
   refine l_done ?_
   refine then_n ?_
   exact ⟨_, h, Keep.refl _ _, S.nf [] rfl ⟨rfl, rfl, trivial⟩⟩
  ·replace h := iteF h hb2
   refine l_skip S rfl rfl rfl (neq_f hb2) rfl ?_ rfl; clear S; intro a S
   refine l_skip S rfl rfl rfl (neq_f hb2) rfl ?_ rfl; clear S; intro a S
   refine l_skip S rfl rfl rfl (neq_f hb2) rfl ?_ rfl; clear S; intro a S
   refine lv S (rn_and_f true hb2 (S.tm rfl) rfl) rfl ?_; clear S; intro a S
   refine l_done ?_
   refine then_n ?_
   exact ⟨_, h, Keep.refl _ _, S.nf [] rfl ⟨rfl, rfl, trivial⟩⟩
 clear S h; rintro a w2 ⟨c1, h, hk2, S⟩; rw [hj1] at h; clear hj1 j1
 refine lv S (rn_move (S.tm rfl)) rfl ?_; clear S; intro a S
 obtain ⟨j2, hj2, h⟩ := joinE h
 refine f_cutm 4 (fun a w' => ∃ c2, j2 c2 = some r ∧ Keep [] w2 w' ∧ Sx w [] nov [] [(0, .string p_s), (20, .bool c2)] 26 a w') ?_ ?_
 ·rcases Bool.eq_false_or_eq_true c1 with hb3 | hb3
  ·replace h := iteT h hb3
   refine l_want S rfl rfl rfl hb3 ?_
   refine lv S (rn_move (S.tm rfl)) rfl ?_; clear S; intro a S
   refine l_want S rfl rfl rfl hb3 ?_
   obtain ⟨hc2, h⟩ := chkE h
   refine lv S (rn_sindexT Tryz.underlying9 (S.tm rfl) rfl hc2) rfl ?_; clear S; intro a S
   refine l_want S rfl rfl rfl hb3 ?_
   refine lv S (rn_leq (S.tm rfl) rfl) rfl ?_; clear S; intro a S
   refine lv S (rn_and_t hb3 (S.tm rfl) (S.tm rfl)) rfl ?_; clear S; intro a S
   refine l_done ?_
   refine then_n ?_
   exact ⟨_, h, Keep.refl _ _, S.nf [] rfl ⟨rfl, rfl, trivial⟩⟩
  ·replace h := iteF h hb3
   refine l_skip S rfl rfl rfl (neq_f hb3) rfl ?_ rfl; clear S; intro a S
   refine l_skip S rfl rfl rfl (neq_f hb3) rfl ?_ rfl; clear S; intro a S
   refine l_skip S rfl rfl rfl (neq_f hb3) rfl ?_ rfl; clear S; intro a S
   refine lv S (rn_and_f true hb3 (S.tm rfl) rfl) rfl ?_; clear S; intro a S
   refine l_done ?_
   refine then_n ?_
   exact ⟨_, h, Keep.refl _ _, S.nf [] rfl ⟨rfl, rfl, trivial⟩⟩
 clear S h; rintro a w3 ⟨c2, h, hk3, S⟩; rw [hj2] at h; clear hj2 j2
 refine lv S (rn_move (S.tm rfl)) rfl ?_; clear S; intro a S
 obtain ⟨j3, hj3, h⟩ := joinE h
 refine f_cutm 4 (fun a w' => ∃ c3, j3 c3 = some r ∧ Keep [] w3 w' ∧ Sx w [] nov [] [(25, .bool c3)] 26 a w') ?_ ?_
 ·rcases Bool.eq_false_or_eq_true c2 with hb4 | hb4
  ·replace h := iteT h hb4
   refine l_want S rfl rfl rfl hb4 ?_
   refine lv S (rn_move (S.tm rfl)) rfl ?_; clear S; intro a S
   refine l_want S rfl rfl rfl hb4 ?_
   obtain ⟨r1, hr1, h⟩ := bindE h
   refine l_enter S (fun _ => run_call (vs := [.string p_s, .string k_abcdefghijkl_h0e2e2c]) ⟨(S.tm rfl), rfl, trivial⟩ Tryz.call76) (strings_Trim_ok _ p_s k_abcdefghijkl_h0e2e2c _ hr1) rfl ?_; clear S; intro v1 a w5 hv1 hk4 hn1 S
   subst hv1
   refine l_want S rfl rfl rfl hb4 ?_
   refine lv S (rn_seql (S.tm rfl) rfl) rfl ?_; clear S; intro a S
   refine lv S (rn_and_t hb4 (S.tm rfl) (S.tm rfl)) rfl ?_; clear S; intro a S
   refine l_done ?_
   refine then_n ?_
   exact ⟨_, h, hk4, S.nf [] rfl ⟨rfl, trivial⟩⟩
  ·replace h := iteF h hb4
   refine l_skip S rfl rfl rfl (neq_f hb4) rfl ?_ rfl; clear S; intro a S
   refine l_skip S rfl rfl rfl (neq_f hb4) rfl ?_ rfl; clear S; intro a S
   refine l_skip S rfl rfl rfl (neq_f hb4) rfl ?_ rfl; clear S; intro a S
   refine lv S (rn_and_f true hb4 (S.tm rfl) rfl) rfl ?_; clear S; intro a S
   refine l_done ?_
   refine then_n ?_
   exact ⟨_, h, Keep.refl _ _, S.nf [] rfl ⟨rfl, trivial⟩⟩
 clear S h; rintro a w4 ⟨c3, h, hk5, S⟩; rw [hj3] at h; clear hj3 j3
 refine lv S (rn_assign (S.tm rfl)) rfl ?_; clear S; intro a S
 refine l_done ?_
 replace S := S.nk [] [(2, .bool c3)] [] rfl ⟨rfl, trivial⟩
 refine then_n ?_
 refine wp_ret ?_
 obtain rfl := Option.some.inj h
 exact f_ret S Tryz.results57 rfl rfl
theorem session_CheckItems_ok (w : World) (v_p_l : Value) (p_l : List GItem) (hs_p_l : Slc (view w []) 5 v_p_l (p_l.map GItem.enc)) (r : Int) (h : session_CheckItems p_l = some r) :
    Calls Tryz.prog 65 [v_p_l].toArray w (Ret w [] fun _ v _ => v = .int .i64 r) := by
 refine f_enter [] [] Tryz.func65 rfl Tryz.ntmps65 rfl (by simp) (by simp [fps]) (by simp [fps]) fun a S => ?_
 unfold session_CheckItems at h
 replace S := S.nk [] [(0, v_p_l)] [] rfl ⟨rfl, trivial⟩
 refine f_seq ?_
 refine f_region ?_
 refine lv S (rn_assign rfl) rfl ?_; clear S; intro a S
 refine l_done ?_
 replace S := S.nk [] [(0, v_p_l)] [] rfl ⟨rfl, trivial⟩
 refine then_n ?_
 refine f_seq ?_
 refine f_seq ?_
 refine f_region ?_
 refine lv S (rn_move (S.tm rfl)) rfl ?_; clear S; intro a S
 refine lv S (rn_lenT sl_71 (S.tm rfl) (slc_len hs_p_l)) rfl ?_; clear S; intro a S
 refine lv S (rn_gtr (S.tm rfl) rfl) rfl ?_; clear S; intro a S
 refine l_done ?_
 replace S := S.nk [] [(0, v_p_l), (8, .bool (decide (100 < (p_l.length : Int))))] [] rfl ⟨rfl, rfl, trivial⟩
 refine then_n ?_
 refine f_cond (S.tm rfl) (fun hb1 => ?_) (fun hb1 => ?_)
 ·replace h := iteT h hb1
  refine f_seq ?_
  refine f_region ?_
  refine lv S (rn_assign rfl) rfl ?_; clear S; intro a S
  refine l_done ?_
  replace S := S.nk [] [(2, .int .i64 2)] [] rfl ⟨rfl, trivial⟩
  refine then_n ?_
  refine wp_ret ?_
  refine then_r ?_
  obtain rfl := Option.some.inj h
  exact f_ret S Tryz.results65 rfl rfl
 ·replace h := iteF h hb1
  refine wp_skip ?_
  refine then_n ?_
  refine f_seq ?_
  refine f_region ?_
  refine l_makeMap (κ := ByteArray) (ν := Bool) S rfl Value.string Value.bool ?_; clear S; intro a w1 b1 hz1 hk1 S
  refine lv S (rn_assign (S.tm rfl)) rfl ?_; clear S; intro a S
  refine l_done ?_
  replace S := S.nk [.map b1 (ments Value.string Value.bool ([] : List (ByteArray × Bool))) ([] : List (ByteArray × Bool)).length] [(0, v_p_l), (3, .map (some b1))] [true] rfl ⟨rfl, rfl, trivial⟩
  refine then_n ?_
  refine f_seq ?_
  refine f_seq ?_
  refine f_region ?_
  refine lv S (rn_move (S.tm rfl)) rfl ?_; clear S; intro a S
  refine lv S (rn_lenT sl_71 (S.tm rfl) (slc_len hs_p_l)) rfl ?_; clear S; intro a S
  refine lv S (rn_move rfl) rfl ?_; clear S; intro a S
  refine l_done ?_
  replace S := S.nk [.map b1 (ments Value.string Value.bool ([] : List (ByteArray × Bool))) ([] : List (ByteArray × Bool)).length] [(3, .map (some b1)), (10, v_p_l), (11, .int .i64 (p_l.length : Int)), (12, .int .i64 0)] [true] rfl ⟨rfl, rfl, rfl, rfl, trivial⟩
  refine then_n ?_
  obtain ⟨j1, hj1, h⟩ := joinE h
  refine f_join (fun a w' => ∃ x1 : List (ByteArray × Bool), j1 x1 = some r ∧ Sx w [] nov [.map b1 (ments Value.string Value.bool x1) x1.length] [] 53 a w') ?_ ?_
  ·refine wp_block ?_
   refine f_loop (fun (ys1 : List GItem) a w' => ∃ i1 : Nat, ∃ x1 : List (ByteArray × Bool), (∃ dn, p_l = dn ++ ys1 ∧ dn.length = i1) ∧ session_CheckItems_l1 j1 ys1 i1 x1 = some r ∧ Sx w [] nov [.map b1 (ments Value.string Value.bool x1) x1.length] [(3, .map (some b1)), (10, v_p_l), (11, .int .i64 (p_l.length : Int)), (12, .int .i64 (i1 : Int))] 53 a w') List.length p_l ⟨0, ([] : List (ByteArray × Bool)), ⟨[], rfl, rfl⟩, h, S.nf [true] rfl ⟨rfl, rfl, rfl, rfl, trivial⟩⟩ ?_
   clear S h; rintro ys1 a w2 ⟨i1, x1, ⟨dn, hd1, hi1⟩, h, S⟩
   cases ys1 with
   | nil =>
    rw [session_CheckItems_l1.eq_1] at h
    refine f_seq ?_
    refine f_region ?_
    refine lv S (rn_lss (S.tm rfl) (S.tm rfl)) rfl ?_; clear S; intro a S
    refine l_done ?_
    replace S := S.nk [.map b1 (ments Value.string Value.bool x1) x1.length] [(3, .map (some b1)), (10, v_p_l), (11, .int .i64 (p_l.length : Int)), (12, .int .i64 (i1 : Int)), (13, .bool (decide ((i1 : Int) < (p_l.length : Int))))] [true] rfl ⟨rfl, rfl, rfl, rfl, rfl, trivial⟩
    refine then_n ?_
    refine f_seq ?_
    refine wp_cond_false ((S.tm rfl).trans (congrArg Value.bool (rng_nil hd1 hi1))) ?_
    refine wp_exit ?_
    refine then_x ?_
    refine then_x ?_
    refine x_same ?_
    refine then_n ?_
    exact ⟨x1, h, S.nf [true] rfl trivial⟩
   | cons y1 ys1 =>
    rw [session_CheckItems_l1.eq_2] at h
    refine f_seq ?_
    refine f_region ?_
    refine lv S (rn_lss (S.tm rfl) (S.tm rfl)) rfl ?_; clear S; intro a S
    refine l_done ?_
    replace S := S.nk [.map b1 (ments Value.string Value.bool x1) x1.length] [(3, .map (some b1)), (10, v_p_l), (11, .int .i64 (p_l.length : Int)), (12, .int .i64 (i1 : Int)), (13, .bool (decide ((i1 : Int) < (p_l.length : Int))))] [true] rfl ⟨rfl, rfl, rfl, rfl, rfl, trivial⟩
    refine then_n ?_
    refine f_seq ?_
    refine wp_cond_true ((S.tm rfl).trans (congrArg Value.bool (rng_cons hd1 hi1))) ?_
    refine wp_skip ?_
    refine then_n ?_
    refine f_seq ?_
    refine wp_block ?_
    refine f_seq ?_
    refine f_region ?_
    obtain ⟨b2, o1, hm1, hr1⟩ := rn_indexT (a := a) (x := .tmp 10) (y := .tmp 12) (ty := 0) sl_71 hs_p_l (get_mid hd1 hi1) rfl (S.tm rfl) (S.tm rfl)
    refine lv S (hr1 _) rfl ?_; clear S; intro a S
    clear hr1
    refine lv S (rn_ldA Tryz.isAgg70 Tryz.sizeOf70 (off := o1) (o := 0) (part := [.string y1.Key, .int .i64 y1.Heats, .int .i64 y1.Long, .int .i64 y1.Gap, .int .i64 y1.Break]) rfl rfl (S.tm rfl) (hm1.at S.emb0)) rfl ?_; clear S; intro a S
    refine l_alloc S Tryz.zeroValue70 (cs := [.string k_empty, .int .i64 0, .int .i64 0, .int .i64 0, .int .i64 0]) rfl rfl ?_; clear S; intro a w4 b3 hz2 hk2 S
    refine l_store S (S.tm rfl) (S.tm rfl) (i := 0) (off := 0) rfl Tryz.sizeOf70 (vs := [.string y1.Key, .int .i64 y1.Heats, .int .i64 y1.Long, .int .i64 y1.Gap, .int .i64 y1.Break]) rfl rfl rfl rfl ?_; clear S; intro w5 hk3 S
    refine l_done ?_
    replace S := S.nk [.blk b3 [.string y1.Key, .int .i64 y1.Heats, .int .i64 y1.Long, .int .i64 y1.Gap, .int .i64 y1.Break] 70, .map b1 (ments Value.string Value.bool x1) x1.length] [(3, .map (some b1)), (5, .pointer (some ⟨b3, 0, none⟩)), (10, v_p_l), (11, .int .i64 (p_l.length : Int)), (12, .int .i64 (i1 : Int))] [true, true] rfl ⟨rfl, rfl, rfl, rfl, rfl, trivial⟩
    refine then_n ?_
    refine f_seq ?_
    refine wp_block ?_
    refine f_seq ?_
    refine f_region ?_
    refine lv S (rn_fld fa_70_0 (S.tm rfl)) rfl ?_; clear S; intro a S
    refine lv S (rn_load Tryz.isAgg9 (S.tm rfl) (S.cell (i := 0) rfl rfl)) rfl ?_; clear S; intro a S
    obtain ⟨r1, hr2, h⟩ := bindE h
    refine l_enter S (fun _ => run_call (vs := [.string y1.Key]) ⟨(S.tm rfl), trivial⟩ Tryz.call57) (words_IsKey_ok _ y1.Key _ hr2) rfl ?_; clear S; intro v1 a w6 hv1 hk4 hn1 S
    subst hv1
    refine lv S (rn_not (S.tm rfl)) rfl ?_; clear S; intro a S
    refine lv S (rn_assign (S.tm rfl)) rfl ?_; clear S; intro a S
    refine l_done ?_
    replace S := S.nk [.blk b3 [.string y1.Key, .int .i64 y1.Heats, .int .i64 y1.Long, .int .i64 y1.Gap, .int .i64 y1.Break] 70, .map b1 (ments Value.string Value.bool x1) x1.length] [(3, .map (some b1)), (5, .pointer (some ⟨b3, 0, none⟩)), (10, v_p_l), (11, .int .i64 (p_l.length : Int)), (12, .int .i64 (i1 : Int)), (16, .bool (!r1))] [true, true] rfl ⟨rfl, rfl, rfl, rfl, rfl, rfl, trivial⟩
    refine then_n ?_
    refine f_cond (S.tm rfl) (fun hb2 => ?_) (fun hb2 => ?_)
    ·replace h := iteT h hb2
     refine f_seq ?_
     refine f_region ?_
     refine lv S (rn_assign rfl) rfl ?_; clear S; intro a S
     refine l_done ?_
     replace S := S.nk [] [(2, .int .i64 5)] [false, false] rfl ⟨rfl, trivial⟩
     refine then_n ?_
     refine wp_ret ?_
     refine blk_r ?_
     refine then_r ?_
     refine blk_r ?_
     refine then_r ?_
     refine then_r ?_
     refine blk_r ?_
     refine then_r ?_
     refine then_r ?_
     obtain rfl := Option.some.inj h
     exact f_ret S Tryz.results65 rfl rfl
    ·replace h := iteF h hb2
     refine f_seq ?_
     refine f_region ?_
     refine lv S (rn_move (S.tm rfl)) rfl ?_; clear S; intro a S
     refine lv S (rn_fld fa_70_0 (S.tm rfl)) rfl ?_; clear S; intro a S
     refine lv S (rn_load Tryz.isAgg9 (S.tm rfl) (S.cell (i := 0) rfl rfl)) rfl ?_; clear S; intro a S
     refine lv S (rn_lookup (kv := Value.string) (vv := Value.bool) (m := x1) (key := y1.Key) (z := false) (S.map_at (i := 1) rfl) Tryz.underlying131 (keyT_str Tryz.underlying9) Tryz.zeroValue4 (S.tm rfl) (S.tm rfl)) rfl ?_; clear S; intro a S
     refine lv S (rn_assign (S.tm rfl)) rfl ?_; clear S; intro a S
     refine l_done ?_
     replace S := S.nk [.blk b3 [.string y1.Key, .int .i64 y1.Heats, .int .i64 y1.Long, .int .i64 y1.Gap, .int .i64 y1.Break] 70, .map b1 (ments Value.string Value.bool x1) x1.length] [(3, .map (some b1)), (5, .pointer (some ⟨b3, 0, none⟩)), (10, v_p_l), (11, .int .i64 (p_l.length : Int)), (12, .int .i64 (i1 : Int)), (21, .bool (mgetD x1 y1.Key false))] [true, true] rfl ⟨rfl, rfl, rfl, rfl, rfl, rfl, trivial⟩
     refine then_n ?_
     refine f_cond (S.tm rfl) (fun hb3 => ?_) (fun hb3 => ?_)
     ·replace h := iteT h hb3
      refine f_seq ?_
      refine f_region ?_
      refine lv S (rn_assign rfl) rfl ?_; clear S; intro a S
      refine l_done ?_
      replace S := S.nk [] [(2, .int .i64 6)] [false, false] rfl ⟨rfl, trivial⟩
      refine then_n ?_
      refine wp_ret ?_
      refine blk_r ?_
      refine then_r ?_
      refine blk_r ?_
      refine then_r ?_
      refine then_r ?_
      refine blk_r ?_
      refine then_r ?_
      refine then_r ?_
      obtain rfl := Option.some.inj h
      exact f_ret S Tryz.results65 rfl rfl
     ·replace h := iteF h hb3
      refine f_seq ?_
      refine f_region ?_
      refine lv S (rn_fld fa_70_1 (S.tm rfl)) rfl ?_; clear S; intro a S
      refine lv S (rn_load Tryz.isAgg3 (S.tm rfl) (S.cell (i := 0) rfl rfl)) rfl ?_; clear S; intro a S
      refine l_enter S (fun _ => run_call (vs := [.int .i64 y1.Heats, .int .i64 1, .int .i64 60]) ⟨(S.tm rfl), rfl, rfl, trivial⟩ Tryz.call40) (words_Within_ok _ y1.Heats 1 60 _ rfl) rfl ?_; clear S; intro v2 a w7 hv2 hk5 hn2 S
      subst hv2
      refine lv S (rn_not (S.tm rfl)) rfl ?_; clear S; intro a S
      refine lv S (rn_move (S.tm rfl)) rfl ?_; clear S; intro a S
      refine f_cutm 5 (fun a w' => Keep [] w7 w' ∧ Sx w [] nov [.blk b3 [.string y1.Key, .int .i64 y1.Heats, .int .i64 y1.Long, .int .i64 y1.Gap, .int .i64 y1.Break] 70, .map b1 (ments Value.string Value.bool x1) x1.length] [(3, .map (some b1)), (5, .pointer (some ⟨b3, 0, none⟩)), (10, v_p_l), (11, .int .i64 (p_l.length : Int)), (12, .int .i64 (i1 : Int)), (36, .bool ((!(words_Within y1.Heats 1 60)) || (!(words_Within y1.Long 1 3600000))))] 53 a w') ?_ ?_
      ·rcases Bool.eq_false_or_eq_true (!(words_Within y1.Heats 1 60)) with hb4 | hb4
       ·refine l_skip S rfl rfl rfl (neq_t hb4) rfl ?_ rfl; clear S; intro a S
        refine l_skip S rfl rfl rfl (neq_t hb4) rfl ?_ rfl; clear S; intro a S
        refine l_skip S rfl rfl rfl (neq_t hb4) rfl ?_ rfl; clear S; intro a S
        refine l_skip S rfl rfl rfl (neq_t hb4) rfl ?_ rfl; clear S; intro a S
        refine lv S (rn_or_t (!(words_Within y1.Long 1 3600000)) hb4 (S.tm rfl) rfl) rfl ?_; clear S; intro a S
        refine l_done ?_
        refine then_n ?_
        exact ⟨Keep.refl _ _, S.nf [true, true] rfl ⟨rfl, rfl, rfl, rfl, rfl, rfl, trivial⟩⟩
       ·refine l_want S rfl rfl rfl hb4 ?_
        refine lv S (rn_fld fa_70_2 (S.tm rfl)) rfl ?_; clear S; intro a S
        refine l_want S rfl rfl rfl hb4 ?_
        refine lv S (rn_load Tryz.isAgg3 (S.tm rfl) (S.cell (i := 0) rfl rfl)) rfl ?_; clear S; intro a S
        refine l_want S rfl rfl rfl hb4 ?_
        refine l_enter S (fun _ => run_call (vs := [.int .i64 y1.Long, .int .i64 1, .int .i64 3600000]) ⟨(S.tm rfl), rfl, rfl, trivial⟩ Tryz.call40) (words_Within_ok _ y1.Long 1 3600000 _ rfl) rfl ?_; clear S; intro v3 a w9 hv3 hk6 hn3 S
        subst hv3
        refine l_want S rfl rfl rfl hb4 ?_
        refine lv S (rn_not (S.tm rfl)) rfl ?_; clear S; intro a S
        refine lv S (rn_or_f hb4 (S.tm rfl) (S.tm rfl)) rfl ?_; clear S; intro a S
        refine l_done ?_
        refine then_n ?_
        exact ⟨hk6, S.nf [true, true] rfl ⟨rfl, rfl, rfl, rfl, rfl, rfl, trivial⟩⟩
      clear S; rintro a w8 ⟨hk7, S⟩
      refine lv S (rn_move (S.tm rfl)) rfl ?_; clear S; intro a S
      refine f_cutm 5 (fun a w' => Keep [] w8 w' ∧ Sx w [] nov [.blk b3 [.string y1.Key, .int .i64 y1.Heats, .int .i64 y1.Long, .int .i64 y1.Gap, .int .i64 y1.Break] 70, .map b1 (ments Value.string Value.bool x1) x1.length] [(3, .map (some b1)), (5, .pointer (some ⟨b3, 0, none⟩)), (10, v_p_l), (11, .int .i64 (p_l.length : Int)), (12, .int .i64 (i1 : Int)), (42, .bool (((!(words_Within y1.Heats 1 60)) || (!(words_Within y1.Long 1 3600000))) || (!(words_Within y1.Gap 0 3600000))))] 53 a w') ?_ ?_
      ·rcases Bool.eq_false_or_eq_true ((!(words_Within y1.Heats 1 60)) || (!(words_Within y1.Long 1 3600000))) with hb5 | hb5
       ·refine l_skip S rfl rfl rfl (neq_t hb5) rfl ?_ rfl; clear S; intro a S
        refine l_skip S rfl rfl rfl (neq_t hb5) rfl ?_ rfl; clear S; intro a S
        refine l_skip S rfl rfl rfl (neq_t hb5) rfl ?_ rfl; clear S; intro a S
        refine l_skip S rfl rfl rfl (neq_t hb5) rfl ?_ rfl; clear S; intro a S
        refine lv S (rn_or_t (!(words_Within y1.Gap 0 3600000)) hb5 (S.tm rfl) rfl) rfl ?_; clear S; intro a S
        refine l_done ?_
        refine then_n ?_
        exact ⟨Keep.refl _ _, S.nf [true, true] rfl ⟨rfl, rfl, rfl, rfl, rfl, rfl, trivial⟩⟩
       ·refine l_want S rfl rfl rfl hb5 ?_
        refine lv S (rn_fld fa_70_3 (S.tm rfl)) rfl ?_; clear S; intro a S
        refine l_want S rfl rfl rfl hb5 ?_
        refine lv S (rn_load Tryz.isAgg3 (S.tm rfl) (S.cell (i := 0) rfl rfl)) rfl ?_; clear S; intro a S
        refine l_want S rfl rfl rfl hb5 ?_
        refine l_enter S (fun _ => run_call (vs := [.int .i64 y1.Gap, .int .i64 0, .int .i64 3600000]) ⟨(S.tm rfl), rfl, rfl, trivial⟩ Tryz.call40) (words_Within_ok _ y1.Gap 0 3600000 _ rfl) rfl ?_; clear S; intro v4 a w11 hv4 hk8 hn4 S
        subst hv4
        refine l_want S rfl rfl rfl hb5 ?_
        refine lv S (rn_not (S.tm rfl)) rfl ?_; clear S; intro a S
        refine lv S (rn_or_f hb5 (S.tm rfl) (S.tm rfl)) rfl ?_; clear S; intro a S
        refine l_done ?_
        refine then_n ?_
        exact ⟨hk8, S.nf [true, true] rfl ⟨rfl, rfl, rfl, rfl, rfl, rfl, trivial⟩⟩
      clear S; rintro a w10 ⟨hk9, S⟩
      refine lv S (rn_move (S.tm rfl)) rfl ?_; clear S; intro a S
      refine f_cutm 5 (fun a w' => Keep [] w10 w' ∧ Sx w [] nov [.blk b3 [.string y1.Key, .int .i64 y1.Heats, .int .i64 y1.Long, .int .i64 y1.Gap, .int .i64 y1.Break] 70, .map b1 (ments Value.string Value.bool x1) x1.length] [(3, .map (some b1)), (5, .pointer (some ⟨b3, 0, none⟩)), (10, v_p_l), (11, .int .i64 (p_l.length : Int)), (12, .int .i64 (i1 : Int)), (48, .bool ((((!(words_Within y1.Heats 1 60)) || (!(words_Within y1.Long 1 3600000))) || (!(words_Within y1.Gap 0 3600000))) || (!(words_Within y1.Break 0 3600000))))] 53 a w') ?_ ?_
      ·rcases Bool.eq_false_or_eq_true (((!(words_Within y1.Heats 1 60)) || (!(words_Within y1.Long 1 3600000))) || (!(words_Within y1.Gap 0 3600000))) with hb6 | hb6
       ·refine l_skip S rfl rfl rfl (neq_t hb6) rfl ?_ rfl; clear S; intro a S
        refine l_skip S rfl rfl rfl (neq_t hb6) rfl ?_ rfl; clear S; intro a S
        refine l_skip S rfl rfl rfl (neq_t hb6) rfl ?_ rfl; clear S; intro a S
        refine l_skip S rfl rfl rfl (neq_t hb6) rfl ?_ rfl; clear S; intro a S
        refine lv S (rn_or_t (!(words_Within y1.Break 0 3600000)) hb6 (S.tm rfl) rfl) rfl ?_; clear S; intro a S
        refine l_done ?_
        refine then_n ?_
        exact ⟨Keep.refl _ _, S.nf [true, true] rfl ⟨rfl, rfl, rfl, rfl, rfl, rfl, trivial⟩⟩
       ·refine l_want S rfl rfl rfl hb6 ?_
        refine lv S (rn_fld fa_70_4 (S.tm rfl)) rfl ?_; clear S; intro a S
        refine l_want S rfl rfl rfl hb6 ?_
        refine lv S (rn_load Tryz.isAgg3 (S.tm rfl) (S.cell (i := 0) rfl rfl)) rfl ?_; clear S; intro a S
        refine l_want S rfl rfl rfl hb6 ?_
        refine l_enter S (fun _ => run_call (vs := [.int .i64 y1.Break, .int .i64 0, .int .i64 3600000]) ⟨(S.tm rfl), rfl, rfl, trivial⟩ Tryz.call40) (words_Within_ok _ y1.Break 0 3600000 _ rfl) rfl ?_; clear S; intro v5 a w13 hv5 hk10 hn5 S
        subst hv5
        refine l_want S rfl rfl rfl hb6 ?_
        refine lv S (rn_not (S.tm rfl)) rfl ?_; clear S; intro a S
        refine lv S (rn_or_f hb6 (S.tm rfl) (S.tm rfl)) rfl ?_; clear S; intro a S
        refine l_done ?_
        refine then_n ?_
        exact ⟨hk10, S.nf [true, true] rfl ⟨rfl, rfl, rfl, rfl, rfl, rfl, trivial⟩⟩
      clear S; rintro a w12 ⟨hk11, S⟩
      refine lv S (rn_assign (S.tm rfl)) rfl ?_; clear S; intro a S
      refine l_done ?_
      replace S := S.nk [.blk b3 [.string y1.Key, .int .i64 y1.Heats, .int .i64 y1.Long, .int .i64 y1.Gap, .int .i64 y1.Break] 70, .map b1 (ments Value.string Value.bool x1) x1.length] [(3, .map (some b1)), (5, .pointer (some ⟨b3, 0, none⟩)), (10, v_p_l), (11, .int .i64 (p_l.length : Int)), (12, .int .i64 (i1 : Int)), (26, .bool ((((!(words_Within y1.Heats 1 60)) || (!(words_Within y1.Long 1 3600000))) || (!(words_Within y1.Gap 0 3600000))) || (!(words_Within y1.Break 0 3600000))))] [true, true] rfl ⟨rfl, rfl, rfl, rfl, rfl, rfl, trivial⟩
      refine then_n ?_
      refine f_cond (S.tm rfl) (fun hb7 => ?_) (fun hb7 => ?_)
      ·replace h := iteT h hb7
       refine f_seq ?_
       refine f_region ?_
       refine lv S (rn_assign rfl) rfl ?_; clear S; intro a S
       refine l_done ?_
       replace S := S.nk [] [(2, .int .i64 1)] [false, false] rfl ⟨rfl, trivial⟩
       refine then_n ?_
       refine wp_ret ?_
       refine blk_r ?_
       refine then_r ?_
       refine blk_r ?_
       refine then_r ?_
       refine then_r ?_
       refine blk_r ?_
       refine then_r ?_
       refine then_r ?_
       obtain rfl := Option.some.inj h
       exact f_ret S Tryz.results65 rfl rfl
      ·replace h := iteF h hb7
       refine wp_skip ?_
       refine blk_n ?_
       refine then_n ?_
       refine f_region ?_
       refine lv S (rn_move (S.tm rfl)) rfl ?_; clear S; intro a S
       refine lv S (rn_fld fa_70_0 (S.tm rfl)) rfl ?_; clear S; intro a S
       refine lv S (rn_load Tryz.isAgg9 (S.tm rfl) (S.cell (i := 0) rfl rfl)) rfl ?_; clear S; intro a S
       refine l_mapUpdate (kv := Value.string) (vv := Value.bool) (m := x1) (key := y1.Key) (val := true) S (i := 1) rfl Tryz.underlying131 (keyT_str Tryz.underlying9) (S.tm rfl) (S.tm rfl) rfl ?_; clear S; intro w14 hk12 S
       refine l_done ?_
       replace S := S.nk [.map b1 (ments Value.string Value.bool (mput x1 y1.Key true)) (mput x1 y1.Key true).length] [(3, .map (some b1)), (10, v_p_l), (11, .int .i64 (p_l.length : Int)), (12, .int .i64 (i1 : Int))] [false, true] rfl ⟨rfl, rfl, rfl, rfl, trivial⟩
       refine blk_n ?_
       refine then_n ?_
       refine f_region ?_
       refine lv S (rn_add (S.tm rfl) rfl) rfl ?_; clear S; intro a S
       refine lv S (rn_move (S.tm rfl)) rfl ?_; clear S; intro a S
       refine l_done ?_
       replace S := S.nk [.map b1 (ments Value.string Value.bool (mput x1 y1.Key true)) (mput x1 y1.Key true).length] [(3, .map (some b1)), (10, v_p_l), (11, .int .i64 (p_l.length : Int)), (12, .int .i64 (W ((i1 : Int) + 1)))] [true] rfl ⟨rfl, rfl, rfl, rfl, trivial⟩
       refine then_n ?_
       exact ⟨ys1, ⟨i1 + 1, (mput x1 y1.Key true), ⟨_, (hd1).trans (List.append_cons _ _ _), by simp [hi1]⟩, h, S.nf [true] rfl ⟨rfl, rfl, rfl, (congrArg (fun z => some (Value.int .i64 z)) (rng_next hd1 hi1 (slc_max hs_p_l))), trivial⟩⟩, Nat.lt_succ_self _⟩
  clear S h; rintro a w3 ⟨x1, h, S⟩; rw [hj1] at h; clear hj1 j1
  refine then_n ?_
  refine f_seq ?_
  refine f_region ?_
  refine lv S (rn_assign rfl) rfl ?_; clear S; intro a S
  refine l_done ?_
  replace S := S.nk [] [(2, .int .i64 0)] [false] rfl ⟨rfl, trivial⟩
  refine then_n ?_
  refine wp_ret ?_
  obtain rfl := Option.some.inj h
  exact f_ret S Tryz.results65 rfl rfl
theorem words_IsMoment_ok (w : World) (p_n : Int) (r : Bool) (h : words_IsMoment p_n = r) :
    Calls Tryz.prog 79 [.int .i64 p_n].toArray w (Ret w [] fun _ v _ => v = .bool r) := by
 refine f_enter [] [] Tryz.func79 rfl Tryz.ntmps79 rfl (by simp) (by simp [fps]) (by simp [fps]) fun a S => ?_
 unfold words_IsMoment at h
 replace S := S.nk [] [(0, .int .i64 p_n)] [] rfl ⟨rfl, trivial⟩
 refine f_seq ?_
 refine f_region ?_
 refine lv S (rn_assign rfl) rfl ?_; clear S; intro a S
 refine l_done ?_
 replace S := S.nk [] [(0, .int .i64 p_n)] [] rfl ⟨rfl, trivial⟩
 refine then_n ?_
 refine f_seq ?_
 refine f_region ?_
 refine lv S (rn_move (S.tm rfl)) rfl ?_; clear S; intro a S
 refine lv S (rn_geq (S.tm rfl) rfl) rfl ?_; clear S; intro a S
 refine lv S (rn_move (S.tm rfl)) rfl ?_; clear S; intro a S
 refine f_cutm 3 (fun a w' => Keep [] w w' ∧ Sx w [] nov [] [(8, .bool ((decide (0 ≤ p_n)) && (decide (p_n < 345686400000))))] 9 a w') ?_ ?_
 ·rcases Bool.eq_false_or_eq_true (decide (0 ≤ p_n)) with hb1 | hb1
  ·refine l_want S rfl rfl rfl hb1 ?_
   refine lv S (rn_move (S.tm rfl)) rfl ?_; clear S; intro a S
   refine l_want S rfl rfl rfl hb1 ?_
   refine lv S (rn_lss (S.tm rfl) rfl) rfl ?_; clear S; intro a S
   refine lv S (rn_and_t hb1 (S.tm rfl) (S.tm rfl)) rfl ?_; clear S; intro a S
   refine l_done ?_
   refine then_n ?_
   exact ⟨Keep.refl _ _, S.nf [] rfl ⟨rfl, trivial⟩⟩
  ·refine l_skip S rfl rfl rfl (neq_f hb1) rfl ?_ rfl; clear S; intro a S
   refine l_skip S rfl rfl rfl (neq_f hb1) rfl ?_ rfl; clear S; intro a S
   refine lv S (rn_and_f (decide (p_n < 345686400000)) hb1 (S.tm rfl) rfl) rfl ?_; clear S; intro a S
   refine l_done ?_
   refine then_n ?_
   exact ⟨Keep.refl _ _, S.nf [] rfl ⟨rfl, trivial⟩⟩
 clear S; rintro a w1 ⟨hk1, S⟩
 refine lv S (rn_assign (S.tm rfl)) rfl ?_; clear S; intro a S
 refine l_done ?_
 replace S := S.nk [] [(2, .bool ((decide (0 ≤ p_n)) && (decide (p_n < 345686400000))))] [] rfl ⟨rfl, trivial⟩
 refine then_n ?_
 refine wp_ret ?_
 subst h
 exact f_ret S Tryz.results79 rfl rfl
theorem session_timetable_ok (w : World) (v_p_l : Value) (p_l : List GItem) (hs_p_l : Slc (view w []) 5 v_p_l (p_l.map GItem.enc)) (p_from : Int) (r : (List GSlot)) (h : session_timetable p_l p_from = some r) :
    Calls Tryz.prog 80 [v_p_l, .int .i64 p_from].toArray w (Ret w [] fun τ v _ => OwnV τ 121 4 v r.length (r.flatMap GSlot.enc)) := by
 refine f_enter [] [] Tryz.func80 rfl Tryz.ntmps80 rfl (by simp) (by simp [fps]) (by simp [fps]) fun a S => ?_
 unfold session_timetable at h
 replace S := S.nk [] [(0, v_p_l), (1, .int .i64 p_from)] [] rfl ⟨rfl, rfl, trivial⟩
 refine f_seq ?_
 refine f_region ?_
 refine lv S (rn_assign rfl) rfl ?_; clear S; intro a S
 refine l_done ?_
 replace S := S.nk [] [(0, v_p_l), (1, .int .i64 p_from)] [] rfl ⟨rfl, rfl, trivial⟩
 refine then_n ?_
 refine f_seq ?_
 refine f_region ?_
 refine lv S (rn_assign rfl) rfl ?_; clear S; intro a S
 replace S := S.nil 121 4
 refine l_done ?_
 replace S := S.nk [.own (.slice none 0 0) 121 4 ([] : List GSlot).length (([] : List GSlot).flatMap GSlot.enc)] [(0, v_p_l), (1, .int .i64 p_from), (5, (.slice none 0 0))] [true] rfl ⟨rfl, rfl, rfl, trivial⟩
 refine then_n ?_
 refine f_seq ?_
 refine f_region ?_
 refine lv S (rn_move (S.tm rfl)) rfl ?_; clear S; intro a S
 refine lv S (rn_assign (S.tm rfl)) rfl ?_; clear S; intro a S
 refine l_done ?_
 replace S := S.nk [.own (.slice none 0 0) 121 4 ([] : List GSlot).length (([] : List GSlot).flatMap GSlot.enc)] [(0, v_p_l), (5, (.slice none 0 0)), (6, .int .i64 p_from)] [true] rfl ⟨rfl, rfl, rfl, trivial⟩
 refine then_n ?_
 refine f_seq ?_
 refine f_seq ?_
 refine f_region ?_
 refine lv S (rn_move (S.tm rfl)) rfl ?_; clear S; intro a S
 refine lv S (rn_lenT sl_71 (S.tm rfl) (slc_len hs_p_l)) rfl ?_; clear S; intro a S
 refine lv S (rn_move rfl) rfl ?_; clear S; intro a S
 refine l_done ?_
 replace S := S.nk [.own (.slice none 0 0) 121 4 ([] : List GSlot).length (([] : List GSlot).flatMap GSlot.enc)] [(5, (.slice none 0 0)), (6, .int .i64 p_from), (11, v_p_l), (12, .int .i64 (p_l.length : Int)), (13, .int .i64 0)] [true] rfl ⟨rfl, rfl, rfl, rfl, rfl, trivial⟩
 refine then_n ?_
 obtain ⟨j1, hj1, h⟩ := joinE h
 refine f_join (fun a w' => ∃ x1 : List GSlot, ∃ v1 : Value, j1 x1 = some r ∧ Sx w [] nov [.own v1 121 4 x1.length (x1.flatMap GSlot.enc)] [(5, v1)] 54 a w') ?_ ?_
 ·refine wp_block ?_
  refine f_loop (fun (ys1 : List GItem) a w' => ∃ i1 : Nat, ∃ x1 : List GSlot, ∃ x2 : Int, ∃ v1 : Value, (∃ dn, p_l = dn ++ ys1 ∧ dn.length = i1) ∧ session_timetable_l1 j1 ys1 i1 x1 x2 = some r ∧ Sx w [] nov [.own v1 121 4 x1.length (x1.flatMap GSlot.enc)] [(5, v1), (6, .int .i64 x2), (11, v_p_l), (12, .int .i64 (p_l.length : Int)), (13, .int .i64 (i1 : Int))] 54 a w') List.length p_l ⟨0, ([] : List GSlot), p_from, (.slice none 0 0), ⟨[], rfl, rfl⟩, h, S.nf [true] rfl ⟨rfl, rfl, rfl, rfl, rfl, trivial⟩⟩ ?_
  clear S h; rintro ys1 a w1 ⟨i1, x1, x2, v1, ⟨dn, hd1, hi1⟩, h, S⟩
  cases ys1 with
  | nil =>
   rw [session_timetable_l1.eq_1] at h
   refine f_seq ?_
   refine f_region ?_
   refine lv S (rn_lss (S.tm rfl) (S.tm rfl)) rfl ?_; clear S; intro a S
   refine l_done ?_
   replace S := S.nk [.own v1 121 4 x1.length (x1.flatMap GSlot.enc)] [(5, v1), (6, .int .i64 x2), (11, v_p_l), (12, .int .i64 (p_l.length : Int)), (13, .int .i64 (i1 : Int)), (14, .bool (decide ((i1 : Int) < (p_l.length : Int))))] [true] rfl ⟨rfl, rfl, rfl, rfl, rfl, rfl, trivial⟩
   refine then_n ?_
   refine f_seq ?_
   refine wp_cond_false ((S.tm rfl).trans (congrArg Value.bool (rng_nil hd1 hi1))) ?_
   refine wp_exit ?_
   refine then_x ?_
   refine then_x ?_
   refine x_same ?_
   refine then_n ?_
   exact ⟨x1, v1, h, S.nf [true] rfl ⟨rfl, trivial⟩⟩
  | cons y1 ys1 =>
   rw [session_timetable_l1.eq_2] at h
   refine f_seq ?_
   refine f_region ?_
   refine lv S (rn_lss (S.tm rfl) (S.tm rfl)) rfl ?_; clear S; intro a S
   refine l_done ?_
   replace S := S.nk [.own v1 121 4 x1.length (x1.flatMap GSlot.enc)] [(5, v1), (6, .int .i64 x2), (11, v_p_l), (12, .int .i64 (p_l.length : Int)), (13, .int .i64 (i1 : Int)), (14, .bool (decide ((i1 : Int) < (p_l.length : Int))))] [true] rfl ⟨rfl, rfl, rfl, rfl, rfl, rfl, trivial⟩
   refine then_n ?_
   refine f_seq ?_
   refine wp_cond_true ((S.tm rfl).trans (congrArg Value.bool (rng_cons hd1 hi1))) ?_
   refine wp_skip ?_
   refine then_n ?_
   refine f_seq ?_
   refine wp_block ?_
   refine f_seq ?_
   refine f_region ?_
   obtain ⟨b1, o1, hm1, hr1⟩ := rn_indexT (a := a) (x := .tmp 11) (y := .tmp 13) (ty := 0) sl_71 hs_p_l (get_mid hd1 hi1) rfl (S.tm rfl) (S.tm rfl)
   refine lv S (hr1 _) rfl ?_; clear S; intro a S
   clear hr1
   refine lv S (rn_ldA Tryz.isAgg70 Tryz.sizeOf70 (off := o1) (o := 0) (part := [.string y1.Key, .int .i64 y1.Heats, .int .i64 y1.Long, .int .i64 y1.Gap, .int .i64 y1.Break]) rfl rfl (S.tm rfl) (hm1.at S.emb0)) rfl ?_; clear S; intro a S
   refine l_alloc S Tryz.zeroValue70 (cs := [.string k_empty, .int .i64 0, .int .i64 0, .int .i64 0, .int .i64 0]) rfl rfl ?_; clear S; intro a w3 b2 hz1 hk1 S
   refine l_store S (S.tm rfl) (S.tm rfl) (i := 0) (off := 0) rfl Tryz.sizeOf70 (vs := [.string y1.Key, .int .i64 y1.Heats, .int .i64 y1.Long, .int .i64 y1.Gap, .int .i64 y1.Break]) rfl rfl rfl rfl ?_; clear S; intro w4 hk2 S
   refine l_done ?_
   replace S := S.nk [.blk b2 [.string y1.Key, .int .i64 y1.Heats, .int .i64 y1.Long, .int .i64 y1.Gap, .int .i64 y1.Break] 70, .own v1 121 4 x1.length (x1.flatMap GSlot.enc)] [(5, v1), (6, .int .i64 x2), (8, .pointer (some ⟨b2, 0, none⟩)), (11, v_p_l), (12, .int .i64 (p_l.length : Int)), (13, .int .i64 (i1 : Int))] [true, true] rfl ⟨rfl, rfl, rfl, rfl, rfl, rfl, trivial⟩
   refine then_n ?_
   refine f_seq ?_
   refine f_seq ?_
   refine f_region ?_
   refine lv S (rn_assign rfl) rfl ?_; clear S; intro a S
   refine l_done ?_
   replace S := S.nk [.blk b2 [.string y1.Key, .int .i64 y1.Heats, .int .i64 y1.Long, .int .i64 y1.Gap, .int .i64 y1.Break] 70, .own v1 121 4 x1.length (x1.flatMap GSlot.enc)] [(5, v1), (6, .int .i64 x2), (8, .pointer (some ⟨b2, 0, none⟩)), (9, .int .i64 1), (11, v_p_l), (12, .int .i64 (p_l.length : Int)), (13, .int .i64 (i1 : Int))] [true, true] rfl ⟨rfl, rfl, rfl, rfl, rfl, rfl, rfl, trivial⟩
   refine then_n ?_
   obtain ⟨j2, hj2, h⟩ := joinE h
   refine f_join (fun a w' => ∃ x3 : List GSlot, ∃ x4 : Int, ∃ v2 : Value, j2 x3 x4 = some r ∧ Sx w [] nov [.blk b2 [.string y1.Key, .int .i64 y1.Heats, .int .i64 y1.Long, .int .i64 y1.Gap, .int .i64 y1.Break] 70, .own v2 121 4 x3.length (x3.flatMap GSlot.enc)] [(5, v2), (6, .int .i64 x4), (8, .pointer (some ⟨b2, 0, none⟩)), (11, v_p_l), (12, .int .i64 (p_l.length : Int)), (13, .int .i64 (i1 : Int))] 54 a w') ?_ ?_
   ·refine wp_block ?_
    refine f_loop (fun (m1 : Nat) a w' => ∃ x3 : List GSlot, ∃ x4 : Int, ∃ x5 : Int, ∃ v2 : Value, session_timetable_l2 y1 j2 m1 x3 x4 x5 = some r ∧ Sx w [] nov [.blk b2 [.string y1.Key, .int .i64 y1.Heats, .int .i64 y1.Long, .int .i64 y1.Gap, .int .i64 y1.Break] 70, .own v2 121 4 x3.length (x3.flatMap GSlot.enc)] [(5, v2), (6, .int .i64 x4), (8, .pointer (some ⟨b2, 0, none⟩)), (9, .int .i64 x5), (11, v_p_l), (12, .int .i64 (p_l.length : Int)), (13, .int .i64 (i1 : Int))] 54 a w') id ((y1.Heats - 1).toNat + 2) ⟨x1, x2, 1, v1, h, S.nf [true, true] rfl ⟨rfl, rfl, rfl, rfl, rfl, rfl, rfl, trivial⟩⟩ ?_
    clear S h; rintro m1 a w5 ⟨x3, x4, x5, v2, h, S⟩
    cases m1 with
    | zero => rw [session_timetable_l2.eq_1] at h; cases h
    | succ m1 =>
     rw [session_timetable_l2.eq_2] at h
     refine f_seq ?_
     refine f_seq ?_
     refine f_region ?_
     refine lv S (rn_move (S.tm rfl)) rfl ?_; clear S; intro a S
     refine lv S (rn_fld fa_70_1 (S.tm rfl)) rfl ?_; clear S; intro a S
     refine lv S (rn_load Tryz.isAgg3 (S.tm rfl) (S.cell (i := 0) rfl rfl)) rfl ?_; clear S; intro a S
     refine lv S (rn_leq (S.tm rfl) (S.tm rfl)) rfl ?_; clear S; intro a S
     refine l_done ?_
     replace S := S.nk [.blk b2 [.string y1.Key, .int .i64 y1.Heats, .int .i64 y1.Long, .int .i64 y1.Gap, .int .i64 y1.Break] 70, .own v2 121 4 x3.length (x3.flatMap GSlot.enc)] [(5, v2), (6, .int .i64 x4), (8, .pointer (some ⟨b2, 0, none⟩)), (9, .int .i64 x5), (11, v_p_l), (12, .int .i64 (p_l.length : Int)), (13, .int .i64 (i1 : Int)), (20, .bool (decide (x5 ≤ y1.Heats)))] [true, true] rfl ⟨rfl, rfl, rfl, rfl, rfl, rfl, rfl, rfl, trivial⟩
     refine then_n ?_
     refine f_cond (S.tm rfl) (fun hb1 => ?_) (fun hb1 => ?_)
     ·replace h := iteT h hb1
      refine wp_skip ?_
      refine then_n ?_
      refine f_seq ?_
      obtain ⟨j3, hj3, h⟩ := joinE h
      refine f_join (fun a w' => ∃ x6 : List GSlot, ∃ x7 : Int, ∃ v3 : Value, j3 x6 x7 = some r ∧ Sx w [] nov [.blk b2 [.string y1.Key, .int .i64 y1.Heats, .int .i64 y1.Long, .int .i64 y1.Gap, .int .i64 y1.Break] 70, .own v3 121 4 x6.length (x6.flatMap GSlot.enc)] [(5, v3), (6, .int .i64 x7), (8, .pointer (some ⟨b2, 0, none⟩)), (9, .int .i64 x5), (11, v_p_l), (12, .int .i64 (p_l.length : Int)), (13, .int .i64 (i1 : Int))] 54 a w') ?_ ?_
      ·refine wp_block ?_
       refine f_seq ?_
       refine f_region ?_
       refine lv S (rn_move (S.tm rfl)) rfl ?_; clear S; intro a S
       refine lv S (rn_fld fa_70_0 (S.tm rfl)) rfl ?_; clear S; intro a S
       refine lv S (rn_load Tryz.isAgg9 (S.tm rfl) (S.cell (i := 0) rfl rfl)) rfl ?_; clear S; intro a S
       refine lv S (rn_move (S.tm rfl)) rfl ?_; clear S; intro a S
       refine lv S (rn_move (S.tm rfl)) rfl ?_; clear S; intro a S
       refine lv S (rn_move (S.tm rfl)) rfl ?_; clear S; intro a S
       refine lv S (rn_fld fa_70_2 (S.tm rfl)) rfl ?_; clear S; intro a S
       refine lv S (rn_load Tryz.isAgg3 (S.tm rfl) (S.cell (i := 0) rfl rfl)) rfl ?_; clear S; intro a S
       refine lv S (rn_add (S.tm rfl) (S.tm rfl)) rfl ?_; clear S; intro a S
       refine lv S (rn_bld bt_119 (pv := [(0, .int .i64 x4), (1, .int .i64 (W (x4 + y1.Long)))]) ⟨rfl, (S.tm rfl), rfl, (S.tm rfl), trivial⟩ (cs := [.int .i64 x4, .int .i64 (W (x4 + y1.Long))]) (by kernel_rfl)) rfl ?_; clear S; intro a S
       refine lv S (rn_bld bt_121 (pv := [(0, .string y1.Key), (1, .int .i64 x5), (2, .agg #[.int .i64 x4, .int .i64 (W (x4 + y1.Long))])]) ⟨rfl, (S.tm rfl), rfl, (S.tm rfl), rfl, (S.tm rfl), trivial⟩ (cs := [.string y1.Key, .int .i64 x5, .int .i64 x4, .int .i64 (W (x4 + y1.Long))]) (by kernel_rfl)) rfl ?_; clear S; intro a S
       refine l_buildSlice S Tryz.underlying98 Tryz.sizeOf121 Tryz.zeroValue121 rfl rfl (pv := [(0, .agg #[.string y1.Key, .int .i64 x5, .int .i64 x4, .int .i64 (W (x4 + y1.Long))])]) ⟨rfl, (S.tm rfl), trivial⟩ (cs := [.string y1.Key, .int .i64 x5, .int .i64 x4, .int .i64 (W (x4 + y1.Long))]) (by kernel_rfl) rfl ?_; clear S; intro a w8 b3 hz2 hk3 S
       obtain ⟨hc1, h⟩ := chkE h
       refine l_appendT sl_98 GSlot.enc_ok S (S.tm rfl) (i := 2) rfl (S.tm rfl) (j := 0) rfl (ys := [(GSlot.mk y1.Key x5 (GWindow.mk x4 (W (x4 + y1.Long))))]) rfl rfl rfl rfl (by have := room_lt hc1; omega) rfl ?_; clear S; intro v4 a w9 hk4 S
       refine lv S (rn_assign (S.tm rfl)) rfl ?_; clear S; intro a S
       refine l_done ?_
       replace S := S.nk [.blk b2 [.string y1.Key, .int .i64 y1.Heats, .int .i64 y1.Long, .int .i64 y1.Gap, .int .i64 y1.Break] 70, .own v4 121 4 (x3 ++ [(GSlot.mk y1.Key x5 (GWindow.mk x4 (W (x4 + y1.Long))))]).length ((x3 ++ [(GSlot.mk y1.Key x5 (GWindow.mk x4 (W (x4 + y1.Long))))]).flatMap GSlot.enc)] [(5, v4), (6, .int .i64 x4), (8, .pointer (some ⟨b2, 0, none⟩)), (9, .int .i64 x5), (11, v_p_l), (12, .int .i64 (p_l.length : Int)), (13, .int .i64 (i1 : Int))] [false, true, true] rfl ⟨rfl, rfl, rfl, rfl, rfl, rfl, rfl, trivial⟩
       refine then_n ?_
       refine f_seq ?_
       refine f_region ?_
       refine lv S (rn_move (S.tm rfl)) rfl ?_; clear S; intro a S
       refine lv S (rn_fld fa_70_2 (S.tm rfl)) rfl ?_; clear S; intro a S
       refine lv S (rn_load Tryz.isAgg3 (S.tm rfl) (S.cell (i := 0) rfl rfl)) rfl ?_; clear S; intro a S
       refine lv S (rn_add (S.tm rfl) (S.tm rfl)) rfl ?_; clear S; intro a S
       refine lv S (rn_assign (S.tm rfl)) rfl ?_; clear S; intro a S
       refine l_done ?_
       replace S := S.nk [.blk b2 [.string y1.Key, .int .i64 y1.Heats, .int .i64 y1.Long, .int .i64 y1.Gap, .int .i64 y1.Break] 70, .own v4 121 4 (x3 ++ [(GSlot.mk y1.Key x5 (GWindow.mk x4 (W (x4 + y1.Long))))]).length ((x3 ++ [(GSlot.mk y1.Key x5 (GWindow.mk x4 (W (x4 + y1.Long))))]).flatMap GSlot.enc)] [(5, v4), (6, .int .i64 (W (x4 + y1.Long))), (8, .pointer (some ⟨b2, 0, none⟩)), (9, .int .i64 x5), (11, v_p_l), (12, .int .i64 (p_l.length : Int)), (13, .int .i64 (i1 : Int))] [true, true] rfl ⟨rfl, rfl, rfl, rfl, rfl, rfl, rfl, trivial⟩
       refine then_n ?_
       refine f_seq ?_
       refine f_region ?_
       refine lv S (rn_move (S.tm rfl)) rfl ?_; clear S; intro a S
       refine lv S (rn_fld fa_70_1 (S.tm rfl)) rfl ?_; clear S; intro a S
       refine lv S (rn_load Tryz.isAgg3 (S.tm rfl) (S.cell (i := 0) rfl rfl)) rfl ?_; clear S; intro a S
       refine lv S (rn_lss (S.tm rfl) (S.tm rfl)) rfl ?_; clear S; intro a S
       refine l_done ?_
       replace S := S.nk [.blk b2 [.string y1.Key, .int .i64 y1.Heats, .int .i64 y1.Long, .int .i64 y1.Gap, .int .i64 y1.Break] 70, .own v4 121 4 (x3 ++ [(GSlot.mk y1.Key x5 (GWindow.mk x4 (W (x4 + y1.Long))))]).length ((x3 ++ [(GSlot.mk y1.Key x5 (GWindow.mk x4 (W (x4 + y1.Long))))]).flatMap GSlot.enc)] [(5, v4), (6, .int .i64 (W (x4 + y1.Long))), (8, .pointer (some ⟨b2, 0, none⟩)), (9, .int .i64 x5), (11, v_p_l), (12, .int .i64 (p_l.length : Int)), (13, .int .i64 (i1 : Int)), (43, .bool (decide (x5 < y1.Heats)))] [true, true] rfl ⟨rfl, rfl, rfl, rfl, rfl, rfl, rfl, rfl, trivial⟩
       refine then_n ?_
       obtain ⟨j4, hj4, h⟩ := joinE h
       refine f_join (fun a w' => ∃ x8 : Int, j4 x8 = some r ∧ Sx w [] nov [.blk b2 [.string y1.Key, .int .i64 y1.Heats, .int .i64 y1.Long, .int .i64 y1.Gap, .int .i64 y1.Break] 70, .own v4 121 4 (x3 ++ [(GSlot.mk y1.Key x5 (GWindow.mk x4 (W (x4 + y1.Long))))]).length ((x3 ++ [(GSlot.mk y1.Key x5 (GWindow.mk x4 (W (x4 + y1.Long))))]).flatMap GSlot.enc)] [(5, v4), (6, .int .i64 x8), (8, .pointer (some ⟨b2, 0, none⟩)), (9, .int .i64 x5), (11, v_p_l), (12, .int .i64 (p_l.length : Int)), (13, .int .i64 (i1 : Int))] 54 a w') ?_ ?_
       ·refine f_cond (S.tm rfl) (fun hb2 => ?_) (fun hb2 => ?_)
        ·replace h := iteT h hb2
         refine f_region ?_
         refine lv S (rn_move (S.tm rfl)) rfl ?_; clear S; intro a S
         refine lv S (rn_fld fa_70_3 (S.tm rfl)) rfl ?_; clear S; intro a S
         refine lv S (rn_load Tryz.isAgg3 (S.tm rfl) (S.cell (i := 0) rfl rfl)) rfl ?_; clear S; intro a S
         refine lv S (rn_add (S.tm rfl) (S.tm rfl)) rfl ?_; clear S; intro a S
         refine lv S (rn_assign (S.tm rfl)) rfl ?_; clear S; intro a S
         refine l_done ?_
         replace S := S.nk [.blk b2 [.string y1.Key, .int .i64 y1.Heats, .int .i64 y1.Long, .int .i64 y1.Gap, .int .i64 y1.Break] 70, .own v4 121 4 (x3 ++ [(GSlot.mk y1.Key x5 (GWindow.mk x4 (W (x4 + y1.Long))))]).length ((x3 ++ [(GSlot.mk y1.Key x5 (GWindow.mk x4 (W (x4 + y1.Long))))]).flatMap GSlot.enc)] [(5, v4), (6, .int .i64 (W ((W (x4 + y1.Long)) + y1.Gap))), (8, .pointer (some ⟨b2, 0, none⟩)), (9, .int .i64 x5), (11, v_p_l), (12, .int .i64 (p_l.length : Int)), (13, .int .i64 (i1 : Int))] [true, true] rfl ⟨rfl, rfl, rfl, rfl, rfl, rfl, rfl, trivial⟩
         refine then_n ?_
         exact ⟨W ((W (x4 + y1.Long)) + y1.Gap), h, S.nf [true, true] rfl ⟨rfl, rfl, rfl, rfl, rfl, rfl, rfl, trivial⟩⟩
        ·replace h := iteF h hb2
         refine wp_skip ?_
         refine then_n ?_
         exact ⟨W (x4 + y1.Long), h, S.nf [true, true] rfl ⟨rfl, rfl, rfl, rfl, rfl, rfl, rfl, trivial⟩⟩
       clear S h; rintro a w10 ⟨x8, h, S⟩; rw [hj4] at h; clear hj4 j4
       refine blk_n ?_
       refine then_n ?_
       exact ⟨(x3 ++ [(GSlot.mk y1.Key x5 (GWindow.mk x4 (W (x4 + y1.Long))))]), x8, v4, h, S.nf [true, true] rfl ⟨rfl, rfl, rfl, rfl, rfl, rfl, rfl, trivial⟩⟩
      clear S h; rintro a w7 ⟨x6, x7, v3, h, S⟩; rw [hj3] at h; clear hj3 j3
      refine then_n ?_
      refine f_region ?_
      refine lv S (rn_move (S.tm rfl)) rfl ?_; clear S; intro a S
      refine lv S (rn_add (S.tm rfl) rfl) rfl ?_; clear S; intro a S
      refine lv S (rn_assign (S.tm rfl)) rfl ?_; clear S; intro a S
      refine l_done ?_
      replace S := S.nk [.blk b2 [.string y1.Key, .int .i64 y1.Heats, .int .i64 y1.Long, .int .i64 y1.Gap, .int .i64 y1.Break] 70, .own v3 121 4 x6.length (x6.flatMap GSlot.enc)] [(5, v3), (6, .int .i64 x7), (8, .pointer (some ⟨b2, 0, none⟩)), (9, .int .i64 (W (x5 + 1))), (11, v_p_l), (12, .int .i64 (p_l.length : Int)), (13, .int .i64 (i1 : Int))] [true, true] rfl ⟨rfl, rfl, rfl, rfl, rfl, rfl, rfl, trivial⟩
      refine then_n ?_
      exact ⟨m1, ⟨x6, x7, W (x5 + 1), v3, h, S.nf [true, true] rfl ⟨rfl, rfl, rfl, rfl, rfl, rfl, rfl, trivial⟩⟩, Nat.lt_succ_self _⟩
     ·replace h := iteF h hb1
      refine wp_exit ?_
      refine then_x ?_
      refine then_x ?_
      refine x_same ?_
      refine then_n ?_
      exact ⟨x3, x4, v2, h, S.nf [true, true] rfl ⟨rfl, rfl, rfl, rfl, rfl, rfl, trivial⟩⟩
   clear S h; rintro a w6 ⟨x3, x4, v2, h, S⟩; rw [hj2] at h; clear hj2 j2
   refine then_n ?_
   refine f_region ?_
   refine lv S (rn_move (S.tm rfl)) rfl ?_; clear S; intro a S
   refine lv S (rn_fld fa_70_4 (S.tm rfl)) rfl ?_; clear S; intro a S
   refine lv S (rn_load Tryz.isAgg3 (S.tm rfl) (S.cell (i := 0) rfl rfl)) rfl ?_; clear S; intro a S
   refine lv S (rn_add (S.tm rfl) (S.tm rfl)) rfl ?_; clear S; intro a S
   refine lv S (rn_assign (S.tm rfl)) rfl ?_; clear S; intro a S
   refine l_done ?_
   replace S := S.nk [.own v2 121 4 x3.length (x3.flatMap GSlot.enc)] [(5, v2), (6, .int .i64 (W (x4 + y1.Break))), (11, v_p_l), (12, .int .i64 (p_l.length : Int)), (13, .int .i64 (i1 : Int))] [false, true] rfl ⟨rfl, rfl, rfl, rfl, rfl, trivial⟩
   refine blk_n ?_
   refine then_n ?_
   refine f_region ?_
   refine lv S (rn_add (S.tm rfl) rfl) rfl ?_; clear S; intro a S
   refine lv S (rn_move (S.tm rfl)) rfl ?_; clear S; intro a S
   refine l_done ?_
   replace S := S.nk [.own v2 121 4 x3.length (x3.flatMap GSlot.enc)] [(5, v2), (6, .int .i64 (W (x4 + y1.Break))), (11, v_p_l), (12, .int .i64 (p_l.length : Int)), (13, .int .i64 (W ((i1 : Int) + 1)))] [true] rfl ⟨rfl, rfl, rfl, rfl, rfl, trivial⟩
   refine then_n ?_
   exact ⟨ys1, ⟨i1 + 1, x3, W (x4 + y1.Break), v2, ⟨_, (hd1).trans (List.append_cons _ _ _), by simp [hi1]⟩, h, S.nf [true] rfl ⟨rfl, rfl, rfl, rfl, (congrArg (fun z => some (Value.int .i64 z)) (rng_next hd1 hi1 (slc_max hs_p_l))), trivial⟩⟩, Nat.lt_succ_self _⟩
 clear S h; rintro a w2 ⟨x1, v1, h, S⟩; rw [hj1] at h; clear hj1 j1
 refine then_n ?_
 refine f_seq ?_
 refine f_region ?_
 refine lv S (rn_move (S.tm rfl)) rfl ?_; clear S; intro a S
 refine lv S (rn_assign (S.tm rfl)) rfl ?_; clear S; intro a S
 refine l_done ?_
 replace S := S.nk [.own v1 121 4 x1.length (x1.flatMap GSlot.enc)] [(4, v1)] [true] rfl ⟨rfl, trivial⟩
 refine then_n ?_
 refine wp_ret ?_
 obtain rfl := Option.some.inj h
 exact f_ret S Tryz.results80 rfl (own_retT S (i := 0) rfl rfl)
theorem session_end_ok (w : World) (v_p_l : Value) (p_l : List GSlot) (hs_p_l : Slc (view w []) 4 v_p_l (p_l.map GSlot.enc)) (p_from : Int) (r : Int) (h : session_end p_l p_from = some r) :
    Calls Tryz.prog 45 [v_p_l, .int .i64 p_from].toArray w (Ret w [] fun _ v _ => v = .int .i64 r) := by
 refine f_enter [] [] Tryz.func45 rfl Tryz.ntmps45 rfl (by simp) (by simp [fps]) (by simp [fps]) fun a S => ?_
 unfold session_end at h
 replace S := S.nk [] [(0, v_p_l), (1, .int .i64 p_from)] [] rfl ⟨rfl, rfl, trivial⟩
 refine f_seq ?_
 refine f_region ?_
 refine lv S (rn_assign rfl) rfl ?_; clear S; intro a S
 refine l_done ?_
 replace S := S.nk [] [(0, v_p_l), (1, .int .i64 p_from)] [] rfl ⟨rfl, rfl, trivial⟩
 refine then_n ?_
 refine f_seq ?_
 refine f_seq ?_
 refine f_region ?_
 refine lv S (rn_move (S.tm rfl)) rfl ?_; clear S; intro a S
 refine lv S (rn_lenT sl_98 (S.tm rfl) (slc_len hs_p_l)) rfl ?_; clear S; intro a S
 refine lv S (rn_eql (S.tm rfl) rfl) rfl ?_; clear S; intro a S
 refine l_done ?_
 replace S := S.nk [] [(0, v_p_l), (1, .int .i64 p_from), (7, .bool (decide ((p_l.length : Int) = 0)))] [] rfl ⟨rfl, rfl, rfl, trivial⟩
 refine then_n ?_
 refine f_cond (S.tm rfl) (fun hb1 => ?_) (fun hb1 => ?_)
 ·replace h := iteT h hb1
  refine f_seq ?_
  refine f_region ?_
  refine lv S (rn_move (S.tm rfl)) rfl ?_; clear S; intro a S
  refine lv S (rn_assign (S.tm rfl)) rfl ?_; clear S; intro a S
  refine l_done ?_
  replace S := S.nk [] [(4, .int .i64 p_from)] [] rfl ⟨rfl, trivial⟩
  refine then_n ?_
  refine wp_ret ?_
  refine then_r ?_
  obtain rfl := Option.some.inj h
  exact f_ret S Tryz.results45 rfl rfl
 ·replace h := iteF h hb1
  refine wp_skip ?_
  refine then_n ?_
  refine f_seq ?_
  refine f_region ?_
  refine lv S (rn_move (S.tm rfl)) rfl ?_; clear S; intro a S
  refine lv S (rn_move (S.tm rfl)) rfl ?_; clear S; intro a S
  refine lv S (rn_lenT sl_98 (S.tm rfl) (slc_len hs_p_l)) rfl ?_; clear S; intro a S
  refine lv S (rn_sub (S.tm rfl) rfl) rfl ?_; clear S; intro a S
  obtain ⟨hc1, h⟩ := chkE h
  obtain ⟨b1, o1, hm1, hr1⟩ := rn_indexT (a := a) (x := .tmp 9) (y := .tmp 12) (ty := 0) sl_98 hs_p_l (inB_get hc1).1 (inB_get hc1).2 (S.tm rfl) (S.tm rfl)
  refine lv S (hr1 _) rfl ?_; clear S; intro a S
  clear hr1
  refine lv S (rn_fld fa_121_2 (S.tm rfl)) rfl ?_; clear S; intro a S
  refine lv S (rn_fld fa_119_1 (S.tm rfl)) rfl ?_; clear S; intro a S
  refine lv S (rn_ld Tryz.isAgg3 (off := o1) (o := 3) (S.tm rfl) (hm1.at S.emb0) rfl) rfl ?_; clear S; intro a S
  refine lv S (rn_assign (S.tm rfl)) rfl ?_; clear S; intro a S
  refine l_done ?_
  replace S := S.nk [] [(4, .int .i64 (((nth p_l (W ((p_l.length : Int) - 1))).Time).To))] [] rfl ⟨rfl, trivial⟩
  refine then_n ?_
  refine wp_ret ?_
  obtain rfl := Option.some.inj h
  exact f_ret S Tryz.results45 rfl rfl
end Go.Proofs.YtdcmeoefpigcdaaGreatDoor
