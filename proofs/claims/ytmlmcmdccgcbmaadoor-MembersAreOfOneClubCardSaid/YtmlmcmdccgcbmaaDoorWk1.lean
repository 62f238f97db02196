/- Each Go function computes its plain twin, by program. -/
import Derived.Test.YtmlmcmdccgcbmaaDoorTab
import Derived.Test.YtmlmcmdccgcbmaaDoorLay
namespace Go.Proofs.YtmlmcmdccgcbmaaDoor
open Go
theorem tumbmake_Below_ok (w : World) (p_x : Int) (p_n : Int) (r : Int) (h : tumbmake_Below p_x p_n = some r) :
    Calls Tryd.prog 21 [.int .i64 p_x, .int .i64 p_n].toArray w (Ret w [] fun _ v _ => v = .int .i64 r) := by
 refine f_enter [] [] Tryd.func21 rfl Tryd.ntmps21 rfl (by simp) (by simp [fps]) (by simp [fps]) fun a S => ?_
 unfold tumbmake_Below at h
 replace S := S.nk [] [(0, .int .i64 p_x), (1, .int .i64 p_n)] [] rfl ⟨rfl, rfl, trivial⟩
 refine f_seq ?_
 refine f_region ?_
 refine lv S (rn_assign rfl) rfl ?_; clear S; intro a S
 refine l_done ?_
 replace S := S.nk [] [(0, .int .i64 p_x), (1, .int .i64 p_n)] [] rfl ⟨rfl, rfl, trivial⟩
 refine then_n ?_
 refine f_seq ?_
 refine f_seq ?_
 refine f_region ?_
 refine lv S (rn_move (S.tm rfl)) rfl ?_; clear S; intro a S
 refine lv S (rn_lss (S.tm rfl) rfl) rfl ?_; clear S; intro a S
 refine l_done ?_
 replace S := S.nk [] [(0, .int .i64 p_x), (1, .int .i64 p_n), (6, .bool (decide (p_n < 1)))] [] rfl ⟨rfl, rfl, rfl, trivial⟩
 refine then_n ?_
 refine f_cond (S.tm rfl) (fun hb1 => ?_) (fun hb1 => ?_)
 ·replace h := iteT h hb1
  refine f_seq ?_
  refine f_region ?_
  refine lv S (rn_assign rfl) rfl ?_; clear S; intro a S
  refine l_done ?_
  replace S := S.nk [] [(4, .int .i64 0)] [] rfl ⟨rfl, trivial⟩
  refine then_n ?_
  refine wp_ret ?_
  refine then_r ?_
  obtain rfl := Option.some.inj h
  exact f_ret S Tryd.results21 rfl rfl
 ·replace h := iteF h hb1
  refine wp_skip ?_
  refine then_n ?_
  refine f_seq ?_
  refine f_region ?_
  refine lv S (rn_move (S.tm rfl)) rfl ?_; clear S; intro a S
  refine lv S (rn_move (S.tm rfl)) rfl ?_; clear S; intro a S
  obtain ⟨hc1, h⟩ := chkE h
  refine lv S (rn_rem (S.tm rfl) (S.tm rfl) (ne0_of hc1)) rfl ?_; clear S; intro a S
  refine lv S (rn_assign (S.tm rfl)) rfl ?_; clear S; intro a S
  refine l_done ?_
  replace S := S.nk [] [(0, .int .i64 (Int.tmod p_x p_n)), (1, .int .i64 p_n)] [] rfl ⟨rfl, rfl, trivial⟩
  refine then_n ?_
  refine f_seq ?_
  refine f_seq ?_
  refine f_region ?_
  refine lv S (rn_move (S.tm rfl)) rfl ?_; clear S; intro a S
  refine lv S (rn_lss (S.tm rfl) rfl) rfl ?_; clear S; intro a S
  refine l_done ?_
  replace S := S.nk [] [(0, .int .i64 (Int.tmod p_x p_n)), (1, .int .i64 p_n), (11, .bool (decide ((Int.tmod p_x p_n) < 0)))] [] rfl ⟨rfl, rfl, rfl, trivial⟩
  refine then_n ?_
  obtain ⟨j1, hj1, h⟩ := joinE h
  refine f_join (fun a w' => ∃ x1 : Int, j1 x1 = some r ∧ Sx w [] nov [] [(0, .int .i64 x1)] 16 a w') ?_ ?_
  ·refine f_cond (S.tm rfl) (fun hb2 => ?_) (fun hb2 => ?_)
   ·replace h := iteT h hb2
    refine f_region ?_
    refine lv S (rn_move (S.tm rfl)) rfl ?_; clear S; intro a S
    refine lv S (rn_move (S.tm rfl)) rfl ?_; clear S; intro a S
    refine lv S (rn_add (S.tm rfl) (S.tm rfl)) rfl ?_; clear S; intro a S
    refine lv S (rn_assign (S.tm rfl)) rfl ?_; clear S; intro a S
    refine l_done ?_
    replace S := S.nk [] [(0, .int .i64 (W ((Int.tmod p_x p_n) + p_n)))] [] rfl ⟨rfl, trivial⟩
    refine then_n ?_
    exact ⟨W ((Int.tmod p_x p_n) + p_n), h, S.nf [] rfl ⟨rfl, trivial⟩⟩
   ·replace h := iteF h hb2
    refine wp_skip ?_
    refine then_n ?_
    exact ⟨Int.tmod p_x p_n, h, S.nf [] rfl ⟨rfl, trivial⟩⟩
  clear S h; rintro a w1 ⟨x1, h, S⟩; rw [hj1] at h; clear hj1 j1
  refine then_n ?_
  refine f_seq ?_
  refine f_region ?_
  refine lv S (rn_move (S.tm rfl)) rfl ?_; clear S; intro a S
  refine lv S (rn_assign (S.tm rfl)) rfl ?_; clear S; intro a S
  refine l_done ?_
  replace S := S.nk [] [(4, .int .i64 x1)] [] rfl ⟨rfl, trivial⟩
  refine then_n ?_
  refine wp_ret ?_
  obtain rfl := Option.some.inj h
  exact f_ret S Tryd.results21 rfl rfl
set_option maxRecDepth 20000 in
theorem Stream_Next_ok (w : World) (b_p_s : Nat) (v_p_s_L : Value) (p_s_L : List Int) (hs_p_s_L : Slc (view w [b_p_s]) 1 v_p_s_L (p_s_L.map eInt)) (p_s_at : Int) (hb_b_p_s : (LEnt.blk b_p_s [v_p_s_L, .int .i64 p_s_at] 25).holds w) (p_n : Int) (r : Int × Int) (h : Stream_Next p_s_L p_s_at p_n = some r) :
    Calls Tryd.prog 13 [.pointer (some ⟨b_p_s, 0, none⟩), .int .i64 p_n].toArray w (Ret w [b_p_s] fun _ v w' => (LEnt.blk b_p_s [v_p_s_L, .int .i64 r.2] 25).holds w' ∧ v = .int .i64 r.1) := by
 refine f_enter [b_p_s] [.blk b_p_s [v_p_s_L, .int .i64 p_s_at] 25] Tryd.func13 rfl Tryd.ntmps13 rfl (fun e he => by simp only [List.mem_singleton] at he; subst he; exact hb_b_p_s) (by simp [fps, LEnt.fp]) (by simp [fps, LEnt.fp]) fun a S => ?_
 unfold Stream_Next at h
 replace S := S.nk [.blk b_p_s [v_p_s_L, .int .i64 p_s_at] 25] [(0, .pointer (some ⟨b_p_s, 0, none⟩)), (1, .int .i64 p_n)] [true] rfl ⟨rfl, rfl, trivial⟩
 refine f_seq ?_
 refine f_region ?_
 refine lv S (rn_assign rfl) rfl ?_; clear S; intro a S
 refine l_done ?_
 replace S := S.nk [.blk b_p_s [v_p_s_L, .int .i64 p_s_at] 25] [(0, .pointer (some ⟨b_p_s, 0, none⟩)), (1, .int .i64 p_n)] [true] rfl ⟨rfl, rfl, trivial⟩
 refine then_n ?_
 refine f_seq ?_
 refine f_region ?_
 refine lv S (rn_move (S.tm rfl)) rfl ?_; clear S; intro a S
 refine lv S (rn_nilCheck (S.tm rfl)) rfl ?_; clear S; intro a S
 refine lv S (rn_fld fa_25_1 (S.tm rfl)) rfl ?_; clear S; intro a S
 refine lv S (rn_load Tryd.isAgg3 (S.tm rfl) (S.cell (i := 0) rfl rfl)) rfl ?_; clear S; intro a S
 refine lv S (rn_add (S.tm rfl) rfl) rfl ?_; clear S; intro a S
 refine lv S (rn_nilCheck (S.tm rfl)) rfl ?_; clear S; intro a S
 refine lv S (rn_fld fa_25_1 (S.tm rfl)) rfl ?_; clear S; intro a S
 refine l_store S (S.tm rfl) (S.tm rfl) (i := 0) (off := 1) rfl Tryd.sizeOf3 (vs := [.int .i64 (W (p_s_at + 1))]) rfl rfl rfl rfl ?_; clear S; intro w1 hk1 S
 refine l_done ?_
 replace S := S.nk [.blk b_p_s [v_p_s_L, .int .i64 (W (p_s_at + 1))] 25] [(0, .pointer (some ⟨b_p_s, 0, none⟩)), (1, .int .i64 p_n)] [true] rfl ⟨rfl, rfl, trivial⟩
 refine then_n ?_
 refine f_seq ?_
 refine f_seq ?_
 refine f_region ?_
 refine lv S (rn_move (S.tm rfl)) rfl ?_; clear S; intro a S
 refine lv S (rn_nilCheck (S.tm rfl)) rfl ?_; clear S; intro a S
 refine lv S (rn_fld fa_25_0 (S.tm rfl)) rfl ?_; clear S; intro a S
 refine lv S (rn_load Tryd.isAgg22 (S.tm rfl) (S.cell (i := 0) rfl rfl)) rfl ?_; clear S; intro a S
 refine lv S (rn_lenT sl_22 (S.tm rfl) (slc_len hs_p_s_L)) rfl ?_; clear S; intro a S
 refine lv S (rn_eql (S.tm rfl) rfl) rfl ?_; clear S; intro a S
 refine l_done ?_
 replace S := S.nk [.blk b_p_s [v_p_s_L, .int .i64 (W (p_s_at + 1))] 25] [(0, .pointer (some ⟨b_p_s, 0, none⟩)), (1, .int .i64 p_n), (19, .bool (decide ((p_s_L.length : Int) = 0)))] [true] rfl ⟨rfl, rfl, rfl, trivial⟩
 refine then_n ?_
 refine f_cond (S.tm rfl) (fun hb1 => ?_) (fun hb1 => ?_)
 ·replace h := iteT h hb1
  refine f_seq ?_
  refine f_region ?_
  refine lv S (rn_move (S.tm rfl)) rfl ?_; clear S; intro a S
  refine lv S (rn_nilCheck (S.tm rfl)) rfl ?_; clear S; intro a S
  refine lv S (rn_fld fa_25_1 (S.tm rfl)) rfl ?_; clear S; intro a S
  refine lv S (rn_load Tryd.isAgg3 (S.tm rfl) (S.cell (i := 0) rfl rfl)) rfl ?_; clear S; intro a S
  refine lv S (rn_mul (S.tm rfl) rfl) rfl ?_; clear S; intro a S
  refine lv S (rn_move (S.tm rfl)) rfl ?_; clear S; intro a S
  obtain ⟨r1, hr1, h⟩ := bindE h
  refine l_enter S (fun _ => run_call (vs := [.int .i64 (W ((W (p_s_at + 1)) * 7919)), .int .i64 p_n]) ⟨(S.tm rfl), (S.tm rfl), trivial⟩ Tryd.call21) (tumbmake_Below_ok _ (W ((W (p_s_at + 1)) * 7919)) p_n _ hr1) rfl ?_; clear S; intro v1 a w2 hv1 hk2 hn1 S
  subst hv1
  refine lv S (rn_assign (S.tm rfl)) rfl ?_; clear S; intro a S
  refine l_done ?_
  replace S := S.nk [.blk b_p_s [v_p_s_L, .int .i64 (W (p_s_at + 1))] 25] [(4, .int .i64 r1)] [true] rfl ⟨rfl, trivial⟩
  refine then_n ?_
  refine wp_ret ?_
  refine then_r ?_
  obtain rfl := Option.some.inj h
  exact f_ret S Tryd.results13 rfl ⟨(S.holds _ (List.mem_of_getElem? (i := 0) rfl)), rfl⟩
 ·replace h := iteF h hb1
  refine wp_skip ?_
  refine then_n ?_
  refine f_seq ?_
  refine d_region [] ([]) Tryd.mixed S rfl (by kernel_rfl) ?_; clear S; intro w3 hk3 hsel S
  refine d_rest [0, 1, 2, 3, 4, 5, 6, 7, 8, 9, 10, 11] hsel (by kernel_rfl) rfl ?_
  clear hsel
  refine s_lv S rfl (rn_move (S.tm rfl)) rfl ?_; clear S; intro a S
  refine s_lv S rfl (rn_nilCheck (S.tm rfl)) rfl ?_; clear S; intro a S
  refine s_lv S rfl (rn_fld fa_25_1 (S.tm rfl)) rfl ?_; clear S; intro a S
  refine s_lv S rfl (rn_load Tryd.isAgg3 (S.tm rfl) (S.cell (i := 0) rfl rfl)) rfl ?_; clear S; intro a S
  refine s_lv S rfl (rn_sub (S.tm rfl) rfl) rfl ?_; clear S; intro a S
  refine s_lv S rfl (rn_move (S.tm rfl)) rfl ?_; clear S; intro a S
  refine s_lv S rfl (rn_nilCheck (S.tm rfl)) rfl ?_; clear S; intro a S
  refine s_lv S rfl (rn_fld fa_25_0 (S.tm rfl)) rfl ?_; clear S; intro a S
  refine s_lv S rfl (rn_load Tryd.isAgg22 (S.tm rfl) (S.cell (i := 0) rfl rfl)) rfl ?_; clear S; intro a S
  refine s_lv S rfl (rn_lenT sl_22 (S.tm rfl) (slc_len hs_p_s_L)) rfl ?_; clear S; intro a S
  obtain ⟨hc1, h⟩ := chkE h
  refine s_lv S rfl (rn_rem (S.tm rfl) (S.tm rfl) (ne0_of hc1)) rfl ?_; clear S; intro a S
  refine s_lv S rfl (rn_assign (S.tm rfl)) rfl ?_; clear S; intro a S
  refine s_done ?_
  replace S := S.nk [.blk b_p_s [v_p_s_L, .int .i64 (W (p_s_at + 1))] 25] [(0, .pointer (some ⟨b_p_s, 0, none⟩)), (1, .int .i64 p_n), (5, .int .i64 (Int.tmod (W ((W (p_s_at + 1)) - 1)) (p_s_L.length : Int)))] [true] rfl ⟨rfl, rfl, rfl, trivial⟩
  refine then_n ?_
  refine f_seq ?_
  refine d_region [] ([]) Tryd.mixed S rfl (by kernel_rfl) ?_; clear S; intro w4 hk4 hsel S
  refine d_rest [0, 1, 2, 3, 4, 5, 6, 7, 8, 9, 10, 11] hsel (by kernel_rfl) rfl ?_
  clear hsel
  refine s_lv S rfl (rn_move (S.tm rfl)) rfl ?_; clear S; intro a S
  refine s_lv S rfl (rn_nilCheck (S.tm rfl)) rfl ?_; clear S; intro a S
  refine s_lv S rfl (rn_fld fa_25_1 (S.tm rfl)) rfl ?_; clear S; intro a S
  refine s_lv S rfl (rn_load Tryd.isAgg3 (S.tm rfl) (S.cell (i := 0) rfl rfl)) rfl ?_; clear S; intro a S
  refine s_lv S rfl (rn_sub (S.tm rfl) rfl) rfl ?_; clear S; intro a S
  refine s_lv S rfl (rn_move (S.tm rfl)) rfl ?_; clear S; intro a S
  refine s_lv S rfl (rn_nilCheck (S.tm rfl)) rfl ?_; clear S; intro a S
  refine s_lv S rfl (rn_fld fa_25_0 (S.tm rfl)) rfl ?_; clear S; intro a S
  refine s_lv S rfl (rn_load Tryd.isAgg22 (S.tm rfl) (S.cell (i := 0) rfl rfl)) rfl ?_; clear S; intro a S
  refine s_lv S rfl (rn_lenT sl_22 (S.tm rfl) (slc_len hs_p_s_L)) rfl ?_; clear S; intro a S
  obtain ⟨hc2, h⟩ := chkE h
  refine s_lv S rfl (rn_quo (S.tm rfl) (S.tm rfl) (ne0_of hc2)) rfl ?_; clear S; intro a S
  refine s_lv S rfl (rn_assign (S.tm rfl)) rfl ?_; clear S; intro a S
  refine s_done ?_
  replace S := S.nk [.blk b_p_s [v_p_s_L, .int .i64 (W (p_s_at + 1))] 25] [(0, .pointer (some ⟨b_p_s, 0, none⟩)), (1, .int .i64 p_n), (5, .int .i64 (Int.tmod (W ((W (p_s_at + 1)) - 1)) (p_s_L.length : Int))), (6, .int .i64 (W (Int.tdiv (W ((W (p_s_at + 1)) - 1)) (p_s_L.length : Int))))] [true] rfl ⟨rfl, rfl, rfl, rfl, trivial⟩
  refine then_n ?_
  refine f_seq ?_
  refine f_region ?_
  refine lv S (rn_move (S.tm rfl)) rfl ?_; clear S; intro a S
  refine lv S (rn_nilCheck (S.tm rfl)) rfl ?_; clear S; intro a S
  refine lv S (rn_fld fa_25_0 (S.tm rfl)) rfl ?_; clear S; intro a S
  refine lv S (rn_load Tryd.isAgg22 (S.tm rfl) (S.cell (i := 0) rfl rfl)) rfl ?_; clear S; intro a S
  refine lv S (rn_move (S.tm rfl)) rfl ?_; clear S; intro a S
  obtain ⟨hc3, h⟩ := chkE h
  obtain ⟨b1, o1, hm1, hr2⟩ := rn_indexT (a := a) (x := .tmp 52) (y := .tmp 53) (ty := 0) sl_22 hs_p_s_L (inB_get hc3).1 (inB_get hc3).2 (S.tm rfl) (S.tm rfl)
  refine lv S (hr2 _) rfl ?_; clear S; intro a S
  clear hr2
  refine lv S (rn_ld Tryd.isAgg3 (off := o1) (o := 0) (S.tm rfl) (hm1.at S.emb0) rfl) rfl ?_; clear S; intro a S
  obtain ⟨r2, hr3, h⟩ := bindE h
  refine l_enter S (fun _ => run_call (vs := [.int .i64 (nth p_s_L (Int.tmod (W ((W (p_s_at + 1)) - 1)) (p_s_L.length : Int))), .int .i64 1073741824]) ⟨(S.tm rfl), rfl, trivial⟩ Tryd.call21) (tumbmake_Below_ok _ (nth p_s_L (Int.tmod (W ((W (p_s_at + 1)) - 1)) (p_s_L.length : Int))) 1073741824 _ hr3) rfl ?_; clear S; intro v2 a w5 hv2 hk5 hn2 S
  subst hv2
  refine lv S (rn_move (S.tm rfl)) rfl ?_; clear S; intro a S
  refine lv S (rn_move (S.tm rfl)) rfl ?_; clear S; intro a S
  refine lv S (rn_add rfl (S.tm rfl)) rfl ?_; clear S; intro a S
  refine lv S (rn_mul (S.tm rfl) (S.tm rfl)) rfl ?_; clear S; intro a S
  refine lv S (rn_add (S.tm rfl) (S.tm rfl)) rfl ?_; clear S; intro a S
  refine lv S (rn_move (S.tm rfl)) rfl ?_; clear S; intro a S
  obtain ⟨r3, hr4, h⟩ := bindE h
  refine l_enter S (fun _ => run_call (vs := [.int .i64 (W (r2 + (W ((W (Int.tdiv (W ((W (p_s_at + 1)) - 1)) (p_s_L.length : Int))) * (W (7919 + (Int.tmod (W ((W (p_s_at + 1)) - 1)) (p_s_L.length : Int)))))))), .int .i64 p_n]) ⟨(S.tm rfl), (S.tm rfl), trivial⟩ Tryd.call21) (tumbmake_Below_ok _ (W (r2 + (W ((W (Int.tdiv (W ((W (p_s_at + 1)) - 1)) (p_s_L.length : Int))) * (W (7919 + (Int.tmod (W ((W (p_s_at + 1)) - 1)) (p_s_L.length : Int)))))))) p_n _ hr4) rfl ?_; clear S; intro v3 a w6 hv3 hk6 hn3 S
  subst hv3
  refine lv S (rn_assign (S.tm rfl)) rfl ?_; clear S; intro a S
  refine l_done ?_
  replace S := S.nk [.blk b_p_s [v_p_s_L, .int .i64 (W (p_s_at + 1))] 25] [(4, .int .i64 r3)] [true] rfl ⟨rfl, trivial⟩
  refine then_n ?_
  refine wp_ret ?_
  obtain rfl := Option.some.inj h
  exact f_ret S Tryd.results13 rfl ⟨(S.holds _ (List.mem_of_getElem? (i := 0) rfl)), rfl⟩
theorem Stream_Pick_ok (w : World) (b_p_s : Nat) (v_p_s_L : Value) (p_s_L : List Int) (hs_p_s_L : Slc (view w [b_p_s]) 1 v_p_s_L (p_s_L.map eInt)) (p_s_at : Int) (hb_b_p_s : (LEnt.blk b_p_s [v_p_s_L, .int .i64 p_s_at] 25).holds w) (v_p_l : Value) (p_l : List Int) (hs_p_l : Slc (view w [b_p_s]) 1 v_p_l (p_l.map eInt)) (r : Int × Int) (h : Stream_Pick p_s_L p_s_at p_l = some r) :
    Calls Tryd.prog 11 [.pointer (some ⟨b_p_s, 0, none⟩), v_p_l].toArray w (Ret w [b_p_s] fun _ v w' => (LEnt.blk b_p_s [v_p_s_L, .int .i64 r.2] 25).holds w' ∧ v = .int .i64 r.1) := by
 refine f_enter [b_p_s] [.blk b_p_s [v_p_s_L, .int .i64 p_s_at] 25] Tryd.func11 rfl Tryd.ntmps11 rfl (fun e he => by simp only [List.mem_singleton] at he; subst he; exact hb_b_p_s) (by simp [fps, LEnt.fp]) (by simp [fps, LEnt.fp]) fun a S => ?_
 unfold Stream_Pick at h
 replace S := S.nk [.blk b_p_s [v_p_s_L, .int .i64 p_s_at] 25] [(0, .pointer (some ⟨b_p_s, 0, none⟩)), (1, v_p_l)] [true] rfl ⟨rfl, rfl, trivial⟩
 refine f_seq ?_
 refine f_region ?_
 refine lv S (rn_assign rfl) rfl ?_; clear S; intro a S
 refine l_done ?_
 replace S := S.nk [.blk b_p_s [v_p_s_L, .int .i64 p_s_at] 25] [(0, .pointer (some ⟨b_p_s, 0, none⟩)), (1, v_p_l)] [true] rfl ⟨rfl, rfl, trivial⟩
 refine then_n ?_
 refine f_seq ?_
 refine f_region ?_
 refine lv S (rn_move (S.tm rfl)) rfl ?_; clear S; intro a S
 refine lv S (rn_move (S.tm rfl)) rfl ?_; clear S; intro a S
 refine lv S (rn_move (S.tm rfl)) rfl ?_; clear S; intro a S
 refine lv S (rn_lenT sl_22 (S.tm rfl) (slc_len hs_p_l)) rfl ?_; clear S; intro a S
 obtain ⟨r1, hr1, h⟩ := bindE h
 refine l_enter1 0 S (b := b_p_s) rfl rfl (fun _ => .blk b_p_s [v_p_s_L, .int .i64 r1.2] 25) (fun _ => run_call (vs := [.pointer (some ⟨b_p_s, 0, none⟩), .int .i64 (p_l.length : Int)]) ⟨(S.tm rfl), (S.tm rfl), trivial⟩ Tryd.call13) (Stream_Next_ok _ b_p_s v_p_s_L p_s_L (hs_p_s_L.mono (S.le_arg (fp_sub (i := 0) (e := .blk b_p_s [v_p_s_L, .int .i64 p_s_at] 25) rfl))) p_s_at (S.holds _ (List.mem_of_getElem? (i := 0) rfl)) (p_l.length : Int) _ hr1) rfl (fun _ _ _ h => ⟨h.1, fun _ hc => by cases hc; rfl⟩) ?_; clear S; intro v1 a w1 hv1 hk1 hn1 S
 replace hv1 := hv1.2
 subst hv1
 obtain ⟨hc1, h⟩ := chkE h
 obtain ⟨b1, o1, hm1, hr2⟩ := rn_indexT (a := a) (x := .tmp 5) (y := .tmp 9) (ty := 0) sl_22 hs_p_l (inB_get hc1).1 (inB_get hc1).2 (S.tm rfl) (S.tm rfl)
 refine lv S (hr2 _) rfl ?_; clear S; intro a S
 clear hr2
 refine lv S (rn_ld Tryd.isAgg3 (off := o1) (o := 0) (S.tm rfl) (hm1.at S.emb0) rfl) rfl ?_; clear S; intro a S
 refine lv S (rn_assign (S.tm rfl)) rfl ?_; clear S; intro a S
 refine l_done ?_
 replace S := S.nk [.blk b_p_s [v_p_s_L, .int .i64 r1.2] 25] [(4, .int .i64 (nth p_l r1.1))] [true] rfl ⟨rfl, trivial⟩
 refine then_n ?_
 refine wp_ret ?_
 obtain rfl := Option.some.inj h
 exact f_ret S Tryd.results11 rfl ⟨(S.holds _ (List.mem_of_getElem? (i := 0) rfl)), rfl⟩
theorem Stream_Range_ok (w : World) (b_p_s : Nat) (v_p_s_L : Value) (p_s_L : List Int) (hs_p_s_L : Slc (view w [b_p_s]) 1 v_p_s_L (p_s_L.map eInt)) (p_s_at : Int) (hb_b_p_s : (LEnt.blk b_p_s [v_p_s_L, .int .i64 p_s_at] 25).holds w) (p_low : Int) (p_high : Int) (r : Int × Int) (h : Stream_Range p_s_L p_s_at p_low p_high = some r) :
    Calls Tryd.prog 5 [.pointer (some ⟨b_p_s, 0, none⟩), .int .i64 p_low, .int .i64 p_high].toArray w (Ret w [b_p_s] fun _ v w' => (LEnt.blk b_p_s [v_p_s_L, .int .i64 r.2] 25).holds w' ∧ v = .int .i64 r.1) := by
 refine f_enter [b_p_s] [.blk b_p_s [v_p_s_L, .int .i64 p_s_at] 25] Tryd.func5 rfl Tryd.ntmps5 rfl (fun e he => by simp only [List.mem_singleton] at he; subst he; exact hb_b_p_s) (by simp [fps, LEnt.fp]) (by simp [fps, LEnt.fp]) fun a S => ?_
 unfold Stream_Range at h
 replace S := S.nk [.blk b_p_s [v_p_s_L, .int .i64 p_s_at] 25] [(0, .pointer (some ⟨b_p_s, 0, none⟩)), (1, .int .i64 p_low), (2, .int .i64 p_high)] [true] rfl ⟨rfl, rfl, rfl, trivial⟩
 refine f_seq ?_
 refine f_region ?_
 refine lv S (rn_assign rfl) rfl ?_; clear S; intro a S
 refine l_done ?_
 replace S := S.nk [.blk b_p_s [v_p_s_L, .int .i64 p_s_at] 25] [(0, .pointer (some ⟨b_p_s, 0, none⟩)), (1, .int .i64 p_low), (2, .int .i64 p_high)] [true] rfl ⟨rfl, rfl, rfl, trivial⟩
 refine then_n ?_
 refine f_seq ?_
 refine f_seq ?_
 refine f_region ?_
 refine lv S (rn_move (S.tm rfl)) rfl ?_; clear S; intro a S
 refine lv S (rn_move (S.tm rfl)) rfl ?_; clear S; intro a S
 refine lv S (rn_lss (S.tm rfl) (S.tm rfl)) rfl ?_; clear S; intro a S
 refine l_done ?_
 replace S := S.nk [.blk b_p_s [v_p_s_L, .int .i64 p_s_at] 25] [(0, .pointer (some ⟨b_p_s, 0, none⟩)), (1, .int .i64 p_low), (2, .int .i64 p_high), (9, .bool (decide (p_high < p_low)))] [true] rfl ⟨rfl, rfl, rfl, rfl, trivial⟩
 refine then_n ?_
 refine f_cond (S.tm rfl) (fun hb1 => ?_) (fun hb1 => ?_)
 ·replace h := iteT h hb1
  refine f_seq ?_
  refine f_region ?_
  refine lv S (rn_move (S.tm rfl)) rfl ?_; clear S; intro a S
  refine lv S (rn_assign (S.tm rfl)) rfl ?_; clear S; intro a S
  refine l_done ?_
  replace S := S.nk [.blk b_p_s [v_p_s_L, .int .i64 p_s_at] 25] [(6, .int .i64 p_low)] [true] rfl ⟨rfl, trivial⟩
  refine then_n ?_
  refine wp_ret ?_
  refine then_r ?_
  obtain rfl := Option.some.inj h
  exact f_ret S Tryd.results5 rfl ⟨(S.holds _ (List.mem_of_getElem? (i := 0) rfl)), rfl⟩
 ·replace h := iteF h hb1
  refine wp_skip ?_
  refine then_n ?_
  refine f_seq ?_
  refine f_region ?_
  refine lv S (rn_move (S.tm rfl)) rfl ?_; clear S; intro a S
  refine lv S (rn_move (S.tm rfl)) rfl ?_; clear S; intro a S
  refine lv S (rn_move (S.tm rfl)) rfl ?_; clear S; intro a S
  refine lv S (rn_move (S.tm rfl)) rfl ?_; clear S; intro a S
  refine lv S (rn_sub (S.tm rfl) (S.tm rfl)) rfl ?_; clear S; intro a S
  refine lv S (rn_add (S.tm rfl) rfl) rfl ?_; clear S; intro a S
  obtain ⟨r1, hr1, h⟩ := bindE h
  refine l_enter1 0 S (b := b_p_s) rfl rfl (fun _ => .blk b_p_s [v_p_s_L, .int .i64 r1.2] 25) (fun _ => run_call (vs := [.pointer (some ⟨b_p_s, 0, none⟩), .int .i64 (W ((W (p_high - p_low)) + 1))]) ⟨(S.tm rfl), (S.tm rfl), trivial⟩ Tryd.call13) (Stream_Next_ok _ b_p_s v_p_s_L p_s_L (hs_p_s_L.mono (S.le_arg (fp_sub (i := 0) (e := .blk b_p_s [v_p_s_L, .int .i64 p_s_at] 25) rfl))) p_s_at (S.holds _ (List.mem_of_getElem? (i := 0) rfl)) (W ((W (p_high - p_low)) + 1)) _ hr1) rfl (fun _ _ _ h => ⟨h.1, fun _ hc => by cases hc; rfl⟩) ?_; clear S; intro v1 a w1 hv1 hk1 hn1 S
  replace hv1 := hv1.2
  subst hv1
  refine lv S (rn_add (S.tm rfl) (S.tm rfl)) rfl ?_; clear S; intro a S
  refine lv S (rn_assign (S.tm rfl)) rfl ?_; clear S; intro a S
  refine l_done ?_
  replace S := S.nk [.blk b_p_s [v_p_s_L, .int .i64 r1.2] 25] [(6, .int .i64 (W (p_low + r1.1)))] [true] rfl ⟨rfl, trivial⟩
  refine then_n ?_
  refine wp_ret ?_
  obtain rfl := Option.some.inj h
  exact f_ret S Tryd.results5 rfl ⟨(S.holds _ (List.mem_of_getElem? (i := 0) rfl)), rfl⟩
theorem Stream_Some_ok (w : World) (b_p_s : Nat) (v_p_s_L : Value) (p_s_L : List Int) (hs_p_s_L : Slc (view w [b_p_s]) 1 v_p_s_L (p_s_L.map eInt)) (p_s_at : Int) (hb_b_p_s : (LEnt.blk b_p_s [v_p_s_L, .int .i64 p_s_at] 25).holds w) (v_p_l : Value) (p_l : List ByteArray) (hs_p_l : Slc (view w [b_p_s]) 1 v_p_l (p_l.map eStr)) (r : ByteArray × Int) (h : Stream_Some p_s_L p_s_at p_l = some r) :
    Calls Tryd.prog 12 [.pointer (some ⟨b_p_s, 0, none⟩), v_p_l].toArray w (Ret w [b_p_s] fun _ v w' => (LEnt.blk b_p_s [v_p_s_L, .int .i64 r.2] 25).holds w' ∧ v = .string r.1) := by
 refine f_enter [b_p_s] [.blk b_p_s [v_p_s_L, .int .i64 p_s_at] 25] Tryd.func12 rfl Tryd.ntmps12 rfl (fun e he => by simp only [List.mem_singleton] at he; subst he; exact hb_b_p_s) (by simp [fps, LEnt.fp]) (by simp [fps, LEnt.fp]) fun a S => ?_
 unfold Stream_Some at h
 replace S := S.nk [.blk b_p_s [v_p_s_L, .int .i64 p_s_at] 25] [(0, .pointer (some ⟨b_p_s, 0, none⟩)), (1, v_p_l)] [true] rfl ⟨rfl, rfl, trivial⟩
 refine f_seq ?_
 refine f_region ?_
 refine lv S (rn_assign rfl) rfl ?_; clear S; intro a S
 refine l_done ?_
 replace S := S.nk [.blk b_p_s [v_p_s_L, .int .i64 p_s_at] 25] [(0, .pointer (some ⟨b_p_s, 0, none⟩)), (1, v_p_l)] [true] rfl ⟨rfl, rfl, trivial⟩
 refine then_n ?_
 refine f_seq ?_
 refine f_region ?_
 refine lv S (rn_move (S.tm rfl)) rfl ?_; clear S; intro a S
 refine lv S (rn_move (S.tm rfl)) rfl ?_; clear S; intro a S
 refine lv S (rn_move (S.tm rfl)) rfl ?_; clear S; intro a S
 refine lv S (rn_lenT sl_29 (S.tm rfl) (slc_len hs_p_l)) rfl ?_; clear S; intro a S
 obtain ⟨r1, hr1, h⟩ := bindE h
 refine l_enter1 0 S (b := b_p_s) rfl rfl (fun _ => .blk b_p_s [v_p_s_L, .int .i64 r1.2] 25) (fun _ => run_call (vs := [.pointer (some ⟨b_p_s, 0, none⟩), .int .i64 (p_l.length : Int)]) ⟨(S.tm rfl), (S.tm rfl), trivial⟩ Tryd.call13) (Stream_Next_ok _ b_p_s v_p_s_L p_s_L (hs_p_s_L.mono (S.le_arg (fp_sub (i := 0) (e := .blk b_p_s [v_p_s_L, .int .i64 p_s_at] 25) rfl))) p_s_at (S.holds _ (List.mem_of_getElem? (i := 0) rfl)) (p_l.length : Int) _ hr1) rfl (fun _ _ _ h => ⟨h.1, fun _ hc => by cases hc; rfl⟩) ?_; clear S; intro v1 a w1 hv1 hk1 hn1 S
 replace hv1 := hv1.2
 subst hv1
 obtain ⟨hc1, h⟩ := chkE h
 obtain ⟨b1, o1, hm1, hr2⟩ := rn_indexT (a := a) (x := .tmp 5) (y := .tmp 9) (ty := 0) sl_29 hs_p_l (inB_get hc1).1 (inB_get hc1).2 (S.tm rfl) (S.tm rfl)
 refine lv S (hr2 _) rfl ?_; clear S; intro a S
 clear hr2
 refine lv S (rn_ld Tryd.isAgg9 (off := o1) (o := 0) (S.tm rfl) (hm1.at S.emb0) rfl) rfl ?_; clear S; intro a S
 refine lv S (rn_assign (S.tm rfl)) rfl ?_; clear S; intro a S
 refine l_done ?_
 replace S := S.nk [.blk b_p_s [v_p_s_L, .int .i64 r1.2] 25] [(4, .string (nth p_l r1.1))] [true] rfl ⟨rfl, trivial⟩
 refine then_n ?_
 refine wp_ret ?_
 obtain rfl := Option.some.inj h
 exact f_ret S Tryd.results12 rfl ⟨(S.holds _ (List.mem_of_getElem? (i := 0) rfl)), rfl⟩
theorem Stream_RightMoves_ok (w : World) (b_p_s : Nat) (v_p_s_L : Value) (p_s_L : List Int) (hs_p_s_L : Slc (view w [b_p_s]) 1 v_p_s_L (p_s_L.map eInt)) (p_s_at : Int) (hb_b_p_s : (LEnt.blk b_p_s [v_p_s_L, .int .i64 p_s_at] 25).holds w) (r : (List GMove) × Int) (h : Stream_RightMoves p_s_L p_s_at = some r) :
    Calls Tryd.prog 4 [.pointer (some ⟨b_p_s, 0, none⟩)].toArray w (Ret w [b_p_s] fun τ v w' => (LEnt.blk b_p_s [v_p_s_L, .int .i64 r.2] 25).holds w' ∧ OwnV τ 42 3 v r.1.length (r.1.flatMap GMove.enc)) := by
 refine f_enter [b_p_s] [.blk b_p_s [v_p_s_L, .int .i64 p_s_at] 25] Tryd.func4 rfl Tryd.ntmps4 rfl (fun e he => by simp only [List.mem_singleton] at he; subst he; exact hb_b_p_s) (by simp [fps, LEnt.fp]) (by simp [fps, LEnt.fp]) fun a S => ?_
 unfold Stream_RightMoves at h
 replace S := S.nk [.blk b_p_s [v_p_s_L, .int .i64 p_s_at] 25] [(0, .pointer (some ⟨b_p_s, 0, none⟩))] [true] rfl ⟨rfl, trivial⟩
 refine f_seq ?_
 refine f_region ?_
 refine lv S (rn_assign rfl) rfl ?_; clear S; intro a S
 refine l_done ?_
 replace S := S.nk [.blk b_p_s [v_p_s_L, .int .i64 p_s_at] 25] [(0, .pointer (some ⟨b_p_s, 0, none⟩))] [true] rfl ⟨rfl, trivial⟩
 refine then_n ?_
 refine f_seq ?_
 refine f_region ?_
 refine lv S (rn_assign rfl) rfl ?_; clear S; intro a S
 replace S := S.nil 42 3
 refine l_done ?_
 replace S := S.nk [.own (.slice none 0 0) 42 3 ([] : List GMove).length (([] : List GMove).flatMap GMove.enc), .blk b_p_s [v_p_s_L, .int .i64 p_s_at] 25] [(0, .pointer (some ⟨b_p_s, 0, none⟩)), (3, (.slice none 0 0))] [true, true] rfl ⟨rfl, rfl, trivial⟩
 refine then_n ?_
 refine f_seq ?_
 refine f_seq ?_
 refine f_region ?_
 refine l_buildSlice S Tryd.underlying29 Tryd.sizeOf9 Tryd.zeroValue9 rfl rfl (pv := [(0, .string k_ann), (1, .string k_bea), (2, .string k_cid), (3, .string k_dan), (4, .string k_eve)]) ⟨rfl, rfl, rfl, rfl, rfl, rfl, rfl, rfl, rfl, rfl, trivial⟩ (cs := [.string k_ann, .string k_bea, .string k_cid, .string k_dan, .string k_eve]) (by kernel_rfl) rfl ?_; clear S; intro a w1 b1 hz1 hk1 S
 refine lv S (rn_lenT sl_29 (S.tm rfl) ⟨_, _, rfl⟩) rfl ?_; clear S; intro a S
 refine lv S (rn_move rfl) rfl ?_; clear S; intro a S
 refine l_done ?_
 replace S := S.nk [.blk b1 [.string k_ann, .string k_bea, .string k_cid, .string k_dan, .string k_eve] 9, .own (.slice none 0 0) 42 3 ([] : List GMove).length (([] : List GMove).flatMap GMove.enc), .blk b_p_s [v_p_s_L, .int .i64 p_s_at] 25] [(0, .pointer (some ⟨b_p_s, 0, none⟩)), (3, (.slice none 0 0)), (9, .slice (some ⟨b1, 0, none⟩) 5 5), (10, .int .i64 (([k_ann, k_bea, k_cid, k_dan, k_eve] : List ByteArray).length : Int)), (11, .int .i64 0)] [true, true, true] rfl ⟨rfl, rfl, rfl, rfl, rfl, trivial⟩
 refine then_n ?_
 replace S := S.litOwn (i := 0) (xs := [k_ann, k_bea, k_cid, k_dan, k_eve]) rfl enc_str rfl rfl rfl
 replace S := S.nk [.own (.slice (some ⟨b1, 0, none⟩) 5 5) 9 1 ([k_ann, k_bea, k_cid, k_dan, k_eve] : List ByteArray).length (([k_ann, k_bea, k_cid, k_dan, k_eve] : List ByteArray).flatMap eStr), .own (.slice none 0 0) 42 3 ([] : List GMove).length (([] : List GMove).flatMap GMove.enc), .blk b_p_s [v_p_s_L, .int .i64 p_s_at] 25] [(0, .pointer (some ⟨b_p_s, 0, none⟩)), (3, (.slice none 0 0)), (9, (.slice (some ⟨b1, 0, none⟩) 5 5)), (10, .int .i64 (([k_ann, k_bea, k_cid, k_dan, k_eve] : List ByteArray).length : Int)), (11, .int .i64 0)] [] rfl ⟨rfl, rfl, rfl, rfl, rfl, trivial⟩
 obtain ⟨φ1, hl1, hs1, S⟩ := S.freezeT (xs := ([k_ann, k_bea, k_cid, k_dan, k_eve] : List ByteArray)) (enc := eStr) (i := 0) rfl (fun c hc hh => not_fps S (i := 2) rfl rfl (j := 0) rfl rfl (by simp at hc; subst hc; exact hh))
 replace S := S.nk [.own (.slice none 0 0) 42 3 ([] : List GMove).length (([] : List GMove).flatMap GMove.enc), .blk b_p_s [v_p_s_L, .int .i64 p_s_at] 25] [(0, .pointer (some ⟨b_p_s, 0, none⟩)), (3, (.slice none 0 0)), (9, (.slice (some ⟨b1, 0, none⟩) 5 5)), (10, .int .i64 (([k_ann, k_bea, k_cid, k_dan, k_eve] : List ByteArray).length : Int)), (11, .int .i64 0)] [] rfl ⟨rfl, rfl, rfl, rfl, rfl, trivial⟩
 obtain ⟨j1, hj1, h⟩ := joinE h
 refine f_join (fun a w' => ∃ x1 : List GMove, ∃ x2 : Int, ∃ v1 : Value, j1 x1 x2 = some r ∧ Sx w [b_p_s] φ1 [.own v1 42 3 x1.length (x1.flatMap GMove.enc), .blk b_p_s [v_p_s_L, .int .i64 x2] 25] [(3, v1)] 44 a w') ?_ ?_
 ·refine wp_block ?_
  refine f_loop (fun (ys1 : List ByteArray) a w' => ∃ i1 : Nat, ∃ x1 : List GMove, ∃ x2 : Int, ∃ v1 : Value, (∃ dn, ([k_ann, k_bea, k_cid, k_dan, k_eve] : List ByteArray) = dn ++ ys1 ∧ dn.length = i1) ∧ Stream_RightMoves_l1 p_s_L j1 ys1 i1 x1 x2 = some r ∧ Sx w [b_p_s] φ1 [.own v1 42 3 x1.length (x1.flatMap GMove.enc), .blk b_p_s [v_p_s_L, .int .i64 x2] 25] [(0, .pointer (some ⟨b_p_s, 0, none⟩)), (3, v1), (9, (.slice (some ⟨b1, 0, none⟩) 5 5)), (10, .int .i64 (([k_ann, k_bea, k_cid, k_dan, k_eve] : List ByteArray).length : Int)), (11, .int .i64 (i1 : Int))] 44 a w') List.length ([k_ann, k_bea, k_cid, k_dan, k_eve] : List ByteArray) ⟨0, ([] : List GMove), p_s_at, (.slice none 0 0), ⟨[], rfl, rfl⟩, h, S.nf [true, true] rfl ⟨rfl, rfl, rfl, rfl, rfl, trivial⟩⟩ ?_
  clear S h; rintro ys1 a w2 ⟨i1, x1, x2, v1, ⟨dn, hd1, hi1⟩, h, S⟩
  cases ys1 with
  | nil =>
   rw [Stream_RightMoves_l1.eq_1] at h
   refine f_seq ?_
   refine f_region ?_
   refine lv S (rn_lss (S.tm rfl) (S.tm rfl)) rfl ?_; clear S; intro a S
   refine l_done ?_
   replace S := S.nk [.own v1 42 3 x1.length (x1.flatMap GMove.enc), .blk b_p_s [v_p_s_L, .int .i64 x2] 25] [(0, .pointer (some ⟨b_p_s, 0, none⟩)), (3, v1), (9, (.slice (some ⟨b1, 0, none⟩) 5 5)), (10, .int .i64 (([k_ann, k_bea, k_cid, k_dan, k_eve] : List ByteArray).length : Int)), (11, .int .i64 (i1 : Int)), (12, .bool (decide ((i1 : Int) < (([k_ann, k_bea, k_cid, k_dan, k_eve] : List ByteArray).length : Int))))] [true, true] rfl ⟨rfl, rfl, rfl, rfl, rfl, rfl, trivial⟩
   refine then_n ?_
   refine f_seq ?_
   refine wp_cond_false ((S.tm rfl).trans (congrArg Value.bool (rng_nil hd1 hi1))) ?_
   refine wp_exit ?_
   refine then_x ?_
   refine then_x ?_
   refine x_same ?_
   refine then_n ?_
   exact ⟨x1, x2, v1, h, S.nf [true, true] rfl ⟨rfl, trivial⟩⟩
  | cons y1 ys1 =>
   rw [Stream_RightMoves_l1.eq_2] at h
   refine f_seq ?_
   refine f_region ?_
   refine lv S (rn_lss (S.tm rfl) (S.tm rfl)) rfl ?_; clear S; intro a S
   refine l_done ?_
   replace S := S.nk [.own v1 42 3 x1.length (x1.flatMap GMove.enc), .blk b_p_s [v_p_s_L, .int .i64 x2] 25] [(0, .pointer (some ⟨b_p_s, 0, none⟩)), (3, v1), (9, (.slice (some ⟨b1, 0, none⟩) 5 5)), (10, .int .i64 (([k_ann, k_bea, k_cid, k_dan, k_eve] : List ByteArray).length : Int)), (11, .int .i64 (i1 : Int)), (12, .bool (decide ((i1 : Int) < (([k_ann, k_bea, k_cid, k_dan, k_eve] : List ByteArray).length : Int))))] [true, true] rfl ⟨rfl, rfl, rfl, rfl, rfl, rfl, trivial⟩
   refine then_n ?_
   refine f_seq ?_
   refine wp_cond_true ((S.tm rfl).trans (congrArg Value.bool (rng_cons hd1 hi1))) ?_
   refine wp_skip ?_
   refine then_n ?_
   refine f_seq ?_
   refine wp_block ?_
   refine f_seq ?_
   refine f_region ?_
   obtain ⟨b2, o1, hm1, hr1⟩ := rn_indexT (a := a) (x := .tmp 9) (y := .tmp 11) (ty := 0) sl_29 (ownV_slcT enc_str hs1) (get_mid hd1 hi1) rfl (S.tm rfl) (S.tm rfl)
   refine lv S (hr1 _) rfl ?_; clear S; intro a S
   clear hr1
   refine lv S (rn_ld Tryd.isAgg9 (off := o1) (o := 0) (S.tm rfl) (hm1.at S.emb) rfl) rfl ?_; clear S; intro a S
   refine lv S (rn_assign (S.tm rfl)) rfl ?_; clear S; intro a S
   refine l_done ?_
   replace S := S.nk [.own v1 42 3 x1.length (x1.flatMap GMove.enc), .blk b_p_s [v_p_s_L, .int .i64 x2] 25] [(0, .pointer (some ⟨b_p_s, 0, none⟩)), (3, v1), (5, .string y1), (9, (.slice (some ⟨b1, 0, none⟩) 5 5)), (10, .int .i64 (([k_ann, k_bea, k_cid, k_dan, k_eve] : List ByteArray).length : Int)), (11, .int .i64 (i1 : Int))] [true, true] rfl ⟨rfl, rfl, rfl, rfl, rfl, rfl, trivial⟩
   refine then_n ?_
   refine f_seq ?_
   refine f_region ?_
   refine lv S (rn_move (S.tm rfl)) rfl ?_; clear S; intro a S
   refine l_buildSlice S Tryd.underlying22 Tryd.sizeOf3 Tryd.zeroValue3 rfl rfl (pv := [(0, .int .i64 (-100)), (1, .int .i64 0), (2, .int .i64 50)]) ⟨rfl, rfl, rfl, rfl, rfl, rfl, trivial⟩ (cs := [.int .i64 (-100), .int .i64 0, .int .i64 50]) (by kernel_rfl) rfl ?_; clear S; intro a w4 b3 hz2 hk2 S
   obtain ⟨r1, hr2, h⟩ := bindE h
   refine l_enter1 2 S (b := b_p_s) rfl rfl (fun _ => .blk b_p_s [v_p_s_L, .int .i64 r1.2] 25) (fun _ => run_call (vs := [.pointer (some ⟨b_p_s, 0, none⟩), .slice (some ⟨b3, 0, none⟩) 3 3]) ⟨(S.tm rfl), (S.tm rfl), trivial⟩ Tryd.call11) (Stream_Pick_ok _ b_p_s v_p_s_L p_s_L (hs_p_s_L.mono (S.le_arg (fp_sub (i := 2) (e := .blk b_p_s [v_p_s_L, .int .i64 x2] 25) rfl))) x2 (S.holds _ (List.mem_of_getElem? (i := 2) rfl)) (.slice (some ⟨b3, 0, none⟩) 3 3) [(-100), 0, 50] (lit_slcT enc_int S (i := 0) rfl rfl rfl rfl ((ne_fp (i := 2) (j := 0) (e := .blk b_p_s [v_p_s_L, .int .i64 x2] 25) (e' := .blk b3 [.int .i64 (-100), .int .i64 0, .int .i64 50] 3) S rfl rfl rfl) _ rfl)) _ hr2) rfl (fun _ _ _ h => ⟨h.1, fun _ hc => by cases hc; rfl⟩) ?_; clear S; intro v2 a w5 hv1 hk3 hn1 S
   replace hv1 := hv1.2
   subst hv1
   refine lv S (rn_assign (S.tm rfl)) rfl ?_; clear S; intro a S
   refine lv S (rn_assign rfl) rfl ?_; clear S; intro a S
   refine l_done ?_
   replace S := S.nk [.own v1 42 3 x1.length (x1.flatMap GMove.enc), .blk b_p_s [v_p_s_L, .int .i64 r1.2] 25] [(0, .pointer (some ⟨b_p_s, 0, none⟩)), (3, v1), (5, .string y1), (6, .int .i64 r1.1), (7, .string k_empty), (9, (.slice (some ⟨b1, 0, none⟩) 5 5)), (10, .int .i64 (([k_ann, k_bea, k_cid, k_dan, k_eve] : List ByteArray).length : Int)), (11, .int .i64 (i1 : Int))] [false, true, true] rfl ⟨rfl, rfl, rfl, rfl, rfl, rfl, rfl, rfl, trivial⟩
   refine then_n ?_
   refine f_seq ?_
   refine f_region ?_
   refine lv S (rn_move (S.tm rfl)) rfl ?_; clear S; intro a S
   obtain ⟨r2, hr3, h⟩ := bindE h
   refine l_enter1 1 S (b := b_p_s) rfl rfl (fun _ => .blk b_p_s [v_p_s_L, .int .i64 r2.2] 25) (fun _ => run_call (vs := [.pointer (some ⟨b_p_s, 0, none⟩), .int .i64 0, .int .i64 3]) ⟨(S.tm rfl), rfl, rfl, trivial⟩ Tryd.call5) (Stream_Range_ok _ b_p_s v_p_s_L p_s_L (hs_p_s_L.mono (S.le_arg (fp_sub (i := 1) (e := .blk b_p_s [v_p_s_L, .int .i64 r1.2] 25) rfl))) r1.2 (S.holds _ (List.mem_of_getElem? (i := 1) rfl)) 0 3 _ hr3) rfl (fun _ _ _ h => ⟨h.1, fun _ hc => by cases hc; rfl⟩) ?_; clear S; intro v3 a w6 hv2 hk4 hn2 S
   replace hv2 := hv2.2
   subst hv2
   refine lv S (rn_move rfl) rfl ?_; clear S; intro a S
   refine l_done ?_
   replace S := S.nk [.own v1 42 3 x1.length (x1.flatMap GMove.enc), .blk b_p_s [v_p_s_L, .int .i64 r2.2] 25] [(0, .pointer (some ⟨b_p_s, 0, none⟩)), (3, v1), (5, .string y1), (6, .int .i64 r1.1), (7, .string k_empty), (9, (.slice (some ⟨b1, 0, none⟩) 5 5)), (10, .int .i64 (([k_ann, k_bea, k_cid, k_dan, k_eve] : List ByteArray).length : Int)), (11, .int .i64 (i1 : Int)), (19, .int .i64 r2.1), (20, .int .i64 0)] [true, true] rfl ⟨rfl, rfl, rfl, rfl, rfl, rfl, rfl, rfl, rfl, rfl, trivial⟩
   refine then_n ?_
   obtain ⟨j2, hj2, h⟩ := joinE h
   refine f_join (fun a w' => ∃ x3 : List GMove, ∃ x4 : Int, ∃ v4 : Value, j2 x3 x4 = some r ∧ Sx w [b_p_s] φ1 [.own v4 42 3 x3.length (x3.flatMap GMove.enc), .blk b_p_s [v_p_s_L, .int .i64 x4] 25] [(0, .pointer (some ⟨b_p_s, 0, none⟩)), (3, v4), (9, (.slice (some ⟨b1, 0, none⟩) 5 5)), (10, .int .i64 (([k_ann, k_bea, k_cid, k_dan, k_eve] : List ByteArray).length : Int)), (11, .int .i64 (i1 : Int))] 44 a w') ?_ ?_
   ·refine wp_block ?_
    refine f_loop (fun (m1 : Nat) a w' => ∃ x3 : List GMove, ∃ x4 : Int, ∃ x5 : Int, ∃ x6 : ByteArray, ∃ x7 : Int, ∃ v4 : Value, Stream_RightMoves_l2 r2 p_s_L y1 j2 m1 x3 x4 x5 x6 x7 = some r ∧ Sx w [b_p_s] φ1 [.own v4 42 3 x3.length (x3.flatMap GMove.enc), .blk b_p_s [v_p_s_L, .int .i64 x4] 25] [(0, .pointer (some ⟨b_p_s, 0, none⟩)), (3, v4), (5, .string y1), (6, .int .i64 x5), (7, .string x6), (9, (.slice (some ⟨b1, 0, none⟩) 5 5)), (10, .int .i64 (([k_ann, k_bea, k_cid, k_dan, k_eve] : List ByteArray).length : Int)), (11, .int .i64 (i1 : Int)), (19, .int .i64 r2.1), (20, .int .i64 x7)] 44 a w') id ((r2.1 - 0).toNat + 2) ⟨x1, r2.2, r1.1, k_empty, 0, v1, h, S.nf [true, true] rfl ⟨rfl, rfl, rfl, rfl, rfl, rfl, rfl, rfl, rfl, rfl, trivial⟩⟩ ?_
    clear S h; rintro m1 a w7 ⟨x3, x4, x5, x6, x7, v4, h, S⟩
    cases m1 with
    | zero => rw [Stream_RightMoves_l2.eq_1] at h; cases h
    | succ m1 =>
     rw [Stream_RightMoves_l2.eq_2] at h
     refine f_seq ?_
     refine f_region ?_
     refine lv S (rn_lss (S.tm rfl) (S.tm rfl)) rfl ?_; clear S; intro a S
     refine l_done ?_
     replace S := S.nk [.own v4 42 3 x3.length (x3.flatMap GMove.enc), .blk b_p_s [v_p_s_L, .int .i64 x4] 25] [(0, .pointer (some ⟨b_p_s, 0, none⟩)), (3, v4), (5, .string y1), (6, .int .i64 x5), (7, .string x6), (9, (.slice (some ⟨b1, 0, none⟩) 5 5)), (10, .int .i64 (([k_ann, k_bea, k_cid, k_dan, k_eve] : List ByteArray).length : Int)), (11, .int .i64 (i1 : Int)), (19, .int .i64 r2.1), (20, .int .i64 x7), (21, .bool (decide (x7 < r2.1)))] [true, true] rfl ⟨rfl, rfl, rfl, rfl, rfl, rfl, rfl, rfl, rfl, rfl, rfl, trivial⟩
     refine then_n ?_
     refine f_seq ?_
     refine f_cond (S.tm rfl) (fun hb1 => ?_) (fun hb1 => ?_)
     ·replace h := iteT h hb1
      refine wp_skip ?_
      refine then_n ?_
      refine f_seq ?_
      obtain ⟨j3, hj3, h⟩ := joinE h
      refine f_join (fun a w' => ∃ x8 : List GMove, ∃ x9 : Int, ∃ x10 : Int, ∃ x11 : ByteArray, ∃ v5 : Value, j3 x8 x9 x10 x11 = some r ∧ Sx w [b_p_s] φ1 [.own v5 42 3 x8.length (x8.flatMap GMove.enc), .blk b_p_s [v_p_s_L, .int .i64 x9] 25] [(0, .pointer (some ⟨b_p_s, 0, none⟩)), (3, v5), (5, .string y1), (6, .int .i64 x10), (7, .string x11), (9, (.slice (some ⟨b1, 0, none⟩) 5 5)), (10, .int .i64 (([k_ann, k_bea, k_cid, k_dan, k_eve] : List ByteArray).length : Int)), (11, .int .i64 (i1 : Int)), (19, .int .i64 r2.1), (20, .int .i64 x7)] 44 a w') ?_ ?_
      ·refine wp_block ?_
       refine f_seq ?_
       refine f_region ?_
       refine lv S (rn_move (S.tm rfl)) rfl ?_; clear S; intro a S
       refine l_buildSlice S Tryd.underlying29 Tryd.sizeOf9 Tryd.zeroValue9 rfl rfl (pv := [(0, .string k_blue), (1, .string k_blue), (2, .string k_red), (3, .string k_empty)]) ⟨rfl, rfl, rfl, rfl, rfl, rfl, rfl, rfl, trivial⟩ (cs := [.string k_blue, .string k_blue, .string k_red, .string k_empty]) (by kernel_rfl) rfl ?_; clear S; intro a w10 b4 hz3 hk5 S
       obtain ⟨r3, hr4, h⟩ := bindE h
       refine l_enter1 2 S (b := b_p_s) rfl rfl (fun _ => .blk b_p_s [v_p_s_L, .int .i64 r3.2] 25) (fun _ => run_call (vs := [.pointer (some ⟨b_p_s, 0, none⟩), .slice (some ⟨b4, 0, none⟩) 4 4]) ⟨(S.tm rfl), (S.tm rfl), trivial⟩ Tryd.call12) (Stream_Some_ok _ b_p_s v_p_s_L p_s_L (hs_p_s_L.mono (S.le_arg (fp_sub (i := 2) (e := .blk b_p_s [v_p_s_L, .int .i64 x4] 25) rfl))) x4 (S.holds _ (List.mem_of_getElem? (i := 2) rfl)) (.slice (some ⟨b4, 0, none⟩) 4 4) [k_blue, k_blue, k_red, k_empty] (lit_slcT enc_str S (i := 0) rfl rfl rfl rfl ((ne_fp (i := 2) (j := 0) (e := .blk b_p_s [v_p_s_L, .int .i64 x4] 25) (e' := .blk b4 [.string k_blue, .string k_blue, .string k_red, .string k_empty] 9) S rfl rfl rfl) _ rfl)) _ hr4) rfl (fun _ _ _ h => ⟨h.1, fun _ hc => by cases hc; rfl⟩) ?_; clear S; intro v6 a w11 hv3 hk6 hn3 S
       replace hv3 := hv3.2
       subst hv3
       refine lv S (rn_assign (S.tm rfl)) rfl ?_; clear S; intro a S
       refine l_done ?_
       replace S := S.nk [.own v4 42 3 x3.length (x3.flatMap GMove.enc), .blk b_p_s [v_p_s_L, .int .i64 r3.2] 25] [(0, .pointer (some ⟨b_p_s, 0, none⟩)), (3, v4), (5, .string y1), (6, .int .i64 x5), (7, .string x6), (8, .string r3.1), (9, (.slice (some ⟨b1, 0, none⟩) 5 5)), (10, .int .i64 (([k_ann, k_bea, k_cid, k_dan, k_eve] : List ByteArray).length : Int)), (11, .int .i64 (i1 : Int)), (19, .int .i64 r2.1), (20, .int .i64 x7)] [false, true, true] rfl ⟨rfl, rfl, rfl, rfl, rfl, rfl, rfl, rfl, rfl, rfl, rfl, trivial⟩
       refine then_n ?_
       refine f_seq ?_
       refine f_seq ?_
       refine f_region ?_
       refine lv S (rn_move (S.tm rfl)) rfl ?_; clear S; intro a S
       refine lv S (rn_move (S.tm rfl)) rfl ?_; clear S; intro a S
       refine lv S (rn_seql (S.tm rfl) (S.tm rfl)) rfl ?_; clear S; intro a S
       refine l_done ?_
       replace S := S.nk [.own v4 42 3 x3.length (x3.flatMap GMove.enc), .blk b_p_s [v_p_s_L, .int .i64 r3.2] 25] [(0, .pointer (some ⟨b_p_s, 0, none⟩)), (3, v4), (5, .string y1), (6, .int .i64 x5), (7, .string x6), (8, .string r3.1), (9, (.slice (some ⟨b1, 0, none⟩) 5 5)), (10, .int .i64 (([k_ann, k_bea, k_cid, k_dan, k_eve] : List ByteArray).length : Int)), (11, .int .i64 (i1 : Int)), (19, .int .i64 r2.1), (20, .int .i64 x7), (27, .bool (decide (r3.1 = x6)))] [true, true] rfl ⟨rfl, rfl, rfl, rfl, rfl, rfl, rfl, rfl, rfl, rfl, rfl, rfl, trivial⟩
       refine then_n ?_
       refine f_cond (S.tm rfl) (fun hb2 => ?_) (fun hb2 => ?_)
       ·replace h := iteT h hb2
        refine wp_exit ?_
        refine then_x ?_
        refine x_same ?_
        refine then_n ?_
        exact ⟨x3, r3.2, x5, x6, v4, h, S.nf [true, true] rfl ⟨rfl, rfl, rfl, rfl, rfl, rfl, rfl, rfl, rfl, rfl, trivial⟩⟩
       ·replace h := iteF h hb2
        refine wp_skip ?_
        refine then_n ?_
        refine f_seq ?_
        refine f_region ?_
        refine lv S (rn_move (S.tm rfl)) rfl ?_; clear S; intro a S
        refine lv S (rn_move (S.tm rfl)) rfl ?_; clear S; intro a S
        refine lv S (rn_move (S.tm rfl)) rfl ?_; clear S; intro a S
        refine lv S (rn_move (S.tm rfl)) rfl ?_; clear S; intro a S
        refine lv S (rn_bld bt_42 (pv := [(0, .string y1), (1, .string r3.1), (2, .int .i64 x5)]) ⟨rfl, (S.tm rfl), rfl, (S.tm rfl), rfl, (S.tm rfl), trivial⟩ (cs := [.string y1, .string r3.1, .int .i64 x5]) (by kernel_rfl)) rfl ?_; clear S; intro a S
        refine l_buildSlice S Tryd.underlying26 Tryd.sizeOf42 Tryd.zeroValue42 rfl rfl (pv := [(0, .agg #[.string y1, .string r3.1, .int .i64 x5])]) ⟨rfl, (S.tm rfl), trivial⟩ (cs := [.string y1, .string r3.1, .int .i64 x5]) (by kernel_rfl) rfl ?_; clear S; intro a w12 b5 hz4 hk7 S
        obtain ⟨hc1, h⟩ := chkE h
        refine l_appendT sl_26 GMove.enc_ok S (S.tm rfl) (i := 1) rfl (S.tm rfl) (j := 0) rfl (ys := [(GMove.mk y1 r3.1 x5)]) rfl rfl rfl rfl (by have := room_lt hc1; omega) rfl ?_; clear S; intro v7 a w13 hk8 S
        refine lv S (rn_assign (S.tm rfl)) rfl ?_; clear S; intro a S
        refine l_done ?_
        replace S := S.nk [.own v7 42 3 (x3 ++ [(GMove.mk y1 r3.1 x5)]).length ((x3 ++ [(GMove.mk y1 r3.1 x5)]).flatMap GMove.enc), .blk b_p_s [v_p_s_L, .int .i64 r3.2] 25] [(0, .pointer (some ⟨b_p_s, 0, none⟩)), (3, v7), (5, .string y1), (6, .int .i64 x5), (8, .string r3.1), (9, (.slice (some ⟨b1, 0, none⟩) 5 5)), (10, .int .i64 (([k_ann, k_bea, k_cid, k_dan, k_eve] : List ByteArray).length : Int)), (11, .int .i64 (i1 : Int)), (19, .int .i64 r2.1), (20, .int .i64 x7)] [false, true, true] rfl ⟨rfl, rfl, rfl, rfl, rfl, rfl, rfl, rfl, rfl, rfl, trivial⟩
        refine then_n ?_
        refine f_seq ?_
        refine f_region ?_
        refine lv S (rn_move (S.tm rfl)) rfl ?_; clear S; intro a S
        refine lv S (rn_assign (S.tm rfl)) rfl ?_; clear S; intro a S
        refine l_done ?_
        replace S := S.nk [.own v7 42 3 (x3 ++ [(GMove.mk y1 r3.1 x5)]).length ((x3 ++ [(GMove.mk y1 r3.1 x5)]).flatMap GMove.enc), .blk b_p_s [v_p_s_L, .int .i64 r3.2] 25] [(0, .pointer (some ⟨b_p_s, 0, none⟩)), (3, v7), (5, .string y1), (6, .int .i64 x5), (7, .string r3.1), (9, (.slice (some ⟨b1, 0, none⟩) 5 5)), (10, .int .i64 (([k_ann, k_bea, k_cid, k_dan, k_eve] : List ByteArray).length : Int)), (11, .int .i64 (i1 : Int)), (19, .int .i64 r2.1), (20, .int .i64 x7)] [true, true] rfl ⟨rfl, rfl, rfl, rfl, rfl, rfl, rfl, rfl, rfl, rfl, trivial⟩
        refine then_n ?_
        refine f_region ?_
        refine lv S (rn_move (S.tm rfl)) rfl ?_; clear S; intro a S
        refine lv S (rn_move (S.tm rfl)) rfl ?_; clear S; intro a S
        refine l_buildSlice S Tryd.underlying22 Tryd.sizeOf3 Tryd.zeroValue3 rfl rfl (pv := [(0, .int .i64 1), (1, .int .i64 30), (2, .int .i64 365)]) ⟨rfl, rfl, rfl, rfl, rfl, rfl, trivial⟩ (cs := [.int .i64 1, .int .i64 30, .int .i64 365]) (by kernel_rfl) rfl ?_; clear S; intro a w14 b6 hz5 hk9 S
        obtain ⟨r4, hr5, h⟩ := bindE h
        refine l_enter1 2 S (b := b_p_s) rfl rfl (fun _ => .blk b_p_s [v_p_s_L, .int .i64 r4.2] 25) (fun _ => run_call (vs := [.pointer (some ⟨b_p_s, 0, none⟩), .slice (some ⟨b6, 0, none⟩) 3 3]) ⟨(S.tm rfl), (S.tm rfl), trivial⟩ Tryd.call11) (Stream_Pick_ok _ b_p_s v_p_s_L p_s_L (hs_p_s_L.mono (S.le_arg (fp_sub (i := 2) (e := .blk b_p_s [v_p_s_L, .int .i64 r3.2] 25) rfl))) r3.2 (S.holds _ (List.mem_of_getElem? (i := 2) rfl)) (.slice (some ⟨b6, 0, none⟩) 3 3) [1, 30, 365] (lit_slcT enc_int S (i := 0) rfl rfl rfl rfl ((ne_fp (i := 2) (j := 0) (e := .blk b_p_s [v_p_s_L, .int .i64 r3.2] 25) (e' := .blk b6 [.int .i64 1, .int .i64 30, .int .i64 365] 3) S rfl rfl rfl) _ rfl)) _ hr5) rfl (fun _ _ _ h => ⟨h.1, fun _ hc => by cases hc; rfl⟩) ?_; clear S; intro v8 a w15 hv4 hk10 hn4 S
        replace hv4 := hv4.2
        subst hv4
        refine lv S (rn_add (S.tm rfl) (S.tm rfl)) rfl ?_; clear S; intro a S
        refine lv S (rn_assign (S.tm rfl)) rfl ?_; clear S; intro a S
        refine l_done ?_
        replace S := S.nk [.own v7 42 3 (x3 ++ [(GMove.mk y1 r3.1 x5)]).length ((x3 ++ [(GMove.mk y1 r3.1 x5)]).flatMap GMove.enc), .blk b_p_s [v_p_s_L, .int .i64 r4.2] 25] [(0, .pointer (some ⟨b_p_s, 0, none⟩)), (3, v7), (5, .string y1), (6, .int .i64 (W (x5 + r4.1))), (7, .string r3.1), (9, (.slice (some ⟨b1, 0, none⟩) 5 5)), (10, .int .i64 (([k_ann, k_bea, k_cid, k_dan, k_eve] : List ByteArray).length : Int)), (11, .int .i64 (i1 : Int)), (19, .int .i64 r2.1), (20, .int .i64 x7)] [false, true, true] rfl ⟨rfl, rfl, rfl, rfl, rfl, rfl, rfl, rfl, rfl, rfl, trivial⟩
        refine blk_n ?_
        refine then_n ?_
        exact ⟨(x3 ++ [(GMove.mk y1 r3.1 x5)]), r4.2, W (x5 + r4.1), r3.1, v7, h, S.nf [true, true] rfl ⟨rfl, rfl, rfl, rfl, rfl, rfl, rfl, rfl, rfl, rfl, trivial⟩⟩
      clear S h; rintro a w9 ⟨x8, x9, x10, x11, v5, h, S⟩; rw [hj3] at h; clear hj3 j3
      refine then_n ?_
      refine f_region ?_
      refine lv S (rn_add (S.tm rfl) rfl) rfl ?_; clear S; intro a S
      refine lv S (rn_move (S.tm rfl)) rfl ?_; clear S; intro a S
      refine l_done ?_
      replace S := S.nk [.own v5 42 3 x8.length (x8.flatMap GMove.enc), .blk b_p_s [v_p_s_L, .int .i64 x9] 25] [(0, .pointer (some ⟨b_p_s, 0, none⟩)), (3, v5), (5, .string y1), (6, .int .i64 x10), (7, .string x11), (9, (.slice (some ⟨b1, 0, none⟩) 5 5)), (10, .int .i64 (([k_ann, k_bea, k_cid, k_dan, k_eve] : List ByteArray).length : Int)), (11, .int .i64 (i1 : Int)), (19, .int .i64 r2.1), (20, .int .i64 (W (x7 + 1)))] [true, true] rfl ⟨rfl, rfl, rfl, rfl, rfl, rfl, rfl, rfl, rfl, rfl, trivial⟩
      refine then_n ?_
      exact ⟨m1, ⟨x8, x9, x10, x11, W (x7 + 1), v5, h, S.nf [true, true] rfl ⟨rfl, rfl, rfl, rfl, rfl, rfl, rfl, rfl, rfl, rfl, trivial⟩⟩, Nat.lt_succ_self _⟩
     ·replace h := iteF h hb1
      refine wp_exit ?_
      refine then_x ?_
      refine then_x ?_
      refine x_same ?_
      refine then_n ?_
      exact ⟨x3, x4, v4, h, S.nf [true, true] rfl ⟨rfl, rfl, rfl, rfl, rfl, trivial⟩⟩
   clear S h; rintro a w8 ⟨x3, x4, v4, h, S⟩; rw [hj2] at h; clear hj2 j2
   refine blk_n ?_
   refine then_n ?_
   refine f_region ?_
   refine lv S (rn_add (S.tm rfl) rfl) rfl ?_; clear S; intro a S
   refine lv S (rn_move (S.tm rfl)) rfl ?_; clear S; intro a S
   refine l_done ?_
   replace S := S.nk [.own v4 42 3 x3.length (x3.flatMap GMove.enc), .blk b_p_s [v_p_s_L, .int .i64 x4] 25] [(0, .pointer (some ⟨b_p_s, 0, none⟩)), (3, v4), (9, (.slice (some ⟨b1, 0, none⟩) 5 5)), (10, .int .i64 (([k_ann, k_bea, k_cid, k_dan, k_eve] : List ByteArray).length : Int)), (11, .int .i64 (W ((i1 : Int) + 1)))] [true, true] rfl ⟨rfl, rfl, rfl, rfl, rfl, trivial⟩
   refine then_n ?_
   exact ⟨ys1, ⟨i1 + 1, x3, x4, v4, ⟨_, (hd1).trans (List.append_cons _ _ _), by simp [hi1]⟩, h, S.nf [true, true] rfl ⟨rfl, rfl, rfl, rfl, (congrArg (fun z => some (Value.int .i64 z)) (rng_next hd1 hi1 (slc_max (ownV_slcT enc_str hs1)))), trivial⟩⟩, Nat.lt_succ_self _⟩
 clear S h; rintro a w3 ⟨x1, x2, v1, h, S⟩; rw [hj1] at h; clear hj1 j1
 refine then_n ?_
 refine f_seq ?_
 refine f_region ?_
 refine lv S (rn_move (S.tm rfl)) rfl ?_; clear S; intro a S
 refine lv S (rn_assign (S.tm rfl)) rfl ?_; clear S; intro a S
 refine l_done ?_
 replace S := S.nk [.own v1 42 3 x1.length (x1.flatMap GMove.enc), .blk b_p_s [v_p_s_L, .int .i64 x2] 25] [(2, v1)] [true, true] rfl ⟨rfl, trivial⟩
 refine then_n ?_
 refine wp_ret ?_
 obtain rfl := Option.some.inj h
 exact f_ret S Tryd.results4 rfl ⟨(S.holds _ (List.mem_of_getElem? (i := 1) rfl)), (own_retX S (i := 0) rfl (fun c hc hh => not_fps S (i := 1) rfl rfl (j := 0) rfl rfl (by simp at hc; subst hc; exact hh)))⟩
theorem strings_Trim_ok (w : World) (s c : ByteArray) (r : ByteArray) (h : strings_Trim s c = some r) : Calls Tryd.prog 40 [.string s, .string c].toArray w (Ret w [] fun _ v _ => v = .string r) := by
  unfold strings_Trim at h
  obtain ⟨h1, h⟩ := chkE h
  obtain ⟨h2, h⟩ := chkE h
  obtain ⟨h3, h⟩ := chkE h
  obtain rfl := Option.some.inj h
  exact ret_of_below (Any.strings_Trim_laid Tryd.lays160 (by kernel_rfl) s c w (by simpa using h1) (by simpa using h2) (fun j b hb => by simpa using List.all_eq_true.1 h3 b (List.mem_of_getElem? hb)))
theorem words_IsKey_ok (w : World) (p_s : ByteArray) (r : Bool) (h : words_IsKey p_s = some r) :
    Calls Tryd.prog 23 [.string p_s].toArray w (Ret w [] fun _ v _ => v = .bool r) := by
 refine f_enter [] [] Tryd.func23 rfl Tryd.ntmps23 rfl (by simp) (by simp [fps]) (by simp [fps]) fun a S => ?_
 unfold words_IsKey at h
 replace S := S.nk [] [(0, .string p_s)] [] rfl ⟨rfl, trivial⟩
 refine f_seq ?_
 refine f_region ?_
 refine lv S (rn_assign rfl) rfl ?_; clear S; intro a S
 refine l_done ?_
 replace S := S.nk [] [(0, .string p_s)] [] rfl ⟨rfl, trivial⟩
 refine then_n ?_
 refine f_seq ?_
 refine f_region ?_
 refine lv S (rn_move (S.tm rfl)) rfl ?_; clear S; intro a S
 refine lv S (rn_len_str Tryd.underlying9 (S.tm rfl)) rfl ?_; clear S; intro a S
 refine lv S (rn_geq (S.tm rfl) rfl) rfl ?_; clear S; intro a S
 refine lv S (rn_move (S.tm rfl)) rfl ?_; clear S; intro a S
 refine f_cutm 4 (fun a w' => Keep [] w w' ∧ Sx w [] nov [] [(0, .string p_s), (10, .bool ((decide (1 ≤ (p_s.size : Int))) && (decide ((p_s.size : Int) ≤ 40))))] 26 a w') ?_ ?_
 ·rcases Bool.eq_false_or_eq_true (decide (1 ≤ (p_s.size : Int))) with hb1 | hb1
  ·refine l_want S rfl rfl rfl hb1 ?_
   refine lv S (rn_move (S.tm rfl)) rfl ?_; clear S; intro a S
   refine l_want S rfl rfl rfl hb1 ?_
   refine lv S (rn_len_str Tryd.underlying9 (S.tm rfl)) rfl ?_; clear S; intro a S
   refine l_want S rfl rfl rfl hb1 ?_
   refine lv S (rn_leq (S.tm rfl) rfl) rfl ?_; clear S; intro a S
   refine lv S (rn_and_t hb1 (S.tm rfl) (S.tm rfl)) rfl ?_; clear S; intro a S
   refine l_done ?_
   refine then_n ?_
   exact ⟨Keep.refl _ _, S.nf [] rfl ⟨rfl, rfl, trivial⟩⟩
  ·refine l_skip S rfl rfl rfl (neq_f hb1) rfl ?_ rfl; clear S; intro a S
   refine l_skip S rfl rfl rfl (neq_f hb1) rfl ?_ rfl; clear S; intro a S
   refine l_skip S rfl rfl rfl (neq_f hb1) rfl ?_ rfl; clear S; intro a S
   refine lv S (rn_and_f (decide ((p_s.size : Int) ≤ 40)) hb1 (S.tm rfl) rfl) rfl ?_; clear S; intro a S
   refine l_done ?_
   refine then_n ?_
   exact ⟨Keep.refl _ _, S.nf [] rfl ⟨rfl, rfl, trivial⟩⟩
 clear S; rintro a w1 ⟨hk1, S⟩
 refine lv S (rn_move (S.tm rfl)) rfl ?_; clear S; intro a S
 obtain ⟨j1, hj1, h⟩ := joinE h
 refine f_cutm 4 (fun a w' => ∃ c1, j1 c1 = some r ∧ Keep [] w1 w' ∧ Sx w [] nov [] [(0, .string p_s), (15, .bool c1)] 26 a w') ?_ ?_
 ·rcases Bool.eq_false_or_eq_true ((decide (1 ≤ (p_s.size : Int))) && (decide ((p_s.size : Int) ≤ 40))) with hb2 | hb2
  ·replace h := iteT h hb2
   refine l_want S rfl rfl rfl hb2 ?_
   refine lv S (rn_move (S.tm rfl)) rfl ?_; clear S; intro a S
   refine l_want S rfl rfl rfl hb2 ?_
   obtain ⟨hc1, h⟩ := chkE h
   refine lv S (rn_sindexT Tryd.underlying9 (S.tm rfl) rfl hc1) rfl ?_; clear S; intro a S
   refine l_want S rfl rfl rfl hb2 ?_
   refine lv S (rn_geq (S.tm rfl) rfl) rfl ?_; clear S; intro a S
   refine lv S (rn_and_t hb2 (S.tm rfl) (S.tm rfl)) rfl ?_; clear S; intro a S
   refine l_done ?_
   refine then_n ?_
   exact ⟨_, h, Keep.refl _ _, S.nf [] rfl ⟨rfl, rfl, trivial⟩⟩
  ·replace h := iteF h hb2
   refine l_skip S rfl rfl rfl (neq_f hb2) rfl ?_ rfl; clear S; intro a S
   refine l_skip S rfl rfl rfl (neq_f hb2) rfl ?_ rfl; clear S; intro a S
   refine l_skip S rfl rfl rfl (neq_f hb2) rfl ?_ rfl; clear S; intro a S
   refine lv S (rn_and_f true hb2 (S.tm rfl) rfl) rfl ?_; clear S; intro a S
   refine l_done ?_
   refine then_n ?_
   exact ⟨_, h, Keep.refl _ _, S.nf [] rfl ⟨rfl, rfl, trivial⟩⟩
 clear S h; rintro a w2 ⟨c1, h, hk2, S⟩; rw [hj1] at h; clear hj1 j1
 refine lv S (rn_move (S.tm rfl)) rfl ?_; clear S; intro a S
 obtain ⟨j2, hj2, h⟩ := joinE h
 refine f_cutm 4 (fun a w' => ∃ c2, j2 c2 = some r ∧ Keep [] w2 w' ∧ Sx w [] nov [] [(0, .string p_s), (20, .bool c2)] 26 a w') ?_ ?_
 ·rcases Bool.eq_false_or_eq_true c1 with hb3 | hb3
  ·replace h := iteT h hb3
   refine l_want S rfl rfl rfl hb3 ?_
   refine lv S (rn_move (S.tm rfl)) rfl ?_; clear S; intro a S
   refine l_want S rfl rfl rfl hb3 ?_
   obtain ⟨hc2, h⟩ := chkE h
   refine lv S (rn_sindexT Tryd.underlying9 (S.tm rfl) rfl hc2) rfl ?_; clear S; intro a S
   refine l_want S rfl rfl rfl hb3 ?_
   refine lv S (rn_leq (S.tm rfl) rfl) rfl ?_; clear S; intro a S
   refine lv S (rn_and_t hb3 (S.tm rfl) (S.tm rfl)) rfl ?_; clear S; intro a S
   refine l_done ?_
   refine then_n ?_
   exact ⟨_, h, Keep.refl _ _, S.nf [] rfl ⟨rfl, rfl, trivial⟩⟩
  ·replace h := iteF h hb3
   refine l_skip S rfl rfl rfl (neq_f hb3) rfl ?_ rfl; clear S; intro a S
   refine l_skip S rfl rfl rfl (neq_f hb3) rfl ?_ rfl; clear S; intro a S
   refine l_skip S rfl rfl rfl (neq_f hb3) rfl ?_ rfl; clear S; intro a S
   refine lv S (rn_and_f true hb3 (S.tm rfl) rfl) rfl ?_; clear S; intro a S
   refine l_done ?_
   refine then_n ?_
   exact ⟨_, h, Keep.refl _ _, S.nf [] rfl ⟨rfl, rfl, trivial⟩⟩
 clear S h; rintro a w3 ⟨c2, h, hk3, S⟩; rw [hj2] at h; clear hj2 j2
 refine lv S (rn_move (S.tm rfl)) rfl ?_; clear S; intro a S
 obtain ⟨j3, hj3, h⟩ := joinE h
 refine f_cutm 4 (fun a w' => ∃ c3, j3 c3 = some r ∧ Keep [] w3 w' ∧ Sx w [] nov [] [(25, .bool c3)] 26 a w') ?_ ?_
 ·rcases Bool.eq_false_or_eq_true c2 with hb4 | hb4
  ·replace h := iteT h hb4
   refine l_want S rfl rfl rfl hb4 ?_
   refine lv S (rn_move (S.tm rfl)) rfl ?_; clear S; intro a S
   refine l_want S rfl rfl rfl hb4 ?_
   obtain ⟨r1, hr1, h⟩ := bindE h
   refine l_enter S (fun _ => run_call (vs := [.string p_s, .string k_abcdefghijkl_h0e2e2c]) ⟨(S.tm rfl), rfl, trivial⟩ Tryd.call40) (strings_Trim_ok _ p_s k_abcdefghijkl_h0e2e2c _ hr1) rfl ?_; clear S; intro v1 a w5 hv1 hk4 hn1 S
   subst hv1
   refine l_want S rfl rfl rfl hb4 ?_
   refine lv S (rn_seql (S.tm rfl) rfl) rfl ?_; clear S; intro a S
   refine lv S (rn_and_t hb4 (S.tm rfl) (S.tm rfl)) rfl ?_; clear S; intro a S
   refine l_done ?_
   refine then_n ?_
   exact ⟨_, h, hk4, S.nf [] rfl ⟨rfl, trivial⟩⟩
  ·replace h := iteF h hb4
   refine l_skip S rfl rfl rfl (neq_f hb4) rfl ?_ rfl; clear S; intro a S
   refine l_skip S rfl rfl rfl (neq_f hb4) rfl ?_ rfl; clear S; intro a S
   refine l_skip S rfl rfl rfl (neq_f hb4) rfl ?_ rfl; clear S; intro a S
   refine lv S (rn_and_f true hb4 (S.tm rfl) rfl) rfl ?_; clear S; intro a S
   refine l_done ?_
   refine then_n ?_
   exact ⟨_, h, Keep.refl _ _, S.nf [] rfl ⟨rfl, trivial⟩⟩
 clear S h; rintro a w4 ⟨c3, h, hk5, S⟩; rw [hj3] at h; clear hj3 j3
 refine lv S (rn_assign (S.tm rfl)) rfl ?_; clear S; intro a S
 refine l_done ?_
 replace S := S.nk [] [(2, .bool c3)] [] rfl ⟨rfl, trivial⟩
 refine then_n ?_
 refine wp_ret ?_
 obtain rfl := Option.some.inj h
 exact f_ret S Tryd.results23 rfl rfl
theorem words_Within_ok (w : World) (p_n : Int) (p_low : Int) (p_high : Int) (r : Bool) (h : words_Within p_n p_low p_high = r) :
    Calls Tryd.prog 25 [.int .i64 p_n, .int .i64 p_low, .int .i64 p_high].toArray w (Ret w [] fun _ v _ => v = .bool r) := by
 refine f_enter [] [] Tryd.func25 rfl Tryd.ntmps25 rfl (by simp) (by simp [fps]) (by simp [fps]) fun a S => ?_
 unfold words_Within at h
 replace S := S.nk [] [(0, .int .i64 p_n), (1, .int .i64 p_low), (2, .int .i64 p_high)] [] rfl ⟨rfl, rfl, rfl, trivial⟩
 refine f_seq ?_
 refine f_region ?_
 refine lv S (rn_assign rfl) rfl ?_; clear S; intro a S
 refine l_done ?_
 replace S := S.nk [] [(0, .int .i64 p_n), (1, .int .i64 p_low), (2, .int .i64 p_high)] [] rfl ⟨rfl, rfl, rfl, trivial⟩
 refine then_n ?_
 refine f_seq ?_
 refine f_region ?_
 refine lv S (rn_move (S.tm rfl)) rfl ?_; clear S; intro a S
 refine lv S (rn_move (S.tm rfl)) rfl ?_; clear S; intro a S
 refine lv S (rn_geq (S.tm rfl) (S.tm rfl)) rfl ?_; clear S; intro a S
 refine lv S (rn_move (S.tm rfl)) rfl ?_; clear S; intro a S
 refine f_cutm 4 (fun a w' => Keep [] w w' ∧ Sx w [] nov [] [(14, .bool ((decide (p_low ≤ p_n)) && (decide (p_n ≤ p_high))))] 15 a w') ?_ ?_
 ·rcases Bool.eq_false_or_eq_true (decide (p_low ≤ p_n)) with hb1 | hb1
  ·refine l_want S rfl rfl rfl hb1 ?_
   refine lv S (rn_move (S.tm rfl)) rfl ?_; clear S; intro a S
   refine l_want S rfl rfl rfl hb1 ?_
   refine lv S (rn_move (S.tm rfl)) rfl ?_; clear S; intro a S
   refine l_want S rfl rfl rfl hb1 ?_
   refine lv S (rn_leq (S.tm rfl) (S.tm rfl)) rfl ?_; clear S; intro a S
   refine lv S (rn_and_t hb1 (S.tm rfl) (S.tm rfl)) rfl ?_; clear S; intro a S
   refine l_done ?_
   refine then_n ?_
   exact ⟨Keep.refl _ _, S.nf [] rfl ⟨rfl, trivial⟩⟩
  ·refine l_skip S rfl rfl rfl (neq_f hb1) rfl ?_ rfl; clear S; intro a S
   refine l_skip S rfl rfl rfl (neq_f hb1) rfl ?_ rfl; clear S; intro a S
   refine l_skip S rfl rfl rfl (neq_f hb1) rfl ?_ rfl; clear S; intro a S
   refine lv S (rn_and_f (decide (p_n ≤ p_high)) hb1 (S.tm rfl) rfl) rfl ?_; clear S; intro a S
   refine l_done ?_
   refine then_n ?_
   exact ⟨Keep.refl _ _, S.nf [] rfl ⟨rfl, trivial⟩⟩
 clear S; rintro a w1 ⟨hk1, S⟩
 refine lv S (rn_assign (S.tm rfl)) rfl ?_; clear S; intro a S
 refine l_done ?_
 replace S := S.nk [] [(6, .bool ((decide (p_low ≤ p_n)) && (decide (p_n ≤ p_high))))] [] rfl ⟨rfl, trivial⟩
 refine then_n ?_
 refine wp_ret ?_
 subst h
 exact f_ret S Tryd.results25 rfl rfl
theorem swimmer_isDay_ok (w : World) (p_n : Int) (r : Bool) (h : swimmer_isDay p_n = r) :
    Calls Tryd.prog 24 [.int .i64 p_n].toArray w (Ret w [] fun _ v _ => v = .bool r) := by
 refine f_enter [] [] Tryd.func24 rfl Tryd.ntmps24 rfl (by simp) (by simp [fps]) (by simp [fps]) fun a S => ?_
 unfold swimmer_isDay at h
 replace S := S.nk [] [(0, .int .i64 p_n)] [] rfl ⟨rfl, trivial⟩
 refine f_seq ?_
 refine f_region ?_
 refine lv S (rn_assign rfl) rfl ?_; clear S; intro a S
 refine l_done ?_
 replace S := S.nk [] [(0, .int .i64 p_n)] [] rfl ⟨rfl, trivial⟩
 refine then_n ?_
 refine f_seq ?_
 refine f_region ?_
 refine lv S (rn_move (S.tm rfl)) rfl ?_; clear S; intro a S
 refine l_enter S (fun _ => run_call (vs := [.int .i64 p_n, .int .i64 (-40000), .int .i64 4000]) ⟨(S.tm rfl), rfl, rfl, trivial⟩ Tryd.call25) (words_Within_ok _ p_n (-40000) 4000 _ rfl) rfl ?_; clear S; intro v1 a w1 hv1 hk1 hn1 S
 subst hv1
 refine lv S (rn_assign (S.tm rfl)) rfl ?_; clear S; intro a S
 refine l_done ?_
 replace S := S.nk [] [(2, .bool (words_Within p_n (-40000) 4000))] [] rfl ⟨rfl, trivial⟩
 refine then_n ?_
 refine wp_ret ?_
 subst h
 exact f_ret S Tryd.results24 rfl rfl
theorem strings_Compare_ok (w : World) (s t : ByteArray) (r : Int) (h : strings_Compare s t = r) : Calls Tryd.prog 38 [.string s, .string t].toArray w (Ret w [] fun _ v _ => v = .int .i64 r) := by
  subst h
  exact ret_of_same (Any.strings_Compare Tryd.lays106 s t w)
theorem cmp_isNaN_int_ok (w : World) (p_x : Int) (r : Bool) (h : cmp_isNaN_int p_x = r) :
    Calls Tryd.prog 48 [.int .i64 p_x].toArray w (Ret w [] fun _ v _ => v = .bool r) := by
 refine f_enter [] [] Tryd.func48 rfl Tryd.ntmps48 rfl (by simp) (by simp [fps]) (by simp [fps]) fun a S => ?_
 unfold cmp_isNaN_int at h
 replace S := S.nk [] [(0, .int .i64 p_x)] [] rfl ⟨rfl, trivial⟩
 refine f_seq ?_
 refine f_region ?_
 refine lv S (rn_assign rfl) rfl ?_; clear S; intro a S
 refine l_done ?_
 replace S := S.nk [] [(0, .int .i64 p_x)] [] rfl ⟨rfl, trivial⟩
 refine then_n ?_
 refine f_seq ?_
 refine f_region ?_
 refine lv S (rn_move (S.tm rfl)) rfl ?_; clear S; intro a S
 refine lv S (rn_move (S.tm rfl)) rfl ?_; clear S; intro a S
 refine lv S (rn_neq (S.tm rfl) (S.tm rfl)) rfl ?_; clear S; intro a S
 refine lv S (rn_assign (S.tm rfl)) rfl ?_; clear S; intro a S
 refine l_done ?_
 replace S := S.nk [] [(2, .bool (!decide (p_x = p_x)))] [] rfl ⟨rfl, trivial⟩
 refine then_n ?_
 refine wp_ret ?_
 subst h
 exact f_ret S Tryd.results48 rfl rfl
theorem cmp_Compare_int_ok (w : World) (p_x : Int) (p_y : Int) (r : Int) (h : cmp_Compare_int p_x p_y = r) :
    Calls Tryd.prog 39 [.int .i64 p_x, .int .i64 p_y].toArray w (Ret w [] fun _ v _ => v = .int .i64 r) := by
 refine f_enter [] [] Tryd.func39 rfl Tryd.ntmps39 rfl (by simp) (by simp [fps]) (by simp [fps]) fun a S => ?_
 unfold cmp_Compare_int at h
 replace S := S.nk [] [(0, .int .i64 p_x), (1, .int .i64 p_y)] [] rfl ⟨rfl, rfl, trivial⟩
 refine f_seq ?_
 refine f_region ?_
 refine lv S (rn_assign rfl) rfl ?_; clear S; intro a S
 refine l_done ?_
 replace S := S.nk [] [(0, .int .i64 p_x), (1, .int .i64 p_y)] [] rfl ⟨rfl, rfl, trivial⟩
 refine then_n ?_
 refine f_seq ?_
 refine f_region ?_
 refine lv S (rn_move (S.tm rfl)) rfl ?_; clear S; intro a S
 refine l_enter S (fun _ => run_call (vs := [.int .i64 p_x]) ⟨(S.tm rfl), trivial⟩ Tryd.call48) (cmp_isNaN_int_ok _ p_x _ rfl) rfl ?_; clear S; intro v1 a w1 hv1 hk1 hn1 S
 subst hv1
 refine lv S (rn_assign (S.tm rfl)) rfl ?_; clear S; intro a S
 refine l_done ?_
 replace S := S.nk [] [(0, .int .i64 p_x), (1, .int .i64 p_y), (5, .bool (cmp_isNaN_int p_x))] [] rfl ⟨rfl, rfl, rfl, trivial⟩
 refine then_n ?_
 refine f_seq ?_
 refine f_region ?_
 refine lv S (rn_move (S.tm rfl)) rfl ?_; clear S; intro a S
 refine l_enter S (fun _ => run_call (vs := [.int .i64 p_y]) ⟨(S.tm rfl), trivial⟩ Tryd.call48) (cmp_isNaN_int_ok _ p_y _ rfl) rfl ?_; clear S; intro v2 a w2 hv2 hk2 hn2 S
 subst hv2
 refine lv S (rn_assign (S.tm rfl)) rfl ?_; clear S; intro a S
 refine l_done ?_
 replace S := S.nk [] [(0, .int .i64 p_x), (1, .int .i64 p_y), (5, .bool (cmp_isNaN_int p_x)), (6, .bool (cmp_isNaN_int p_y))] [] rfl ⟨rfl, rfl, rfl, rfl, trivial⟩
 refine then_n ?_
 refine f_seq ?_
 refine f_seq ?_
 refine f_region ?_
 refine lv S (rn_move (S.tm rfl)) rfl ?_; clear S; intro a S
 refine l_done ?_
 replace S := S.nk [] [(0, .int .i64 p_x), (1, .int .i64 p_y), (6, .bool (cmp_isNaN_int p_y)), (11, .bool (cmp_isNaN_int p_x))] [] rfl ⟨rfl, rfl, rfl, rfl, trivial⟩
 refine then_n ?_
 refine f_cond (S.tm rfl) (fun hb1 => ?_) (fun hb1 => ?_)
 ·replace h := iteT h hb1
  refine f_seq ?_
  refine f_seq ?_
  refine f_region ?_
  refine lv S (rn_move (S.tm rfl)) rfl ?_; clear S; intro a S
  refine l_done ?_
  replace S := S.nk [] [(12, .bool (cmp_isNaN_int p_y))] [] rfl ⟨rfl, trivial⟩
  refine then_n ?_
  refine f_cond (S.tm rfl) (fun hb2 => ?_) (fun hb2 => ?_)
  ·replace h := iteT h hb2
   refine f_seq ?_
   refine f_region ?_
   refine lv S (rn_assign rfl) rfl ?_; clear S; intro a S
   refine l_done ?_
   replace S := S.nk [] [(4, .int .i64 0)] [] rfl ⟨rfl, trivial⟩
   refine then_n ?_
   refine wp_ret ?_
   refine then_r ?_
   refine then_r ?_
   subst h
   exact f_ret S Tryd.results39 rfl rfl
  ·replace h := iteF h hb2
   refine wp_skip ?_
   refine then_n ?_
   refine f_seq ?_
   refine f_region ?_
   refine lv S (rn_assign rfl) rfl ?_; clear S; intro a S
   refine l_done ?_
   replace S := S.nk [] [(4, .int .i64 (-1))] [] rfl ⟨rfl, trivial⟩
   refine then_n ?_
   refine wp_ret ?_
   refine then_r ?_
   subst h
   exact f_ret S Tryd.results39 rfl rfl
 ·replace h := iteF h hb1
  refine wp_skip ?_
  refine then_n ?_
  refine f_seq ?_
  refine f_seq ?_
  refine f_region ?_
  refine lv S (rn_move (S.tm rfl)) rfl ?_; clear S; intro a S
  refine l_done ?_
  replace S := S.nk [] [(0, .int .i64 p_x), (1, .int .i64 p_y), (13, .bool (cmp_isNaN_int p_y))] [] rfl ⟨rfl, rfl, rfl, trivial⟩
  refine then_n ?_
  refine f_cond (S.tm rfl) (fun hb3 => ?_) (fun hb3 => ?_)
  ·replace h := iteT h hb3
   refine f_seq ?_
   refine f_region ?_
   refine lv S (rn_assign rfl) rfl ?_; clear S; intro a S
   refine l_done ?_
   replace S := S.nk [] [(4, .int .i64 1)] [] rfl ⟨rfl, trivial⟩
   refine then_n ?_
   refine wp_ret ?_
   refine then_r ?_
   subst h
   exact f_ret S Tryd.results39 rfl rfl
  ·replace h := iteF h hb3
   refine wp_skip ?_
   refine then_n ?_
   refine f_seq ?_
   refine f_seq ?_
   refine f_region ?_
   refine lv S (rn_move (S.tm rfl)) rfl ?_; clear S; intro a S
   refine lv S (rn_move (S.tm rfl)) rfl ?_; clear S; intro a S
   refine lv S (rn_lss (S.tm rfl) (S.tm rfl)) rfl ?_; clear S; intro a S
   refine l_done ?_
   replace S := S.nk [] [(0, .int .i64 p_x), (1, .int .i64 p_y), (16, .bool (decide (p_x < p_y)))] [] rfl ⟨rfl, rfl, rfl, trivial⟩
   refine then_n ?_
   refine f_cond (S.tm rfl) (fun hb4 => ?_) (fun hb4 => ?_)
   ·replace h := iteT h hb4
    refine f_seq ?_
    refine f_region ?_
    refine lv S (rn_assign rfl) rfl ?_; clear S; intro a S
    refine l_done ?_
    replace S := S.nk [] [(4, .int .i64 (-1))] [] rfl ⟨rfl, trivial⟩
    refine then_n ?_
    refine wp_ret ?_
    refine then_r ?_
    subst h
    exact f_ret S Tryd.results39 rfl rfl
   ·replace h := iteF h hb4
    refine wp_skip ?_
    refine then_n ?_
    refine f_seq ?_
    refine f_seq ?_
    refine f_region ?_
    refine lv S (rn_move (S.tm rfl)) rfl ?_; clear S; intro a S
    refine lv S (rn_move (S.tm rfl)) rfl ?_; clear S; intro a S
    refine lv S (rn_gtr (S.tm rfl) (S.tm rfl)) rfl ?_; clear S; intro a S
    refine l_done ?_
    replace S := S.nk [] [(19, .bool (decide (p_y < p_x)))] [] rfl ⟨rfl, trivial⟩
    refine then_n ?_
    refine f_cond (S.tm rfl) (fun hb5 => ?_) (fun hb5 => ?_)
    ·replace h := iteT h hb5
     refine f_seq ?_
     refine f_region ?_
     refine lv S (rn_assign rfl) rfl ?_; clear S; intro a S
     refine l_done ?_
     replace S := S.nk [] [(4, .int .i64 1)] [] rfl ⟨rfl, trivial⟩
     refine then_n ?_
     refine wp_ret ?_
     refine then_r ?_
     subst h
     exact f_ret S Tryd.results39 rfl rfl
    ·replace h := iteF h hb5
     refine wp_skip ?_
     refine then_n ?_
     refine f_seq ?_
     refine f_region ?_
     refine lv S (rn_assign rfl) rfl ?_; clear S; intro a S
     refine l_done ?_
     replace S := S.nk [] [(4, .int .i64 0)] [] rfl ⟨rfl, trivial⟩
     refine then_n ?_
     refine wp_ret ?_
     subst h
     exact f_ret S Tryd.results39 rfl rfl
theorem cmp_Or_int_ok (w : World) (v_p_vals : Value) (p_vals : List Int) (hs_p_vals : Slc (view w []) 1 v_p_vals (p_vals.map eInt)) (r : Int) (h : cmp_Or_int p_vals = r) :
    Calls Tryd.prog 37 [v_p_vals].toArray w (Ret w [] fun _ v _ => v = .int .i64 r) := by
 refine f_enter [] [] Tryd.func37 rfl Tryd.ntmps37 rfl (by simp) (by simp [fps]) (by simp [fps]) fun a S => ?_
 unfold cmp_Or_int at h
 replace S := S.nk [] [(0, v_p_vals)] [] rfl ⟨rfl, trivial⟩
 refine f_seq ?_
 refine f_region ?_
 refine lv S (rn_assign rfl) rfl ?_; clear S; intro a S
 refine l_done ?_
 replace S := S.nk [] [(0, v_p_vals)] [] rfl ⟨rfl, trivial⟩
 refine then_n ?_
 refine f_seq ?_
 refine f_region ?_
 refine lv S (rn_assign rfl) rfl ?_; clear S; intro a S
 refine l_done ?_
 replace S := S.nk [] [(0, v_p_vals), (3, .int .i64 0)] [] rfl ⟨rfl, rfl, trivial⟩
 refine then_n ?_
 refine f_seq ?_
 refine f_seq ?_
 refine f_region ?_
 refine lv S (rn_move (S.tm rfl)) rfl ?_; clear S; intro a S
 refine lv S (rn_lenT sl_22 (S.tm rfl) (slc_len hs_p_vals)) rfl ?_; clear S; intro a S
 refine lv S (rn_move rfl) rfl ?_; clear S; intro a S
 refine l_done ?_
 replace S := S.nk [] [(3, .int .i64 0), (6, v_p_vals), (7, .int .i64 (p_vals.length : Int)), (8, .int .i64 0)] [] rfl ⟨rfl, rfl, rfl, rfl, trivial⟩
 refine then_n ?_
 obtain ⟨j1, hj1, h⟩ := joinE h
 refine f_join (fun a w' => j1 = r ∧ Sx w [] nov [] [(3, .int .i64 0)] 18 a w') ?_ ?_
 ·refine wp_block ?_
  refine f_loop (fun (ys1 : List Int) a w' => ∃ i1 : Nat, (∃ dn, p_vals = dn ++ ys1 ∧ dn.length = i1) ∧ cmp_Or_int_l1 j1 ys1 i1 = r ∧ Sx w [] nov [] [(3, .int .i64 0), (6, v_p_vals), (7, .int .i64 (p_vals.length : Int)), (8, .int .i64 (i1 : Int))] 18 a w') List.length p_vals ⟨0, ⟨[], rfl, rfl⟩, h, S.nf [] rfl ⟨rfl, rfl, rfl, rfl, trivial⟩⟩ ?_
  clear S h; rintro ys1 a w1 ⟨i1, ⟨dn, hd1, hi1⟩, h, S⟩
  cases ys1 with
  | nil =>
   rw [cmp_Or_int_l1.eq_1] at h
   refine f_seq ?_
   refine f_region ?_
   refine lv S (rn_lss (S.tm rfl) (S.tm rfl)) rfl ?_; clear S; intro a S
   refine l_done ?_
   replace S := S.nk [] [(3, .int .i64 0), (6, v_p_vals), (7, .int .i64 (p_vals.length : Int)), (8, .int .i64 (i1 : Int)), (9, .bool (decide ((i1 : Int) < (p_vals.length : Int))))] [] rfl ⟨rfl, rfl, rfl, rfl, rfl, trivial⟩
   refine then_n ?_
   refine f_seq ?_
   refine wp_cond_false ((S.tm rfl).trans (congrArg Value.bool (rng_nil hd1 hi1))) ?_
   refine wp_exit ?_
   refine then_x ?_
   refine then_x ?_
   refine x_same ?_
   refine then_n ?_
   exact ⟨h, S.nf [] rfl ⟨rfl, trivial⟩⟩
  | cons y1 ys1 =>
   rw [cmp_Or_int_l1.eq_2] at h
   refine f_seq ?_
   refine f_region ?_
   refine lv S (rn_lss (S.tm rfl) (S.tm rfl)) rfl ?_; clear S; intro a S
   refine l_done ?_
   replace S := S.nk [] [(3, .int .i64 0), (6, v_p_vals), (7, .int .i64 (p_vals.length : Int)), (8, .int .i64 (i1 : Int)), (9, .bool (decide ((i1 : Int) < (p_vals.length : Int))))] [] rfl ⟨rfl, rfl, rfl, rfl, rfl, trivial⟩
   refine then_n ?_
   refine f_seq ?_
   refine wp_cond_true ((S.tm rfl).trans (congrArg Value.bool (rng_cons hd1 hi1))) ?_
   refine wp_skip ?_
   refine then_n ?_
   refine f_seq ?_
   refine wp_block ?_
   refine f_seq ?_
   refine f_region ?_
   obtain ⟨b1, o1, hm1, hr1⟩ := rn_indexT (a := a) (x := .tmp 6) (y := .tmp 8) (ty := 0) sl_22 hs_p_vals (get_mid hd1 hi1) rfl (S.tm rfl) (S.tm rfl)
   refine lv S (hr1 _) rfl ?_; clear S; intro a S
   clear hr1
   refine lv S (rn_ld Tryd.isAgg3 (off := o1) (o := 0) (S.tm rfl) (hm1.at S.emb0) rfl) rfl ?_; clear S; intro a S
   refine lv S (rn_assign (S.tm rfl)) rfl ?_; clear S; intro a S
   refine l_done ?_
   replace S := S.nk [] [(3, .int .i64 0), (5, .int .i64 y1), (6, v_p_vals), (7, .int .i64 (p_vals.length : Int)), (8, .int .i64 (i1 : Int))] [] rfl ⟨rfl, rfl, rfl, rfl, rfl, trivial⟩
   refine then_n ?_
   refine f_seq ?_
   refine f_region ?_
   refine lv S (rn_move (S.tm rfl)) rfl ?_; clear S; intro a S
   refine lv S (rn_move (S.tm rfl)) rfl ?_; clear S; intro a S
   refine lv S (rn_neq (S.tm rfl) (S.tm rfl)) rfl ?_; clear S; intro a S
   refine l_done ?_
   replace S := S.nk [] [(3, .int .i64 0), (5, .int .i64 y1), (6, v_p_vals), (7, .int .i64 (p_vals.length : Int)), (8, .int .i64 (i1 : Int)), (14, .bool (!decide (y1 = 0)))] [] rfl ⟨rfl, rfl, rfl, rfl, rfl, rfl, trivial⟩
   refine then_n ?_
   refine f_cond (S.tm rfl) (fun hb1 => ?_) (fun hb1 => ?_)
   ·replace h := iteT h hb1
    refine f_seq ?_
    refine f_region ?_
    refine lv S (rn_move (S.tm rfl)) rfl ?_; clear S; intro a S
    refine lv S (rn_assign (S.tm rfl)) rfl ?_; clear S; intro a S
    refine l_done ?_
    replace S := S.nk [] [(2, .int .i64 y1)] [] rfl ⟨rfl, trivial⟩
    refine then_n ?_
    refine wp_ret ?_
    refine blk_r ?_
    refine then_r ?_
    refine then_r ?_
    refine blk_r ?_
    refine then_r ?_
    refine then_r ?_
    subst h
    exact f_ret S Tryd.results37 rfl rfl
   ·replace h := iteF h hb1
    refine wp_skip ?_
    refine blk_n ?_
    refine then_n ?_
    refine f_region ?_
    refine lv S (rn_add (S.tm rfl) rfl) rfl ?_; clear S; intro a S
    refine lv S (rn_move (S.tm rfl)) rfl ?_; clear S; intro a S
    refine l_done ?_
    replace S := S.nk [] [(3, .int .i64 0), (6, v_p_vals), (7, .int .i64 (p_vals.length : Int)), (8, .int .i64 (W ((i1 : Int) + 1)))] [] rfl ⟨rfl, rfl, rfl, rfl, trivial⟩
    refine then_n ?_
    exact ⟨ys1, ⟨i1 + 1, ⟨_, (hd1).trans (List.append_cons _ _ _), by simp [hi1]⟩, h, S.nf [] rfl ⟨rfl, rfl, rfl, (congrArg (fun z => some (Value.int .i64 z)) (rng_next hd1 hi1 (slc_max hs_p_vals))), trivial⟩⟩, Nat.lt_succ_self _⟩
 clear S h; rintro a w2 ⟨h, S⟩; rw [hj1] at h; clear hj1 j1
 refine then_n ?_
 refine f_seq ?_
 refine f_region ?_
 refine lv S (rn_move (S.tm rfl)) rfl ?_; clear S; intro a S
 refine lv S (rn_assign (S.tm rfl)) rfl ?_; clear S; intro a S
 refine l_done ?_
 replace S := S.nk [] [(2, .int .i64 0)] [] rfl ⟨rfl, trivial⟩
 refine then_n ?_
 refine wp_ret ?_
 subst h
 exact f_ret S Tryd.results37 rfl rfl
set_option maxRecDepth 20000 in
theorem swimmer_CheckMoves_ok (w : World) (v_p_l : Value) (p_l : List GMove) (hs_p_l : Slc (view w []) 3 v_p_l (p_l.map GMove.enc)) (r : Int) (h : swimmer_CheckMoves p_l = some r) :
    Calls Tryd.prog 22 [v_p_l].toArray w (Ret w [] fun _ v _ => v = .int .i64 r) := by
 refine f_enter [] [] Tryd.func22 rfl Tryd.ntmps22 rfl (by simp) (by simp [fps]) (by simp [fps]) fun a S => ?_
 unfold swimmer_CheckMoves at h
 replace S := S.nk [] [(0, v_p_l)] [] rfl ⟨rfl, trivial⟩
 refine f_seq ?_
 refine f_region ?_
 refine lv S (rn_assign rfl) rfl ?_; clear S; intro a S
 refine l_done ?_
 replace S := S.nk [] [(0, v_p_l)] [] rfl ⟨rfl, trivial⟩
 refine then_n ?_
 refine f_seq ?_
 refine f_seq ?_
 refine f_region ?_
 refine lv S (rn_move (S.tm rfl)) rfl ?_; clear S; intro a S
 refine lv S (rn_lenT sl_26 (S.tm rfl) (slc_len hs_p_l)) rfl ?_; clear S; intro a S
 refine lv S (rn_gtr (S.tm rfl) rfl) rfl ?_; clear S; intro a S
 refine l_done ?_
 replace S := S.nk [] [(0, v_p_l), (8, .bool (decide (1000 < (p_l.length : Int))))] [] rfl ⟨rfl, rfl, trivial⟩
 refine then_n ?_
 refine f_cond (S.tm rfl) (fun hb1 => ?_) (fun hb1 => ?_)
 ·replace h := iteT h hb1
  refine f_seq ?_
  refine f_region ?_
  refine lv S (rn_assign rfl) rfl ?_; clear S; intro a S
  refine l_done ?_
  replace S := S.nk [] [(2, .int .i64 2)] [] rfl ⟨rfl, trivial⟩
  refine then_n ?_
  refine wp_ret ?_
  refine then_r ?_
  obtain rfl := Option.some.inj h
  exact f_ret S Tryd.results22 rfl rfl
 ·replace h := iteF h hb1
  refine wp_skip ?_
  refine then_n ?_
  refine f_seq ?_
  refine f_seq ?_
  refine f_region ?_
  refine lv S (rn_move (S.tm rfl)) rfl ?_; clear S; intro a S
  refine lv S (rn_lenT sl_26 (S.tm rfl) (slc_len hs_p_l)) rfl ?_; clear S; intro a S
  refine lv S (rn_move rfl) rfl ?_; clear S; intro a S
  refine l_done ?_
  replace S := S.nk [] [(0, v_p_l), (9, v_p_l), (10, .int .i64 (p_l.length : Int)), (11, .int .i64 0)] [] rfl ⟨rfl, rfl, rfl, rfl, trivial⟩
  refine then_n ?_
  obtain ⟨j1, hj1, h⟩ := joinE h
  refine f_join (fun a w' => j1 = some r ∧ Sx w [] nov [] [] 97 a w') ?_ ?_
  ·refine wp_block ?_
   refine f_loop (fun (ys1 : List GMove) a w' => ∃ i1 : Nat, (∃ dn, p_l = dn ++ ys1 ∧ dn.length = i1) ∧ swimmer_CheckMoves_l1 p_l j1 ys1 i1 = some r ∧ Sx w [] nov [] [(0, v_p_l), (9, v_p_l), (10, .int .i64 (p_l.length : Int)), (11, .int .i64 (i1 : Int))] 97 a w') List.length p_l ⟨0, ⟨[], rfl, rfl⟩, h, S.nf [] rfl ⟨rfl, rfl, rfl, rfl, trivial⟩⟩ ?_
   clear S h; rintro ys1 a w1 ⟨i1, ⟨dn, hd1, hi1⟩, h, S⟩
   cases ys1 with
   | nil =>
    rw [swimmer_CheckMoves_l1.eq_1] at h
    refine f_seq ?_
    refine f_region ?_
    refine lv S (rn_lss (S.tm rfl) (S.tm rfl)) rfl ?_; clear S; intro a S
    refine l_done ?_
    replace S := S.nk [] [(0, v_p_l), (9, v_p_l), (10, .int .i64 (p_l.length : Int)), (11, .int .i64 (i1 : Int)), (12, .bool (decide ((i1 : Int) < (p_l.length : Int))))] [] rfl ⟨rfl, rfl, rfl, rfl, rfl, trivial⟩
    refine then_n ?_
    refine f_seq ?_
    refine wp_cond_false ((S.tm rfl).trans (congrArg Value.bool (rng_nil hd1 hi1))) ?_
    refine wp_exit ?_
    refine then_x ?_
    refine then_x ?_
    refine x_same ?_
    refine then_n ?_
    exact ⟨h, S.nf [] rfl trivial⟩
   | cons y1 ys1 =>
    rw [swimmer_CheckMoves_l1.eq_2] at h
    refine f_seq ?_
    refine f_region ?_
    refine lv S (rn_lss (S.tm rfl) (S.tm rfl)) rfl ?_; clear S; intro a S
    refine l_done ?_
    replace S := S.nk [] [(0, v_p_l), (9, v_p_l), (10, .int .i64 (p_l.length : Int)), (11, .int .i64 (i1 : Int)), (12, .bool (decide ((i1 : Int) < (p_l.length : Int))))] [] rfl ⟨rfl, rfl, rfl, rfl, rfl, trivial⟩
    refine then_n ?_
    refine f_seq ?_
    refine wp_cond_true ((S.tm rfl).trans (congrArg Value.bool (rng_cons hd1 hi1))) ?_
    refine wp_skip ?_
    refine then_n ?_
    refine f_seq ?_
    refine wp_block ?_
    refine f_seq ?_
    refine f_region ?_
    refine lv S (rn_move (S.tm rfl)) rfl ?_; clear S; intro a S
    obtain ⟨b1, o1, hm1, hr1⟩ := rn_indexT (a := a) (x := .tmp 9) (y := .tmp 11) (ty := 0) sl_26 hs_p_l (get_mid hd1 hi1) rfl (S.tm rfl) (S.tm rfl)
    refine lv S (hr1 _) rfl ?_; clear S; intro a S
    clear hr1
    refine lv S (rn_ldA Tryd.isAgg42 Tryd.sizeOf42 (off := o1) (o := 0) (part := [.string y1.Who, .string y1.Club, .int .i64 y1.Day]) rfl rfl (S.tm rfl) (hm1.at S.emb0)) rfl ?_; clear S; intro a S
    refine l_alloc S Tryd.zeroValue42 (cs := [.string k_empty, .string k_empty, .int .i64 0]) rfl rfl ?_; clear S; intro a w3 b2 hz1 hk1 S
    refine lv S (rn_assign (S.tm rfl)) rfl ?_; clear S; intro a S
    refine l_store S (S.tm rfl) (S.tm rfl) (i := 0) (off := 0) rfl Tryd.sizeOf42 (vs := [.string y1.Who, .string y1.Club, .int .i64 y1.Day]) rfl rfl rfl rfl ?_; clear S; intro w4 hk2 S
    refine l_done ?_
    replace S := S.nk [.blk b2 [.string y1.Who, .string y1.Club, .int .i64 y1.Day] 42] [(0, v_p_l), (3, .int .i64 (i1 : Int)), (4, .pointer (some ⟨b2, 0, none⟩)), (9, v_p_l), (10, .int .i64 (p_l.length : Int)), (11, .int .i64 (i1 : Int))] [true] rfl ⟨rfl, rfl, rfl, rfl, rfl, rfl, trivial⟩
    refine then_n ?_
    refine f_seq ?_
    refine d_region [] ([]) Tryd.mixed S rfl (by kernel_rfl) ?_; clear S; intro w5 hk3 hsel S
    refine d_rest [0, 1, 2, 3, 4, 5, 6, 7, 8, 9, 10, 11, 12, 13] hsel (by kernel_rfl) rfl ?_
    clear hsel
    refine s_lv S rfl (rn_move (S.tm rfl)) rfl ?_; clear S; intro a S
    refine s_lv S rfl (rn_eql (S.tm rfl) rfl) rfl ?_; clear S; intro a S
    refine s_lv S rfl (rn_move (S.tm rfl)) rfl ?_; clear S; intro a S
    obtain ⟨j2, hj2, h⟩ := joinE h
    refine s_cutm 10 (fun a w' => ∃ c1, j2 c1 = some r ∧ Keep [] w5 w' ∧ Sx w [] nov [.blk b2 [.string y1.Who, .string y1.Club, .int .i64 y1.Day] 42] [(0, v_p_l), (3, .int .i64 (i1 : Int)), (4, .pointer (some ⟨b2, 0, none⟩)), (9, v_p_l), (10, .int .i64 (p_l.length : Int)), (11, .int .i64 (i1 : Int)), (28, .bool c1)] 97 a w') ?_ ?_
    ·rcases Bool.eq_false_or_eq_true (decide ((i1 : Int) = 0)) with hb2 | hb2
     ·replace h := iteT h hb2
      refine s_skip S rfl rfl rfl rfl (neq_t hb2) rfl ?_ rfl; clear S; intro a S
      refine s_skip S rfl rfl rfl rfl (neq_t hb2) rfl ?_ rfl; clear S; intro a S
      refine s_skip S rfl rfl rfl rfl (neq_t hb2) rfl ?_ rfl; clear S; intro a S
      refine s_skip S rfl rfl rfl rfl (neq_t hb2) rfl ?_ rfl; clear S; intro a S
      refine s_skip S rfl rfl rfl rfl (neq_t hb2) rfl ?_ rfl; clear S; intro a S
      refine s_skip S rfl rfl rfl rfl (neq_t hb2) rfl ?_ rfl; clear S; intro a S
      refine s_skip S rfl rfl rfl rfl (neq_t hb2) rfl ?_ rfl; clear S; intro a S
      refine s_skip S rfl rfl rfl rfl (neq_t hb2) rfl ?_ rfl; clear S; intro a S
      refine s_skip S rfl rfl rfl rfl (neq_t hb2) rfl ?_ rfl; clear S; intro a S
      refine s_lv S rfl (rn_or_t true hb2 (S.tm rfl) rfl) rfl ?_; clear S; intro a S
      refine s_done ?_
      exact ⟨_, h, Keep.refl _ _, S.nf [true] rfl ⟨rfl, rfl, rfl, rfl, rfl, rfl, rfl, trivial⟩⟩
     ·replace h := iteF h hb2
      refine s_want S rfl rfl rfl rfl hb2 ?_
      refine s_lv0 S (rn_move (S.tm rfl)) rfl ?_; clear S; intro a S
      refine s_want S rfl rfl rfl rfl hb2 ?_
      refine s_lv0 S (rn_move (S.tm rfl)) rfl ?_; clear S; intro a S
      refine s_want S rfl rfl rfl rfl hb2 ?_
      refine s_lv0 S (rn_sub (S.tm rfl) rfl) rfl ?_; clear S; intro a S
      refine s_want S rfl rfl rfl rfl hb2 ?_
      obtain ⟨hc1, h⟩ := chkE h
      obtain ⟨b3, o2, hm2, hr2⟩ := rn_indexT (a := a) (x := .tmp 19) (y := .tmp 21) (ty := 0) sl_26 hs_p_l (inB_get hc1).1 (inB_get hc1).2 (S.tm rfl) (S.tm rfl)
      refine s_lv0 S (hr2 _) rfl ?_; clear S; intro a S
      clear hr2
      refine s_want S rfl rfl rfl rfl hb2 ?_
      refine s_lv0 S (rn_fld fa_42_0 (S.tm rfl)) rfl ?_; clear S; intro a S
      refine s_want S rfl rfl rfl rfl hb2 ?_
      refine s_lv0 S (rn_ld Tryd.isAgg9 (off := o2) (o := 0) (S.tm rfl) (hm2.at S.emb0) rfl) rfl ?_; clear S; intro a S
      refine s_want S rfl rfl rfl rfl hb2 ?_
      refine s_lv0 S (rn_fld fa_42_0 (S.tm rfl)) rfl ?_; clear S; intro a S
      refine s_want S rfl rfl rfl rfl hb2 ?_
      refine s_lv0 S (rn_load Tryd.isAgg9 (S.tm rfl) (S.cell (i := 0) rfl rfl)) rfl ?_; clear S; intro a S
      refine s_want S rfl rfl rfl rfl hb2 ?_
      refine s_lv0 S (rn_sneq (S.tm rfl) (S.tm rfl)) rfl ?_; clear S; intro a S
      refine s_lv S rfl (rn_or_f hb2 (S.tm rfl) (S.tm rfl)) rfl ?_; clear S; intro a S
      refine s_done ?_
      exact ⟨_, h, Keep.refl _ _, S.nf [true] rfl ⟨rfl, rfl, rfl, rfl, rfl, rfl, rfl, trivial⟩⟩
    clear S h; rintro a w6 ⟨c1, h, hk4, S⟩; rw [hj2] at h; clear hj2 j2
    refine s_lv S rfl (rn_assign (S.tm rfl)) rfl ?_; clear S; intro a S
    refine s_done ?_
    replace S := S.nk [.blk b2 [.string y1.Who, .string y1.Club, .int .i64 y1.Day] 42] [(0, v_p_l), (3, .int .i64 (i1 : Int)), (4, .pointer (some ⟨b2, 0, none⟩)), (5, .bool c1), (9, v_p_l), (10, .int .i64 (p_l.length : Int)), (11, .int .i64 (i1 : Int))] [true] rfl ⟨rfl, rfl, rfl, rfl, rfl, rfl, rfl, trivial⟩
    refine then_n ?_
    refine wp_block ?_
    refine f_seq ?_
    refine f_region ?_
    refine lv S (rn_fld fa_42_0 (S.tm rfl)) rfl ?_; clear S; intro a S
    refine lv S (rn_load Tryd.isAgg9 (S.tm rfl) (S.cell (i := 0) rfl rfl)) rfl ?_; clear S; intro a S
    obtain ⟨r1, hr3, h⟩ := bindE h
    refine l_enter S (fun _ => run_call (vs := [.string y1.Who]) ⟨(S.tm rfl), trivial⟩ Tryd.call23) (words_IsKey_ok _ y1.Who _ hr3) rfl ?_; clear S; intro v1 a w7 hv1 hk5 hn1 S
    subst hv1
    refine lv S (rn_not (S.tm rfl)) rfl ?_; clear S; intro a S
    refine lv S (rn_move (S.tm rfl)) rfl ?_; clear S; intro a S
    obtain ⟨j3, hj3, h⟩ := joinE h
    refine f_cutm 10 (fun a w' => ∃ c2, j3 c2 = some r ∧ Keep [] w7 w' ∧ Sx w [] nov [.blk b2 [.string y1.Who, .string y1.Club, .int .i64 y1.Day] 42] [(0, v_p_l), (3, .int .i64 (i1 : Int)), (4, .pointer (some ⟨b2, 0, none⟩)), (5, .bool c1), (9, v_p_l), (10, .int .i64 (p_l.length : Int)), (11, .int .i64 (i1 : Int)), (44, .bool c2)] 97 a w') ?_ ?_
    ·rcases Bool.eq_false_or_eq_true (!r1) with hb3 | hb3
     ·replace h := iteT h hb3
      refine l_skip S rfl rfl rfl (neq_t hb3) rfl ?_ rfl; clear S; intro a S
      refine l_skip S rfl rfl rfl (neq_t hb3) rfl ?_ rfl; clear S; intro a S
      refine l_skip S rfl rfl rfl (neq_t hb3) rfl ?_ rfl; clear S; intro a S
      refine l_skip S rfl rfl rfl (neq_t hb3) rfl ?_ rfl; clear S; intro a S
      refine l_skipU S rfl rfl rfl rfl ?_; clear S; intro a S
      refine l_skipU S rfl rfl rfl rfl ?_; clear S; intro a S
      refine l_skipU S rfl rfl rfl rfl ?_; clear S; intro a S
      refine l_skipU S rfl rfl rfl rfl ?_; clear S; intro a S
      refine l_skip S rfl rfl rfl (neq_t hb3) rfl ?_ rfl; clear S; intro a S
      refine lv S (rn_or_t true hb3 (S.tm rfl) rfl) rfl ?_; clear S; intro a S
      refine l_done ?_
      refine then_n ?_
      exact ⟨_, h, Keep.refl _ _, S.nf [true] rfl ⟨rfl, rfl, rfl, rfl, rfl, rfl, rfl, rfl, trivial⟩⟩
     ·replace h := iteF h hb3
      refine l_want S rfl rfl rfl hb3 ?_
      refine lv S (rn_fld fa_42_1 (S.tm rfl)) rfl ?_; clear S; intro a S
      refine l_want S rfl rfl rfl hb3 ?_
      refine lv S (rn_load Tryd.isAgg9 (S.tm rfl) (S.cell (i := 0) rfl rfl)) rfl ?_; clear S; intro a S
      refine l_want S rfl rfl rfl hb3 ?_
      refine lv S (rn_sneq (S.tm rfl) rfl) rfl ?_; clear S; intro a S
      refine l_want S rfl rfl rfl hb3 ?_
      refine lv S (rn_move (S.tm rfl)) rfl ?_; clear S; intro a S
      obtain ⟨j4, hj4, h⟩ := joinE h
      refine f_cutm 5 (fun a w' => ∃ c3, j4 c3 = some r ∧ Keep [] w7 w' ∧ Sx w [] nov [.blk b2 [.string y1.Who, .string y1.Club, .int .i64 y1.Day] 42] [(0, v_p_l), (3, .int .i64 (i1 : Int)), (4, .pointer (some ⟨b2, 0, none⟩)), (5, .bool c1), (9, v_p_l), (10, .int .i64 (p_l.length : Int)), (11, .int .i64 (i1 : Int)), (34, .bool (!r1)), (35, .pointer (some ⟨b2, 1, none⟩)), (36, .string y1.Club), (37, .bool (!decide (y1.Club = k_empty))), (38, .bool (!decide (y1.Club = k_empty))), (43, .bool c3)] 97 a w') ?_ ?_
      ·rcases Bool.eq_false_or_eq_true (!decide (y1.Club = k_empty)) with hb4 | hb4
       ·replace h := iteT h hb4
        refine l_want S rfl rfl rfl hb4 ?_
        refine lv S (rn_fld fa_42_1 (S.tm rfl)) rfl ?_; clear S; intro a S
        refine l_want S rfl rfl rfl hb4 ?_
        refine lv S (rn_load Tryd.isAgg9 (S.tm rfl) (S.cell (i := 0) rfl rfl)) rfl ?_; clear S; intro a S
        refine l_want S rfl rfl rfl hb4 ?_
        obtain ⟨r2, hr4, h⟩ := bindE h
        refine l_enter S (fun _ => run_call (vs := [.string y1.Club]) ⟨(S.tm rfl), trivial⟩ Tryd.call23) (words_IsKey_ok _ y1.Club _ hr4) rfl ?_; clear S; intro v2 a w10 hv2 hk6 hn2 S
        subst hv2
        refine l_want S rfl rfl rfl hb4 ?_
        refine lv S (rn_not (S.tm rfl)) rfl ?_; clear S; intro a S
        refine l_want S rfl rfl rfl hb3 ?_
        refine lv S (rn_and_t hb4 (S.tm rfl) (S.tm rfl)) rfl ?_; clear S; intro a S
        refine l_done ?_
        refine then_n ?_
        exact ⟨_, h, hk6, S.nf [true] rfl ⟨rfl, rfl, rfl, rfl, rfl, rfl, rfl, rfl, rfl, rfl, rfl, rfl, rfl, trivial⟩⟩
       ·replace h := iteF h hb4
        refine l_skip S rfl rfl rfl (neq_f hb4) rfl ?_ rfl; clear S; intro a S
        refine l_skip S rfl rfl rfl (neq_f hb4) rfl ?_ rfl; clear S; intro a S
        refine l_skip S rfl rfl rfl (neq_f hb4) rfl ?_ rfl; clear S; intro a S
        refine l_skip S rfl rfl rfl (neq_f hb4) rfl ?_ rfl; clear S; intro a S
        refine l_want S rfl rfl rfl hb3 ?_
        refine lv S (rn_and_f true hb4 (S.tm rfl) rfl) rfl ?_; clear S; intro a S
        refine l_done ?_
        refine then_n ?_
        exact ⟨_, h, Keep.refl _ _, S.nf [true] rfl ⟨rfl, rfl, rfl, rfl, rfl, rfl, rfl, rfl, rfl, rfl, rfl, rfl, rfl, trivial⟩⟩
      clear S h; rintro a w9 ⟨c3, h, hk7, S⟩; rw [hj4] at h; clear hj4 j4
      refine lv S (rn_or_f hb3 (S.tm rfl) (S.tm rfl)) rfl ?_; clear S; intro a S
      refine l_done ?_
      refine then_n ?_
      exact ⟨_, h, hk7, S.nf [true] rfl ⟨rfl, rfl, rfl, rfl, rfl, rfl, rfl, rfl, trivial⟩⟩
    clear S h; rintro a w8 ⟨c2, h, hk8, S⟩; rw [hj3] at h; clear hj3 j3
    refine lv S (rn_assign (S.tm rfl)) rfl ?_; clear S; intro a S
    refine l_done ?_
    replace S := S.nk [.blk b2 [.string y1.Who, .string y1.Club, .int .i64 y1.Day] 42] [(0, v_p_l), (3, .int .i64 (i1 : Int)), (4, .pointer (some ⟨b2, 0, none⟩)), (5, .bool c1), (9, v_p_l), (10, .int .i64 (p_l.length : Int)), (11, .int .i64 (i1 : Int)), (29, .bool c2)] [true] rfl ⟨rfl, rfl, rfl, rfl, rfl, rfl, rfl, rfl, trivial⟩
    refine then_n ?_
    refine f_cond (S.tm rfl) (fun hb5 => ?_) (fun hb5 => ?_)
    ·replace h := iteT h hb5
     refine f_seq ?_
     refine f_region ?_
     refine lv S (rn_assign rfl) rfl ?_; clear S; intro a S
     refine l_done ?_
     replace S := S.nk [] [(2, .int .i64 5)] [false] rfl ⟨rfl, trivial⟩
     refine then_n ?_
     refine wp_ret ?_
     refine blk_r ?_
     refine blk_r ?_
     refine then_r ?_
     refine then_r ?_
     refine blk_r ?_
     refine then_r ?_
     refine then_r ?_
     obtain rfl := Option.some.inj h
     exact f_ret S Tryd.results22 rfl rfl
    ·replace h := iteF h hb5
     refine f_seq ?_
     refine f_region ?_
     refine lv S (rn_fld fa_42_2 (S.tm rfl)) rfl ?_; clear S; intro a S
     refine lv S (rn_load Tryd.isAgg3 (S.tm rfl) (S.cell (i := 0) rfl rfl)) rfl ?_; clear S; intro a S
     refine l_enter S (fun _ => run_call (vs := [.int .i64 y1.Day]) ⟨(S.tm rfl), trivial⟩ Tryd.call24) (swimmer_isDay_ok _ y1.Day _ rfl) rfl ?_; clear S; intro v3 a w11 hv3 hk9 hn3 S
     subst hv3
     refine lv S (rn_not (S.tm rfl)) rfl ?_; clear S; intro a S
     refine lv S (rn_assign (S.tm rfl)) rfl ?_; clear S; intro a S
     refine l_done ?_
     replace S := S.nk [.blk b2 [.string y1.Who, .string y1.Club, .int .i64 y1.Day] 42] [(0, v_p_l), (3, .int .i64 (i1 : Int)), (4, .pointer (some ⟨b2, 0, none⟩)), (5, .bool c1), (9, v_p_l), (10, .int .i64 (p_l.length : Int)), (11, .int .i64 (i1 : Int)), (45, .bool (!(swimmer_isDay y1.Day)))] [true] rfl ⟨rfl, rfl, rfl, rfl, rfl, rfl, rfl, rfl, trivial⟩
     refine then_n ?_
     refine f_cond (S.tm rfl) (fun hb6 => ?_) (fun hb6 => ?_)
     ·replace h := iteT h hb6
      refine f_seq ?_
      refine f_region ?_
      refine lv S (rn_assign rfl) rfl ?_; clear S; intro a S
      refine l_done ?_
      replace S := S.nk [] [(2, .int .i64 1)] [false] rfl ⟨rfl, trivial⟩
      refine then_n ?_
      refine wp_ret ?_
      refine blk_r ?_
      refine blk_r ?_
      refine then_r ?_
      refine then_r ?_
      refine blk_r ?_
      refine then_r ?_
      refine then_r ?_
      obtain rfl := Option.some.inj h
      exact f_ret S Tryd.results22 rfl rfl
     ·replace h := iteF h hb6
      refine f_seq ?_
      obtain ⟨j5, hj5, h⟩ := joinE h
      refine f_join (fun a w' => ∃ x1 : Bool, j5 x1 = some r ∧ Sx w [] nov [.blk b2 [.string y1.Who, .string y1.Club, .int .i64 y1.Day] 42] [(0, v_p_l), (3, .int .i64 (i1 : Int)), (4, .pointer (some ⟨b2, 0, none⟩)), (5, .bool c1), (9, v_p_l), (10, .int .i64 (p_l.length : Int)), (11, .int .i64 (i1 : Int)), (50, .bool x1)] 97 a w') ?_ ?_
      ·rcases Bool.eq_false_or_eq_true (decide (0 < (i1 : Int))) with hb7 | hb7
       ·replace h := iteT h hb7
        obtain ⟨hc2, h⟩ := chkE h
        obtain ⟨hc3, h⟩ := chkE h
        refine d_region [] ([]) Tryd.mixed S rfl (by kernel_rfl) ?_; clear S; intro w17 hk14 hsel S
        refine d_quiet 0 S hsel rfl rfl rfl (by kernel_rfl) (by kernel_rfl) rfl (fun _ hw => (rn_move (S.tm rfl))) ?_; clear S; intro a S
        refine d_quiet 1 S hsel rfl rfl rfl (by kernel_rfl) (by kernel_rfl) rfl (fun _ hw => (rn_gtr (S.tm rfl) rfl)) ?_; clear S; intro a S
        refine d_quiet 2 S hsel rfl rfl rfl (by kernel_rfl) (by kernel_rfl) rfl (fun _ hw => (rn_move (S.tm rfl))) ?_; clear S; intro a S
        refine d_quiet_g 3 S hsel rfl rfl rfl rfl hb7 rfl rfl (by kernel_rfl) (by kernel_rfl) rfl (fun _ hw => (rn_move (S.tm rfl))) ?_; clear S; intro a S
        refine d_quiet_g 4 S hsel rfl rfl rfl rfl hb7 rfl rfl (by kernel_rfl) (by kernel_rfl) rfl (fun _ hw => (rn_move (S.tm rfl))) ?_; clear S; intro a S
        refine d_quiet_g 5 S hsel rfl rfl rfl rfl hb7 rfl rfl (by kernel_rfl) (by kernel_rfl) rfl (fun _ hw => (rn_sub (S.tm rfl) rfl)) ?_; clear S; intro a S
        obtain ⟨b7, o5, hm5, hr7⟩ := rn_indexT (a := a) (x := .tmp 54) (y := .tmp 56) (ty := 0) sl_26 (hs_p_l.mono (S.le_arg nil_sub)) (inB_get hc2).1 (inB_get hc2).2 (S.tm rfl) (S.tm rfl)
        refine d_quiet_g 6 S hsel rfl rfl rfl rfl hb7 rfl rfl (by kernel_rfl) (by kernel_rfl) rfl (fun _ hw => hr7 _) ?_; clear S; intro a S
        clear hr7
        refine d_quiet_g 7 S hsel rfl rfl rfl rfl hb7 rfl rfl (by kernel_rfl) (by kernel_rfl) rfl (fun _ hw => (rn_fld fa_42_0 (S.tm rfl))) ?_; clear S; intro a S
        refine d_quiet_g 8 S hsel rfl rfl rfl rfl hb7 rfl rfl (by kernel_rfl) (by kernel_rfl) rfl (fun _ hw => (rn_ld Tryd.isAgg9 (off := o5) (o := 0) (S.tm rfl) (hm5.kept hw) rfl)) ?_; clear S; intro a S
        refine d_quiet_g 9 S hsel rfl rfl rfl rfl hb7 rfl rfl (by kernel_rfl) (by kernel_rfl) rfl (fun _ hw => (rn_fld fa_42_0 (S.tm rfl))) ?_; clear S; intro a S
        refine d_quiet_g 10 S hsel rfl rfl rfl rfl hb7 rfl rfl (by kernel_rfl) (by kernel_rfl) rfl (fun _ hw => (rn_ld Tryd.isAgg9 (off := 0) (o := 0) (S.tm rfl) ((S.blk_mem (i := 0) (cells := [.string y1.Who, .string y1.Club, .int .i64 y1.Day]) (b := b2) (T := 42) rfl (ne_nil (e' := .blk b2 [.string y1.Who, .string y1.Club, .int .i64 y1.Day] 42))).kept hw) rfl)) ?_; clear S; intro a S
        refine d_quiet_g 12 S hsel rfl rfl rfl rfl hb7 rfl rfl (by kernel_rfl) (by kernel_rfl) rfl (fun _ hw => (rn_move (S.tm rfl))) ?_; clear S; intro a S
        refine d_quiet_g 13 S hsel rfl rfl rfl rfl hb7 rfl rfl (by kernel_rfl) (by kernel_rfl) rfl (fun _ hw => (rn_move (S.tm rfl))) ?_; clear S; intro a S
        refine d_quiet_g 14 S hsel rfl rfl rfl rfl hb7 rfl rfl (by kernel_rfl) (by kernel_rfl) rfl (fun _ hw => (rn_sub (S.tm rfl) rfl)) ?_; clear S; intro a S
        obtain ⟨b8, o6, hm6, hr8⟩ := rn_indexT (a := a) (x := .tmp 63) (y := .tmp 65) (ty := 0) sl_26 (hs_p_l.mono (S.le_arg nil_sub)) (inB_get hc3).1 (inB_get hc3).2 (S.tm rfl) (S.tm rfl)
        refine d_quiet_g 15 S hsel rfl rfl rfl rfl hb7 rfl rfl (by kernel_rfl) (by kernel_rfl) rfl (fun _ hw => hr8 _) ?_; clear S; intro a S
        clear hr8
        refine d_quiet_g 16 S hsel rfl rfl rfl rfl hb7 rfl rfl (by kernel_rfl) (by kernel_rfl) rfl (fun _ hw => (rn_fld fa_42_2 (S.tm rfl))) ?_; clear S; intro a S
        refine d_quiet_g 17 S hsel rfl rfl rfl rfl hb7 rfl rfl (by kernel_rfl) (by kernel_rfl) rfl (fun _ hw => (rn_ld Tryd.isAgg3 (off := o6) (o := 2) (S.tm rfl) (hm6.kept hw) rfl)) ?_; clear S; intro a S
        refine d_quiet_g 18 S hsel rfl rfl rfl rfl hb7 rfl rfl (by kernel_rfl) (by kernel_rfl) rfl (fun _ hw => (rn_fld fa_42_2 (S.tm rfl))) ?_; clear S; intro a S
        refine d_quiet_g 19 S hsel rfl rfl rfl rfl hb7 rfl rfl (by kernel_rfl) (by kernel_rfl) rfl (fun _ hw => (rn_ld Tryd.isAgg3 (off := 0) (o := 2) (S.tm rfl) ((S.blk_mem (i := 0) (cells := [.string y1.Who, .string y1.Club, .int .i64 y1.Day]) (b := b2) (T := 42) rfl (ne_nil (e' := .blk b2 [.string y1.Who, .string y1.Club, .int .i64 y1.Day] 42))).kept hw) rfl)) ?_; clear S; intro a S
        refine d_loud1 11 (by kernel_rfl) rfl ?_
        refine l_want S rfl rfl rfl hb7 ?_
        refine l_enter S (fun _ => run_call (vs := [.string ((nth p_l (W ((i1 : Int) - 1))).Who), .string y1.Who]) ⟨(S.tm rfl), (S.tm rfl), trivial⟩ Tryd.call38) (strings_Compare_ok _ ((nth p_l (W ((i1 : Int) - 1))).Who) y1.Who _ rfl) rfl ?_; clear S; intro v7 a w18 hv7 hk15 hn7 S
        subst hv7
        refine l_done ?_
        refine d_next hk15 ?_
        refine d_loud1 20 (by kernel_rfl) rfl ?_
        refine l_want S rfl rfl rfl hb7 ?_
        refine l_enter S (fun _ => run_call (vs := [.int .i64 ((nth p_l (W ((i1 : Int) - 1))).Day), .int .i64 y1.Day]) ⟨(S.tm rfl), (S.tm rfl), trivial⟩ Tryd.call39) (cmp_Compare_int_ok _ ((nth p_l (W ((i1 : Int) - 1))).Day) y1.Day _ rfl) rfl ?_; clear S; intro v8 a w19 hv8 hk16 hn8 S
        subst hv8
        refine l_done ?_
        refine d_next hk16 ?_
        refine d_loud1 21 (by kernel_rfl) rfl ?_
        refine l_want S rfl rfl rfl hb7 ?_
        refine l_buildSlice S Tryd.underlying22 Tryd.sizeOf3 Tryd.zeroValue3 rfl rfl (pv := [(0, .int .i64 (strings_Compare ((nth p_l (W ((i1 : Int) - 1))).Who) y1.Who)), (1, .int .i64 (cmp_Compare_int ((nth p_l (W ((i1 : Int) - 1))).Day) y1.Day))]) ⟨rfl, (S.tm rfl), rfl, (S.tm rfl), trivial⟩ (cs := [.int .i64 (strings_Compare ((nth p_l (W ((i1 : Int) - 1))).Who) y1.Who), .int .i64 (cmp_Compare_int ((nth p_l (W ((i1 : Int) - 1))).Day) y1.Day)]) (by kernel_rfl) rfl ?_; clear S; intro a w20 b9 hz3 hk17 S
        refine l_done ?_
        refine d_next hk17 ?_
        refine d_loud1 22 (by kernel_rfl) rfl ?_
        refine l_want S rfl rfl rfl hb7 ?_
        refine l_enter S (fun _ => run_call (vs := [.slice (some ⟨b9, 0, none⟩) 2 2]) ⟨(S.tm rfl), trivial⟩ Tryd.call37) (cmp_Or_int_ok _ (.slice (some ⟨b9, 0, none⟩) 2 2) [(strings_Compare ((nth p_l (W ((i1 : Int) - 1))).Who) y1.Who), (cmp_Compare_int ((nth p_l (W ((i1 : Int) - 1))).Day) y1.Day)] (lit_slcT enc_int S (i := 0) rfl rfl rfl rfl ((ne_nil (e' := .blk b9 [.int .i64 (strings_Compare ((nth p_l (W ((i1 : Int) - 1))).Who) y1.Who), .int .i64 (cmp_Compare_int ((nth p_l (W ((i1 : Int) - 1))).Day) y1.Day)] 3)) _ rfl)) _ rfl) rfl ?_; clear S; intro v9 a w21 hv9 hk18 hn9 S
        subst hv9
        refine l_done ?_
        refine d_next hk18 ?_
        refine d_rest [23, 24, 25] hsel (by kernel_rfl) rfl ?_
        clear hsel
        refine s_want S rfl rfl rfl rfl hb7 ?_
        refine s_lv0 S (rn_geq (S.tm rfl) rfl) rfl ?_; clear S; intro a S
        refine s_lv S rfl (rn_pick_b hb7 (S.tm rfl) (S.tm rfl)) rfl ?_; clear S; intro a S
        refine s_lv S rfl (rn_assign (S.tm rfl)) rfl ?_; clear S; intro a S
        refine s_done ?_
        replace S := S.nk [.blk b9 [.int .i64 (strings_Compare ((nth p_l (W ((i1 : Int) - 1))).Who) y1.Who), .int .i64 (cmp_Compare_int ((nth p_l (W ((i1 : Int) - 1))).Day) y1.Day)] 3, .blk b2 [.string y1.Who, .string y1.Club, .int .i64 y1.Day] 42] [(0, v_p_l), (3, .int .i64 (i1 : Int)), (4, .pointer (some ⟨b2, 0, none⟩)), (5, .bool c1), (9, v_p_l), (10, .int .i64 (p_l.length : Int)), (11, .int .i64 (i1 : Int)), (50, .bool (decide (0 ≤ (cmp_Or_int [(strings_Compare ((nth p_l (W ((i1 : Int) - 1))).Who) y1.Who), (cmp_Compare_int ((nth p_l (W ((i1 : Int) - 1))).Day) y1.Day)])))), (54, v_p_l), (55, .int .i64 (i1 : Int)), (56, .int .i64 (W ((i1 : Int) - 1))), (57, .pointer (some ⟨b7, o5, none⟩)), (58, .pointer (some ⟨b7, o5, none⟩)), (59, .string ((nth p_l (W ((i1 : Int) - 1))).Who)), (60, .pointer (some ⟨b2, 0, none⟩)), (61, .string y1.Who), (62, .int .i64 (strings_Compare ((nth p_l (W ((i1 : Int) - 1))).Who) y1.Who)), (63, v_p_l), (64, .int .i64 (i1 : Int)), (65, .int .i64 (W ((i1 : Int) - 1))), (66, .pointer (some ⟨b8, o6, none⟩)), (67, .pointer (some ⟨b8, o6 + 2, none⟩)), (68, .int .i64 ((nth p_l (W ((i1 : Int) - 1))).Day)), (69, .pointer (some ⟨b2, 2, none⟩)), (70, .int .i64 y1.Day), (71, .int .i64 (cmp_Compare_int ((nth p_l (W ((i1 : Int) - 1))).Day) y1.Day)), (72, .slice (some ⟨b9, 0, none⟩) 2 2), (73, .int .i64 (cmp_Or_int [(strings_Compare ((nth p_l (W ((i1 : Int) - 1))).Who) y1.Who), (cmp_Compare_int ((nth p_l (W ((i1 : Int) - 1))).Day) y1.Day)])), (74, .bool (decide (0 ≤ (cmp_Or_int [(strings_Compare ((nth p_l (W ((i1 : Int) - 1))).Who) y1.Who), (cmp_Compare_int ((nth p_l (W ((i1 : Int) - 1))).Day) y1.Day)]))))] [true, true] rfl ⟨rfl, rfl, rfl, rfl, rfl, rfl, rfl, rfl, rfl, rfl, rfl, rfl, rfl, rfl, rfl, rfl, rfl, rfl, rfl, rfl, rfl, rfl, rfl, rfl, rfl, rfl, rfl, rfl, rfl, trivial⟩
        refine then_n ?_
        exact ⟨decide (0 ≤ (cmp_Or_int [(strings_Compare ((nth p_l (W ((i1 : Int) - 1))).Who) y1.Who), (cmp_Compare_int ((nth p_l (W ((i1 : Int) - 1))).Day) y1.Day)])), h, S.nf [false, true] rfl ⟨rfl, rfl, rfl, rfl, rfl, rfl, rfl, rfl, trivial⟩⟩
       ·replace h := iteF h hb7
        refine d_region [] ([]) Tryd.mixed S rfl (by kernel_rfl) ?_; clear S; intro w22 hk19 hsel S
        refine d_rest [0, 1, 2, 3, 4, 5, 6, 7, 8, 9, 10, 11, 12, 13, 14, 15, 16, 17, 18, 19, 20, 21, 22, 23, 24, 25] hsel (by kernel_rfl) rfl ?_
        clear hsel
        refine s_lv S rfl (rn_move (S.tm rfl)) rfl ?_; clear S; intro a S
        refine s_lv S rfl (rn_gtr (S.tm rfl) rfl) rfl ?_; clear S; intro a S
        refine s_lv S rfl (rn_move (S.tm rfl)) rfl ?_; clear S; intro a S
        refine s_skip S rfl rfl rfl rfl (neq_f hb7) rfl ?_ rfl; clear S; intro a S
        refine s_skip S rfl rfl rfl rfl (neq_f hb7) rfl ?_ rfl; clear S; intro a S
        refine s_skip S rfl rfl rfl rfl (neq_f hb7) rfl ?_ rfl; clear S; intro a S
        refine s_skip S rfl rfl rfl rfl (neq_f hb7) rfl ?_ rfl; clear S; intro a S
        refine s_skip S rfl rfl rfl rfl (neq_f hb7) rfl ?_ rfl; clear S; intro a S
        refine s_skip S rfl rfl rfl rfl (neq_f hb7) rfl ?_ rfl; clear S; intro a S
        refine s_skip S rfl rfl rfl rfl (neq_f hb7) rfl ?_ rfl; clear S; intro a S
        refine s_skip S rfl rfl rfl rfl (neq_f hb7) rfl ?_ rfl; clear S; intro a S
        refine s_skip S rfl rfl rfl rfl (neq_f hb7) rfl ?_ rfl; clear S; intro a S
        refine s_skip S rfl rfl rfl rfl (neq_f hb7) rfl ?_ rfl; clear S; intro a S
        refine s_skip S rfl rfl rfl rfl (neq_f hb7) rfl ?_ rfl; clear S; intro a S
        refine s_skip S rfl rfl rfl rfl (neq_f hb7) rfl ?_ rfl; clear S; intro a S
        refine s_skip S rfl rfl rfl rfl (neq_f hb7) rfl ?_ rfl; clear S; intro a S
        refine s_skip S rfl rfl rfl rfl (neq_f hb7) rfl ?_ rfl; clear S; intro a S
        refine s_skip S rfl rfl rfl rfl (neq_f hb7) rfl ?_ rfl; clear S; intro a S
        refine s_skip S rfl rfl rfl rfl (neq_f hb7) rfl ?_ rfl; clear S; intro a S
        refine s_skip S rfl rfl rfl rfl (neq_f hb7) rfl ?_ rfl; clear S; intro a S
        refine s_skip S rfl rfl rfl rfl (neq_f hb7) rfl ?_ rfl; clear S; intro a S
        refine s_skip S rfl rfl rfl rfl (neq_f hb7) rfl ?_ rfl; clear S; intro a S
        refine s_skip S rfl rfl rfl rfl (neq_f hb7) rfl ?_ rfl; clear S; intro a S
        refine s_skip S rfl rfl rfl rfl (neq_f hb7) rfl ?_ rfl; clear S; intro a S
        refine s_lv S rfl (rn_pick_c hb7 (S.tm rfl) rfl) rfl ?_; clear S; intro a S
        refine s_lv S rfl (rn_assign (S.tm rfl)) rfl ?_; clear S; intro a S
        refine s_done ?_
        replace S := S.nk [.blk b2 [.string y1.Who, .string y1.Club, .int .i64 y1.Day] 42] [(0, v_p_l), (3, .int .i64 (i1 : Int)), (4, .pointer (some ⟨b2, 0, none⟩)), (5, .bool c1), (9, v_p_l), (10, .int .i64 (p_l.length : Int)), (11, .int .i64 (i1 : Int)), (50, .bool false)] [true] rfl ⟨rfl, rfl, rfl, rfl, rfl, rfl, rfl, rfl, trivial⟩
        refine then_n ?_
        exact ⟨false, h, S.nf [true] rfl ⟨rfl, rfl, rfl, rfl, rfl, rfl, rfl, rfl, trivial⟩⟩
      clear S h; rintro a w12 ⟨x1, h, S⟩; rw [hj5] at h; clear hj5 j5
      refine then_n ?_
      refine f_cond (S.tm rfl) (fun hb8 => ?_) (fun hb8 => ?_)
      ·replace h := iteT h hb8
       refine f_seq ?_
       refine f_region ?_
       refine lv S (rn_assign rfl) rfl ?_; clear S; intro a S
       refine l_done ?_
       replace S := S.nk [] [(2, .int .i64 7)] [false] rfl ⟨rfl, trivial⟩
       refine then_n ?_
       refine wp_ret ?_
       refine blk_r ?_
       refine blk_r ?_
       refine then_r ?_
       refine then_r ?_
       refine blk_r ?_
       refine then_r ?_
       refine then_r ?_
       obtain rfl := Option.some.inj h
       exact f_ret S Tryd.results22 rfl rfl
      ·replace h := iteF h hb8
       refine f_seq ?_
       refine f_seq ?_
       refine f_region ?_
       refine lv S (rn_move (S.tm rfl)) rfl ?_; clear S; intro a S
       refine lv S (rn_move (S.tm rfl)) rfl ?_; clear S; intro a S
       refine f_cutm 4 (fun a w' => Keep [] w12 w' ∧ Sx w [] nov [.blk b2 [.string y1.Who, .string y1.Club, .int .i64 y1.Day] 42] [(0, v_p_l), (3, .int .i64 (i1 : Int)), (4, .pointer (some ⟨b2, 0, none⟩)), (5, .bool c1), (9, v_p_l), (10, .int .i64 (p_l.length : Int)), (11, .int .i64 (i1 : Int)), (82, .bool (c1 && (decide (y1.Club = k_empty))))] 97 a w') ?_ ?_
       ·rcases Bool.eq_false_or_eq_true c1 with hb9 | hb9
        ·refine l_want S rfl rfl rfl hb9 ?_
         refine lv S (rn_fld fa_42_1 (S.tm rfl)) rfl ?_; clear S; intro a S
         refine l_want S rfl rfl rfl hb9 ?_
         refine lv S (rn_load Tryd.isAgg9 (S.tm rfl) (S.cell (i := 0) rfl rfl)) rfl ?_; clear S; intro a S
         refine l_want S rfl rfl rfl hb9 ?_
         refine lv S (rn_seql (S.tm rfl) rfl) rfl ?_; clear S; intro a S
         refine lv S (rn_and_t hb9 (S.tm rfl) (S.tm rfl)) rfl ?_; clear S; intro a S
         refine l_done ?_
         refine then_n ?_
         exact ⟨Keep.refl _ _, S.nf [true] rfl ⟨rfl, rfl, rfl, rfl, rfl, rfl, rfl, rfl, trivial⟩⟩
        ·refine l_skip S rfl rfl rfl (neq_f hb9) rfl ?_ rfl; clear S; intro a S
         refine l_skip S rfl rfl rfl (neq_f hb9) rfl ?_ rfl; clear S; intro a S
         refine l_skip S rfl rfl rfl (neq_f hb9) rfl ?_ rfl; clear S; intro a S
         refine lv S (rn_and_f (decide (y1.Club = k_empty)) hb9 (S.tm rfl) rfl) rfl ?_; clear S; intro a S
         refine l_done ?_
         refine then_n ?_
         exact ⟨Keep.refl _ _, S.nf [true] rfl ⟨rfl, rfl, rfl, rfl, rfl, rfl, rfl, rfl, trivial⟩⟩
       clear S; rintro a w23 ⟨hk20, S⟩
       refine lv S (rn_assign (S.tm rfl)) rfl ?_; clear S; intro a S
       refine l_done ?_
       replace S := S.nk [.blk b2 [.string y1.Who, .string y1.Club, .int .i64 y1.Day] 42] [(0, v_p_l), (3, .int .i64 (i1 : Int)), (4, .pointer (some ⟨b2, 0, none⟩)), (5, .bool c1), (9, v_p_l), (10, .int .i64 (p_l.length : Int)), (11, .int .i64 (i1 : Int)), (76, .bool (c1 && (decide (y1.Club = k_empty))))] [true] rfl ⟨rfl, rfl, rfl, rfl, rfl, rfl, rfl, rfl, trivial⟩
       refine then_n ?_
       obtain ⟨j6, hj6, h⟩ := joinE h
       refine f_join (fun a w' => ∃ x2 : Bool, j6 x2 = some r ∧ Sx w [] nov [] [(0, v_p_l), (9, v_p_l), (10, .int .i64 (p_l.length : Int)), (11, .int .i64 (i1 : Int)), (76, .bool x2)] 97 a w') ?_ ?_
       ·refine f_cond (S.tm rfl) (fun hb10 => ?_) (fun hb10 => ?_)
        ·replace h := iteT h hb10
         refine wp_skip ?_
         refine then_n ?_
         exact ⟨(c1 && (decide (y1.Club = k_empty))), h, S.nf [false] rfl ⟨rfl, rfl, rfl, rfl, rfl, trivial⟩⟩
        ·replace h := iteF h hb10
         refine d_region [] ([]) Tryd.mixed S rfl (by kernel_rfl) ?_; clear S; intro w25 hk21 hsel S
         refine d_rest [0, 1, 2, 3, 4, 5, 6, 7, 8, 9, 10, 11, 12, 13] hsel (by kernel_rfl) rfl ?_
         clear hsel
         refine s_lv S rfl (rn_move (S.tm rfl)) rfl ?_; clear S; intro a S
         refine s_lv S rfl (rn_not (S.tm rfl)) rfl ?_; clear S; intro a S
         refine s_lv S rfl (rn_move (S.tm rfl)) rfl ?_; clear S; intro a S
         obtain ⟨j7, hj7, h⟩ := joinE h
         refine s_cutm 10 (fun a w' => ∃ c4, j7 c4 = some r ∧ Keep [] w25 w' ∧ Sx w [] nov [.blk b2 [.string y1.Who, .string y1.Club, .int .i64 y1.Day] 42] [(0, v_p_l), (9, v_p_l), (10, .int .i64 (p_l.length : Int)), (11, .int .i64 (i1 : Int)), (95, .bool c4)] 97 a w') ?_ ?_
         ·rcases Bool.eq_false_or_eq_true (!c1) with hb11 | hb11
          ·replace h := iteT h hb11
           refine s_want S rfl rfl rfl rfl hb11 ?_
           refine s_lv0 S (rn_move (S.tm rfl)) rfl ?_; clear S; intro a S
           refine s_want S rfl rfl rfl rfl hb11 ?_
           refine s_lv0 S (rn_move (S.tm rfl)) rfl ?_; clear S; intro a S
           refine s_want S rfl rfl rfl rfl hb11 ?_
           refine s_lv0 S (rn_sub (S.tm rfl) rfl) rfl ?_; clear S; intro a S
           refine s_want S rfl rfl rfl rfl hb11 ?_
           obtain ⟨hc4, h⟩ := chkE h
           obtain ⟨b10, o7, hm7, hr9⟩ := rn_indexT (a := a) (x := .tmp 86) (y := .tmp 88) (ty := 0) sl_26 hs_p_l (inB_get hc4).1 (inB_get hc4).2 (S.tm rfl) (S.tm rfl)
           refine s_lv0 S (hr9 _) rfl ?_; clear S; intro a S
           clear hr9
           refine s_want S rfl rfl rfl rfl hb11 ?_
           refine s_lv0 S (rn_fld fa_42_1 (S.tm rfl)) rfl ?_; clear S; intro a S
           refine s_want S rfl rfl rfl rfl hb11 ?_
           refine s_lv0 S (rn_ld Tryd.isAgg9 (off := o7) (o := 1) (S.tm rfl) (hm7.at S.emb0) rfl) rfl ?_; clear S; intro a S
           refine s_want S rfl rfl rfl rfl hb11 ?_
           refine s_lv0 S (rn_fld fa_42_1 (S.tm rfl)) rfl ?_; clear S; intro a S
           refine s_want S rfl rfl rfl rfl hb11 ?_
           refine s_lv0 S (rn_load Tryd.isAgg9 (S.tm rfl) (S.cell (i := 0) rfl rfl)) rfl ?_; clear S; intro a S
           refine s_want S rfl rfl rfl rfl hb11 ?_
           refine s_lv0 S (rn_seql (S.tm rfl) (S.tm rfl)) rfl ?_; clear S; intro a S
           refine s_lv S rfl (rn_and_t hb11 (S.tm rfl) (S.tm rfl)) rfl ?_; clear S; intro a S
           refine s_done ?_
           exact ⟨_, h, Keep.refl _ _, S.nf [true] rfl ⟨rfl, rfl, rfl, rfl, rfl, trivial⟩⟩
          ·replace h := iteF h hb11
           refine s_skip S rfl rfl rfl rfl (neq_f hb11) rfl ?_ rfl; clear S; intro a S
           refine s_skip S rfl rfl rfl rfl (neq_f hb11) rfl ?_ rfl; clear S; intro a S
           refine s_skip S rfl rfl rfl rfl (neq_f hb11) rfl ?_ rfl; clear S; intro a S
           refine s_skip S rfl rfl rfl rfl (neq_f hb11) rfl ?_ rfl; clear S; intro a S
           refine s_skip S rfl rfl rfl rfl (neq_f hb11) rfl ?_ rfl; clear S; intro a S
           refine s_skip S rfl rfl rfl rfl (neq_f hb11) rfl ?_ rfl; clear S; intro a S
           refine s_skip S rfl rfl rfl rfl (neq_f hb11) rfl ?_ rfl; clear S; intro a S
           refine s_skip S rfl rfl rfl rfl (neq_f hb11) rfl ?_ rfl; clear S; intro a S
           refine s_skip S rfl rfl rfl rfl (neq_f hb11) rfl ?_ rfl; clear S; intro a S
           refine s_lv S rfl (rn_and_f true hb11 (S.tm rfl) rfl) rfl ?_; clear S; intro a S
           refine s_done ?_
           exact ⟨_, h, Keep.refl _ _, S.nf [true] rfl ⟨rfl, rfl, rfl, rfl, rfl, trivial⟩⟩
         clear S h; rintro a w26 ⟨c4, h, hk22, S⟩; rw [hj7] at h; clear hj7 j7
         refine s_lv S rfl (rn_assign (S.tm rfl)) rfl ?_; clear S; intro a S
         refine s_done ?_
         replace S := S.nk [] [(0, v_p_l), (9, v_p_l), (10, .int .i64 (p_l.length : Int)), (11, .int .i64 (i1 : Int)), (76, .bool c4)] [false] rfl ⟨rfl, rfl, rfl, rfl, rfl, trivial⟩
         refine then_n ?_
         exact ⟨c4, h, S.nf [] rfl ⟨rfl, rfl, rfl, rfl, rfl, trivial⟩⟩
       clear S h; rintro a w24 ⟨x2, h, S⟩; rw [hj6] at h; clear hj6 j6
       refine then_n ?_
       refine f_cond (S.tm rfl) (fun hb12 => ?_) (fun hb12 => ?_)
       ·replace h := iteT h hb12
        refine f_seq ?_
        refine f_region ?_
        refine lv S (rn_assign rfl) rfl ?_; clear S; intro a S
        refine l_done ?_
        replace S := S.nk [] [(2, .int .i64 3)] [] rfl ⟨rfl, trivial⟩
        refine then_n ?_
        refine wp_ret ?_
        refine blk_r ?_
        refine blk_r ?_
        refine then_r ?_
        refine then_r ?_
        refine blk_r ?_
        refine then_r ?_
        refine then_r ?_
        obtain rfl := Option.some.inj h
        exact f_ret S Tryd.results22 rfl rfl
       ·replace h := iteF h hb12
        refine wp_skip ?_
        refine blk_n ?_
        refine blk_n ?_
        refine then_n ?_
        refine f_region ?_
        refine lv S (rn_add (S.tm rfl) rfl) rfl ?_; clear S; intro a S
        refine lv S (rn_move (S.tm rfl)) rfl ?_; clear S; intro a S
        refine l_done ?_
        replace S := S.nk [] [(0, v_p_l), (9, v_p_l), (10, .int .i64 (p_l.length : Int)), (11, .int .i64 (W ((i1 : Int) + 1)))] [] rfl ⟨rfl, rfl, rfl, rfl, trivial⟩
        refine then_n ?_
        exact ⟨ys1, ⟨i1 + 1, ⟨_, (hd1).trans (List.append_cons _ _ _), by simp [hi1]⟩, h, S.nf [] rfl ⟨rfl, rfl, rfl, (congrArg (fun z => some (Value.int .i64 z)) (rng_next hd1 hi1 (slc_max hs_p_l))), trivial⟩⟩, Nat.lt_succ_self _⟩
  clear S h; rintro a w2 ⟨h, S⟩; rw [hj1] at h; clear hj1 j1
  refine then_n ?_
  refine f_seq ?_
  refine f_region ?_
  refine lv S (rn_assign rfl) rfl ?_; clear S; intro a S
  refine l_done ?_
  replace S := S.nk [] [(2, .int .i64 0)] [] rfl ⟨rfl, trivial⟩
  refine then_n ?_
  refine wp_ret ?_
  obtain rfl := Option.some.inj h
  exact f_ret S Tryd.results22 rfl rfl
theorem swimmer_checkClub_ok (w : World) (v_p_l : Value) (p_l : List GMove) (hs_p_l : Slc (view w []) 3 v_p_l (p_l.map GMove.enc)) (p_key : ByteArray) (p_day : Int) (r : Int) (h : swimmer_checkClub p_l p_key p_day = some r) :
    Calls Tryd.prog 14 [v_p_l, .string p_key, .int .i64 p_day].toArray w (Ret w [] fun _ v _ => v = .int .i64 r) := by
 refine f_enter [] [] Tryd.func14 rfl Tryd.ntmps14 rfl (by simp) (by simp [fps]) (by simp [fps]) fun a S => ?_
 unfold swimmer_checkClub at h
 replace S := S.nk [] [(0, v_p_l), (1, .string p_key), (2, .int .i64 p_day)] [] rfl ⟨rfl, rfl, rfl, trivial⟩
 refine f_seq ?_
 refine f_region ?_
 refine lv S (rn_assign rfl) rfl ?_; clear S; intro a S
 refine l_done ?_
 replace S := S.nk [] [(0, v_p_l), (1, .string p_key), (2, .int .i64 p_day)] [] rfl ⟨rfl, rfl, rfl, trivial⟩
 refine then_n ?_
 refine f_seq ?_
 refine f_seq ?_
 refine f_region ?_
 refine lv S (rn_move (S.tm rfl)) rfl ?_; clear S; intro a S
 obtain ⟨r1, hr1, h⟩ := bindE h
 refine l_enter S (fun _ => run_call (vs := [v_p_l]) ⟨(S.tm rfl), trivial⟩ Tryd.call22) (swimmer_CheckMoves_ok _ v_p_l p_l (hs_p_l.mono (S.le_arg nil_sub)) _ hr1) rfl ?_; clear S; intro v1 a w1 hv1 hk1 hn1 S
 subst hv1
 refine lv S (rn_assign (S.tm rfl)) rfl ?_; clear S; intro a S
 refine l_done ?_
 replace S := S.nk [] [(1, .string p_key), (2, .int .i64 p_day), (7, .int .i64 r1)] [] rfl ⟨rfl, rfl, rfl, trivial⟩
 refine then_n ?_
 refine f_seq ?_
 refine f_region ?_
 refine lv S (rn_move (S.tm rfl)) rfl ?_; clear S; intro a S
 refine lv S (rn_neq (S.tm rfl) rfl) rfl ?_; clear S; intro a S
 refine l_done ?_
 replace S := S.nk [] [(1, .string p_key), (2, .int .i64 p_day), (7, .int .i64 r1), (11, .bool (!decide (r1 = 0)))] [] rfl ⟨rfl, rfl, rfl, rfl, trivial⟩
 refine then_n ?_
 refine f_cond (S.tm rfl) (fun hb1 => ?_) (fun hb1 => ?_)
 ·replace h := iteT h hb1
  refine f_seq ?_
  refine f_region ?_
  refine lv S (rn_move (S.tm rfl)) rfl ?_; clear S; intro a S
  refine lv S (rn_assign (S.tm rfl)) rfl ?_; clear S; intro a S
  refine l_done ?_
  replace S := S.nk [] [(6, .int .i64 r1)] [] rfl ⟨rfl, trivial⟩
  refine then_n ?_
  refine wp_ret ?_
  refine then_r ?_
  obtain rfl := Option.some.inj h
  exact f_ret S Tryd.results14 rfl rfl
 ·replace h := iteF h hb1
  refine wp_skip ?_
  refine then_n ?_
  refine f_seq ?_
  refine f_seq ?_
  refine f_region ?_
  refine lv S (rn_move (S.tm rfl)) rfl ?_; clear S; intro a S
  obtain ⟨r2, hr2, h⟩ := bindE h
  refine l_enter S (fun _ => run_call (vs := [.string p_key]) ⟨(S.tm rfl), trivial⟩ Tryd.call23) (words_IsKey_ok _ p_key _ hr2) rfl ?_; clear S; intro v2 a w2 hv2 hk2 hn2 S
  subst hv2
  refine lv S (rn_not (S.tm rfl)) rfl ?_; clear S; intro a S
  refine l_done ?_
  replace S := S.nk [] [(2, .int .i64 p_day), (15, .bool (!r2))] [] rfl ⟨rfl, rfl, trivial⟩
  refine then_n ?_
  refine f_cond (S.tm rfl) (fun hb2 => ?_) (fun hb2 => ?_)
  ·replace h := iteT h hb2
   refine f_seq ?_
   refine f_region ?_
   refine lv S (rn_assign rfl) rfl ?_; clear S; intro a S
   refine l_done ?_
   replace S := S.nk [] [(6, .int .i64 5)] [] rfl ⟨rfl, trivial⟩
   refine then_n ?_
   refine wp_ret ?_
   refine then_r ?_
   obtain rfl := Option.some.inj h
   exact f_ret S Tryd.results14 rfl rfl
  ·replace h := iteF h hb2
   refine wp_skip ?_
   refine then_n ?_
   refine f_seq ?_
   refine f_seq ?_
   refine f_region ?_
   refine lv S (rn_move (S.tm rfl)) rfl ?_; clear S; intro a S
   refine l_enter S (fun _ => run_call (vs := [.int .i64 p_day]) ⟨(S.tm rfl), trivial⟩ Tryd.call24) (swimmer_isDay_ok _ p_day _ rfl) rfl ?_; clear S; intro v3 a w3 hv3 hk3 hn3 S
   subst hv3
   refine lv S (rn_not (S.tm rfl)) rfl ?_; clear S; intro a S
   refine l_done ?_
   replace S := S.nk [] [(18, .bool (!(swimmer_isDay p_day)))] [] rfl ⟨rfl, trivial⟩
   refine then_n ?_
   refine f_cond (S.tm rfl) (fun hb3 => ?_) (fun hb3 => ?_)
   ·replace h := iteT h hb3
    refine f_seq ?_
    refine f_region ?_
    refine lv S (rn_assign rfl) rfl ?_; clear S; intro a S
    refine l_done ?_
    replace S := S.nk [] [(6, .int .i64 1)] [] rfl ⟨rfl, trivial⟩
    refine then_n ?_
    refine wp_ret ?_
    refine then_r ?_
    obtain rfl := Option.some.inj h
    exact f_ret S Tryd.results14 rfl rfl
   ·replace h := iteF h hb3
    refine wp_skip ?_
    refine then_n ?_
    refine f_seq ?_
    refine f_region ?_
    refine lv S (rn_assign rfl) rfl ?_; clear S; intro a S
    refine l_done ?_
    replace S := S.nk [] [(6, .int .i64 0)] [] rfl ⟨rfl, trivial⟩
    refine then_n ?_
    refine wp_ret ?_
    obtain rfl := Option.some.inj h
    exact f_ret S Tryd.results14 rfl rfl
theorem swimmer_clubAt_ok (w : World) (v_p_l : Value) (p_l : List GMove) (hs_p_l : Slc (view w []) 3 v_p_l (p_l.map GMove.enc)) (p_who : ByteArray) (p_day : Int) (r : ByteArray) (h : swimmer_clubAt p_l p_who p_day = r) :
    Calls Tryd.prog 15 [v_p_l, .string p_who, .int .i64 p_day].toArray w (Ret w [] fun _ v _ => v = .string r) := by
 refine f_enter [] [] Tryd.func15 rfl Tryd.ntmps15 rfl (by simp) (by simp [fps]) (by simp [fps]) fun a S => ?_
 unfold swimmer_clubAt at h
 replace S := S.nk [] [(0, v_p_l), (1, .string p_who), (2, .int .i64 p_day)] [] rfl ⟨rfl, rfl, rfl, trivial⟩
 refine f_seq ?_
 refine f_region ?_
 refine lv S (rn_assign rfl) rfl ?_; clear S; intro a S
 refine l_done ?_
 replace S := S.nk [] [(0, v_p_l), (1, .string p_who), (2, .int .i64 p_day)] [] rfl ⟨rfl, rfl, rfl, trivial⟩
 refine then_n ?_
 refine f_seq ?_
 refine f_region ?_
 refine lv S (rn_assign rfl) rfl ?_; clear S; intro a S
 refine l_done ?_
 replace S := S.nk [] [(0, v_p_l), (1, .string p_who), (2, .int .i64 p_day), (7, .string k_empty)] [] rfl ⟨rfl, rfl, rfl, rfl, trivial⟩
 refine then_n ?_
 refine f_seq ?_
 refine f_seq ?_
 refine f_region ?_
 refine lv S (rn_move (S.tm rfl)) rfl ?_; clear S; intro a S
 refine lv S (rn_lenT sl_26 (S.tm rfl) (slc_len hs_p_l)) rfl ?_; clear S; intro a S
 refine lv S (rn_move rfl) rfl ?_; clear S; intro a S
 refine l_done ?_
 replace S := S.nk [] [(1, .string p_who), (2, .int .i64 p_day), (7, .string k_empty), (10, v_p_l), (11, .int .i64 (p_l.length : Int)), (12, .int .i64 0)] [] rfl ⟨rfl, rfl, rfl, rfl, rfl, rfl, trivial⟩
 refine then_n ?_
 obtain ⟨j1, hj1, h⟩ := joinE h
 refine f_join (fun a w' => ∃ x1 : ByteArray, j1 x1 = r ∧ Sx w [] nov [] [(7, .string x1)] 30 a w') ?_ ?_
 ·refine wp_block ?_
  refine f_loop (fun (ys1 : List GMove) a w' => ∃ i1 : Nat, ∃ x1 : ByteArray, (∃ dn, p_l = dn ++ ys1 ∧ dn.length = i1) ∧ swimmer_clubAt_l1 p_who p_day j1 ys1 i1 x1 = r ∧ Sx w [] nov [] [(1, .string p_who), (2, .int .i64 p_day), (7, .string x1), (10, v_p_l), (11, .int .i64 (p_l.length : Int)), (12, .int .i64 (i1 : Int))] 30 a w') List.length p_l ⟨0, k_empty, ⟨[], rfl, rfl⟩, h, S.nf [] rfl ⟨rfl, rfl, rfl, rfl, rfl, rfl, trivial⟩⟩ ?_
  clear S h; rintro ys1 a w1 ⟨i1, x1, ⟨dn, hd1, hi1⟩, h, S⟩
  cases ys1 with
  | nil =>
   rw [swimmer_clubAt_l1.eq_1] at h
   refine f_seq ?_
   refine f_region ?_
   refine lv S (rn_lss (S.tm rfl) (S.tm rfl)) rfl ?_; clear S; intro a S
   refine l_done ?_
   replace S := S.nk [] [(1, .string p_who), (2, .int .i64 p_day), (7, .string x1), (10, v_p_l), (11, .int .i64 (p_l.length : Int)), (12, .int .i64 (i1 : Int)), (13, .bool (decide ((i1 : Int) < (p_l.length : Int))))] [] rfl ⟨rfl, rfl, rfl, rfl, rfl, rfl, rfl, trivial⟩
   refine then_n ?_
   refine f_seq ?_
   refine wp_cond_false ((S.tm rfl).trans (congrArg Value.bool (rng_nil hd1 hi1))) ?_
   refine wp_exit ?_
   refine then_x ?_
   refine then_x ?_
   refine x_same ?_
   refine then_n ?_
   exact ⟨x1, h, S.nf [] rfl ⟨rfl, trivial⟩⟩
  | cons y1 ys1 =>
   rw [swimmer_clubAt_l1.eq_2] at h
   refine f_seq ?_
   refine f_region ?_
   refine lv S (rn_lss (S.tm rfl) (S.tm rfl)) rfl ?_; clear S; intro a S
   refine l_done ?_
   replace S := S.nk [] [(1, .string p_who), (2, .int .i64 p_day), (7, .string x1), (10, v_p_l), (11, .int .i64 (p_l.length : Int)), (12, .int .i64 (i1 : Int)), (13, .bool (decide ((i1 : Int) < (p_l.length : Int))))] [] rfl ⟨rfl, rfl, rfl, rfl, rfl, rfl, rfl, trivial⟩
   refine then_n ?_
   refine f_seq ?_
   refine wp_cond_true ((S.tm rfl).trans (congrArg Value.bool (rng_cons hd1 hi1))) ?_
   refine wp_skip ?_
   refine then_n ?_
   refine f_seq ?_
   obtain ⟨j2, hj2, h⟩ := joinE h
   refine f_join (fun a w' => ∃ x2 : ByteArray, j2 x2 = r ∧ Sx w [] nov [] [(1, .string p_who), (2, .int .i64 p_day), (7, .string x2), (10, v_p_l), (11, .int .i64 (p_l.length : Int)), (12, .int .i64 (i1 : Int))] 30 a w') ?_ ?_
   ·refine wp_block ?_
    refine f_seq ?_
    refine f_region ?_
    obtain ⟨b1, o1, hm1, hr1⟩ := rn_indexT (a := a) (x := .tmp 10) (y := .tmp 12) (ty := 0) sl_26 hs_p_l (get_mid hd1 hi1) rfl (S.tm rfl) (S.tm rfl)
    refine lv S (hr1 _) rfl ?_; clear S; intro a S
    clear hr1
    refine lv S (rn_ldA Tryd.isAgg42 Tryd.sizeOf42 (off := o1) (o := 0) (part := [.string y1.Who, .string y1.Club, .int .i64 y1.Day]) rfl rfl (S.tm rfl) (hm1.at S.emb0)) rfl ?_; clear S; intro a S
    refine l_alloc S Tryd.zeroValue42 (cs := [.string k_empty, .string k_empty, .int .i64 0]) rfl rfl ?_; clear S; intro a w4 b2 hz1 hk1 S
    refine l_store S (S.tm rfl) (S.tm rfl) (i := 0) (off := 0) rfl Tryd.sizeOf42 (vs := [.string y1.Who, .string y1.Club, .int .i64 y1.Day]) rfl rfl rfl rfl ?_; clear S; intro w5 hk2 S
    refine l_done ?_
    replace S := S.nk [.blk b2 [.string y1.Who, .string y1.Club, .int .i64 y1.Day] 42] [(1, .string p_who), (2, .int .i64 p_day), (7, .string x1), (9, .pointer (some ⟨b2, 0, none⟩)), (10, v_p_l), (11, .int .i64 (p_l.length : Int)), (12, .int .i64 (i1 : Int))] [true] rfl ⟨rfl, rfl, rfl, rfl, rfl, rfl, rfl, trivial⟩
    refine then_n ?_
    refine f_seq ?_
    refine f_region ?_
    refine lv S (rn_fld fa_42_0 (S.tm rfl)) rfl ?_; clear S; intro a S
    refine lv S (rn_load Tryd.isAgg9 (S.tm rfl) (S.cell (i := 0) rfl rfl)) rfl ?_; clear S; intro a S
    refine lv S (rn_move (S.tm rfl)) rfl ?_; clear S; intro a S
    refine lv S (rn_seql (S.tm rfl) (S.tm rfl)) rfl ?_; clear S; intro a S
    refine lv S (rn_move (S.tm rfl)) rfl ?_; clear S; intro a S
    refine f_cutm 5 (fun a w' => Keep [] w5 w' ∧ Sx w [] nov [.blk b2 [.string y1.Who, .string y1.Club, .int .i64 y1.Day] 42] [(1, .string p_who), (2, .int .i64 p_day), (7, .string x1), (9, .pointer (some ⟨b2, 0, none⟩)), (10, v_p_l), (11, .int .i64 (p_l.length : Int)), (12, .int .i64 (i1 : Int)), (25, .bool ((decide (y1.Who = p_who)) && (decide (y1.Day ≤ p_day))))] 30 a w') ?_ ?_
    ·rcases Bool.eq_false_or_eq_true (decide (y1.Who = p_who)) with hb1 | hb1
     ·refine l_want S rfl rfl rfl hb1 ?_
      refine lv S (rn_fld fa_42_2 (S.tm rfl)) rfl ?_; clear S; intro a S
      refine l_want S rfl rfl rfl hb1 ?_
      refine lv S (rn_load Tryd.isAgg3 (S.tm rfl) (S.cell (i := 0) rfl rfl)) rfl ?_; clear S; intro a S
      refine l_want S rfl rfl rfl hb1 ?_
      refine lv S (rn_move (S.tm rfl)) rfl ?_; clear S; intro a S
      refine l_want S rfl rfl rfl hb1 ?_
      refine lv S (rn_leq (S.tm rfl) (S.tm rfl)) rfl ?_; clear S; intro a S
      refine lv S (rn_and_t hb1 (S.tm rfl) (S.tm rfl)) rfl ?_; clear S; intro a S
      refine l_done ?_
      refine then_n ?_
      exact ⟨Keep.refl _ _, S.nf [true] rfl ⟨rfl, rfl, rfl, rfl, rfl, rfl, rfl, rfl, trivial⟩⟩
     ·refine l_skip S rfl rfl rfl (neq_f hb1) rfl ?_ rfl; clear S; intro a S
      refine l_skip S rfl rfl rfl (neq_f hb1) rfl ?_ rfl; clear S; intro a S
      refine l_skip S rfl rfl rfl (neq_f hb1) rfl ?_ rfl; clear S; intro a S
      refine l_skip S rfl rfl rfl (neq_f hb1) rfl ?_ rfl; clear S; intro a S
      refine lv S (rn_and_f (decide (y1.Day ≤ p_day)) hb1 (S.tm rfl) rfl) rfl ?_; clear S; intro a S
      refine l_done ?_
      refine then_n ?_
      exact ⟨Keep.refl _ _, S.nf [true] rfl ⟨rfl, rfl, rfl, rfl, rfl, rfl, rfl, rfl, trivial⟩⟩
    clear S; rintro a w6 ⟨hk3, S⟩
    refine l_done ?_
    replace S := S.nk [.blk b2 [.string y1.Who, .string y1.Club, .int .i64 y1.Day] 42] [(1, .string p_who), (2, .int .i64 p_day), (7, .string x1), (9, .pointer (some ⟨b2, 0, none⟩)), (10, v_p_l), (11, .int .i64 (p_l.length : Int)), (12, .int .i64 (i1 : Int)), (25, .bool ((decide (y1.Who = p_who)) && (decide (y1.Day ≤ p_day))))] [true] rfl ⟨rfl, rfl, rfl, rfl, rfl, rfl, rfl, rfl, trivial⟩
    refine then_n ?_
    obtain ⟨j3, hj3, h⟩ := joinE h
    refine f_join (fun a w' => ∃ x3 : ByteArray, j3 x3 = r ∧ Sx w [] nov [] [(1, .string p_who), (2, .int .i64 p_day), (7, .string x3), (10, v_p_l), (11, .int .i64 (p_l.length : Int)), (12, .int .i64 (i1 : Int))] 30 a w') ?_ ?_
    ·refine f_cond (S.tm rfl) (fun hb2 => ?_) (fun hb2 => ?_)
     ·replace h := iteT h hb2
      refine f_region ?_
      refine lv S (rn_fld fa_42_1 (S.tm rfl)) rfl ?_; clear S; intro a S
      refine lv S (rn_load Tryd.isAgg9 (S.tm rfl) (S.cell (i := 0) rfl rfl)) rfl ?_; clear S; intro a S
      refine lv S (rn_assign (S.tm rfl)) rfl ?_; clear S; intro a S
      refine l_done ?_
      replace S := S.nk [] [(1, .string p_who), (2, .int .i64 p_day), (7, .string y1.Club), (10, v_p_l), (11, .int .i64 (p_l.length : Int)), (12, .int .i64 (i1 : Int))] [false] rfl ⟨rfl, rfl, rfl, rfl, rfl, rfl, trivial⟩
      refine then_n ?_
      exact ⟨y1.Club, h, S.nf [] rfl ⟨rfl, rfl, rfl, rfl, rfl, rfl, trivial⟩⟩
     ·replace h := iteF h hb2
      refine wp_skip ?_
      refine then_n ?_
      exact ⟨x1, h, S.nf [false] rfl ⟨rfl, rfl, rfl, rfl, rfl, rfl, trivial⟩⟩
    clear S h; rintro a w7 ⟨x3, h, S⟩; rw [hj3] at h; clear hj3 j3
    refine blk_n ?_
    refine then_n ?_
    exact ⟨x3, h, S.nf [] rfl ⟨rfl, rfl, rfl, rfl, rfl, rfl, trivial⟩⟩
   clear S h; rintro a w3 ⟨x2, h, S⟩; rw [hj2] at h; clear hj2 j2
   refine then_n ?_
   refine f_region ?_
   refine lv S (rn_add (S.tm rfl) rfl) rfl ?_; clear S; intro a S
   refine lv S (rn_move (S.tm rfl)) rfl ?_; clear S; intro a S
   refine l_done ?_
   replace S := S.nk [] [(1, .string p_who), (2, .int .i64 p_day), (7, .string x2), (10, v_p_l), (11, .int .i64 (p_l.length : Int)), (12, .int .i64 (W ((i1 : Int) + 1)))] [] rfl ⟨rfl, rfl, rfl, rfl, rfl, rfl, trivial⟩
   refine then_n ?_
   exact ⟨ys1, ⟨i1 + 1, x2, ⟨_, (hd1).trans (List.append_cons _ _ _), by simp [hi1]⟩, h, S.nf [] rfl ⟨rfl, rfl, rfl, rfl, rfl, (congrArg (fun z => some (Value.int .i64 z)) (rng_next hd1 hi1 (slc_max hs_p_l))), trivial⟩⟩, Nat.lt_succ_self _⟩
 clear S h; rintro a w2 ⟨x1, h, S⟩; rw [hj1] at h; clear hj1 j1
 refine then_n ?_
 refine f_seq ?_
 refine f_region ?_
 refine lv S (rn_move (S.tm rfl)) rfl ?_; clear S; intro a S
 refine lv S (rn_assign (S.tm rfl)) rfl ?_; clear S; intro a S
 refine l_done ?_
 replace S := S.nk [] [(6, .string x1)] [] rfl ⟨rfl, trivial⟩
 refine then_n ?_
 refine wp_ret ?_
 subst h
 exact f_ret S Tryd.results15 rfl rfl
set_option maxRecDepth 20000 in
theorem swimmer_Members_ok (w : World) (v_p_l : Value) (p_l : List GMove) (hs_p_l : Slc (view w []) 3 v_p_l (p_l.map GMove.enc)) (p_club : ByteArray) (p_day : Int) (r : (List ByteArray) × Int) (h : swimmer_Members p_l p_club p_day = some r) :
    Calls Tryd.prog 6 [v_p_l, .string p_club, .int .i64 p_day].toArray w (Ret w [] fun τ v _ => ∃ u1 : Value, v = .tuple #[u1, .int .i64 r.2] ∧ OwnV τ 9 1 u1 r.1.length (r.1.flatMap eStr)) := by
 refine f_enter [] [] Tryd.func6 rfl Tryd.ntmps6 rfl (by simp) (by simp [fps]) (by simp [fps]) fun a S => ?_
 unfold swimmer_Members at h
 replace S := S.nk [] [(0, v_p_l), (1, .string p_club), (2, .int .i64 p_day)] [] rfl ⟨rfl, rfl, rfl, trivial⟩
 refine f_seq ?_
 refine f_region ?_
 refine lv S (rn_assign rfl) rfl ?_; clear S; intro a S
 refine lv S (rn_assign rfl) rfl ?_; clear S; intro a S
 refine l_done ?_
 replace S := S.nk [] [(0, v_p_l), (1, .string p_club), (2, .int .i64 p_day)] [] rfl ⟨rfl, rfl, rfl, trivial⟩
 refine then_n ?_
 refine f_seq ?_
 refine f_seq ?_
 refine f_region ?_
 refine lv S (rn_move (S.tm rfl)) rfl ?_; clear S; intro a S
 refine lv S (rn_move (S.tm rfl)) rfl ?_; clear S; intro a S
 refine lv S (rn_move (S.tm rfl)) rfl ?_; clear S; intro a S
 obtain ⟨r1, hr1, h⟩ := bindE h
 refine l_enter S (fun _ => run_call (vs := [v_p_l, .string p_club, .int .i64 p_day]) ⟨(S.tm rfl), (S.tm rfl), (S.tm rfl), trivial⟩ Tryd.call14) (swimmer_checkClub_ok _ v_p_l p_l (hs_p_l.mono (S.le_arg nil_sub)) p_club p_day _ hr1) rfl ?_; clear S; intro v1 a w1 hv1 hk1 hn1 S
 subst hv1
 refine lv S (rn_assign (S.tm rfl)) rfl ?_; clear S; intro a S
 refine l_done ?_
 replace S := S.nk [] [(0, v_p_l), (1, .string p_club), (2, .int .i64 p_day), (8, .int .i64 r1)] [] rfl ⟨rfl, rfl, rfl, rfl, trivial⟩
 refine then_n ?_
 refine f_seq ?_
 refine f_region ?_
 refine lv S (rn_move (S.tm rfl)) rfl ?_; clear S; intro a S
 refine lv S (rn_neq (S.tm rfl) rfl) rfl ?_; clear S; intro a S
 refine l_done ?_
 replace S := S.nk [] [(0, v_p_l), (1, .string p_club), (2, .int .i64 p_day), (8, .int .i64 r1), (17, .bool (!decide (r1 = 0)))] [] rfl ⟨rfl, rfl, rfl, rfl, rfl, trivial⟩
 refine then_n ?_
 refine f_cond (S.tm rfl) (fun hb1 => ?_) (fun hb1 => ?_)
 ·replace h := iteT h hb1
  refine f_seq ?_
  refine f_region ?_
  refine lv S (rn_move (S.tm rfl)) rfl ?_; clear S; intro a S
  refine lv S (rn_assign rfl) rfl ?_; clear S; intro a S
  refine lv S (rn_assign (S.tm rfl)) rfl ?_; clear S; intro a S
  refine l_done ?_
  replace S := S.nk [] [(6, .slice none 0 0), (7, .int .i64 r1)] [] rfl ⟨rfl, rfl, trivial⟩
  refine then_n ?_
  refine wp_ret ?_
  refine then_r ?_
  obtain rfl := Option.some.inj h
  exact f_ret2 S Tryd.results6 rfl rfl ⟨_, rfl, (ownV_nil _ _ _)⟩
 ·replace h := iteF h hb1
  refine wp_skip ?_
  refine then_n ?_
  refine f_seq ?_
  refine f_region ?_
  refine lv S (rn_assign rfl) rfl ?_; clear S; intro a S
  replace S := S.nil 9 1
  refine l_done ?_
  replace S := S.nk [.own (.slice none 0 0) 9 1 ([] : List ByteArray).length (([] : List ByteArray).flatMap eStr)] [(0, v_p_l), (1, .string p_club), (2, .int .i64 p_day), (9, (.slice none 0 0))] [true] rfl ⟨rfl, rfl, rfl, rfl, trivial⟩
  refine then_n ?_
  refine f_seq ?_
  refine f_seq ?_
  refine f_region ?_
  refine lv S (rn_move (S.tm rfl)) rfl ?_; clear S; intro a S
  refine lv S (rn_lenT sl_26 (S.tm rfl) (slc_len hs_p_l)) rfl ?_; clear S; intro a S
  refine lv S (rn_move rfl) rfl ?_; clear S; intro a S
  refine l_done ?_
  replace S := S.nk [.own (.slice none 0 0) 9 1 ([] : List ByteArray).length (([] : List ByteArray).flatMap eStr)] [(0, v_p_l), (1, .string p_club), (2, .int .i64 p_day), (9, (.slice none 0 0)), (19, v_p_l), (20, .int .i64 (p_l.length : Int)), (21, .int .i64 0)] [true] rfl ⟨rfl, rfl, rfl, rfl, rfl, rfl, rfl, trivial⟩
  refine then_n ?_
  obtain ⟨j1, hj1, h⟩ := joinE h
  refine f_join (fun a w' => ∃ x1 : List ByteArray, ∃ v2 : Value, j1 x1 = some r ∧ Sx w [] nov [.own v2 9 1 x1.length (x1.flatMap eStr)] [(9, v2)] 55 a w') ?_ ?_
  ·refine wp_block ?_
   refine f_loop (fun (ys1 : List GMove) a w' => ∃ i1 : Nat, ∃ x1 : List ByteArray, ∃ v2 : Value, (∃ dn, p_l = dn ++ ys1 ∧ dn.length = i1) ∧ swimmer_Members_l1 p_l p_day p_club j1 ys1 i1 x1 = some r ∧ Sx w [] nov [.own v2 9 1 x1.length (x1.flatMap eStr)] [(0, v_p_l), (1, .string p_club), (2, .int .i64 p_day), (9, v2), (19, v_p_l), (20, .int .i64 (p_l.length : Int)), (21, .int .i64 (i1 : Int))] 55 a w') List.length p_l ⟨0, ([] : List ByteArray), (.slice none 0 0), ⟨[], rfl, rfl⟩, h, S.nf [true] rfl ⟨rfl, rfl, rfl, rfl, rfl, rfl, rfl, trivial⟩⟩ ?_
   clear S h; rintro ys1 a w2 ⟨i1, x1, v2, ⟨dn, hd1, hi1⟩, h, S⟩
   cases ys1 with
   | nil =>
    rw [swimmer_Members_l1.eq_1] at h
    refine f_seq ?_
    refine f_region ?_
    refine lv S (rn_lss (S.tm rfl) (S.tm rfl)) rfl ?_; clear S; intro a S
    refine l_done ?_
    replace S := S.nk [.own v2 9 1 x1.length (x1.flatMap eStr)] [(0, v_p_l), (1, .string p_club), (2, .int .i64 p_day), (9, v2), (19, v_p_l), (20, .int .i64 (p_l.length : Int)), (21, .int .i64 (i1 : Int)), (22, .bool (decide ((i1 : Int) < (p_l.length : Int))))] [true] rfl ⟨rfl, rfl, rfl, rfl, rfl, rfl, rfl, rfl, trivial⟩
    refine then_n ?_
    refine f_seq ?_
    refine wp_cond_false ((S.tm rfl).trans (congrArg Value.bool (rng_nil hd1 hi1))) ?_
    refine wp_exit ?_
    refine then_x ?_
    refine then_x ?_
    refine x_same ?_
    refine then_n ?_
    exact ⟨x1, v2, h, S.nf [true] rfl ⟨rfl, trivial⟩⟩
   | cons y1 ys1 =>
    rw [swimmer_Members_l1.eq_2] at h
    refine f_seq ?_
    refine f_region ?_
    refine lv S (rn_lss (S.tm rfl) (S.tm rfl)) rfl ?_; clear S; intro a S
    refine l_done ?_
    replace S := S.nk [.own v2 9 1 x1.length (x1.flatMap eStr)] [(0, v_p_l), (1, .string p_club), (2, .int .i64 p_day), (9, v2), (19, v_p_l), (20, .int .i64 (p_l.length : Int)), (21, .int .i64 (i1 : Int)), (22, .bool (decide ((i1 : Int) < (p_l.length : Int))))] [true] rfl ⟨rfl, rfl, rfl, rfl, rfl, rfl, rfl, rfl, trivial⟩
    refine then_n ?_
    refine f_seq ?_
    refine wp_cond_true ((S.tm rfl).trans (congrArg Value.bool (rng_cons hd1 hi1))) ?_
    refine wp_skip ?_
    refine then_n ?_
    refine f_seq ?_
    obtain ⟨j2, hj2, h⟩ := joinE h
    refine f_join (fun a w' => ∃ x2 : List ByteArray, ∃ v3 : Value, j2 x2 = some r ∧ Sx w [] nov [.own v3 9 1 x2.length (x2.flatMap eStr)] [(0, v_p_l), (1, .string p_club), (2, .int .i64 p_day), (9, v3), (19, v_p_l), (20, .int .i64 (p_l.length : Int)), (21, .int .i64 (i1 : Int))] 55 a w') ?_ ?_
    ·refine wp_block ?_
     refine f_seq ?_
     refine f_region ?_
     refine lv S (rn_move (S.tm rfl)) rfl ?_; clear S; intro a S
     obtain ⟨b1, o1, hm1, hr2⟩ := rn_indexT (a := a) (x := .tmp 19) (y := .tmp 21) (ty := 0) sl_26 hs_p_l (get_mid hd1 hi1) rfl (S.tm rfl) (S.tm rfl)
     refine lv S (hr2 _) rfl ?_; clear S; intro a S
     clear hr2
     refine lv S (rn_ldA Tryd.isAgg42 Tryd.sizeOf42 (off := o1) (o := 0) (part := [.string y1.Who, .string y1.Club, .int .i64 y1.Day]) rfl rfl (S.tm rfl) (hm1.at S.emb0)) rfl ?_; clear S; intro a S
     refine l_alloc S Tryd.zeroValue42 (cs := [.string k_empty, .string k_empty, .int .i64 0]) rfl rfl ?_; clear S; intro a w5 b2 hz1 hk2 S
     refine lv S (rn_assign (S.tm rfl)) rfl ?_; clear S; intro a S
     refine l_store S (S.tm rfl) (S.tm rfl) (i := 0) (off := 0) rfl Tryd.sizeOf42 (vs := [.string y1.Who, .string y1.Club, .int .i64 y1.Day]) rfl rfl rfl rfl ?_; clear S; intro w6 hk3 S
     refine l_done ?_
     replace S := S.nk [.blk b2 [.string y1.Who, .string y1.Club, .int .i64 y1.Day] 42, .own v2 9 1 x1.length (x1.flatMap eStr)] [(0, v_p_l), (1, .string p_club), (2, .int .i64 p_day), (9, v2), (10, .int .i64 (i1 : Int)), (11, .pointer (some ⟨b2, 0, none⟩)), (19, v_p_l), (20, .int .i64 (p_l.length : Int)), (21, .int .i64 (i1 : Int))] [true, true] rfl ⟨rfl, rfl, rfl, rfl, rfl, rfl, rfl, rfl, rfl, trivial⟩
     refine then_n ?_
     refine f_seq ?_
     obtain ⟨j3, hj3, h⟩ := joinE h
     refine f_join (fun a w' => ∃ x3 : Bool, j3 x3 = some r ∧ Sx w [] nov [.blk b2 [.string y1.Who, .string y1.Club, .int .i64 y1.Day] 42, .own v2 9 1 x1.length (x1.flatMap eStr)] [(0, v_p_l), (1, .string p_club), (2, .int .i64 p_day), (9, v2), (11, .pointer (some ⟨b2, 0, none⟩)), (19, v_p_l), (20, .int .i64 (p_l.length : Int)), (21, .int .i64 (i1 : Int)), (47, .bool x3)] 55 a w') ?_ ?_
     ·rcases Bool.eq_false_or_eq_true (decide ((i1 : Int) = 0)) with hb2 | hb2
      ·replace h := iteT h hb2
       rcases Bool.eq_false_or_eq_true true with hb3 | hb3
       ·replace h := iteT h hb3
        refine d_region [] ([]) Tryd.mixed S rfl (by kernel_rfl) ?_; clear S; intro w9 hk5 hsel S
        refine d_quiet 0 S hsel rfl rfl rfl (by kernel_rfl) (by kernel_rfl) rfl (fun _ hw => (rn_move (S.tm rfl))) ?_; clear S; intro a S
        refine d_quiet 1 S hsel rfl rfl rfl (by kernel_rfl) (by kernel_rfl) rfl (fun _ hw => (rn_eql (S.tm rfl) rfl)) ?_; clear S; intro a S
        refine d_quiet 2 S hsel rfl rfl rfl (by kernel_rfl) (by kernel_rfl) rfl (fun _ hw => (rn_move (S.tm rfl))) ?_; clear S; intro a S
        refine d_skip 3 S hsel rfl rfl rfl rfl (neq_t hb2) rfl (by kernel_rfl) (by kernel_rfl) rfl ?_; clear S; intro a S
        refine d_skip 4 S hsel rfl rfl rfl rfl (neq_t hb2) rfl (by kernel_rfl) (by kernel_rfl) rfl ?_; clear S; intro a S
        refine d_skip 5 S hsel rfl rfl rfl rfl (neq_t hb2) rfl (by kernel_rfl) (by kernel_rfl) rfl ?_; clear S; intro a S
        refine d_skip 6 S hsel rfl rfl rfl rfl (neq_t hb2) rfl (by kernel_rfl) (by kernel_rfl) rfl ?_; clear S; intro a S
        refine d_skip 7 S hsel rfl rfl rfl rfl (neq_t hb2) rfl (by kernel_rfl) (by kernel_rfl) rfl ?_; clear S; intro a S
        refine d_skip 8 S hsel rfl rfl rfl rfl (neq_t hb2) rfl (by kernel_rfl) (by kernel_rfl) rfl ?_; clear S; intro a S
        refine d_skip 9 S hsel rfl rfl rfl rfl (neq_t hb2) rfl (by kernel_rfl) (by kernel_rfl) rfl ?_; clear S; intro a S
        refine d_skip 10 S hsel rfl rfl rfl rfl (neq_t hb2) rfl (by kernel_rfl) (by kernel_rfl) rfl ?_; clear S; intro a S
        refine d_skip 11 S hsel rfl rfl rfl rfl (neq_t hb2) rfl (by kernel_rfl) (by kernel_rfl) rfl ?_; clear S; intro a S
        refine d_quiet 12 S hsel rfl rfl rfl (by kernel_rfl) (by kernel_rfl) rfl (fun _ hw => (rn_pick_b hb2 (S.tm rfl) rfl)) ?_; clear S; intro a S
        refine d_quiet 13 S hsel rfl rfl rfl (by kernel_rfl) (by kernel_rfl) rfl (fun _ hw => (rn_move (S.tm rfl))) ?_; clear S; intro a S
        refine d_quiet_g 14 S hsel rfl rfl rfl rfl hb3 rfl rfl (by kernel_rfl) (by kernel_rfl) rfl (fun _ hw => (rn_move (S.tm rfl))) ?_; clear S; intro a S
        refine d_quiet_g 15 S hsel rfl rfl rfl rfl hb3 rfl rfl (by kernel_rfl) (by kernel_rfl) rfl (fun _ hw => (rn_fld fa_42_0 (S.tm rfl))) ?_; clear S; intro a S
        refine d_quiet_g 16 S hsel rfl rfl rfl rfl hb3 rfl rfl (by kernel_rfl) (by kernel_rfl) rfl (fun _ hw => (rn_ld Tryd.isAgg9 (off := 0) (o := 0) (S.tm rfl) ((S.blk_mem (i := 0) (cells := [.string y1.Who, .string y1.Club, .int .i64 y1.Day]) (b := b2) (T := 42) rfl (ne_nil (e' := .blk b2 [.string y1.Who, .string y1.Club, .int .i64 y1.Day] 42))).kept hw) rfl)) ?_; clear S; intro a S
        refine d_quiet_g 17 S hsel rfl rfl rfl rfl hb3 rfl rfl (by kernel_rfl) (by kernel_rfl) rfl (fun _ hw => (rn_move (S.tm rfl))) ?_; clear S; intro a S
        refine d_quiet_g 19 S hsel rfl rfl rfl rfl hb3 rfl rfl (by kernel_rfl) (by kernel_rfl) rfl (fun _ hw => (rn_move (S.tm rfl))) ?_; clear S; intro a S
        refine d_loud1 18 (by kernel_rfl) rfl ?_
        refine l_want S rfl rfl rfl hb3 ?_
        refine l_enter S (fun _ => run_call (vs := [v_p_l, .string y1.Who, .int .i64 p_day]) ⟨(S.tm rfl), (S.tm rfl), (S.tm rfl), trivial⟩ Tryd.call15) (swimmer_clubAt_ok _ v_p_l p_l (hs_p_l.mono (S.le_arg nil_sub)) y1.Who p_day _ rfl) rfl ?_; clear S; intro v5 a w10 hv3 hk6 hn3 S
        subst hv3
        refine l_done ?_
        refine d_next hk6 ?_
        refine d_rest [20, 21] hsel (by kernel_rfl) rfl ?_
        clear hsel
        refine s_want S rfl rfl rfl rfl hb3 ?_
        refine s_lv0 S (rn_seql (S.tm rfl) (S.tm rfl)) rfl ?_; clear S; intro a S
        refine s_lv S rfl (rn_pick_b hb3 (S.tm rfl) (S.tm rfl)) rfl ?_; clear S; intro a S
        refine s_done ?_
        replace S := S.nk [.blk b2 [.string y1.Who, .string y1.Club, .int .i64 y1.Day] 42, .own v2 9 1 x1.length (x1.flatMap eStr)] [(0, v_p_l), (1, .string p_club), (2, .int .i64 p_day), (9, v2), (11, .pointer (some ⟨b2, 0, none⟩)), (19, v_p_l), (20, .int .i64 (p_l.length : Int)), (21, .int .i64 (i1 : Int)), (40, v_p_l), (41, .pointer (some ⟨b2, 0, none⟩)), (42, .string y1.Who), (43, .int .i64 p_day), (44, .string (swimmer_clubAt p_l y1.Who p_day)), (45, .string p_club), (46, .bool (decide ((swimmer_clubAt p_l y1.Who p_day) = p_club))), (47, .bool (decide ((swimmer_clubAt p_l y1.Who p_day) = p_club)))] [true, true] rfl ⟨rfl, rfl, rfl, rfl, rfl, rfl, rfl, rfl, rfl, rfl, rfl, rfl, rfl, rfl, rfl, rfl, trivial⟩
        refine then_n ?_
        exact ⟨decide ((swimmer_clubAt p_l y1.Who p_day) = p_club), h, S.nf [true, true] rfl ⟨rfl, rfl, rfl, rfl, rfl, rfl, rfl, rfl, rfl, trivial⟩⟩
       ·replace h := iteF h hb3
        refine d_region [] ([]) Tryd.mixed S rfl (by kernel_rfl) ?_; clear S; intro w11 hk7 hsel S
        refine d_rest [0, 1, 2, 3, 4, 5, 6, 7, 8, 9, 10, 11, 12, 13, 14, 15, 16, 17, 18, 19, 20, 21] hsel (by kernel_rfl) rfl ?_
        clear hsel
        refine s_lv S rfl (rn_move (S.tm rfl)) rfl ?_; clear S; intro a S
        refine s_lv S rfl (rn_eql (S.tm rfl) rfl) rfl ?_; clear S; intro a S
        refine s_lv S rfl (rn_move (S.tm rfl)) rfl ?_; clear S; intro a S
        refine s_skip S rfl rfl rfl rfl (neq_t hb2) rfl ?_ rfl; clear S; intro a S
        refine s_skip S rfl rfl rfl rfl (neq_t hb2) rfl ?_ rfl; clear S; intro a S
        refine s_skip S rfl rfl rfl rfl (neq_t hb2) rfl ?_ rfl; clear S; intro a S
        refine s_skip S rfl rfl rfl rfl (neq_t hb2) rfl ?_ rfl; clear S; intro a S
        refine s_skip S rfl rfl rfl rfl (neq_t hb2) rfl ?_ rfl; clear S; intro a S
        refine s_skip S rfl rfl rfl rfl (neq_t hb2) rfl ?_ rfl; clear S; intro a S
        refine s_skip S rfl rfl rfl rfl (neq_t hb2) rfl ?_ rfl; clear S; intro a S
        refine s_skip S rfl rfl rfl rfl (neq_t hb2) rfl ?_ rfl; clear S; intro a S
        refine s_skip S rfl rfl rfl rfl (neq_t hb2) rfl ?_ rfl; clear S; intro a S
        refine s_lv S rfl (rn_pick_b hb2 (S.tm rfl) rfl) rfl ?_; clear S; intro a S
        refine s_lv S rfl (rn_move (S.tm rfl)) rfl ?_; clear S; intro a S
        refine s_skip S rfl rfl rfl rfl (neq_f hb3) rfl ?_ rfl; clear S; intro a S
        refine s_skip S rfl rfl rfl rfl (neq_f hb3) rfl ?_ rfl; clear S; intro a S
        refine s_skip S rfl rfl rfl rfl (neq_f hb3) rfl ?_ rfl; clear S; intro a S
        refine s_skip S rfl rfl rfl rfl (neq_f hb3) rfl ?_ rfl; clear S; intro a S
        refine s_skip S rfl rfl rfl rfl (neq_f hb3) rfl ?_ rfl; clear S; intro a S
        refine s_skip S rfl rfl rfl rfl (neq_f hb3) rfl ?_ rfl; clear S; intro a S
        refine s_skip S rfl rfl rfl rfl (neq_f hb3) rfl ?_ rfl; clear S; intro a S
        refine s_lv S rfl (rn_pick_c hb3 (S.tm rfl) rfl) rfl ?_; clear S; intro a S
        refine s_done ?_
        replace S := S.nk [.blk b2 [.string y1.Who, .string y1.Club, .int .i64 y1.Day] 42, .own v2 9 1 x1.length (x1.flatMap eStr)] [(0, v_p_l), (1, .string p_club), (2, .int .i64 p_day), (9, v2), (11, .pointer (some ⟨b2, 0, none⟩)), (19, v_p_l), (20, .int .i64 (p_l.length : Int)), (21, .int .i64 (i1 : Int)), (47, .bool false)] [true, true] rfl ⟨rfl, rfl, rfl, rfl, rfl, rfl, rfl, rfl, rfl, trivial⟩
        refine then_n ?_
        exact ⟨false, h, S.nf [true, true] rfl ⟨rfl, rfl, rfl, rfl, rfl, rfl, rfl, rfl, rfl, trivial⟩⟩
      ·replace h := iteF h hb2
       obtain ⟨hc1, h⟩ := chkE h
       rcases Bool.eq_false_or_eq_true (!decide (((nth p_l (W ((i1 : Int) - 1))).Who) = y1.Who)) with hb4 | hb4
       ·replace h := iteT h hb4
        refine d_region [] ([]) Tryd.mixed S rfl (by kernel_rfl) ?_; clear S; intro w13 hk9 hsel S
        refine d_quiet 0 S hsel rfl rfl rfl (by kernel_rfl) (by kernel_rfl) rfl (fun _ hw => (rn_move (S.tm rfl))) ?_; clear S; intro a S
        refine d_quiet 1 S hsel rfl rfl rfl (by kernel_rfl) (by kernel_rfl) rfl (fun _ hw => (rn_eql (S.tm rfl) rfl)) ?_; clear S; intro a S
        refine d_quiet 2 S hsel rfl rfl rfl (by kernel_rfl) (by kernel_rfl) rfl (fun _ hw => (rn_move (S.tm rfl))) ?_; clear S; intro a S
        refine d_quiet_g 3 S hsel rfl rfl rfl rfl hb2 rfl rfl (by kernel_rfl) (by kernel_rfl) rfl (fun _ hw => (rn_move (S.tm rfl))) ?_; clear S; intro a S
        refine d_quiet_g 4 S hsel rfl rfl rfl rfl hb2 rfl rfl (by kernel_rfl) (by kernel_rfl) rfl (fun _ hw => (rn_move (S.tm rfl))) ?_; clear S; intro a S
        refine d_quiet_g 5 S hsel rfl rfl rfl rfl hb2 rfl rfl (by kernel_rfl) (by kernel_rfl) rfl (fun _ hw => (rn_sub (S.tm rfl) rfl)) ?_; clear S; intro a S
        obtain ⟨b5, o4, hm4, hr5⟩ := rn_indexT (a := a) (x := .tmp 29) (y := .tmp 31) (ty := 0) sl_26 (hs_p_l.mono (S.le_arg nil_sub)) (inB_get hc1).1 (inB_get hc1).2 (S.tm rfl) (S.tm rfl)
        refine d_quiet_g 6 S hsel rfl rfl rfl rfl hb2 rfl rfl (by kernel_rfl) (by kernel_rfl) rfl (fun _ hw => hr5 _) ?_; clear S; intro a S
        clear hr5
        refine d_quiet_g 7 S hsel rfl rfl rfl rfl hb2 rfl rfl (by kernel_rfl) (by kernel_rfl) rfl (fun _ hw => (rn_fld fa_42_0 (S.tm rfl))) ?_; clear S; intro a S
        refine d_quiet_g 8 S hsel rfl rfl rfl rfl hb2 rfl rfl (by kernel_rfl) (by kernel_rfl) rfl (fun _ hw => (rn_ld Tryd.isAgg9 (off := o4) (o := 0) (S.tm rfl) (hm4.kept hw) rfl)) ?_; clear S; intro a S
        refine d_quiet_g 9 S hsel rfl rfl rfl rfl hb2 rfl rfl (by kernel_rfl) (by kernel_rfl) rfl (fun _ hw => (rn_fld fa_42_0 (S.tm rfl))) ?_; clear S; intro a S
        refine d_quiet_g 10 S hsel rfl rfl rfl rfl hb2 rfl rfl (by kernel_rfl) (by kernel_rfl) rfl (fun _ hw => (rn_ld Tryd.isAgg9 (off := 0) (o := 0) (S.tm rfl) ((S.blk_mem (i := 0) (cells := [.string y1.Who, .string y1.Club, .int .i64 y1.Day]) (b := b2) (T := 42) rfl (ne_nil (e' := .blk b2 [.string y1.Who, .string y1.Club, .int .i64 y1.Day] 42))).kept hw) rfl)) ?_; clear S; intro a S
        refine d_quiet_g 11 S hsel rfl rfl rfl rfl hb2 rfl rfl (by kernel_rfl) (by kernel_rfl) rfl (fun _ hw => (rn_sneq (S.tm rfl) (S.tm rfl))) ?_; clear S; intro a S
        refine d_quiet 12 S hsel rfl rfl rfl (by kernel_rfl) (by kernel_rfl) rfl (fun _ hw => (rn_pick_c hb2 (S.tm rfl) (S.tm rfl))) ?_; clear S; intro a S
        refine d_quiet 13 S hsel rfl rfl rfl (by kernel_rfl) (by kernel_rfl) rfl (fun _ hw => (rn_move (S.tm rfl))) ?_; clear S; intro a S
        refine d_quiet_g 14 S hsel rfl rfl rfl rfl hb4 rfl rfl (by kernel_rfl) (by kernel_rfl) rfl (fun _ hw => (rn_move (S.tm rfl))) ?_; clear S; intro a S
        refine d_quiet_g 15 S hsel rfl rfl rfl rfl hb4 rfl rfl (by kernel_rfl) (by kernel_rfl) rfl (fun _ hw => (rn_fld fa_42_0 (S.tm rfl))) ?_; clear S; intro a S
        refine d_quiet_g 16 S hsel rfl rfl rfl rfl hb4 rfl rfl (by kernel_rfl) (by kernel_rfl) rfl (fun _ hw => (rn_ld Tryd.isAgg9 (off := 0) (o := 0) (S.tm rfl) ((S.blk_mem (i := 0) (cells := [.string y1.Who, .string y1.Club, .int .i64 y1.Day]) (b := b2) (T := 42) rfl (ne_nil (e' := .blk b2 [.string y1.Who, .string y1.Club, .int .i64 y1.Day] 42))).kept hw) rfl)) ?_; clear S; intro a S
        refine d_quiet_g 17 S hsel rfl rfl rfl rfl hb4 rfl rfl (by kernel_rfl) (by kernel_rfl) rfl (fun _ hw => (rn_move (S.tm rfl))) ?_; clear S; intro a S
        refine d_quiet_g 19 S hsel rfl rfl rfl rfl hb4 rfl rfl (by kernel_rfl) (by kernel_rfl) rfl (fun _ hw => (rn_move (S.tm rfl))) ?_; clear S; intro a S
        refine d_loud1 18 (by kernel_rfl) rfl ?_
        refine l_want S rfl rfl rfl hb4 ?_
        refine l_enter S (fun _ => run_call (vs := [v_p_l, .string y1.Who, .int .i64 p_day]) ⟨(S.tm rfl), (S.tm rfl), (S.tm rfl), trivial⟩ Tryd.call15) (swimmer_clubAt_ok _ v_p_l p_l (hs_p_l.mono (S.le_arg nil_sub)) y1.Who p_day _ rfl) rfl ?_; clear S; intro v7 a w14 hv5 hk10 hn5 S
        subst hv5
        refine l_done ?_
        refine d_next hk10 ?_
        refine d_rest [20, 21] hsel (by kernel_rfl) rfl ?_
        clear hsel
        refine s_want S rfl rfl rfl rfl hb4 ?_
        refine s_lv0 S (rn_seql (S.tm rfl) (S.tm rfl)) rfl ?_; clear S; intro a S
        refine s_lv S rfl (rn_pick_b hb4 (S.tm rfl) (S.tm rfl)) rfl ?_; clear S; intro a S
        refine s_done ?_
        replace S := S.nk [.blk b2 [.string y1.Who, .string y1.Club, .int .i64 y1.Day] 42, .own v2 9 1 x1.length (x1.flatMap eStr)] [(0, v_p_l), (1, .string p_club), (2, .int .i64 p_day), (9, v2), (11, .pointer (some ⟨b2, 0, none⟩)), (19, v_p_l), (20, .int .i64 (p_l.length : Int)), (21, .int .i64 (i1 : Int)), (29, v_p_l), (30, .int .i64 (i1 : Int)), (31, .int .i64 (W ((i1 : Int) - 1))), (32, .pointer (some ⟨b5, o4, none⟩)), (33, .pointer (some ⟨b5, o4, none⟩)), (34, .string ((nth p_l (W ((i1 : Int) - 1))).Who)), (35, .pointer (some ⟨b2, 0, none⟩)), (36, .string y1.Who), (37, .bool (!decide (((nth p_l (W ((i1 : Int) - 1))).Who) = y1.Who))), (40, v_p_l), (41, .pointer (some ⟨b2, 0, none⟩)), (42, .string y1.Who), (43, .int .i64 p_day), (44, .string (swimmer_clubAt p_l y1.Who p_day)), (45, .string p_club), (46, .bool (decide ((swimmer_clubAt p_l y1.Who p_day) = p_club))), (47, .bool (decide ((swimmer_clubAt p_l y1.Who p_day) = p_club)))] [true, true] rfl ⟨rfl, rfl, rfl, rfl, rfl, rfl, rfl, rfl, rfl, rfl, rfl, rfl, rfl, rfl, rfl, rfl, rfl, rfl, rfl, rfl, rfl, rfl, rfl, rfl, rfl, trivial⟩
        refine then_n ?_
        exact ⟨decide ((swimmer_clubAt p_l y1.Who p_day) = p_club), h, S.nf [true, true] rfl ⟨rfl, rfl, rfl, rfl, rfl, rfl, rfl, rfl, rfl, trivial⟩⟩
       ·replace h := iteF h hb4
        refine d_region [] ([]) Tryd.mixed S rfl (by kernel_rfl) ?_; clear S; intro w15 hk11 hsel S
        refine d_rest [0, 1, 2, 3, 4, 5, 6, 7, 8, 9, 10, 11, 12, 13, 14, 15, 16, 17, 18, 19, 20, 21] hsel (by kernel_rfl) rfl ?_
        clear hsel
        refine s_lv S rfl (rn_move (S.tm rfl)) rfl ?_; clear S; intro a S
        refine s_lv S rfl (rn_eql (S.tm rfl) rfl) rfl ?_; clear S; intro a S
        refine s_lv S rfl (rn_move (S.tm rfl)) rfl ?_; clear S; intro a S
        refine s_want S rfl rfl rfl rfl hb2 ?_
        refine s_lv0 S (rn_move (S.tm rfl)) rfl ?_; clear S; intro a S
        refine s_want S rfl rfl rfl rfl hb2 ?_
        refine s_lv0 S (rn_move (S.tm rfl)) rfl ?_; clear S; intro a S
        refine s_want S rfl rfl rfl rfl hb2 ?_
        refine s_lv0 S (rn_sub (S.tm rfl) rfl) rfl ?_; clear S; intro a S
        refine s_want S rfl rfl rfl rfl hb2 ?_
        obtain ⟨hc2, h⟩ := chkE h
        obtain ⟨b6, o5, hm5, hr6⟩ := rn_indexT (a := a) (x := .tmp 29) (y := .tmp 31) (ty := 0) sl_26 hs_p_l (inB_get hc2).1 (inB_get hc2).2 (S.tm rfl) (S.tm rfl)
        refine s_lv0 S (hr6 _) rfl ?_; clear S; intro a S
        clear hr6
        refine s_want S rfl rfl rfl rfl hb2 ?_
        refine s_lv0 S (rn_fld fa_42_0 (S.tm rfl)) rfl ?_; clear S; intro a S
        refine s_want S rfl rfl rfl rfl hb2 ?_
        refine s_lv0 S (rn_ld Tryd.isAgg9 (off := o5) (o := 0) (S.tm rfl) (hm5.at S.emb0) rfl) rfl ?_; clear S; intro a S
        refine s_want S rfl rfl rfl rfl hb2 ?_
        refine s_lv0 S (rn_fld fa_42_0 (S.tm rfl)) rfl ?_; clear S; intro a S
        refine s_want S rfl rfl rfl rfl hb2 ?_
        refine s_lv0 S (rn_load Tryd.isAgg9 (S.tm rfl) (S.cell (i := 0) rfl rfl)) rfl ?_; clear S; intro a S
        refine s_want S rfl rfl rfl rfl hb2 ?_
        refine s_lv0 S (rn_sneq (S.tm rfl) (S.tm rfl)) rfl ?_; clear S; intro a S
        refine s_lv S rfl (rn_pick_c hb2 (S.tm rfl) (S.tm rfl)) rfl ?_; clear S; intro a S
        refine s_lv S rfl (rn_move (S.tm rfl)) rfl ?_; clear S; intro a S
        refine s_skip S rfl rfl rfl rfl (neq_f hb4) rfl ?_ rfl; clear S; intro a S
        refine s_skip S rfl rfl rfl rfl (neq_f hb4) rfl ?_ rfl; clear S; intro a S
        refine s_skip S rfl rfl rfl rfl (neq_f hb4) rfl ?_ rfl; clear S; intro a S
        refine s_skip S rfl rfl rfl rfl (neq_f hb4) rfl ?_ rfl; clear S; intro a S
        refine s_skip S rfl rfl rfl rfl (neq_f hb4) rfl ?_ rfl; clear S; intro a S
        refine s_skip S rfl rfl rfl rfl (neq_f hb4) rfl ?_ rfl; clear S; intro a S
        refine s_skip S rfl rfl rfl rfl (neq_f hb4) rfl ?_ rfl; clear S; intro a S
        refine s_lv S rfl (rn_pick_c hb4 (S.tm rfl) rfl) rfl ?_; clear S; intro a S
        refine s_done ?_
        replace S := S.nk [.blk b2 [.string y1.Who, .string y1.Club, .int .i64 y1.Day] 42, .own v2 9 1 x1.length (x1.flatMap eStr)] [(0, v_p_l), (1, .string p_club), (2, .int .i64 p_day), (9, v2), (11, .pointer (some ⟨b2, 0, none⟩)), (19, v_p_l), (20, .int .i64 (p_l.length : Int)), (21, .int .i64 (i1 : Int)), (29, v_p_l), (30, .int .i64 (i1 : Int)), (31, .int .i64 (W ((i1 : Int) - 1))), (32, .pointer (some ⟨b6, o5, none⟩)), (33, .pointer (some ⟨b6, o5, none⟩)), (34, .string ((nth p_l (W ((i1 : Int) - 1))).Who)), (35, .pointer (some ⟨b2, 0, none⟩)), (36, .string y1.Who), (37, .bool (!decide (((nth p_l (W ((i1 : Int) - 1))).Who) = y1.Who))), (47, .bool false)] [true, true] rfl ⟨rfl, rfl, rfl, rfl, rfl, rfl, rfl, rfl, rfl, rfl, rfl, rfl, rfl, rfl, rfl, rfl, rfl, rfl, trivial⟩
        refine then_n ?_
        exact ⟨false, h, S.nf [true, true] rfl ⟨rfl, rfl, rfl, rfl, rfl, rfl, rfl, rfl, rfl, trivial⟩⟩
     clear S h; rintro a w7 ⟨x3, h, S⟩; rw [hj3] at h; clear hj3 j3
     refine then_n ?_
     obtain ⟨j4, hj4, h⟩ := joinE h
     refine f_join (fun a w' => ∃ x4 : List ByteArray, ∃ v8 : Value, j4 x4 = some r ∧ Sx w [] nov [.own v8 9 1 x4.length (x4.flatMap eStr)] [(0, v_p_l), (1, .string p_club), (2, .int .i64 p_day), (9, v8), (19, v_p_l), (20, .int .i64 (p_l.length : Int)), (21, .int .i64 (i1 : Int))] 55 a w') ?_ ?_
     ·refine f_cond (S.tm rfl) (fun hb5 => ?_) (fun hb5 => ?_)
      ·replace h := iteT h hb5
       refine f_region ?_
       refine lv S (rn_move (S.tm rfl)) rfl ?_; clear S; intro a S
       refine lv S (rn_fld fa_42_0 (S.tm rfl)) rfl ?_; clear S; intro a S
       refine lv S (rn_load Tryd.isAgg9 (S.tm rfl) (S.cell (i := 0) rfl rfl)) rfl ?_; clear S; intro a S
       refine l_buildSlice S Tryd.underlying29 Tryd.sizeOf9 Tryd.zeroValue9 rfl rfl (pv := [(0, .string y1.Who)]) ⟨rfl, (S.tm rfl), trivial⟩ (cs := [.string y1.Who]) (by kernel_rfl) rfl ?_; clear S; intro a w17 b7 hz2 hk12 S
       obtain ⟨hc3, h⟩ := chkE h
       refine l_appendT sl_29 enc_str S (S.tm rfl) (i := 2) rfl (S.tm rfl) (j := 0) rfl (ys := [y1.Who]) rfl rfl rfl rfl (by have := room_lt hc3; omega) rfl ?_; clear S; intro v9 a w18 hk13 S
       refine lv S (rn_assign (S.tm rfl)) rfl ?_; clear S; intro a S
       refine l_done ?_
       replace S := S.nk [.own v9 9 1 (x1 ++ [y1.Who]).length ((x1 ++ [y1.Who]).flatMap eStr)] [(0, v_p_l), (1, .string p_club), (2, .int .i64 p_day), (9, v9), (19, v_p_l), (20, .int .i64 (p_l.length : Int)), (21, .int .i64 (i1 : Int))] [false, false, true] rfl ⟨rfl, rfl, rfl, rfl, rfl, rfl, rfl, trivial⟩
       refine then_n ?_
       exact ⟨(x1 ++ [y1.Who]), v9, h, S.nf [true] rfl ⟨rfl, rfl, rfl, rfl, rfl, rfl, rfl, trivial⟩⟩
      ·replace h := iteF h hb5
       refine wp_skip ?_
       refine then_n ?_
       exact ⟨x1, v2, h, S.nf [false, true] rfl ⟨rfl, rfl, rfl, rfl, rfl, rfl, rfl, trivial⟩⟩
     clear S h; rintro a w16 ⟨x4, v8, h, S⟩; rw [hj4] at h; clear hj4 j4
     refine blk_n ?_
     refine then_n ?_
     exact ⟨x4, v8, h, S.nf [true] rfl ⟨rfl, rfl, rfl, rfl, rfl, rfl, rfl, trivial⟩⟩
    clear S h; rintro a w4 ⟨x2, v3, h, S⟩; rw [hj2] at h; clear hj2 j2
    refine then_n ?_
    refine f_region ?_
    refine lv S (rn_add (S.tm rfl) rfl) rfl ?_; clear S; intro a S
    refine lv S (rn_move (S.tm rfl)) rfl ?_; clear S; intro a S
    refine l_done ?_
    replace S := S.nk [.own v3 9 1 x2.length (x2.flatMap eStr)] [(0, v_p_l), (1, .string p_club), (2, .int .i64 p_day), (9, v3), (19, v_p_l), (20, .int .i64 (p_l.length : Int)), (21, .int .i64 (W ((i1 : Int) + 1)))] [true] rfl ⟨rfl, rfl, rfl, rfl, rfl, rfl, rfl, trivial⟩
    refine then_n ?_
    exact ⟨ys1, ⟨i1 + 1, x2, v3, ⟨_, (hd1).trans (List.append_cons _ _ _), by simp [hi1]⟩, h, S.nf [true] rfl ⟨rfl, rfl, rfl, rfl, rfl, rfl, (congrArg (fun z => some (Value.int .i64 z)) (rng_next hd1 hi1 (slc_max hs_p_l))), trivial⟩⟩, Nat.lt_succ_self _⟩
  clear S h; rintro a w3 ⟨x1, v2, h, S⟩; rw [hj1] at h; clear hj1 j1
  refine then_n ?_
  refine f_seq ?_
  refine f_region ?_
  refine lv S (rn_move (S.tm rfl)) rfl ?_; clear S; intro a S
  refine lv S (rn_assign (S.tm rfl)) rfl ?_; clear S; intro a S
  refine lv S (rn_assign rfl) rfl ?_; clear S; intro a S
  refine l_done ?_
  replace S := S.nk [.own v2 9 1 x1.length (x1.flatMap eStr)] [(6, v2), (7, .int .i64 0)] [true] rfl ⟨rfl, rfl, trivial⟩
  refine then_n ?_
  refine wp_ret ?_
  obtain rfl := Option.some.inj h
  exact f_ret2 S Tryd.results6 rfl rfl ⟨_, rfl, (own_retT S (i := 0) rfl rfl)⟩
theorem tumbkeep2_errs_ok (w : World) (v_p_l : Value) (p_l : List Int) (hs_p_l : Slc (view w []) 1 v_p_l (p_l.map eInt)) (r : Int) (h : tumbkeep2_errs p_l = r) :
    Calls Tryd.prog 7 [v_p_l].toArray w (Ret w [] fun _ v _ => v = .int .i64 r) := by
 refine f_enter [] [] Tryd.func7 rfl Tryd.ntmps7 rfl (by simp) (by simp [fps]) (by simp [fps]) fun a S => ?_
 unfold tumbkeep2_errs at h
 replace S := S.nk [] [(0, v_p_l)] [] rfl ⟨rfl, trivial⟩
 refine f_seq ?_
 refine f_region ?_
 refine lv S (rn_assign rfl) rfl ?_; clear S; intro a S
 refine l_done ?_
 replace S := S.nk [] [(0, v_p_l)] [] rfl ⟨rfl, trivial⟩
 refine then_n ?_
 refine f_seq ?_
 refine f_seq ?_
 refine f_region ?_
 refine lv S (rn_move (S.tm rfl)) rfl ?_; clear S; intro a S
 refine lv S (rn_lenT sl_46 (S.tm rfl) (slc_len hs_p_l)) rfl ?_; clear S; intro a S
 refine lv S (rn_move rfl) rfl ?_; clear S; intro a S
 refine l_done ?_
 replace S := S.nk [] [(5, v_p_l), (6, .int .i64 (p_l.length : Int)), (7, .int .i64 0)] [] rfl ⟨rfl, rfl, rfl, trivial⟩
 refine then_n ?_
 obtain ⟨j1, hj1, h⟩ := joinE h
 refine f_join (fun a w' => j1 = r ∧ Sx w [] nov [] [] 15 a w') ?_ ?_
 ·refine wp_block ?_
  refine f_loop (fun (ys1 : List Int) a w' => ∃ i1 : Nat, (∃ dn, p_l = dn ++ ys1 ∧ dn.length = i1) ∧ tumbkeep2_errs_l1 j1 ys1 i1 = r ∧ Sx w [] nov [] [(5, v_p_l), (6, .int .i64 (p_l.length : Int)), (7, .int .i64 (i1 : Int))] 15 a w') List.length p_l ⟨0, ⟨[], rfl, rfl⟩, h, S.nf [] rfl ⟨rfl, rfl, rfl, trivial⟩⟩ ?_
  clear S h; rintro ys1 a w1 ⟨i1, ⟨dn, hd1, hi1⟩, h, S⟩
  cases ys1 with
  | nil =>
   rw [tumbkeep2_errs_l1.eq_1] at h
   refine f_seq ?_
   refine f_region ?_
   refine lv S (rn_lss (S.tm rfl) (S.tm rfl)) rfl ?_; clear S; intro a S
   refine l_done ?_
   replace S := S.nk [] [(5, v_p_l), (6, .int .i64 (p_l.length : Int)), (7, .int .i64 (i1 : Int)), (8, .bool (decide ((i1 : Int) < (p_l.length : Int))))] [] rfl ⟨rfl, rfl, rfl, rfl, trivial⟩
   refine then_n ?_
   refine f_seq ?_
   refine wp_cond_false ((S.tm rfl).trans (congrArg Value.bool (rng_nil hd1 hi1))) ?_
   refine wp_exit ?_
   refine then_x ?_
   refine then_x ?_
   refine x_same ?_
   refine then_n ?_
   exact ⟨h, S.nf [] rfl trivial⟩
  | cons y1 ys1 =>
   rw [tumbkeep2_errs_l1.eq_2] at h
   refine f_seq ?_
   refine f_region ?_
   refine lv S (rn_lss (S.tm rfl) (S.tm rfl)) rfl ?_; clear S; intro a S
   refine l_done ?_
   replace S := S.nk [] [(5, v_p_l), (6, .int .i64 (p_l.length : Int)), (7, .int .i64 (i1 : Int)), (8, .bool (decide ((i1 : Int) < (p_l.length : Int))))] [] rfl ⟨rfl, rfl, rfl, rfl, trivial⟩
   refine then_n ?_
   refine f_seq ?_
   refine wp_cond_true ((S.tm rfl).trans (congrArg Value.bool (rng_cons hd1 hi1))) ?_
   refine wp_skip ?_
   refine then_n ?_
   refine f_seq ?_
   refine wp_block ?_
   refine f_seq ?_
   refine f_region ?_
   obtain ⟨b1, o1, hm1, hr1⟩ := rn_indexT (a := a) (x := .tmp 5) (y := .tmp 7) (ty := 0) sl_46 hs_p_l (get_mid hd1 hi1) rfl (S.tm rfl) (S.tm rfl)
   refine lv S (hr1 _) rfl ?_; clear S; intro a S
   clear hr1
   refine lv S (rn_ld Tryd.isAgg30 (off := o1) (o := 0) (S.tm rfl) (hm1.at S.emb0) rfl) rfl ?_; clear S; intro a S
   refine lv S (rn_assign (S.tm rfl)) rfl ?_; clear S; intro a S
   refine l_done ?_
   replace S := S.nk [] [(4, .int .i64 y1), (5, v_p_l), (6, .int .i64 (p_l.length : Int)), (7, .int .i64 (i1 : Int))] [] rfl ⟨rfl, rfl, rfl, rfl, trivial⟩
   refine then_n ?_
   refine f_seq ?_
   refine f_region ?_
   refine lv S (rn_move (S.tm rfl)) rfl ?_; clear S; intro a S
   refine lv S (rn_neq (S.tm rfl) rfl) rfl ?_; clear S; intro a S
   refine l_done ?_
   replace S := S.nk [] [(4, .int .i64 y1), (5, v_p_l), (6, .int .i64 (p_l.length : Int)), (7, .int .i64 (i1 : Int)), (12, .bool (!decide (y1 = 0)))] [] rfl ⟨rfl, rfl, rfl, rfl, rfl, trivial⟩
   refine then_n ?_
   refine f_cond (S.tm rfl) (fun hb1 => ?_) (fun hb1 => ?_)
   ·replace h := iteT h hb1
    refine f_seq ?_
    refine f_region ?_
    refine lv S (rn_move (S.tm rfl)) rfl ?_; clear S; intro a S
    refine lv S (rn_assign (S.tm rfl)) rfl ?_; clear S; intro a S
    refine l_done ?_
    replace S := S.nk [] [(2, .int .i64 y1)] [] rfl ⟨rfl, trivial⟩
    refine then_n ?_
    refine wp_ret ?_
    refine blk_r ?_
    refine then_r ?_
    refine then_r ?_
    refine blk_r ?_
    refine then_r ?_
    refine then_r ?_
    subst h
    exact f_ret S Tryd.results7 rfl rfl
   ·replace h := iteF h hb1
    refine wp_skip ?_
    refine blk_n ?_
    refine then_n ?_
    refine f_region ?_
    refine lv S (rn_add (S.tm rfl) rfl) rfl ?_; clear S; intro a S
    refine lv S (rn_move (S.tm rfl)) rfl ?_; clear S; intro a S
    refine l_done ?_
    replace S := S.nk [] [(5, v_p_l), (6, .int .i64 (p_l.length : Int)), (7, .int .i64 (W ((i1 : Int) + 1)))] [] rfl ⟨rfl, rfl, rfl, trivial⟩
    refine then_n ?_
    exact ⟨ys1, ⟨i1 + 1, ⟨_, (hd1).trans (List.append_cons _ _ _), by simp [hi1]⟩, h, S.nf [] rfl ⟨rfl, rfl, (congrArg (fun z => some (Value.int .i64 z)) (rng_next hd1 hi1 (slc_max hs_p_l))), trivial⟩⟩, Nat.lt_succ_self _⟩
 clear S h; rintro a w2 ⟨h, S⟩; rw [hj1] at h; clear hj1 j1
 refine then_n ?_
 refine f_seq ?_
 refine f_region ?_
 refine lv S (rn_assign rfl) rfl ?_; clear S; intro a S
 refine l_done ?_
 replace S := S.nk [] [(2, .int .i64 0)] [] rfl ⟨rfl, trivial⟩
 refine then_n ?_
 refine wp_ret ?_
 subst h
 exact f_ret S Tryd.results7 rfl rfl
theorem swimmer_ClubAt_ok (w : World) (v_p_l : Value) (p_l : List GMove) (hs_p_l : Slc (view w []) 3 v_p_l (p_l.map GMove.enc)) (p_who : ByteArray) (p_day : Int) (r : ByteArray × Int) (h : swimmer_ClubAt p_l p_who p_day = some r) :
    Calls Tryd.prog 8 [v_p_l, .string p_who, .int .i64 p_day].toArray w (Ret w [] fun _ v _ => v = .tuple #[.string r.1, .int .i64 r.2]) := by
 refine f_enter [] [] Tryd.func8 rfl Tryd.ntmps8 rfl (by simp) (by simp [fps]) (by simp [fps]) fun a S => ?_
 unfold swimmer_ClubAt at h
 replace S := S.nk [] [(0, v_p_l), (1, .string p_who), (2, .int .i64 p_day)] [] rfl ⟨rfl, rfl, rfl, trivial⟩
 refine f_seq ?_
 refine f_region ?_
 refine lv S (rn_assign rfl) rfl ?_; clear S; intro a S
 refine lv S (rn_assign rfl) rfl ?_; clear S; intro a S
 refine l_done ?_
 replace S := S.nk [] [(0, v_p_l), (1, .string p_who), (2, .int .i64 p_day)] [] rfl ⟨rfl, rfl, rfl, trivial⟩
 refine then_n ?_
 refine f_seq ?_
 refine f_seq ?_
 refine f_region ?_
 refine lv S (rn_move (S.tm rfl)) rfl ?_; clear S; intro a S
 refine lv S (rn_move (S.tm rfl)) rfl ?_; clear S; intro a S
 refine lv S (rn_move (S.tm rfl)) rfl ?_; clear S; intro a S
 obtain ⟨r1, hr1, h⟩ := bindE h
 refine l_enter S (fun _ => run_call (vs := [v_p_l, .string p_who, .int .i64 p_day]) ⟨(S.tm rfl), (S.tm rfl), (S.tm rfl), trivial⟩ Tryd.call14) (swimmer_checkClub_ok _ v_p_l p_l (hs_p_l.mono (S.le_arg nil_sub)) p_who p_day _ hr1) rfl ?_; clear S; intro v1 a w1 hv1 hk1 hn1 S
 subst hv1
 refine lv S (rn_assign (S.tm rfl)) rfl ?_; clear S; intro a S
 refine l_done ?_
 replace S := S.nk [] [(0, v_p_l), (1, .string p_who), (2, .int .i64 p_day), (8, .int .i64 r1)] [] rfl ⟨rfl, rfl, rfl, rfl, trivial⟩
 refine then_n ?_
 refine f_seq ?_
 refine f_region ?_
 refine lv S (rn_move (S.tm rfl)) rfl ?_; clear S; intro a S
 refine lv S (rn_neq (S.tm rfl) rfl) rfl ?_; clear S; intro a S
 refine l_done ?_
 replace S := S.nk [] [(0, v_p_l), (1, .string p_who), (2, .int .i64 p_day), (8, .int .i64 r1), (14, .bool (!decide (r1 = 0)))] [] rfl ⟨rfl, rfl, rfl, rfl, rfl, trivial⟩
 refine then_n ?_
 refine f_cond (S.tm rfl) (fun hb1 => ?_) (fun hb1 => ?_)
 ·replace h := iteT h hb1
  refine f_seq ?_
  refine f_region ?_
  refine lv S (rn_move (S.tm rfl)) rfl ?_; clear S; intro a S
  refine lv S (rn_assign rfl) rfl ?_; clear S; intro a S
  refine lv S (rn_assign (S.tm rfl)) rfl ?_; clear S; intro a S
  refine l_done ?_
  replace S := S.nk [] [(6, .string k_empty), (7, .int .i64 r1)] [] rfl ⟨rfl, rfl, trivial⟩
  refine then_n ?_
  refine wp_ret ?_
  refine then_r ?_
  obtain rfl := Option.some.inj h
  exact f_ret2 S Tryd.results8 rfl rfl rfl
 ·replace h := iteF h hb1
  refine wp_skip ?_
  refine then_n ?_
  refine f_seq ?_
  refine f_region ?_
  refine lv S (rn_move (S.tm rfl)) rfl ?_; clear S; intro a S
  refine lv S (rn_move (S.tm rfl)) rfl ?_; clear S; intro a S
  refine lv S (rn_move (S.tm rfl)) rfl ?_; clear S; intro a S
  refine l_enter S (fun _ => run_call (vs := [v_p_l, .string p_who, .int .i64 p_day]) ⟨(S.tm rfl), (S.tm rfl), (S.tm rfl), trivial⟩ Tryd.call15) (swimmer_clubAt_ok _ v_p_l p_l (hs_p_l.mono (S.le_arg nil_sub)) p_who p_day _ rfl) rfl ?_; clear S; intro v2 a w2 hv2 hk2 hn2 S
  subst hv2
  refine lv S (rn_assign (S.tm rfl)) rfl ?_; clear S; intro a S
  refine lv S (rn_assign rfl) rfl ?_; clear S; intro a S
  refine l_done ?_
  replace S := S.nk [] [(6, .string (swimmer_clubAt p_l p_who p_day)), (7, .int .i64 0)] [] rfl ⟨rfl, rfl, trivial⟩
  refine then_n ?_
  refine wp_ret ?_
  obtain rfl := Option.some.inj h
  exact f_ret2 S Tryd.results8 rfl rfl rfl
theorem slices_Index_string_ok (w : World) (v_p_s : Value) (p_s : List ByteArray) (hs_p_s : Slc (view w []) 1 v_p_s (p_s.map eStr)) (p_v : ByteArray) (r : Int) (h : slices_Index_string p_s p_v = r) :
    Calls Tryd.prog 16 [v_p_s, .string p_v].toArray w (Ret w [] fun _ v _ => v = .int .i64 r) := by
 refine f_enter [] [] Tryd.func16 rfl Tryd.ntmps16 rfl (by simp) (by simp [fps]) (by simp [fps]) fun a S => ?_
 unfold slices_Index_string at h
 replace S := S.nk [] [(0, v_p_s), (1, .string p_v)] [] rfl ⟨rfl, rfl, trivial⟩
 refine f_seq ?_
 refine f_region ?_
 refine lv S (rn_assign rfl) rfl ?_; clear S; intro a S
 refine l_done ?_
 replace S := S.nk [] [(0, v_p_s), (1, .string p_v)] [] rfl ⟨rfl, rfl, trivial⟩
 refine then_n ?_
 refine f_seq ?_
 refine f_seq ?_
 refine f_region ?_
 refine lv S (rn_move (S.tm rfl)) rfl ?_; clear S; intro a S
 refine lv S (rn_lenT sl_29 (S.tm rfl) (slc_len hs_p_s)) rfl ?_; clear S; intro a S
 refine lv S (rn_move rfl) rfl ?_; clear S; intro a S
 refine l_done ?_
 replace S := S.nk [] [(0, v_p_s), (1, .string p_v), (7, .int .i64 (p_s.length : Int)), (8, .int .i64 0)] [] rfl ⟨rfl, rfl, rfl, rfl, trivial⟩
 refine then_n ?_
 obtain ⟨j1, hj1, h⟩ := joinE h
 refine f_join (fun a w' => j1 = r ∧ Sx w [] nov [] [] 19 a w') ?_ ?_
 ·refine wp_block ?_
  refine f_loop (fun (ys1 : List ByteArray) a w' => ∃ i1 : Nat, (∃ dn, p_s = dn ++ ys1 ∧ dn.length = i1) ∧ slices_Index_string_l1 p_v j1 ys1 i1 = r ∧ Sx w [] nov [] [(0, v_p_s), (1, .string p_v), (7, .int .i64 (p_s.length : Int)), (8, .int .i64 (i1 : Int))] 19 a w') List.length p_s ⟨0, ⟨[], rfl, rfl⟩, h, S.nf [] rfl ⟨rfl, rfl, rfl, rfl, trivial⟩⟩ ?_
  clear S h; rintro ys1 a w1 ⟨i1, ⟨dn, hd1, hi1⟩, h, S⟩
  cases ys1 with
  | nil =>
   rw [slices_Index_string_l1.eq_1] at h
   refine f_seq ?_
   refine f_region ?_
   refine lv S (rn_lss (S.tm rfl) (S.tm rfl)) rfl ?_; clear S; intro a S
   refine l_done ?_
   replace S := S.nk [] [(0, v_p_s), (1, .string p_v), (7, .int .i64 (p_s.length : Int)), (8, .int .i64 (i1 : Int)), (9, .bool (decide ((i1 : Int) < (p_s.length : Int))))] [] rfl ⟨rfl, rfl, rfl, rfl, rfl, trivial⟩
   refine then_n ?_
   refine f_seq ?_
   refine wp_cond_false ((S.tm rfl).trans (congrArg Value.bool (rng_nil hd1 hi1))) ?_
   refine wp_exit ?_
   refine then_x ?_
   refine then_x ?_
   refine x_same ?_
   refine then_n ?_
   exact ⟨h, S.nf [] rfl trivial⟩
  | cons y1 ys1 =>
   rw [slices_Index_string_l1.eq_2] at h
   refine f_seq ?_
   refine f_region ?_
   refine lv S (rn_lss (S.tm rfl) (S.tm rfl)) rfl ?_; clear S; intro a S
   refine l_done ?_
   replace S := S.nk [] [(0, v_p_s), (1, .string p_v), (7, .int .i64 (p_s.length : Int)), (8, .int .i64 (i1 : Int)), (9, .bool (decide ((i1 : Int) < (p_s.length : Int))))] [] rfl ⟨rfl, rfl, rfl, rfl, rfl, trivial⟩
   refine then_n ?_
   refine f_seq ?_
   refine wp_cond_true ((S.tm rfl).trans (congrArg Value.bool (rng_cons hd1 hi1))) ?_
   refine wp_skip ?_
   refine then_n ?_
   refine f_seq ?_
   refine wp_block ?_
   refine f_seq ?_
   refine f_region ?_
   refine lv S (rn_move (S.tm rfl)) rfl ?_; clear S; intro a S
   refine lv S (rn_assign (S.tm rfl)) rfl ?_; clear S; intro a S
   refine l_done ?_
   replace S := S.nk [] [(0, v_p_s), (1, .string p_v), (5, .int .i64 (i1 : Int)), (7, .int .i64 (p_s.length : Int)), (8, .int .i64 (i1 : Int))] [] rfl ⟨rfl, rfl, rfl, rfl, rfl, trivial⟩
   refine then_n ?_
   refine f_seq ?_
   refine f_region ?_
   refine lv S (rn_move (S.tm rfl)) rfl ?_; clear S; intro a S
   refine lv S (rn_move (S.tm rfl)) rfl ?_; clear S; intro a S
   refine lv S (rn_move (S.tm rfl)) rfl ?_; clear S; intro a S
   obtain ⟨b1, o1, hm1, hr1⟩ := rn_indexT (a := a) (x := .tmp 12) (y := .tmp 13) (ty := 0) sl_29 hs_p_s (get_mid hd1 hi1) rfl (S.tm rfl) (S.tm rfl)
   refine lv S (hr1 _) rfl ?_; clear S; intro a S
   clear hr1
   refine lv S (rn_ld Tryd.isAgg9 (off := o1) (o := 0) (S.tm rfl) (hm1.at S.emb0) rfl) rfl ?_; clear S; intro a S
   refine lv S (rn_seql (S.tm rfl) (S.tm rfl)) rfl ?_; clear S; intro a S
   refine l_done ?_
   replace S := S.nk [] [(0, v_p_s), (1, .string p_v), (5, .int .i64 (i1 : Int)), (7, .int .i64 (p_s.length : Int)), (8, .int .i64 (i1 : Int)), (16, .bool (decide (p_v = y1)))] [] rfl ⟨rfl, rfl, rfl, rfl, rfl, rfl, trivial⟩
   refine then_n ?_
   refine f_cond (S.tm rfl) (fun hb1 => ?_) (fun hb1 => ?_)
   ·replace h := iteT h hb1
    refine f_seq ?_
    refine f_region ?_
    refine lv S (rn_move (S.tm rfl)) rfl ?_; clear S; intro a S
    refine lv S (rn_assign (S.tm rfl)) rfl ?_; clear S; intro a S
    refine l_done ?_
    replace S := S.nk [] [(4, .int .i64 (i1 : Int))] [] rfl ⟨rfl, trivial⟩
    refine then_n ?_
    refine wp_ret ?_
    refine blk_r ?_
    refine then_r ?_
    refine then_r ?_
    refine blk_r ?_
    refine then_r ?_
    refine then_r ?_
    subst h
    exact f_ret S Tryd.results16 rfl rfl
   ·replace h := iteF h hb1
    refine wp_skip ?_
    refine blk_n ?_
    refine then_n ?_
    refine f_region ?_
    refine lv S (rn_add (S.tm rfl) rfl) rfl ?_; clear S; intro a S
    refine lv S (rn_move (S.tm rfl)) rfl ?_; clear S; intro a S
    refine l_done ?_
    replace S := S.nk [] [(0, v_p_s), (1, .string p_v), (7, .int .i64 (p_s.length : Int)), (8, .int .i64 (W ((i1 : Int) + 1)))] [] rfl ⟨rfl, rfl, rfl, rfl, trivial⟩
    refine then_n ?_
    exact ⟨ys1, ⟨i1 + 1, ⟨_, (hd1).trans (List.append_cons _ _ _), by simp [hi1]⟩, h, S.nf [] rfl ⟨rfl, rfl, rfl, (congrArg (fun z => some (Value.int .i64 z)) (rng_next hd1 hi1 (slc_max hs_p_s))), trivial⟩⟩, Nat.lt_succ_self _⟩
 clear S h; rintro a w2 ⟨h, S⟩; rw [hj1] at h; clear hj1 j1
 refine then_n ?_
 refine f_seq ?_
 refine f_region ?_
 refine lv S (rn_assign rfl) rfl ?_; clear S; intro a S
 refine l_done ?_
 replace S := S.nk [] [(4, .int .i64 (-1))] [] rfl ⟨rfl, trivial⟩
 refine then_n ?_
 refine wp_ret ?_
 subst h
 exact f_ret S Tryd.results16 rfl rfl
theorem slices_Contains_string_ok (w : World) (v_p_s : Value) (p_s : List ByteArray) (hs_p_s : Slc (view w []) 1 v_p_s (p_s.map eStr)) (p_v : ByteArray) (r : Bool) (h : slices_Contains_string p_s p_v = r) :
    Calls Tryd.prog 9 [v_p_s, .string p_v].toArray w (Ret w [] fun _ v _ => v = .bool r) := by
 refine f_enter [] [] Tryd.func9 rfl Tryd.ntmps9 rfl (by simp) (by simp [fps]) (by simp [fps]) fun a S => ?_
 unfold slices_Contains_string at h
 replace S := S.nk [] [(0, v_p_s), (1, .string p_v)] [] rfl ⟨rfl, rfl, trivial⟩
 refine f_seq ?_
 refine f_region ?_
 refine lv S (rn_assign rfl) rfl ?_; clear S; intro a S
 refine l_done ?_
 replace S := S.nk [] [(0, v_p_s), (1, .string p_v)] [] rfl ⟨rfl, rfl, trivial⟩
 refine then_n ?_
 refine f_seq ?_
 refine f_region ?_
 refine lv S (rn_move (S.tm rfl)) rfl ?_; clear S; intro a S
 refine lv S (rn_move (S.tm rfl)) rfl ?_; clear S; intro a S
 refine l_enter S (fun _ => run_call (vs := [v_p_s, .string p_v]) ⟨(S.tm rfl), (S.tm rfl), trivial⟩ Tryd.call16) (slices_Index_string_ok _ v_p_s p_s (hs_p_s.mono (S.le_arg nil_sub)) p_v _ rfl) rfl ?_; clear S; intro v1 a w1 hv1 hk1 hn1 S
 subst hv1
 refine lv S (rn_geq (S.tm rfl) rfl) rfl ?_; clear S; intro a S
 refine lv S (rn_assign (S.tm rfl)) rfl ?_; clear S; intro a S
 refine l_done ?_
 replace S := S.nk [] [(4, .bool (decide (0 ≤ (slices_Index_string p_s p_v))))] [] rfl ⟨rfl, trivial⟩
 refine then_n ?_
 refine wp_ret ?_
 subst h
 exact f_ret S Tryd.results9 rfl rfl
theorem swimmer_leap_ok (w : World) (p_year : Int) (r : Bool) (h : swimmer_leap p_year = r) :
    Calls Tryd.prog 41 [.int .i64 p_year].toArray w (Ret w [] fun _ v _ => v = .bool r) := by
 refine f_enter [] [] Tryd.func41 rfl Tryd.ntmps41 rfl (by simp) (by simp [fps]) (by simp [fps]) fun a S => ?_
 unfold swimmer_leap at h
 replace S := S.nk [] [(0, .int .i64 p_year)] [] rfl ⟨rfl, trivial⟩
 refine f_seq ?_
 refine f_region ?_
 refine lv S (rn_assign rfl) rfl ?_; clear S; intro a S
 refine l_done ?_
 replace S := S.nk [] [(0, .int .i64 p_year)] [] rfl ⟨rfl, trivial⟩
 refine then_n ?_
 refine f_seq ?_
 refine f_region ?_
 refine lv S (rn_move (S.tm rfl)) rfl ?_; clear S; intro a S
 refine lv S (rn_rem (S.tm rfl) rfl (by decide)) rfl ?_; clear S; intro a S
 refine lv S (rn_eql (S.tm rfl) rfl) rfl ?_; clear S; intro a S
 refine lv S (rn_move (S.tm rfl)) rfl ?_; clear S; intro a S
 refine f_cutm 9 (fun a w' => Keep [] w w' ∧ Sx w [] nov [] [(15, .bool ((decide ((Int.tmod p_year 4) = 0)) && ((!decide ((Int.tmod p_year 100) = 0)) || (decide ((Int.tmod p_year 400) = 0)))))] 16 a w') ?_ ?_
 ·rcases Bool.eq_false_or_eq_true (decide ((Int.tmod p_year 4) = 0)) with hb1 | hb1
  ·refine l_want S rfl rfl rfl hb1 ?_
   refine lv S (rn_move (S.tm rfl)) rfl ?_; clear S; intro a S
   refine l_want S rfl rfl rfl hb1 ?_
   refine lv S (rn_rem (S.tm rfl) rfl (by decide)) rfl ?_; clear S; intro a S
   refine l_want S rfl rfl rfl hb1 ?_
   refine lv S (rn_neq (S.tm rfl) rfl) rfl ?_; clear S; intro a S
   refine l_want S rfl rfl rfl hb1 ?_
   refine lv S (rn_move (S.tm rfl)) rfl ?_; clear S; intro a S
   refine f_cutm 4 (fun a w' => Keep [] w w' ∧ Sx w [] nov [] [(6, .bool (decide ((Int.tmod p_year 4) = 0))), (14, .bool ((!decide ((Int.tmod p_year 100) = 0)) || (decide ((Int.tmod p_year 400) = 0))))] 16 a w') ?_ ?_
   ·rcases Bool.eq_false_or_eq_true (!decide ((Int.tmod p_year 100) = 0)) with hb2 | hb2
    ·refine l_skip S rfl rfl rfl (neq_t hb2) rfl ?_ rfl; clear S; intro a S
     refine l_skip S rfl rfl rfl (neq_t hb2) rfl ?_ rfl; clear S; intro a S
     refine l_skip S rfl rfl rfl (neq_t hb2) rfl ?_ rfl; clear S; intro a S
     refine l_want S rfl rfl rfl hb1 ?_
     refine lv S (rn_or_t (decide ((Int.tmod p_year 400) = 0)) hb2 (S.tm rfl) rfl) rfl ?_; clear S; intro a S
     refine l_done ?_
     refine then_n ?_
     exact ⟨Keep.refl _ _, S.nf [] rfl ⟨rfl, rfl, trivial⟩⟩
    ·refine l_want S rfl rfl rfl hb2 ?_
     refine lv S (rn_move (S.tm rfl)) rfl ?_; clear S; intro a S
     refine l_want S rfl rfl rfl hb2 ?_
     refine lv S (rn_rem (S.tm rfl) rfl (by decide)) rfl ?_; clear S; intro a S
     refine l_want S rfl rfl rfl hb2 ?_
     refine lv S (rn_eql (S.tm rfl) rfl) rfl ?_; clear S; intro a S
     refine l_want S rfl rfl rfl hb1 ?_
     refine lv S (rn_or_f hb2 (S.tm rfl) (S.tm rfl)) rfl ?_; clear S; intro a S
     refine l_done ?_
     refine then_n ?_
     exact ⟨Keep.refl _ _, S.nf [] rfl ⟨rfl, rfl, trivial⟩⟩
   clear S; rintro a w2 ⟨hk1, S⟩
   refine lv S (rn_and_t hb1 (S.tm rfl) (S.tm rfl)) rfl ?_; clear S; intro a S
   refine l_done ?_
   refine then_n ?_
   exact ⟨hk1, S.nf [] rfl ⟨rfl, trivial⟩⟩
  ·refine l_skip S rfl rfl rfl (neq_f hb1) rfl ?_ rfl; clear S; intro a S
   refine l_skip S rfl rfl rfl (neq_f hb1) rfl ?_ rfl; clear S; intro a S
   refine l_skip S rfl rfl rfl (neq_f hb1) rfl ?_ rfl; clear S; intro a S
   refine l_skip S rfl rfl rfl (neq_f hb1) rfl ?_ rfl; clear S; intro a S
   refine l_skipU S rfl rfl rfl rfl ?_; clear S; intro a S
   refine l_skipU S rfl rfl rfl rfl ?_; clear S; intro a S
   refine l_skipU S rfl rfl rfl rfl ?_; clear S; intro a S
   refine l_skip S rfl rfl rfl (neq_f hb1) rfl ?_ rfl; clear S; intro a S
   refine lv S (rn_and_f ((!decide ((Int.tmod p_year 100) = 0)) || (decide ((Int.tmod p_year 400) = 0))) hb1 (S.tm rfl) rfl) rfl ?_; clear S; intro a S
   refine l_done ?_
   refine then_n ?_
   exact ⟨Keep.refl _ _, S.nf [] rfl ⟨rfl, trivial⟩⟩
 clear S; rintro a w1 ⟨hk2, S⟩
 refine lv S (rn_assign (S.tm rfl)) rfl ?_; clear S; intro a S
 refine l_done ?_
 replace S := S.nk [] [(2, .bool ((decide ((Int.tmod p_year 4) = 0)) && ((!decide ((Int.tmod p_year 100) = 0)) || (decide ((Int.tmod p_year 400) = 0)))))] [] rfl ⟨rfl, trivial⟩
 refine then_n ?_
 refine wp_ret ?_
 subst h
 exact f_ret S Tryd.results41 rfl rfl
theorem swimmer_long_ok (w : World) (p_year : Int) (p_month : Int) (r : Int) (h : swimmer_long p_year p_month = r) :
    Calls Tryd.prog 26 [.int .i64 p_year, .int .i64 p_month].toArray w (Ret w [] fun _ v _ => v = .int .i64 r) := by
 refine f_enter [] [] Tryd.func26 rfl Tryd.ntmps26 rfl (by simp) (by simp [fps]) (by simp [fps]) fun a S => ?_
 unfold swimmer_long at h
 replace S := S.nk [] [(0, .int .i64 p_year), (1, .int .i64 p_month)] [] rfl ⟨rfl, rfl, trivial⟩
 refine f_seq ?_
 refine f_region ?_
 refine lv S (rn_assign rfl) rfl ?_; clear S; intro a S
 refine l_done ?_
 replace S := S.nk [] [(0, .int .i64 p_year), (1, .int .i64 p_month)] [] rfl ⟨rfl, rfl, trivial⟩
 refine then_n ?_
 refine f_seq ?_
 refine f_seq ?_
 refine f_region ?_
 refine lv S (rn_move (S.tm rfl)) rfl ?_; clear S; intro a S
 refine l_done ?_
 replace S := S.nk [] [(0, .int .i64 p_year), (5, .int .i64 p_month)] [] rfl ⟨rfl, rfl, trivial⟩
 refine then_n ?_
 refine wp_block ?_
 refine f_seq ?_
 refine f_region ?_
 refine lv S (rn_eql (S.tm rfl) rfl) rfl ?_; clear S; intro a S
 refine lv S (rn_assign (S.tm rfl)) rfl ?_; clear S; intro a S
 refine l_done ?_
 replace S := S.nk [] [(0, .int .i64 p_year), (5, .int .i64 p_month), (6, .bool (decide (p_month = 2)))] [] rfl ⟨rfl, rfl, rfl, trivial⟩
 refine then_n ?_
 refine f_cond (S.tm rfl) (fun hb1 => ?_) (fun hb1 => ?_)
 ·replace h := iteT h hb1
  refine f_seq ?_
  refine f_seq ?_
  refine f_region ?_
  refine lv S (rn_move (S.tm rfl)) rfl ?_; clear S; intro a S
  refine l_enter S (fun _ => run_call (vs := [.int .i64 p_year]) ⟨(S.tm rfl), trivial⟩ Tryd.call41) (swimmer_leap_ok _ p_year _ rfl) rfl ?_; clear S; intro v1 a w1 hv1 hk1 hn1 S
  subst hv1
  refine l_done ?_
  replace S := S.nk [] [(9, .bool (swimmer_leap p_year))] [] rfl ⟨rfl, trivial⟩
  refine then_n ?_
  refine f_cond (S.tm rfl) (fun hb2 => ?_) (fun hb2 => ?_)
  ·replace h := iteT h hb2
   refine f_seq ?_
   refine f_region ?_
   refine lv S (rn_assign rfl) rfl ?_; clear S; intro a S
   refine l_done ?_
   replace S := S.nk [] [(4, .int .i64 29)] [] rfl ⟨rfl, trivial⟩
   refine then_n ?_
   refine wp_ret ?_
   refine then_r ?_
   refine blk_r ?_
   refine then_r ?_
   subst h
   exact f_ret S Tryd.results26 rfl rfl
  ·replace h := iteF h hb2
   refine wp_skip ?_
   refine then_n ?_
   refine f_seq ?_
   refine f_region ?_
   refine lv S (rn_assign rfl) rfl ?_; clear S; intro a S
   refine l_done ?_
   replace S := S.nk [] [(4, .int .i64 28)] [] rfl ⟨rfl, trivial⟩
   refine then_n ?_
   refine wp_ret ?_
   refine blk_r ?_
   refine then_r ?_
   subst h
   exact f_ret S Tryd.results26 rfl rfl
 ·replace h := iteF h hb1
  refine f_seq ?_
  refine f_seq ?_
  refine f_region ?_
  refine lv S (rn_eql (S.tm rfl) rfl) rfl ?_; clear S; intro a S
  refine lv S (rn_assign (S.tm rfl)) rfl ?_; clear S; intro a S
  refine l_done ?_
  replace S := S.nk [] [(5, .int .i64 p_month), (10, .bool (decide (p_month = 4)))] [] rfl ⟨rfl, rfl, trivial⟩
  refine then_n ?_
  obtain ⟨j1, hj1, h⟩ := joinE h
  refine f_join (fun a w' => ∃ x1 : Bool, j1 x1 = r ∧ Sx w [] nov [] [(10, .bool x1)] 15 a w') ?_ ?_
  ·refine f_cond (S.tm rfl) (fun hb3 => ?_) (fun hb3 => ?_)
   ·replace h := iteT h hb3
    refine wp_skip ?_
    refine then_n ?_
    exact ⟨decide (p_month = 4), h, S.nf [] rfl ⟨rfl, trivial⟩⟩
   ·replace h := iteF h hb3
    refine f_seq ?_
    refine f_region ?_
    refine lv S (rn_eql (S.tm rfl) rfl) rfl ?_; clear S; intro a S
    refine lv S (rn_assign (S.tm rfl)) rfl ?_; clear S; intro a S
    refine l_done ?_
    replace S := S.nk [] [(5, .int .i64 p_month), (10, .bool (decide (p_month = 6)))] [] rfl ⟨rfl, rfl, trivial⟩
    refine then_n ?_
    obtain ⟨j2, hj2, h⟩ := joinE h
    refine f_join (fun a w' => ∃ x2 : Bool, j2 x2 = r ∧ Sx w [] nov [] [(10, .bool x2)] 15 a w') ?_ ?_
    ·refine f_cond (S.tm rfl) (fun hb4 => ?_) (fun hb4 => ?_)
     ·replace h := iteT h hb4
      refine wp_skip ?_
      refine then_n ?_
      exact ⟨decide (p_month = 6), h, S.nf [] rfl ⟨rfl, trivial⟩⟩
     ·replace h := iteF h hb4
      refine f_seq ?_
      refine f_region ?_
      refine lv S (rn_eql (S.tm rfl) rfl) rfl ?_; clear S; intro a S
      refine lv S (rn_assign (S.tm rfl)) rfl ?_; clear S; intro a S
      refine l_done ?_
      replace S := S.nk [] [(5, .int .i64 p_month), (10, .bool (decide (p_month = 9)))] [] rfl ⟨rfl, rfl, trivial⟩
      refine then_n ?_
      obtain ⟨j3, hj3, h⟩ := joinE h
      refine f_join (fun a w' => ∃ x3 : Bool, j3 x3 = r ∧ Sx w [] nov [] [(10, .bool x3)] 15 a w') ?_ ?_
      ·refine f_cond (S.tm rfl) (fun hb5 => ?_) (fun hb5 => ?_)
       ·replace h := iteT h hb5
        refine wp_skip ?_
        refine then_n ?_
        exact ⟨decide (p_month = 9), h, S.nf [] rfl ⟨rfl, trivial⟩⟩
       ·replace h := iteF h hb5
        refine f_region ?_
        refine lv S (rn_eql (S.tm rfl) rfl) rfl ?_; clear S; intro a S
        refine lv S (rn_assign (S.tm rfl)) rfl ?_; clear S; intro a S
        refine l_done ?_
        replace S := S.nk [] [(10, .bool (decide (p_month = 11)))] [] rfl ⟨rfl, trivial⟩
        refine then_n ?_
        exact ⟨decide (p_month = 11), h, S.nf [] rfl ⟨rfl, trivial⟩⟩
      clear S h; rintro a w4 ⟨x3, h, S⟩; rw [hj3] at h; clear hj3 j3
      refine then_n ?_
      exact ⟨x3, h, S.nf [] rfl ⟨rfl, trivial⟩⟩
    clear S h; rintro a w3 ⟨x2, h, S⟩; rw [hj2] at h; clear hj2 j2
    refine then_n ?_
    exact ⟨x2, h, S.nf [] rfl ⟨rfl, trivial⟩⟩
  clear S h; rintro a w2 ⟨x1, h, S⟩; rw [hj1] at h; clear hj1 j1
  refine then_n ?_
  refine f_cond (S.tm rfl) (fun hb6 => ?_) (fun hb6 => ?_)
  ·replace h := iteT h hb6
   refine f_seq ?_
   refine f_region ?_
   refine lv S (rn_assign rfl) rfl ?_; clear S; intro a S
   refine l_done ?_
   replace S := S.nk [] [(4, .int .i64 30)] [] rfl ⟨rfl, trivial⟩
   refine then_n ?_
   refine wp_ret ?_
   refine blk_r ?_
   refine then_r ?_
   subst h
   exact f_ret S Tryd.results26 rfl rfl
  ·replace h := iteF h hb6
   refine wp_skip ?_
   refine blk_n ?_
   refine then_n ?_
   refine f_seq ?_
   refine f_region ?_
   refine lv S (rn_assign rfl) rfl ?_; clear S; intro a S
   refine l_done ?_
   replace S := S.nk [] [(4, .int .i64 31)] [] rfl ⟨rfl, trivial⟩
   refine then_n ?_
   refine wp_ret ?_
   subst h
   exact f_ret S Tryd.results26 rfl rfl
theorem swimmer_yearLong_ok (w : World) (p_year : Int) (r : Int) (h : swimmer_yearLong p_year = r) :
    Calls Tryd.prog 27 [.int .i64 p_year].toArray w (Ret w [] fun _ v _ => v = .int .i64 r) := by
 refine f_enter [] [] Tryd.func27 rfl Tryd.ntmps27 rfl (by simp) (by simp [fps]) (by simp [fps]) fun a S => ?_
 unfold swimmer_yearLong at h
 replace S := S.nk [] [(0, .int .i64 p_year)] [] rfl ⟨rfl, trivial⟩
 refine f_seq ?_
 refine f_region ?_
 refine lv S (rn_assign rfl) rfl ?_; clear S; intro a S
 refine l_done ?_
 replace S := S.nk [] [(0, .int .i64 p_year)] [] rfl ⟨rfl, trivial⟩
 refine then_n ?_
 refine f_seq ?_
 refine f_seq ?_
 refine f_region ?_
 refine lv S (rn_move (S.tm rfl)) rfl ?_; clear S; intro a S
 refine l_enter S (fun _ => run_call (vs := [.int .i64 p_year]) ⟨(S.tm rfl), trivial⟩ Tryd.call41) (swimmer_leap_ok _ p_year _ rfl) rfl ?_; clear S; intro v1 a w1 hv1 hk1 hn1 S
 subst hv1
 refine l_done ?_
 replace S := S.nk [] [(4, .bool (swimmer_leap p_year))] [] rfl ⟨rfl, trivial⟩
 refine then_n ?_
 refine f_cond (S.tm rfl) (fun hb1 => ?_) (fun hb1 => ?_)
 ·replace h := iteT h hb1
  refine f_seq ?_
  refine f_region ?_
  refine lv S (rn_assign rfl) rfl ?_; clear S; intro a S
  refine l_done ?_
  replace S := S.nk [] [(2, .int .i64 366)] [] rfl ⟨rfl, trivial⟩
  refine then_n ?_
  refine wp_ret ?_
  refine then_r ?_
  subst h
  exact f_ret S Tryd.results27 rfl rfl
 ·replace h := iteF h hb1
  refine wp_skip ?_
  refine then_n ?_
  refine f_seq ?_
  refine f_region ?_
  refine lv S (rn_assign rfl) rfl ?_; clear S; intro a S
  refine l_done ?_
  replace S := S.nk [] [(2, .int .i64 365)] [] rfl ⟨rfl, trivial⟩
  refine then_n ?_
  refine wp_ret ?_
  subst h
  exact f_ret S Tryd.results27 rfl rfl
set_option maxRecDepth 20000 in
theorem swimmer_DayOf_ok (w : World) (p_d : GDate) (r : Int × Int) (h : swimmer_DayOf p_d = some r) :
    Calls Tryd.prog 17 [.agg (GDate.enc p_d).toArray].toArray w (Ret w [] fun _ v _ => v = .tuple #[.int .i64 r.1, .int .i64 r.2]) := by
 refine f_enter [] [] Tryd.func17 rfl Tryd.ntmps17 rfl (by simp) (by simp [fps]) (by simp [fps]) fun a S => ?_
 unfold swimmer_DayOf at h
 replace S := S.nk [] [(0, .agg (GDate.enc p_d).toArray)] [] rfl ⟨rfl, trivial⟩
 refine f_seq ?_
 refine f_region ?_
 refine l_box S (S.tm rfl) (cs := [.int .i64 p_d.Year, .int .i64 p_d.Month, .int .i64 p_d.Day]) rfl rfl ?_; clear S; intro a w1 b1 hz1 hk1 S
 refine lv S (rn_assign rfl) rfl ?_; clear S; intro a S
 refine lv S (rn_assign rfl) rfl ?_; clear S; intro a S
 refine l_done ?_
 replace S := S.nk [.blk b1 [.int .i64 p_d.Year, .int .i64 p_d.Month, .int .i64 p_d.Day] 51] [(1, .pointer (some ⟨b1, 0, none⟩))] [true] rfl ⟨rfl, trivial⟩
 refine then_n ?_
 refine f_seq ?_
 refine f_seq ?_
 obtain ⟨j1, hj1, h⟩ := joinE h
 refine f_join (fun a w' => ∃ x1 : Bool, j1 x1 = some r ∧ Sx w [] nov [.blk b1 [.int .i64 p_d.Year, .int .i64 p_d.Month, .int .i64 p_d.Day] 51] [(1, .pointer (some ⟨b1, 0, none⟩)), (28, .bool x1)] 68 a w') ?_ ?_
 ·rcases Bool.eq_false_or_eq_true (!(words_Within p_d.Year 1900 2100)) with hb1 | hb1
  ·replace h := iteT h hb1
   rcases Bool.eq_false_or_eq_true true with hb2 | hb2
   ·replace h := iteT h hb2
    refine d_region [] ([]) Tryd.mixed S rfl (by kernel_rfl) ?_; clear S; intro w6 hk5 hsel S
    refine d_quiet 0 S hsel rfl rfl rfl (by kernel_rfl) (by kernel_rfl) rfl (fun _ hw => (rn_fld fa_51_0 (S.tm rfl))) ?_; clear S; intro a S
    refine d_quiet 1 S hsel rfl rfl rfl (by kernel_rfl) (by kernel_rfl) rfl (fun _ hw => (rn_ld Tryd.isAgg3 (off := 0) (o := 0) (S.tm rfl) ((S.blk_mem (i := 0) (cells := [.int .i64 p_d.Year, .int .i64 p_d.Month, .int .i64 p_d.Day]) (b := b1) (T := 51) rfl (ne_nil (e' := .blk b1 [.int .i64 p_d.Year, .int .i64 p_d.Month, .int .i64 p_d.Day] 51))).kept hw) rfl)) ?_; clear S; intro a S
    refine d_loud1 2 (by kernel_rfl) rfl ?_
    refine l_enter S (fun _ => run_call (vs := [.int .i64 p_d.Year, .int .i64 1900, .int .i64 2100]) ⟨(S.tm rfl), rfl, rfl, trivial⟩ Tryd.call25) (words_Within_ok _ p_d.Year 1900 2100 _ rfl) rfl ?_; clear S; intro v4 a w7 hv4 hk6 hn4 S
    subst hv4
    refine l_done ?_
    refine d_next hk6 ?_
    refine d_rest [3, 4, 5, 6, 7, 8, 9, 10, 11, 12, 13, 14, 15, 16, 17, 18, 19, 20] hsel (by kernel_rfl) rfl ?_
    clear hsel
    refine s_lv S rfl (rn_not (S.tm rfl)) rfl ?_; clear S; intro a S
    refine s_lv S rfl (rn_move (S.tm rfl)) rfl ?_; clear S; intro a S
    refine s_skip S rfl rfl rfl rfl (neq_t hb1) rfl ?_ rfl; clear S; intro a S
    refine s_skip S rfl rfl rfl rfl (neq_t hb1) rfl ?_ rfl; clear S; intro a S
    refine s_skip S rfl rfl rfl rfl (neq_t hb1) rfl ?_ rfl; clear S; intro a S
    refine s_skip S rfl rfl rfl rfl (neq_t hb1) rfl ?_ rfl; clear S; intro a S
    refine s_lv S rfl (rn_pick_b hb1 (S.tm rfl) rfl) rfl ?_; clear S; intro a S
    refine s_lv S rfl (rn_move (S.tm rfl)) rfl ?_; clear S; intro a S
    refine s_skip S rfl rfl rfl rfl (neq_t hb2) rfl ?_ rfl; clear S; intro a S
    refine s_skip S rfl rfl rfl rfl (neq_t hb2) rfl ?_ rfl; clear S; intro a S
    refine s_skip S rfl rfl rfl rfl (neq_t hb2) rfl ?_ rfl; clear S; intro a S
    refine s_skip S rfl rfl rfl rfl (neq_t hb2) rfl ?_ rfl; clear S; intro a S
    refine s_skip S rfl rfl rfl rfl (neq_t hb2) rfl ?_ rfl; clear S; intro a S
    refine s_skip S rfl rfl rfl rfl (neq_t hb2) rfl ?_ rfl; clear S; intro a S
    refine s_skip S rfl rfl rfl rfl (neq_t hb2) rfl ?_ rfl; clear S; intro a S
    refine s_skip S rfl rfl rfl rfl (neq_t hb2) rfl ?_ rfl; clear S; intro a S
    refine s_skip S rfl rfl rfl rfl (neq_t hb2) rfl ?_ rfl; clear S; intro a S
    refine s_lv S rfl (rn_pick_b hb2 (S.tm rfl) rfl) rfl ?_; clear S; intro a S
    refine s_done ?_
    replace S := S.nk [.blk b1 [.int .i64 p_d.Year, .int .i64 p_d.Month, .int .i64 p_d.Day] 51] [(1, .pointer (some ⟨b1, 0, none⟩)), (28, .bool true)] [true] rfl ⟨rfl, rfl, trivial⟩
    refine then_n ?_
    exact ⟨true, h, S.nf [true] rfl ⟨rfl, rfl, trivial⟩⟩
   ·replace h := iteF h hb2
    refine d_region [] ([]) Tryd.mixed S rfl (by kernel_rfl) ?_; clear S; intro w11 hk10 hsel S
    refine d_quiet 0 S hsel rfl rfl rfl (by kernel_rfl) (by kernel_rfl) rfl (fun _ hw => (rn_fld fa_51_0 (S.tm rfl))) ?_; clear S; intro a S
    refine d_quiet 1 S hsel rfl rfl rfl (by kernel_rfl) (by kernel_rfl) rfl (fun _ hw => (rn_ld Tryd.isAgg3 (off := 0) (o := 0) (S.tm rfl) ((S.blk_mem (i := 0) (cells := [.int .i64 p_d.Year, .int .i64 p_d.Month, .int .i64 p_d.Day]) (b := b1) (T := 51) rfl (ne_nil (e' := .blk b1 [.int .i64 p_d.Year, .int .i64 p_d.Month, .int .i64 p_d.Day] 51))).kept hw) rfl)) ?_; clear S; intro a S
    refine d_loud1 2 (by kernel_rfl) rfl ?_
    refine l_enter S (fun _ => run_call (vs := [.int .i64 p_d.Year, .int .i64 1900, .int .i64 2100]) ⟨(S.tm rfl), rfl, rfl, trivial⟩ Tryd.call25) (words_Within_ok _ p_d.Year 1900 2100 _ rfl) rfl ?_; clear S; intro v8 a w12 hv8 hk11 hn8 S
    subst hv8
    refine l_done ?_
    refine d_next hk11 ?_
    refine d_quiet 3 S hsel rfl rfl rfl (by kernel_rfl) (by kernel_rfl) rfl (fun _ hw => (rn_not (S.tm rfl))) ?_; clear S; intro a S
    refine d_quiet 4 S hsel rfl rfl rfl (by kernel_rfl) (by kernel_rfl) rfl (fun _ hw => (rn_move (S.tm rfl))) ?_; clear S; intro a S
    refine d_skip 5 S hsel rfl rfl rfl rfl (neq_t hb1) rfl (by kernel_rfl) (by kernel_rfl) rfl ?_; clear S; intro a S
    refine d_skip 6 S hsel rfl rfl rfl rfl (neq_t hb1) rfl (by kernel_rfl) (by kernel_rfl) rfl ?_; clear S; intro a S
    refine d_skip 7 S hsel rfl rfl rfl rfl (neq_t hb1) rfl (by kernel_rfl) (by kernel_rfl) rfl ?_; clear S; intro a S
    refine d_skip 8 S hsel rfl rfl rfl rfl (neq_t hb1) rfl (by kernel_rfl) (by kernel_rfl) rfl ?_; clear S; intro a S
    refine d_quiet 9 S hsel rfl rfl rfl (by kernel_rfl) (by kernel_rfl) rfl (fun _ hw => (rn_pick_b hb1 (S.tm rfl) rfl)) ?_; clear S; intro a S
    refine d_quiet 10 S hsel rfl rfl rfl (by kernel_rfl) (by kernel_rfl) rfl (fun _ hw => (rn_move (S.tm rfl))) ?_; clear S; intro a S
    refine d_quiet_g 11 S hsel rfl rfl rfl rfl hb2 rfl rfl (by kernel_rfl) (by kernel_rfl) rfl (fun _ hw => (rn_fld fa_51_2 (S.tm rfl))) ?_; clear S; intro a S
    refine d_quiet_g 12 S hsel rfl rfl rfl rfl hb2 rfl rfl (by kernel_rfl) (by kernel_rfl) rfl (fun _ hw => (rn_ld Tryd.isAgg3 (off := 0) (o := 2) (S.tm rfl) ((S.blk_mem (i := 0) (cells := [.int .i64 p_d.Year, .int .i64 p_d.Month, .int .i64 p_d.Day]) (b := b1) (T := 51) rfl (ne_nil (e' := .blk b1 [.int .i64 p_d.Year, .int .i64 p_d.Month, .int .i64 p_d.Day] 51))).kept hw) rfl)) ?_; clear S; intro a S
    refine d_quiet_g 13 S hsel rfl rfl rfl rfl hb2 rfl rfl (by kernel_rfl) (by kernel_rfl) rfl (fun _ hw => (rn_fld fa_51_0 (S.tm rfl))) ?_; clear S; intro a S
    refine d_quiet_g 14 S hsel rfl rfl rfl rfl hb2 rfl rfl (by kernel_rfl) (by kernel_rfl) rfl (fun _ hw => (rn_ld Tryd.isAgg3 (off := 0) (o := 0) (S.tm rfl) ((S.blk_mem (i := 0) (cells := [.int .i64 p_d.Year, .int .i64 p_d.Month, .int .i64 p_d.Day]) (b := b1) (T := 51) rfl (ne_nil (e' := .blk b1 [.int .i64 p_d.Year, .int .i64 p_d.Month, .int .i64 p_d.Day] 51))).kept hw) rfl)) ?_; clear S; intro a S
    refine d_quiet_g 15 S hsel rfl rfl rfl rfl hb2 rfl rfl (by kernel_rfl) (by kernel_rfl) rfl (fun _ hw => (rn_fld fa_51_1 (S.tm rfl))) ?_; clear S; intro a S
    refine d_quiet_g 16 S hsel rfl rfl rfl rfl hb2 rfl rfl (by kernel_rfl) (by kernel_rfl) rfl (fun _ hw => (rn_ld Tryd.isAgg3 (off := 0) (o := 1) (S.tm rfl) ((S.blk_mem (i := 0) (cells := [.int .i64 p_d.Year, .int .i64 p_d.Month, .int .i64 p_d.Day]) (b := b1) (T := 51) rfl (ne_nil (e' := .blk b1 [.int .i64 p_d.Year, .int .i64 p_d.Month, .int .i64 p_d.Day] 51))).kept hw) rfl)) ?_; clear S; intro a S
    refine d_loud1 17 (by kernel_rfl) rfl ?_
    refine l_want S rfl rfl rfl hb2 ?_
    refine l_enter S (fun _ => run_call (vs := [.int .i64 p_d.Year, .int .i64 p_d.Month]) ⟨(S.tm rfl), (S.tm rfl), trivial⟩ Tryd.call26) (swimmer_long_ok _ p_d.Year p_d.Month _ rfl) rfl ?_; clear S; intro v9 a w13 hv9 hk12 hn9 S
    subst hv9
    refine l_done ?_
    refine d_next hk12 ?_
    refine d_loud1 18 (by kernel_rfl) rfl ?_
    refine l_want S rfl rfl rfl hb2 ?_
    refine l_enter S (fun _ => run_call (vs := [.int .i64 p_d.Day, .int .i64 1, .int .i64 (swimmer_long p_d.Year p_d.Month)]) ⟨(S.tm rfl), rfl, (S.tm rfl), trivial⟩ Tryd.call25) (words_Within_ok _ p_d.Day 1 (swimmer_long p_d.Year p_d.Month) _ rfl) rfl ?_; clear S; intro v10 a w14 hv10 hk13 hn10 S
    subst hv10
    refine l_done ?_
    refine d_next hk13 ?_
    refine d_rest [19, 20] hsel (by kernel_rfl) rfl ?_
    clear hsel
    refine s_want S rfl rfl rfl rfl hb2 ?_
    refine s_lv0 S (rn_not (S.tm rfl)) rfl ?_; clear S; intro a S
    refine s_lv S rfl (rn_pick_c hb2 (S.tm rfl) (S.tm rfl)) rfl ?_; clear S; intro a S
    refine s_done ?_
    replace S := S.nk [.blk b1 [.int .i64 p_d.Year, .int .i64 p_d.Month, .int .i64 p_d.Day] 51] [(1, .pointer (some ⟨b1, 0, none⟩)), (28, .bool (!(words_Within p_d.Day 1 (swimmer_long p_d.Year p_d.Month))))] [true] rfl ⟨rfl, rfl, trivial⟩
    refine then_n ?_
    exact ⟨!(words_Within p_d.Day 1 (swimmer_long p_d.Year p_d.Month)), h, S.nf [true] rfl ⟨rfl, rfl, trivial⟩⟩
  ·replace h := iteF h hb1
   rcases Bool.eq_false_or_eq_true (!(words_Within p_d.Month 1 12)) with hb3 | hb3
   ·replace h := iteT h hb3
    refine d_region [] ([]) Tryd.mixed S rfl (by kernel_rfl) ?_; clear S; intro w19 hk18 hsel S
    refine d_quiet 0 S hsel rfl rfl rfl (by kernel_rfl) (by kernel_rfl) rfl (fun _ hw => (rn_fld fa_51_0 (S.tm rfl))) ?_; clear S; intro a S
    refine d_quiet 1 S hsel rfl rfl rfl (by kernel_rfl) (by kernel_rfl) rfl (fun _ hw => (rn_ld Tryd.isAgg3 (off := 0) (o := 0) (S.tm rfl) ((S.blk_mem (i := 0) (cells := [.int .i64 p_d.Year, .int .i64 p_d.Month, .int .i64 p_d.Day]) (b := b1) (T := 51) rfl (ne_nil (e' := .blk b1 [.int .i64 p_d.Year, .int .i64 p_d.Month, .int .i64 p_d.Day] 51))).kept hw) rfl)) ?_; clear S; intro a S
    refine d_loud1 2 (by kernel_rfl) rfl ?_
    refine l_enter S (fun _ => run_call (vs := [.int .i64 p_d.Year, .int .i64 1900, .int .i64 2100]) ⟨(S.tm rfl), rfl, rfl, trivial⟩ Tryd.call25) (words_Within_ok _ p_d.Year 1900 2100 _ rfl) rfl ?_; clear S; intro v15 a w20 hv15 hk19 hn15 S
    subst hv15
    refine l_done ?_
    refine d_next hk19 ?_
    refine d_quiet 3 S hsel rfl rfl rfl (by kernel_rfl) (by kernel_rfl) rfl (fun _ hw => (rn_not (S.tm rfl))) ?_; clear S; intro a S
    refine d_quiet 4 S hsel rfl rfl rfl (by kernel_rfl) (by kernel_rfl) rfl (fun _ hw => (rn_move (S.tm rfl))) ?_; clear S; intro a S
    refine d_quiet_g 5 S hsel rfl rfl rfl rfl hb1 rfl rfl (by kernel_rfl) (by kernel_rfl) rfl (fun _ hw => (rn_fld fa_51_1 (S.tm rfl))) ?_; clear S; intro a S
    refine d_quiet_g 6 S hsel rfl rfl rfl rfl hb1 rfl rfl (by kernel_rfl) (by kernel_rfl) rfl (fun _ hw => (rn_ld Tryd.isAgg3 (off := 0) (o := 1) (S.tm rfl) ((S.blk_mem (i := 0) (cells := [.int .i64 p_d.Year, .int .i64 p_d.Month, .int .i64 p_d.Day]) (b := b1) (T := 51) rfl (ne_nil (e' := .blk b1 [.int .i64 p_d.Year, .int .i64 p_d.Month, .int .i64 p_d.Day] 51))).kept hw) rfl)) ?_; clear S; intro a S
    refine d_loud1 7 (by kernel_rfl) rfl ?_
    refine l_want S rfl rfl rfl hb1 ?_
    refine l_enter S (fun _ => run_call (vs := [.int .i64 p_d.Month, .int .i64 1, .int .i64 12]) ⟨(S.tm rfl), rfl, rfl, trivial⟩ Tryd.call25) (words_Within_ok _ p_d.Month 1 12 _ rfl) rfl ?_; clear S; intro v16 a w21 hv16 hk20 hn16 S
    subst hv16
    refine l_done ?_
    refine d_next hk20 ?_
    refine d_rest [8, 9, 10, 11, 12, 13, 14, 15, 16, 17, 18, 19, 20] hsel (by kernel_rfl) rfl ?_
    clear hsel
    refine s_want S rfl rfl rfl rfl hb1 ?_
    refine s_lv0 S (rn_not (S.tm rfl)) rfl ?_; clear S; intro a S
    refine s_lv S rfl (rn_pick_c hb1 (S.tm rfl) (S.tm rfl)) rfl ?_; clear S; intro a S
    refine s_lv S rfl (rn_move (S.tm rfl)) rfl ?_; clear S; intro a S
    refine s_skip S rfl rfl rfl rfl (neq_t hb3) rfl ?_ rfl; clear S; intro a S
    refine s_skip S rfl rfl rfl rfl (neq_t hb3) rfl ?_ rfl; clear S; intro a S
    refine s_skip S rfl rfl rfl rfl (neq_t hb3) rfl ?_ rfl; clear S; intro a S
    refine s_skip S rfl rfl rfl rfl (neq_t hb3) rfl ?_ rfl; clear S; intro a S
    refine s_skip S rfl rfl rfl rfl (neq_t hb3) rfl ?_ rfl; clear S; intro a S
    refine s_skip S rfl rfl rfl rfl (neq_t hb3) rfl ?_ rfl; clear S; intro a S
    refine s_skip S rfl rfl rfl rfl (neq_t hb3) rfl ?_ rfl; clear S; intro a S
    refine s_skip S rfl rfl rfl rfl (neq_t hb3) rfl ?_ rfl; clear S; intro a S
    refine s_skip S rfl rfl rfl rfl (neq_t hb3) rfl ?_ rfl; clear S; intro a S
    refine s_lv S rfl (rn_pick_b hb3 (S.tm rfl) rfl) rfl ?_; clear S; intro a S
    refine s_done ?_
    replace S := S.nk [.blk b1 [.int .i64 p_d.Year, .int .i64 p_d.Month, .int .i64 p_d.Day] 51] [(1, .pointer (some ⟨b1, 0, none⟩)), (28, .bool true)] [true] rfl ⟨rfl, rfl, trivial⟩
    refine then_n ?_
    exact ⟨true, h, S.nf [true] rfl ⟨rfl, rfl, trivial⟩⟩
   ·replace h := iteF h hb3
    refine d_region [] ([]) Tryd.mixed S rfl (by kernel_rfl) ?_; clear S; intro w26 hk25 hsel S
    refine d_quiet 0 S hsel rfl rfl rfl (by kernel_rfl) (by kernel_rfl) rfl (fun _ hw => (rn_fld fa_51_0 (S.tm rfl))) ?_; clear S; intro a S
    refine d_quiet 1 S hsel rfl rfl rfl (by kernel_rfl) (by kernel_rfl) rfl (fun _ hw => (rn_ld Tryd.isAgg3 (off := 0) (o := 0) (S.tm rfl) ((S.blk_mem (i := 0) (cells := [.int .i64 p_d.Year, .int .i64 p_d.Month, .int .i64 p_d.Day]) (b := b1) (T := 51) rfl (ne_nil (e' := .blk b1 [.int .i64 p_d.Year, .int .i64 p_d.Month, .int .i64 p_d.Day] 51))).kept hw) rfl)) ?_; clear S; intro a S
    refine d_loud1 2 (by kernel_rfl) rfl ?_
    refine l_enter S (fun _ => run_call (vs := [.int .i64 p_d.Year, .int .i64 1900, .int .i64 2100]) ⟨(S.tm rfl), rfl, rfl, trivial⟩ Tryd.call25) (words_Within_ok _ p_d.Year 1900 2100 _ rfl) rfl ?_; clear S; intro v21 a w27 hv21 hk26 hn21 S
    subst hv21
    refine l_done ?_
    refine d_next hk26 ?_
    refine d_quiet 3 S hsel rfl rfl rfl (by kernel_rfl) (by kernel_rfl) rfl (fun _ hw => (rn_not (S.tm rfl))) ?_; clear S; intro a S
    refine d_quiet 4 S hsel rfl rfl rfl (by kernel_rfl) (by kernel_rfl) rfl (fun _ hw => (rn_move (S.tm rfl))) ?_; clear S; intro a S
    refine d_quiet_g 5 S hsel rfl rfl rfl rfl hb1 rfl rfl (by kernel_rfl) (by kernel_rfl) rfl (fun _ hw => (rn_fld fa_51_1 (S.tm rfl))) ?_; clear S; intro a S
    refine d_quiet_g 6 S hsel rfl rfl rfl rfl hb1 rfl rfl (by kernel_rfl) (by kernel_rfl) rfl (fun _ hw => (rn_ld Tryd.isAgg3 (off := 0) (o := 1) (S.tm rfl) ((S.blk_mem (i := 0) (cells := [.int .i64 p_d.Year, .int .i64 p_d.Month, .int .i64 p_d.Day]) (b := b1) (T := 51) rfl (ne_nil (e' := .blk b1 [.int .i64 p_d.Year, .int .i64 p_d.Month, .int .i64 p_d.Day] 51))).kept hw) rfl)) ?_; clear S; intro a S
    refine d_loud1 7 (by kernel_rfl) rfl ?_
    refine l_want S rfl rfl rfl hb1 ?_
    refine l_enter S (fun _ => run_call (vs := [.int .i64 p_d.Month, .int .i64 1, .int .i64 12]) ⟨(S.tm rfl), rfl, rfl, trivial⟩ Tryd.call25) (words_Within_ok _ p_d.Month 1 12 _ rfl) rfl ?_; clear S; intro v22 a w28 hv22 hk27 hn22 S
    subst hv22
    refine l_done ?_
    refine d_next hk27 ?_
    refine d_quiet_g 8 S hsel rfl rfl rfl rfl hb1 rfl rfl (by kernel_rfl) (by kernel_rfl) rfl (fun _ hw => (rn_not (S.tm rfl))) ?_; clear S; intro a S
    refine d_quiet 9 S hsel rfl rfl rfl (by kernel_rfl) (by kernel_rfl) rfl (fun _ hw => (rn_pick_c hb1 (S.tm rfl) (S.tm rfl))) ?_; clear S; intro a S
    refine d_quiet 10 S hsel rfl rfl rfl (by kernel_rfl) (by kernel_rfl) rfl (fun _ hw => (rn_move (S.tm rfl))) ?_; clear S; intro a S
    refine d_quiet_g 11 S hsel rfl rfl rfl rfl hb3 rfl rfl (by kernel_rfl) (by kernel_rfl) rfl (fun _ hw => (rn_fld fa_51_2 (S.tm rfl))) ?_; clear S; intro a S
    refine d_quiet_g 12 S hsel rfl rfl rfl rfl hb3 rfl rfl (by kernel_rfl) (by kernel_rfl) rfl (fun _ hw => (rn_ld Tryd.isAgg3 (off := 0) (o := 2) (S.tm rfl) ((S.blk_mem (i := 0) (cells := [.int .i64 p_d.Year, .int .i64 p_d.Month, .int .i64 p_d.Day]) (b := b1) (T := 51) rfl (ne_nil (e' := .blk b1 [.int .i64 p_d.Year, .int .i64 p_d.Month, .int .i64 p_d.Day] 51))).kept hw) rfl)) ?_; clear S; intro a S
    refine d_quiet_g 13 S hsel rfl rfl rfl rfl hb3 rfl rfl (by kernel_rfl) (by kernel_rfl) rfl (fun _ hw => (rn_fld fa_51_0 (S.tm rfl))) ?_; clear S; intro a S
    refine d_quiet_g 14 S hsel rfl rfl rfl rfl hb3 rfl rfl (by kernel_rfl) (by kernel_rfl) rfl (fun _ hw => (rn_ld Tryd.isAgg3 (off := 0) (o := 0) (S.tm rfl) ((S.blk_mem (i := 0) (cells := [.int .i64 p_d.Year, .int .i64 p_d.Month, .int .i64 p_d.Day]) (b := b1) (T := 51) rfl (ne_nil (e' := .blk b1 [.int .i64 p_d.Year, .int .i64 p_d.Month, .int .i64 p_d.Day] 51))).kept hw) rfl)) ?_; clear S; intro a S
    refine d_quiet_g 15 S hsel rfl rfl rfl rfl hb3 rfl rfl (by kernel_rfl) (by kernel_rfl) rfl (fun _ hw => (rn_fld fa_51_1 (S.tm rfl))) ?_; clear S; intro a S
    refine d_quiet_g 16 S hsel rfl rfl rfl rfl hb3 rfl rfl (by kernel_rfl) (by kernel_rfl) rfl (fun _ hw => (rn_ld Tryd.isAgg3 (off := 0) (o := 1) (S.tm rfl) ((S.blk_mem (i := 0) (cells := [.int .i64 p_d.Year, .int .i64 p_d.Month, .int .i64 p_d.Day]) (b := b1) (T := 51) rfl (ne_nil (e' := .blk b1 [.int .i64 p_d.Year, .int .i64 p_d.Month, .int .i64 p_d.Day] 51))).kept hw) rfl)) ?_; clear S; intro a S
    refine d_loud1 17 (by kernel_rfl) rfl ?_
    refine l_want S rfl rfl rfl hb3 ?_
    refine l_enter S (fun _ => run_call (vs := [.int .i64 p_d.Year, .int .i64 p_d.Month]) ⟨(S.tm rfl), (S.tm rfl), trivial⟩ Tryd.call26) (swimmer_long_ok _ p_d.Year p_d.Month _ rfl) rfl ?_; clear S; intro v23 a w29 hv23 hk28 hn23 S
    subst hv23
    refine l_done ?_
    refine d_next hk28 ?_
    refine d_loud1 18 (by kernel_rfl) rfl ?_
    refine l_want S rfl rfl rfl hb3 ?_
    refine l_enter S (fun _ => run_call (vs := [.int .i64 p_d.Day, .int .i64 1, .int .i64 (swimmer_long p_d.Year p_d.Month)]) ⟨(S.tm rfl), rfl, (S.tm rfl), trivial⟩ Tryd.call25) (words_Within_ok _ p_d.Day 1 (swimmer_long p_d.Year p_d.Month) _ rfl) rfl ?_; clear S; intro v24 a w30 hv24 hk29 hn24 S
    subst hv24
    refine l_done ?_
    refine d_next hk29 ?_
    refine d_rest [19, 20] hsel (by kernel_rfl) rfl ?_
    clear hsel
    refine s_want S rfl rfl rfl rfl hb3 ?_
    refine s_lv0 S (rn_not (S.tm rfl)) rfl ?_; clear S; intro a S
    refine s_lv S rfl (rn_pick_c hb3 (S.tm rfl) (S.tm rfl)) rfl ?_; clear S; intro a S
    refine s_done ?_
    replace S := S.nk [.blk b1 [.int .i64 p_d.Year, .int .i64 p_d.Month, .int .i64 p_d.Day] 51] [(1, .pointer (some ⟨b1, 0, none⟩)), (28, .bool (!(words_Within p_d.Day 1 (swimmer_long p_d.Year p_d.Month))))] [true] rfl ⟨rfl, rfl, trivial⟩
    refine then_n ?_
    exact ⟨!(words_Within p_d.Day 1 (swimmer_long p_d.Year p_d.Month)), h, S.nf [true] rfl ⟨rfl, rfl, trivial⟩⟩
 clear S h; rintro a w2 ⟨x1, h, S⟩; rw [hj1] at h; clear hj1 j1
 refine then_n ?_
 refine f_cond (S.tm rfl) (fun hb4 => ?_) (fun hb4 => ?_)
 ·replace h := iteT h hb4
  refine f_seq ?_
  refine f_region ?_
  refine lv S (rn_assign rfl) rfl ?_; clear S; intro a S
  refine lv S (rn_assign rfl) rfl ?_; clear S; intro a S
  refine l_done ?_
  replace S := S.nk [] [(2, .int .i64 0), (3, .int .i64 1)] [false] rfl ⟨rfl, rfl, trivial⟩
  refine then_n ?_
  refine wp_ret ?_
  refine then_r ?_
  obtain rfl := Option.some.inj h
  exact f_ret2 S Tryd.results17 rfl rfl rfl
 ·replace h := iteF h hb4
  refine wp_skip ?_
  refine then_n ?_
  refine f_seq ?_
  refine f_region ?_
  refine lv S (rn_fld fa_51_2 (S.tm rfl)) rfl ?_; clear S; intro a S
  refine lv S (rn_load Tryd.isAgg3 (S.tm rfl) (S.cell (i := 0) rfl rfl)) rfl ?_; clear S; intro a S
  refine lv S (rn_sub (S.tm rfl) rfl) rfl ?_; clear S; intro a S
  refine lv S (rn_assign (S.tm rfl)) rfl ?_; clear S; intro a S
  refine l_done ?_
  replace S := S.nk [.blk b1 [.int .i64 p_d.Year, .int .i64 p_d.Month, .int .i64 p_d.Day] 51] [(1, .pointer (some ⟨b1, 0, none⟩)), (4, .int .i64 (W (p_d.Day - 1)))] [true] rfl ⟨rfl, rfl, trivial⟩
  refine then_n ?_
  refine f_seq ?_
  refine f_seq ?_
  refine f_region ?_
  refine lv S (rn_assign rfl) rfl ?_; clear S; intro a S
  refine l_done ?_
  replace S := S.nk [.blk b1 [.int .i64 p_d.Year, .int .i64 p_d.Month, .int .i64 p_d.Day] 51] [(1, .pointer (some ⟨b1, 0, none⟩)), (4, .int .i64 (W (p_d.Day - 1))), (5, .int .i64 1)] [true] rfl ⟨rfl, rfl, rfl, trivial⟩
  refine then_n ?_
  obtain ⟨j2, hj2, h⟩ := joinE h
  refine f_join (fun a w' => ∃ x2 : Int, j2 x2 = some r ∧ Sx w [] nov [.blk b1 [.int .i64 p_d.Year, .int .i64 p_d.Month, .int .i64 p_d.Day] 51] [(1, .pointer (some ⟨b1, 0, none⟩)), (4, .int .i64 x2)] 68 a w') ?_ ?_
  ·refine wp_block ?_
   refine f_loop (fun (m1 : Nat) a w' => ∃ x2 : Int, ∃ x3 : Int, swimmer_DayOf_l1 p_d j2 m1 x2 x3 = some r ∧ Sx w [] nov [.blk b1 [.int .i64 p_d.Year, .int .i64 p_d.Month, .int .i64 p_d.Day] 51] [(1, .pointer (some ⟨b1, 0, none⟩)), (4, .int .i64 x2), (5, .int .i64 x3)] 68 a w') id ((p_d.Month - 1).toNat + 2) ⟨W (p_d.Day - 1), 1, h, S.nf [true] rfl ⟨rfl, rfl, rfl, trivial⟩⟩ ?_
   clear S h; rintro m1 a w31 ⟨x2, x3, h, S⟩
   cases m1 with
   | zero => rw [swimmer_DayOf_l1.eq_1] at h; cases h
   | succ m1 =>
    rw [swimmer_DayOf_l1.eq_2] at h
    refine f_seq ?_
    refine f_seq ?_
    refine f_region ?_
    refine lv S (rn_move (S.tm rfl)) rfl ?_; clear S; intro a S
    refine lv S (rn_fld fa_51_1 (S.tm rfl)) rfl ?_; clear S; intro a S
    refine lv S (rn_load Tryd.isAgg3 (S.tm rfl) (S.cell (i := 0) rfl rfl)) rfl ?_; clear S; intro a S
    refine lv S (rn_lss (S.tm rfl) (S.tm rfl)) rfl ?_; clear S; intro a S
    refine l_done ?_
    replace S := S.nk [.blk b1 [.int .i64 p_d.Year, .int .i64 p_d.Month, .int .i64 p_d.Day] 51] [(1, .pointer (some ⟨b1, 0, none⟩)), (4, .int .i64 x2), (5, .int .i64 x3), (35, .bool (decide (x3 < p_d.Month)))] [true] rfl ⟨rfl, rfl, rfl, rfl, trivial⟩
    refine then_n ?_
    refine f_cond (S.tm rfl) (fun hb5 => ?_) (fun hb5 => ?_)
    ·replace h := iteT h hb5
     refine wp_skip ?_
     refine then_n ?_
     refine f_seq ?_
     refine wp_block ?_
     refine f_region ?_
     refine lv S (rn_move (S.tm rfl)) rfl ?_; clear S; intro a S
     refine lv S (rn_fld fa_51_0 (S.tm rfl)) rfl ?_; clear S; intro a S
     refine lv S (rn_load Tryd.isAgg3 (S.tm rfl) (S.cell (i := 0) rfl rfl)) rfl ?_; clear S; intro a S
     refine lv S (rn_move (S.tm rfl)) rfl ?_; clear S; intro a S
     refine l_enter S (fun _ => run_call (vs := [.int .i64 p_d.Year, .int .i64 x3]) ⟨(S.tm rfl), (S.tm rfl), trivial⟩ Tryd.call26) (swimmer_long_ok _ p_d.Year x3 _ rfl) rfl ?_; clear S; intro v25 a w33 hv25 hk30 hn25 S
     subst hv25
     refine lv S (rn_add (S.tm rfl) (S.tm rfl)) rfl ?_; clear S; intro a S
     refine lv S (rn_assign (S.tm rfl)) rfl ?_; clear S; intro a S
     refine l_done ?_
     replace S := S.nk [.blk b1 [.int .i64 p_d.Year, .int .i64 p_d.Month, .int .i64 p_d.Day] 51] [(1, .pointer (some ⟨b1, 0, none⟩)), (4, .int .i64 (W (x2 + (swimmer_long p_d.Year x3)))), (5, .int .i64 x3)] [true] rfl ⟨rfl, rfl, rfl, trivial⟩
     refine blk_n ?_
     refine then_n ?_
     refine f_region ?_
     refine lv S (rn_move (S.tm rfl)) rfl ?_; clear S; intro a S
     refine lv S (rn_add (S.tm rfl) rfl) rfl ?_; clear S; intro a S
     refine lv S (rn_assign (S.tm rfl)) rfl ?_; clear S; intro a S
     refine l_done ?_
     replace S := S.nk [.blk b1 [.int .i64 p_d.Year, .int .i64 p_d.Month, .int .i64 p_d.Day] 51] [(1, .pointer (some ⟨b1, 0, none⟩)), (4, .int .i64 (W (x2 + (swimmer_long p_d.Year x3)))), (5, .int .i64 (W (x3 + 1)))] [true] rfl ⟨rfl, rfl, rfl, trivial⟩
     refine then_n ?_
     exact ⟨m1, ⟨W (x2 + (swimmer_long p_d.Year x3)), W (x3 + 1), h, S.nf [true] rfl ⟨rfl, rfl, rfl, trivial⟩⟩, Nat.lt_succ_self _⟩
    ·replace h := iteF h hb5
     refine wp_exit ?_
     refine then_x ?_
     refine then_x ?_
     refine x_same ?_
     refine then_n ?_
     exact ⟨x2, h, S.nf [true] rfl ⟨rfl, rfl, trivial⟩⟩
  clear S h; rintro a w32 ⟨x2, h, S⟩; rw [hj2] at h; clear hj2 j2
  refine then_n ?_
  refine f_seq ?_
  refine f_seq ?_
  refine f_region ?_
  refine lv S (rn_assign rfl) rfl ?_; clear S; intro a S
  refine l_done ?_
  replace S := S.nk [.blk b1 [.int .i64 p_d.Year, .int .i64 p_d.Month, .int .i64 p_d.Day] 51] [(1, .pointer (some ⟨b1, 0, none⟩)), (4, .int .i64 x2), (6, .int .i64 2024)] [true] rfl ⟨rfl, rfl, rfl, trivial⟩
  refine then_n ?_
  obtain ⟨j3, hj3, h⟩ := joinE h
  refine f_join (fun a w' => ∃ x4 : Int, j3 x4 = some r ∧ Sx w [] nov [.blk b1 [.int .i64 p_d.Year, .int .i64 p_d.Month, .int .i64 p_d.Day] 51] [(1, .pointer (some ⟨b1, 0, none⟩)), (4, .int .i64 x4)] 68 a w') ?_ ?_
  ·refine wp_block ?_
   refine f_loop (fun (m2 : Nat) a w' => ∃ x4 : Int, ∃ x5 : Int, swimmer_DayOf_l2 p_d j3 m2 x4 x5 = some r ∧ Sx w [] nov [.blk b1 [.int .i64 p_d.Year, .int .i64 p_d.Month, .int .i64 p_d.Day] 51] [(1, .pointer (some ⟨b1, 0, none⟩)), (4, .int .i64 x4), (6, .int .i64 x5)] 68 a w') id ((p_d.Year - 2024).toNat + 2) ⟨x2, 2024, h, S.nf [true] rfl ⟨rfl, rfl, rfl, trivial⟩⟩ ?_
   clear S h; rintro m2 a w34 ⟨x4, x5, h, S⟩
   cases m2 with
   | zero => rw [swimmer_DayOf_l2.eq_1] at h; cases h
   | succ m2 =>
    rw [swimmer_DayOf_l2.eq_2] at h
    refine f_seq ?_
    refine f_seq ?_
    refine f_region ?_
    refine lv S (rn_move (S.tm rfl)) rfl ?_; clear S; intro a S
    refine lv S (rn_fld fa_51_0 (S.tm rfl)) rfl ?_; clear S; intro a S
    refine lv S (rn_load Tryd.isAgg3 (S.tm rfl) (S.cell (i := 0) rfl rfl)) rfl ?_; clear S; intro a S
    refine lv S (rn_lss (S.tm rfl) (S.tm rfl)) rfl ?_; clear S; intro a S
    refine l_done ?_
    replace S := S.nk [.blk b1 [.int .i64 p_d.Year, .int .i64 p_d.Month, .int .i64 p_d.Day] 51] [(1, .pointer (some ⟨b1, 0, none⟩)), (4, .int .i64 x4), (6, .int .i64 x5), (47, .bool (decide (x5 < p_d.Year)))] [true] rfl ⟨rfl, rfl, rfl, rfl, trivial⟩
    refine then_n ?_
    refine f_cond (S.tm rfl) (fun hb6 => ?_) (fun hb6 => ?_)
    ·replace h := iteT h hb6
     refine wp_skip ?_
     refine then_n ?_
     refine f_seq ?_
     refine wp_block ?_
     refine f_region ?_
     refine lv S (rn_move (S.tm rfl)) rfl ?_; clear S; intro a S
     refine lv S (rn_move (S.tm rfl)) rfl ?_; clear S; intro a S
     refine l_enter S (fun _ => run_call (vs := [.int .i64 x5]) ⟨(S.tm rfl), trivial⟩ Tryd.call27) (swimmer_yearLong_ok _ x5 _ rfl) rfl ?_; clear S; intro v26 a w36 hv26 hk31 hn26 S
     subst hv26
     refine lv S (rn_add (S.tm rfl) (S.tm rfl)) rfl ?_; clear S; intro a S
     refine lv S (rn_assign (S.tm rfl)) rfl ?_; clear S; intro a S
     refine l_done ?_
     replace S := S.nk [.blk b1 [.int .i64 p_d.Year, .int .i64 p_d.Month, .int .i64 p_d.Day] 51] [(1, .pointer (some ⟨b1, 0, none⟩)), (4, .int .i64 (W (x4 + (swimmer_yearLong x5)))), (6, .int .i64 x5)] [true] rfl ⟨rfl, rfl, rfl, trivial⟩
     refine blk_n ?_
     refine then_n ?_
     refine f_region ?_
     refine lv S (rn_move (S.tm rfl)) rfl ?_; clear S; intro a S
     refine lv S (rn_add (S.tm rfl) rfl) rfl ?_; clear S; intro a S
     refine lv S (rn_assign (S.tm rfl)) rfl ?_; clear S; intro a S
     refine l_done ?_
     replace S := S.nk [.blk b1 [.int .i64 p_d.Year, .int .i64 p_d.Month, .int .i64 p_d.Day] 51] [(1, .pointer (some ⟨b1, 0, none⟩)), (4, .int .i64 (W (x4 + (swimmer_yearLong x5)))), (6, .int .i64 (W (x5 + 1)))] [true] rfl ⟨rfl, rfl, rfl, trivial⟩
     refine then_n ?_
     exact ⟨m2, ⟨W (x4 + (swimmer_yearLong x5)), W (x5 + 1), h, S.nf [true] rfl ⟨rfl, rfl, rfl, trivial⟩⟩, Nat.lt_succ_self _⟩
    ·replace h := iteF h hb6
     refine wp_exit ?_
     refine then_x ?_
     refine then_x ?_
     refine x_same ?_
     refine then_n ?_
     exact ⟨x4, h, S.nf [true] rfl ⟨rfl, rfl, trivial⟩⟩
  clear S h; rintro a w35 ⟨x4, h, S⟩; rw [hj3] at h; clear hj3 j3
  refine then_n ?_
  refine f_seq ?_
  refine f_seq ?_
  refine f_region ?_
  refine lv S (rn_fld fa_51_0 (S.tm rfl)) rfl ?_; clear S; intro a S
  refine lv S (rn_load Tryd.isAgg3 (S.tm rfl) (S.cell (i := 0) rfl rfl)) rfl ?_; clear S; intro a S
  refine lv S (rn_assign (S.tm rfl)) rfl ?_; clear S; intro a S
  refine l_done ?_
  replace S := S.nk [] [(4, .int .i64 x4), (7, .int .i64 p_d.Year)] [false] rfl ⟨rfl, rfl, trivial⟩
  refine then_n ?_
  obtain ⟨j4, hj4, h⟩ := joinE h
  refine f_join (fun a w' => ∃ x6 : Int, j4 x6 = some r ∧ Sx w [] nov [] [(4, .int .i64 x6)] 68 a w') ?_ ?_
  ·refine wp_block ?_
   refine f_loop (fun (m3 : Nat) a w' => ∃ x6 : Int, ∃ x7 : Int, swimmer_DayOf_l3 j4 m3 x6 x7 = some r ∧ Sx w [] nov [] [(4, .int .i64 x6), (7, .int .i64 x7)] 68 a w') id ((2024 - p_d.Year).toNat + 2) ⟨x4, p_d.Year, h, S.nf [] rfl ⟨rfl, rfl, trivial⟩⟩ ?_
   clear S h; rintro m3 a w37 ⟨x6, x7, h, S⟩
   cases m3 with
   | zero => rw [swimmer_DayOf_l3.eq_1] at h; cases h
   | succ m3 =>
    rw [swimmer_DayOf_l3.eq_2] at h
    refine f_seq ?_
    refine f_seq ?_
    refine f_region ?_
    refine lv S (rn_move (S.tm rfl)) rfl ?_; clear S; intro a S
    refine lv S (rn_lss (S.tm rfl) rfl) rfl ?_; clear S; intro a S
    refine l_done ?_
    replace S := S.nk [] [(4, .int .i64 x6), (7, .int .i64 x7), (57, .bool (decide (x7 < 2024)))] [] rfl ⟨rfl, rfl, rfl, trivial⟩
    refine then_n ?_
    refine f_cond (S.tm rfl) (fun hb7 => ?_) (fun hb7 => ?_)
    ·replace h := iteT h hb7
     refine wp_skip ?_
     refine then_n ?_
     refine f_seq ?_
     refine wp_block ?_
     refine f_region ?_
     refine lv S (rn_move (S.tm rfl)) rfl ?_; clear S; intro a S
     refine lv S (rn_move (S.tm rfl)) rfl ?_; clear S; intro a S
     refine l_enter S (fun _ => run_call (vs := [.int .i64 x7]) ⟨(S.tm rfl), trivial⟩ Tryd.call27) (swimmer_yearLong_ok _ x7 _ rfl) rfl ?_; clear S; intro v27 a w39 hv27 hk32 hn27 S
     subst hv27
     refine lv S (rn_sub (S.tm rfl) (S.tm rfl)) rfl ?_; clear S; intro a S
     refine lv S (rn_assign (S.tm rfl)) rfl ?_; clear S; intro a S
     refine l_done ?_
     replace S := S.nk [] [(4, .int .i64 (W (x6 - (swimmer_yearLong x7)))), (7, .int .i64 x7)] [] rfl ⟨rfl, rfl, trivial⟩
     refine blk_n ?_
     refine then_n ?_
     refine f_region ?_
     refine lv S (rn_move (S.tm rfl)) rfl ?_; clear S; intro a S
     refine lv S (rn_add (S.tm rfl) rfl) rfl ?_; clear S; intro a S
     refine lv S (rn_assign (S.tm rfl)) rfl ?_; clear S; intro a S
     refine l_done ?_
     replace S := S.nk [] [(4, .int .i64 (W (x6 - (swimmer_yearLong x7)))), (7, .int .i64 (W (x7 + 1)))] [] rfl ⟨rfl, rfl, trivial⟩
     refine then_n ?_
     exact ⟨m3, ⟨W (x6 - (swimmer_yearLong x7)), W (x7 + 1), h, S.nf [] rfl ⟨rfl, rfl, trivial⟩⟩, Nat.lt_succ_self _⟩
    ·replace h := iteF h hb7
     refine wp_exit ?_
     refine then_x ?_
     refine then_x ?_
     refine x_same ?_
     refine then_n ?_
     exact ⟨x6, h, S.nf [] rfl ⟨rfl, trivial⟩⟩
  clear S h; rintro a w38 ⟨x6, h, S⟩; rw [hj4] at h; clear hj4 j4
  refine then_n ?_
  refine f_seq ?_
  refine f_seq ?_
  refine f_region ?_
  refine lv S (rn_move (S.tm rfl)) rfl ?_; clear S; intro a S
  refine l_enter S (fun _ => run_call (vs := [.int .i64 x6]) ⟨(S.tm rfl), trivial⟩ Tryd.call24) (swimmer_isDay_ok _ x6 _ rfl) rfl ?_; clear S; intro v28 a w40 hv28 hk33 hn28 S
  subst hv28
  refine lv S (rn_not (S.tm rfl)) rfl ?_; clear S; intro a S
  refine l_done ?_
  replace S := S.nk [] [(4, .int .i64 x6), (66, .bool (!(swimmer_isDay x6)))] [] rfl ⟨rfl, rfl, trivial⟩
  refine then_n ?_
  refine f_cond (S.tm rfl) (fun hb8 => ?_) (fun hb8 => ?_)
  ·replace h := iteT h hb8
   refine f_seq ?_
   refine f_region ?_
   refine lv S (rn_assign rfl) rfl ?_; clear S; intro a S
   refine lv S (rn_assign rfl) rfl ?_; clear S; intro a S
   refine l_done ?_
   replace S := S.nk [] [(2, .int .i64 0), (3, .int .i64 1)] [] rfl ⟨rfl, rfl, trivial⟩
   refine then_n ?_
   refine wp_ret ?_
   refine then_r ?_
   obtain rfl := Option.some.inj h
   exact f_ret2 S Tryd.results17 rfl rfl rfl
  ·replace h := iteF h hb8
   refine wp_skip ?_
   refine then_n ?_
   refine f_seq ?_
   refine f_region ?_
   refine lv S (rn_move (S.tm rfl)) rfl ?_; clear S; intro a S
   refine lv S (rn_assign (S.tm rfl)) rfl ?_; clear S; intro a S
   refine lv S (rn_assign rfl) rfl ?_; clear S; intro a S
   refine l_done ?_
   replace S := S.nk [] [(2, .int .i64 x6), (3, .int .i64 0)] [] rfl ⟨rfl, rfl, trivial⟩
   refine then_n ?_
   refine wp_ret ?_
   obtain rfl := Option.some.inj h
   exact f_ret2 S Tryd.results17 rfl rfl rfl
theorem session_CheckItems_ok (w : World) (v_p_l : Value) (p_l : List GItem) (hs_p_l : Slc (view w []) 5 v_p_l (p_l.map GItem.enc)) (r : Int) (h : session_CheckItems p_l = some r) :
    Calls Tryd.prog 42 [v_p_l].toArray w (Ret w [] fun _ v _ => v = .int .i64 r) := by
 refine f_enter [] [] Tryd.func42 rfl Tryd.ntmps42 rfl (by simp) (by simp [fps]) (by simp [fps]) fun a S => ?_
 unfold session_CheckItems at h
 replace S := S.nk [] [(0, v_p_l)] [] rfl ⟨rfl, trivial⟩
 refine f_seq ?_
 refine f_region ?_
 refine lv S (rn_assign rfl) rfl ?_; clear S; intro a S
 refine l_done ?_
 replace S := S.nk [] [(0, v_p_l)] [] rfl ⟨rfl, trivial⟩
 refine then_n ?_
 refine f_seq ?_
 refine f_seq ?_
 refine f_region ?_
 refine lv S (rn_move (S.tm rfl)) rfl ?_; clear S; intro a S
 refine lv S (rn_lenT sl_55 (S.tm rfl) (slc_len hs_p_l)) rfl ?_; clear S; intro a S
 refine lv S (rn_gtr (S.tm rfl) rfl) rfl ?_; clear S; intro a S
 refine l_done ?_
 replace S := S.nk [] [(0, v_p_l), (8, .bool (decide (100 < (p_l.length : Int))))] [] rfl ⟨rfl, rfl, trivial⟩
 refine then_n ?_
 refine f_cond (S.tm rfl) (fun hb1 => ?_) (fun hb1 => ?_)
 ·replace h := iteT h hb1
  refine f_seq ?_
  refine f_region ?_
  refine lv S (rn_assign rfl) rfl ?_; clear S; intro a S
  refine l_done ?_
  replace S := S.nk [] [(2, .int .i64 2)] [] rfl ⟨rfl, trivial⟩
  refine then_n ?_
  refine wp_ret ?_
  refine then_r ?_
  obtain rfl := Option.some.inj h
  exact f_ret S Tryd.results42 rfl rfl
 ·replace h := iteF h hb1
  refine wp_skip ?_
  refine then_n ?_
  refine f_seq ?_
  refine f_region ?_
  refine l_makeMap (κ := ByteArray) (ν := Bool) S rfl Value.string Value.bool ?_; clear S; intro a w1 b1 hz1 hk1 S
  refine lv S (rn_assign (S.tm rfl)) rfl ?_; clear S; intro a S
  refine l_done ?_
  replace S := S.nk [.map b1 (ments Value.string Value.bool ([] : List (ByteArray × Bool))) ([] : List (ByteArray × Bool)).length] [(0, v_p_l), (3, .map (some b1))] [true] rfl ⟨rfl, rfl, trivial⟩
  refine then_n ?_
  refine f_seq ?_
  refine f_seq ?_
  refine f_region ?_
  refine lv S (rn_move (S.tm rfl)) rfl ?_; clear S; intro a S
  refine lv S (rn_lenT sl_55 (S.tm rfl) (slc_len hs_p_l)) rfl ?_; clear S; intro a S
  refine lv S (rn_move rfl) rfl ?_; clear S; intro a S
  refine l_done ?_
  replace S := S.nk [.map b1 (ments Value.string Value.bool ([] : List (ByteArray × Bool))) ([] : List (ByteArray × Bool)).length] [(3, .map (some b1)), (10, v_p_l), (11, .int .i64 (p_l.length : Int)), (12, .int .i64 0)] [true] rfl ⟨rfl, rfl, rfl, rfl, trivial⟩
  refine then_n ?_
  obtain ⟨j1, hj1, h⟩ := joinE h
  refine f_join (fun a w' => ∃ x1 : List (ByteArray × Bool), j1 x1 = some r ∧ Sx w [] nov [.map b1 (ments Value.string Value.bool x1) x1.length] [] 53 a w') ?_ ?_
  ·refine wp_block ?_
   refine f_loop (fun (ys1 : List GItem) a w' => ∃ i1 : Nat, ∃ x1 : List (ByteArray × Bool), (∃ dn, p_l = dn ++ ys1 ∧ dn.length = i1) ∧ session_CheckItems_l1 j1 ys1 i1 x1 = some r ∧ Sx w [] nov [.map b1 (ments Value.string Value.bool x1) x1.length] [(3, .map (some b1)), (10, v_p_l), (11, .int .i64 (p_l.length : Int)), (12, .int .i64 (i1 : Int))] 53 a w') List.length p_l ⟨0, ([] : List (ByteArray × Bool)), ⟨[], rfl, rfl⟩, h, S.nf [true] rfl ⟨rfl, rfl, rfl, rfl, trivial⟩⟩ ?_
   clear S h; rintro ys1 a w2 ⟨i1, x1, ⟨dn, hd1, hi1⟩, h, S⟩
   cases ys1 with
   | nil =>
    rw [session_CheckItems_l1.eq_1] at h
    refine f_seq ?_
    refine f_region ?_
    refine lv S (rn_lss (S.tm rfl) (S.tm rfl)) rfl ?_; clear S; intro a S
    refine l_done ?_
    replace S := S.nk [.map b1 (ments Value.string Value.bool x1) x1.length] [(3, .map (some b1)), (10, v_p_l), (11, .int .i64 (p_l.length : Int)), (12, .int .i64 (i1 : Int)), (13, .bool (decide ((i1 : Int) < (p_l.length : Int))))] [true] rfl ⟨rfl, rfl, rfl, rfl, rfl, trivial⟩
    refine then_n ?_
    refine f_seq ?_
    refine wp_cond_false ((S.tm rfl).trans (congrArg Value.bool (rng_nil hd1 hi1))) ?_
    refine wp_exit ?_
    refine then_x ?_
    refine then_x ?_
    refine x_same ?_
    refine then_n ?_
    exact ⟨x1, h, S.nf [true] rfl trivial⟩
   | cons y1 ys1 =>
    rw [session_CheckItems_l1.eq_2] at h
    refine f_seq ?_
    refine f_region ?_
    refine lv S (rn_lss (S.tm rfl) (S.tm rfl)) rfl ?_; clear S; intro a S
    refine l_done ?_
    replace S := S.nk [.map b1 (ments Value.string Value.bool x1) x1.length] [(3, .map (some b1)), (10, v_p_l), (11, .int .i64 (p_l.length : Int)), (12, .int .i64 (i1 : Int)), (13, .bool (decide ((i1 : Int) < (p_l.length : Int))))] [true] rfl ⟨rfl, rfl, rfl, rfl, rfl, trivial⟩
    refine then_n ?_
    refine f_seq ?_
    refine wp_cond_true ((S.tm rfl).trans (congrArg Value.bool (rng_cons hd1 hi1))) ?_
    refine wp_skip ?_
    refine then_n ?_
    refine f_seq ?_
    refine wp_block ?_
    refine f_seq ?_
    refine f_region ?_
    obtain ⟨b2, o1, hm1, hr1⟩ := rn_indexT (a := a) (x := .tmp 10) (y := .tmp 12) (ty := 0) sl_55 hs_p_l (get_mid hd1 hi1) rfl (S.tm rfl) (S.tm rfl)
    refine lv S (hr1 _) rfl ?_; clear S; intro a S
    clear hr1
    refine lv S (rn_ldA Tryd.isAgg54 Tryd.sizeOf54 (off := o1) (o := 0) (part := [.string y1.Key, .int .i64 y1.Heats, .int .i64 y1.Long, .int .i64 y1.Gap, .int .i64 y1.Break]) rfl rfl (S.tm rfl) (hm1.at S.emb0)) rfl ?_; clear S; intro a S
    refine l_alloc S Tryd.zeroValue54 (cs := [.string k_empty, .int .i64 0, .int .i64 0, .int .i64 0, .int .i64 0]) rfl rfl ?_; clear S; intro a w4 b3 hz2 hk2 S
    refine l_store S (S.tm rfl) (S.tm rfl) (i := 0) (off := 0) rfl Tryd.sizeOf54 (vs := [.string y1.Key, .int .i64 y1.Heats, .int .i64 y1.Long, .int .i64 y1.Gap, .int .i64 y1.Break]) rfl rfl rfl rfl ?_; clear S; intro w5 hk3 S
    refine l_done ?_
    replace S := S.nk [.blk b3 [.string y1.Key, .int .i64 y1.Heats, .int .i64 y1.Long, .int .i64 y1.Gap, .int .i64 y1.Break] 54, .map b1 (ments Value.string Value.bool x1) x1.length] [(3, .map (some b1)), (5, .pointer (some ⟨b3, 0, none⟩)), (10, v_p_l), (11, .int .i64 (p_l.length : Int)), (12, .int .i64 (i1 : Int))] [true, true] rfl ⟨rfl, rfl, rfl, rfl, rfl, trivial⟩
    refine then_n ?_
    refine f_seq ?_
    refine wp_block ?_
    refine f_seq ?_
    refine f_region ?_
    refine lv S (rn_fld fa_54_0 (S.tm rfl)) rfl ?_; clear S; intro a S
    refine lv S (rn_load Tryd.isAgg9 (S.tm rfl) (S.cell (i := 0) rfl rfl)) rfl ?_; clear S; intro a S
    obtain ⟨r1, hr2, h⟩ := bindE h
    refine l_enter S (fun _ => run_call (vs := [.string y1.Key]) ⟨(S.tm rfl), trivial⟩ Tryd.call23) (words_IsKey_ok _ y1.Key _ hr2) rfl ?_; clear S; intro v1 a w6 hv1 hk4 hn1 S
    subst hv1
    refine lv S (rn_not (S.tm rfl)) rfl ?_; clear S; intro a S
    refine lv S (rn_assign (S.tm rfl)) rfl ?_; clear S; intro a S
    refine l_done ?_
    replace S := S.nk [.blk b3 [.string y1.Key, .int .i64 y1.Heats, .int .i64 y1.Long, .int .i64 y1.Gap, .int .i64 y1.Break] 54, .map b1 (ments Value.string Value.bool x1) x1.length] [(3, .map (some b1)), (5, .pointer (some ⟨b3, 0, none⟩)), (10, v_p_l), (11, .int .i64 (p_l.length : Int)), (12, .int .i64 (i1 : Int)), (16, .bool (!r1))] [true, true] rfl ⟨rfl, rfl, rfl, rfl, rfl, rfl, trivial⟩
    refine then_n ?_
    refine f_cond (S.tm rfl) (fun hb2 => ?_) (fun hb2 => ?_)
    ·replace h := iteT h hb2
     refine f_seq ?_
     refine f_region ?_
     refine lv S (rn_assign rfl) rfl ?_; clear S; intro a S
     refine l_done ?_
     replace S := S.nk [] [(2, .int .i64 5)] [false, false] rfl ⟨rfl, trivial⟩
     refine then_n ?_
     refine wp_ret ?_
     refine blk_r ?_
     refine then_r ?_
     refine blk_r ?_
     refine then_r ?_
     refine then_r ?_
     refine blk_r ?_
     refine then_r ?_
     refine then_r ?_
     obtain rfl := Option.some.inj h
     exact f_ret S Tryd.results42 rfl rfl
    ·replace h := iteF h hb2
     refine f_seq ?_
     refine f_region ?_
     refine lv S (rn_move (S.tm rfl)) rfl ?_; clear S; intro a S
     refine lv S (rn_fld fa_54_0 (S.tm rfl)) rfl ?_; clear S; intro a S
     refine lv S (rn_load Tryd.isAgg9 (S.tm rfl) (S.cell (i := 0) rfl rfl)) rfl ?_; clear S; intro a S
     refine lv S (rn_lookup (kv := Value.string) (vv := Value.bool) (m := x1) (key := y1.Key) (z := false) (S.map_at (i := 1) rfl) Tryd.underlying97 (keyT_str Tryd.underlying9) Tryd.zeroValue4 (S.tm rfl) (S.tm rfl)) rfl ?_; clear S; intro a S
     refine lv S (rn_assign (S.tm rfl)) rfl ?_; clear S; intro a S
     refine l_done ?_
     replace S := S.nk [.blk b3 [.string y1.Key, .int .i64 y1.Heats, .int .i64 y1.Long, .int .i64 y1.Gap, .int .i64 y1.Break] 54, .map b1 (ments Value.string Value.bool x1) x1.length] [(3, .map (some b1)), (5, .pointer (some ⟨b3, 0, none⟩)), (10, v_p_l), (11, .int .i64 (p_l.length : Int)), (12, .int .i64 (i1 : Int)), (21, .bool (mgetD x1 y1.Key false))] [true, true] rfl ⟨rfl, rfl, rfl, rfl, rfl, rfl, trivial⟩
     refine then_n ?_
     refine f_cond (S.tm rfl) (fun hb3 => ?_) (fun hb3 => ?_)
     ·replace h := iteT h hb3
      refine f_seq ?_
      refine f_region ?_
      refine lv S (rn_assign rfl) rfl ?_; clear S; intro a S
      refine l_done ?_
      replace S := S.nk [] [(2, .int .i64 6)] [false, false] rfl ⟨rfl, trivial⟩
      refine then_n ?_
      refine wp_ret ?_
      refine blk_r ?_
      refine then_r ?_
      refine blk_r ?_
      refine then_r ?_
      refine then_r ?_
      refine blk_r ?_
      refine then_r ?_
      refine then_r ?_
      obtain rfl := Option.some.inj h
      exact f_ret S Tryd.results42 rfl rfl
     ·replace h := iteF h hb3
      refine f_seq ?_
      refine f_region ?_
      refine lv S (rn_fld fa_54_1 (S.tm rfl)) rfl ?_; clear S; intro a S
      refine lv S (rn_load Tryd.isAgg3 (S.tm rfl) (S.cell (i := 0) rfl rfl)) rfl ?_; clear S; intro a S
      refine l_enter S (fun _ => run_call (vs := [.int .i64 y1.Heats, .int .i64 1, .int .i64 60]) ⟨(S.tm rfl), rfl, rfl, trivial⟩ Tryd.call25) (words_Within_ok _ y1.Heats 1 60 _ rfl) rfl ?_; clear S; intro v2 a w7 hv2 hk5 hn2 S
      subst hv2
      refine lv S (rn_not (S.tm rfl)) rfl ?_; clear S; intro a S
      refine lv S (rn_move (S.tm rfl)) rfl ?_; clear S; intro a S
      refine f_cutm 5 (fun a w' => Keep [] w7 w' ∧ Sx w [] nov [.blk b3 [.string y1.Key, .int .i64 y1.Heats, .int .i64 y1.Long, .int .i64 y1.Gap, .int .i64 y1.Break] 54, .map b1 (ments Value.string Value.bool x1) x1.length] [(3, .map (some b1)), (5, .pointer (some ⟨b3, 0, none⟩)), (10, v_p_l), (11, .int .i64 (p_l.length : Int)), (12, .int .i64 (i1 : Int)), (36, .bool ((!(words_Within y1.Heats 1 60)) || (!(words_Within y1.Long 1 3600000))))] 53 a w') ?_ ?_
      ·rcases Bool.eq_false_or_eq_true (!(words_Within y1.Heats 1 60)) with hb4 | hb4
       ·refine l_skip S rfl rfl rfl (neq_t hb4) rfl ?_ rfl; clear S; intro a S
        refine l_skip S rfl rfl rfl (neq_t hb4) rfl ?_ rfl; clear S; intro a S
        refine l_skip S rfl rfl rfl (neq_t hb4) rfl ?_ rfl; clear S; intro a S
        refine l_skip S rfl rfl rfl (neq_t hb4) rfl ?_ rfl; clear S; intro a S
        refine lv S (rn_or_t (!(words_Within y1.Long 1 3600000)) hb4 (S.tm rfl) rfl) rfl ?_; clear S; intro a S
        refine l_done ?_
        refine then_n ?_
        exact ⟨Keep.refl _ _, S.nf [true, true] rfl ⟨rfl, rfl, rfl, rfl, rfl, rfl, trivial⟩⟩
       ·refine l_want S rfl rfl rfl hb4 ?_
        refine lv S (rn_fld fa_54_2 (S.tm rfl)) rfl ?_; clear S; intro a S
        refine l_want S rfl rfl rfl hb4 ?_
        refine lv S (rn_load Tryd.isAgg3 (S.tm rfl) (S.cell (i := 0) rfl rfl)) rfl ?_; clear S; intro a S
        refine l_want S rfl rfl rfl hb4 ?_
        refine l_enter S (fun _ => run_call (vs := [.int .i64 y1.Long, .int .i64 1, .int .i64 3600000]) ⟨(S.tm rfl), rfl, rfl, trivial⟩ Tryd.call25) (words_Within_ok _ y1.Long 1 3600000 _ rfl) rfl ?_; clear S; intro v3 a w9 hv3 hk6 hn3 S
        subst hv3
        refine l_want S rfl rfl rfl hb4 ?_
        refine lv S (rn_not (S.tm rfl)) rfl ?_; clear S; intro a S
        refine lv S (rn_or_f hb4 (S.tm rfl) (S.tm rfl)) rfl ?_; clear S; intro a S
        refine l_done ?_
        refine then_n ?_
        exact ⟨hk6, S.nf [true, true] rfl ⟨rfl, rfl, rfl, rfl, rfl, rfl, trivial⟩⟩
      clear S; rintro a w8 ⟨hk7, S⟩
      refine lv S (rn_move (S.tm rfl)) rfl ?_; clear S; intro a S
      refine f_cutm 5 (fun a w' => Keep [] w8 w' ∧ Sx w [] nov [.blk b3 [.string y1.Key, .int .i64 y1.Heats, .int .i64 y1.Long, .int .i64 y1.Gap, .int .i64 y1.Break] 54, .map b1 (ments Value.string Value.bool x1) x1.length] [(3, .map (some b1)), (5, .pointer (some ⟨b3, 0, none⟩)), (10, v_p_l), (11, .int .i64 (p_l.length : Int)), (12, .int .i64 (i1 : Int)), (42, .bool (((!(words_Within y1.Heats 1 60)) || (!(words_Within y1.Long 1 3600000))) || (!(words_Within y1.Gap 0 3600000))))] 53 a w') ?_ ?_
      ·rcases Bool.eq_false_or_eq_true ((!(words_Within y1.Heats 1 60)) || (!(words_Within y1.Long 1 3600000))) with hb5 | hb5
       ·refine l_skip S rfl rfl rfl (neq_t hb5) rfl ?_ rfl; clear S; intro a S
        refine l_skip S rfl rfl rfl (neq_t hb5) rfl ?_ rfl; clear S; intro a S
        refine l_skip S rfl rfl rfl (neq_t hb5) rfl ?_ rfl; clear S; intro a S
        refine l_skip S rfl rfl rfl (neq_t hb5) rfl ?_ rfl; clear S; intro a S
        refine lv S (rn_or_t (!(words_Within y1.Gap 0 3600000)) hb5 (S.tm rfl) rfl) rfl ?_; clear S; intro a S
        refine l_done ?_
        refine then_n ?_
        exact ⟨Keep.refl _ _, S.nf [true, true] rfl ⟨rfl, rfl, rfl, rfl, rfl, rfl, trivial⟩⟩
       ·refine l_want S rfl rfl rfl hb5 ?_
        refine lv S (rn_fld fa_54_3 (S.tm rfl)) rfl ?_; clear S; intro a S
        refine l_want S rfl rfl rfl hb5 ?_
        refine lv S (rn_load Tryd.isAgg3 (S.tm rfl) (S.cell (i := 0) rfl rfl)) rfl ?_; clear S; intro a S
        refine l_want S rfl rfl rfl hb5 ?_
        refine l_enter S (fun _ => run_call (vs := [.int .i64 y1.Gap, .int .i64 0, .int .i64 3600000]) ⟨(S.tm rfl), rfl, rfl, trivial⟩ Tryd.call25) (words_Within_ok _ y1.Gap 0 3600000 _ rfl) rfl ?_; clear S; intro v4 a w11 hv4 hk8 hn4 S
        subst hv4
        refine l_want S rfl rfl rfl hb5 ?_
        refine lv S (rn_not (S.tm rfl)) rfl ?_; clear S; intro a S
        refine lv S (rn_or_f hb5 (S.tm rfl) (S.tm rfl)) rfl ?_; clear S; intro a S
        refine l_done ?_
        refine then_n ?_
        exact ⟨hk8, S.nf [true, true] rfl ⟨rfl, rfl, rfl, rfl, rfl, rfl, trivial⟩⟩
      clear S; rintro a w10 ⟨hk9, S⟩
      refine lv S (rn_move (S.tm rfl)) rfl ?_; clear S; intro a S
      refine f_cutm 5 (fun a w' => Keep [] w10 w' ∧ Sx w [] nov [.blk b3 [.string y1.Key, .int .i64 y1.Heats, .int .i64 y1.Long, .int .i64 y1.Gap, .int .i64 y1.Break] 54, .map b1 (ments Value.string Value.bool x1) x1.length] [(3, .map (some b1)), (5, .pointer (some ⟨b3, 0, none⟩)), (10, v_p_l), (11, .int .i64 (p_l.length : Int)), (12, .int .i64 (i1 : Int)), (48, .bool ((((!(words_Within y1.Heats 1 60)) || (!(words_Within y1.Long 1 3600000))) || (!(words_Within y1.Gap 0 3600000))) || (!(words_Within y1.Break 0 3600000))))] 53 a w') ?_ ?_
      ·rcases Bool.eq_false_or_eq_true (((!(words_Within y1.Heats 1 60)) || (!(words_Within y1.Long 1 3600000))) || (!(words_Within y1.Gap 0 3600000))) with hb6 | hb6
       ·refine l_skip S rfl rfl rfl (neq_t hb6) rfl ?_ rfl; clear S; intro a S
        refine l_skip S rfl rfl rfl (neq_t hb6) rfl ?_ rfl; clear S; intro a S
        refine l_skip S rfl rfl rfl (neq_t hb6) rfl ?_ rfl; clear S; intro a S
        refine l_skip S rfl rfl rfl (neq_t hb6) rfl ?_ rfl; clear S; intro a S
        refine lv S (rn_or_t (!(words_Within y1.Break 0 3600000)) hb6 (S.tm rfl) rfl) rfl ?_; clear S; intro a S
        refine l_done ?_
        refine then_n ?_
        exact ⟨Keep.refl _ _, S.nf [true, true] rfl ⟨rfl, rfl, rfl, rfl, rfl, rfl, trivial⟩⟩
       ·refine l_want S rfl rfl rfl hb6 ?_
        refine lv S (rn_fld fa_54_4 (S.tm rfl)) rfl ?_; clear S; intro a S
        refine l_want S rfl rfl rfl hb6 ?_
        refine lv S (rn_load Tryd.isAgg3 (S.tm rfl) (S.cell (i := 0) rfl rfl)) rfl ?_; clear S; intro a S
        refine l_want S rfl rfl rfl hb6 ?_
        refine l_enter S (fun _ => run_call (vs := [.int .i64 y1.Break, .int .i64 0, .int .i64 3600000]) ⟨(S.tm rfl), rfl, rfl, trivial⟩ Tryd.call25) (words_Within_ok _ y1.Break 0 3600000 _ rfl) rfl ?_; clear S; intro v5 a w13 hv5 hk10 hn5 S
        subst hv5
        refine l_want S rfl rfl rfl hb6 ?_
        refine lv S (rn_not (S.tm rfl)) rfl ?_; clear S; intro a S
        refine lv S (rn_or_f hb6 (S.tm rfl) (S.tm rfl)) rfl ?_; clear S; intro a S
        refine l_done ?_
        refine then_n ?_
        exact ⟨hk10, S.nf [true, true] rfl ⟨rfl, rfl, rfl, rfl, rfl, rfl, trivial⟩⟩
      clear S; rintro a w12 ⟨hk11, S⟩
      refine lv S (rn_assign (S.tm rfl)) rfl ?_; clear S; intro a S
      refine l_done ?_
      replace S := S.nk [.blk b3 [.string y1.Key, .int .i64 y1.Heats, .int .i64 y1.Long, .int .i64 y1.Gap, .int .i64 y1.Break] 54, .map b1 (ments Value.string Value.bool x1) x1.length] [(3, .map (some b1)), (5, .pointer (some ⟨b3, 0, none⟩)), (10, v_p_l), (11, .int .i64 (p_l.length : Int)), (12, .int .i64 (i1 : Int)), (26, .bool ((((!(words_Within y1.Heats 1 60)) || (!(words_Within y1.Long 1 3600000))) || (!(words_Within y1.Gap 0 3600000))) || (!(words_Within y1.Break 0 3600000))))] [true, true] rfl ⟨rfl, rfl, rfl, rfl, rfl, rfl, trivial⟩
      refine then_n ?_
      refine f_cond (S.tm rfl) (fun hb7 => ?_) (fun hb7 => ?_)
      ·replace h := iteT h hb7
       refine f_seq ?_
       refine f_region ?_
       refine lv S (rn_assign rfl) rfl ?_; clear S; intro a S
       refine l_done ?_
       replace S := S.nk [] [(2, .int .i64 1)] [false, false] rfl ⟨rfl, trivial⟩
       refine then_n ?_
       refine wp_ret ?_
       refine blk_r ?_
       refine then_r ?_
       refine blk_r ?_
       refine then_r ?_
       refine then_r ?_
       refine blk_r ?_
       refine then_r ?_
       refine then_r ?_
       obtain rfl := Option.some.inj h
       exact f_ret S Tryd.results42 rfl rfl
      ·replace h := iteF h hb7
       refine wp_skip ?_
       refine blk_n ?_
       refine then_n ?_
       refine f_region ?_
       refine lv S (rn_move (S.tm rfl)) rfl ?_; clear S; intro a S
       refine lv S (rn_fld fa_54_0 (S.tm rfl)) rfl ?_; clear S; intro a S
       refine lv S (rn_load Tryd.isAgg9 (S.tm rfl) (S.cell (i := 0) rfl rfl)) rfl ?_; clear S; intro a S
       refine l_mapUpdate (kv := Value.string) (vv := Value.bool) (m := x1) (key := y1.Key) (val := true) S (i := 1) rfl Tryd.underlying97 (keyT_str Tryd.underlying9) (S.tm rfl) (S.tm rfl) rfl ?_; clear S; intro w14 hk12 S
       refine l_done ?_
       replace S := S.nk [.map b1 (ments Value.string Value.bool (mput x1 y1.Key true)) (mput x1 y1.Key true).length] [(3, .map (some b1)), (10, v_p_l), (11, .int .i64 (p_l.length : Int)), (12, .int .i64 (i1 : Int))] [false, true] rfl ⟨rfl, rfl, rfl, rfl, trivial⟩
       refine blk_n ?_
       refine then_n ?_
       refine f_region ?_
       refine lv S (rn_add (S.tm rfl) rfl) rfl ?_; clear S; intro a S
       refine lv S (rn_move (S.tm rfl)) rfl ?_; clear S; intro a S
       refine l_done ?_
       replace S := S.nk [.map b1 (ments Value.string Value.bool (mput x1 y1.Key true)) (mput x1 y1.Key true).length] [(3, .map (some b1)), (10, v_p_l), (11, .int .i64 (p_l.length : Int)), (12, .int .i64 (W ((i1 : Int) + 1)))] [true] rfl ⟨rfl, rfl, rfl, rfl, trivial⟩
       refine then_n ?_
       exact ⟨ys1, ⟨i1 + 1, (mput x1 y1.Key true), ⟨_, (hd1).trans (List.append_cons _ _ _), by simp [hi1]⟩, h, S.nf [true] rfl ⟨rfl, rfl, rfl, (congrArg (fun z => some (Value.int .i64 z)) (rng_next hd1 hi1 (slc_max hs_p_l))), trivial⟩⟩, Nat.lt_succ_self _⟩
  clear S h; rintro a w3 ⟨x1, h, S⟩; rw [hj1] at h; clear hj1 j1
  refine then_n ?_
  refine f_seq ?_
  refine f_region ?_
  refine lv S (rn_assign rfl) rfl ?_; clear S; intro a S
  refine l_done ?_
  replace S := S.nk [] [(2, .int .i64 0)] [false] rfl ⟨rfl, trivial⟩
  refine then_n ?_
  refine wp_ret ?_
  obtain rfl := Option.some.inj h
  exact f_ret S Tryd.results42 rfl rfl
theorem words_IsMoment_ok (w : World) (p_n : Int) (r : Bool) (h : words_IsMoment p_n = r) :
    Calls Tryd.prog 56 [.int .i64 p_n].toArray w (Ret w [] fun _ v _ => v = .bool r) := by
 refine f_enter [] [] Tryd.func56 rfl Tryd.ntmps56 rfl (by simp) (by simp [fps]) (by simp [fps]) fun a S => ?_
 unfold words_IsMoment at h
 replace S := S.nk [] [(0, .int .i64 p_n)] [] rfl ⟨rfl, trivial⟩
 refine f_seq ?_
 refine f_region ?_
 refine lv S (rn_assign rfl) rfl ?_; clear S; intro a S
 refine l_done ?_
 replace S := S.nk [] [(0, .int .i64 p_n)] [] rfl ⟨rfl, trivial⟩
 refine then_n ?_
 refine f_seq ?_
 refine f_region ?_
 refine lv S (rn_move (S.tm rfl)) rfl ?_; clear S; intro a S
 refine lv S (rn_geq (S.tm rfl) rfl) rfl ?_; clear S; intro a S
 refine lv S (rn_move (S.tm rfl)) rfl ?_; clear S; intro a S
 refine f_cutm 3 (fun a w' => Keep [] w w' ∧ Sx w [] nov [] [(8, .bool ((decide (0 ≤ p_n)) && (decide (p_n < 345686400000))))] 9 a w') ?_ ?_
 ·rcases Bool.eq_false_or_eq_true (decide (0 ≤ p_n)) with hb1 | hb1
  ·refine l_want S rfl rfl rfl hb1 ?_
   refine lv S (rn_move (S.tm rfl)) rfl ?_; clear S; intro a S
   refine l_want S rfl rfl rfl hb1 ?_
   refine lv S (rn_lss (S.tm rfl) rfl) rfl ?_; clear S; intro a S
   refine lv S (rn_and_t hb1 (S.tm rfl) (S.tm rfl)) rfl ?_; clear S; intro a S
   refine l_done ?_
   refine then_n ?_
   exact ⟨Keep.refl _ _, S.nf [] rfl ⟨rfl, trivial⟩⟩
  ·refine l_skip S rfl rfl rfl (neq_f hb1) rfl ?_ rfl; clear S; intro a S
   refine l_skip S rfl rfl rfl (neq_f hb1) rfl ?_ rfl; clear S; intro a S
   refine lv S (rn_and_f (decide (p_n < 345686400000)) hb1 (S.tm rfl) rfl) rfl ?_; clear S; intro a S
   refine l_done ?_
   refine then_n ?_
   exact ⟨Keep.refl _ _, S.nf [] rfl ⟨rfl, trivial⟩⟩
 clear S; rintro a w1 ⟨hk1, S⟩
 refine lv S (rn_assign (S.tm rfl)) rfl ?_; clear S; intro a S
 refine l_done ?_
 replace S := S.nk [] [(2, .bool ((decide (0 ≤ p_n)) && (decide (p_n < 345686400000))))] [] rfl ⟨rfl, trivial⟩
 refine then_n ?_
 refine wp_ret ?_
 subst h
 exact f_ret S Tryd.results56 rfl rfl
theorem session_timetable_ok (w : World) (v_p_l : Value) (p_l : List GItem) (hs_p_l : Slc (view w []) 5 v_p_l (p_l.map GItem.enc)) (p_from : Int) (r : (List GSlot)) (h : session_timetable p_l p_from = some r) :
    Calls Tryd.prog 57 [v_p_l, .int .i64 p_from].toArray w (Ret w [] fun τ v _ => OwnV τ 85 4 v r.length (r.flatMap GSlot.enc)) := by
 refine f_enter [] [] Tryd.func57 rfl Tryd.ntmps57 rfl (by simp) (by simp [fps]) (by simp [fps]) fun a S => ?_
 unfold session_timetable at h
 replace S := S.nk [] [(0, v_p_l), (1, .int .i64 p_from)] [] rfl ⟨rfl, rfl, trivial⟩
 refine f_seq ?_
 refine f_region ?_
 refine lv S (rn_assign rfl) rfl ?_; clear S; intro a S
 refine l_done ?_
 replace S := S.nk [] [(0, v_p_l), (1, .int .i64 p_from)] [] rfl ⟨rfl, rfl, trivial⟩
 refine then_n ?_
 refine f_seq ?_
 refine f_region ?_
 refine lv S (rn_assign rfl) rfl ?_; clear S; intro a S
 replace S := S.nil 85 4
 refine l_done ?_
 replace S := S.nk [.own (.slice none 0 0) 85 4 ([] : List GSlot).length (([] : List GSlot).flatMap GSlot.enc)] [(0, v_p_l), (1, .int .i64 p_from), (5, (.slice none 0 0))] [true] rfl ⟨rfl, rfl, rfl, trivial⟩
 refine then_n ?_
 refine f_seq ?_
 refine f_region ?_
 refine lv S (rn_move (S.tm rfl)) rfl ?_; clear S; intro a S
 refine lv S (rn_assign (S.tm rfl)) rfl ?_; clear S; intro a S
 refine l_done ?_
 replace S := S.nk [.own (.slice none 0 0) 85 4 ([] : List GSlot).length (([] : List GSlot).flatMap GSlot.enc)] [(0, v_p_l), (5, (.slice none 0 0)), (6, .int .i64 p_from)] [true] rfl ⟨rfl, rfl, rfl, trivial⟩
 refine then_n ?_
 refine f_seq ?_
 refine f_seq ?_
 refine f_region ?_
 refine lv S (rn_move (S.tm rfl)) rfl ?_; clear S; intro a S
 refine lv S (rn_lenT sl_55 (S.tm rfl) (slc_len hs_p_l)) rfl ?_; clear S; intro a S
 refine lv S (rn_move rfl) rfl ?_; clear S; intro a S
 refine l_done ?_
 replace S := S.nk [.own (.slice none 0 0) 85 4 ([] : List GSlot).length (([] : List GSlot).flatMap GSlot.enc)] [(5, (.slice none 0 0)), (6, .int .i64 p_from), (11, v_p_l), (12, .int .i64 (p_l.length : Int)), (13, .int .i64 0)] [true] rfl ⟨rfl, rfl, rfl, rfl, rfl, trivial⟩
 refine then_n ?_
 obtain ⟨j1, hj1, h⟩ := joinE h
 refine f_join (fun a w' => ∃ x1 : List GSlot, ∃ v1 : Value, j1 x1 = some r ∧ Sx w [] nov [.own v1 85 4 x1.length (x1.flatMap GSlot.enc)] [(5, v1)] 54 a w') ?_ ?_
 ·refine wp_block ?_
  refine f_loop (fun (ys1 : List GItem) a w' => ∃ i1 : Nat, ∃ x1 : List GSlot, ∃ x2 : Int, ∃ v1 : Value, (∃ dn, p_l = dn ++ ys1 ∧ dn.length = i1) ∧ session_timetable_l1 j1 ys1 i1 x1 x2 = some r ∧ Sx w [] nov [.own v1 85 4 x1.length (x1.flatMap GSlot.enc)] [(5, v1), (6, .int .i64 x2), (11, v_p_l), (12, .int .i64 (p_l.length : Int)), (13, .int .i64 (i1 : Int))] 54 a w') List.length p_l ⟨0, ([] : List GSlot), p_from, (.slice none 0 0), ⟨[], rfl, rfl⟩, h, S.nf [true] rfl ⟨rfl, rfl, rfl, rfl, rfl, trivial⟩⟩ ?_
  clear S h; rintro ys1 a w1 ⟨i1, x1, x2, v1, ⟨dn, hd1, hi1⟩, h, S⟩
  cases ys1 with
  | nil =>
   rw [session_timetable_l1.eq_1] at h
   refine f_seq ?_
   refine f_region ?_
   refine lv S (rn_lss (S.tm rfl) (S.tm rfl)) rfl ?_; clear S; intro a S
   refine l_done ?_
   replace S := S.nk [.own v1 85 4 x1.length (x1.flatMap GSlot.enc)] [(5, v1), (6, .int .i64 x2), (11, v_p_l), (12, .int .i64 (p_l.length : Int)), (13, .int .i64 (i1 : Int)), (14, .bool (decide ((i1 : Int) < (p_l.length : Int))))] [true] rfl ⟨rfl, rfl, rfl, rfl, rfl, rfl, trivial⟩
   refine then_n ?_
   refine f_seq ?_
   refine wp_cond_false ((S.tm rfl).trans (congrArg Value.bool (rng_nil hd1 hi1))) ?_
   refine wp_exit ?_
   refine then_x ?_
   refine then_x ?_
   refine x_same ?_
   refine then_n ?_
   exact ⟨x1, v1, h, S.nf [true] rfl ⟨rfl, trivial⟩⟩
  | cons y1 ys1 =>
   rw [session_timetable_l1.eq_2] at h
   refine f_seq ?_
   refine f_region ?_
   refine lv S (rn_lss (S.tm rfl) (S.tm rfl)) rfl ?_; clear S; intro a S
   refine l_done ?_
   replace S := S.nk [.own v1 85 4 x1.length (x1.flatMap GSlot.enc)] [(5, v1), (6, .int .i64 x2), (11, v_p_l), (12, .int .i64 (p_l.length : Int)), (13, .int .i64 (i1 : Int)), (14, .bool (decide ((i1 : Int) < (p_l.length : Int))))] [true] rfl ⟨rfl, rfl, rfl, rfl, rfl, rfl, trivial⟩
   refine then_n ?_
   refine f_seq ?_
   refine wp_cond_true ((S.tm rfl).trans (congrArg Value.bool (rng_cons hd1 hi1))) ?_
   refine wp_skip ?_
   refine then_n ?_
   refine f_seq ?_
   refine wp_block ?_
   refine f_seq ?_
   refine f_region ?_
   obtain ⟨b1, o1, hm1, hr1⟩ := rn_indexT (a := a) (x := .tmp 11) (y := .tmp 13) (ty := 0) sl_55 hs_p_l (get_mid hd1 hi1) rfl (S.tm rfl) (S.tm rfl)
   refine lv S (hr1 _) rfl ?_; clear S; intro a S
   clear hr1
   refine lv S (rn_ldA Tryd.isAgg54 Tryd.sizeOf54 (off := o1) (o := 0) (part := [.string y1.Key, .int .i64 y1.Heats, .int .i64 y1.Long, .int .i64 y1.Gap, .int .i64 y1.Break]) rfl rfl (S.tm rfl) (hm1.at S.emb0)) rfl ?_; clear S; intro a S
   refine l_alloc S Tryd.zeroValue54 (cs := [.string k_empty, .int .i64 0, .int .i64 0, .int .i64 0, .int .i64 0]) rfl rfl ?_; clear S; intro a w3 b2 hz1 hk1 S
   refine l_store S (S.tm rfl) (S.tm rfl) (i := 0) (off := 0) rfl Tryd.sizeOf54 (vs := [.string y1.Key, .int .i64 y1.Heats, .int .i64 y1.Long, .int .i64 y1.Gap, .int .i64 y1.Break]) rfl rfl rfl rfl ?_; clear S; intro w4 hk2 S
   refine l_done ?_
   replace S := S.nk [.blk b2 [.string y1.Key, .int .i64 y1.Heats, .int .i64 y1.Long, .int .i64 y1.Gap, .int .i64 y1.Break] 54, .own v1 85 4 x1.length (x1.flatMap GSlot.enc)] [(5, v1), (6, .int .i64 x2), (8, .pointer (some ⟨b2, 0, none⟩)), (11, v_p_l), (12, .int .i64 (p_l.length : Int)), (13, .int .i64 (i1 : Int))] [true, true] rfl ⟨rfl, rfl, rfl, rfl, rfl, rfl, trivial⟩
   refine then_n ?_
   refine f_seq ?_
   refine f_seq ?_
   refine f_region ?_
   refine lv S (rn_assign rfl) rfl ?_; clear S; intro a S
   refine l_done ?_
   replace S := S.nk [.blk b2 [.string y1.Key, .int .i64 y1.Heats, .int .i64 y1.Long, .int .i64 y1.Gap, .int .i64 y1.Break] 54, .own v1 85 4 x1.length (x1.flatMap GSlot.enc)] [(5, v1), (6, .int .i64 x2), (8, .pointer (some ⟨b2, 0, none⟩)), (9, .int .i64 1), (11, v_p_l), (12, .int .i64 (p_l.length : Int)), (13, .int .i64 (i1 : Int))] [true, true] rfl ⟨rfl, rfl, rfl, rfl, rfl, rfl, rfl, trivial⟩
   refine then_n ?_
   obtain ⟨j2, hj2, h⟩ := joinE h
   refine f_join (fun a w' => ∃ x3 : List GSlot, ∃ x4 : Int, ∃ v2 : Value, j2 x3 x4 = some r ∧ Sx w [] nov [.blk b2 [.string y1.Key, .int .i64 y1.Heats, .int .i64 y1.Long, .int .i64 y1.Gap, .int .i64 y1.Break] 54, .own v2 85 4 x3.length (x3.flatMap GSlot.enc)] [(5, v2), (6, .int .i64 x4), (8, .pointer (some ⟨b2, 0, none⟩)), (11, v_p_l), (12, .int .i64 (p_l.length : Int)), (13, .int .i64 (i1 : Int))] 54 a w') ?_ ?_
   ·refine wp_block ?_
    refine f_loop (fun (m1 : Nat) a w' => ∃ x3 : List GSlot, ∃ x4 : Int, ∃ x5 : Int, ∃ v2 : Value, session_timetable_l2 y1 j2 m1 x3 x4 x5 = some r ∧ Sx w [] nov [.blk b2 [.string y1.Key, .int .i64 y1.Heats, .int .i64 y1.Long, .int .i64 y1.Gap, .int .i64 y1.Break] 54, .own v2 85 4 x3.length (x3.flatMap GSlot.enc)] [(5, v2), (6, .int .i64 x4), (8, .pointer (some ⟨b2, 0, none⟩)), (9, .int .i64 x5), (11, v_p_l), (12, .int .i64 (p_l.length : Int)), (13, .int .i64 (i1 : Int))] 54 a w') id ((y1.Heats - 1).toNat + 2) ⟨x1, x2, 1, v1, h, S.nf [true, true] rfl ⟨rfl, rfl, rfl, rfl, rfl, rfl, rfl, trivial⟩⟩ ?_
    clear S h; rintro m1 a w5 ⟨x3, x4, x5, v2, h, S⟩
    cases m1 with
    | zero => rw [session_timetable_l2.eq_1] at h; cases h
    | succ m1 =>
     rw [session_timetable_l2.eq_2] at h
     refine f_seq ?_
     refine f_seq ?_
     refine f_region ?_
     refine lv S (rn_move (S.tm rfl)) rfl ?_; clear S; intro a S
     refine lv S (rn_fld fa_54_1 (S.tm rfl)) rfl ?_; clear S; intro a S
     refine lv S (rn_load Tryd.isAgg3 (S.tm rfl) (S.cell (i := 0) rfl rfl)) rfl ?_; clear S; intro a S
     refine lv S (rn_leq (S.tm rfl) (S.tm rfl)) rfl ?_; clear S; intro a S
     refine l_done ?_
     replace S := S.nk [.blk b2 [.string y1.Key, .int .i64 y1.Heats, .int .i64 y1.Long, .int .i64 y1.Gap, .int .i64 y1.Break] 54, .own v2 85 4 x3.length (x3.flatMap GSlot.enc)] [(5, v2), (6, .int .i64 x4), (8, .pointer (some ⟨b2, 0, none⟩)), (9, .int .i64 x5), (11, v_p_l), (12, .int .i64 (p_l.length : Int)), (13, .int .i64 (i1 : Int)), (20, .bool (decide (x5 ≤ y1.Heats)))] [true, true] rfl ⟨rfl, rfl, rfl, rfl, rfl, rfl, rfl, rfl, trivial⟩
     refine then_n ?_
     refine f_cond (S.tm rfl) (fun hb1 => ?_) (fun hb1 => ?_)
     ·replace h := iteT h hb1
      refine wp_skip ?_
      refine then_n ?_
      refine f_seq ?_
      obtain ⟨j3, hj3, h⟩ := joinE h
      refine f_join (fun a w' => ∃ x6 : List GSlot, ∃ x7 : Int, ∃ v3 : Value, j3 x6 x7 = some r ∧ Sx w [] nov [.blk b2 [.string y1.Key, .int .i64 y1.Heats, .int .i64 y1.Long, .int .i64 y1.Gap, .int .i64 y1.Break] 54, .own v3 85 4 x6.length (x6.flatMap GSlot.enc)] [(5, v3), (6, .int .i64 x7), (8, .pointer (some ⟨b2, 0, none⟩)), (9, .int .i64 x5), (11, v_p_l), (12, .int .i64 (p_l.length : Int)), (13, .int .i64 (i1 : Int))] 54 a w') ?_ ?_
      ·refine wp_block ?_
       refine f_seq ?_
       refine f_region ?_
       refine lv S (rn_move (S.tm rfl)) rfl ?_; clear S; intro a S
       refine lv S (rn_fld fa_54_0 (S.tm rfl)) rfl ?_; clear S; intro a S
       refine lv S (rn_load Tryd.isAgg9 (S.tm rfl) (S.cell (i := 0) rfl rfl)) rfl ?_; clear S; intro a S
       refine lv S (rn_move (S.tm rfl)) rfl ?_; clear S; intro a S
       refine lv S (rn_move (S.tm rfl)) rfl ?_; clear S; intro a S
       refine lv S (rn_move (S.tm rfl)) rfl ?_; clear S; intro a S
       refine lv S (rn_fld fa_54_2 (S.tm rfl)) rfl ?_; clear S; intro a S
       refine lv S (rn_load Tryd.isAgg3 (S.tm rfl) (S.cell (i := 0) rfl rfl)) rfl ?_; clear S; intro a S
       refine lv S (rn_add (S.tm rfl) (S.tm rfl)) rfl ?_; clear S; intro a S
       refine lv S (rn_bld bt_83 (pv := [(0, .int .i64 x4), (1, .int .i64 (W (x4 + y1.Long)))]) ⟨rfl, (S.tm rfl), rfl, (S.tm rfl), trivial⟩ (cs := [.int .i64 x4, .int .i64 (W (x4 + y1.Long))]) (by kernel_rfl)) rfl ?_; clear S; intro a S
       refine lv S (rn_bld bt_85 (pv := [(0, .string y1.Key), (1, .int .i64 x5), (2, .agg #[.int .i64 x4, .int .i64 (W (x4 + y1.Long))])]) ⟨rfl, (S.tm rfl), rfl, (S.tm rfl), rfl, (S.tm rfl), trivial⟩ (cs := [.string y1.Key, .int .i64 x5, .int .i64 x4, .int .i64 (W (x4 + y1.Long))]) (by kernel_rfl)) rfl ?_; clear S; intro a S
       refine l_buildSlice S Tryd.underlying70 Tryd.sizeOf85 Tryd.zeroValue85 rfl rfl (pv := [(0, .agg #[.string y1.Key, .int .i64 x5, .int .i64 x4, .int .i64 (W (x4 + y1.Long))])]) ⟨rfl, (S.tm rfl), trivial⟩ (cs := [.string y1.Key, .int .i64 x5, .int .i64 x4, .int .i64 (W (x4 + y1.Long))]) (by kernel_rfl) rfl ?_; clear S; intro a w8 b3 hz2 hk3 S
       obtain ⟨hc1, h⟩ := chkE h
       refine l_appendT sl_70 GSlot.enc_ok S (S.tm rfl) (i := 2) rfl (S.tm rfl) (j := 0) rfl (ys := [(GSlot.mk y1.Key x5 (GWindow.mk x4 (W (x4 + y1.Long))))]) rfl rfl rfl rfl (by have := room_lt hc1; omega) rfl ?_; clear S; intro v4 a w9 hk4 S
       refine lv S (rn_assign (S.tm rfl)) rfl ?_; clear S; intro a S
       refine l_done ?_
       replace S := S.nk [.blk b2 [.string y1.Key, .int .i64 y1.Heats, .int .i64 y1.Long, .int .i64 y1.Gap, .int .i64 y1.Break] 54, .own v4 85 4 (x3 ++ [(GSlot.mk y1.Key x5 (GWindow.mk x4 (W (x4 + y1.Long))))]).length ((x3 ++ [(GSlot.mk y1.Key x5 (GWindow.mk x4 (W (x4 + y1.Long))))]).flatMap GSlot.enc)] [(5, v4), (6, .int .i64 x4), (8, .pointer (some ⟨b2, 0, none⟩)), (9, .int .i64 x5), (11, v_p_l), (12, .int .i64 (p_l.length : Int)), (13, .int .i64 (i1 : Int))] [false, true, true] rfl ⟨rfl, rfl, rfl, rfl, rfl, rfl, rfl, trivial⟩
       refine then_n ?_
       refine f_seq ?_
       refine f_region ?_
       refine lv S (rn_move (S.tm rfl)) rfl ?_; clear S; intro a S
       refine lv S (rn_fld fa_54_2 (S.tm rfl)) rfl ?_; clear S; intro a S
       refine lv S (rn_load Tryd.isAgg3 (S.tm rfl) (S.cell (i := 0) rfl rfl)) rfl ?_; clear S; intro a S
       refine lv S (rn_add (S.tm rfl) (S.tm rfl)) rfl ?_; clear S; intro a S
       refine lv S (rn_assign (S.tm rfl)) rfl ?_; clear S; intro a S
       refine l_done ?_
       replace S := S.nk [.blk b2 [.string y1.Key, .int .i64 y1.Heats, .int .i64 y1.Long, .int .i64 y1.Gap, .int .i64 y1.Break] 54, .own v4 85 4 (x3 ++ [(GSlot.mk y1.Key x5 (GWindow.mk x4 (W (x4 + y1.Long))))]).length ((x3 ++ [(GSlot.mk y1.Key x5 (GWindow.mk x4 (W (x4 + y1.Long))))]).flatMap GSlot.enc)] [(5, v4), (6, .int .i64 (W (x4 + y1.Long))), (8, .pointer (some ⟨b2, 0, none⟩)), (9, .int .i64 x5), (11, v_p_l), (12, .int .i64 (p_l.length : Int)), (13, .int .i64 (i1 : Int))] [true, true] rfl ⟨rfl, rfl, rfl, rfl, rfl, rfl, rfl, trivial⟩
       refine then_n ?_
       refine f_seq ?_
       refine f_region ?_
       refine lv S (rn_move (S.tm rfl)) rfl ?_; clear S; intro a S
       refine lv S (rn_fld fa_54_1 (S.tm rfl)) rfl ?_; clear S; intro a S
       refine lv S (rn_load Tryd.isAgg3 (S.tm rfl) (S.cell (i := 0) rfl rfl)) rfl ?_; clear S; intro a S
       refine lv S (rn_lss (S.tm rfl) (S.tm rfl)) rfl ?_; clear S; intro a S
       refine l_done ?_
       replace S := S.nk [.blk b2 [.string y1.Key, .int .i64 y1.Heats, .int .i64 y1.Long, .int .i64 y1.Gap, .int .i64 y1.Break] 54, .own v4 85 4 (x3 ++ [(GSlot.mk y1.Key x5 (GWindow.mk x4 (W (x4 + y1.Long))))]).length ((x3 ++ [(GSlot.mk y1.Key x5 (GWindow.mk x4 (W (x4 + y1.Long))))]).flatMap GSlot.enc)] [(5, v4), (6, .int .i64 (W (x4 + y1.Long))), (8, .pointer (some ⟨b2, 0, none⟩)), (9, .int .i64 x5), (11, v_p_l), (12, .int .i64 (p_l.length : Int)), (13, .int .i64 (i1 : Int)), (43, .bool (decide (x5 < y1.Heats)))] [true, true] rfl ⟨rfl, rfl, rfl, rfl, rfl, rfl, rfl, rfl, trivial⟩
       refine then_n ?_
       obtain ⟨j4, hj4, h⟩ := joinE h
       refine f_join (fun a w' => ∃ x8 : Int, j4 x8 = some r ∧ Sx w [] nov [.blk b2 [.string y1.Key, .int .i64 y1.Heats, .int .i64 y1.Long, .int .i64 y1.Gap, .int .i64 y1.Break] 54, .own v4 85 4 (x3 ++ [(GSlot.mk y1.Key x5 (GWindow.mk x4 (W (x4 + y1.Long))))]).length ((x3 ++ [(GSlot.mk y1.Key x5 (GWindow.mk x4 (W (x4 + y1.Long))))]).flatMap GSlot.enc)] [(5, v4), (6, .int .i64 x8), (8, .pointer (some ⟨b2, 0, none⟩)), (9, .int .i64 x5), (11, v_p_l), (12, .int .i64 (p_l.length : Int)), (13, .int .i64 (i1 : Int))] 54 a w') ?_ ?_
       ·refine f_cond (S.tm rfl) (fun hb2 => ?_) (fun hb2 => ?_)
        ·replace h := iteT h hb2
         refine f_region ?_
         refine lv S (rn_move (S.tm rfl)) rfl ?_; clear S; intro a S
         refine lv S (rn_fld fa_54_3 (S.tm rfl)) rfl ?_; clear S; intro a S
         refine lv S (rn_load Tryd.isAgg3 (S.tm rfl) (S.cell (i := 0) rfl rfl)) rfl ?_; clear S; intro a S
         refine lv S (rn_add (S.tm rfl) (S.tm rfl)) rfl ?_; clear S; intro a S
         refine lv S (rn_assign (S.tm rfl)) rfl ?_; clear S; intro a S
         refine l_done ?_
         replace S := S.nk [.blk b2 [.string y1.Key, .int .i64 y1.Heats, .int .i64 y1.Long, .int .i64 y1.Gap, .int .i64 y1.Break] 54, .own v4 85 4 (x3 ++ [(GSlot.mk y1.Key x5 (GWindow.mk x4 (W (x4 + y1.Long))))]).length ((x3 ++ [(GSlot.mk y1.Key x5 (GWindow.mk x4 (W (x4 + y1.Long))))]).flatMap GSlot.enc)] [(5, v4), (6, .int .i64 (W ((W (x4 + y1.Long)) + y1.Gap))), (8, .pointer (some ⟨b2, 0, none⟩)), (9, .int .i64 x5), (11, v_p_l), (12, .int .i64 (p_l.length : Int)), (13, .int .i64 (i1 : Int))] [true, true] rfl ⟨rfl, rfl, rfl, rfl, rfl, rfl, rfl, trivial⟩
         refine then_n ?_
         exact ⟨W ((W (x4 + y1.Long)) + y1.Gap), h, S.nf [true, true] rfl ⟨rfl, rfl, rfl, rfl, rfl, rfl, rfl, trivial⟩⟩
        ·replace h := iteF h hb2
         refine wp_skip ?_
         refine then_n ?_
         exact ⟨W (x4 + y1.Long), h, S.nf [true, true] rfl ⟨rfl, rfl, rfl, rfl, rfl, rfl, rfl, trivial⟩⟩
       clear S h; rintro a w10 ⟨x8, h, S⟩; rw [hj4] at h; clear hj4 j4
       refine blk_n ?_
       refine then_n ?_
       exact ⟨(x3 ++ [(GSlot.mk y1.Key x5 (GWindow.mk x4 (W (x4 + y1.Long))))]), x8, v4, h, S.nf [true, true] rfl ⟨rfl, rfl, rfl, rfl, rfl, rfl, rfl, trivial⟩⟩
      clear S h; rintro a w7 ⟨x6, x7, v3, h, S⟩; rw [hj3] at h; clear hj3 j3
      refine then_n ?_
      refine f_region ?_
      refine lv S (rn_move (S.tm rfl)) rfl ?_; clear S; intro a S
      refine lv S (rn_add (S.tm rfl) rfl) rfl ?_; clear S; intro a S
      refine lv S (rn_assign (S.tm rfl)) rfl ?_; clear S; intro a S
      refine l_done ?_
      replace S := S.nk [.blk b2 [.string y1.Key, .int .i64 y1.Heats, .int .i64 y1.Long, .int .i64 y1.Gap, .int .i64 y1.Break] 54, .own v3 85 4 x6.length (x6.flatMap GSlot.enc)] [(5, v3), (6, .int .i64 x7), (8, .pointer (some ⟨b2, 0, none⟩)), (9, .int .i64 (W (x5 + 1))), (11, v_p_l), (12, .int .i64 (p_l.length : Int)), (13, .int .i64 (i1 : Int))] [true, true] rfl ⟨rfl, rfl, rfl, rfl, rfl, rfl, rfl, trivial⟩
      refine then_n ?_
      exact ⟨m1, ⟨x6, x7, W (x5 + 1), v3, h, S.nf [true, true] rfl ⟨rfl, rfl, rfl, rfl, rfl, rfl, rfl, trivial⟩⟩, Nat.lt_succ_self _⟩
     ·replace h := iteF h hb1
      refine wp_exit ?_
      refine then_x ?_
      refine then_x ?_
      refine x_same ?_
      refine then_n ?_
      exact ⟨x3, x4, v2, h, S.nf [true, true] rfl ⟨rfl, rfl, rfl, rfl, rfl, rfl, trivial⟩⟩
   clear S h; rintro a w6 ⟨x3, x4, v2, h, S⟩; rw [hj2] at h; clear hj2 j2
   refine then_n ?_
   refine f_region ?_
   refine lv S (rn_move (S.tm rfl)) rfl ?_; clear S; intro a S
   refine lv S (rn_fld fa_54_4 (S.tm rfl)) rfl ?_; clear S; intro a S
   refine lv S (rn_load Tryd.isAgg3 (S.tm rfl) (S.cell (i := 0) rfl rfl)) rfl ?_; clear S; intro a S
   refine lv S (rn_add (S.tm rfl) (S.tm rfl)) rfl ?_; clear S; intro a S
   refine lv S (rn_assign (S.tm rfl)) rfl ?_; clear S; intro a S
   refine l_done ?_
   replace S := S.nk [.own v2 85 4 x3.length (x3.flatMap GSlot.enc)] [(5, v2), (6, .int .i64 (W (x4 + y1.Break))), (11, v_p_l), (12, .int .i64 (p_l.length : Int)), (13, .int .i64 (i1 : Int))] [false, true] rfl ⟨rfl, rfl, rfl, rfl, rfl, trivial⟩
   refine blk_n ?_
   refine then_n ?_
   refine f_region ?_
   refine lv S (rn_add (S.tm rfl) rfl) rfl ?_; clear S; intro a S
   refine lv S (rn_move (S.tm rfl)) rfl ?_; clear S; intro a S
   refine l_done ?_
   replace S := S.nk [.own v2 85 4 x3.length (x3.flatMap GSlot.enc)] [(5, v2), (6, .int .i64 (W (x4 + y1.Break))), (11, v_p_l), (12, .int .i64 (p_l.length : Int)), (13, .int .i64 (W ((i1 : Int) + 1)))] [true] rfl ⟨rfl, rfl, rfl, rfl, rfl, trivial⟩
   refine then_n ?_
   exact ⟨ys1, ⟨i1 + 1, x3, W (x4 + y1.Break), v2, ⟨_, (hd1).trans (List.append_cons _ _ _), by simp [hi1]⟩, h, S.nf [true] rfl ⟨rfl, rfl, rfl, rfl, (congrArg (fun z => some (Value.int .i64 z)) (rng_next hd1 hi1 (slc_max hs_p_l))), trivial⟩⟩, Nat.lt_succ_self _⟩
 clear S h; rintro a w2 ⟨x1, v1, h, S⟩; rw [hj1] at h; clear hj1 j1
 refine then_n ?_
 refine f_seq ?_
 refine f_region ?_
 refine lv S (rn_move (S.tm rfl)) rfl ?_; clear S; intro a S
 refine lv S (rn_assign (S.tm rfl)) rfl ?_; clear S; intro a S
 refine l_done ?_
 replace S := S.nk [.own v1 85 4 x1.length (x1.flatMap GSlot.enc)] [(4, v1)] [true] rfl ⟨rfl, trivial⟩
 refine then_n ?_
 refine wp_ret ?_
 obtain rfl := Option.some.inj h
 exact f_ret S Tryd.results57 rfl (own_retT S (i := 0) rfl rfl)
theorem session_end_ok (w : World) (v_p_l : Value) (p_l : List GSlot) (hs_p_l : Slc (view w []) 4 v_p_l (p_l.map GSlot.enc)) (p_from : Int) (r : Int) (h : session_end p_l p_from = some r) :
    Calls Tryd.prog 29 [v_p_l, .int .i64 p_from].toArray w (Ret w [] fun _ v _ => v = .int .i64 r) := by
 refine f_enter [] [] Tryd.func29 rfl Tryd.ntmps29 rfl (by simp) (by simp [fps]) (by simp [fps]) fun a S => ?_
 unfold session_end at h
 replace S := S.nk [] [(0, v_p_l), (1, .int .i64 p_from)] [] rfl ⟨rfl, rfl, trivial⟩
 refine f_seq ?_
 refine f_region ?_
 refine lv S (rn_assign rfl) rfl ?_; clear S; intro a S
 refine l_done ?_
 replace S := S.nk [] [(0, v_p_l), (1, .int .i64 p_from)] [] rfl ⟨rfl, rfl, trivial⟩
 refine then_n ?_
 refine f_seq ?_
 refine f_seq ?_
 refine f_region ?_
 refine lv S (rn_move (S.tm rfl)) rfl ?_; clear S; intro a S
 refine lv S (rn_lenT sl_70 (S.tm rfl) (slc_len hs_p_l)) rfl ?_; clear S; intro a S
 refine lv S (rn_eql (S.tm rfl) rfl) rfl ?_; clear S; intro a S
 refine l_done ?_
 replace S := S.nk [] [(0, v_p_l), (1, .int .i64 p_from), (7, .bool (decide ((p_l.length : Int) = 0)))] [] rfl ⟨rfl, rfl, rfl, trivial⟩
 refine then_n ?_
 refine f_cond (S.tm rfl) (fun hb1 => ?_) (fun hb1 => ?_)
 ·replace h := iteT h hb1
  refine f_seq ?_
  refine f_region ?_
  refine lv S (rn_move (S.tm rfl)) rfl ?_; clear S; intro a S
  refine lv S (rn_assign (S.tm rfl)) rfl ?_; clear S; intro a S
  refine l_done ?_
  replace S := S.nk [] [(4, .int .i64 p_from)] [] rfl ⟨rfl, trivial⟩
  refine then_n ?_
  refine wp_ret ?_
  refine then_r ?_
  obtain rfl := Option.some.inj h
  exact f_ret S Tryd.results29 rfl rfl
 ·replace h := iteF h hb1
  refine wp_skip ?_
  refine then_n ?_
  refine f_seq ?_
  refine f_region ?_
  refine lv S (rn_move (S.tm rfl)) rfl ?_; clear S; intro a S
  refine lv S (rn_move (S.tm rfl)) rfl ?_; clear S; intro a S
  refine lv S (rn_lenT sl_70 (S.tm rfl) (slc_len hs_p_l)) rfl ?_; clear S; intro a S
  refine lv S (rn_sub (S.tm rfl) rfl) rfl ?_; clear S; intro a S
  obtain ⟨hc1, h⟩ := chkE h
  obtain ⟨b1, o1, hm1, hr1⟩ := rn_indexT (a := a) (x := .tmp 9) (y := .tmp 12) (ty := 0) sl_70 hs_p_l (inB_get hc1).1 (inB_get hc1).2 (S.tm rfl) (S.tm rfl)
  refine lv S (hr1 _) rfl ?_; clear S; intro a S
  clear hr1
  refine lv S (rn_fld fa_85_2 (S.tm rfl)) rfl ?_; clear S; intro a S
  refine lv S (rn_fld fa_83_1 (S.tm rfl)) rfl ?_; clear S; intro a S
  refine lv S (rn_ld Tryd.isAgg3 (off := o1) (o := 3) (S.tm rfl) (hm1.at S.emb0) rfl) rfl ?_; clear S; intro a S
  refine lv S (rn_assign (S.tm rfl)) rfl ?_; clear S; intro a S
  refine l_done ?_
  replace S := S.nk [] [(4, .int .i64 (((nth p_l (W ((p_l.length : Int) - 1))).Time).To))] [] rfl ⟨rfl, trivial⟩
  refine then_n ?_
  refine wp_ret ?_
  obtain rfl := Option.some.inj h
  exact f_ret S Tryd.results29 rfl rfl
theorem session_begin_ok (w : World) (v_p_l : Value) (p_l : List GItem) (hs_p_l : Slc (view w []) 5 v_p_l (p_l.map GItem.enc)) (p_from : Int) (r : (List GSlot) × Int) (h : session_begin p_l p_from = some r) :
    Calls Tryd.prog 43 [v_p_l, .int .i64 p_from].toArray w (Ret w [] fun τ v _ => ∃ u1 : Value, v = .tuple #[u1, .int .i64 r.2] ∧ OwnV τ 85 4 u1 r.1.length (r.1.flatMap GSlot.enc)) := by
 refine f_enter [] [] Tryd.func43 rfl Tryd.ntmps43 rfl (by simp) (by simp [fps]) (by simp [fps]) fun a S => ?_
 unfold session_begin at h
 replace S := S.nk [] [(0, v_p_l), (1, .int .i64 p_from)] [] rfl ⟨rfl, rfl, trivial⟩
 refine f_seq ?_
 refine f_region ?_
 refine lv S (rn_assign rfl) rfl ?_; clear S; intro a S
 refine lv S (rn_assign rfl) rfl ?_; clear S; intro a S
 refine l_done ?_
 replace S := S.nk [] [(0, v_p_l), (1, .int .i64 p_from)] [] rfl ⟨rfl, rfl, trivial⟩
 refine then_n ?_
 refine f_seq ?_
 refine f_seq ?_
 refine f_region ?_
 refine lv S (rn_move (S.tm rfl)) rfl ?_; clear S; intro a S
 refine l_enter S (fun _ => run_call (vs := [.int .i64 p_from]) ⟨(S.tm rfl), trivial⟩ Tryd.call56) (words_IsMoment_ok _ p_from _ rfl) rfl ?_; clear S; intro v1 a w1 hv1 hk1 hn1 S
 subst hv1
 refine lv S (rn_not (S.tm rfl)) rfl ?_; clear S; intro a S
 refine l_done ?_
 replace S := S.nk [] [(0, v_p_l), (1, .int .i64 p_from), (9, .bool (!(words_IsMoment p_from)))] [] rfl ⟨rfl, rfl, rfl, trivial⟩
 refine then_n ?_
 refine f_cond (S.tm rfl) (fun hb1 => ?_) (fun hb1 => ?_)
 ·replace h := iteT h hb1
  refine f_seq ?_
  refine f_region ?_
  refine lv S (rn_assign rfl) rfl ?_; clear S; intro a S
  refine lv S (rn_assign rfl) rfl ?_; clear S; intro a S
  refine l_done ?_
  replace S := S.nk [] [(4, .slice none 0 0), (5, .int .i64 1)] [] rfl ⟨rfl, rfl, trivial⟩
  refine then_n ?_
  refine wp_ret ?_
  refine then_r ?_
  obtain rfl := Option.some.inj h
  exact f_ret2 S Tryd.results43 rfl rfl ⟨_, rfl, (ownV_nil _ _ _)⟩
 ·replace h := iteF h hb1
  refine wp_skip ?_
  refine then_n ?_
  refine f_seq ?_
  refine f_region ?_
  refine lv S (rn_move (S.tm rfl)) rfl ?_; clear S; intro a S
  refine lv S (rn_move (S.tm rfl)) rfl ?_; clear S; intro a S
  obtain ⟨r1, hr1, h⟩ := bindE h
  have hz1 := S.keep.size
  refine l_enter S (fun _ => run_call (vs := [v_p_l, .int .i64 p_from]) ⟨(S.tm rfl), (S.tm rfl), trivial⟩ Tryd.call57) (session_timetable_ok _ v_p_l p_l (hs_p_l.mono (S.le_arg nil_sub)) p_from _ hr1) rfl ?_; clear S; intro v2 a w2 hv2 hk2 hn2 S
  obtain ⟨φ1, hl1, hm1, S⟩ := S.see' hn2 hz1
  have hs1 := hv2.mono hm1
  refine lv S (rn_assign (S.tm rfl)) rfl ?_; clear S; intro a S
  refine l_done ?_
  replace S := S.nk [] [(1, .int .i64 p_from), (6, v2)] [] rfl ⟨rfl, rfl, trivial⟩
  refine then_n ?_
  refine f_seq ?_
  refine f_seq ?_
  refine f_region ?_
  refine lv S (rn_move (S.tm rfl)) rfl ?_; clear S; intro a S
  refine lv S (rn_move (S.tm rfl)) rfl ?_; clear S; intro a S
  obtain ⟨r2, hr2, h⟩ := bindE h
  refine l_enter S (fun _ => run_call (vs := [v2, .int .i64 p_from]) ⟨(S.tm rfl), (S.tm rfl), trivial⟩ Tryd.call29) (session_end_ok _ v2 r1 (((ownV_slcT GSlot.enc_ok hs1)).mono (S.le_new nil_sub)) p_from _ hr2) rfl ?_; clear S; intro v3 a w3 hv3 hk3 hn3 S
  subst hv3
  refine lv S (rn_gtr (S.tm rfl) rfl) rfl ?_; clear S; intro a S
  refine l_done ?_
  replace S := S.nk [] [(6, v2), (16, .bool (decide (345686400000 < r2)))] [] rfl ⟨rfl, rfl, trivial⟩
  refine then_n ?_
  refine f_cond (S.tm rfl) (fun hb2 => ?_) (fun hb2 => ?_)
  ·replace h := iteT h hb2
   refine f_seq ?_
   refine f_region ?_
   refine lv S (rn_assign rfl) rfl ?_; clear S; intro a S
   refine lv S (rn_assign rfl) rfl ?_; clear S; intro a S
   refine l_done ?_
   replace S := S.nk [] [(4, .slice none 0 0), (5, .int .i64 1)] [] rfl ⟨rfl, rfl, trivial⟩
   refine then_n ?_
   refine wp_ret ?_
   refine then_r ?_
   obtain rfl := Option.some.inj h
   exact f_ret2 S Tryd.results43 rfl rfl ⟨_, rfl, (ownV_nil _ _ _)⟩
  ·replace h := iteF h hb2
   refine wp_skip ?_
   refine then_n ?_
   refine f_seq ?_
   refine f_region ?_
   refine lv S (rn_move (S.tm rfl)) rfl ?_; clear S; intro a S
   refine lv S (rn_assign (S.tm rfl)) rfl ?_; clear S; intro a S
   refine lv S (rn_assign rfl) rfl ?_; clear S; intro a S
   refine l_done ?_
   replace S := S.nk [] [(4, v2), (5, .int .i64 0)] [] rfl ⟨rfl, rfl, trivial⟩
   refine then_n ?_
   refine wp_ret ?_
   obtain rfl := Option.some.inj h
   exact f_ret2 S Tryd.results43 rfl rfl ⟨_, rfl, ((hs1).mono S.le_newer)⟩
end Go.Proofs.YtmlmcmdccgcbmaaDoor
