/- Each Go function computes its plain twin, by program. -/
import Derived.Test.YtngikibiddnndaaDoorTab
import Derived.Test.YtngikibiddnndaaDoorLay
namespace Go.Proofs.YtngikibiddnndaaDoor
open Go
theorem tumbmake_Below_ok (w : World) (p_x : Int) (p_n : Int) (r : Int) (h : tumbmake_Below p_x p_n = some r) :
    Calls Tryd.prog 38 [.int .i64 p_x, .int .i64 p_n].toArray w (Ret w [] fun τ v w' => v = .int .i64 r) := by
  refine f_enter [] [] Tryd.func38 rfl Tryd.ntmps38 rfl (by simp) (by simp [fps]) (by simp [fps]) fun a S => ?_
  unfold tumbmake_Below at h
  replace S := S.nf (L' := []) (K' := [(0, .int .i64 p_x), (1, .int .i64 p_n)]) [] rfl ⟨rfl, rfl, trivial⟩
  refine f_seq ?_
  refine f_region ?_
  refine lv S (rn_assign rfl) rfl ?_; clear S; intro a S
  refine l_done ?_
  replace S := S.nf (L' := []) (K' := [(0, .int .i64 p_x), (1, .int .i64 p_n)]) [] rfl ⟨rfl, rfl, trivial⟩
  refine then_n ?_
  refine f_seq ?_
  refine f_seq ?_
  refine f_region ?_
  refine lv S (rn_move (S.tm rfl)) rfl ?_; clear S; intro a S
  refine lv S (rn_lss (S.tm rfl) rfl) rfl ?_; clear S; intro a S
  refine l_done ?_
  replace S := S.nf (L' := []) (K' := [(0, .int .i64 p_x), (1, .int .i64 p_n), (6, .bool (decide (p_n < 1)))]) [] rfl ⟨rfl, rfl, rfl, trivial⟩
  refine then_n ?_
  refine f_cond (S.tm rfl) (fun hb1 => ?_) (fun hb1 => ?_)
  · replace h := iteT h hb1
    refine f_seq ?_
    refine f_region ?_
    refine lv S (rn_assign rfl) rfl ?_; clear S; intro a S
    refine l_done ?_
    replace S := S.nf (L' := []) (K' := [(4, .int .i64 0)]) [] rfl ⟨rfl, trivial⟩
    refine then_n ?_
    refine wp_ret ?_
    refine then_r ?_
    obtain rfl := Option.some.inj h
    exact f_ret S Tryd.results38 rfl rfl
  · replace h := iteF h hb1
    refine wp_skip ?_
    refine then_n ?_
    refine f_seq ?_
    refine f_region ?_
    refine lv S (rn_move (S.tm rfl)) rfl ?_; clear S; intro a S
    refine lv S (rn_move (S.tm rfl)) rfl ?_; clear S; intro a S
    obtain ⟨hc1, h⟩ := chkE h
    refine lv S (rn_rem (S.tm rfl) (S.tm rfl) (by simpa using hc1)) rfl ?_; clear S; intro a S
    refine lv S (rn_assign (S.tm rfl)) rfl ?_; clear S; intro a S
    refine l_done ?_
    replace S := S.nf (L' := []) (K' := [(0, .int .i64 (Int.tmod p_x p_n)), (1, .int .i64 p_n)]) [] rfl ⟨rfl, rfl, trivial⟩
    refine then_n ?_
    refine f_seq ?_
    refine f_seq ?_
    refine f_region ?_
    refine lv S (rn_move (S.tm rfl)) rfl ?_; clear S; intro a S
    refine lv S (rn_lss (S.tm rfl) rfl) rfl ?_; clear S; intro a S
    refine l_done ?_
    replace S := S.nf (L' := []) (K' := [(0, .int .i64 (Int.tmod p_x p_n)), (1, .int .i64 p_n), (11, .bool (decide ((Int.tmod p_x p_n) < 0)))]) [] rfl ⟨rfl, rfl, rfl, trivial⟩
    refine then_n ?_
    obtain ⟨j1, hj1, h⟩ := joinE h
    refine f_join (fun a w' => ∃ x1 : Int, j1 x1 = some r ∧ Sx w [] nov [] [(0, .int .i64 x1)] 16 a w') ?_ ?_
    · refine f_cond (S.tm rfl) (fun hb2 => ?_) (fun hb2 => ?_)
      · replace h := iteT h hb2
        refine f_region ?_
        refine lv S (rn_move (S.tm rfl)) rfl ?_; clear S; intro a S
        refine lv S (rn_move (S.tm rfl)) rfl ?_; clear S; intro a S
        refine lv S (rn_add (S.tm rfl) (S.tm rfl)) rfl ?_; clear S; intro a S
        refine lv S (rn_assign (S.tm rfl)) rfl ?_; clear S; intro a S
        refine l_done ?_
        replace S := S.nf (L' := []) (K' := [(0, .int .i64 (W ((Int.tmod p_x p_n) + p_n)))]) [] rfl ⟨rfl, trivial⟩
        refine then_n ?_
        exact ⟨W ((Int.tmod p_x p_n) + p_n), h, S.nf [] rfl ⟨rfl, trivial⟩⟩
      · replace h := iteF h hb2
        refine wp_skip ?_
        refine then_n ?_
        exact ⟨Int.tmod p_x p_n, h, S.nf [] rfl ⟨rfl, trivial⟩⟩
    clear S h; rintro a w1 ⟨x1, h, S⟩; rw [hj1] at h; clear hj1 j1
    refine then_n ?_
    refine f_seq ?_
    refine f_region ?_
    refine lv S (rn_move (S.tm rfl)) rfl ?_; clear S; intro a S
    refine lv S (rn_assign (S.tm rfl)) rfl ?_; clear S; intro a S
    refine l_done ?_
    replace S := S.nf (L' := []) (K' := [(4, .int .i64 x1)]) [] rfl ⟨rfl, trivial⟩
    refine then_n ?_
    refine wp_ret ?_
    obtain rfl := Option.some.inj h
    exact f_ret S Tryd.results38 rfl rfl
set_option maxRecDepth 20000 in
theorem Stream_Next_ok (w : World) (b_p_s : Nat) (v_p_s_L : Value) (p_s_L : List Int) (hs_p_s_L : Slc (view w [b_p_s]) 1 v_p_s_L (p_s_L.map eInt)) (p_s_at : Int) (hb_b_p_s : (LEnt.blk b_p_s [v_p_s_L, .int .i64 p_s_at] 25).holds w) (p_n : Int) (r : Int × Int) (h : Stream_Next p_s_L p_s_at p_n = some r) :
    Calls Tryd.prog 16 [.pointer (some ⟨b_p_s, 0, none⟩), .int .i64 p_n].toArray w (Ret w [b_p_s] fun τ v w' => (LEnt.blk b_p_s [v_p_s_L, .int .i64 r.2] 25).holds w' ∧ v = .int .i64 r.1) := by
  refine f_enter [b_p_s] [.blk b_p_s [v_p_s_L, .int .i64 p_s_at] 25] Tryd.func16 rfl Tryd.ntmps16 rfl (fun e he => by simp only [List.mem_singleton] at he; subst he; exact hb_b_p_s) (by simp [fps, LEnt.fp]) (by simp [fps, LEnt.fp]) fun a S => ?_
  unfold Stream_Next at h
  replace S := S.nf (L' := [.blk b_p_s [v_p_s_L, .int .i64 p_s_at] 25]) (K' := [(0, .pointer (some ⟨b_p_s, 0, none⟩)), (1, .int .i64 p_n)]) [true] rfl ⟨rfl, rfl, trivial⟩
  refine f_seq ?_
  refine f_region ?_
  refine lv S (rn_assign rfl) rfl ?_; clear S; intro a S
  refine l_done ?_
  replace S := S.nf (L' := [.blk b_p_s [v_p_s_L, .int .i64 p_s_at] 25]) (K' := [(0, .pointer (some ⟨b_p_s, 0, none⟩)), (1, .int .i64 p_n)]) [true] rfl ⟨rfl, rfl, trivial⟩
  refine then_n ?_
  refine f_seq ?_
  refine f_region ?_
  refine lv S (rn_move (S.tm rfl)) rfl ?_; clear S; intro a S
  refine lv S (rn_nilCheck (S.tm rfl)) rfl ?_; clear S; intro a S
  refine lv S (rn_fld fa_25_1 (S.tm rfl)) rfl ?_; clear S; intro a S
  refine lv S (rn_load Tryd.isAgg3 (S.tm rfl) (S.cell (i := 0) rfl rfl)) rfl ?_; clear S; intro a S
  refine lv S (rn_add (S.tm rfl) rfl) rfl ?_; clear S; intro a S
  refine lv S (rn_nilCheck (S.tm rfl)) rfl ?_; clear S; intro a S
  refine lv S (rn_fld fa_25_1 (S.tm rfl)) rfl ?_; clear S; intro a S
  refine l_store S (S.tm rfl) (S.tm rfl) (i := 0) (off := 1) rfl Tryd.sizeOf3 (vs := [.int .i64 (W (p_s_at + 1))]) rfl rfl rfl rfl ?_; clear S; intro w1 hk1 S
  refine l_done ?_
  replace S := S.nf (L' := [.blk b_p_s [v_p_s_L, .int .i64 (W (p_s_at + 1))] 25]) (K' := [(0, .pointer (some ⟨b_p_s, 0, none⟩)), (1, .int .i64 p_n)]) [true] rfl ⟨rfl, rfl, trivial⟩
  refine then_n ?_
  refine f_seq ?_
  refine f_seq ?_
  refine f_region ?_
  refine lv S (rn_move (S.tm rfl)) rfl ?_; clear S; intro a S
  refine lv S (rn_nilCheck (S.tm rfl)) rfl ?_; clear S; intro a S
  refine lv S (rn_fld fa_25_0 (S.tm rfl)) rfl ?_; clear S; intro a S
  refine lv S (rn_load Tryd.isAgg22 (S.tm rfl) (S.cell (i := 0) rfl rfl)) rfl ?_; clear S; intro a S
  refine lv S (rn_lenT sl_22 (S.tm rfl) (slc_len hs_p_s_L)) rfl ?_; clear S; intro a S
  refine lv S (rn_eql (S.tm rfl) rfl) rfl ?_; clear S; intro a S
  refine l_done ?_
  replace S := S.nf (L' := [.blk b_p_s [v_p_s_L, .int .i64 (W (p_s_at + 1))] 25]) (K' := [(0, .pointer (some ⟨b_p_s, 0, none⟩)), (1, .int .i64 p_n), (19, .bool (decide ((p_s_L.length : Int) = 0)))]) [true] rfl ⟨rfl, rfl, rfl, trivial⟩
  refine then_n ?_
  refine f_cond (S.tm rfl) (fun hb1 => ?_) (fun hb1 => ?_)
  · replace h := iteT h hb1
    refine f_seq ?_
    refine f_region ?_
    refine lv S (rn_move (S.tm rfl)) rfl ?_; clear S; intro a S
    refine lv S (rn_nilCheck (S.tm rfl)) rfl ?_; clear S; intro a S
    refine lv S (rn_fld fa_25_1 (S.tm rfl)) rfl ?_; clear S; intro a S
    refine lv S (rn_load Tryd.isAgg3 (S.tm rfl) (S.cell (i := 0) rfl rfl)) rfl ?_; clear S; intro a S
    refine lv S (rn_mul (S.tm rfl) rfl) rfl ?_; clear S; intro a S
    refine lv S (rn_move (S.tm rfl)) rfl ?_; clear S; intro a S
    obtain ⟨r1, hr1, h⟩ := bindE h
    refine l_enter S (fun _ => run_call (vs := [.int .i64 (W ((W (p_s_at + 1)) * 7919)), .int .i64 p_n]) ⟨(S.tm rfl), (S.tm rfl), trivial⟩ Tryd.call38) (tumbmake_Below_ok _ (W ((W (p_s_at + 1)) * 7919)) p_n _ hr1) rfl ?_; clear S; intro v1 a w2 hv1 hk2 hn1 S
    subst hv1
    refine lv S (rn_assign (S.tm rfl)) rfl ?_; clear S; intro a S
    refine l_done ?_
    replace S := S.nf (L' := [.blk b_p_s [v_p_s_L, .int .i64 (W (p_s_at + 1))] 25]) (K' := [(4, .int .i64 r1)]) [true] rfl ⟨rfl, trivial⟩
    refine then_n ?_
    refine wp_ret ?_
    refine then_r ?_
    obtain rfl := Option.some.inj h
    exact f_ret S Tryd.results16 rfl ⟨(S.holds _ (List.mem_of_getElem? (i := 0) rfl)), rfl⟩
  · replace h := iteF h hb1
    refine wp_skip ?_
    refine then_n ?_
    refine f_seq ?_
    refine d_region [] ([]) Tryd.mixed S rfl (by kernel_rfl) ?_; clear S; intro w3 hk3 hsel S
    refine d_rest [0, 1, 2, 3, 4, 5, 6, 7, 8, 9, 10, 11] hsel (by kernel_rfl) rfl ?_
    clear hsel
    refine s_lv S rfl (rn_move (S.tm rfl)) rfl ?_; clear S; intro a S
    refine s_lv S rfl (rn_nilCheck (S.tm rfl)) rfl ?_; clear S; intro a S
    refine s_lv S rfl (rn_fld fa_25_1 (S.tm rfl)) rfl ?_; clear S; intro a S
    refine s_lv S rfl (rn_load Tryd.isAgg3 (S.tm rfl) (S.cell (i := 0) rfl rfl)) rfl ?_; clear S; intro a S
    refine s_lv S rfl (rn_sub (S.tm rfl) rfl) rfl ?_; clear S; intro a S
    refine s_lv S rfl (rn_move (S.tm rfl)) rfl ?_; clear S; intro a S
    refine s_lv S rfl (rn_nilCheck (S.tm rfl)) rfl ?_; clear S; intro a S
    refine s_lv S rfl (rn_fld fa_25_0 (S.tm rfl)) rfl ?_; clear S; intro a S
    refine s_lv S rfl (rn_load Tryd.isAgg22 (S.tm rfl) (S.cell (i := 0) rfl rfl)) rfl ?_; clear S; intro a S
    refine s_lv S rfl (rn_lenT sl_22 (S.tm rfl) (slc_len hs_p_s_L)) rfl ?_; clear S; intro a S
    obtain ⟨hc1, h⟩ := chkE h
    refine s_lv S rfl (rn_rem (S.tm rfl) (S.tm rfl) (by simpa using hc1)) rfl ?_; clear S; intro a S
    refine s_lv S rfl (rn_assign (S.tm rfl)) rfl ?_; clear S; intro a S
    refine s_done ?_
    replace S := S.nf (L' := [.blk b_p_s [v_p_s_L, .int .i64 (W (p_s_at + 1))] 25]) (K' := [(0, .pointer (some ⟨b_p_s, 0, none⟩)), (1, .int .i64 p_n), (5, .int .i64 (Int.tmod (W ((W (p_s_at + 1)) - 1)) (p_s_L.length : Int)))]) [true] rfl ⟨rfl, rfl, rfl, trivial⟩
    refine then_n ?_
    refine f_seq ?_
    refine d_region [] ([]) Tryd.mixed S rfl (by kernel_rfl) ?_; clear S; intro w4 hk4 hsel S
    refine d_rest [0, 1, 2, 3, 4, 5, 6, 7, 8, 9, 10, 11] hsel (by kernel_rfl) rfl ?_
    clear hsel
    refine s_lv S rfl (rn_move (S.tm rfl)) rfl ?_; clear S; intro a S
    refine s_lv S rfl (rn_nilCheck (S.tm rfl)) rfl ?_; clear S; intro a S
    refine s_lv S rfl (rn_fld fa_25_1 (S.tm rfl)) rfl ?_; clear S; intro a S
    refine s_lv S rfl (rn_load Tryd.isAgg3 (S.tm rfl) (S.cell (i := 0) rfl rfl)) rfl ?_; clear S; intro a S
    refine s_lv S rfl (rn_sub (S.tm rfl) rfl) rfl ?_; clear S; intro a S
    refine s_lv S rfl (rn_move (S.tm rfl)) rfl ?_; clear S; intro a S
    refine s_lv S rfl (rn_nilCheck (S.tm rfl)) rfl ?_; clear S; intro a S
    refine s_lv S rfl (rn_fld fa_25_0 (S.tm rfl)) rfl ?_; clear S; intro a S
    refine s_lv S rfl (rn_load Tryd.isAgg22 (S.tm rfl) (S.cell (i := 0) rfl rfl)) rfl ?_; clear S; intro a S
    refine s_lv S rfl (rn_lenT sl_22 (S.tm rfl) (slc_len hs_p_s_L)) rfl ?_; clear S; intro a S
    obtain ⟨hc2, h⟩ := chkE h
    refine s_lv S rfl (rn_quo (S.tm rfl) (S.tm rfl) (by simpa using hc2)) rfl ?_; clear S; intro a S
    refine s_lv S rfl (rn_assign (S.tm rfl)) rfl ?_; clear S; intro a S
    refine s_done ?_
    replace S := S.nf (L' := [.blk b_p_s [v_p_s_L, .int .i64 (W (p_s_at + 1))] 25]) (K' := [(0, .pointer (some ⟨b_p_s, 0, none⟩)), (1, .int .i64 p_n), (5, .int .i64 (Int.tmod (W ((W (p_s_at + 1)) - 1)) (p_s_L.length : Int))), (6, .int .i64 (W (Int.tdiv (W ((W (p_s_at + 1)) - 1)) (p_s_L.length : Int))))]) [true] rfl ⟨rfl, rfl, rfl, rfl, trivial⟩
    refine then_n ?_
    refine f_seq ?_
    refine f_region ?_
    refine lv S (rn_move (S.tm rfl)) rfl ?_; clear S; intro a S
    refine lv S (rn_nilCheck (S.tm rfl)) rfl ?_; clear S; intro a S
    refine lv S (rn_fld fa_25_0 (S.tm rfl)) rfl ?_; clear S; intro a S
    refine lv S (rn_load Tryd.isAgg22 (S.tm rfl) (S.cell (i := 0) rfl rfl)) rfl ?_; clear S; intro a S
    refine lv S (rn_move (S.tm rfl)) rfl ?_; clear S; intro a S
    obtain ⟨hc3, h⟩ := chkE h
    obtain ⟨b1, o1, hm1, hr2⟩ := rn_indexT (a := a) (x := .tmp 52) (y := .tmp 53) (ty := 0) sl_22 hs_p_s_L (inB_get hc3).1 (inB_get hc3).2 (S.tm rfl) (S.tm rfl)
    refine lv S (hr2 _) rfl ?_; clear S; intro a S
    clear hr2
    refine lv S (rn_ld Tryd.isAgg3 (off := o1) (o := 0) (S.tm rfl) (hm1.at S.emb0) rfl) rfl ?_; clear S; intro a S
    obtain ⟨r2, hr3, h⟩ := bindE h
    refine l_enter S (fun _ => run_call (vs := [.int .i64 (nth p_s_L (Int.tmod (W ((W (p_s_at + 1)) - 1)) (p_s_L.length : Int))), .int .i64 1073741824]) ⟨(S.tm rfl), rfl, trivial⟩ Tryd.call38) (tumbmake_Below_ok _ (nth p_s_L (Int.tmod (W ((W (p_s_at + 1)) - 1)) (p_s_L.length : Int))) 1073741824 _ hr3) rfl ?_; clear S; intro v2 a w5 hv2 hk5 hn2 S
    subst hv2
    refine lv S (rn_move (S.tm rfl)) rfl ?_; clear S; intro a S
    refine lv S (rn_move (S.tm rfl)) rfl ?_; clear S; intro a S
    refine lv S (rn_add rfl (S.tm rfl)) rfl ?_; clear S; intro a S
    refine lv S (rn_mul (S.tm rfl) (S.tm rfl)) rfl ?_; clear S; intro a S
    refine lv S (rn_add (S.tm rfl) (S.tm rfl)) rfl ?_; clear S; intro a S
    refine lv S (rn_move (S.tm rfl)) rfl ?_; clear S; intro a S
    obtain ⟨r3, hr4, h⟩ := bindE h
    refine l_enter S (fun _ => run_call (vs := [.int .i64 (W (r2 + (W ((W (Int.tdiv (W ((W (p_s_at + 1)) - 1)) (p_s_L.length : Int))) * (W (7919 + (Int.tmod (W ((W (p_s_at + 1)) - 1)) (p_s_L.length : Int)))))))), .int .i64 p_n]) ⟨(S.tm rfl), (S.tm rfl), trivial⟩ Tryd.call38) (tumbmake_Below_ok _ (W (r2 + (W ((W (Int.tdiv (W ((W (p_s_at + 1)) - 1)) (p_s_L.length : Int))) * (W (7919 + (Int.tmod (W ((W (p_s_at + 1)) - 1)) (p_s_L.length : Int)))))))) p_n _ hr4) rfl ?_; clear S; intro v3 a w6 hv3 hk6 hn3 S
    subst hv3
    refine lv S (rn_assign (S.tm rfl)) rfl ?_; clear S; intro a S
    refine l_done ?_
    replace S := S.nf (L' := [.blk b_p_s [v_p_s_L, .int .i64 (W (p_s_at + 1))] 25]) (K' := [(4, .int .i64 r3)]) [true] rfl ⟨rfl, trivial⟩
    refine then_n ?_
    refine wp_ret ?_
    obtain rfl := Option.some.inj h
    exact f_ret S Tryd.results16 rfl ⟨(S.holds _ (List.mem_of_getElem? (i := 0) rfl)), rfl⟩
theorem Stream_Range_ok (w : World) (b_p_s : Nat) (v_p_s_L : Value) (p_s_L : List Int) (hs_p_s_L : Slc (view w [b_p_s]) 1 v_p_s_L (p_s_L.map eInt)) (p_s_at : Int) (hb_b_p_s : (LEnt.blk b_p_s [v_p_s_L, .int .i64 p_s_at] 25).holds w) (p_low : Int) (p_high : Int) (r : Int × Int) (h : Stream_Range p_s_L p_s_at p_low p_high = some r) :
    Calls Tryd.prog 4 [.pointer (some ⟨b_p_s, 0, none⟩), .int .i64 p_low, .int .i64 p_high].toArray w (Ret w [b_p_s] fun τ v w' => (LEnt.blk b_p_s [v_p_s_L, .int .i64 r.2] 25).holds w' ∧ v = .int .i64 r.1) := by
  refine f_enter [b_p_s] [.blk b_p_s [v_p_s_L, .int .i64 p_s_at] 25] Tryd.func4 rfl Tryd.ntmps4 rfl (fun e he => by simp only [List.mem_singleton] at he; subst he; exact hb_b_p_s) (by simp [fps, LEnt.fp]) (by simp [fps, LEnt.fp]) fun a S => ?_
  unfold Stream_Range at h
  replace S := S.nf (L' := [.blk b_p_s [v_p_s_L, .int .i64 p_s_at] 25]) (K' := [(0, .pointer (some ⟨b_p_s, 0, none⟩)), (1, .int .i64 p_low), (2, .int .i64 p_high)]) [true] rfl ⟨rfl, rfl, rfl, trivial⟩
  refine f_seq ?_
  refine f_region ?_
  refine lv S (rn_assign rfl) rfl ?_; clear S; intro a S
  refine l_done ?_
  replace S := S.nf (L' := [.blk b_p_s [v_p_s_L, .int .i64 p_s_at] 25]) (K' := [(0, .pointer (some ⟨b_p_s, 0, none⟩)), (1, .int .i64 p_low), (2, .int .i64 p_high)]) [true] rfl ⟨rfl, rfl, rfl, trivial⟩
  refine then_n ?_
  refine f_seq ?_
  refine f_seq ?_
  refine f_region ?_
  refine lv S (rn_move (S.tm rfl)) rfl ?_; clear S; intro a S
  refine lv S (rn_move (S.tm rfl)) rfl ?_; clear S; intro a S
  refine lv S (rn_lss (S.tm rfl) (S.tm rfl)) rfl ?_; clear S; intro a S
  refine l_done ?_
  replace S := S.nf (L' := [.blk b_p_s [v_p_s_L, .int .i64 p_s_at] 25]) (K' := [(0, .pointer (some ⟨b_p_s, 0, none⟩)), (1, .int .i64 p_low), (2, .int .i64 p_high), (9, .bool (decide (p_high < p_low)))]) [true] rfl ⟨rfl, rfl, rfl, rfl, trivial⟩
  refine then_n ?_
  refine f_cond (S.tm rfl) (fun hb1 => ?_) (fun hb1 => ?_)
  · replace h := iteT h hb1
    refine f_seq ?_
    refine f_region ?_
    refine lv S (rn_move (S.tm rfl)) rfl ?_; clear S; intro a S
    refine lv S (rn_assign (S.tm rfl)) rfl ?_; clear S; intro a S
    refine l_done ?_
    replace S := S.nf (L' := [.blk b_p_s [v_p_s_L, .int .i64 p_s_at] 25]) (K' := [(6, .int .i64 p_low)]) [true] rfl ⟨rfl, trivial⟩
    refine then_n ?_
    refine wp_ret ?_
    refine then_r ?_
    obtain rfl := Option.some.inj h
    exact f_ret S Tryd.results4 rfl ⟨(S.holds _ (List.mem_of_getElem? (i := 0) rfl)), rfl⟩
  · replace h := iteF h hb1
    refine wp_skip ?_
    refine then_n ?_
    refine f_seq ?_
    refine f_region ?_
    refine lv S (rn_move (S.tm rfl)) rfl ?_; clear S; intro a S
    refine lv S (rn_move (S.tm rfl)) rfl ?_; clear S; intro a S
    refine lv S (rn_move (S.tm rfl)) rfl ?_; clear S; intro a S
    refine lv S (rn_move (S.tm rfl)) rfl ?_; clear S; intro a S
    refine lv S (rn_sub (S.tm rfl) (S.tm rfl)) rfl ?_; clear S; intro a S
    refine lv S (rn_add (S.tm rfl) rfl) rfl ?_; clear S; intro a S
    obtain ⟨r1, hr1, h⟩ := bindE h
    refine l_enter1 0 S (b := b_p_s) rfl rfl (fun _ => .blk b_p_s [v_p_s_L, .int .i64 r1.2] 25) (fun _ => run_call (vs := [.pointer (some ⟨b_p_s, 0, none⟩), .int .i64 (W ((W (p_high - p_low)) + 1))]) ⟨(S.tm rfl), (S.tm rfl), trivial⟩ Tryd.call16) (Stream_Next_ok _ b_p_s v_p_s_L p_s_L (hs_p_s_L.mono (S.le_arg (fp_sub (i := 0) (e := .blk b_p_s [v_p_s_L, .int .i64 p_s_at] 25) rfl))) p_s_at (S.holds _ (List.mem_of_getElem? (i := 0) rfl)) (W ((W (p_high - p_low)) + 1)) _ hr1) rfl (fun _ _ _ h => ⟨h.1, fun _ hc => by cases hc; rfl⟩) ?_; clear S; intro v1 a w1 hv1 hk1 hn1 S
    replace hv1 := hv1.2
    subst hv1
    refine lv S (rn_add (S.tm rfl) (S.tm rfl)) rfl ?_; clear S; intro a S
    refine lv S (rn_assign (S.tm rfl)) rfl ?_; clear S; intro a S
    refine l_done ?_
    replace S := S.nf (L' := [.blk b_p_s [v_p_s_L, .int .i64 r1.2] 25]) (K' := [(6, .int .i64 (W (p_low + r1.1)))]) [true] rfl ⟨rfl, trivial⟩
    refine then_n ?_
    refine wp_ret ?_
    obtain rfl := Option.some.inj h
    exact f_ret S Tryd.results4 rfl ⟨(S.holds _ (List.mem_of_getElem? (i := 0) rfl)), rfl⟩
theorem tumbref2_pastDate_ok (w : World) (r : GDate) (h : tumbref2_pastDate = r) :
    Calls Tryd.prog 36 [].toArray w (Ret w [] fun τ v w' => v = .agg (GDate.enc r).toArray) := by
  refine f_enter [] [] Tryd.func36 rfl Tryd.ntmps36 rfl (by simp) (by simp [fps]) (by simp [fps]) fun a S => ?_
  unfold tumbref2_pastDate at h
  replace S := S.nf (L' := []) (K' := []) [] rfl trivial
  refine f_seq ?_
  refine f_region ?_
  refine l_alloc S Tryd.zeroValue28 (cs := [.int .i64 0, .int .i64 0, .int .i64 0]) rfl rfl ?_; clear S; intro a w1 b1 hz1 hk1 S
  refine l_done ?_
  replace S := S.nf (L' := [.blk b1 [.int .i64 0, .int .i64 0, .int .i64 0] 28]) (K' := [(0, .pointer (some ⟨b1, 0, none⟩))]) [true] rfl ⟨rfl, trivial⟩
  refine then_n ?_
  refine f_seq ?_
  refine f_region ?_
  refine lv S (rn_bld bt_28 (pv := [(0, .int .i64 1914), (1, .int .i64 6), (2, .int .i64 27)]) ⟨rfl, rfl, rfl, rfl, rfl, rfl, trivial⟩ (cs := [.int .i64 1914, .int .i64 6, .int .i64 27]) (by kernel_rfl)) rfl ?_; clear S; intro a S
  refine l_store S (S.tm rfl) (S.tm rfl) (i := 0) (off := 0) rfl Tryd.sizeOf28 (vs := [.int .i64 1914, .int .i64 6, .int .i64 27]) rfl rfl rfl rfl ?_; clear S; intro w2 hk2 S
  refine l_done ?_
  replace S := S.nf (L' := [.blk b1 [.int .i64 1914, .int .i64 6, .int .i64 27] 28]) (K' := [(0, .pointer (some ⟨b1, 0, none⟩))]) [true] rfl ⟨rfl, trivial⟩
  refine then_n ?_
  refine wp_ret ?_
  subst h
  exact f_retG S (rs := [.cell 0 28]) (vs := [.agg #[.int .i64 1914, .int .i64 6, .int .i64 27]]) Tryd.results36 ⟨(res_cell (off := 0) S rfl Tryd.isAgg28 Tryd.sizeOf28 rfl (S.cellsAt (i := 0) rfl)), trivial⟩ rfl rfl
theorem tumbref2_monthLong_ok (w : World) (p_y : Int) (p_m : Int) (r : Int) (h : tumbref2_monthLong p_y p_m = some r) :
    Calls Tryd.prog 32 [.int .i64 p_y, .int .i64 p_m].toArray w (Ret w [] fun τ v w' => v = .int .i64 r) := by
  refine f_enter [] [] Tryd.func32 rfl Tryd.ntmps32 rfl (by simp) (by simp [fps]) (by simp [fps]) fun a S => ?_
  unfold tumbref2_monthLong at h
  replace S := S.nf (L' := []) (K' := [(0, .int .i64 p_y), (1, .int .i64 p_m)]) [] rfl ⟨rfl, rfl, trivial⟩
  refine f_seq ?_
  refine f_region ?_
  refine lv S (rn_assign rfl) rfl ?_; clear S; intro a S
  refine l_done ?_
  replace S := S.nf (L' := []) (K' := [(0, .int .i64 p_y), (1, .int .i64 p_m)]) [] rfl ⟨rfl, rfl, trivial⟩
  refine then_n ?_
  refine f_seq ?_
  refine f_seq ?_
  refine f_region ?_
  refine lv S (rn_move (S.tm rfl)) rfl ?_; clear S; intro a S
  refine lv S (rn_eql (S.tm rfl) rfl) rfl ?_; clear S; intro a S
  refine lv S (rn_move (S.tm rfl)) rfl ?_; clear S; intro a S
  refine f_cutm 14 (fun a w' => Keep [] w w' ∧ Sx w [] nov [] [(1, .int .i64 p_m), (21, .bool ((decide (p_m = 2)) && (((decide ((Int.tmod p_y 4) = 0)) && (!decide ((Int.tmod p_y 100) = 0))) || (decide ((Int.tmod p_y 400) = 0)))))] 27 a w') ?_ ?_
  · rcases Bool.eq_false_or_eq_true (decide (p_m = 2)) with hb1 | hb1
    · refine l_want S rfl rfl rfl hb1 ?_
      refine lv S (rn_move (S.tm rfl)) rfl ?_; clear S; intro a S
      refine l_want S rfl rfl rfl hb1 ?_
      refine lv S (rn_rem (S.tm rfl) rfl (by decide)) rfl ?_; clear S; intro a S
      refine l_want S rfl rfl rfl hb1 ?_
      refine lv S (rn_eql (S.tm rfl) rfl) rfl ?_; clear S; intro a S
      refine l_want S rfl rfl rfl hb1 ?_
      refine lv S (rn_move (S.tm rfl)) rfl ?_; clear S; intro a S
      refine f_cutm 4 (fun a w' => Keep [] w w' ∧ Sx w [] nov [] [(0, .int .i64 p_y), (1, .int .i64 p_m), (7, .bool (decide (p_m = 2))), (15, .bool ((decide ((Int.tmod p_y 4) = 0)) && (!decide ((Int.tmod p_y 100) = 0))))] 27 a w') ?_ ?_
      · rcases Bool.eq_false_or_eq_true (decide ((Int.tmod p_y 4) = 0)) with hb2 | hb2
        · refine l_want S rfl rfl rfl hb2 ?_
          refine lv S (rn_move (S.tm rfl)) rfl ?_; clear S; intro a S
          refine l_want S rfl rfl rfl hb2 ?_
          refine lv S (rn_rem (S.tm rfl) rfl (by decide)) rfl ?_; clear S; intro a S
          refine l_want S rfl rfl rfl hb2 ?_
          refine lv S (rn_neq (S.tm rfl) rfl) rfl ?_; clear S; intro a S
          refine l_want S rfl rfl rfl hb1 ?_
          refine lv S (rn_and_t hb2 (S.tm rfl) (S.tm rfl)) rfl ?_; clear S; intro a S
          refine l_done ?_
          refine then_n ?_
          exact ⟨Keep.refl _ _, S.nf [] rfl ⟨rfl, rfl, rfl, rfl, trivial⟩⟩
        · refine l_skip S rfl rfl rfl (by rw [hb2]; rfl) rfl ?_ rfl; clear S; intro a S
          refine l_skip S rfl rfl rfl (by rw [hb2]; rfl) rfl ?_ rfl; clear S; intro a S
          refine l_skip S rfl rfl rfl (by rw [hb2]; rfl) rfl ?_ rfl; clear S; intro a S
          refine l_want S rfl rfl rfl hb1 ?_
          refine lv S (rn_and_f (!decide ((Int.tmod p_y 100) = 0)) hb2 (S.tm rfl) rfl) rfl ?_; clear S; intro a S
          refine l_done ?_
          refine then_n ?_
          exact ⟨Keep.refl _ _, S.nf [] rfl ⟨rfl, rfl, rfl, rfl, trivial⟩⟩
      clear S; rintro a w2 ⟨hk1, S⟩
      refine l_want S rfl rfl rfl hb1 ?_
      refine lv S (rn_move (S.tm rfl)) rfl ?_; clear S; intro a S
      refine f_cutm 4 (fun a w' => Keep [] w2 w' ∧ Sx w [] nov [] [(1, .int .i64 p_m), (7, .bool (decide (p_m = 2))), (20, .bool (((decide ((Int.tmod p_y 4) = 0)) && (!decide ((Int.tmod p_y 100) = 0))) || (decide ((Int.tmod p_y 400) = 0))))] 27 a w') ?_ ?_
      · rcases Bool.eq_false_or_eq_true ((decide ((Int.tmod p_y 4) = 0)) && (!decide ((Int.tmod p_y 100) = 0))) with hb3 | hb3
        · refine l_skip S rfl rfl rfl (by rw [hb3]; rfl) rfl ?_ rfl; clear S; intro a S
          refine l_skip S rfl rfl rfl (by rw [hb3]; rfl) rfl ?_ rfl; clear S; intro a S
          refine l_skip S rfl rfl rfl (by rw [hb3]; rfl) rfl ?_ rfl; clear S; intro a S
          refine l_want S rfl rfl rfl hb1 ?_
          refine lv S (rn_or_t (decide ((Int.tmod p_y 400) = 0)) hb3 (S.tm rfl) rfl) rfl ?_; clear S; intro a S
          refine l_done ?_
          refine then_n ?_
          exact ⟨Keep.refl _ _, S.nf [] rfl ⟨rfl, rfl, rfl, trivial⟩⟩
        · refine l_want S rfl rfl rfl hb3 ?_
          refine lv S (rn_move (S.tm rfl)) rfl ?_; clear S; intro a S
          refine l_want S rfl rfl rfl hb3 ?_
          refine lv S (rn_rem (S.tm rfl) rfl (by decide)) rfl ?_; clear S; intro a S
          refine l_want S rfl rfl rfl hb3 ?_
          refine lv S (rn_eql (S.tm rfl) rfl) rfl ?_; clear S; intro a S
          refine l_want S rfl rfl rfl hb1 ?_
          refine lv S (rn_or_f hb3 (S.tm rfl) (S.tm rfl)) rfl ?_; clear S; intro a S
          refine l_done ?_
          refine then_n ?_
          exact ⟨Keep.refl _ _, S.nf [] rfl ⟨rfl, rfl, rfl, trivial⟩⟩
      clear S; rintro a w3 ⟨hk2, S⟩
      refine lv S (rn_and_t hb1 (S.tm rfl) (S.tm rfl)) rfl ?_; clear S; intro a S
      refine l_done ?_
      refine then_n ?_
      exact ⟨(hk1).trans hk2, S.nf [] rfl ⟨rfl, rfl, trivial⟩⟩
    · refine l_skip S rfl rfl rfl (by rw [hb1]; rfl) rfl ?_ rfl; clear S; intro a S
      refine l_skip S rfl rfl rfl (by rw [hb1]; rfl) rfl ?_ rfl; clear S; intro a S
      refine l_skip S rfl rfl rfl (by rw [hb1]; rfl) rfl ?_ rfl; clear S; intro a S
      refine l_skip S rfl rfl rfl (by rw [hb1]; rfl) rfl ?_ rfl; clear S; intro a S
      refine l_skipU S rfl rfl rfl rfl ?_; clear S; intro a S
      refine l_skipU S rfl rfl rfl rfl ?_; clear S; intro a S
      refine l_skipU S rfl rfl rfl rfl ?_; clear S; intro a S
      refine l_skip S rfl rfl rfl (by rw [hb1]; rfl) rfl ?_ rfl; clear S; intro a S
      refine l_skip S rfl rfl rfl (by rw [hb1]; rfl) rfl ?_ rfl; clear S; intro a S
      refine l_skipU S rfl rfl rfl rfl ?_; clear S; intro a S
      refine l_skipU S rfl rfl rfl rfl ?_; clear S; intro a S
      refine l_skipU S rfl rfl rfl rfl ?_; clear S; intro a S
      refine l_skip S rfl rfl rfl (by rw [hb1]; rfl) rfl ?_ rfl; clear S; intro a S
      refine lv S (rn_and_f (((decide ((Int.tmod p_y 4) = 0)) && (!decide ((Int.tmod p_y 100) = 0))) || (decide ((Int.tmod p_y 400) = 0))) hb1 (S.tm rfl) rfl) rfl ?_; clear S; intro a S
      refine l_done ?_
      refine then_n ?_
      exact ⟨Keep.refl _ _, S.nf [] rfl ⟨rfl, rfl, trivial⟩⟩
  clear S; rintro a w1 ⟨hk3, S⟩
  refine l_done ?_
  replace S := S.nf (L' := []) (K' := [(1, .int .i64 p_m), (21, .bool ((decide (p_m = 2)) && (((decide ((Int.tmod p_y 4) = 0)) && (!decide ((Int.tmod p_y 100) = 0))) || (decide ((Int.tmod p_y 400) = 0)))))]) [] rfl ⟨rfl, rfl, trivial⟩
  refine then_n ?_
  refine f_cond (S.tm rfl) (fun hb4 => ?_) (fun hb4 => ?_)
  · replace h := iteT h hb4
    refine f_seq ?_
    refine f_region ?_
    refine lv S (rn_assign rfl) rfl ?_; clear S; intro a S
    refine l_done ?_
    replace S := S.nf (L' := []) (K' := [(4, .int .i64 29)]) [] rfl ⟨rfl, trivial⟩
    refine then_n ?_
    refine wp_ret ?_
    refine then_r ?_
    obtain rfl := Option.some.inj h
    exact f_ret S Tryd.results32 rfl rfl
  · replace h := iteF h hb4
    refine wp_skip ?_
    refine then_n ?_
    refine f_seq ?_
    refine f_region ?_
    refine l_buildSlice S Tryd.underlying22 Tryd.sizeOf3 Tryd.zeroValue3 rfl rfl (pv := [(0, .int .i64 31), (1, .int .i64 28), (2, .int .i64 31), (3, .int .i64 30), (4, .int .i64 31), (5, .int .i64 30), (6, .int .i64 31), (7, .int .i64 31), (8, .int .i64 30), (9, .int .i64 31), (10, .int .i64 30), (11, .int .i64 31)]) ⟨rfl, rfl, rfl, rfl, rfl, rfl, rfl, rfl, rfl, rfl, rfl, rfl, rfl, rfl, rfl, rfl, rfl, rfl, rfl, rfl, rfl, rfl, rfl, rfl, trivial⟩ (cs := [.int .i64 31, .int .i64 28, .int .i64 31, .int .i64 30, .int .i64 31, .int .i64 30, .int .i64 31, .int .i64 31, .int .i64 30, .int .i64 31, .int .i64 30, .int .i64 31]) (by kernel_rfl) rfl ?_; clear S; intro a w4 b1 hz1 hk4 S
    refine lv S (rn_move (S.tm rfl)) rfl ?_; clear S; intro a S
    refine lv S (rn_sub (S.tm rfl) rfl) rfl ?_; clear S; intro a S
    obtain ⟨hc1, h⟩ := chkE h
    obtain ⟨b2, o1, hm1, hr1⟩ := rn_indexT (a := a) (x := .tmp 22) (y := .tmp 24) (ty := 0) sl_22 (lit_slcT enc_int S (i := 0) rfl rfl rfl rfl ((ne_nil (e' := .blk b1 [.int .i64 31, .int .i64 28, .int .i64 31, .int .i64 30, .int .i64 31, .int .i64 30, .int .i64 31, .int .i64 31, .int .i64 30, .int .i64 31, .int .i64 30, .int .i64 31] 3)) _ rfl)) (inB_get hc1).1 (inB_get hc1).2 (S.tm rfl) (S.tm rfl)
    refine lv S (hr1 _) rfl ?_; clear S; intro a S
    clear hr1
    refine lv S (rn_ld Tryd.isAgg3 (off := o1) (o := 0) (S.tm rfl) hm1.now rfl) rfl ?_; clear S; intro a S
    refine lv S (rn_assign (S.tm rfl)) rfl ?_; clear S; intro a S
    refine l_done ?_
    replace S := S.nf (L' := []) (K' := [(4, .int .i64 (nth [31, 28, 31, 30, 31, 30, 31, 31, 30, 31, 30, 31] (W (p_m - 1))))]) [false] rfl ⟨rfl, trivial⟩
    refine then_n ?_
    refine wp_ret ?_
    obtain rfl := Option.some.inj h
    exact f_ret S Tryd.results32 rfl rfl
set_option maxRecDepth 20000 in
theorem tumbref2_next_ok (w : World) (p_d : GDate) (r : GDate) (h : tumbref2_next p_d = some r) :
    Calls Tryd.prog 37 [.agg (GDate.enc p_d).toArray].toArray w (Ret w [] fun τ v w' => v = .agg (GDate.enc r).toArray) := by
  refine f_enter [] [] Tryd.func37 rfl Tryd.ntmps37 rfl (by simp) (by simp [fps]) (by simp [fps]) fun a S => ?_
  unfold tumbref2_next at h
  replace S := S.nf (L' := []) (K' := [(0, .agg (GDate.enc p_d).toArray)]) [] rfl ⟨rfl, trivial⟩
  refine f_seq ?_
  refine f_region ?_
  refine l_box S (S.tm rfl) (cs := [.int .i64 p_d.Year, .int .i64 p_d.Month, .int .i64 p_d.Day]) rfl rfl ?_; clear S; intro a w1 b1 hz1 hk1 S
  refine l_alloc S Tryd.zeroValue28 (cs := [.int .i64 0, .int .i64 0, .int .i64 0]) rfl rfl ?_; clear S; intro a w2 b2 hz2 hk2 S
  refine l_done ?_
  replace S := S.nf (L' := [.blk b2 [.int .i64 0, .int .i64 0, .int .i64 0] 28, .blk b1 [.int .i64 p_d.Year, .int .i64 p_d.Month, .int .i64 p_d.Day] 28]) (K' := [(1, .pointer (some ⟨b1, 0, none⟩)), (2, .pointer (some ⟨b2, 0, none⟩))]) [true, true] rfl ⟨rfl, rfl, trivial⟩
  refine then_n ?_
  refine f_seq ?_
  refine f_seq ?_
  refine f_region ?_
  refine lv S (rn_fld fa_28_2 (S.tm rfl)) rfl ?_; clear S; intro a S
  refine lv S (rn_load Tryd.isAgg3 (S.tm rfl) (S.cell (i := 1) rfl rfl)) rfl ?_; clear S; intro a S
  refine lv S (rn_add (S.tm rfl) rfl) rfl ?_; clear S; intro a S
  refine lv S (rn_fld fa_28_2 (S.tm rfl)) rfl ?_; clear S; intro a S
  refine l_store S (S.tm rfl) (S.tm rfl) (i := 1) (off := 2) rfl Tryd.sizeOf3 (vs := [.int .i64 (W (p_d.Day + 1))]) rfl rfl rfl rfl ?_; clear S; intro w3 hk3 S
  refine l_done ?_
  replace S := S.nf (L' := [.blk b2 [.int .i64 0, .int .i64 0, .int .i64 0] 28, .blk b1 [.int .i64 p_d.Year, .int .i64 p_d.Month, .int .i64 (W (p_d.Day + 1))] 28]) (K' := [(1, .pointer (some ⟨b1, 0, none⟩)), (2, .pointer (some ⟨b2, 0, none⟩))]) [true, true] rfl ⟨rfl, rfl, trivial⟩
  refine then_n ?_
  refine f_seq ?_
  obtain ⟨r1, hr1, h⟩ := bindE h
  refine d_region [] ([]) Tryd.mixed S rfl (by kernel_rfl) ?_; clear S; intro w5 hk5 hsel S
  refine d_quiet 0 S hsel rfl rfl rfl (by kernel_rfl) (by kernel_rfl) rfl (fun _ hw => (rn_fld fa_28_2 (S.tm rfl))) ?_; clear S; intro a S
  refine d_quiet 1 S hsel rfl rfl rfl (by kernel_rfl) (by kernel_rfl) rfl (fun _ hw => (rn_ld Tryd.isAgg3 (off := 0) (o := 2) (S.tm rfl) ((S.blk_mem (i := 1) (cells := [.int .i64 p_d.Year, .int .i64 p_d.Month, .int .i64 (W (p_d.Day + 1))]) (b := b1) (T := 28) rfl (ne_nil (e' := .blk b1 [.int .i64 p_d.Year, .int .i64 p_d.Month, .int .i64 (W (p_d.Day + 1))] 28))).kept hw) rfl)) ?_; clear S; intro a S
  refine d_quiet 2 S hsel rfl rfl rfl (by kernel_rfl) (by kernel_rfl) rfl (fun _ hw => (rn_fld fa_28_0 (S.tm rfl))) ?_; clear S; intro a S
  refine d_quiet 3 S hsel rfl rfl rfl (by kernel_rfl) (by kernel_rfl) rfl (fun _ hw => (rn_ld Tryd.isAgg3 (off := 0) (o := 0) (S.tm rfl) ((S.blk_mem (i := 1) (cells := [.int .i64 p_d.Year, .int .i64 p_d.Month, .int .i64 (W (p_d.Day + 1))]) (b := b1) (T := 28) rfl (ne_nil (e' := .blk b1 [.int .i64 p_d.Year, .int .i64 p_d.Month, .int .i64 (W (p_d.Day + 1))] 28))).kept hw) rfl)) ?_; clear S; intro a S
  refine d_quiet 4 S hsel rfl rfl rfl (by kernel_rfl) (by kernel_rfl) rfl (fun _ hw => (rn_fld fa_28_1 (S.tm rfl))) ?_; clear S; intro a S
  refine d_quiet 5 S hsel rfl rfl rfl (by kernel_rfl) (by kernel_rfl) rfl (fun _ hw => (rn_ld Tryd.isAgg3 (off := 0) (o := 1) (S.tm rfl) ((S.blk_mem (i := 1) (cells := [.int .i64 p_d.Year, .int .i64 p_d.Month, .int .i64 (W (p_d.Day + 1))]) (b := b1) (T := 28) rfl (ne_nil (e' := .blk b1 [.int .i64 p_d.Year, .int .i64 p_d.Month, .int .i64 (W (p_d.Day + 1))] 28))).kept hw) rfl)) ?_; clear S; intro a S
  refine d_loud1 6 (by kernel_rfl) rfl ?_
  refine l_enter S (fun _ => run_call (vs := [.int .i64 p_d.Year, .int .i64 p_d.Month]) ⟨(S.tm rfl), (S.tm rfl), trivial⟩ Tryd.call32) (tumbref2_monthLong_ok _ p_d.Year p_d.Month _ hr1) rfl ?_; clear S; intro v2 a w6 hv2 hk6 hn2 S
  subst hv2
  refine l_done ?_
  refine d_next hk6 ?_
  refine d_rest [7] hsel (by kernel_rfl) rfl ?_
  clear hsel
  refine s_lv S rfl (rn_gtr (S.tm rfl) (S.tm rfl)) rfl ?_; clear S; intro a S
  refine s_done ?_
  replace S := S.nf (L' := [.blk b2 [.int .i64 0, .int .i64 0, .int .i64 0] 28, .blk b1 [.int .i64 p_d.Year, .int .i64 p_d.Month, .int .i64 (W (p_d.Day + 1))] 28]) (K' := [(1, .pointer (some ⟨b1, 0, none⟩)), (2, .pointer (some ⟨b2, 0, none⟩)), (14, .bool (decide (r1 < (W (p_d.Day + 1)))))]) [true, true] rfl ⟨rfl, rfl, rfl, trivial⟩
  refine then_n ?_
  obtain ⟨j1, hj1, h⟩ := joinE h
  refine f_join (fun a w' => ∃ x1 : Int, ∃ x2 : Int, ∃ x3 : Int, j1 x1 x2 x3 = some r ∧ Sx w [] nov [.blk b2 [.int .i64 0, .int .i64 0, .int .i64 0] 28, .blk b1 [.int .i64 x1, .int .i64 x2, .int .i64 x3] 28] [(1, .pointer (some ⟨b1, 0, none⟩)), (2, .pointer (some ⟨b2, 0, none⟩))] 29 a w') ?_ ?_
  · refine f_cond (S.tm rfl) (fun hb1 => ?_) (fun hb1 => ?_)
    · replace h := iteT h hb1
      refine f_seq ?_
      refine f_region ?_
      refine lv S (rn_fld fa_28_2 (S.tm rfl)) rfl ?_; clear S; intro a S
      refine l_store S (S.tm rfl) rfl (i := 1) (off := 2) rfl Tryd.sizeOf3 (vs := [.int .i64 1]) rfl rfl rfl rfl ?_; clear S; intro w8 hk7 S
      refine l_done ?_
      replace S := S.nf (L' := [.blk b2 [.int .i64 0, .int .i64 0, .int .i64 0] 28, .blk b1 [.int .i64 p_d.Year, .int .i64 p_d.Month, .int .i64 1] 28]) (K' := [(1, .pointer (some ⟨b1, 0, none⟩)), (2, .pointer (some ⟨b2, 0, none⟩))]) [true, true] rfl ⟨rfl, rfl, trivial⟩
      refine then_n ?_
      refine f_seq ?_
      refine f_region ?_
      refine lv S (rn_fld fa_28_1 (S.tm rfl)) rfl ?_; clear S; intro a S
      refine lv S (rn_load Tryd.isAgg3 (S.tm rfl) (S.cell (i := 1) rfl rfl)) rfl ?_; clear S; intro a S
      refine lv S (rn_add (S.tm rfl) rfl) rfl ?_; clear S; intro a S
      refine lv S (rn_fld fa_28_1 (S.tm rfl)) rfl ?_; clear S; intro a S
      refine l_store S (S.tm rfl) (S.tm rfl) (i := 1) (off := 1) rfl Tryd.sizeOf3 (vs := [.int .i64 (W (p_d.Month + 1))]) rfl rfl rfl rfl ?_; clear S; intro w9 hk8 S
      refine l_done ?_
      replace S := S.nf (L' := [.blk b2 [.int .i64 0, .int .i64 0, .int .i64 0] 28, .blk b1 [.int .i64 p_d.Year, .int .i64 (W (p_d.Month + 1)), .int .i64 1] 28]) (K' := [(1, .pointer (some ⟨b1, 0, none⟩)), (2, .pointer (some ⟨b2, 0, none⟩))]) [true, true] rfl ⟨rfl, rfl, trivial⟩
      refine then_n ?_
      refine f_seq ?_
      refine f_region ?_
      refine lv S (rn_fld fa_28_1 (S.tm rfl)) rfl ?_; clear S; intro a S
      refine lv S (rn_load Tryd.isAgg3 (S.tm rfl) (S.cell (i := 1) rfl rfl)) rfl ?_; clear S; intro a S
      refine lv S (rn_gtr (S.tm rfl) rfl) rfl ?_; clear S; intro a S
      refine l_done ?_
      replace S := S.nf (L' := [.blk b2 [.int .i64 0, .int .i64 0, .int .i64 0] 28, .blk b1 [.int .i64 p_d.Year, .int .i64 (W (p_d.Month + 1)), .int .i64 1] 28]) (K' := [(1, .pointer (some ⟨b1, 0, none⟩)), (2, .pointer (some ⟨b2, 0, none⟩)), (22, .bool (decide (12 < (W (p_d.Month + 1)))))]) [true, true] rfl ⟨rfl, rfl, rfl, trivial⟩
      refine then_n ?_
      obtain ⟨j2, hj2, h⟩ := joinE h
      refine f_join (fun a w' => ∃ x4 : Int, ∃ x5 : Int, j2 x4 x5 = some r ∧ Sx w [] nov [.blk b2 [.int .i64 0, .int .i64 0, .int .i64 0] 28, .blk b1 [.int .i64 x4, .int .i64 x5, .int .i64 1] 28] [(1, .pointer (some ⟨b1, 0, none⟩)), (2, .pointer (some ⟨b2, 0, none⟩))] 29 a w') ?_ ?_
      · refine f_cond (S.tm rfl) (fun hb2 => ?_) (fun hb2 => ?_)
        · replace h := iteT h hb2
          refine f_region ?_
          refine lv S (rn_fld fa_28_0 (S.tm rfl)) rfl ?_; clear S; intro a S
          refine lv S (rn_load Tryd.isAgg3 (S.tm rfl) (S.cell (i := 1) rfl rfl)) rfl ?_; clear S; intro a S
          refine lv S (rn_add (S.tm rfl) rfl) rfl ?_; clear S; intro a S
          refine lv S (rn_fld fa_28_1 (S.tm rfl)) rfl ?_; clear S; intro a S
          refine l_store S (S.tm rfl) rfl (i := 1) (off := 1) rfl Tryd.sizeOf3 (vs := [.int .i64 1]) rfl rfl rfl rfl ?_; clear S; intro w11 hk9 S
          refine lv S (rn_fld fa_28_0 (S.tm rfl)) rfl ?_; clear S; intro a S
          refine l_store S (S.tm rfl) (S.tm rfl) (i := 1) (off := 0) rfl Tryd.sizeOf3 (vs := [.int .i64 (W (p_d.Year + 1))]) rfl rfl rfl rfl ?_; clear S; intro w12 hk10 S
          refine l_done ?_
          replace S := S.nf (L' := [.blk b2 [.int .i64 0, .int .i64 0, .int .i64 0] 28, .blk b1 [.int .i64 (W (p_d.Year + 1)), .int .i64 1, .int .i64 1] 28]) (K' := [(1, .pointer (some ⟨b1, 0, none⟩)), (2, .pointer (some ⟨b2, 0, none⟩))]) [true, true] rfl ⟨rfl, rfl, trivial⟩
          refine then_n ?_
          exact ⟨W (p_d.Year + 1), 1, h, S.nf [true, true] rfl ⟨rfl, rfl, trivial⟩⟩
        · replace h := iteF h hb2
          refine wp_skip ?_
          refine then_n ?_
          exact ⟨p_d.Year, W (p_d.Month + 1), h, S.nf [true, true] rfl ⟨rfl, rfl, trivial⟩⟩
      clear S h; rintro a w10 ⟨x4, x5, h, S⟩; rw [hj2] at h; clear hj2 j2
      refine then_n ?_
      exact ⟨x4, x5, 1, h, S.nf [true, true] rfl ⟨rfl, rfl, trivial⟩⟩
    · replace h := iteF h hb1
      refine wp_skip ?_
      refine then_n ?_
      exact ⟨p_d.Year, p_d.Month, W (p_d.Day + 1), h, S.nf [true, true] rfl ⟨rfl, rfl, trivial⟩⟩
  clear S h; rintro a w7 ⟨x1, x2, x3, h, S⟩; rw [hj1] at h; clear hj1 j1
  refine then_n ?_
  refine f_seq ?_
  refine f_region ?_
  refine lv S (rn_ldA Tryd.isAgg28 Tryd.sizeOf28 (off := 0) (o := 0) (part := [.int .i64 x1, .int .i64 x2, .int .i64 x3]) rfl rfl (S.tm rfl) (S.cellsAt (i := 1) rfl)) rfl ?_; clear S; intro a S
  refine l_store S (S.tm rfl) (S.tm rfl) (i := 0) (off := 0) rfl Tryd.sizeOf28 (vs := [.int .i64 x1, .int .i64 x2, .int .i64 x3]) rfl rfl rfl rfl ?_; clear S; intro w13 hk11 S
  refine l_done ?_
  replace S := S.nf (L' := [.blk b2 [.int .i64 x1, .int .i64 x2, .int .i64 x3] 28]) (K' := [(2, .pointer (some ⟨b2, 0, none⟩))]) [true, false] rfl ⟨rfl, trivial⟩
  refine then_n ?_
  refine wp_ret ?_
  obtain rfl := Option.some.inj h
  exact f_retG S (rs := [.cell 2 28]) (vs := [.agg #[.int .i64 x1, .int .i64 x2, .int .i64 x3]]) Tryd.results37 ⟨(res_cell (off := 0) S rfl Tryd.isAgg28 Tryd.sizeOf28 rfl (S.cellsAt (i := 0) rfl)), trivial⟩ rfl rfl
set_option maxRecDepth 20000 in
theorem tumbref2_DateFor_ok (w : World) (p_day : Int) (r : GDate) (h : tumbref2_DateFor p_day = some r) :
    Calls Tryd.prog 15 [.int .i64 p_day].toArray w (Ret w [] fun τ v w' => v = .agg (GDate.enc r).toArray) := by
  refine f_enter [] [] Tryd.func15 rfl Tryd.ntmps15 rfl (by simp) (by simp [fps]) (by simp [fps]) fun a S => ?_
  unfold tumbref2_DateFor at h
  replace S := S.nf (L' := []) (K' := [(0, .int .i64 p_day)]) [] rfl ⟨rfl, trivial⟩
  refine f_seq ?_
  refine f_region ?_
  refine l_alloc S Tryd.zeroValue28 (cs := [.int .i64 0, .int .i64 0, .int .i64 0]) rfl rfl ?_; clear S; intro a w1 b1 hz1 hk1 S
  refine l_done ?_
  replace S := S.nf (L' := [.blk b1 [.int .i64 0, .int .i64 0, .int .i64 0] 28]) (K' := [(0, .int .i64 p_day), (2, .pointer (some ⟨b1, 0, none⟩))]) [true] rfl ⟨rfl, rfl, trivial⟩
  refine then_n ?_
  refine f_seq ?_
  refine f_region ?_
  refine l_enter S (fun _ => run_call (vs := []) trivial Tryd.call36) (tumbref2_pastDate_ok _ _ rfl) rfl ?_; clear S; intro v1 a w2 hv1 hk2 hn1 S
  subst hv1
  refine l_alloc S Tryd.zeroValue28 (cs := [.int .i64 0, .int .i64 0, .int .i64 0]) rfl rfl ?_; clear S; intro a w3 b2 hz2 hk3 S
  refine l_store S (S.tm rfl) (S.tm rfl) (i := 0) (off := 0) rfl Tryd.sizeOf28 (vs := [.int .i64 tumbref2_pastDate.Year, .int .i64 tumbref2_pastDate.Month, .int .i64 tumbref2_pastDate.Day]) rfl rfl rfl rfl ?_; clear S; intro w4 hk4 S
  refine lv S (rn_assign rfl) rfl ?_; clear S; intro a S
  refine l_done ?_
  replace S := S.nf (L' := [.blk b2 [.int .i64 tumbref2_pastDate.Year, .int .i64 tumbref2_pastDate.Month, .int .i64 tumbref2_pastDate.Day] 28, .blk b1 [.int .i64 0, .int .i64 0, .int .i64 0] 28]) (K' := [(0, .int .i64 p_day), (2, .pointer (some ⟨b1, 0, none⟩)), (3, .pointer (some ⟨b2, 0, none⟩)), (4, .int .i64 (-40000))]) [true, true] rfl ⟨rfl, rfl, rfl, rfl, trivial⟩
  refine then_n ?_
  refine f_seq ?_
  obtain ⟨j1, hj1, h⟩ := joinE h
  refine f_join (fun a w' => ∃ x1 : Int, ∃ x2 : Int, ∃ x3 : Int, j1 x1 x2 x3 = some r ∧ Sx w [] nov [.blk b2 [.int .i64 x1, .int .i64 x2, .int .i64 x3] 28, .blk b1 [.int .i64 0, .int .i64 0, .int .i64 0] 28] [(2, .pointer (some ⟨b1, 0, none⟩)), (3, .pointer (some ⟨b2, 0, none⟩))] 46 a w') ?_ ?_
  · refine wp_block ?_
    refine f_loop (fun (m1 : Nat) a w' => ∃ x1 : Int, ∃ x2 : Int, ∃ x3 : Int, ∃ x4 : Int, tumbref2_DateFor_l1 p_day j1 m1 x1 x2 x3 x4 = some r ∧ Sx w [] nov [.blk b2 [.int .i64 x1, .int .i64 x2, .int .i64 x3] 28, .blk b1 [.int .i64 0, .int .i64 0, .int .i64 0] 28] [(0, .int .i64 p_day), (2, .pointer (some ⟨b1, 0, none⟩)), (3, .pointer (some ⟨b2, 0, none⟩)), (4, .int .i64 x4)] 46 a w') id ((p_day - (-40000)).toNat + 2) ⟨tumbref2_pastDate.Year, tumbref2_pastDate.Month, tumbref2_pastDate.Day, (-40000), h, S.nf [true, true] rfl ⟨rfl, rfl, rfl, rfl, trivial⟩⟩ ?_
    clear S h; rintro m1 a w5 ⟨x1, x2, x3, x4, h, S⟩
    cases m1 with
    | zero => rw [tumbref2_DateFor_l1.eq_1] at h; cases h
    | succ m1 =>
      rw [tumbref2_DateFor_l1.eq_2] at h
      refine f_seq ?_
      refine f_seq ?_
      refine f_region ?_
      refine lv S (rn_move (S.tm rfl)) rfl ?_; clear S; intro a S
      refine lv S (rn_move (S.tm rfl)) rfl ?_; clear S; intro a S
      refine lv S (rn_lss (S.tm rfl) (S.tm rfl)) rfl ?_; clear S; intro a S
      refine l_done ?_
      replace S := S.nf (L' := [.blk b2 [.int .i64 x1, .int .i64 x2, .int .i64 x3] 28, .blk b1 [.int .i64 0, .int .i64 0, .int .i64 0] 28]) (K' := [(0, .int .i64 p_day), (2, .pointer (some ⟨b1, 0, none⟩)), (3, .pointer (some ⟨b2, 0, none⟩)), (4, .int .i64 x4), (9, .bool (decide (x4 < p_day)))]) [true, true] rfl ⟨rfl, rfl, rfl, rfl, rfl, trivial⟩
      refine then_n ?_
      refine f_cond (S.tm rfl) (fun hb1 => ?_) (fun hb1 => ?_)
      · replace h := iteT h hb1
        refine wp_skip ?_
        refine then_n ?_
        refine wp_block ?_
        refine f_seq ?_
        refine f_seq ?_
        obtain ⟨r1, hr1, h⟩ := bindE h
        refine d_region [] ([]) Tryd.mixed S rfl (by kernel_rfl) ?_; clear S; intro w8 hk6 hsel S
        refine d_quiet 0 S hsel rfl rfl rfl (by kernel_rfl) (by kernel_rfl) rfl (fun _ hw => (rn_fld fa_28_0 (S.tm rfl))) ?_; clear S; intro a S
        refine d_quiet 1 S hsel rfl rfl rfl (by kernel_rfl) (by kernel_rfl) rfl (fun _ hw => (rn_ld Tryd.isAgg3 (off := 0) (o := 0) (S.tm rfl) ((S.blk_mem (i := 0) (cells := [.int .i64 x1, .int .i64 x2, .int .i64 x3]) (b := b2) (T := 28) rfl (ne_nil (e' := .blk b2 [.int .i64 x1, .int .i64 x2, .int .i64 x3] 28))).kept hw) rfl)) ?_; clear S; intro a S
        refine d_quiet 2 S hsel rfl rfl rfl (by kernel_rfl) (by kernel_rfl) rfl (fun _ hw => (rn_fld fa_28_1 (S.tm rfl))) ?_; clear S; intro a S
        refine d_quiet 3 S hsel rfl rfl rfl (by kernel_rfl) (by kernel_rfl) rfl (fun _ hw => (rn_ld Tryd.isAgg3 (off := 0) (o := 1) (S.tm rfl) ((S.blk_mem (i := 0) (cells := [.int .i64 x1, .int .i64 x2, .int .i64 x3]) (b := b2) (T := 28) rfl (ne_nil (e' := .blk b2 [.int .i64 x1, .int .i64 x2, .int .i64 x3] 28))).kept hw) rfl)) ?_; clear S; intro a S
        refine d_quiet 5 S hsel rfl rfl rfl (by kernel_rfl) (by kernel_rfl) rfl (fun _ hw => (rn_fld fa_28_2 (S.tm rfl))) ?_; clear S; intro a S
        refine d_quiet 6 S hsel rfl rfl rfl (by kernel_rfl) (by kernel_rfl) rfl (fun _ hw => (rn_ld Tryd.isAgg3 (off := 0) (o := 2) (S.tm rfl) ((S.blk_mem (i := 0) (cells := [.int .i64 x1, .int .i64 x2, .int .i64 x3]) (b := b2) (T := 28) rfl (ne_nil (e' := .blk b2 [.int .i64 x1, .int .i64 x2, .int .i64 x3] 28))).kept hw) rfl)) ?_; clear S; intro a S
        refine d_loud1 4 (by kernel_rfl) rfl ?_
        refine l_enter S (fun _ => run_call (vs := [.int .i64 x1, .int .i64 x2]) ⟨(S.tm rfl), (S.tm rfl), trivial⟩ Tryd.call32) (tumbref2_monthLong_ok _ x1 x2 _ hr1) rfl ?_; clear S; intro v3 a w9 hv3 hk7 hn3 S
        subst hv3
        refine l_done ?_
        refine d_next hk7 ?_
        refine d_rest [7, 8] hsel (by kernel_rfl) rfl ?_
        clear hsel
        refine s_lv S rfl (rn_sub (S.tm rfl) (S.tm rfl)) rfl ?_; clear S; intro a S
        refine s_lv S rfl (rn_assign (S.tm rfl)) rfl ?_; clear S; intro a S
        refine s_done ?_
        replace S := S.nf (L' := [.blk b2 [.int .i64 x1, .int .i64 x2, .int .i64 x3] 28, .blk b1 [.int .i64 0, .int .i64 0, .int .i64 0] 28]) (K' := [(0, .int .i64 p_day), (2, .pointer (some ⟨b1, 0, none⟩)), (3, .pointer (some ⟨b2, 0, none⟩)), (4, .int .i64 x4), (5, .int .i64 (W (r1 - x3)))]) [true, true] rfl ⟨rfl, rfl, rfl, rfl, rfl, trivial⟩
        refine then_n ?_
        refine f_seq ?_
        refine f_region ?_
        refine lv S (rn_move (S.tm rfl)) rfl ?_; clear S; intro a S
        refine lv S (rn_move (S.tm rfl)) rfl ?_; clear S; intro a S
        refine lv S (rn_add (S.tm rfl) (S.tm rfl)) rfl ?_; clear S; intro a S
        refine lv S (rn_add (S.tm rfl) rfl) rfl ?_; clear S; intro a S
        refine lv S (rn_move (S.tm rfl)) rfl ?_; clear S; intro a S
        refine lv S (rn_leq (S.tm rfl) (S.tm rfl)) rfl ?_; clear S; intro a S
        refine l_done ?_
        replace S := S.nf (L' := [.blk b2 [.int .i64 x1, .int .i64 x2, .int .i64 x3] 28, .blk b1 [.int .i64 0, .int .i64 0, .int .i64 0] 28]) (K' := [(0, .int .i64 p_day), (2, .pointer (some ⟨b1, 0, none⟩)), (3, .pointer (some ⟨b2, 0, none⟩)), (4, .int .i64 x4), (5, .int .i64 (W (r1 - x3))), (23, .bool (decide ((W ((W (x4 + (W (r1 - x3)))) + 1)) ≤ p_day)))]) [true, true] rfl ⟨rfl, rfl, rfl, rfl, rfl, rfl, trivial⟩
        refine then_n ?_
        obtain ⟨j2, hj2, h⟩ := joinE h
        refine f_join (fun a w' => ∃ x5 : Int, ∃ x6 : Int, j2 x5 x6 = some r ∧ Sx w [] nov [.blk b2 [.int .i64 x1, .int .i64 x2, .int .i64 x5] 28, .blk b1 [.int .i64 0, .int .i64 0, .int .i64 0] 28] [(0, .int .i64 p_day), (2, .pointer (some ⟨b1, 0, none⟩)), (3, .pointer (some ⟨b2, 0, none⟩)), (4, .int .i64 x6)] 46 a w') ?_ ?_
        · refine f_cond (S.tm rfl) (fun hb2 => ?_) (fun hb2 => ?_)
          · replace h := iteT h hb2
            refine f_seq ?_
            refine f_region ?_
            refine lv S (rn_move (S.tm rfl)) rfl ?_; clear S; intro a S
            refine lv S (rn_move (S.tm rfl)) rfl ?_; clear S; intro a S
            refine lv S (rn_add (S.tm rfl) rfl) rfl ?_; clear S; intro a S
            refine lv S (rn_add (S.tm rfl) (S.tm rfl)) rfl ?_; clear S; intro a S
            refine lv S (rn_assign (S.tm rfl)) rfl ?_; clear S; intro a S
            refine l_done ?_
            replace S := S.nf (L' := [.blk b2 [.int .i64 x1, .int .i64 x2, .int .i64 x3] 28, .blk b1 [.int .i64 0, .int .i64 0, .int .i64 0] 28]) (K' := [(0, .int .i64 p_day), (2, .pointer (some ⟨b1, 0, none⟩)), (3, .pointer (some ⟨b2, 0, none⟩)), (4, .int .i64 (W (x4 + (W ((W (r1 - x3)) + 1)))))]) [true, true] rfl ⟨rfl, rfl, rfl, rfl, trivial⟩
            refine then_n ?_
            refine f_region ?_
            refine lv S (rn_fld fa_28_0 (S.tm rfl)) rfl ?_; clear S; intro a S
            refine lv S (rn_load Tryd.isAgg3 (S.tm rfl) (S.cell (i := 0) rfl rfl)) rfl ?_; clear S; intro a S
            refine lv S (rn_fld fa_28_1 (S.tm rfl)) rfl ?_; clear S; intro a S
            refine lv S (rn_load Tryd.isAgg3 (S.tm rfl) (S.cell (i := 0) rfl rfl)) rfl ?_; clear S; intro a S
            obtain ⟨r2, hr2, h⟩ := bindE h
            refine l_enter S (fun _ => run_call (vs := [.int .i64 x1, .int .i64 x2]) ⟨(S.tm rfl), (S.tm rfl), trivial⟩ Tryd.call32) (tumbref2_monthLong_ok _ x1 x2 _ hr2) rfl ?_; clear S; intro v4 a w11 hv4 hk8 hn4 S
            subst hv4
            refine lv S (rn_fld fa_28_2 (S.tm rfl)) rfl ?_; clear S; intro a S
            refine l_store S (S.tm rfl) (S.tm rfl) (i := 0) (off := 2) rfl Tryd.sizeOf3 (vs := [.int .i64 r2]) rfl rfl rfl rfl ?_; clear S; intro w12 hk9 S
            refine l_done ?_
            replace S := S.nf (L' := [.blk b2 [.int .i64 x1, .int .i64 x2, .int .i64 r2] 28, .blk b1 [.int .i64 0, .int .i64 0, .int .i64 0] 28]) (K' := [(0, .int .i64 p_day), (2, .pointer (some ⟨b1, 0, none⟩)), (3, .pointer (some ⟨b2, 0, none⟩)), (4, .int .i64 (W (x4 + (W ((W (r1 - x3)) + 1)))))]) [true, true] rfl ⟨rfl, rfl, rfl, rfl, trivial⟩
            refine then_n ?_
            exact ⟨r2, W (x4 + (W ((W (r1 - x3)) + 1))), h, S.nf [true, true] rfl ⟨rfl, rfl, rfl, rfl, trivial⟩⟩
          · replace h := iteF h hb2
            refine f_seq ?_
            refine f_region ?_
            refine lv S (rn_fld fa_28_2 (S.tm rfl)) rfl ?_; clear S; intro a S
            refine lv S (rn_load Tryd.isAgg3 (S.tm rfl) (S.cell (i := 0) rfl rfl)) rfl ?_; clear S; intro a S
            refine lv S (rn_move (S.tm rfl)) rfl ?_; clear S; intro a S
            refine lv S (rn_move (S.tm rfl)) rfl ?_; clear S; intro a S
            refine lv S (rn_sub (S.tm rfl) (S.tm rfl)) rfl ?_; clear S; intro a S
            refine lv S (rn_sub (S.tm rfl) rfl) rfl ?_; clear S; intro a S
            refine lv S (rn_add (S.tm rfl) (S.tm rfl)) rfl ?_; clear S; intro a S
            refine lv S (rn_fld fa_28_2 (S.tm rfl)) rfl ?_; clear S; intro a S
            refine l_store S (S.tm rfl) (S.tm rfl) (i := 0) (off := 2) rfl Tryd.sizeOf3 (vs := [.int .i64 (W (x3 + (W ((W (p_day - x4)) - 1))))]) rfl rfl rfl rfl ?_; clear S; intro w13 hk10 S
            refine l_done ?_
            replace S := S.nf (L' := [.blk b2 [.int .i64 x1, .int .i64 x2, .int .i64 (W (x3 + (W ((W (p_day - x4)) - 1))))] 28, .blk b1 [.int .i64 0, .int .i64 0, .int .i64 0] 28]) (K' := [(0, .int .i64 p_day), (2, .pointer (some ⟨b1, 0, none⟩)), (3, .pointer (some ⟨b2, 0, none⟩))]) [true, true] rfl ⟨rfl, rfl, rfl, trivial⟩
            refine then_n ?_
            refine f_region ?_
            refine lv S (rn_move (S.tm rfl)) rfl ?_; clear S; intro a S
            refine lv S (rn_assign (S.tm rfl)) rfl ?_; clear S; intro a S
            refine l_done ?_
            replace S := S.nf (L' := [.blk b2 [.int .i64 x1, .int .i64 x2, .int .i64 (W (x3 + (W ((W (p_day - x4)) - 1))))] 28, .blk b1 [.int .i64 0, .int .i64 0, .int .i64 0] 28]) (K' := [(0, .int .i64 p_day), (2, .pointer (some ⟨b1, 0, none⟩)), (3, .pointer (some ⟨b2, 0, none⟩)), (4, .int .i64 p_day)]) [true, true] rfl ⟨rfl, rfl, rfl, rfl, trivial⟩
            refine then_n ?_
            exact ⟨W (x3 + (W ((W (p_day - x4)) - 1))), p_day, h, S.nf [true, true] rfl ⟨rfl, rfl, rfl, rfl, trivial⟩⟩
        clear S h; rintro a w10 ⟨x5, x6, h, S⟩; rw [hj2] at h; clear hj2 j2
        refine then_n ?_
        refine f_region ?_
        refine lv S (rn_ldA Tryd.isAgg28 Tryd.sizeOf28 (off := 0) (o := 0) (part := [.int .i64 x1, .int .i64 x2, .int .i64 x5]) rfl rfl (S.tm rfl) (S.cellsAt (i := 0) rfl)) rfl ?_; clear S; intro a S
        obtain ⟨r3, hr3, h⟩ := bindE h
        refine l_enter S (fun _ => run_call (vs := [.agg (GDate.enc (GDate.mk x1 x2 x5)).toArray]) ⟨(S.tm rfl), trivial⟩ Tryd.call37) (tumbref2_next_ok _ (GDate.mk x1 x2 x5) _ hr3) rfl ?_; clear S; intro v5 a w14 hv5 hk11 hn5 S
        subst hv5
        refine l_store S (S.tm rfl) (S.tm rfl) (i := 0) (off := 0) rfl Tryd.sizeOf28 (vs := [.int .i64 r3.Year, .int .i64 r3.Month, .int .i64 r3.Day]) rfl rfl rfl rfl ?_; clear S; intro w15 hk12 S
        refine l_done ?_
        replace S := S.nf (L' := [.blk b2 [.int .i64 r3.Year, .int .i64 r3.Month, .int .i64 r3.Day] 28, .blk b1 [.int .i64 0, .int .i64 0, .int .i64 0] 28]) (K' := [(0, .int .i64 p_day), (2, .pointer (some ⟨b1, 0, none⟩)), (3, .pointer (some ⟨b2, 0, none⟩)), (4, .int .i64 x6)]) [true, true] rfl ⟨rfl, rfl, rfl, rfl, trivial⟩
        refine blk_n ?_
        refine then_n ?_
        exact ⟨m1, ⟨r3.Year, r3.Month, r3.Day, x6, h, S.nf [true, true] rfl ⟨rfl, rfl, rfl, rfl, trivial⟩⟩, Nat.lt_succ_self _⟩
      · replace h := iteF h hb1
        refine wp_exit ?_
        refine then_x ?_
        refine then_x ?_
        refine x_same ?_
        refine then_n ?_
        exact ⟨x1, x2, x3, h, S.nf [true, true] rfl ⟨rfl, rfl, trivial⟩⟩
  clear S h; rintro a w6 ⟨x1, x2, x3, h, S⟩; rw [hj1] at h; clear hj1 j1
  refine then_n ?_
  refine f_seq ?_
  refine f_region ?_
  refine lv S (rn_ldA Tryd.isAgg28 Tryd.sizeOf28 (off := 0) (o := 0) (part := [.int .i64 x1, .int .i64 x2, .int .i64 x3]) rfl rfl (S.tm rfl) (S.cellsAt (i := 0) rfl)) rfl ?_; clear S; intro a S
  refine l_store S (S.tm rfl) (S.tm rfl) (i := 1) (off := 0) rfl Tryd.sizeOf28 (vs := [.int .i64 x1, .int .i64 x2, .int .i64 x3]) rfl rfl rfl rfl ?_; clear S; intro w16 hk13 S
  refine l_done ?_
  replace S := S.nf (L' := [.blk b1 [.int .i64 x1, .int .i64 x2, .int .i64 x3] 28]) (K' := [(2, .pointer (some ⟨b1, 0, none⟩))]) [false, true] rfl ⟨rfl, trivial⟩
  refine then_n ?_
  refine wp_ret ?_
  obtain rfl := Option.some.inj h
  exact f_retG S (rs := [.cell 2 28]) (vs := [.agg #[.int .i64 x1, .int .i64 x2, .int .i64 x3]]) Tryd.results15 ⟨(res_cell (off := 0) S rfl Tryd.isAgg28 Tryd.sizeOf28 rfl (S.cellsAt (i := 0) rfl)), trivial⟩ rfl rfl
theorem Stream_Pick_ok (w : World) (b_p_s : Nat) (v_p_s_L : Value) (p_s_L : List Int) (hs_p_s_L : Slc (view w [b_p_s]) 1 v_p_s_L (p_s_L.map eInt)) (p_s_at : Int) (hb_b_p_s : (LEnt.blk b_p_s [v_p_s_L, .int .i64 p_s_at] 25).holds w) (v_p_l : Value) (p_l : List Int) (hs_p_l : Slc (view w [b_p_s]) 1 v_p_l (p_l.map eInt)) (r : Int × Int) (h : Stream_Pick p_s_L p_s_at p_l = some r) :
    Calls Tryd.prog 7 [.pointer (some ⟨b_p_s, 0, none⟩), v_p_l].toArray w (Ret w [b_p_s] fun τ v w' => (LEnt.blk b_p_s [v_p_s_L, .int .i64 r.2] 25).holds w' ∧ v = .int .i64 r.1) := by
  refine f_enter [b_p_s] [.blk b_p_s [v_p_s_L, .int .i64 p_s_at] 25] Tryd.func7 rfl Tryd.ntmps7 rfl (fun e he => by simp only [List.mem_singleton] at he; subst he; exact hb_b_p_s) (by simp [fps, LEnt.fp]) (by simp [fps, LEnt.fp]) fun a S => ?_
  unfold Stream_Pick at h
  replace S := S.nf (L' := [.blk b_p_s [v_p_s_L, .int .i64 p_s_at] 25]) (K' := [(0, .pointer (some ⟨b_p_s, 0, none⟩)), (1, v_p_l)]) [true] rfl ⟨rfl, rfl, trivial⟩
  refine f_seq ?_
  refine f_region ?_
  refine lv S (rn_assign rfl) rfl ?_; clear S; intro a S
  refine l_done ?_
  replace S := S.nf (L' := [.blk b_p_s [v_p_s_L, .int .i64 p_s_at] 25]) (K' := [(0, .pointer (some ⟨b_p_s, 0, none⟩)), (1, v_p_l)]) [true] rfl ⟨rfl, rfl, trivial⟩
  refine then_n ?_
  refine f_seq ?_
  refine f_region ?_
  refine lv S (rn_move (S.tm rfl)) rfl ?_; clear S; intro a S
  refine lv S (rn_move (S.tm rfl)) rfl ?_; clear S; intro a S
  refine lv S (rn_move (S.tm rfl)) rfl ?_; clear S; intro a S
  refine lv S (rn_lenT sl_22 (S.tm rfl) (slc_len hs_p_l)) rfl ?_; clear S; intro a S
  obtain ⟨r1, hr1, h⟩ := bindE h
  refine l_enter1 0 S (b := b_p_s) rfl rfl (fun _ => .blk b_p_s [v_p_s_L, .int .i64 r1.2] 25) (fun _ => run_call (vs := [.pointer (some ⟨b_p_s, 0, none⟩), .int .i64 (p_l.length : Int)]) ⟨(S.tm rfl), (S.tm rfl), trivial⟩ Tryd.call16) (Stream_Next_ok _ b_p_s v_p_s_L p_s_L (hs_p_s_L.mono (S.le_arg (fp_sub (i := 0) (e := .blk b_p_s [v_p_s_L, .int .i64 p_s_at] 25) rfl))) p_s_at (S.holds _ (List.mem_of_getElem? (i := 0) rfl)) (p_l.length : Int) _ hr1) rfl (fun _ _ _ h => ⟨h.1, fun _ hc => by cases hc; rfl⟩) ?_; clear S; intro v1 a w1 hv1 hk1 hn1 S
  replace hv1 := hv1.2
  subst hv1
  obtain ⟨hc1, h⟩ := chkE h
  obtain ⟨b1, o1, hm1, hr2⟩ := rn_indexT (a := a) (x := .tmp 5) (y := .tmp 9) (ty := 0) sl_22 hs_p_l (inB_get hc1).1 (inB_get hc1).2 (S.tm rfl) (S.tm rfl)
  refine lv S (hr2 _) rfl ?_; clear S; intro a S
  clear hr2
  refine lv S (rn_ld Tryd.isAgg3 (off := o1) (o := 0) (S.tm rfl) (hm1.at S.emb0) rfl) rfl ?_; clear S; intro a S
  refine lv S (rn_assign (S.tm rfl)) rfl ?_; clear S; intro a S
  refine l_done ?_
  replace S := S.nf (L' := [.blk b_p_s [v_p_s_L, .int .i64 r1.2] 25]) (K' := [(4, .int .i64 (nth p_l r1.1))]) [true] rfl ⟨rfl, trivial⟩
  refine then_n ?_
  refine wp_ret ?_
  obtain rfl := Option.some.inj h
  exact f_ret S Tryd.results7 rfl ⟨(S.holds _ (List.mem_of_getElem? (i := 0) rfl)), rfl⟩
theorem Stream_Day_ok (w : World) (b_p_s : Nat) (v_p_s_L : Value) (p_s_L : List Int) (hs_p_s_L : Slc (view w [b_p_s]) 1 v_p_s_L (p_s_L.map eInt)) (p_s_at : Int) (hb_b_p_s : (LEnt.blk b_p_s [v_p_s_L, .int .i64 p_s_at] 25).holds w) (r : GDate × Int) (h : Stream_Day p_s_L p_s_at = some r) :
    Calls Tryd.prog 5 [.pointer (some ⟨b_p_s, 0, none⟩)].toArray w (Ret w [b_p_s] fun τ v w' => (LEnt.blk b_p_s [v_p_s_L, .int .i64 r.2] 25).holds w' ∧ v = .agg (GDate.enc r.1).toArray) := by
  refine f_enter [b_p_s] [.blk b_p_s [v_p_s_L, .int .i64 p_s_at] 25] Tryd.func5 rfl Tryd.ntmps5 rfl (fun e he => by simp only [List.mem_singleton] at he; subst he; exact hb_b_p_s) (by simp [fps, LEnt.fp]) (by simp [fps, LEnt.fp]) fun a S => ?_
  unfold Stream_Day at h
  replace S := S.nf (L' := [.blk b_p_s [v_p_s_L, .int .i64 p_s_at] 25]) (K' := [(0, .pointer (some ⟨b_p_s, 0, none⟩))]) [true] rfl ⟨rfl, trivial⟩
  refine f_seq ?_
  refine f_region ?_
  refine l_alloc S Tryd.zeroValue28 (cs := [.int .i64 0, .int .i64 0, .int .i64 0]) rfl rfl ?_; clear S; intro a w1 b1 hz1 hk1 S
  refine l_done ?_
  replace S := S.nf (L' := [.blk b1 [.int .i64 0, .int .i64 0, .int .i64 0] 28, .blk b_p_s [v_p_s_L, .int .i64 p_s_at] 25]) (K' := [(0, .pointer (some ⟨b_p_s, 0, none⟩)), (2, .pointer (some ⟨b1, 0, none⟩))]) [true, true] rfl ⟨rfl, rfl, trivial⟩
  refine then_n ?_
  refine f_seq ?_
  refine f_region ?_
  refine lv S (rn_move (S.tm rfl)) rfl ?_; clear S; intro a S
  obtain ⟨r1, hr1, h⟩ := bindE h
  refine l_enter1 1 S (b := b_p_s) rfl rfl (fun _ => .blk b_p_s [v_p_s_L, .int .i64 r1.2] 25) (fun _ => run_call (vs := [.pointer (some ⟨b_p_s, 0, none⟩), .int .i64 (-40000), .int .i64 4000]) ⟨(S.tm rfl), rfl, rfl, trivial⟩ Tryd.call4) (Stream_Range_ok _ b_p_s v_p_s_L p_s_L (hs_p_s_L.mono (S.le_arg (fp_sub (i := 1) (e := .blk b_p_s [v_p_s_L, .int .i64 p_s_at] 25) rfl))) p_s_at (S.holds _ (List.mem_of_getElem? (i := 1) rfl)) (-40000) 4000 _ hr1) rfl (fun _ _ _ h => ⟨h.1, fun _ hc => by cases hc; rfl⟩) ?_; clear S; intro v1 a w2 hv1 hk2 hn1 S
  replace hv1 := hv1.2
  subst hv1
  obtain ⟨r2, hr2, h⟩ := bindE h
  refine l_enter S (fun _ => run_call (vs := [.int .i64 r1.1]) ⟨(S.tm rfl), trivial⟩ Tryd.call15) (tumbref2_DateFor_ok _ r1.1 _ hr2) rfl ?_; clear S; intro v2 a w3 hv2 hk3 hn2 S
  subst hv2
  refine l_alloc S Tryd.zeroValue28 (cs := [.int .i64 0, .int .i64 0, .int .i64 0]) rfl rfl ?_; clear S; intro a w4 b2 hz2 hk4 S
  refine l_store S (S.tm rfl) (S.tm rfl) (i := 0) (off := 0) rfl Tryd.sizeOf28 (vs := [.int .i64 r2.Year, .int .i64 r2.Month, .int .i64 r2.Day]) rfl rfl rfl rfl ?_; clear S; intro w5 hk5 S
  refine l_done ?_
  replace S := S.nf (L' := [.blk b2 [.int .i64 r2.Year, .int .i64 r2.Month, .int .i64 r2.Day] 28, .blk b1 [.int .i64 0, .int .i64 0, .int .i64 0] 28, .blk b_p_s [v_p_s_L, .int .i64 r1.2] 25]) (K' := [(0, .pointer (some ⟨b_p_s, 0, none⟩)), (2, .pointer (some ⟨b1, 0, none⟩)), (3, .pointer (some ⟨b2, 0, none⟩))]) [true, true, true] rfl ⟨rfl, rfl, rfl, trivial⟩
  refine then_n ?_
  refine f_seq ?_
  refine f_seq ?_
  refine f_region ?_
  refine lv S (rn_move (S.tm rfl)) rfl ?_; clear S; intro a S
  obtain ⟨r3, hr3, h⟩ := bindE h
  refine l_enter1 2 S (b := b_p_s) rfl rfl (fun _ => .blk b_p_s [v_p_s_L, .int .i64 r3.2] 25) (fun _ => run_call (vs := [.pointer (some ⟨b_p_s, 0, none⟩), .int .i64 8]) ⟨(S.tm rfl), rfl, trivial⟩ Tryd.call16) (Stream_Next_ok _ b_p_s v_p_s_L p_s_L (hs_p_s_L.mono (S.le_arg (fp_sub (i := 2) (e := .blk b_p_s [v_p_s_L, .int .i64 r1.2] 25) rfl))) r1.2 (S.holds _ (List.mem_of_getElem? (i := 2) rfl)) 8 _ hr3) rfl (fun _ _ _ h => ⟨h.1, fun _ hc => by cases hc; rfl⟩) ?_; clear S; intro v3 a w6 hv3 hk6 hn3 S
  replace hv3 := hv3.2
  subst hv3
  refine l_done ?_
  replace S := S.nf (L' := [.blk b2 [.int .i64 r2.Year, .int .i64 r2.Month, .int .i64 r2.Day] 28, .blk b1 [.int .i64 0, .int .i64 0, .int .i64 0] 28, .blk b_p_s [v_p_s_L, .int .i64 r3.2] 25]) (K' := [(0, .pointer (some ⟨b_p_s, 0, none⟩)), (2, .pointer (some ⟨b1, 0, none⟩)), (3, .pointer (some ⟨b2, 0, none⟩)), (8, .int .i64 r3.1)]) [true, true, true] rfl ⟨rfl, rfl, rfl, rfl, trivial⟩
  refine then_n ?_
  obtain ⟨j1, hj1, h⟩ := joinE h
  refine f_join (fun a w' => ∃ x1 : Int, ∃ x2 : Int, ∃ x3 : Int, ∃ x4 : Int, j1 x1 x2 x3 x4 = some r ∧ Sx w [b_p_s] nov [.blk b2 [.int .i64 x1, .int .i64 x2, .int .i64 x3] 28, .blk b1 [.int .i64 0, .int .i64 0, .int .i64 0] 28, .blk b_p_s [v_p_s_L, .int .i64 x4] 25] [(2, .pointer (some ⟨b1, 0, none⟩)), (3, .pointer (some ⟨b2, 0, none⟩))] 35 a w') ?_ ?_
  · refine wp_block ?_
    refine f_seq ?_
    refine f_region ?_
    refine lv S (rn_eql (S.tm rfl) rfl) rfl ?_; clear S; intro a S
    refine lv S (rn_assign (S.tm rfl)) rfl ?_; clear S; intro a S
    refine l_done ?_
    replace S := S.nf (L' := [.blk b2 [.int .i64 r2.Year, .int .i64 r2.Month, .int .i64 r2.Day] 28, .blk b1 [.int .i64 0, .int .i64 0, .int .i64 0] 28, .blk b_p_s [v_p_s_L, .int .i64 r3.2] 25]) (K' := [(0, .pointer (some ⟨b_p_s, 0, none⟩)), (2, .pointer (some ⟨b1, 0, none⟩)), (3, .pointer (some ⟨b2, 0, none⟩)), (8, .int .i64 r3.1), (9, .bool (decide (r3.1 = 0)))]) [true, true, true] rfl ⟨rfl, rfl, rfl, rfl, rfl, trivial⟩
    refine then_n ?_
    obtain ⟨j2, hj2, h⟩ := joinE h
    refine f_join (fun a w' => ∃ x5 : Int, ∃ x6 : Int, ∃ x7 : Int, ∃ x8 : Int, j2 x5 x6 x7 x8 = some r ∧ Sx w [b_p_s] nov [.blk b2 [.int .i64 x5, .int .i64 x6, .int .i64 x7] 28, .blk b1 [.int .i64 0, .int .i64 0, .int .i64 0] 28, .blk b_p_s [v_p_s_L, .int .i64 x8] 25] [(2, .pointer (some ⟨b1, 0, none⟩)), (3, .pointer (some ⟨b2, 0, none⟩))] 35 a w') ?_ ?_
    · refine f_cond (S.tm rfl) (fun hb1 => ?_) (fun hb1 => ?_)
      · replace h := iteT h hb1
        refine f_region ?_
        refine lv S (rn_move (S.tm rfl)) rfl ?_; clear S; intro a S
        refine l_buildSlice S Tryd.underlying22 Tryd.sizeOf3 Tryd.zeroValue3 rfl rfl (pv := [(0, .int .i64 28), (1, .int .i64 29), (2, .int .i64 30)]) ⟨rfl, rfl, rfl, rfl, rfl, rfl, trivial⟩ (cs := [.int .i64 28, .int .i64 29, .int .i64 30]) (by kernel_rfl) rfl ?_; clear S; intro a w9 b3 hz3 hk7 S
        obtain ⟨r4, hr4, h⟩ := bindE h
        refine l_enter1 3 S (b := b_p_s) rfl rfl (fun _ => .blk b_p_s [v_p_s_L, .int .i64 r4.2] 25) (fun _ => run_call (vs := [.pointer (some ⟨b_p_s, 0, none⟩), .slice (some ⟨b3, 0, none⟩) 3 3]) ⟨(S.tm rfl), (S.tm rfl), trivial⟩ Tryd.call7) (Stream_Pick_ok _ b_p_s v_p_s_L p_s_L (hs_p_s_L.mono (S.le_arg (fp_sub (i := 3) (e := .blk b_p_s [v_p_s_L, .int .i64 r3.2] 25) rfl))) r3.2 (S.holds _ (List.mem_of_getElem? (i := 3) rfl)) (.slice (some ⟨b3, 0, none⟩) 3 3) [28, 29, 30] (lit_slcT enc_int S (i := 0) rfl rfl rfl rfl ((ne_fp (i := 3) (j := 0) (e := .blk b_p_s [v_p_s_L, .int .i64 r3.2] 25) (e' := .blk b3 [.int .i64 28, .int .i64 29, .int .i64 30] 3) S rfl rfl rfl) _ rfl)) _ hr4) rfl (fun _ _ _ h => ⟨h.1, fun _ hc => by cases hc; rfl⟩) ?_; clear S; intro v4 a w10 hv4 hk8 hn4 S
        replace hv4 := hv4.2
        subst hv4
        refine lv S (rn_fld fa_28_1 (S.tm rfl)) rfl ?_; clear S; intro a S
        refine l_store S (S.tm rfl) rfl (i := 1) (off := 1) rfl Tryd.sizeOf3 (vs := [.int .i64 2]) rfl rfl rfl rfl ?_; clear S; intro w11 hk9 S
        refine lv S (rn_fld fa_28_2 (S.tm rfl)) rfl ?_; clear S; intro a S
        refine l_store S (S.tm rfl) (S.tm rfl) (i := 1) (off := 2) rfl Tryd.sizeOf3 (vs := [.int .i64 r4.1]) rfl rfl rfl rfl ?_; clear S; intro w12 hk10 S
        refine l_done ?_
        replace S := S.nf (L' := [.blk b2 [.int .i64 r2.Year, .int .i64 2, .int .i64 r4.1] 28, .blk b1 [.int .i64 0, .int .i64 0, .int .i64 0] 28, .blk b_p_s [v_p_s_L, .int .i64 r4.2] 25]) (K' := [(2, .pointer (some ⟨b1, 0, none⟩)), (3, .pointer (some ⟨b2, 0, none⟩))]) [false, true, true, true] rfl ⟨rfl, rfl, trivial⟩
        refine then_n ?_
        exact ⟨r2.Year, 2, r4.1, r4.2, h, S.nf [true, true, true] rfl ⟨rfl, rfl, trivial⟩⟩
      · replace h := iteF h hb1
        refine f_seq ?_
        refine f_region ?_
        refine lv S (rn_eql (S.tm rfl) rfl) rfl ?_; clear S; intro a S
        refine lv S (rn_assign (S.tm rfl)) rfl ?_; clear S; intro a S
        refine l_done ?_
        replace S := S.nf (L' := [.blk b2 [.int .i64 r2.Year, .int .i64 r2.Month, .int .i64 r2.Day] 28, .blk b1 [.int .i64 0, .int .i64 0, .int .i64 0] 28, .blk b_p_s [v_p_s_L, .int .i64 r3.2] 25]) (K' := [(0, .pointer (some ⟨b_p_s, 0, none⟩)), (2, .pointer (some ⟨b1, 0, none⟩)), (3, .pointer (some ⟨b2, 0, none⟩)), (8, .int .i64 r3.1), (16, .bool (decide (r3.1 = 1)))]) [true, true, true] rfl ⟨rfl, rfl, rfl, rfl, rfl, trivial⟩
        refine then_n ?_
        obtain ⟨j3, hj3, h⟩ := joinE h
        refine f_join (fun a w' => ∃ x9 : Int, ∃ x10 : Int, ∃ x11 : Int, ∃ x12 : Int, j3 x9 x10 x11 x12 = some r ∧ Sx w [b_p_s] nov [.blk b2 [.int .i64 x9, .int .i64 x10, .int .i64 x11] 28, .blk b1 [.int .i64 0, .int .i64 0, .int .i64 0] 28, .blk b_p_s [v_p_s_L, .int .i64 x12] 25] [(2, .pointer (some ⟨b1, 0, none⟩)), (3, .pointer (some ⟨b2, 0, none⟩))] 35 a w') ?_ ?_
        · refine f_cond (S.tm rfl) (fun hb2 => ?_) (fun hb2 => ?_)
          · replace h := iteT h hb2
            refine f_region ?_
            refine lv S (rn_move (S.tm rfl)) rfl ?_; clear S; intro a S
            refine l_buildSlice S Tryd.underlying22 Tryd.sizeOf3 Tryd.zeroValue3 rfl rfl (pv := [(0, .int .i64 0), (1, .int .i64 30), (2, .int .i64 31), (3, .int .i64 32), (4, .int .i64 (-1))]) ⟨rfl, rfl, rfl, rfl, rfl, rfl, rfl, rfl, rfl, rfl, trivial⟩ (cs := [.int .i64 0, .int .i64 30, .int .i64 31, .int .i64 32, .int .i64 (-1)]) (by kernel_rfl) rfl ?_; clear S; intro a w14 b4 hz4 hk11 S
            obtain ⟨r5, hr5, h⟩ := bindE h
            refine l_enter1 3 S (b := b_p_s) rfl rfl (fun _ => .blk b_p_s [v_p_s_L, .int .i64 r5.2] 25) (fun _ => run_call (vs := [.pointer (some ⟨b_p_s, 0, none⟩), .slice (some ⟨b4, 0, none⟩) 5 5]) ⟨(S.tm rfl), (S.tm rfl), trivial⟩ Tryd.call7) (Stream_Pick_ok _ b_p_s v_p_s_L p_s_L (hs_p_s_L.mono (S.le_arg (fp_sub (i := 3) (e := .blk b_p_s [v_p_s_L, .int .i64 r3.2] 25) rfl))) r3.2 (S.holds _ (List.mem_of_getElem? (i := 3) rfl)) (.slice (some ⟨b4, 0, none⟩) 5 5) [0, 30, 31, 32, (-1)] (lit_slcT enc_int S (i := 0) rfl rfl rfl rfl ((ne_fp (i := 3) (j := 0) (e := .blk b_p_s [v_p_s_L, .int .i64 r3.2] 25) (e' := .blk b4 [.int .i64 0, .int .i64 30, .int .i64 31, .int .i64 32, .int .i64 (-1)] 3) S rfl rfl rfl) _ rfl)) _ hr5) rfl (fun _ _ _ h => ⟨h.1, fun _ hc => by cases hc; rfl⟩) ?_; clear S; intro v5 a w15 hv5 hk12 hn5 S
            replace hv5 := hv5.2
            subst hv5
            refine lv S (rn_fld fa_28_2 (S.tm rfl)) rfl ?_; clear S; intro a S
            refine l_store S (S.tm rfl) (S.tm rfl) (i := 1) (off := 2) rfl Tryd.sizeOf3 (vs := [.int .i64 r5.1]) rfl rfl rfl rfl ?_; clear S; intro w16 hk13 S
            refine l_done ?_
            replace S := S.nf (L' := [.blk b2 [.int .i64 r2.Year, .int .i64 r2.Month, .int .i64 r5.1] 28, .blk b1 [.int .i64 0, .int .i64 0, .int .i64 0] 28, .blk b_p_s [v_p_s_L, .int .i64 r5.2] 25]) (K' := [(2, .pointer (some ⟨b1, 0, none⟩)), (3, .pointer (some ⟨b2, 0, none⟩))]) [false, true, true, true] rfl ⟨rfl, rfl, trivial⟩
            refine then_n ?_
            exact ⟨r2.Year, r2.Month, r5.1, r5.2, h, S.nf [true, true, true] rfl ⟨rfl, rfl, trivial⟩⟩
          · replace h := iteF h hb2
            refine f_seq ?_
            refine f_region ?_
            refine lv S (rn_eql (S.tm rfl) rfl) rfl ?_; clear S; intro a S
            refine lv S (rn_assign (S.tm rfl)) rfl ?_; clear S; intro a S
            refine l_done ?_
            replace S := S.nf (L' := [.blk b2 [.int .i64 r2.Year, .int .i64 r2.Month, .int .i64 r2.Day] 28, .blk b1 [.int .i64 0, .int .i64 0, .int .i64 0] 28, .blk b_p_s [v_p_s_L, .int .i64 r3.2] 25]) (K' := [(0, .pointer (some ⟨b_p_s, 0, none⟩)), (2, .pointer (some ⟨b1, 0, none⟩)), (3, .pointer (some ⟨b2, 0, none⟩)), (8, .int .i64 r3.1), (22, .bool (decide (r3.1 = 2)))]) [true, true, true] rfl ⟨rfl, rfl, rfl, rfl, rfl, trivial⟩
            refine then_n ?_
            obtain ⟨j4, hj4, h⟩ := joinE h
            refine f_join (fun a w' => ∃ x13 : Int, ∃ x14 : Int, ∃ x15 : Int, j4 x13 x14 x15 = some r ∧ Sx w [b_p_s] nov [.blk b2 [.int .i64 x13, .int .i64 x14, .int .i64 r2.Day] 28, .blk b1 [.int .i64 0, .int .i64 0, .int .i64 0] 28, .blk b_p_s [v_p_s_L, .int .i64 x15] 25] [(2, .pointer (some ⟨b1, 0, none⟩)), (3, .pointer (some ⟨b2, 0, none⟩))] 35 a w') ?_ ?_
            · refine f_cond (S.tm rfl) (fun hb3 => ?_) (fun hb3 => ?_)
              · replace h := iteT h hb3
                refine f_region ?_
                refine lv S (rn_move (S.tm rfl)) rfl ?_; clear S; intro a S
                refine l_buildSlice S Tryd.underlying22 Tryd.sizeOf3 Tryd.zeroValue3 rfl rfl (pv := [(0, .int .i64 0), (1, .int .i64 13), (2, .int .i64 12), (3, .int .i64 1)]) ⟨rfl, rfl, rfl, rfl, rfl, rfl, rfl, rfl, trivial⟩ (cs := [.int .i64 0, .int .i64 13, .int .i64 12, .int .i64 1]) (by kernel_rfl) rfl ?_; clear S; intro a w18 b5 hz5 hk14 S
                obtain ⟨r6, hr6, h⟩ := bindE h
                refine l_enter1 3 S (b := b_p_s) rfl rfl (fun _ => .blk b_p_s [v_p_s_L, .int .i64 r6.2] 25) (fun _ => run_call (vs := [.pointer (some ⟨b_p_s, 0, none⟩), .slice (some ⟨b5, 0, none⟩) 4 4]) ⟨(S.tm rfl), (S.tm rfl), trivial⟩ Tryd.call7) (Stream_Pick_ok _ b_p_s v_p_s_L p_s_L (hs_p_s_L.mono (S.le_arg (fp_sub (i := 3) (e := .blk b_p_s [v_p_s_L, .int .i64 r3.2] 25) rfl))) r3.2 (S.holds _ (List.mem_of_getElem? (i := 3) rfl)) (.slice (some ⟨b5, 0, none⟩) 4 4) [0, 13, 12, 1] (lit_slcT enc_int S (i := 0) rfl rfl rfl rfl ((ne_fp (i := 3) (j := 0) (e := .blk b_p_s [v_p_s_L, .int .i64 r3.2] 25) (e' := .blk b5 [.int .i64 0, .int .i64 13, .int .i64 12, .int .i64 1] 3) S rfl rfl rfl) _ rfl)) _ hr6) rfl (fun _ _ _ h => ⟨h.1, fun _ hc => by cases hc; rfl⟩) ?_; clear S; intro v6 a w19 hv6 hk15 hn6 S
                replace hv6 := hv6.2
                subst hv6
                refine lv S (rn_fld fa_28_1 (S.tm rfl)) rfl ?_; clear S; intro a S
                refine l_store S (S.tm rfl) (S.tm rfl) (i := 1) (off := 1) rfl Tryd.sizeOf3 (vs := [.int .i64 r6.1]) rfl rfl rfl rfl ?_; clear S; intro w20 hk16 S
                refine l_done ?_
                replace S := S.nf (L' := [.blk b2 [.int .i64 r2.Year, .int .i64 r6.1, .int .i64 r2.Day] 28, .blk b1 [.int .i64 0, .int .i64 0, .int .i64 0] 28, .blk b_p_s [v_p_s_L, .int .i64 r6.2] 25]) (K' := [(2, .pointer (some ⟨b1, 0, none⟩)), (3, .pointer (some ⟨b2, 0, none⟩))]) [false, true, true, true] rfl ⟨rfl, rfl, trivial⟩
                refine then_n ?_
                exact ⟨r2.Year, r6.1, r6.2, h, S.nf [true, true, true] rfl ⟨rfl, rfl, trivial⟩⟩
              · replace h := iteF h hb3
                refine f_seq ?_
                refine f_region ?_
                refine lv S (rn_eql (S.tm rfl) rfl) rfl ?_; clear S; intro a S
                refine lv S (rn_assign (S.tm rfl)) rfl ?_; clear S; intro a S
                refine l_done ?_
                replace S := S.nf (L' := [.blk b2 [.int .i64 r2.Year, .int .i64 r2.Month, .int .i64 r2.Day] 28, .blk b1 [.int .i64 0, .int .i64 0, .int .i64 0] 28, .blk b_p_s [v_p_s_L, .int .i64 r3.2] 25]) (K' := [(0, .pointer (some ⟨b_p_s, 0, none⟩)), (2, .pointer (some ⟨b1, 0, none⟩)), (3, .pointer (some ⟨b2, 0, none⟩)), (28, .bool (decide (r3.1 = 3)))]) [true, true, true] rfl ⟨rfl, rfl, rfl, rfl, trivial⟩
                refine then_n ?_
                obtain ⟨j5, hj5, h⟩ := joinE h
                refine f_join (fun a w' => ∃ x16 : Int, ∃ x17 : Int, j5 x16 x17 = some r ∧ Sx w [b_p_s] nov [.blk b2 [.int .i64 x16, .int .i64 r2.Month, .int .i64 r2.Day] 28, .blk b1 [.int .i64 0, .int .i64 0, .int .i64 0] 28, .blk b_p_s [v_p_s_L, .int .i64 x17] 25] [(2, .pointer (some ⟨b1, 0, none⟩)), (3, .pointer (some ⟨b2, 0, none⟩))] 35 a w') ?_ ?_
                · refine f_cond (S.tm rfl) (fun hb4 => ?_) (fun hb4 => ?_)
                  · replace h := iteT h hb4
                    refine f_region ?_
                    refine lv S (rn_move (S.tm rfl)) rfl ?_; clear S; intro a S
                    refine l_buildSlice S Tryd.underlying22 Tryd.sizeOf3 Tryd.zeroValue3 rfl rfl (pv := [(0, .int .i64 1914), (1, .int .i64 1913), (2, .int .i64 1900), (3, .int .i64 2000), (4, .int .i64 2034), (5, .int .i64 2035), (6, .int .i64 2036), (7, .int .i64 0), (8, .int .i64 (-4)), (9, .int .i64 1099511627776)]) ⟨rfl, rfl, rfl, rfl, rfl, rfl, rfl, rfl, rfl, rfl, rfl, rfl, rfl, rfl, rfl, rfl, rfl, rfl, rfl, rfl, trivial⟩ (cs := [.int .i64 1914, .int .i64 1913, .int .i64 1900, .int .i64 2000, .int .i64 2034, .int .i64 2035, .int .i64 2036, .int .i64 0, .int .i64 (-4), .int .i64 1099511627776]) (by kernel_rfl) rfl ?_; clear S; intro a w22 b6 hz6 hk17 S
                    obtain ⟨r7, hr7, h⟩ := bindE h
                    refine l_enter1 3 S (b := b_p_s) rfl rfl (fun _ => .blk b_p_s [v_p_s_L, .int .i64 r7.2] 25) (fun _ => run_call (vs := [.pointer (some ⟨b_p_s, 0, none⟩), .slice (some ⟨b6, 0, none⟩) 10 10]) ⟨(S.tm rfl), (S.tm rfl), trivial⟩ Tryd.call7) (Stream_Pick_ok _ b_p_s v_p_s_L p_s_L (hs_p_s_L.mono (S.le_arg (fp_sub (i := 3) (e := .blk b_p_s [v_p_s_L, .int .i64 r3.2] 25) rfl))) r3.2 (S.holds _ (List.mem_of_getElem? (i := 3) rfl)) (.slice (some ⟨b6, 0, none⟩) 10 10) [1914, 1913, 1900, 2000, 2034, 2035, 2036, 0, (-4), 1099511627776] (lit_slcT enc_int S (i := 0) rfl rfl rfl rfl ((ne_fp (i := 3) (j := 0) (e := .blk b_p_s [v_p_s_L, .int .i64 r3.2] 25) (e' := .blk b6 [.int .i64 1914, .int .i64 1913, .int .i64 1900, .int .i64 2000, .int .i64 2034, .int .i64 2035, .int .i64 2036, .int .i64 0, .int .i64 (-4), .int .i64 1099511627776] 3) S rfl rfl rfl) _ rfl)) _ hr7) rfl (fun _ _ _ h => ⟨h.1, fun _ hc => by cases hc; rfl⟩) ?_; clear S; intro v7 a w23 hv7 hk18 hn7 S
                    replace hv7 := hv7.2
                    subst hv7
                    refine lv S (rn_fld fa_28_0 (S.tm rfl)) rfl ?_; clear S; intro a S
                    refine l_store S (S.tm rfl) (S.tm rfl) (i := 1) (off := 0) rfl Tryd.sizeOf3 (vs := [.int .i64 r7.1]) rfl rfl rfl rfl ?_; clear S; intro w24 hk19 S
                    refine l_done ?_
                    replace S := S.nf (L' := [.blk b2 [.int .i64 r7.1, .int .i64 r2.Month, .int .i64 r2.Day] 28, .blk b1 [.int .i64 0, .int .i64 0, .int .i64 0] 28, .blk b_p_s [v_p_s_L, .int .i64 r7.2] 25]) (K' := [(2, .pointer (some ⟨b1, 0, none⟩)), (3, .pointer (some ⟨b2, 0, none⟩))]) [false, true, true, true] rfl ⟨rfl, rfl, trivial⟩
                    refine then_n ?_
                    exact ⟨r7.1, r7.2, h, S.nf [true, true, true] rfl ⟨rfl, rfl, trivial⟩⟩
                  · replace h := iteF h hb4
                    refine wp_skip ?_
                    refine then_n ?_
                    exact ⟨r2.Year, r3.2, h, S.nf [true, true, true] rfl ⟨rfl, rfl, trivial⟩⟩
                clear S h; rintro a w21 ⟨x16, x17, h, S⟩; rw [hj5] at h; clear hj5 j5
                refine then_n ?_
                exact ⟨x16, r2.Month, x17, h, S.nf [true, true, true] rfl ⟨rfl, rfl, trivial⟩⟩
            clear S h; rintro a w17 ⟨x13, x14, x15, h, S⟩; rw [hj4] at h; clear hj4 j4
            refine then_n ?_
            exact ⟨x13, x14, r2.Day, x15, h, S.nf [true, true, true] rfl ⟨rfl, rfl, trivial⟩⟩
        clear S h; rintro a w13 ⟨x9, x10, x11, x12, h, S⟩; rw [hj3] at h; clear hj3 j3
        refine then_n ?_
        exact ⟨x9, x10, x11, x12, h, S.nf [true, true, true] rfl ⟨rfl, rfl, trivial⟩⟩
    clear S h; rintro a w8 ⟨x5, x6, x7, x8, h, S⟩; rw [hj2] at h; clear hj2 j2
    refine blk_n ?_
    refine then_n ?_
    exact ⟨x5, x6, x7, x8, h, S.nf [true, true, true] rfl ⟨rfl, rfl, trivial⟩⟩
  clear S h; rintro a w7 ⟨x1, x2, x3, x4, h, S⟩; rw [hj1] at h; clear hj1 j1
  refine then_n ?_
  refine f_seq ?_
  refine f_region ?_
  refine lv S (rn_ldA Tryd.isAgg28 Tryd.sizeOf28 (off := 0) (o := 0) (part := [.int .i64 x1, .int .i64 x2, .int .i64 x3]) rfl rfl (S.tm rfl) (S.cellsAt (i := 0) rfl)) rfl ?_; clear S; intro a S
  refine l_store S (S.tm rfl) (S.tm rfl) (i := 1) (off := 0) rfl Tryd.sizeOf28 (vs := [.int .i64 x1, .int .i64 x2, .int .i64 x3]) rfl rfl rfl rfl ?_; clear S; intro w25 hk20 S
  refine l_done ?_
  replace S := S.nf (L' := [.blk b1 [.int .i64 x1, .int .i64 x2, .int .i64 x3] 28, .blk b_p_s [v_p_s_L, .int .i64 x4] 25]) (K' := [(2, .pointer (some ⟨b1, 0, none⟩))]) [false, true, true] rfl ⟨rfl, trivial⟩
  refine then_n ?_
  refine wp_ret ?_
  obtain rfl := Option.some.inj h
  exact f_retG S (rs := [.cell 2 28]) (vs := [.agg #[.int .i64 x1, .int .i64 x2, .int .i64 x3]]) Tryd.results5 ⟨(res_cell (off := 0) S rfl Tryd.isAgg28 Tryd.sizeOf28 rfl (S.cellsAt (i := 0) rfl)), trivial⟩ rfl ⟨(S.holds _ (List.mem_of_getElem? (i := 1) rfl)), rfl⟩
theorem Stream_Flip_ok (w : World) (b_p_s : Nat) (v_p_s_L : Value) (p_s_L : List Int) (hs_p_s_L : Slc (view w [b_p_s]) 1 v_p_s_L (p_s_L.map eInt)) (p_s_at : Int) (hb_b_p_s : (LEnt.blk b_p_s [v_p_s_L, .int .i64 p_s_at] 25).holds w) (p_n : Int) (r : Bool × Int) (h : Stream_Flip p_s_L p_s_at p_n = some r) :
    Calls Tryd.prog 23 [.pointer (some ⟨b_p_s, 0, none⟩), .int .i64 p_n].toArray w (Ret w [b_p_s] fun τ v w' => (LEnt.blk b_p_s [v_p_s_L, .int .i64 r.2] 25).holds w' ∧ v = .bool r.1) := by
  refine f_enter [b_p_s] [.blk b_p_s [v_p_s_L, .int .i64 p_s_at] 25] Tryd.func23 rfl Tryd.ntmps23 rfl (fun e he => by simp only [List.mem_singleton] at he; subst he; exact hb_b_p_s) (by simp [fps, LEnt.fp]) (by simp [fps, LEnt.fp]) fun a S => ?_
  unfold Stream_Flip at h
  replace S := S.nf (L' := [.blk b_p_s [v_p_s_L, .int .i64 p_s_at] 25]) (K' := [(0, .pointer (some ⟨b_p_s, 0, none⟩)), (1, .int .i64 p_n)]) [true] rfl ⟨rfl, rfl, trivial⟩
  refine f_seq ?_
  refine f_region ?_
  refine lv S (rn_assign rfl) rfl ?_; clear S; intro a S
  refine l_done ?_
  replace S := S.nf (L' := [.blk b_p_s [v_p_s_L, .int .i64 p_s_at] 25]) (K' := [(0, .pointer (some ⟨b_p_s, 0, none⟩)), (1, .int .i64 p_n)]) [true] rfl ⟨rfl, rfl, trivial⟩
  refine then_n ?_
  refine f_seq ?_
  refine f_region ?_
  refine lv S (rn_move (S.tm rfl)) rfl ?_; clear S; intro a S
  refine lv S (rn_move (S.tm rfl)) rfl ?_; clear S; intro a S
  obtain ⟨r1, hr1, h⟩ := bindE h
  refine l_enter1 0 S (b := b_p_s) rfl rfl (fun _ => .blk b_p_s [v_p_s_L, .int .i64 r1.2] 25) (fun _ => run_call (vs := [.pointer (some ⟨b_p_s, 0, none⟩), .int .i64 p_n]) ⟨(S.tm rfl), (S.tm rfl), trivial⟩ Tryd.call16) (Stream_Next_ok _ b_p_s v_p_s_L p_s_L (hs_p_s_L.mono (S.le_arg (fp_sub (i := 0) (e := .blk b_p_s [v_p_s_L, .int .i64 p_s_at] 25) rfl))) p_s_at (S.holds _ (List.mem_of_getElem? (i := 0) rfl)) p_n _ hr1) rfl (fun _ _ _ h => ⟨h.1, fun _ hc => by cases hc; rfl⟩) ?_; clear S; intro v1 a w1 hv1 hk1 hn1 S
  replace hv1 := hv1.2
  subst hv1
  refine lv S (rn_eql (S.tm rfl) rfl) rfl ?_; clear S; intro a S
  refine lv S (rn_assign (S.tm rfl)) rfl ?_; clear S; intro a S
  refine l_done ?_
  replace S := S.nf (L' := [.blk b_p_s [v_p_s_L, .int .i64 r1.2] 25]) (K' := [(4, .bool (decide (r1.1 = 0)))]) [true] rfl ⟨rfl, trivial⟩
  refine then_n ?_
  refine wp_ret ?_
  obtain rfl := Option.some.inj h
  exact f_ret S Tryd.results23 rfl ⟨(S.holds _ (List.mem_of_getElem? (i := 0) rfl)), rfl⟩
theorem Stream_RightSwimmers_ok (w : World) (b_p_s : Nat) (v_p_s_L : Value) (p_s_L : List Int) (hs_p_s_L : Slc (view w [b_p_s]) 1 v_p_s_L (p_s_L.map eInt)) (p_s_at : Int) (hb_b_p_s : (LEnt.blk b_p_s [v_p_s_L, .int .i64 p_s_at] 25).holds w) (r : (List GSwimmer) × Int) (h : Stream_RightSwimmers p_s_L p_s_at = some r) :
    Calls Tryd.prog 22 [.pointer (some ⟨b_p_s, 0, none⟩)].toArray w (Ret w [b_p_s] fun τ v w' => (LEnt.blk b_p_s [v_p_s_L, .int .i64 r.2] 25).holds w' ∧ OwnV τ 43 3 v r.1.length (r.1.flatMap GSwimmer.enc)) := by
  refine f_enter [b_p_s] [.blk b_p_s [v_p_s_L, .int .i64 p_s_at] 25] Tryd.func22 rfl Tryd.ntmps22 rfl (fun e he => by simp only [List.mem_singleton] at he; subst he; exact hb_b_p_s) (by simp [fps, LEnt.fp]) (by simp [fps, LEnt.fp]) fun a S => ?_
  unfold Stream_RightSwimmers at h
  replace S := S.nf (L' := [.blk b_p_s [v_p_s_L, .int .i64 p_s_at] 25]) (K' := [(0, .pointer (some ⟨b_p_s, 0, none⟩))]) [true] rfl ⟨rfl, trivial⟩
  refine f_seq ?_
  refine f_region ?_
  refine lv S (rn_assign rfl) rfl ?_; clear S; intro a S
  refine l_done ?_
  replace S := S.nf (L' := [.blk b_p_s [v_p_s_L, .int .i64 p_s_at] 25]) (K' := [(0, .pointer (some ⟨b_p_s, 0, none⟩))]) [true] rfl ⟨rfl, trivial⟩
  refine then_n ?_
  refine f_seq ?_
  refine f_region ?_
  refine lv S (rn_assign rfl) rfl ?_; clear S; intro a S
  replace S := S.nil 43 3
  refine l_done ?_
  replace S := S.nf (L' := [.own (.slice none 0 0) 43 3 ([] : List GSwimmer).length (([] : List GSwimmer).flatMap GSwimmer.enc), .blk b_p_s [v_p_s_L, .int .i64 p_s_at] 25]) (K' := [(0, .pointer (some ⟨b_p_s, 0, none⟩)), (3, (.slice none 0 0))]) [true, true] rfl ⟨rfl, rfl, trivial⟩
  refine then_n ?_
  refine f_seq ?_
  refine f_seq ?_
  refine f_region ?_
  refine l_buildSlice S Tryd.underlying57 Tryd.sizeOf9 Tryd.zeroValue9 rfl rfl (pv := [(0, .string k_ann), (1, .string k_bea), (2, .string k_cid), (3, .string k_dan), (4, .string k_eve), (5, .string k_fox)]) ⟨rfl, rfl, rfl, rfl, rfl, rfl, rfl, rfl, rfl, rfl, rfl, rfl, trivial⟩ (cs := [.string k_ann, .string k_bea, .string k_cid, .string k_dan, .string k_eve, .string k_fox]) (by kernel_rfl) rfl ?_; clear S; intro a w1 b1 hz1 hk1 S
  refine lv S (rn_lenT sl_57 (S.tm rfl) ⟨_, _, rfl⟩) rfl ?_; clear S; intro a S
  refine lv S (rn_move rfl) rfl ?_; clear S; intro a S
  refine l_done ?_
  replace S := S.nf (L' := [.blk b1 [.string k_ann, .string k_bea, .string k_cid, .string k_dan, .string k_eve, .string k_fox] 9, .own (.slice none 0 0) 43 3 ([] : List GSwimmer).length (([] : List GSwimmer).flatMap GSwimmer.enc), .blk b_p_s [v_p_s_L, .int .i64 p_s_at] 25]) (K' := [(0, .pointer (some ⟨b_p_s, 0, none⟩)), (3, (.slice none 0 0)), (6, .slice (some ⟨b1, 0, none⟩) 6 6), (7, .int .i64 (([k_ann, k_bea, k_cid, k_dan, k_eve, k_fox] : List ByteArray).length : Int)), (8, .int .i64 0)]) [true, true, true] rfl ⟨rfl, rfl, rfl, rfl, rfl, trivial⟩
  refine then_n ?_
  replace S := S.litOwn (i := 0) (xs := [k_ann, k_bea, k_cid, k_dan, k_eve, k_fox]) rfl enc_str rfl rfl rfl
  replace S := S.nf (L' := [.own (.slice (some ⟨b1, 0, none⟩) 6 6) 9 1 ([k_ann, k_bea, k_cid, k_dan, k_eve, k_fox] : List ByteArray).length (([k_ann, k_bea, k_cid, k_dan, k_eve, k_fox] : List ByteArray).flatMap eStr), .own (.slice none 0 0) 43 3 ([] : List GSwimmer).length (([] : List GSwimmer).flatMap GSwimmer.enc), .blk b_p_s [v_p_s_L, .int .i64 p_s_at] 25]) (K' := [(0, .pointer (some ⟨b_p_s, 0, none⟩)), (3, (.slice none 0 0)), (6, (.slice (some ⟨b1, 0, none⟩) 6 6)), (7, .int .i64 (([k_ann, k_bea, k_cid, k_dan, k_eve, k_fox] : List ByteArray).length : Int)), (8, .int .i64 0)]) [] rfl ⟨rfl, rfl, rfl, rfl, rfl, trivial⟩
  obtain ⟨φ1, hl1, hs1, S⟩ := S.freezeT (xs := ([k_ann, k_bea, k_cid, k_dan, k_eve, k_fox] : List ByteArray)) (enc := eStr) (i := 0) rfl (fun c hc hh => not_fps S (i := 2) rfl rfl (j := 0) rfl rfl (by simp at hc; subst hc; exact hh))
  replace S := S.nf (L' := [.own (.slice none 0 0) 43 3 ([] : List GSwimmer).length (([] : List GSwimmer).flatMap GSwimmer.enc), .blk b_p_s [v_p_s_L, .int .i64 p_s_at] 25]) (K' := [(0, .pointer (some ⟨b_p_s, 0, none⟩)), (3, (.slice none 0 0)), (6, (.slice (some ⟨b1, 0, none⟩) 6 6)), (7, .int .i64 (([k_ann, k_bea, k_cid, k_dan, k_eve, k_fox] : List ByteArray).length : Int)), (8, .int .i64 0)]) [] rfl ⟨rfl, rfl, rfl, rfl, rfl, trivial⟩
  obtain ⟨j1, hj1, h⟩ := joinE h
  refine f_join (fun a w' => ∃ x1 : List GSwimmer, ∃ x2 : Int, ∃ v1 : Value, j1 x1 x2 = some r ∧ Sx w [b_p_s] φ1 [.own v1 43 3 x1.length (x1.flatMap GSwimmer.enc), .blk b_p_s [v_p_s_L, .int .i64 x2] 25] [(3, v1)] 27 a w') ?_ ?_
  · refine wp_block ?_
    refine f_loop (fun (ys1 : List ByteArray) a w' => ∃ i1 : Nat, ∃ x1 : List GSwimmer, ∃ x2 : Int, ∃ v1 : Value, (∃ dn, ([k_ann, k_bea, k_cid, k_dan, k_eve, k_fox] : List ByteArray) = dn ++ ys1 ∧ dn.length = i1) ∧ Stream_RightSwimmers_l1 p_s_L j1 ys1 i1 x1 x2 = some r ∧ Sx w [b_p_s] φ1 [.own v1 43 3 x1.length (x1.flatMap GSwimmer.enc), .blk b_p_s [v_p_s_L, .int .i64 x2] 25] [(0, .pointer (some ⟨b_p_s, 0, none⟩)), (3, v1), (6, (.slice (some ⟨b1, 0, none⟩) 6 6)), (7, .int .i64 (([k_ann, k_bea, k_cid, k_dan, k_eve, k_fox] : List ByteArray).length : Int)), (8, .int .i64 (i1 : Int))] 27 a w') List.length ([k_ann, k_bea, k_cid, k_dan, k_eve, k_fox] : List ByteArray) ⟨0, ([] : List GSwimmer), p_s_at, (.slice none 0 0), ⟨[], rfl, rfl⟩, h, S.nf [true, true] rfl ⟨rfl, rfl, rfl, rfl, rfl, trivial⟩⟩ ?_
    clear S h; rintro ys1 a w2 ⟨i1, x1, x2, v1, ⟨dn, hd1, hi1⟩, h, S⟩
    cases ys1 with
    | nil =>
      rw [Stream_RightSwimmers_l1.eq_1] at h
      refine f_seq ?_
      refine f_region ?_
      refine lv S (rn_lss (S.tm rfl) (S.tm rfl)) rfl ?_; clear S; intro a S
      refine l_done ?_
      replace S := S.nf (L' := [.own v1 43 3 x1.length (x1.flatMap GSwimmer.enc), .blk b_p_s [v_p_s_L, .int .i64 x2] 25]) (K' := [(0, .pointer (some ⟨b_p_s, 0, none⟩)), (3, v1), (6, (.slice (some ⟨b1, 0, none⟩) 6 6)), (7, .int .i64 (([k_ann, k_bea, k_cid, k_dan, k_eve, k_fox] : List ByteArray).length : Int)), (8, .int .i64 (i1 : Int)), (9, .bool (decide ((i1 : Int) < (([k_ann, k_bea, k_cid, k_dan, k_eve, k_fox] : List ByteArray).length : Int))))]) [true, true] rfl ⟨rfl, rfl, rfl, rfl, rfl, rfl, trivial⟩
      refine then_n ?_
      refine f_seq ?_
      refine wp_cond_false ((S.tm rfl).trans (congrArg Value.bool (rng_nil hd1 hi1))) ?_
      refine wp_exit ?_
      refine then_x ?_
      refine then_x ?_
      refine x_same ?_
      refine then_n ?_
      exact ⟨x1, x2, v1, h, S.nf [true, true] rfl ⟨rfl, trivial⟩⟩
    | cons y1 ys1 =>
      rw [Stream_RightSwimmers_l1.eq_2] at h
      refine f_seq ?_
      refine f_region ?_
      refine lv S (rn_lss (S.tm rfl) (S.tm rfl)) rfl ?_; clear S; intro a S
      refine l_done ?_
      replace S := S.nf (L' := [.own v1 43 3 x1.length (x1.flatMap GSwimmer.enc), .blk b_p_s [v_p_s_L, .int .i64 x2] 25]) (K' := [(0, .pointer (some ⟨b_p_s, 0, none⟩)), (3, v1), (6, (.slice (some ⟨b1, 0, none⟩) 6 6)), (7, .int .i64 (([k_ann, k_bea, k_cid, k_dan, k_eve, k_fox] : List ByteArray).length : Int)), (8, .int .i64 (i1 : Int)), (9, .bool (decide ((i1 : Int) < (([k_ann, k_bea, k_cid, k_dan, k_eve, k_fox] : List ByteArray).length : Int))))]) [true, true] rfl ⟨rfl, rfl, rfl, rfl, rfl, rfl, trivial⟩
      refine then_n ?_
      refine f_seq ?_
      refine wp_cond_true ((S.tm rfl).trans (congrArg Value.bool (rng_cons hd1 hi1))) ?_
      refine wp_skip ?_
      refine then_n ?_
      refine f_seq ?_
      obtain ⟨j2, hj2, h⟩ := joinE h
      refine f_join (fun a w' => ∃ x3 : List GSwimmer, ∃ x4 : Int, ∃ v2 : Value, j2 x3 x4 = some r ∧ Sx w [b_p_s] φ1 [.own v2 43 3 x3.length (x3.flatMap GSwimmer.enc), .blk b_p_s [v_p_s_L, .int .i64 x4] 25] [(0, .pointer (some ⟨b_p_s, 0, none⟩)), (3, v2), (6, (.slice (some ⟨b1, 0, none⟩) 6 6)), (7, .int .i64 (([k_ann, k_bea, k_cid, k_dan, k_eve, k_fox] : List ByteArray).length : Int)), (8, .int .i64 (i1 : Int))] 27 a w') ?_ ?_
      · refine wp_block ?_
        refine f_seq ?_
        refine f_region ?_
        obtain ⟨b2, o1, hm1, hr1⟩ := rn_indexT (a := a) (x := .tmp 6) (y := .tmp 8) (ty := 0) sl_57 (ownV_slcT enc_str hs1) (get_mid hd1 hi1) rfl (S.tm rfl) (S.tm rfl)
        refine lv S (hr1 _) rfl ?_; clear S; intro a S
        clear hr1
        refine lv S (rn_ld Tryd.isAgg9 (off := o1) (o := 0) (S.tm rfl) (hm1.at S.emb) rfl) rfl ?_; clear S; intro a S
        refine lv S (rn_assign (S.tm rfl)) rfl ?_; clear S; intro a S
        refine l_done ?_
        replace S := S.nf (L' := [.own v1 43 3 x1.length (x1.flatMap GSwimmer.enc), .blk b_p_s [v_p_s_L, .int .i64 x2] 25]) (K' := [(0, .pointer (some ⟨b_p_s, 0, none⟩)), (3, v1), (5, .string y1), (6, (.slice (some ⟨b1, 0, none⟩) 6 6)), (7, .int .i64 (([k_ann, k_bea, k_cid, k_dan, k_eve, k_fox] : List ByteArray).length : Int)), (8, .int .i64 (i1 : Int))]) [true, true] rfl ⟨rfl, rfl, rfl, rfl, rfl, rfl, trivial⟩
        refine then_n ?_
        refine f_seq ?_
        refine f_seq ?_
        refine f_region ?_
        refine lv S (rn_move (S.tm rfl)) rfl ?_; clear S; intro a S
        obtain ⟨r1, hr2, h⟩ := bindE h
        refine l_enter1 1 S (b := b_p_s) rfl rfl (fun _ => .blk b_p_s [v_p_s_L, .int .i64 r1.2] 25) (fun _ => run_call (vs := [.pointer (some ⟨b_p_s, 0, none⟩), .int .i64 8]) ⟨(S.tm rfl), rfl, trivial⟩ Tryd.call23) (Stream_Flip_ok _ b_p_s v_p_s_L p_s_L (hs_p_s_L.mono (S.le_arg (fp_sub (i := 1) (e := .blk b_p_s [v_p_s_L, .int .i64 x2] 25) rfl))) x2 (S.holds _ (List.mem_of_getElem? (i := 1) rfl)) 8 _ hr2) rfl (fun _ _ _ h => ⟨h.1, fun _ hc => by cases hc; rfl⟩) ?_; clear S; intro v3 a w5 hv1 hk2 hn1 S
        replace hv1 := hv1.2
        subst hv1
        refine l_done ?_
        replace S := S.nf (L' := [.own v1 43 3 x1.length (x1.flatMap GSwimmer.enc), .blk b_p_s [v_p_s_L, .int .i64 r1.2] 25]) (K' := [(0, .pointer (some ⟨b_p_s, 0, none⟩)), (3, v1), (5, .string y1), (6, (.slice (some ⟨b1, 0, none⟩) 6 6)), (7, .int .i64 (([k_ann, k_bea, k_cid, k_dan, k_eve, k_fox] : List ByteArray).length : Int)), (8, .int .i64 (i1 : Int)), (13, .bool r1.1)]) [true, true] rfl ⟨rfl, rfl, rfl, rfl, rfl, rfl, rfl, trivial⟩
        refine then_n ?_
        refine f_cond (S.tm rfl) (fun hb1 => ?_) (fun hb1 => ?_)
        · replace h := iteT h hb1
          refine wp_exit ?_
          refine then_x ?_
          refine x_same ?_
          refine then_n ?_
          exact ⟨x1, r1.2, v1, h, S.nf [true, true] rfl ⟨rfl, rfl, rfl, rfl, rfl, trivial⟩⟩
        · replace h := iteF h hb1
          refine wp_skip ?_
          refine then_n ?_
          refine f_region ?_
          refine lv S (rn_move (S.tm rfl)) rfl ?_; clear S; intro a S
          refine lv S (rn_move (S.tm rfl)) rfl ?_; clear S; intro a S
          refine lv S (rn_move (S.tm rfl)) rfl ?_; clear S; intro a S
          refine l_buildSlice S Tryd.underlying22 Tryd.sizeOf3 Tryd.zeroValue3 rfl rfl (pv := [(0, .int .i64 1), (1, .int .i64 2)]) ⟨rfl, rfl, rfl, rfl, trivial⟩ (cs := [.int .i64 1, .int .i64 2]) (by kernel_rfl) rfl ?_; clear S; intro a w6 b3 hz2 hk3 S
          obtain ⟨r2, hr3, h⟩ := bindE h
          refine l_enter1 2 S (b := b_p_s) rfl rfl (fun _ => .blk b_p_s [v_p_s_L, .int .i64 r2.2] 25) (fun _ => run_call (vs := [.pointer (some ⟨b_p_s, 0, none⟩), .slice (some ⟨b3, 0, none⟩) 2 2]) ⟨(S.tm rfl), (S.tm rfl), trivial⟩ Tryd.call7) (Stream_Pick_ok _ b_p_s v_p_s_L p_s_L (hs_p_s_L.mono (S.le_arg (fp_sub (i := 2) (e := .blk b_p_s [v_p_s_L, .int .i64 r1.2] 25) rfl))) r1.2 (S.holds _ (List.mem_of_getElem? (i := 2) rfl)) (.slice (some ⟨b3, 0, none⟩) 2 2) [1, 2] (lit_slcT enc_int S (i := 0) rfl rfl rfl rfl ((ne_fp (i := 2) (j := 0) (e := .blk b_p_s [v_p_s_L, .int .i64 r1.2] 25) (e' := .blk b3 [.int .i64 1, .int .i64 2] 3) S rfl rfl rfl) _ rfl)) _ hr3) rfl (fun _ _ _ h => ⟨h.1, fun _ hc => by cases hc; rfl⟩) ?_; clear S; intro v4 a w7 hv2 hk4 hn2 S
          replace hv2 := hv2.2
          subst hv2
          refine lv S (rn_move (S.tm rfl)) rfl ?_; clear S; intro a S
          refine l_buildSlice S Tryd.underlying22 Tryd.sizeOf3 Tryd.zeroValue3 rfl rfl (pv := [(0, .int .i64 59), (1, .int .i64 0), (2, .int .i64 (-1)), (3, .int .i64 (-307)), (4, .int .i64 (-3653)), (5, .int .i64 (-5000)), (6, .int .i64 365), (7, .int .i64 1520)]) ⟨rfl, rfl, rfl, rfl, rfl, rfl, rfl, rfl, rfl, rfl, rfl, rfl, rfl, rfl, rfl, rfl, trivial⟩ (cs := [.int .i64 59, .int .i64 0, .int .i64 (-1), .int .i64 (-307), .int .i64 (-3653), .int .i64 (-5000), .int .i64 365, .int .i64 1520]) (by kernel_rfl) rfl ?_; clear S; intro a w8 b4 hz3 hk5 S
          obtain ⟨r3, hr4, h⟩ := bindE h
          refine l_enter1 3 S (b := b_p_s) rfl rfl (fun _ => .blk b_p_s [v_p_s_L, .int .i64 r3.2] 25) (fun _ => run_call (vs := [.pointer (some ⟨b_p_s, 0, none⟩), .slice (some ⟨b4, 0, none⟩) 8 8]) ⟨(S.tm rfl), (S.tm rfl), trivial⟩ Tryd.call7) (Stream_Pick_ok _ b_p_s v_p_s_L p_s_L (hs_p_s_L.mono (S.le_arg (fp_sub (i := 3) (e := .blk b_p_s [v_p_s_L, .int .i64 r2.2] 25) rfl))) r2.2 (S.holds _ (List.mem_of_getElem? (i := 3) rfl)) (.slice (some ⟨b4, 0, none⟩) 8 8) [59, 0, (-1), (-307), (-3653), (-5000), 365, 1520] (lit_slcT enc_int S (i := 0) rfl rfl rfl rfl ((ne_fp (i := 3) (j := 0) (e := .blk b_p_s [v_p_s_L, .int .i64 r2.2] 25) (e' := .blk b4 [.int .i64 59, .int .i64 0, .int .i64 (-1), .int .i64 (-307), .int .i64 (-3653), .int .i64 (-5000), .int .i64 365, .int .i64 1520] 3) S rfl rfl rfl) _ rfl)) _ hr4) rfl (fun _ _ _ h => ⟨h.1, fun _ hc => by cases hc; rfl⟩) ?_; clear S; intro v5 a w9 hv3 hk6 hn3 S
          replace hv3 := hv3.2
          subst hv3
          refine lv S (rn_bld bt_43 (pv := [(0, .string y1), (1, .int .i64 r2.1), (2, .int .i64 r3.1)]) ⟨rfl, (S.tm rfl), rfl, (S.tm rfl), rfl, (S.tm rfl), trivial⟩ (cs := [.string y1, .int .i64 r2.1, .int .i64 r3.1]) (by kernel_rfl)) rfl ?_; clear S; intro a S
          refine l_buildSlice S Tryd.underlying30 Tryd.sizeOf43 Tryd.zeroValue43 rfl rfl (pv := [(0, .agg #[.string y1, .int .i64 r2.1, .int .i64 r3.1])]) ⟨rfl, (S.tm rfl), trivial⟩ (cs := [.string y1, .int .i64 r2.1, .int .i64 r3.1]) (by kernel_rfl) rfl ?_; clear S; intro a w10 b5 hz4 hk7 S
          obtain ⟨hc1, h⟩ := chkE h
          refine l_appendT sl_30 GSwimmer.enc_ok S (S.tm rfl) (i := 3) rfl (S.tm rfl) (j := 0) rfl (ys := [(GSwimmer.mk y1 r2.1 r3.1)]) rfl rfl rfl rfl (by have := room_lt hc1; omega) rfl ?_; clear S; intro v6 a w11 hk8 S
          refine lv S (rn_assign (S.tm rfl)) rfl ?_; clear S; intro a S
          refine l_done ?_
          replace S := S.nf (L' := [.own v6 43 3 (x1 ++ [(GSwimmer.mk y1 r2.1 r3.1)]).length ((x1 ++ [(GSwimmer.mk y1 r2.1 r3.1)]).flatMap GSwimmer.enc), .blk b_p_s [v_p_s_L, .int .i64 r3.2] 25]) (K' := [(0, .pointer (some ⟨b_p_s, 0, none⟩)), (3, v6), (6, (.slice (some ⟨b1, 0, none⟩) 6 6)), (7, .int .i64 (([k_ann, k_bea, k_cid, k_dan, k_eve, k_fox] : List ByteArray).length : Int)), (8, .int .i64 (i1 : Int))]) [false, false, false, true, true] rfl ⟨rfl, rfl, rfl, rfl, rfl, trivial⟩
          refine blk_n ?_
          refine then_n ?_
          exact ⟨(x1 ++ [(GSwimmer.mk y1 r2.1 r3.1)]), r3.2, v6, h, S.nf [true, true] rfl ⟨rfl, rfl, rfl, rfl, rfl, trivial⟩⟩
      clear S h; rintro a w4 ⟨x3, x4, v2, h, S⟩; rw [hj2] at h; clear hj2 j2
      refine then_n ?_
      refine f_region ?_
      refine lv S (rn_add (S.tm rfl) rfl) rfl ?_; clear S; intro a S
      refine lv S (rn_move (S.tm rfl)) rfl ?_; clear S; intro a S
      refine l_done ?_
      replace S := S.nf (L' := [.own v2 43 3 x3.length (x3.flatMap GSwimmer.enc), .blk b_p_s [v_p_s_L, .int .i64 x4] 25]) (K' := [(0, .pointer (some ⟨b_p_s, 0, none⟩)), (3, v2), (6, (.slice (some ⟨b1, 0, none⟩) 6 6)), (7, .int .i64 (([k_ann, k_bea, k_cid, k_dan, k_eve, k_fox] : List ByteArray).length : Int)), (8, .int .i64 (W ((i1 : Int) + 1)))]) [true, true] rfl ⟨rfl, rfl, rfl, rfl, rfl, trivial⟩
      refine then_n ?_
      exact ⟨ys1, ⟨i1 + 1, x3, x4, v2, ⟨_, (hd1).trans (List.append_cons _ _ _), by simp [hi1]⟩, h, S.nf [true, true] rfl ⟨rfl, rfl, rfl, rfl, (congrArg (fun z => some (Value.int .i64 z)) (rng_next hd1 hi1 (slc_max (ownV_slcT enc_str hs1)))), trivial⟩⟩, Nat.lt_succ_self _⟩
  clear S h; rintro a w3 ⟨x1, x2, v1, h, S⟩; rw [hj1] at h; clear hj1 j1
  refine then_n ?_
  refine f_seq ?_
  refine f_region ?_
  refine lv S (rn_move (S.tm rfl)) rfl ?_; clear S; intro a S
  refine lv S (rn_assign (S.tm rfl)) rfl ?_; clear S; intro a S
  refine l_done ?_
  replace S := S.nf (L' := [.own v1 43 3 x1.length (x1.flatMap GSwimmer.enc), .blk b_p_s [v_p_s_L, .int .i64 x2] 25]) (K' := [(2, v1)]) [true, true] rfl ⟨rfl, trivial⟩
  refine then_n ?_
  refine wp_ret ?_
  obtain rfl := Option.some.inj h
  exact f_ret S Tryd.results22 rfl ⟨(S.holds _ (List.mem_of_getElem? (i := 1) rfl)), (own_retX S (i := 0) rfl (fun c hc hh => not_fps S (i := 1) rfl rfl (j := 0) rfl rfl (by simp at hc; subst hc; exact hh)))⟩
theorem Stream_Some_ok (w : World) (b_p_s : Nat) (v_p_s_L : Value) (p_s_L : List Int) (hs_p_s_L : Slc (view w [b_p_s]) 1 v_p_s_L (p_s_L.map eInt)) (p_s_at : Int) (hb_b_p_s : (LEnt.blk b_p_s [v_p_s_L, .int .i64 p_s_at] 25).holds w) (v_p_l : Value) (p_l : List ByteArray) (hs_p_l : Slc (view w [b_p_s]) 1 v_p_l (p_l.map eStr)) (r : ByteArray × Int) (h : Stream_Some p_s_L p_s_at p_l = some r) :
    Calls Tryd.prog 24 [.pointer (some ⟨b_p_s, 0, none⟩), v_p_l].toArray w (Ret w [b_p_s] fun τ v w' => (LEnt.blk b_p_s [v_p_s_L, .int .i64 r.2] 25).holds w' ∧ v = .string r.1) := by
  refine f_enter [b_p_s] [.blk b_p_s [v_p_s_L, .int .i64 p_s_at] 25] Tryd.func24 rfl Tryd.ntmps24 rfl (fun e he => by simp only [List.mem_singleton] at he; subst he; exact hb_b_p_s) (by simp [fps, LEnt.fp]) (by simp [fps, LEnt.fp]) fun a S => ?_
  unfold Stream_Some at h
  replace S := S.nf (L' := [.blk b_p_s [v_p_s_L, .int .i64 p_s_at] 25]) (K' := [(0, .pointer (some ⟨b_p_s, 0, none⟩)), (1, v_p_l)]) [true] rfl ⟨rfl, rfl, trivial⟩
  refine f_seq ?_
  refine f_region ?_
  refine lv S (rn_assign rfl) rfl ?_; clear S; intro a S
  refine l_done ?_
  replace S := S.nf (L' := [.blk b_p_s [v_p_s_L, .int .i64 p_s_at] 25]) (K' := [(0, .pointer (some ⟨b_p_s, 0, none⟩)), (1, v_p_l)]) [true] rfl ⟨rfl, rfl, trivial⟩
  refine then_n ?_
  refine f_seq ?_
  refine f_region ?_
  refine lv S (rn_move (S.tm rfl)) rfl ?_; clear S; intro a S
  refine lv S (rn_move (S.tm rfl)) rfl ?_; clear S; intro a S
  refine lv S (rn_move (S.tm rfl)) rfl ?_; clear S; intro a S
  refine lv S (rn_lenT sl_57 (S.tm rfl) (slc_len hs_p_l)) rfl ?_; clear S; intro a S
  obtain ⟨r1, hr1, h⟩ := bindE h
  refine l_enter1 0 S (b := b_p_s) rfl rfl (fun _ => .blk b_p_s [v_p_s_L, .int .i64 r1.2] 25) (fun _ => run_call (vs := [.pointer (some ⟨b_p_s, 0, none⟩), .int .i64 (p_l.length : Int)]) ⟨(S.tm rfl), (S.tm rfl), trivial⟩ Tryd.call16) (Stream_Next_ok _ b_p_s v_p_s_L p_s_L (hs_p_s_L.mono (S.le_arg (fp_sub (i := 0) (e := .blk b_p_s [v_p_s_L, .int .i64 p_s_at] 25) rfl))) p_s_at (S.holds _ (List.mem_of_getElem? (i := 0) rfl)) (p_l.length : Int) _ hr1) rfl (fun _ _ _ h => ⟨h.1, fun _ hc => by cases hc; rfl⟩) ?_; clear S; intro v1 a w1 hv1 hk1 hn1 S
  replace hv1 := hv1.2
  subst hv1
  obtain ⟨hc1, h⟩ := chkE h
  obtain ⟨b1, o1, hm1, hr2⟩ := rn_indexT (a := a) (x := .tmp 5) (y := .tmp 9) (ty := 0) sl_57 hs_p_l (inB_get hc1).1 (inB_get hc1).2 (S.tm rfl) (S.tm rfl)
  refine lv S (hr2 _) rfl ?_; clear S; intro a S
  clear hr2
  refine lv S (rn_ld Tryd.isAgg9 (off := o1) (o := 0) (S.tm rfl) (hm1.at S.emb0) rfl) rfl ?_; clear S; intro a S
  refine lv S (rn_assign (S.tm rfl)) rfl ?_; clear S; intro a S
  refine l_done ?_
  replace S := S.nf (L' := [.blk b_p_s [v_p_s_L, .int .i64 r1.2] 25]) (K' := [(4, .string (nth p_l r1.1))]) [true] rfl ⟨rfl, trivial⟩
  refine then_n ?_
  refine wp_ret ?_
  obtain rfl := Option.some.inj h
  exact f_ret S Tryd.results24 rfl ⟨(S.holds _ (List.mem_of_getElem? (i := 0) rfl)), rfl⟩
theorem Stream_Odd_ok (w : World) (b_p_s : Nat) (v_p_s_L : Value) (p_s_L : List Int) (hs_p_s_L : Slc (view w [b_p_s]) 1 v_p_s_L (p_s_L.map eInt)) (p_s_at : Int) (hb_b_p_s : (LEnt.blk b_p_s [v_p_s_L, .int .i64 p_s_at] 25).holds w) (p_low : Int) (p_high : Int) (r : Int × Int) (h : Stream_Odd p_s_L p_s_at p_low p_high = some r) :
    Calls Tryd.prog 25 [.pointer (some ⟨b_p_s, 0, none⟩), .int .i64 p_low, .int .i64 p_high].toArray w (Ret w [b_p_s] fun τ v w' => (LEnt.blk b_p_s [v_p_s_L, .int .i64 r.2] 25).holds w' ∧ v = .int .i64 r.1) := by
  refine f_enter [b_p_s] [.blk b_p_s [v_p_s_L, .int .i64 p_s_at] 25] Tryd.func25 rfl Tryd.ntmps25 rfl (fun e he => by simp only [List.mem_singleton] at he; subst he; exact hb_b_p_s) (by simp [fps, LEnt.fp]) (by simp [fps, LEnt.fp]) fun a S => ?_
  unfold Stream_Odd at h
  replace S := S.nf (L' := [.blk b_p_s [v_p_s_L, .int .i64 p_s_at] 25]) (K' := [(0, .pointer (some ⟨b_p_s, 0, none⟩)), (1, .int .i64 p_low), (2, .int .i64 p_high)]) [true] rfl ⟨rfl, rfl, rfl, trivial⟩
  refine f_seq ?_
  refine f_region ?_
  refine lv S (rn_assign rfl) rfl ?_; clear S; intro a S
  refine l_done ?_
  replace S := S.nf (L' := [.blk b_p_s [v_p_s_L, .int .i64 p_s_at] 25]) (K' := [(0, .pointer (some ⟨b_p_s, 0, none⟩)), (1, .int .i64 p_low), (2, .int .i64 p_high)]) [true] rfl ⟨rfl, rfl, rfl, trivial⟩
  refine then_n ?_
  refine f_seq ?_
  refine f_seq ?_
  refine f_region ?_
  refine lv S (rn_move (S.tm rfl)) rfl ?_; clear S; intro a S
  obtain ⟨r1, hr1, h⟩ := bindE h
  refine l_enter1 0 S (b := b_p_s) rfl rfl (fun _ => .blk b_p_s [v_p_s_L, .int .i64 r1.2] 25) (fun _ => run_call (vs := [.pointer (some ⟨b_p_s, 0, none⟩), .int .i64 12]) ⟨(S.tm rfl), rfl, trivial⟩ Tryd.call23) (Stream_Flip_ok _ b_p_s v_p_s_L p_s_L (hs_p_s_L.mono (S.le_arg (fp_sub (i := 0) (e := .blk b_p_s [v_p_s_L, .int .i64 p_s_at] 25) rfl))) p_s_at (S.holds _ (List.mem_of_getElem? (i := 0) rfl)) 12 _ hr1) rfl (fun _ _ _ h => ⟨h.1, fun _ hc => by cases hc; rfl⟩) ?_; clear S; intro v1 a w1 hv1 hk1 hn1 S
  replace hv1 := hv1.2
  subst hv1
  refine l_done ?_
  replace S := S.nf (L' := [.blk b_p_s [v_p_s_L, .int .i64 r1.2] 25]) (K' := [(0, .pointer (some ⟨b_p_s, 0, none⟩)), (1, .int .i64 p_low), (2, .int .i64 p_high), (8, .bool r1.1)]) [true] rfl ⟨rfl, rfl, rfl, rfl, trivial⟩
  refine then_n ?_
  refine f_cond (S.tm rfl) (fun hb1 => ?_) (fun hb1 => ?_)
  · replace h := iteT h hb1
    refine f_seq ?_
    refine f_region ?_
    refine lv S (rn_move (S.tm rfl)) rfl ?_; clear S; intro a S
    refine lv S (rn_move (S.tm rfl)) rfl ?_; clear S; intro a S
    refine lv S (rn_sub (S.tm rfl) rfl) rfl ?_; clear S; intro a S
    refine lv S (rn_move (S.tm rfl)) rfl ?_; clear S; intro a S
    refine lv S (rn_add (S.tm rfl) rfl) rfl ?_; clear S; intro a S
    refine lv S (rn_move (S.tm rfl)) rfl ?_; clear S; intro a S
    refine lv S (rn_move (S.tm rfl)) rfl ?_; clear S; intro a S
    refine l_buildSlice S Tryd.underlying22 Tryd.sizeOf3 Tryd.zeroValue3 rfl rfl (pv := [(0, .int .i64 (W (p_low - 1))), (1, .int .i64 (W (p_high + 1))), (2, .int .i64 p_low), (3, .int .i64 p_high), (4, .int .i64 (-1099511627776)), (5, .int .i64 1099511627776)]) ⟨rfl, (S.tm rfl), rfl, (S.tm rfl), rfl, (S.tm rfl), rfl, (S.tm rfl), rfl, rfl, rfl, rfl, trivial⟩ (cs := [.int .i64 (W (p_low - 1)), .int .i64 (W (p_high + 1)), .int .i64 p_low, .int .i64 p_high, .int .i64 (-1099511627776), .int .i64 1099511627776]) (by kernel_rfl) rfl ?_; clear S; intro a w2 b1 hz1 hk2 S
    obtain ⟨r2, hr2, h⟩ := bindE h
    refine l_enter1 1 S (b := b_p_s) rfl rfl (fun _ => .blk b_p_s [v_p_s_L, .int .i64 r2.2] 25) (fun _ => run_call (vs := [.pointer (some ⟨b_p_s, 0, none⟩), .slice (some ⟨b1, 0, none⟩) 6 6]) ⟨(S.tm rfl), (S.tm rfl), trivial⟩ Tryd.call7) (Stream_Pick_ok _ b_p_s v_p_s_L p_s_L (hs_p_s_L.mono (S.le_arg (fp_sub (i := 1) (e := .blk b_p_s [v_p_s_L, .int .i64 r1.2] 25) rfl))) r1.2 (S.holds _ (List.mem_of_getElem? (i := 1) rfl)) (.slice (some ⟨b1, 0, none⟩) 6 6) [W (p_low - 1), W (p_high + 1), p_low, p_high, (-1099511627776), 1099511627776] (lit_slcT enc_int S (i := 0) rfl rfl rfl rfl ((ne_fp (i := 1) (j := 0) (e := .blk b_p_s [v_p_s_L, .int .i64 r1.2] 25) (e' := .blk b1 [.int .i64 (W (p_low - 1)), .int .i64 (W (p_high + 1)), .int .i64 p_low, .int .i64 p_high, .int .i64 (-1099511627776), .int .i64 1099511627776] 3) S rfl rfl rfl) _ rfl)) _ hr2) rfl (fun _ _ _ h => ⟨h.1, fun _ hc => by cases hc; rfl⟩) ?_; clear S; intro v2 a w3 hv2 hk3 hn2 S
    replace hv2 := hv2.2
    subst hv2
    refine lv S (rn_assign (S.tm rfl)) rfl ?_; clear S; intro a S
    refine l_done ?_
    replace S := S.nf (L' := [.blk b_p_s [v_p_s_L, .int .i64 r2.2] 25]) (K' := [(6, .int .i64 r2.1)]) [false, true] rfl ⟨rfl, trivial⟩
    refine then_n ?_
    refine wp_ret ?_
    refine then_r ?_
    obtain rfl := Option.some.inj h
    exact f_ret S Tryd.results25 rfl ⟨(S.holds _ (List.mem_of_getElem? (i := 0) rfl)), rfl⟩
  · replace h := iteF h hb1
    refine wp_skip ?_
    refine then_n ?_
    refine f_seq ?_
    refine f_region ?_
    refine lv S (rn_move (S.tm rfl)) rfl ?_; clear S; intro a S
    refine lv S (rn_move (S.tm rfl)) rfl ?_; clear S; intro a S
    refine lv S (rn_move (S.tm rfl)) rfl ?_; clear S; intro a S
    obtain ⟨r3, hr3, h⟩ := bindE h
    refine l_enter1 0 S (b := b_p_s) rfl rfl (fun _ => .blk b_p_s [v_p_s_L, .int .i64 r3.2] 25) (fun _ => run_call (vs := [.pointer (some ⟨b_p_s, 0, none⟩), .int .i64 p_low, .int .i64 p_high]) ⟨(S.tm rfl), (S.tm rfl), (S.tm rfl), trivial⟩ Tryd.call4) (Stream_Range_ok _ b_p_s v_p_s_L p_s_L (hs_p_s_L.mono (S.le_arg (fp_sub (i := 0) (e := .blk b_p_s [v_p_s_L, .int .i64 r1.2] 25) rfl))) r1.2 (S.holds _ (List.mem_of_getElem? (i := 0) rfl)) p_low p_high _ hr3) rfl (fun _ _ _ h => ⟨h.1, fun _ hc => by cases hc; rfl⟩) ?_; clear S; intro v3 a w4 hv3 hk4 hn3 S
    replace hv3 := hv3.2
    subst hv3
    refine lv S (rn_assign (S.tm rfl)) rfl ?_; clear S; intro a S
    refine l_done ?_
    replace S := S.nf (L' := [.blk b_p_s [v_p_s_L, .int .i64 r3.2] 25]) (K' := [(6, .int .i64 r3.1)]) [true] rfl ⟨rfl, trivial⟩
    refine then_n ?_
    refine wp_ret ?_
    obtain rfl := Option.some.inj h
    exact f_ret S Tryd.results25 rfl ⟨(S.holds _ (List.mem_of_getElem? (i := 0) rfl)), rfl⟩
theorem Stream_Swimmers_ok (w : World) (b_p_s : Nat) (v_p_s_L : Value) (p_s_L : List Int) (hs_p_s_L : Slc (view w [b_p_s]) 1 v_p_s_L (p_s_L.map eInt)) (p_s_at : Int) (hb_b_p_s : (LEnt.blk b_p_s [v_p_s_L, .int .i64 p_s_at] 25).holds w) (r : (List GSwimmer) × Int) (h : Stream_Swimmers p_s_L p_s_at = some r) :
    Calls Tryd.prog 6 [.pointer (some ⟨b_p_s, 0, none⟩)].toArray w (Ret w [b_p_s] fun τ v w' => (LEnt.blk b_p_s [v_p_s_L, .int .i64 r.2] 25).holds w' ∧ OwnV τ 43 3 v r.1.length (r.1.flatMap GSwimmer.enc)) := by
  refine f_enter [b_p_s] [.blk b_p_s [v_p_s_L, .int .i64 p_s_at] 25] Tryd.func6 rfl Tryd.ntmps6 rfl (fun e he => by simp only [List.mem_singleton] at he; subst he; exact hb_b_p_s) (by simp [fps, LEnt.fp]) (by simp [fps, LEnt.fp]) fun a S => ?_
  unfold Stream_Swimmers at h
  replace S := S.nf (L' := [.blk b_p_s [v_p_s_L, .int .i64 p_s_at] 25]) (K' := [(0, .pointer (some ⟨b_p_s, 0, none⟩))]) [true] rfl ⟨rfl, trivial⟩
  refine f_seq ?_
  refine f_region ?_
  refine lv S (rn_assign rfl) rfl ?_; clear S; intro a S
  refine l_done ?_
  replace S := S.nf (L' := [.blk b_p_s [v_p_s_L, .int .i64 p_s_at] 25]) (K' := [(0, .pointer (some ⟨b_p_s, 0, none⟩))]) [true] rfl ⟨rfl, trivial⟩
  refine then_n ?_
  refine f_seq ?_
  refine f_region ?_
  refine lv S (rn_move (S.tm rfl)) rfl ?_; clear S; intro a S
  obtain ⟨r1, hr1, h⟩ := bindE h
  have hz1 := S.keep.size
  refine l_enter1 0 S (b := b_p_s) rfl rfl (fun _ => .blk b_p_s [v_p_s_L, .int .i64 r1.2] 25) (fun _ => run_call (vs := [.pointer (some ⟨b_p_s, 0, none⟩)]) ⟨(S.tm rfl), trivial⟩ Tryd.call22) (Stream_RightSwimmers_ok _ b_p_s v_p_s_L p_s_L (hs_p_s_L.mono (S.le_arg (fp_sub (i := 0) (e := .blk b_p_s [v_p_s_L, .int .i64 p_s_at] 25) rfl))) p_s_at (S.holds _ (List.mem_of_getElem? (i := 0) rfl)) _ hr1) rfl (fun _ _ _ h => ⟨h.1, fun _ hc => by cases hc; rfl⟩) ?_; clear S; intro v1 a w1 hv1 hk1 hn1 S
  replace hv1 := hv1.2
  replace S := S.take hn1 hz1 hv1
  refine lv S (rn_assign (S.tm rfl)) rfl ?_; clear S; intro a S
  refine l_done ?_
  replace S := S.nf (L' := [.own v1 43 3 r1.1.length (r1.1.flatMap GSwimmer.enc), .blk b_p_s [v_p_s_L, .int .i64 r1.2] 25]) (K' := [(0, .pointer (some ⟨b_p_s, 0, none⟩)), (3, v1)]) [true, true] rfl ⟨rfl, rfl, trivial⟩
  refine then_n ?_
  refine f_seq ?_
  refine f_seq ?_
  refine f_region ?_
  refine lv S (rn_move (S.tm rfl)) rfl ?_; clear S; intro a S
  refine lv S (rn_lenT sl_30 (S.tm rfl) (own_len (S.own_at (i := 0) rfl))) rfl ?_; clear S; intro a S
  refine lv S (rn_gtr (S.tm rfl) rfl) rfl ?_; clear S; intro a S
  refine lv S (rn_move (S.tm rfl)) rfl ?_; clear S; intro a S
  obtain ⟨j1, hj1, h⟩ := joinE h
  refine f_cutm 3 (fun a w' => ∃ x1 : Int, ∃ x2 : Bool, j1 x1 x2 = some r ∧ Sx w [b_p_s] nov [.own v1 43 3 r1.1.length (r1.1.flatMap GSwimmer.enc), .blk b_p_s [v_p_s_L, .int .i64 x1] 25] [(0, .pointer (some ⟨b_p_s, 0, none⟩)), (3, v1), (13, .bool x2)] 42 a w') ?_ ?_
  · rcases Bool.eq_false_or_eq_true (decide (0 < (r1.1.length : Int))) with hb1 | hb1
    · replace h := iteT h hb1
      refine l_want S rfl rfl rfl hb1 ?_
      refine lv S (rn_move (S.tm rfl)) rfl ?_; clear S; intro a S
      refine l_want S rfl rfl rfl hb1 ?_
      obtain ⟨r2, hr2, h⟩ := bindE h
      refine l_enter1 1 S (b := b_p_s) rfl rfl (fun _ => .blk b_p_s [v_p_s_L, .int .i64 r2.2] 25) (fun _ => run_call (vs := [.pointer (some ⟨b_p_s, 0, none⟩), .int .i64 12]) ⟨(S.tm rfl), rfl, trivial⟩ Tryd.call23) (Stream_Flip_ok _ b_p_s v_p_s_L p_s_L (hs_p_s_L.mono (S.le_arg (fp_sub (i := 1) (e := .blk b_p_s [v_p_s_L, .int .i64 r1.2] 25) rfl))) r1.2 (S.holds _ (List.mem_of_getElem? (i := 1) rfl)) 12 _ hr2) rfl (fun _ _ _ h => ⟨h.1, fun _ hc => by cases hc; rfl⟩) ?_; clear S; intro v2 a w3 hv2 hk2 hn2 S
      replace hv2 := hv2.2
      subst hv2
      refine lv S (rn_pick_b hb1 (S.tm rfl) (S.tm rfl)) rfl ?_; clear S; intro a S
      refine l_done ?_
      refine then_n ?_
      exact ⟨r2.2, r2.1, h, S.nf [true, true] rfl ⟨rfl, rfl, rfl, trivial⟩⟩
    · replace h := iteF h hb1
      refine l_skip S rfl rfl rfl (by rw [hb1]; rfl) rfl ?_ rfl; clear S; intro a S
      refine l_skip S rfl rfl rfl (by rw [hb1]; rfl) rfl ?_ rfl; clear S; intro a S
      refine lv S (rn_pick_c hb1 (S.tm rfl) rfl) rfl ?_; clear S; intro a S
      refine l_done ?_
      refine then_n ?_
      exact ⟨r1.2, false, h, S.nf [true, true] rfl ⟨rfl, rfl, rfl, trivial⟩⟩
  clear S h; rintro a w2 ⟨x1, x2, h, S⟩; rw [hj1] at h; clear hj1 j1
  refine l_done ?_
  replace S := S.nf (L' := [.own v1 43 3 r1.1.length (r1.1.flatMap GSwimmer.enc), .blk b_p_s [v_p_s_L, .int .i64 x1] 25]) (K' := [(0, .pointer (some ⟨b_p_s, 0, none⟩)), (3, v1), (13, .bool x2)]) [true, true] rfl ⟨rfl, rfl, rfl, trivial⟩
  refine then_n ?_
  obtain ⟨j2, hj2, h⟩ := joinE h
  refine f_join (fun a w' => ∃ x3 : List GSwimmer, ∃ x4 : Int, ∃ v3 : Value, j2 x3 x4 = some r ∧ Sx w [b_p_s] nov [.own v3 43 3 x3.length (x3.flatMap GSwimmer.enc), .blk b_p_s [v_p_s_L, .int .i64 x4] 25] [(3, v3)] 42 a w') ?_ ?_
  · refine f_cond (S.tm rfl) (fun hb2 => ?_) (fun hb2 => ?_)
    · replace h := iteT h hb2
      refine f_seq ?_
      refine f_region ?_
      refine lv S (rn_move (S.tm rfl)) rfl ?_; clear S; intro a S
      refine lv S (rn_move (S.tm rfl)) rfl ?_; clear S; intro a S
      refine lv S (rn_move (S.tm rfl)) rfl ?_; clear S; intro a S
      refine lv S (rn_lenT sl_30 (S.tm rfl) (own_len (S.own_at (i := 0) rfl))) rfl ?_; clear S; intro a S
      obtain ⟨r3, hr3, h⟩ := bindE h
      refine l_enter1 1 S (b := b_p_s) rfl rfl (fun _ => .blk b_p_s [v_p_s_L, .int .i64 r3.2] 25) (fun _ => run_call (vs := [.pointer (some ⟨b_p_s, 0, none⟩), .int .i64 (r1.1.length : Int)]) ⟨(S.tm rfl), (S.tm rfl), trivial⟩ Tryd.call16) (Stream_Next_ok _ b_p_s v_p_s_L p_s_L (hs_p_s_L.mono (S.le_arg (fp_sub (i := 1) (e := .blk b_p_s [v_p_s_L, .int .i64 x1] 25) rfl))) x1 (S.holds _ (List.mem_of_getElem? (i := 1) rfl)) (r1.1.length : Int) _ hr3) rfl (fun _ _ _ h => ⟨h.1, fun _ hc => by cases hc; rfl⟩) ?_; clear S; intro v4 a w5 hv3 hk3 hn3 S
      replace hv3 := hv3.2
      subst hv3
      obtain ⟨hc1, h⟩ := chkE h
      obtain ⟨b1, hg1, hr4⟩ := rn_indexS (a := a) (x := .tmp 14) (y := .tmp 18) (ty := 0) sl_30 GSwimmer.enc_ok S (i := 0) rfl (inB_get hc1).1 (inB_get hc1).2 (S.tm rfl) (S.tm rfl)
      refine lv S (hr4 _) rfl ?_; clear S; intro a S
      clear hr4
      refine lv S (rn_assign (S.tm rfl)) rfl ?_; clear S; intro a S
      refine l_done ?_
      replace S := S.nf (L' := [.own v1 43 3 r1.1.length (r1.1.flatMap GSwimmer.enc), .blk b_p_s [v_p_s_L, .int .i64 r3.2] 25]) (K' := [(0, .pointer (some ⟨b_p_s, 0, none⟩)), (3, v1), (4, .pointer (some ⟨b1, r3.1.toNat * 3, none⟩))]) [true, true] rfl ⟨rfl, rfl, rfl, trivial⟩
      refine then_n ?_
      refine f_region ?_
      refine lv S (rn_move (S.tm rfl)) rfl ?_; clear S; intro a S
      refine lv S (rn_move (S.tm rfl)) rfl ?_; clear S; intro a S
      refine lv S (rn_move (S.tm rfl)) rfl ?_; clear S; intro a S
      refine lv S (rn_move (S.tm rfl)) rfl ?_; clear S; intro a S
      refine lv S (rn_move (S.tm rfl)) rfl ?_; clear S; intro a S
      refine lv S (rn_nilCheck (S.tm rfl)) rfl ?_; clear S; intro a S
      refine lv S (rn_fld fa_43_0 (S.tm rfl)) rfl ?_; clear S; intro a S
      refine lv S (rn_ld Tryd.isAgg9 (off := r3.1.toNat * 3) (o := 0) (S.tm rfl) (own_cells GSwimmer.enc_ok S (i := 0) rfl hg1 (inB_get hc1).1) rfl) rfl ?_; clear S; intro a S
      refine l_buildSlice S Tryd.underlying57 Tryd.sizeOf9 Tryd.zeroValue9 rfl rfl (pv := [(0, .string ((nth r1.1 r3.1).Key)), (1, .string k_empty), (2, .string k_ann)]) ⟨rfl, (S.tm rfl), rfl, rfl, rfl, rfl, trivial⟩ (cs := [.string ((nth r1.1 r3.1).Key), .string k_empty, .string k_ann]) (by kernel_rfl) rfl ?_; clear S; intro a w6 b2 hz2 hk4 S
      obtain ⟨r4, hr5, h⟩ := bindE h
      refine l_enter1 2 S (b := b_p_s) rfl rfl (fun _ => .blk b_p_s [v_p_s_L, .int .i64 r4.2] 25) (fun _ => run_call (vs := [.pointer (some ⟨b_p_s, 0, none⟩), .slice (some ⟨b2, 0, none⟩) 3 3]) ⟨(S.tm rfl), (S.tm rfl), trivial⟩ Tryd.call24) (Stream_Some_ok _ b_p_s v_p_s_L p_s_L (hs_p_s_L.mono (S.le_arg (fp_sub (i := 2) (e := .blk b_p_s [v_p_s_L, .int .i64 r3.2] 25) rfl))) r3.2 (S.holds _ (List.mem_of_getElem? (i := 2) rfl)) (.slice (some ⟨b2, 0, none⟩) 3 3) [(nth r1.1 r3.1).Key, k_empty, k_ann] (lit_slcT enc_str S (i := 0) rfl rfl rfl rfl ((ne_fp (i := 2) (j := 0) (e := .blk b_p_s [v_p_s_L, .int .i64 r3.2] 25) (e' := .blk b2 [.string ((nth r1.1 r3.1).Key), .string k_empty, .string k_ann] 9) S rfl rfl rfl) _ rfl)) _ hr5) rfl (fun _ _ _ h => ⟨h.1, fun _ hc => by cases hc; rfl⟩) ?_; clear S; intro v5 a w7 hv4 hk5 hn4 S
      replace hv4 := hv4.2
      subst hv4
      refine lv S (rn_move (S.tm rfl)) rfl ?_; clear S; intro a S
      refine l_buildSlice S Tryd.underlying22 Tryd.sizeOf3 Tryd.zeroValue3 rfl rfl (pv := [(0, .int .i64 0), (1, .int .i64 1), (2, .int .i64 2), (3, .int .i64 3)]) ⟨rfl, rfl, rfl, rfl, rfl, rfl, rfl, rfl, trivial⟩ (cs := [.int .i64 0, .int .i64 1, .int .i64 2, .int .i64 3]) (by kernel_rfl) rfl ?_; clear S; intro a w8 b3 hz3 hk6 S
      obtain ⟨r5, hr6, h⟩ := bindE h
      refine l_enter1 3 S (b := b_p_s) rfl rfl (fun _ => .blk b_p_s [v_p_s_L, .int .i64 r5.2] 25) (fun _ => run_call (vs := [.pointer (some ⟨b_p_s, 0, none⟩), .slice (some ⟨b3, 0, none⟩) 4 4]) ⟨(S.tm rfl), (S.tm rfl), trivial⟩ Tryd.call7) (Stream_Pick_ok _ b_p_s v_p_s_L p_s_L (hs_p_s_L.mono (S.le_arg (fp_sub (i := 3) (e := .blk b_p_s [v_p_s_L, .int .i64 r4.2] 25) rfl))) r4.2 (S.holds _ (List.mem_of_getElem? (i := 3) rfl)) (.slice (some ⟨b3, 0, none⟩) 4 4) [0, 1, 2, 3] (lit_slcT enc_int S (i := 0) rfl rfl rfl rfl ((ne_fp (i := 3) (j := 0) (e := .blk b_p_s [v_p_s_L, .int .i64 r4.2] 25) (e' := .blk b3 [.int .i64 0, .int .i64 1, .int .i64 2, .int .i64 3] 3) S rfl rfl rfl) _ rfl)) _ hr6) rfl (fun _ _ _ h => ⟨h.1, fun _ hc => by cases hc; rfl⟩) ?_; clear S; intro v6 a w9 hv5 hk7 hn5 S
      replace hv5 := hv5.2
      subst hv5
      refine lv S (rn_move (S.tm rfl)) rfl ?_; clear S; intro a S
      obtain ⟨r6, hr7, h⟩ := bindE h
      refine l_enter1 3 S (b := b_p_s) rfl rfl (fun _ => .blk b_p_s [v_p_s_L, .int .i64 r6.2] 25) (fun _ => run_call (vs := [.pointer (some ⟨b_p_s, 0, none⟩), .int .i64 (-40000), .int .i64 4000]) ⟨(S.tm rfl), rfl, rfl, trivial⟩ Tryd.call25) (Stream_Odd_ok _ b_p_s v_p_s_L p_s_L (hs_p_s_L.mono (S.le_arg (fp_sub (i := 3) (e := .blk b_p_s [v_p_s_L, .int .i64 r5.2] 25) rfl))) r5.2 (S.holds _ (List.mem_of_getElem? (i := 3) rfl)) (-40000) 4000 _ hr7) rfl (fun _ _ _ h => ⟨h.1, fun _ hc => by cases hc; rfl⟩) ?_; clear S; intro v7 a w10 hv6 hk8 hn6 S
      replace hv6 := hv6.2
      subst hv6
      refine lv S (rn_nilCheck (S.tm rfl)) rfl ?_; clear S; intro a S
      refine lv S (rn_fld fa_43_0 (S.tm rfl)) rfl ?_; clear S; intro a S
      refine l_storeO (c := 0) (j := r3.1.toNat) (GSwimmer.mk r4.1 ((nth r1.1 r3.1).Sex) ((nth r1.1 r3.1).Born)) GSwimmer.enc_ok S (S.tm rfl) (S.tm rfl) (i := 2) rfl hg1 (inB_get hc1).1 Tryd.sizeOf9 (vs := [.string r4.1]) rfl rfl rfl rfl rfl ?_; clear S; intro w12 hk10 S
      refine lv S (rn_nilCheck (S.tm rfl)) rfl ?_; clear S; intro a S
      refine lv S (rn_fld fa_43_1 (S.tm rfl)) rfl ?_; clear S; intro a S
      refine l_storeO (c := 1) (j := r3.1.toNat) (GSwimmer.mk r4.1 r5.1 ((nth r1.1 r3.1).Born)) GSwimmer.enc_ok S (S.tm rfl) (S.tm rfl) (i := 2) rfl hg1 (get_set (inB_get hc1).1) Tryd.sizeOf3 (vs := [.int .i64 r5.1]) rfl rfl rfl rfl rfl ?_; clear S; intro w14 hk12 S
      refine lv S (rn_nilCheck (S.tm rfl)) rfl ?_; clear S; intro a S
      refine lv S (rn_fld fa_43_2 (S.tm rfl)) rfl ?_; clear S; intro a S
      refine l_storeO (c := 2) (j := r3.1.toNat) (GSwimmer.mk r4.1 r5.1 r6.1) GSwimmer.enc_ok S (S.tm rfl) (S.tm rfl) (i := 2) rfl hg1 (get_set (get_set (inB_get hc1).1)) Tryd.sizeOf3 (vs := [.int .i64 r6.1]) rfl rfl rfl rfl rfl ?_; clear S; intro w16 hk14 S
      refine l_done ?_
      replace S := S.nf (L' := [.own v1 43 3 (((r1.1.set r3.1.toNat (GSwimmer.mk r4.1 ((nth r1.1 r3.1).Sex) ((nth r1.1 r3.1).Born))).set r3.1.toNat (GSwimmer.mk r4.1 r5.1 ((nth r1.1 r3.1).Born))).set r3.1.toNat (GSwimmer.mk r4.1 r5.1 r6.1)).length ((((r1.1.set r3.1.toNat (GSwimmer.mk r4.1 ((nth r1.1 r3.1).Sex) ((nth r1.1 r3.1).Born))).set r3.1.toNat (GSwimmer.mk r4.1 r5.1 ((nth r1.1 r3.1).Born))).set r3.1.toNat (GSwimmer.mk r4.1 r5.1 r6.1)).flatMap GSwimmer.enc), .blk b_p_s [v_p_s_L, .int .i64 r6.2] 25]) (K' := [(3, v1)]) [false, false, true, true] rfl ⟨rfl, trivial⟩
      refine then_n ?_
      exact ⟨(((r1.1.set r3.1.toNat (GSwimmer.mk r4.1 ((nth r1.1 r3.1).Sex) ((nth r1.1 r3.1).Born))).set r3.1.toNat (GSwimmer.mk r4.1 r5.1 ((nth r1.1 r3.1).Born))).set r3.1.toNat (GSwimmer.mk r4.1 r5.1 r6.1)), r6.2, v1, h, S.nf [true, true] rfl ⟨rfl, trivial⟩⟩
    · replace h := iteF h hb2
      refine wp_skip ?_
      refine then_n ?_
      exact ⟨r1.1, x1, v1, h, S.nf [true, true] rfl ⟨rfl, trivial⟩⟩
  clear S h; rintro a w4 ⟨x3, x4, v3, h, S⟩; rw [hj2] at h; clear hj2 j2
  refine then_n ?_
  refine f_seq ?_
  refine f_region ?_
  refine lv S (rn_move (S.tm rfl)) rfl ?_; clear S; intro a S
  refine lv S (rn_assign (S.tm rfl)) rfl ?_; clear S; intro a S
  refine l_done ?_
  replace S := S.nf (L' := [.own v3 43 3 x3.length (x3.flatMap GSwimmer.enc), .blk b_p_s [v_p_s_L, .int .i64 x4] 25]) (K' := [(2, v3)]) [true, true] rfl ⟨rfl, trivial⟩
  refine then_n ?_
  refine wp_ret ?_
  obtain rfl := Option.some.inj h
  exact f_ret S Tryd.results6 rfl ⟨(S.holds _ (List.mem_of_getElem? (i := 1) rfl)), (own_retX S (i := 0) rfl (fun c hc hh => not_fps S (i := 1) rfl rfl (j := 0) rfl rfl (by simp at hc; subst hc; exact hh)))⟩
theorem words_Within_ok (w : World) (p_n : Int) (p_low : Int) (p_high : Int) (r : Bool) (h : words_Within p_n p_low p_high = r) :
    Calls Tryd.prog 28 [.int .i64 p_n, .int .i64 p_low, .int .i64 p_high].toArray w (Ret w [] fun τ v w' => v = .bool r) := by
  refine f_enter [] [] Tryd.func28 rfl Tryd.ntmps28 rfl (by simp) (by simp [fps]) (by simp [fps]) fun a S => ?_
  unfold words_Within at h
  replace S := S.nf (L' := []) (K' := [(0, .int .i64 p_n), (1, .int .i64 p_low), (2, .int .i64 p_high)]) [] rfl ⟨rfl, rfl, rfl, trivial⟩
  refine f_seq ?_
  refine f_region ?_
  refine lv S (rn_assign rfl) rfl ?_; clear S; intro a S
  refine l_done ?_
  replace S := S.nf (L' := []) (K' := [(0, .int .i64 p_n), (1, .int .i64 p_low), (2, .int .i64 p_high)]) [] rfl ⟨rfl, rfl, rfl, trivial⟩
  refine then_n ?_
  refine f_seq ?_
  refine f_region ?_
  refine lv S (rn_move (S.tm rfl)) rfl ?_; clear S; intro a S
  refine lv S (rn_move (S.tm rfl)) rfl ?_; clear S; intro a S
  refine lv S (rn_geq (S.tm rfl) (S.tm rfl)) rfl ?_; clear S; intro a S
  refine lv S (rn_move (S.tm rfl)) rfl ?_; clear S; intro a S
  refine f_cutm 4 (fun a w' => Keep [] w w' ∧ Sx w [] nov [] [(14, .bool ((decide (p_low ≤ p_n)) && (decide (p_n ≤ p_high))))] 15 a w') ?_ ?_
  · rcases Bool.eq_false_or_eq_true (decide (p_low ≤ p_n)) with hb1 | hb1
    · refine l_want S rfl rfl rfl hb1 ?_
      refine lv S (rn_move (S.tm rfl)) rfl ?_; clear S; intro a S
      refine l_want S rfl rfl rfl hb1 ?_
      refine lv S (rn_move (S.tm rfl)) rfl ?_; clear S; intro a S
      refine l_want S rfl rfl rfl hb1 ?_
      refine lv S (rn_leq (S.tm rfl) (S.tm rfl)) rfl ?_; clear S; intro a S
      refine lv S (rn_and_t hb1 (S.tm rfl) (S.tm rfl)) rfl ?_; clear S; intro a S
      refine l_done ?_
      refine then_n ?_
      exact ⟨Keep.refl _ _, S.nf [] rfl ⟨rfl, trivial⟩⟩
    · refine l_skip S rfl rfl rfl (by rw [hb1]; rfl) rfl ?_ rfl; clear S; intro a S
      refine l_skip S rfl rfl rfl (by rw [hb1]; rfl) rfl ?_ rfl; clear S; intro a S
      refine l_skip S rfl rfl rfl (by rw [hb1]; rfl) rfl ?_ rfl; clear S; intro a S
      refine lv S (rn_and_f (decide (p_n ≤ p_high)) hb1 (S.tm rfl) rfl) rfl ?_; clear S; intro a S
      refine l_done ?_
      refine then_n ?_
      exact ⟨Keep.refl _ _, S.nf [] rfl ⟨rfl, trivial⟩⟩
  clear S; rintro a w1 ⟨hk1, S⟩
  refine lv S (rn_assign (S.tm rfl)) rfl ?_; clear S; intro a S
  refine l_done ?_
  replace S := S.nf (L' := []) (K' := [(6, .bool ((decide (p_low ≤ p_n)) && (decide (p_n ≤ p_high))))]) [] rfl ⟨rfl, trivial⟩
  refine then_n ?_
  refine wp_ret ?_
  subst h
  exact f_ret S Tryd.results28 rfl rfl
theorem swimmer_isDay_ok (w : World) (p_n : Int) (r : Bool) (h : swimmer_isDay p_n = r) :
    Calls Tryd.prog 26 [.int .i64 p_n].toArray w (Ret w [] fun τ v w' => v = .bool r) := by
  refine f_enter [] [] Tryd.func26 rfl Tryd.ntmps26 rfl (by simp) (by simp [fps]) (by simp [fps]) fun a S => ?_
  unfold swimmer_isDay at h
  replace S := S.nf (L' := []) (K' := [(0, .int .i64 p_n)]) [] rfl ⟨rfl, trivial⟩
  refine f_seq ?_
  refine f_region ?_
  refine lv S (rn_assign rfl) rfl ?_; clear S; intro a S
  refine l_done ?_
  replace S := S.nf (L' := []) (K' := [(0, .int .i64 p_n)]) [] rfl ⟨rfl, trivial⟩
  refine then_n ?_
  refine f_seq ?_
  refine f_region ?_
  refine lv S (rn_move (S.tm rfl)) rfl ?_; clear S; intro a S
  refine l_enter S (fun _ => run_call (vs := [.int .i64 p_n, .int .i64 (-40000), .int .i64 4000]) ⟨(S.tm rfl), rfl, rfl, trivial⟩ Tryd.call28) (words_Within_ok _ p_n (-40000) 4000 _ rfl) rfl ?_; clear S; intro v1 a w1 hv1 hk1 hn1 S
  subst hv1
  refine lv S (rn_assign (S.tm rfl)) rfl ?_; clear S; intro a S
  refine l_done ?_
  replace S := S.nf (L' := []) (K' := [(2, .bool (words_Within p_n (-40000) 4000))]) [] rfl ⟨rfl, trivial⟩
  refine then_n ?_
  refine wp_ret ?_
  subst h
  exact f_ret S Tryd.results26 rfl rfl
theorem swimmer_leap_ok (w : World) (p_year : Int) (r : Bool) (h : swimmer_leap p_year = r) :
    Calls Tryd.prog 41 [.int .i64 p_year].toArray w (Ret w [] fun τ v w' => v = .bool r) := by
  refine f_enter [] [] Tryd.func41 rfl Tryd.ntmps41 rfl (by simp) (by simp [fps]) (by simp [fps]) fun a S => ?_
  unfold swimmer_leap at h
  replace S := S.nf (L' := []) (K' := [(0, .int .i64 p_year)]) [] rfl ⟨rfl, trivial⟩
  refine f_seq ?_
  refine f_region ?_
  refine lv S (rn_assign rfl) rfl ?_; clear S; intro a S
  refine l_done ?_
  replace S := S.nf (L' := []) (K' := [(0, .int .i64 p_year)]) [] rfl ⟨rfl, trivial⟩
  refine then_n ?_
  refine f_seq ?_
  refine f_region ?_
  refine lv S (rn_move (S.tm rfl)) rfl ?_; clear S; intro a S
  refine lv S (rn_rem (S.tm rfl) rfl (by decide)) rfl ?_; clear S; intro a S
  refine lv S (rn_eql (S.tm rfl) rfl) rfl ?_; clear S; intro a S
  refine lv S (rn_move (S.tm rfl)) rfl ?_; clear S; intro a S
  refine f_cutm 9 (fun a w' => Keep [] w w' ∧ Sx w [] nov [] [(15, .bool ((decide ((Int.tmod p_year 4) = 0)) && ((!decide ((Int.tmod p_year 100) = 0)) || (decide ((Int.tmod p_year 400) = 0)))))] 16 a w') ?_ ?_
  · rcases Bool.eq_false_or_eq_true (decide ((Int.tmod p_year 4) = 0)) with hb1 | hb1
    · refine l_want S rfl rfl rfl hb1 ?_
      refine lv S (rn_move (S.tm rfl)) rfl ?_; clear S; intro a S
      refine l_want S rfl rfl rfl hb1 ?_
      refine lv S (rn_rem (S.tm rfl) rfl (by decide)) rfl ?_; clear S; intro a S
      refine l_want S rfl rfl rfl hb1 ?_
      refine lv S (rn_neq (S.tm rfl) rfl) rfl ?_; clear S; intro a S
      refine l_want S rfl rfl rfl hb1 ?_
      refine lv S (rn_move (S.tm rfl)) rfl ?_; clear S; intro a S
      refine f_cutm 4 (fun a w' => Keep [] w w' ∧ Sx w [] nov [] [(6, .bool (decide ((Int.tmod p_year 4) = 0))), (14, .bool ((!decide ((Int.tmod p_year 100) = 0)) || (decide ((Int.tmod p_year 400) = 0))))] 16 a w') ?_ ?_
      · rcases Bool.eq_false_or_eq_true (!decide ((Int.tmod p_year 100) = 0)) with hb2 | hb2
        · refine l_skip S rfl rfl rfl (by rw [hb2]; rfl) rfl ?_ rfl; clear S; intro a S
          refine l_skip S rfl rfl rfl (by rw [hb2]; rfl) rfl ?_ rfl; clear S; intro a S
          refine l_skip S rfl rfl rfl (by rw [hb2]; rfl) rfl ?_ rfl; clear S; intro a S
          refine l_want S rfl rfl rfl hb1 ?_
          refine lv S (rn_or_t (decide ((Int.tmod p_year 400) = 0)) hb2 (S.tm rfl) rfl) rfl ?_; clear S; intro a S
          refine l_done ?_
          refine then_n ?_
          exact ⟨Keep.refl _ _, S.nf [] rfl ⟨rfl, rfl, trivial⟩⟩
        · refine l_want S rfl rfl rfl hb2 ?_
          refine lv S (rn_move (S.tm rfl)) rfl ?_; clear S; intro a S
          refine l_want S rfl rfl rfl hb2 ?_
          refine lv S (rn_rem (S.tm rfl) rfl (by decide)) rfl ?_; clear S; intro a S
          refine l_want S rfl rfl rfl hb2 ?_
          refine lv S (rn_eql (S.tm rfl) rfl) rfl ?_; clear S; intro a S
          refine l_want S rfl rfl rfl hb1 ?_
          refine lv S (rn_or_f hb2 (S.tm rfl) (S.tm rfl)) rfl ?_; clear S; intro a S
          refine l_done ?_
          refine then_n ?_
          exact ⟨Keep.refl _ _, S.nf [] rfl ⟨rfl, rfl, trivial⟩⟩
      clear S; rintro a w2 ⟨hk1, S⟩
      refine lv S (rn_and_t hb1 (S.tm rfl) (S.tm rfl)) rfl ?_; clear S; intro a S
      refine l_done ?_
      refine then_n ?_
      exact ⟨hk1, S.nf [] rfl ⟨rfl, trivial⟩⟩
    · refine l_skip S rfl rfl rfl (by rw [hb1]; rfl) rfl ?_ rfl; clear S; intro a S
      refine l_skip S rfl rfl rfl (by rw [hb1]; rfl) rfl ?_ rfl; clear S; intro a S
      refine l_skip S rfl rfl rfl (by rw [hb1]; rfl) rfl ?_ rfl; clear S; intro a S
      refine l_skip S rfl rfl rfl (by rw [hb1]; rfl) rfl ?_ rfl; clear S; intro a S
      refine l_skipU S rfl rfl rfl rfl ?_; clear S; intro a S
      refine l_skipU S rfl rfl rfl rfl ?_; clear S; intro a S
      refine l_skipU S rfl rfl rfl rfl ?_; clear S; intro a S
      refine l_skip S rfl rfl rfl (by rw [hb1]; rfl) rfl ?_ rfl; clear S; intro a S
      refine lv S (rn_and_f ((!decide ((Int.tmod p_year 100) = 0)) || (decide ((Int.tmod p_year 400) = 0))) hb1 (S.tm rfl) rfl) rfl ?_; clear S; intro a S
      refine l_done ?_
      refine then_n ?_
      exact ⟨Keep.refl _ _, S.nf [] rfl ⟨rfl, trivial⟩⟩
  clear S; rintro a w1 ⟨hk2, S⟩
  refine lv S (rn_assign (S.tm rfl)) rfl ?_; clear S; intro a S
  refine l_done ?_
  replace S := S.nf (L' := []) (K' := [(2, .bool ((decide ((Int.tmod p_year 4) = 0)) && ((!decide ((Int.tmod p_year 100) = 0)) || (decide ((Int.tmod p_year 400) = 0)))))]) [] rfl ⟨rfl, trivial⟩
  refine then_n ?_
  refine wp_ret ?_
  subst h
  exact f_ret S Tryd.results41 rfl rfl
theorem swimmer_yearLong_ok (w : World) (p_year : Int) (r : Int) (h : swimmer_yearLong p_year = r) :
    Calls Tryd.prog 30 [.int .i64 p_year].toArray w (Ret w [] fun τ v w' => v = .int .i64 r) := by
  refine f_enter [] [] Tryd.func30 rfl Tryd.ntmps30 rfl (by simp) (by simp [fps]) (by simp [fps]) fun a S => ?_
  unfold swimmer_yearLong at h
  replace S := S.nf (L' := []) (K' := [(0, .int .i64 p_year)]) [] rfl ⟨rfl, trivial⟩
  refine f_seq ?_
  refine f_region ?_
  refine lv S (rn_assign rfl) rfl ?_; clear S; intro a S
  refine l_done ?_
  replace S := S.nf (L' := []) (K' := [(0, .int .i64 p_year)]) [] rfl ⟨rfl, trivial⟩
  refine then_n ?_
  refine f_seq ?_
  refine f_seq ?_
  refine f_region ?_
  refine lv S (rn_move (S.tm rfl)) rfl ?_; clear S; intro a S
  refine l_enter S (fun _ => run_call (vs := [.int .i64 p_year]) ⟨(S.tm rfl), trivial⟩ Tryd.call41) (swimmer_leap_ok _ p_year _ rfl) rfl ?_; clear S; intro v1 a w1 hv1 hk1 hn1 S
  subst hv1
  refine l_done ?_
  replace S := S.nf (L' := []) (K' := [(4, .bool (swimmer_leap p_year))]) [] rfl ⟨rfl, trivial⟩
  refine then_n ?_
  refine f_cond (S.tm rfl) (fun hb1 => ?_) (fun hb1 => ?_)
  · replace h := iteT h hb1
    refine f_seq ?_
    refine f_region ?_
    refine lv S (rn_assign rfl) rfl ?_; clear S; intro a S
    refine l_done ?_
    replace S := S.nf (L' := []) (K' := [(2, .int .i64 366)]) [] rfl ⟨rfl, trivial⟩
    refine then_n ?_
    refine wp_ret ?_
    refine then_r ?_
    subst h
    exact f_ret S Tryd.results30 rfl rfl
  · replace h := iteF h hb1
    refine wp_skip ?_
    refine then_n ?_
    refine f_seq ?_
    refine f_region ?_
    refine lv S (rn_assign rfl) rfl ?_; clear S; intro a S
    refine l_done ?_
    replace S := S.nf (L' := []) (K' := [(2, .int .i64 365)]) [] rfl ⟨rfl, trivial⟩
    refine then_n ?_
    refine wp_ret ?_
    subst h
    exact f_ret S Tryd.results30 rfl rfl
theorem swimmer_long_ok (w : World) (p_year : Int) (p_month : Int) (r : Int) (h : swimmer_long p_year p_month = r) :
    Calls Tryd.prog 29 [.int .i64 p_year, .int .i64 p_month].toArray w (Ret w [] fun τ v w' => v = .int .i64 r) := by
  refine f_enter [] [] Tryd.func29 rfl Tryd.ntmps29 rfl (by simp) (by simp [fps]) (by simp [fps]) fun a S => ?_
  unfold swimmer_long at h
  replace S := S.nf (L' := []) (K' := [(0, .int .i64 p_year), (1, .int .i64 p_month)]) [] rfl ⟨rfl, rfl, trivial⟩
  refine f_seq ?_
  refine f_region ?_
  refine lv S (rn_assign rfl) rfl ?_; clear S; intro a S
  refine l_done ?_
  replace S := S.nf (L' := []) (K' := [(0, .int .i64 p_year), (1, .int .i64 p_month)]) [] rfl ⟨rfl, rfl, trivial⟩
  refine then_n ?_
  refine f_seq ?_
  refine f_seq ?_
  refine f_region ?_
  refine lv S (rn_move (S.tm rfl)) rfl ?_; clear S; intro a S
  refine l_done ?_
  replace S := S.nf (L' := []) (K' := [(0, .int .i64 p_year), (5, .int .i64 p_month)]) [] rfl ⟨rfl, rfl, trivial⟩
  refine then_n ?_
  refine wp_block ?_
  refine f_seq ?_
  refine f_region ?_
  refine lv S (rn_eql (S.tm rfl) rfl) rfl ?_; clear S; intro a S
  refine lv S (rn_assign (S.tm rfl)) rfl ?_; clear S; intro a S
  refine l_done ?_
  replace S := S.nf (L' := []) (K' := [(0, .int .i64 p_year), (5, .int .i64 p_month), (6, .bool (decide (p_month = 2)))]) [] rfl ⟨rfl, rfl, rfl, trivial⟩
  refine then_n ?_
  refine f_cond (S.tm rfl) (fun hb1 => ?_) (fun hb1 => ?_)
  · replace h := iteT h hb1
    refine f_seq ?_
    refine f_seq ?_
    refine f_region ?_
    refine lv S (rn_move (S.tm rfl)) rfl ?_; clear S; intro a S
    refine l_enter S (fun _ => run_call (vs := [.int .i64 p_year]) ⟨(S.tm rfl), trivial⟩ Tryd.call41) (swimmer_leap_ok _ p_year _ rfl) rfl ?_; clear S; intro v1 a w1 hv1 hk1 hn1 S
    subst hv1
    refine l_done ?_
    replace S := S.nf (L' := []) (K' := [(9, .bool (swimmer_leap p_year))]) [] rfl ⟨rfl, trivial⟩
    refine then_n ?_
    refine f_cond (S.tm rfl) (fun hb2 => ?_) (fun hb2 => ?_)
    · replace h := iteT h hb2
      refine f_seq ?_
      refine f_region ?_
      refine lv S (rn_assign rfl) rfl ?_; clear S; intro a S
      refine l_done ?_
      replace S := S.nf (L' := []) (K' := [(4, .int .i64 29)]) [] rfl ⟨rfl, trivial⟩
      refine then_n ?_
      refine wp_ret ?_
      refine then_r ?_
      refine blk_r ?_
      refine then_r ?_
      subst h
      exact f_ret S Tryd.results29 rfl rfl
    · replace h := iteF h hb2
      refine wp_skip ?_
      refine then_n ?_
      refine f_seq ?_
      refine f_region ?_
      refine lv S (rn_assign rfl) rfl ?_; clear S; intro a S
      refine l_done ?_
      replace S := S.nf (L' := []) (K' := [(4, .int .i64 28)]) [] rfl ⟨rfl, trivial⟩
      refine then_n ?_
      refine wp_ret ?_
      refine blk_r ?_
      refine then_r ?_
      subst h
      exact f_ret S Tryd.results29 rfl rfl
  · replace h := iteF h hb1
    refine f_seq ?_
    refine f_seq ?_
    refine f_region ?_
    refine lv S (rn_eql (S.tm rfl) rfl) rfl ?_; clear S; intro a S
    refine lv S (rn_assign (S.tm rfl)) rfl ?_; clear S; intro a S
    refine l_done ?_
    replace S := S.nf (L' := []) (K' := [(5, .int .i64 p_month), (10, .bool (decide (p_month = 4)))]) [] rfl ⟨rfl, rfl, trivial⟩
    refine then_n ?_
    obtain ⟨j1, hj1, h⟩ := joinE h
    refine f_join (fun a w' => ∃ x1 : Bool, j1 x1 = r ∧ Sx w [] nov [] [(10, .bool x1)] 15 a w') ?_ ?_
    · refine f_cond (S.tm rfl) (fun hb3 => ?_) (fun hb3 => ?_)
      · replace h := iteT h hb3
        refine wp_skip ?_
        refine then_n ?_
        exact ⟨decide (p_month = 4), h, S.nf [] rfl ⟨rfl, trivial⟩⟩
      · replace h := iteF h hb3
        refine f_seq ?_
        refine f_region ?_
        refine lv S (rn_eql (S.tm rfl) rfl) rfl ?_; clear S; intro a S
        refine lv S (rn_assign (S.tm rfl)) rfl ?_; clear S; intro a S
        refine l_done ?_
        replace S := S.nf (L' := []) (K' := [(5, .int .i64 p_month), (10, .bool (decide (p_month = 6)))]) [] rfl ⟨rfl, rfl, trivial⟩
        refine then_n ?_
        obtain ⟨j2, hj2, h⟩ := joinE h
        refine f_join (fun a w' => ∃ x2 : Bool, j2 x2 = r ∧ Sx w [] nov [] [(10, .bool x2)] 15 a w') ?_ ?_
        · refine f_cond (S.tm rfl) (fun hb4 => ?_) (fun hb4 => ?_)
          · replace h := iteT h hb4
            refine wp_skip ?_
            refine then_n ?_
            exact ⟨decide (p_month = 6), h, S.nf [] rfl ⟨rfl, trivial⟩⟩
          · replace h := iteF h hb4
            refine f_seq ?_
            refine f_region ?_
            refine lv S (rn_eql (S.tm rfl) rfl) rfl ?_; clear S; intro a S
            refine lv S (rn_assign (S.tm rfl)) rfl ?_; clear S; intro a S
            refine l_done ?_
            replace S := S.nf (L' := []) (K' := [(5, .int .i64 p_month), (10, .bool (decide (p_month = 9)))]) [] rfl ⟨rfl, rfl, trivial⟩
            refine then_n ?_
            obtain ⟨j3, hj3, h⟩ := joinE h
            refine f_join (fun a w' => ∃ x3 : Bool, j3 x3 = r ∧ Sx w [] nov [] [(10, .bool x3)] 15 a w') ?_ ?_
            · refine f_cond (S.tm rfl) (fun hb5 => ?_) (fun hb5 => ?_)
              · replace h := iteT h hb5
                refine wp_skip ?_
                refine then_n ?_
                exact ⟨decide (p_month = 9), h, S.nf [] rfl ⟨rfl, trivial⟩⟩
              · replace h := iteF h hb5
                refine f_region ?_
                refine lv S (rn_eql (S.tm rfl) rfl) rfl ?_; clear S; intro a S
                refine lv S (rn_assign (S.tm rfl)) rfl ?_; clear S; intro a S
                refine l_done ?_
                replace S := S.nf (L' := []) (K' := [(10, .bool (decide (p_month = 11)))]) [] rfl ⟨rfl, trivial⟩
                refine then_n ?_
                exact ⟨decide (p_month = 11), h, S.nf [] rfl ⟨rfl, trivial⟩⟩
            clear S h; rintro a w4 ⟨x3, h, S⟩; rw [hj3] at h; clear hj3 j3
            refine then_n ?_
            exact ⟨x3, h, S.nf [] rfl ⟨rfl, trivial⟩⟩
        clear S h; rintro a w3 ⟨x2, h, S⟩; rw [hj2] at h; clear hj2 j2
        refine then_n ?_
        exact ⟨x2, h, S.nf [] rfl ⟨rfl, trivial⟩⟩
    clear S h; rintro a w2 ⟨x1, h, S⟩; rw [hj1] at h; clear hj1 j1
    refine then_n ?_
    refine f_cond (S.tm rfl) (fun hb6 => ?_) (fun hb6 => ?_)
    · replace h := iteT h hb6
      refine f_seq ?_
      refine f_region ?_
      refine lv S (rn_assign rfl) rfl ?_; clear S; intro a S
      refine l_done ?_
      replace S := S.nf (L' := []) (K' := [(4, .int .i64 30)]) [] rfl ⟨rfl, trivial⟩
      refine then_n ?_
      refine wp_ret ?_
      refine blk_r ?_
      refine then_r ?_
      subst h
      exact f_ret S Tryd.results29 rfl rfl
    · replace h := iteF h hb6
      refine wp_skip ?_
      refine blk_n ?_
      refine then_n ?_
      refine f_seq ?_
      refine f_region ?_
      refine lv S (rn_assign rfl) rfl ?_; clear S; intro a S
      refine l_done ?_
      replace S := S.nf (L' := []) (K' := [(4, .int .i64 31)]) [] rfl ⟨rfl, trivial⟩
      refine then_n ?_
      refine wp_ret ?_
      subst h
      exact f_ret S Tryd.results29 rfl rfl
theorem swimmer_dateOf_ok (w : World) (p_day : Int) (r : GDate) (h : swimmer_dateOf p_day = some r) :
    Calls Tryd.prog 27 [.int .i64 p_day].toArray w (Ret w [] fun τ v w' => v = .agg (GDate.enc r).toArray) := by
  refine f_enter [] [] Tryd.func27 rfl Tryd.ntmps27 rfl (by simp) (by simp [fps]) (by simp [fps]) fun a S => ?_
  unfold swimmer_dateOf at h
  replace S := S.nf (L' := []) (K' := [(0, .int .i64 p_day)]) [] rfl ⟨rfl, trivial⟩
  refine f_seq ?_
  refine f_region ?_
  refine l_alloc S Tryd.zeroValue28 (cs := [.int .i64 0, .int .i64 0, .int .i64 0]) rfl rfl ?_; clear S; intro a w1 b1 hz1 hk1 S
  refine l_done ?_
  replace S := S.nf (L' := [.blk b1 [.int .i64 0, .int .i64 0, .int .i64 0] 28]) (K' := [(0, .int .i64 p_day), (2, .pointer (some ⟨b1, 0, none⟩))]) [true] rfl ⟨rfl, rfl, trivial⟩
  refine then_n ?_
  refine f_seq ?_
  refine f_region ?_
  refine lv S (rn_bld bt_28 (pv := [(0, .int .i64 2024), (1, .int .i64 1)]) ⟨rfl, rfl, rfl, rfl, trivial⟩ (cs := [.int .i64 2024, .int .i64 1, .int .i64 0]) (by kernel_rfl)) rfl ?_; clear S; intro a S
  refine l_alloc S Tryd.zeroValue28 (cs := [.int .i64 0, .int .i64 0, .int .i64 0]) rfl rfl ?_; clear S; intro a w2 b2 hz2 hk2 S
  refine l_store S (S.tm rfl) (S.tm rfl) (i := 0) (off := 0) rfl Tryd.sizeOf28 (vs := [.int .i64 2024, .int .i64 1, .int .i64 0]) rfl rfl rfl rfl ?_; clear S; intro w3 hk3 S
  refine l_done ?_
  replace S := S.nf (L' := [.blk b2 [.int .i64 2024, .int .i64 1, .int .i64 0] 28, .blk b1 [.int .i64 0, .int .i64 0, .int .i64 0] 28]) (K' := [(0, .int .i64 p_day), (2, .pointer (some ⟨b1, 0, none⟩)), (3, .pointer (some ⟨b2, 0, none⟩))]) [true, true] rfl ⟨rfl, rfl, rfl, trivial⟩
  refine then_n ?_
  refine f_seq ?_
  obtain ⟨j1, hj1, h⟩ := joinE h
  refine f_join (fun a w' => ∃ x1 : Int, ∃ x2 : Int, j1 x1 x2 = some r ∧ Sx w [] nov [.blk b2 [.int .i64 x1, .int .i64 1, .int .i64 0] 28, .blk b1 [.int .i64 0, .int .i64 0, .int .i64 0] 28] [(0, .int .i64 x2), (2, .pointer (some ⟨b1, 0, none⟩)), (3, .pointer (some ⟨b2, 0, none⟩))] 52 a w') ?_ ?_
  · refine wp_block ?_
    refine f_loop (fun (m1 : Nat) a w' => ∃ x1 : Int, ∃ x2 : Int, swimmer_dateOf_l1 j1 m1 x1 x2 = some r ∧ Sx w [] nov [.blk b2 [.int .i64 x1, .int .i64 1, .int .i64 0] 28, .blk b1 [.int .i64 0, .int .i64 0, .int .i64 0] 28] [(0, .int .i64 x2), (2, .pointer (some ⟨b1, 0, none⟩)), (3, .pointer (some ⟨b2, 0, none⟩))] 52 a w') id ((0 - p_day).toNat + 2) ⟨2024, p_day, h, S.nf [true, true] rfl ⟨rfl, rfl, rfl, trivial⟩⟩ ?_
    clear S h; rintro m1 a w4 ⟨x1, x2, h, S⟩
    cases m1 with
    | zero => rw [swimmer_dateOf_l1.eq_1] at h; cases h
    | succ m1 =>
      rw [swimmer_dateOf_l1.eq_2] at h
      refine f_seq ?_
      refine f_seq ?_
      refine f_region ?_
      refine lv S (rn_move (S.tm rfl)) rfl ?_; clear S; intro a S
      refine lv S (rn_lss (S.tm rfl) rfl) rfl ?_; clear S; intro a S
      refine l_done ?_
      replace S := S.nf (L' := [.blk b2 [.int .i64 x1, .int .i64 1, .int .i64 0] 28, .blk b1 [.int .i64 0, .int .i64 0, .int .i64 0] 28]) (K' := [(0, .int .i64 x2), (2, .pointer (some ⟨b1, 0, none⟩)), (3, .pointer (some ⟨b2, 0, none⟩)), (6, .bool (decide (x2 < 0)))]) [true, true] rfl ⟨rfl, rfl, rfl, rfl, trivial⟩
      refine then_n ?_
      refine f_cond (S.tm rfl) (fun hb1 => ?_) (fun hb1 => ?_)
      · replace h := iteT h hb1
        refine wp_skip ?_
        refine then_n ?_
        refine wp_block ?_
        refine f_seq ?_
        refine f_region ?_
        refine lv S (rn_fld fa_28_0 (S.tm rfl)) rfl ?_; clear S; intro a S
        refine lv S (rn_load Tryd.isAgg3 (S.tm rfl) (S.cell (i := 0) rfl rfl)) rfl ?_; clear S; intro a S
        refine lv S (rn_sub (S.tm rfl) rfl) rfl ?_; clear S; intro a S
        refine lv S (rn_fld fa_28_0 (S.tm rfl)) rfl ?_; clear S; intro a S
        refine l_store S (S.tm rfl) (S.tm rfl) (i := 0) (off := 0) rfl Tryd.sizeOf3 (vs := [.int .i64 (W (x1 - 1))]) rfl rfl rfl rfl ?_; clear S; intro w6 hk4 S
        refine l_done ?_
        replace S := S.nf (L' := [.blk b2 [.int .i64 (W (x1 - 1)), .int .i64 1, .int .i64 0] 28, .blk b1 [.int .i64 0, .int .i64 0, .int .i64 0] 28]) (K' := [(0, .int .i64 x2), (2, .pointer (some ⟨b1, 0, none⟩)), (3, .pointer (some ⟨b2, 0, none⟩))]) [true, true] rfl ⟨rfl, rfl, rfl, trivial⟩
        refine then_n ?_
        refine f_region ?_
        refine lv S (rn_move (S.tm rfl)) rfl ?_; clear S; intro a S
        refine lv S (rn_fld fa_28_0 (S.tm rfl)) rfl ?_; clear S; intro a S
        refine lv S (rn_load Tryd.isAgg3 (S.tm rfl) (S.cell (i := 0) rfl rfl)) rfl ?_; clear S; intro a S
        refine l_enter S (fun _ => run_call (vs := [.int .i64 (W (x1 - 1))]) ⟨(S.tm rfl), trivial⟩ Tryd.call30) (swimmer_yearLong_ok _ (W (x1 - 1)) _ rfl) rfl ?_; clear S; intro v1 a w7 hv1 hk5 hn1 S
        subst hv1
        refine lv S (rn_add (S.tm rfl) (S.tm rfl)) rfl ?_; clear S; intro a S
        refine lv S (rn_assign (S.tm rfl)) rfl ?_; clear S; intro a S
        refine l_done ?_
        replace S := S.nf (L' := [.blk b2 [.int .i64 (W (x1 - 1)), .int .i64 1, .int .i64 0] 28, .blk b1 [.int .i64 0, .int .i64 0, .int .i64 0] 28]) (K' := [(0, .int .i64 (W (x2 + (swimmer_yearLong (W (x1 - 1)))))), (2, .pointer (some ⟨b1, 0, none⟩)), (3, .pointer (some ⟨b2, 0, none⟩))]) [true, true] rfl ⟨rfl, rfl, rfl, trivial⟩
        refine blk_n ?_
        refine then_n ?_
        exact ⟨m1, ⟨W (x1 - 1), W (x2 + (swimmer_yearLong (W (x1 - 1)))), h, S.nf [true, true] rfl ⟨rfl, rfl, rfl, trivial⟩⟩, Nat.lt_succ_self _⟩
      · replace h := iteF h hb1
        refine wp_exit ?_
        refine then_x ?_
        refine then_x ?_
        refine x_same ?_
        refine then_n ?_
        exact ⟨x1, x2, h, S.nf [true, true] rfl ⟨rfl, rfl, rfl, trivial⟩⟩
  clear S h; rintro a w5 ⟨x1, x2, h, S⟩; rw [hj1] at h; clear hj1 j1
  refine then_n ?_
  refine f_seq ?_
  obtain ⟨j2, hj2, h⟩ := joinE h
  refine f_join (fun a w' => ∃ x3 : Int, ∃ x4 : Int, j2 x3 x4 = some r ∧ Sx w [] nov [.blk b2 [.int .i64 x3, .int .i64 1, .int .i64 0] 28, .blk b1 [.int .i64 0, .int .i64 0, .int .i64 0] 28] [(0, .int .i64 x4), (2, .pointer (some ⟨b1, 0, none⟩)), (3, .pointer (some ⟨b2, 0, none⟩))] 52 a w') ?_ ?_
  · refine wp_block ?_
    refine f_loop (fun (m2 : Nat) a w' => ∃ x3 : Int, ∃ x4 : Int, swimmer_dateOf_l2 j2 m2 x3 x4 = some r ∧ Sx w [] nov [.blk b2 [.int .i64 x3, .int .i64 1, .int .i64 0] 28, .blk b1 [.int .i64 0, .int .i64 0, .int .i64 0] 28] [(0, .int .i64 x4), (2, .pointer (some ⟨b1, 0, none⟩)), (3, .pointer (some ⟨b2, 0, none⟩))] 52 a w') id ((x2 - (swimmer_yearLong x1)).toNat + 2) ⟨x1, x2, h, S.nf [true, true] rfl ⟨rfl, rfl, rfl, trivial⟩⟩ ?_
    clear S h; rintro m2 a w8 ⟨x3, x4, h, S⟩
    cases m2 with
    | zero => rw [swimmer_dateOf_l2.eq_1] at h; cases h
    | succ m2 =>
      rw [swimmer_dateOf_l2.eq_2] at h
      refine f_seq ?_
      refine f_seq ?_
      refine f_region ?_
      refine lv S (rn_move (S.tm rfl)) rfl ?_; clear S; intro a S
      refine lv S (rn_fld fa_28_0 (S.tm rfl)) rfl ?_; clear S; intro a S
      refine lv S (rn_load Tryd.isAgg3 (S.tm rfl) (S.cell (i := 0) rfl rfl)) rfl ?_; clear S; intro a S
      refine l_enter S (fun _ => run_call (vs := [.int .i64 x3]) ⟨(S.tm rfl), trivial⟩ Tryd.call30) (swimmer_yearLong_ok _ x3 _ rfl) rfl ?_; clear S; intro v2 a w10 hv2 hk6 hn2 S
      subst hv2
      refine lv S (rn_geq (S.tm rfl) (S.tm rfl)) rfl ?_; clear S; intro a S
      refine l_done ?_
      replace S := S.nf (L' := [.blk b2 [.int .i64 x3, .int .i64 1, .int .i64 0] 28, .blk b1 [.int .i64 0, .int .i64 0, .int .i64 0] 28]) (K' := [(0, .int .i64 x4), (2, .pointer (some ⟨b1, 0, none⟩)), (3, .pointer (some ⟨b2, 0, none⟩)), (20, .bool (decide ((swimmer_yearLong x3) ≤ x4)))]) [true, true] rfl ⟨rfl, rfl, rfl, rfl, trivial⟩
      refine then_n ?_
      refine f_cond (S.tm rfl) (fun hb2 => ?_) (fun hb2 => ?_)
      · replace h := iteT h hb2
        refine wp_skip ?_
        refine then_n ?_
        refine wp_block ?_
        refine f_seq ?_
        refine f_region ?_
        refine lv S (rn_move (S.tm rfl)) rfl ?_; clear S; intro a S
        refine lv S (rn_fld fa_28_0 (S.tm rfl)) rfl ?_; clear S; intro a S
        refine lv S (rn_load Tryd.isAgg3 (S.tm rfl) (S.cell (i := 0) rfl rfl)) rfl ?_; clear S; intro a S
        refine l_enter S (fun _ => run_call (vs := [.int .i64 x3]) ⟨(S.tm rfl), trivial⟩ Tryd.call30) (swimmer_yearLong_ok _ x3 _ rfl) rfl ?_; clear S; intro v3 a w11 hv3 hk7 hn3 S
        subst hv3
        refine lv S (rn_sub (S.tm rfl) (S.tm rfl)) rfl ?_; clear S; intro a S
        refine lv S (rn_assign (S.tm rfl)) rfl ?_; clear S; intro a S
        refine l_done ?_
        replace S := S.nf (L' := [.blk b2 [.int .i64 x3, .int .i64 1, .int .i64 0] 28, .blk b1 [.int .i64 0, .int .i64 0, .int .i64 0] 28]) (K' := [(0, .int .i64 (W (x4 - (swimmer_yearLong x3)))), (2, .pointer (some ⟨b1, 0, none⟩)), (3, .pointer (some ⟨b2, 0, none⟩))]) [true, true] rfl ⟨rfl, rfl, rfl, trivial⟩
        refine then_n ?_
        refine f_region ?_
        refine lv S (rn_fld fa_28_0 (S.tm rfl)) rfl ?_; clear S; intro a S
        refine lv S (rn_load Tryd.isAgg3 (S.tm rfl) (S.cell (i := 0) rfl rfl)) rfl ?_; clear S; intro a S
        refine lv S (rn_add (S.tm rfl) rfl) rfl ?_; clear S; intro a S
        refine lv S (rn_fld fa_28_0 (S.tm rfl)) rfl ?_; clear S; intro a S
        refine l_store S (S.tm rfl) (S.tm rfl) (i := 0) (off := 0) rfl Tryd.sizeOf3 (vs := [.int .i64 (W (x3 + 1))]) rfl rfl rfl rfl ?_; clear S; intro w12 hk8 S
        refine l_done ?_
        replace S := S.nf (L' := [.blk b2 [.int .i64 (W (x3 + 1)), .int .i64 1, .int .i64 0] 28, .blk b1 [.int .i64 0, .int .i64 0, .int .i64 0] 28]) (K' := [(0, .int .i64 (W (x4 - (swimmer_yearLong x3)))), (2, .pointer (some ⟨b1, 0, none⟩)), (3, .pointer (some ⟨b2, 0, none⟩))]) [true, true] rfl ⟨rfl, rfl, rfl, trivial⟩
        refine blk_n ?_
        refine then_n ?_
        exact ⟨m2, ⟨W (x3 + 1), W (x4 - (swimmer_yearLong x3)), h, S.nf [true, true] rfl ⟨rfl, rfl, rfl, trivial⟩⟩, Nat.lt_succ_self _⟩
      · replace h := iteF h hb2
        refine wp_exit ?_
        refine then_x ?_
        refine then_x ?_
        refine x_same ?_
        refine then_n ?_
        exact ⟨x3, x4, h, S.nf [true, true] rfl ⟨rfl, rfl, rfl, trivial⟩⟩
  clear S h; rintro a w9 ⟨x3, x4, h, S⟩; rw [hj2] at h; clear hj2 j2
  refine then_n ?_
  refine f_seq ?_
  obtain ⟨j3, hj3, h⟩ := joinE h
  refine f_join (fun a w' => ∃ x5 : Int, ∃ x6 : Int, j3 x5 x6 = some r ∧ Sx w [] nov [.blk b2 [.int .i64 x3, .int .i64 x5, .int .i64 0] 28, .blk b1 [.int .i64 0, .int .i64 0, .int .i64 0] 28] [(0, .int .i64 x6), (2, .pointer (some ⟨b1, 0, none⟩)), (3, .pointer (some ⟨b2, 0, none⟩))] 52 a w') ?_ ?_
  · refine wp_block ?_
    refine f_loop (fun (m3 : Nat) a w' => ∃ x5 : Int, ∃ x6 : Int, swimmer_dateOf_l3 x3 j3 m3 x5 x6 = some r ∧ Sx w [] nov [.blk b2 [.int .i64 x3, .int .i64 x5, .int .i64 0] 28, .blk b1 [.int .i64 0, .int .i64 0, .int .i64 0] 28] [(0, .int .i64 x6), (2, .pointer (some ⟨b1, 0, none⟩)), (3, .pointer (some ⟨b2, 0, none⟩))] 52 a w') id ((x4 - (swimmer_long x3 1)).toNat + 2) ⟨1, x4, h, S.nf [true, true] rfl ⟨rfl, rfl, rfl, trivial⟩⟩ ?_
    clear S h; rintro m3 a w13 ⟨x5, x6, h, S⟩
    cases m3 with
    | zero => rw [swimmer_dateOf_l3.eq_1] at h; cases h
    | succ m3 =>
      rw [swimmer_dateOf_l3.eq_2] at h
      refine f_seq ?_
      refine f_seq ?_
      refine f_region ?_
      refine lv S (rn_move (S.tm rfl)) rfl ?_; clear S; intro a S
      refine lv S (rn_fld fa_28_0 (S.tm rfl)) rfl ?_; clear S; intro a S
      refine lv S (rn_load Tryd.isAgg3 (S.tm rfl) (S.cell (i := 0) rfl rfl)) rfl ?_; clear S; intro a S
      refine lv S (rn_fld fa_28_1 (S.tm rfl)) rfl ?_; clear S; intro a S
      refine lv S (rn_load Tryd.isAgg3 (S.tm rfl) (S.cell (i := 0) rfl rfl)) rfl ?_; clear S; intro a S
      refine l_enter S (fun _ => run_call (vs := [.int .i64 x3, .int .i64 x5]) ⟨(S.tm rfl), (S.tm rfl), trivial⟩ Tryd.call29) (swimmer_long_ok _ x3 x5 _ rfl) rfl ?_; clear S; intro v4 a w15 hv4 hk9 hn4 S
      subst hv4
      refine lv S (rn_geq (S.tm rfl) (S.tm rfl)) rfl ?_; clear S; intro a S
      refine l_done ?_
      replace S := S.nf (L' := [.blk b2 [.int .i64 x3, .int .i64 x5, .int .i64 0] 28, .blk b1 [.int .i64 0, .int .i64 0, .int .i64 0] 28]) (K' := [(0, .int .i64 x6), (2, .pointer (some ⟨b1, 0, none⟩)), (3, .pointer (some ⟨b2, 0, none⟩)), (36, .bool (decide ((swimmer_long x3 x5) ≤ x6)))]) [true, true] rfl ⟨rfl, rfl, rfl, rfl, trivial⟩
      refine then_n ?_
      refine f_cond (S.tm rfl) (fun hb3 => ?_) (fun hb3 => ?_)
      · replace h := iteT h hb3
        refine wp_skip ?_
        refine then_n ?_
        refine wp_block ?_
        refine f_seq ?_
        refine f_region ?_
        refine lv S (rn_move (S.tm rfl)) rfl ?_; clear S; intro a S
        refine lv S (rn_fld fa_28_0 (S.tm rfl)) rfl ?_; clear S; intro a S
        refine lv S (rn_load Tryd.isAgg3 (S.tm rfl) (S.cell (i := 0) rfl rfl)) rfl ?_; clear S; intro a S
        refine lv S (rn_fld fa_28_1 (S.tm rfl)) rfl ?_; clear S; intro a S
        refine lv S (rn_load Tryd.isAgg3 (S.tm rfl) (S.cell (i := 0) rfl rfl)) rfl ?_; clear S; intro a S
        refine l_enter S (fun _ => run_call (vs := [.int .i64 x3, .int .i64 x5]) ⟨(S.tm rfl), (S.tm rfl), trivial⟩ Tryd.call29) (swimmer_long_ok _ x3 x5 _ rfl) rfl ?_; clear S; intro v5 a w16 hv5 hk10 hn5 S
        subst hv5
        refine lv S (rn_sub (S.tm rfl) (S.tm rfl)) rfl ?_; clear S; intro a S
        refine lv S (rn_assign (S.tm rfl)) rfl ?_; clear S; intro a S
        refine l_done ?_
        replace S := S.nf (L' := [.blk b2 [.int .i64 x3, .int .i64 x5, .int .i64 0] 28, .blk b1 [.int .i64 0, .int .i64 0, .int .i64 0] 28]) (K' := [(0, .int .i64 (W (x6 - (swimmer_long x3 x5)))), (2, .pointer (some ⟨b1, 0, none⟩)), (3, .pointer (some ⟨b2, 0, none⟩))]) [true, true] rfl ⟨rfl, rfl, rfl, trivial⟩
        refine then_n ?_
        refine f_region ?_
        refine lv S (rn_fld fa_28_1 (S.tm rfl)) rfl ?_; clear S; intro a S
        refine lv S (rn_load Tryd.isAgg3 (S.tm rfl) (S.cell (i := 0) rfl rfl)) rfl ?_; clear S; intro a S
        refine lv S (rn_add (S.tm rfl) rfl) rfl ?_; clear S; intro a S
        refine lv S (rn_fld fa_28_1 (S.tm rfl)) rfl ?_; clear S; intro a S
        refine l_store S (S.tm rfl) (S.tm rfl) (i := 0) (off := 1) rfl Tryd.sizeOf3 (vs := [.int .i64 (W (x5 + 1))]) rfl rfl rfl rfl ?_; clear S; intro w17 hk11 S
        refine l_done ?_
        replace S := S.nf (L' := [.blk b2 [.int .i64 x3, .int .i64 (W (x5 + 1)), .int .i64 0] 28, .blk b1 [.int .i64 0, .int .i64 0, .int .i64 0] 28]) (K' := [(0, .int .i64 (W (x6 - (swimmer_long x3 x5)))), (2, .pointer (some ⟨b1, 0, none⟩)), (3, .pointer (some ⟨b2, 0, none⟩))]) [true, true] rfl ⟨rfl, rfl, rfl, trivial⟩
        refine blk_n ?_
        refine then_n ?_
        exact ⟨m3, ⟨W (x5 + 1), W (x6 - (swimmer_long x3 x5)), h, S.nf [true, true] rfl ⟨rfl, rfl, rfl, trivial⟩⟩, Nat.lt_succ_self _⟩
      · replace h := iteF h hb3
        refine wp_exit ?_
        refine then_x ?_
        refine then_x ?_
        refine x_same ?_
        refine then_n ?_
        exact ⟨x5, x6, h, S.nf [true, true] rfl ⟨rfl, rfl, rfl, trivial⟩⟩
  clear S h; rintro a w14 ⟨x5, x6, h, S⟩; rw [hj3] at h; clear hj3 j3
  refine then_n ?_
  refine f_seq ?_
  refine f_region ?_
  refine lv S (rn_move (S.tm rfl)) rfl ?_; clear S; intro a S
  refine lv S (rn_add (S.tm rfl) rfl) rfl ?_; clear S; intro a S
  refine lv S (rn_fld fa_28_2 (S.tm rfl)) rfl ?_; clear S; intro a S
  refine l_store S (S.tm rfl) (S.tm rfl) (i := 0) (off := 2) rfl Tryd.sizeOf3 (vs := [.int .i64 (W (x6 + 1))]) rfl rfl rfl rfl ?_; clear S; intro w18 hk12 S
  refine l_done ?_
  replace S := S.nf (L' := [.blk b2 [.int .i64 x3, .int .i64 x5, .int .i64 (W (x6 + 1))] 28, .blk b1 [.int .i64 0, .int .i64 0, .int .i64 0] 28]) (K' := [(2, .pointer (some ⟨b1, 0, none⟩)), (3, .pointer (some ⟨b2, 0, none⟩))]) [true, true] rfl ⟨rfl, rfl, trivial⟩
  refine then_n ?_
  refine f_seq ?_
  refine f_region ?_
  refine lv S (rn_ldA Tryd.isAgg28 Tryd.sizeOf28 (off := 0) (o := 0) (part := [.int .i64 x3, .int .i64 x5, .int .i64 (W (x6 + 1))]) rfl rfl (S.tm rfl) (S.cellsAt (i := 0) rfl)) rfl ?_; clear S; intro a S
  refine l_store S (S.tm rfl) (S.tm rfl) (i := 1) (off := 0) rfl Tryd.sizeOf28 (vs := [.int .i64 x3, .int .i64 x5, .int .i64 (W (x6 + 1))]) rfl rfl rfl rfl ?_; clear S; intro w19 hk13 S
  refine l_done ?_
  replace S := S.nf (L' := [.blk b1 [.int .i64 x3, .int .i64 x5, .int .i64 (W (x6 + 1))] 28]) (K' := [(2, .pointer (some ⟨b1, 0, none⟩))]) [false, true] rfl ⟨rfl, trivial⟩
  refine then_n ?_
  refine wp_ret ?_
  obtain rfl := Option.some.inj h
  exact f_retG S (rs := [.cell 2 28]) (vs := [.agg #[.int .i64 x3, .int .i64 x5, .int .i64 (W (x6 + 1))]]) Tryd.results27 ⟨(res_cell (off := 0) S rfl Tryd.isAgg28 Tryd.sizeOf28 rfl (S.cellsAt (i := 0) rfl)), trivial⟩ rfl rfl
theorem swimmer_DateOf_ok (w : World) (p_day : Int) (r : GDate × Int) (h : swimmer_DateOf p_day = some r) :
    Calls Tryd.prog 8 [.int .i64 p_day].toArray w (Ret w [] fun τ v w' => v = .tuple #[.agg (GDate.enc r.1).toArray, .int .i64 r.2]) := by
  refine f_enter [] [] Tryd.func8 rfl Tryd.ntmps8 rfl (by simp) (by simp [fps]) (by simp [fps]) fun a S => ?_
  unfold swimmer_DateOf at h
  replace S := S.nf (L' := []) (K' := [(0, .int .i64 p_day)]) [] rfl ⟨rfl, trivial⟩
  refine f_seq ?_
  refine f_region ?_
  refine l_alloc S Tryd.zeroValue28 (cs := [.int .i64 0, .int .i64 0, .int .i64 0]) rfl rfl ?_; clear S; intro a w1 b1 hz1 hk1 S
  refine lv S (rn_assign rfl) rfl ?_; clear S; intro a S
  refine l_done ?_
  replace S := S.nf (L' := [.blk b1 [.int .i64 0, .int .i64 0, .int .i64 0] 28]) (K' := [(0, .int .i64 p_day), (2, .pointer (some ⟨b1, 0, none⟩))]) [true] rfl ⟨rfl, rfl, trivial⟩
  refine then_n ?_
  refine f_seq ?_
  refine f_seq ?_
  refine f_region ?_
  refine lv S (rn_move (S.tm rfl)) rfl ?_; clear S; intro a S
  refine l_enter S (fun _ => run_call (vs := [.int .i64 p_day]) ⟨(S.tm rfl), trivial⟩ Tryd.call26) (swimmer_isDay_ok _ p_day _ rfl) rfl ?_; clear S; intro v1 a w2 hv1 hk2 hn1 S
  subst hv1
  refine lv S (rn_not (S.tm rfl)) rfl ?_; clear S; intro a S
  refine l_done ?_
  replace S := S.nf (L' := [.blk b1 [.int .i64 0, .int .i64 0, .int .i64 0] 28]) (K' := [(0, .int .i64 p_day), (2, .pointer (some ⟨b1, 0, none⟩)), (6, .bool (!(swimmer_isDay p_day)))]) [true] rfl ⟨rfl, rfl, rfl, trivial⟩
  refine then_n ?_
  refine f_cond (S.tm rfl) (fun hb1 => ?_) (fun hb1 => ?_)
  · replace h := iteT h hb1
    refine f_seq ?_
    refine f_region ?_
    refine lv S (rn_bld bt_28 (pv := []) trivial (cs := [.int .i64 0, .int .i64 0, .int .i64 0]) (by kernel_rfl)) rfl ?_; clear S; intro a S
    refine l_store S (S.tm rfl) (S.tm rfl) (i := 0) (off := 0) rfl Tryd.sizeOf28 (vs := [.int .i64 0, .int .i64 0, .int .i64 0]) rfl rfl rfl rfl ?_; clear S; intro w3 hk3 S
    refine lv S (rn_assign rfl) rfl ?_; clear S; intro a S
    refine l_done ?_
    replace S := S.nf (L' := [.blk b1 [.int .i64 0, .int .i64 0, .int .i64 0] 28]) (K' := [(2, .pointer (some ⟨b1, 0, none⟩)), (3, .int .i64 1)]) [true] rfl ⟨rfl, rfl, trivial⟩
    refine then_n ?_
    refine wp_ret ?_
    refine then_r ?_
    obtain rfl := Option.some.inj h
    exact f_retG S (rs := [.cell 2 28, .tmp 3]) (vs := [.agg #[.int .i64 0, .int .i64 0, .int .i64 0], .int .i64 1]) Tryd.results8 ⟨(res_cell (off := 0) S rfl Tryd.isAgg28 Tryd.sizeOf28 rfl (S.cellsAt (i := 0) rfl)), (res_tmp S rfl), trivial⟩ rfl rfl
  · replace h := iteF h hb1
    refine wp_skip ?_
    refine then_n ?_
    refine f_seq ?_
    refine f_region ?_
    refine lv S (rn_move (S.tm rfl)) rfl ?_; clear S; intro a S
    obtain ⟨r1, hr1, h⟩ := bindE h
    refine l_enter S (fun _ => run_call (vs := [.int .i64 p_day]) ⟨(S.tm rfl), trivial⟩ Tryd.call27) (swimmer_dateOf_ok _ p_day _ hr1) rfl ?_; clear S; intro v2 a w4 hv2 hk4 hn2 S
    subst hv2
    refine l_store S (S.tm rfl) (S.tm rfl) (i := 0) (off := 0) rfl Tryd.sizeOf28 (vs := [.int .i64 r1.Year, .int .i64 r1.Month, .int .i64 r1.Day]) rfl rfl rfl rfl ?_; clear S; intro w5 hk5 S
    refine lv S (rn_assign rfl) rfl ?_; clear S; intro a S
    refine l_done ?_
    replace S := S.nf (L' := [.blk b1 [.int .i64 r1.Year, .int .i64 r1.Month, .int .i64 r1.Day] 28]) (K' := [(2, .pointer (some ⟨b1, 0, none⟩)), (3, .int .i64 0)]) [true] rfl ⟨rfl, rfl, trivial⟩
    refine then_n ?_
    refine wp_ret ?_
    obtain rfl := Option.some.inj h
    exact f_retG S (rs := [.cell 2 28, .tmp 3]) (vs := [.agg #[.int .i64 r1.Year, .int .i64 r1.Month, .int .i64 r1.Day], .int .i64 0]) Tryd.results8 ⟨(res_cell (off := 0) S rfl Tryd.isAgg28 Tryd.sizeOf28 rfl (S.cellsAt (i := 0) rfl)), (res_tmp S rfl), trivial⟩ rfl rfl
set_option maxRecDepth 20000 in
theorem swimmer_DayOf_ok (w : World) (p_d : GDate) (r : Int × Int) (h : swimmer_DayOf p_d = some r) :
    Calls Tryd.prog 9 [.agg (GDate.enc p_d).toArray].toArray w (Ret w [] fun τ v w' => v = .tuple #[.int .i64 r.1, .int .i64 r.2]) := by
  refine f_enter [] [] Tryd.func9 rfl Tryd.ntmps9 rfl (by simp) (by simp [fps]) (by simp [fps]) fun a S => ?_
  unfold swimmer_DayOf at h
  replace S := S.nf (L' := []) (K' := [(0, .agg (GDate.enc p_d).toArray)]) [] rfl ⟨rfl, trivial⟩
  refine f_seq ?_
  refine f_region ?_
  refine l_box S (S.tm rfl) (cs := [.int .i64 p_d.Year, .int .i64 p_d.Month, .int .i64 p_d.Day]) rfl rfl ?_; clear S; intro a w1 b1 hz1 hk1 S
  refine lv S (rn_assign rfl) rfl ?_; clear S; intro a S
  refine lv S (rn_assign rfl) rfl ?_; clear S; intro a S
  refine l_done ?_
  replace S := S.nf (L' := [.blk b1 [.int .i64 p_d.Year, .int .i64 p_d.Month, .int .i64 p_d.Day] 28]) (K' := [(1, .pointer (some ⟨b1, 0, none⟩))]) [true] rfl ⟨rfl, trivial⟩
  refine then_n ?_
  refine f_seq ?_
  refine f_seq ?_
  obtain ⟨j1, hj1, h⟩ := joinE h
  refine f_join (fun a w' => ∃ x1 : Bool, j1 x1 = some r ∧ Sx w [] nov [.blk b1 [.int .i64 p_d.Year, .int .i64 p_d.Month, .int .i64 p_d.Day] 28] [(1, .pointer (some ⟨b1, 0, none⟩)), (28, .bool x1)] 68 a w') ?_ ?_
  · rcases Bool.eq_false_or_eq_true (!(words_Within p_d.Year 1900 2100)) with hb1 | hb1
    · replace h := iteT h hb1
      rcases Bool.eq_false_or_eq_true true with hb2 | hb2
      · replace h := iteT h hb2
        refine d_region [] ([]) Tryd.mixed S rfl (by kernel_rfl) ?_; clear S; intro w6 hk5 hsel S
        refine d_quiet 0 S hsel rfl rfl rfl (by kernel_rfl) (by kernel_rfl) rfl (fun _ hw => (rn_fld fa_28_0 (S.tm rfl))) ?_; clear S; intro a S
        refine d_quiet 1 S hsel rfl rfl rfl (by kernel_rfl) (by kernel_rfl) rfl (fun _ hw => (rn_ld Tryd.isAgg3 (off := 0) (o := 0) (S.tm rfl) ((S.blk_mem (i := 0) (cells := [.int .i64 p_d.Year, .int .i64 p_d.Month, .int .i64 p_d.Day]) (b := b1) (T := 28) rfl (ne_nil (e' := .blk b1 [.int .i64 p_d.Year, .int .i64 p_d.Month, .int .i64 p_d.Day] 28))).kept hw) rfl)) ?_; clear S; intro a S
        refine d_loud1 2 (by kernel_rfl) rfl ?_
        refine l_enter S (fun _ => run_call (vs := [.int .i64 p_d.Year, .int .i64 1900, .int .i64 2100]) ⟨(S.tm rfl), rfl, rfl, trivial⟩ Tryd.call28) (words_Within_ok _ p_d.Year 1900 2100 _ rfl) rfl ?_; clear S; intro v4 a w7 hv4 hk6 hn4 S
        subst hv4
        refine l_done ?_
        refine d_next hk6 ?_
        refine d_rest [3, 4, 5, 6, 7, 8, 9, 10, 11, 12, 13, 14, 15, 16, 17, 18, 19, 20] hsel (by kernel_rfl) rfl ?_
        clear hsel
        refine s_lv S rfl (rn_not (S.tm rfl)) rfl ?_; clear S; intro a S
        refine s_lv S rfl (rn_move (S.tm rfl)) rfl ?_; clear S; intro a S
        refine s_skip S rfl rfl rfl rfl (by rw [hb1]; rfl) rfl ?_ rfl; clear S; intro a S
        refine s_skip S rfl rfl rfl rfl (by rw [hb1]; rfl) rfl ?_ rfl; clear S; intro a S
        refine s_skip S rfl rfl rfl rfl (by rw [hb1]; rfl) rfl ?_ rfl; clear S; intro a S
        refine s_skip S rfl rfl rfl rfl (by rw [hb1]; rfl) rfl ?_ rfl; clear S; intro a S
        refine s_lv S rfl (rn_pick_b hb1 (S.tm rfl) rfl) rfl ?_; clear S; intro a S
        refine s_lv S rfl (rn_move (S.tm rfl)) rfl ?_; clear S; intro a S
        refine s_skip S rfl rfl rfl rfl (by rw [hb2]; rfl) rfl ?_ rfl; clear S; intro a S
        refine s_skip S rfl rfl rfl rfl (by rw [hb2]; rfl) rfl ?_ rfl; clear S; intro a S
        refine s_skip S rfl rfl rfl rfl (by rw [hb2]; rfl) rfl ?_ rfl; clear S; intro a S
        refine s_skip S rfl rfl rfl rfl (by rw [hb2]; rfl) rfl ?_ rfl; clear S; intro a S
        refine s_skip S rfl rfl rfl rfl (by rw [hb2]; rfl) rfl ?_ rfl; clear S; intro a S
        refine s_skip S rfl rfl rfl rfl (by rw [hb2]; rfl) rfl ?_ rfl; clear S; intro a S
        refine s_skip S rfl rfl rfl rfl (by rw [hb2]; rfl) rfl ?_ rfl; clear S; intro a S
        refine s_skip S rfl rfl rfl rfl (by rw [hb2]; rfl) rfl ?_ rfl; clear S; intro a S
        refine s_skip S rfl rfl rfl rfl (by rw [hb2]; rfl) rfl ?_ rfl; clear S; intro a S
        refine s_lv S rfl (rn_pick_b hb2 (S.tm rfl) rfl) rfl ?_; clear S; intro a S
        refine s_done ?_
        replace S := S.nf (L' := [.blk b1 [.int .i64 p_d.Year, .int .i64 p_d.Month, .int .i64 p_d.Day] 28]) (K' := [(1, .pointer (some ⟨b1, 0, none⟩)), (28, .bool true)]) [true] rfl ⟨rfl, rfl, trivial⟩
        refine then_n ?_
        exact ⟨true, h, S.nf [true] rfl ⟨rfl, rfl, trivial⟩⟩
      · replace h := iteF h hb2
        refine d_region [] ([]) Tryd.mixed S rfl (by kernel_rfl) ?_; clear S; intro w11 hk10 hsel S
        refine d_quiet 0 S hsel rfl rfl rfl (by kernel_rfl) (by kernel_rfl) rfl (fun _ hw => (rn_fld fa_28_0 (S.tm rfl))) ?_; clear S; intro a S
        refine d_quiet 1 S hsel rfl rfl rfl (by kernel_rfl) (by kernel_rfl) rfl (fun _ hw => (rn_ld Tryd.isAgg3 (off := 0) (o := 0) (S.tm rfl) ((S.blk_mem (i := 0) (cells := [.int .i64 p_d.Year, .int .i64 p_d.Month, .int .i64 p_d.Day]) (b := b1) (T := 28) rfl (ne_nil (e' := .blk b1 [.int .i64 p_d.Year, .int .i64 p_d.Month, .int .i64 p_d.Day] 28))).kept hw) rfl)) ?_; clear S; intro a S
        refine d_loud1 2 (by kernel_rfl) rfl ?_
        refine l_enter S (fun _ => run_call (vs := [.int .i64 p_d.Year, .int .i64 1900, .int .i64 2100]) ⟨(S.tm rfl), rfl, rfl, trivial⟩ Tryd.call28) (words_Within_ok _ p_d.Year 1900 2100 _ rfl) rfl ?_; clear S; intro v8 a w12 hv8 hk11 hn8 S
        subst hv8
        refine l_done ?_
        refine d_next hk11 ?_
        refine d_quiet 3 S hsel rfl rfl rfl (by kernel_rfl) (by kernel_rfl) rfl (fun _ hw => (rn_not (S.tm rfl))) ?_; clear S; intro a S
        refine d_quiet 4 S hsel rfl rfl rfl (by kernel_rfl) (by kernel_rfl) rfl (fun _ hw => (rn_move (S.tm rfl))) ?_; clear S; intro a S
        refine d_skip 5 S hsel rfl rfl rfl rfl (by rw [hb1]; rfl) rfl (by kernel_rfl) (by kernel_rfl) rfl ?_; clear S; intro a S
        refine d_skip 6 S hsel rfl rfl rfl rfl (by rw [hb1]; rfl) rfl (by kernel_rfl) (by kernel_rfl) rfl ?_; clear S; intro a S
        refine d_skip 7 S hsel rfl rfl rfl rfl (by rw [hb1]; rfl) rfl (by kernel_rfl) (by kernel_rfl) rfl ?_; clear S; intro a S
        refine d_skip 8 S hsel rfl rfl rfl rfl (by rw [hb1]; rfl) rfl (by kernel_rfl) (by kernel_rfl) rfl ?_; clear S; intro a S
        refine d_quiet 9 S hsel rfl rfl rfl (by kernel_rfl) (by kernel_rfl) rfl (fun _ hw => (rn_pick_b hb1 (S.tm rfl) rfl)) ?_; clear S; intro a S
        refine d_quiet 10 S hsel rfl rfl rfl (by kernel_rfl) (by kernel_rfl) rfl (fun _ hw => (rn_move (S.tm rfl))) ?_; clear S; intro a S
        refine d_quiet_g 11 S hsel rfl rfl rfl rfl hb2 rfl rfl (by kernel_rfl) (by kernel_rfl) rfl (fun _ hw => (rn_fld fa_28_2 (S.tm rfl))) ?_; clear S; intro a S
        refine d_quiet_g 12 S hsel rfl rfl rfl rfl hb2 rfl rfl (by kernel_rfl) (by kernel_rfl) rfl (fun _ hw => (rn_ld Tryd.isAgg3 (off := 0) (o := 2) (S.tm rfl) ((S.blk_mem (i := 0) (cells := [.int .i64 p_d.Year, .int .i64 p_d.Month, .int .i64 p_d.Day]) (b := b1) (T := 28) rfl (ne_nil (e' := .blk b1 [.int .i64 p_d.Year, .int .i64 p_d.Month, .int .i64 p_d.Day] 28))).kept hw) rfl)) ?_; clear S; intro a S
        refine d_quiet_g 13 S hsel rfl rfl rfl rfl hb2 rfl rfl (by kernel_rfl) (by kernel_rfl) rfl (fun _ hw => (rn_fld fa_28_0 (S.tm rfl))) ?_; clear S; intro a S
        refine d_quiet_g 14 S hsel rfl rfl rfl rfl hb2 rfl rfl (by kernel_rfl) (by kernel_rfl) rfl (fun _ hw => (rn_ld Tryd.isAgg3 (off := 0) (o := 0) (S.tm rfl) ((S.blk_mem (i := 0) (cells := [.int .i64 p_d.Year, .int .i64 p_d.Month, .int .i64 p_d.Day]) (b := b1) (T := 28) rfl (ne_nil (e' := .blk b1 [.int .i64 p_d.Year, .int .i64 p_d.Month, .int .i64 p_d.Day] 28))).kept hw) rfl)) ?_; clear S; intro a S
        refine d_quiet_g 15 S hsel rfl rfl rfl rfl hb2 rfl rfl (by kernel_rfl) (by kernel_rfl) rfl (fun _ hw => (rn_fld fa_28_1 (S.tm rfl))) ?_; clear S; intro a S
        refine d_quiet_g 16 S hsel rfl rfl rfl rfl hb2 rfl rfl (by kernel_rfl) (by kernel_rfl) rfl (fun _ hw => (rn_ld Tryd.isAgg3 (off := 0) (o := 1) (S.tm rfl) ((S.blk_mem (i := 0) (cells := [.int .i64 p_d.Year, .int .i64 p_d.Month, .int .i64 p_d.Day]) (b := b1) (T := 28) rfl (ne_nil (e' := .blk b1 [.int .i64 p_d.Year, .int .i64 p_d.Month, .int .i64 p_d.Day] 28))).kept hw) rfl)) ?_; clear S; intro a S
        refine d_loud1 17 (by kernel_rfl) rfl ?_
        refine l_want S rfl rfl rfl hb2 ?_
        refine l_enter S (fun _ => run_call (vs := [.int .i64 p_d.Year, .int .i64 p_d.Month]) ⟨(S.tm rfl), (S.tm rfl), trivial⟩ Tryd.call29) (swimmer_long_ok _ p_d.Year p_d.Month _ rfl) rfl ?_; clear S; intro v9 a w13 hv9 hk12 hn9 S
        subst hv9
        refine l_done ?_
        refine d_next hk12 ?_
        refine d_loud1 18 (by kernel_rfl) rfl ?_
        refine l_want S rfl rfl rfl hb2 ?_
        refine l_enter S (fun _ => run_call (vs := [.int .i64 p_d.Day, .int .i64 1, .int .i64 (swimmer_long p_d.Year p_d.Month)]) ⟨(S.tm rfl), rfl, (S.tm rfl), trivial⟩ Tryd.call28) (words_Within_ok _ p_d.Day 1 (swimmer_long p_d.Year p_d.Month) _ rfl) rfl ?_; clear S; intro v10 a w14 hv10 hk13 hn10 S
        subst hv10
        refine l_done ?_
        refine d_next hk13 ?_
        refine d_rest [19, 20] hsel (by kernel_rfl) rfl ?_
        clear hsel
        refine s_want S rfl rfl rfl rfl hb2 ?_
        refine s_lv0 S (rn_not (S.tm rfl)) rfl ?_; clear S; intro a S
        refine s_lv S rfl (rn_pick_c hb2 (S.tm rfl) (S.tm rfl)) rfl ?_; clear S; intro a S
        refine s_done ?_
        replace S := S.nf (L' := [.blk b1 [.int .i64 p_d.Year, .int .i64 p_d.Month, .int .i64 p_d.Day] 28]) (K' := [(1, .pointer (some ⟨b1, 0, none⟩)), (28, .bool (!(words_Within p_d.Day 1 (swimmer_long p_d.Year p_d.Month))))]) [true] rfl ⟨rfl, rfl, trivial⟩
        refine then_n ?_
        exact ⟨!(words_Within p_d.Day 1 (swimmer_long p_d.Year p_d.Month)), h, S.nf [true] rfl ⟨rfl, rfl, trivial⟩⟩
    · replace h := iteF h hb1
      rcases Bool.eq_false_or_eq_true (!(words_Within p_d.Month 1 12)) with hb3 | hb3
      · replace h := iteT h hb3
        refine d_region [] ([]) Tryd.mixed S rfl (by kernel_rfl) ?_; clear S; intro w19 hk18 hsel S
        refine d_quiet 0 S hsel rfl rfl rfl (by kernel_rfl) (by kernel_rfl) rfl (fun _ hw => (rn_fld fa_28_0 (S.tm rfl))) ?_; clear S; intro a S
        refine d_quiet 1 S hsel rfl rfl rfl (by kernel_rfl) (by kernel_rfl) rfl (fun _ hw => (rn_ld Tryd.isAgg3 (off := 0) (o := 0) (S.tm rfl) ((S.blk_mem (i := 0) (cells := [.int .i64 p_d.Year, .int .i64 p_d.Month, .int .i64 p_d.Day]) (b := b1) (T := 28) rfl (ne_nil (e' := .blk b1 [.int .i64 p_d.Year, .int .i64 p_d.Month, .int .i64 p_d.Day] 28))).kept hw) rfl)) ?_; clear S; intro a S
        refine d_loud1 2 (by kernel_rfl) rfl ?_
        refine l_enter S (fun _ => run_call (vs := [.int .i64 p_d.Year, .int .i64 1900, .int .i64 2100]) ⟨(S.tm rfl), rfl, rfl, trivial⟩ Tryd.call28) (words_Within_ok _ p_d.Year 1900 2100 _ rfl) rfl ?_; clear S; intro v15 a w20 hv15 hk19 hn15 S
        subst hv15
        refine l_done ?_
        refine d_next hk19 ?_
        refine d_quiet 3 S hsel rfl rfl rfl (by kernel_rfl) (by kernel_rfl) rfl (fun _ hw => (rn_not (S.tm rfl))) ?_; clear S; intro a S
        refine d_quiet 4 S hsel rfl rfl rfl (by kernel_rfl) (by kernel_rfl) rfl (fun _ hw => (rn_move (S.tm rfl))) ?_; clear S; intro a S
        refine d_quiet_g 5 S hsel rfl rfl rfl rfl hb1 rfl rfl (by kernel_rfl) (by kernel_rfl) rfl (fun _ hw => (rn_fld fa_28_1 (S.tm rfl))) ?_; clear S; intro a S
        refine d_quiet_g 6 S hsel rfl rfl rfl rfl hb1 rfl rfl (by kernel_rfl) (by kernel_rfl) rfl (fun _ hw => (rn_ld Tryd.isAgg3 (off := 0) (o := 1) (S.tm rfl) ((S.blk_mem (i := 0) (cells := [.int .i64 p_d.Year, .int .i64 p_d.Month, .int .i64 p_d.Day]) (b := b1) (T := 28) rfl (ne_nil (e' := .blk b1 [.int .i64 p_d.Year, .int .i64 p_d.Month, .int .i64 p_d.Day] 28))).kept hw) rfl)) ?_; clear S; intro a S
        refine d_loud1 7 (by kernel_rfl) rfl ?_
        refine l_want S rfl rfl rfl hb1 ?_
        refine l_enter S (fun _ => run_call (vs := [.int .i64 p_d.Month, .int .i64 1, .int .i64 12]) ⟨(S.tm rfl), rfl, rfl, trivial⟩ Tryd.call28) (words_Within_ok _ p_d.Month 1 12 _ rfl) rfl ?_; clear S; intro v16 a w21 hv16 hk20 hn16 S
        subst hv16
        refine l_done ?_
        refine d_next hk20 ?_
        refine d_rest [8, 9, 10, 11, 12, 13, 14, 15, 16, 17, 18, 19, 20] hsel (by kernel_rfl) rfl ?_
        clear hsel
        refine s_want S rfl rfl rfl rfl hb1 ?_
        refine s_lv0 S (rn_not (S.tm rfl)) rfl ?_; clear S; intro a S
        refine s_lv S rfl (rn_pick_c hb1 (S.tm rfl) (S.tm rfl)) rfl ?_; clear S; intro a S
        refine s_lv S rfl (rn_move (S.tm rfl)) rfl ?_; clear S; intro a S
        refine s_skip S rfl rfl rfl rfl (by rw [hb3]; rfl) rfl ?_ rfl; clear S; intro a S
        refine s_skip S rfl rfl rfl rfl (by rw [hb3]; rfl) rfl ?_ rfl; clear S; intro a S
        refine s_skip S rfl rfl rfl rfl (by rw [hb3]; rfl) rfl ?_ rfl; clear S; intro a S
        refine s_skip S rfl rfl rfl rfl (by rw [hb3]; rfl) rfl ?_ rfl; clear S; intro a S
        refine s_skip S rfl rfl rfl rfl (by rw [hb3]; rfl) rfl ?_ rfl; clear S; intro a S
        refine s_skip S rfl rfl rfl rfl (by rw [hb3]; rfl) rfl ?_ rfl; clear S; intro a S
        refine s_skip S rfl rfl rfl rfl (by rw [hb3]; rfl) rfl ?_ rfl; clear S; intro a S
        refine s_skip S rfl rfl rfl rfl (by rw [hb3]; rfl) rfl ?_ rfl; clear S; intro a S
        refine s_skip S rfl rfl rfl rfl (by rw [hb3]; rfl) rfl ?_ rfl; clear S; intro a S
        refine s_lv S rfl (rn_pick_b hb3 (S.tm rfl) rfl) rfl ?_; clear S; intro a S
        refine s_done ?_
        replace S := S.nf (L' := [.blk b1 [.int .i64 p_d.Year, .int .i64 p_d.Month, .int .i64 p_d.Day] 28]) (K' := [(1, .pointer (some ⟨b1, 0, none⟩)), (28, .bool true)]) [true] rfl ⟨rfl, rfl, trivial⟩
        refine then_n ?_
        exact ⟨true, h, S.nf [true] rfl ⟨rfl, rfl, trivial⟩⟩
      · replace h := iteF h hb3
        refine d_region [] ([]) Tryd.mixed S rfl (by kernel_rfl) ?_; clear S; intro w26 hk25 hsel S
        refine d_quiet 0 S hsel rfl rfl rfl (by kernel_rfl) (by kernel_rfl) rfl (fun _ hw => (rn_fld fa_28_0 (S.tm rfl))) ?_; clear S; intro a S
        refine d_quiet 1 S hsel rfl rfl rfl (by kernel_rfl) (by kernel_rfl) rfl (fun _ hw => (rn_ld Tryd.isAgg3 (off := 0) (o := 0) (S.tm rfl) ((S.blk_mem (i := 0) (cells := [.int .i64 p_d.Year, .int .i64 p_d.Month, .int .i64 p_d.Day]) (b := b1) (T := 28) rfl (ne_nil (e' := .blk b1 [.int .i64 p_d.Year, .int .i64 p_d.Month, .int .i64 p_d.Day] 28))).kept hw) rfl)) ?_; clear S; intro a S
        refine d_loud1 2 (by kernel_rfl) rfl ?_
        refine l_enter S (fun _ => run_call (vs := [.int .i64 p_d.Year, .int .i64 1900, .int .i64 2100]) ⟨(S.tm rfl), rfl, rfl, trivial⟩ Tryd.call28) (words_Within_ok _ p_d.Year 1900 2100 _ rfl) rfl ?_; clear S; intro v21 a w27 hv21 hk26 hn21 S
        subst hv21
        refine l_done ?_
        refine d_next hk26 ?_
        refine d_quiet 3 S hsel rfl rfl rfl (by kernel_rfl) (by kernel_rfl) rfl (fun _ hw => (rn_not (S.tm rfl))) ?_; clear S; intro a S
        refine d_quiet 4 S hsel rfl rfl rfl (by kernel_rfl) (by kernel_rfl) rfl (fun _ hw => (rn_move (S.tm rfl))) ?_; clear S; intro a S
        refine d_quiet_g 5 S hsel rfl rfl rfl rfl hb1 rfl rfl (by kernel_rfl) (by kernel_rfl) rfl (fun _ hw => (rn_fld fa_28_1 (S.tm rfl))) ?_; clear S; intro a S
        refine d_quiet_g 6 S hsel rfl rfl rfl rfl hb1 rfl rfl (by kernel_rfl) (by kernel_rfl) rfl (fun _ hw => (rn_ld Tryd.isAgg3 (off := 0) (o := 1) (S.tm rfl) ((S.blk_mem (i := 0) (cells := [.int .i64 p_d.Year, .int .i64 p_d.Month, .int .i64 p_d.Day]) (b := b1) (T := 28) rfl (ne_nil (e' := .blk b1 [.int .i64 p_d.Year, .int .i64 p_d.Month, .int .i64 p_d.Day] 28))).kept hw) rfl)) ?_; clear S; intro a S
        refine d_loud1 7 (by kernel_rfl) rfl ?_
        refine l_want S rfl rfl rfl hb1 ?_
        refine l_enter S (fun _ => run_call (vs := [.int .i64 p_d.Month, .int .i64 1, .int .i64 12]) ⟨(S.tm rfl), rfl, rfl, trivial⟩ Tryd.call28) (words_Within_ok _ p_d.Month 1 12 _ rfl) rfl ?_; clear S; intro v22 a w28 hv22 hk27 hn22 S
        subst hv22
        refine l_done ?_
        refine d_next hk27 ?_
        refine d_quiet_g 8 S hsel rfl rfl rfl rfl hb1 rfl rfl (by kernel_rfl) (by kernel_rfl) rfl (fun _ hw => (rn_not (S.tm rfl))) ?_; clear S; intro a S
        refine d_quiet 9 S hsel rfl rfl rfl (by kernel_rfl) (by kernel_rfl) rfl (fun _ hw => (rn_pick_c hb1 (S.tm rfl) (S.tm rfl))) ?_; clear S; intro a S
        refine d_quiet 10 S hsel rfl rfl rfl (by kernel_rfl) (by kernel_rfl) rfl (fun _ hw => (rn_move (S.tm rfl))) ?_; clear S; intro a S
        refine d_quiet_g 11 S hsel rfl rfl rfl rfl hb3 rfl rfl (by kernel_rfl) (by kernel_rfl) rfl (fun _ hw => (rn_fld fa_28_2 (S.tm rfl))) ?_; clear S; intro a S
        refine d_quiet_g 12 S hsel rfl rfl rfl rfl hb3 rfl rfl (by kernel_rfl) (by kernel_rfl) rfl (fun _ hw => (rn_ld Tryd.isAgg3 (off := 0) (o := 2) (S.tm rfl) ((S.blk_mem (i := 0) (cells := [.int .i64 p_d.Year, .int .i64 p_d.Month, .int .i64 p_d.Day]) (b := b1) (T := 28) rfl (ne_nil (e' := .blk b1 [.int .i64 p_d.Year, .int .i64 p_d.Month, .int .i64 p_d.Day] 28))).kept hw) rfl)) ?_; clear S; intro a S
        refine d_quiet_g 13 S hsel rfl rfl rfl rfl hb3 rfl rfl (by kernel_rfl) (by kernel_rfl) rfl (fun _ hw => (rn_fld fa_28_0 (S.tm rfl))) ?_; clear S; intro a S
        refine d_quiet_g 14 S hsel rfl rfl rfl rfl hb3 rfl rfl (by kernel_rfl) (by kernel_rfl) rfl (fun _ hw => (rn_ld Tryd.isAgg3 (off := 0) (o := 0) (S.tm rfl) ((S.blk_mem (i := 0) (cells := [.int .i64 p_d.Year, .int .i64 p_d.Month, .int .i64 p_d.Day]) (b := b1) (T := 28) rfl (ne_nil (e' := .blk b1 [.int .i64 p_d.Year, .int .i64 p_d.Month, .int .i64 p_d.Day] 28))).kept hw) rfl)) ?_; clear S; intro a S
        refine d_quiet_g 15 S hsel rfl rfl rfl rfl hb3 rfl rfl (by kernel_rfl) (by kernel_rfl) rfl (fun _ hw => (rn_fld fa_28_1 (S.tm rfl))) ?_; clear S; intro a S
        refine d_quiet_g 16 S hsel rfl rfl rfl rfl hb3 rfl rfl (by kernel_rfl) (by kernel_rfl) rfl (fun _ hw => (rn_ld Tryd.isAgg3 (off := 0) (o := 1) (S.tm rfl) ((S.blk_mem (i := 0) (cells := [.int .i64 p_d.Year, .int .i64 p_d.Month, .int .i64 p_d.Day]) (b := b1) (T := 28) rfl (ne_nil (e' := .blk b1 [.int .i64 p_d.Year, .int .i64 p_d.Month, .int .i64 p_d.Day] 28))).kept hw) rfl)) ?_; clear S; intro a S
        refine d_loud1 17 (by kernel_rfl) rfl ?_
        refine l_want S rfl rfl rfl hb3 ?_
        refine l_enter S (fun _ => run_call (vs := [.int .i64 p_d.Year, .int .i64 p_d.Month]) ⟨(S.tm rfl), (S.tm rfl), trivial⟩ Tryd.call29) (swimmer_long_ok _ p_d.Year p_d.Month _ rfl) rfl ?_; clear S; intro v23 a w29 hv23 hk28 hn23 S
        subst hv23
        refine l_done ?_
        refine d_next hk28 ?_
        refine d_loud1 18 (by kernel_rfl) rfl ?_
        refine l_want S rfl rfl rfl hb3 ?_
        refine l_enter S (fun _ => run_call (vs := [.int .i64 p_d.Day, .int .i64 1, .int .i64 (swimmer_long p_d.Year p_d.Month)]) ⟨(S.tm rfl), rfl, (S.tm rfl), trivial⟩ Tryd.call28) (words_Within_ok _ p_d.Day 1 (swimmer_long p_d.Year p_d.Month) _ rfl) rfl ?_; clear S; intro v24 a w30 hv24 hk29 hn24 S
        subst hv24
        refine l_done ?_
        refine d_next hk29 ?_
        refine d_rest [19, 20] hsel (by kernel_rfl) rfl ?_
        clear hsel
        refine s_want S rfl rfl rfl rfl hb3 ?_
        refine s_lv0 S (rn_not (S.tm rfl)) rfl ?_; clear S; intro a S
        refine s_lv S rfl (rn_pick_c hb3 (S.tm rfl) (S.tm rfl)) rfl ?_; clear S; intro a S
        refine s_done ?_
        replace S := S.nf (L' := [.blk b1 [.int .i64 p_d.Year, .int .i64 p_d.Month, .int .i64 p_d.Day] 28]) (K' := [(1, .pointer (some ⟨b1, 0, none⟩)), (28, .bool (!(words_Within p_d.Day 1 (swimmer_long p_d.Year p_d.Month))))]) [true] rfl ⟨rfl, rfl, trivial⟩
        refine then_n ?_
        exact ⟨!(words_Within p_d.Day 1 (swimmer_long p_d.Year p_d.Month)), h, S.nf [true] rfl ⟨rfl, rfl, trivial⟩⟩
  clear S h; rintro a w2 ⟨x1, h, S⟩; rw [hj1] at h; clear hj1 j1
  refine then_n ?_
  refine f_cond (S.tm rfl) (fun hb4 => ?_) (fun hb4 => ?_)
  · replace h := iteT h hb4
    refine f_seq ?_
    refine f_region ?_
    refine lv S (rn_assign rfl) rfl ?_; clear S; intro a S
    refine lv S (rn_assign rfl) rfl ?_; clear S; intro a S
    refine l_done ?_
    replace S := S.nf (L' := []) (K' := [(2, .int .i64 0), (3, .int .i64 1)]) [false] rfl ⟨rfl, rfl, trivial⟩
    refine then_n ?_
    refine wp_ret ?_
    refine then_r ?_
    obtain rfl := Option.some.inj h
    exact f_ret2 S Tryd.results9 rfl rfl rfl
  · replace h := iteF h hb4
    refine wp_skip ?_
    refine then_n ?_
    refine f_seq ?_
    refine f_region ?_
    refine lv S (rn_fld fa_28_2 (S.tm rfl)) rfl ?_; clear S; intro a S
    refine lv S (rn_load Tryd.isAgg3 (S.tm rfl) (S.cell (i := 0) rfl rfl)) rfl ?_; clear S; intro a S
    refine lv S (rn_sub (S.tm rfl) rfl) rfl ?_; clear S; intro a S
    refine lv S (rn_assign (S.tm rfl)) rfl ?_; clear S; intro a S
    refine l_done ?_
    replace S := S.nf (L' := [.blk b1 [.int .i64 p_d.Year, .int .i64 p_d.Month, .int .i64 p_d.Day] 28]) (K' := [(1, .pointer (some ⟨b1, 0, none⟩)), (4, .int .i64 (W (p_d.Day - 1)))]) [true] rfl ⟨rfl, rfl, trivial⟩
    refine then_n ?_
    refine f_seq ?_
    refine f_seq ?_
    refine f_region ?_
    refine lv S (rn_assign rfl) rfl ?_; clear S; intro a S
    refine l_done ?_
    replace S := S.nf (L' := [.blk b1 [.int .i64 p_d.Year, .int .i64 p_d.Month, .int .i64 p_d.Day] 28]) (K' := [(1, .pointer (some ⟨b1, 0, none⟩)), (4, .int .i64 (W (p_d.Day - 1))), (5, .int .i64 1)]) [true] rfl ⟨rfl, rfl, rfl, trivial⟩
    refine then_n ?_
    obtain ⟨j2, hj2, h⟩ := joinE h
    refine f_join (fun a w' => ∃ x2 : Int, j2 x2 = some r ∧ Sx w [] nov [.blk b1 [.int .i64 p_d.Year, .int .i64 p_d.Month, .int .i64 p_d.Day] 28] [(1, .pointer (some ⟨b1, 0, none⟩)), (4, .int .i64 x2)] 68 a w') ?_ ?_
    · refine wp_block ?_
      refine f_loop (fun (m1 : Nat) a w' => ∃ x2 : Int, ∃ x3 : Int, swimmer_DayOf_l1 p_d j2 m1 x2 x3 = some r ∧ Sx w [] nov [.blk b1 [.int .i64 p_d.Year, .int .i64 p_d.Month, .int .i64 p_d.Day] 28] [(1, .pointer (some ⟨b1, 0, none⟩)), (4, .int .i64 x2), (5, .int .i64 x3)] 68 a w') id ((p_d.Month - 1).toNat + 2) ⟨W (p_d.Day - 1), 1, h, S.nf [true] rfl ⟨rfl, rfl, rfl, trivial⟩⟩ ?_
      clear S h; rintro m1 a w31 ⟨x2, x3, h, S⟩
      cases m1 with
      | zero => rw [swimmer_DayOf_l1.eq_1] at h; cases h
      | succ m1 =>
        rw [swimmer_DayOf_l1.eq_2] at h
        refine f_seq ?_
        refine f_seq ?_
        refine f_region ?_
        refine lv S (rn_move (S.tm rfl)) rfl ?_; clear S; intro a S
        refine lv S (rn_fld fa_28_1 (S.tm rfl)) rfl ?_; clear S; intro a S
        refine lv S (rn_load Tryd.isAgg3 (S.tm rfl) (S.cell (i := 0) rfl rfl)) rfl ?_; clear S; intro a S
        refine lv S (rn_lss (S.tm rfl) (S.tm rfl)) rfl ?_; clear S; intro a S
        refine l_done ?_
        replace S := S.nf (L' := [.blk b1 [.int .i64 p_d.Year, .int .i64 p_d.Month, .int .i64 p_d.Day] 28]) (K' := [(1, .pointer (some ⟨b1, 0, none⟩)), (4, .int .i64 x2), (5, .int .i64 x3), (35, .bool (decide (x3 < p_d.Month)))]) [true] rfl ⟨rfl, rfl, rfl, rfl, trivial⟩
        refine then_n ?_
        refine f_cond (S.tm rfl) (fun hb5 => ?_) (fun hb5 => ?_)
        · replace h := iteT h hb5
          refine wp_skip ?_
          refine then_n ?_
          refine f_seq ?_
          refine wp_block ?_
          refine f_region ?_
          refine lv S (rn_move (S.tm rfl)) rfl ?_; clear S; intro a S
          refine lv S (rn_fld fa_28_0 (S.tm rfl)) rfl ?_; clear S; intro a S
          refine lv S (rn_load Tryd.isAgg3 (S.tm rfl) (S.cell (i := 0) rfl rfl)) rfl ?_; clear S; intro a S
          refine lv S (rn_move (S.tm rfl)) rfl ?_; clear S; intro a S
          refine l_enter S (fun _ => run_call (vs := [.int .i64 p_d.Year, .int .i64 x3]) ⟨(S.tm rfl), (S.tm rfl), trivial⟩ Tryd.call29) (swimmer_long_ok _ p_d.Year x3 _ rfl) rfl ?_; clear S; intro v25 a w33 hv25 hk30 hn25 S
          subst hv25
          refine lv S (rn_add (S.tm rfl) (S.tm rfl)) rfl ?_; clear S; intro a S
          refine lv S (rn_assign (S.tm rfl)) rfl ?_; clear S; intro a S
          refine l_done ?_
          replace S := S.nf (L' := [.blk b1 [.int .i64 p_d.Year, .int .i64 p_d.Month, .int .i64 p_d.Day] 28]) (K' := [(1, .pointer (some ⟨b1, 0, none⟩)), (4, .int .i64 (W (x2 + (swimmer_long p_d.Year x3)))), (5, .int .i64 x3)]) [true] rfl ⟨rfl, rfl, rfl, trivial⟩
          refine blk_n ?_
          refine then_n ?_
          refine f_region ?_
          refine lv S (rn_move (S.tm rfl)) rfl ?_; clear S; intro a S
          refine lv S (rn_add (S.tm rfl) rfl) rfl ?_; clear S; intro a S
          refine lv S (rn_assign (S.tm rfl)) rfl ?_; clear S; intro a S
          refine l_done ?_
          replace S := S.nf (L' := [.blk b1 [.int .i64 p_d.Year, .int .i64 p_d.Month, .int .i64 p_d.Day] 28]) (K' := [(1, .pointer (some ⟨b1, 0, none⟩)), (4, .int .i64 (W (x2 + (swimmer_long p_d.Year x3)))), (5, .int .i64 (W (x3 + 1)))]) [true] rfl ⟨rfl, rfl, rfl, trivial⟩
          refine then_n ?_
          exact ⟨m1, ⟨W (x2 + (swimmer_long p_d.Year x3)), W (x3 + 1), h, S.nf [true] rfl ⟨rfl, rfl, rfl, trivial⟩⟩, Nat.lt_succ_self _⟩
        · replace h := iteF h hb5
          refine wp_exit ?_
          refine then_x ?_
          refine then_x ?_
          refine x_same ?_
          refine then_n ?_
          exact ⟨x2, h, S.nf [true] rfl ⟨rfl, rfl, trivial⟩⟩
    clear S h; rintro a w32 ⟨x2, h, S⟩; rw [hj2] at h; clear hj2 j2
    refine then_n ?_
    refine f_seq ?_
    refine f_seq ?_
    refine f_region ?_
    refine lv S (rn_assign rfl) rfl ?_; clear S; intro a S
    refine l_done ?_
    replace S := S.nf (L' := [.blk b1 [.int .i64 p_d.Year, .int .i64 p_d.Month, .int .i64 p_d.Day] 28]) (K' := [(1, .pointer (some ⟨b1, 0, none⟩)), (4, .int .i64 x2), (6, .int .i64 2024)]) [true] rfl ⟨rfl, rfl, rfl, trivial⟩
    refine then_n ?_
    obtain ⟨j3, hj3, h⟩ := joinE h
    refine f_join (fun a w' => ∃ x4 : Int, j3 x4 = some r ∧ Sx w [] nov [.blk b1 [.int .i64 p_d.Year, .int .i64 p_d.Month, .int .i64 p_d.Day] 28] [(1, .pointer (some ⟨b1, 0, none⟩)), (4, .int .i64 x4)] 68 a w') ?_ ?_
    · refine wp_block ?_
      refine f_loop (fun (m2 : Nat) a w' => ∃ x4 : Int, ∃ x5 : Int, swimmer_DayOf_l2 p_d j3 m2 x4 x5 = some r ∧ Sx w [] nov [.blk b1 [.int .i64 p_d.Year, .int .i64 p_d.Month, .int .i64 p_d.Day] 28] [(1, .pointer (some ⟨b1, 0, none⟩)), (4, .int .i64 x4), (6, .int .i64 x5)] 68 a w') id ((p_d.Year - 2024).toNat + 2) ⟨x2, 2024, h, S.nf [true] rfl ⟨rfl, rfl, rfl, trivial⟩⟩ ?_
      clear S h; rintro m2 a w34 ⟨x4, x5, h, S⟩
      cases m2 with
      | zero => rw [swimmer_DayOf_l2.eq_1] at h; cases h
      | succ m2 =>
        rw [swimmer_DayOf_l2.eq_2] at h
        refine f_seq ?_
        refine f_seq ?_
        refine f_region ?_
        refine lv S (rn_move (S.tm rfl)) rfl ?_; clear S; intro a S
        refine lv S (rn_fld fa_28_0 (S.tm rfl)) rfl ?_; clear S; intro a S
        refine lv S (rn_load Tryd.isAgg3 (S.tm rfl) (S.cell (i := 0) rfl rfl)) rfl ?_; clear S; intro a S
        refine lv S (rn_lss (S.tm rfl) (S.tm rfl)) rfl ?_; clear S; intro a S
        refine l_done ?_
        replace S := S.nf (L' := [.blk b1 [.int .i64 p_d.Year, .int .i64 p_d.Month, .int .i64 p_d.Day] 28]) (K' := [(1, .pointer (some ⟨b1, 0, none⟩)), (4, .int .i64 x4), (6, .int .i64 x5), (47, .bool (decide (x5 < p_d.Year)))]) [true] rfl ⟨rfl, rfl, rfl, rfl, trivial⟩
        refine then_n ?_
        refine f_cond (S.tm rfl) (fun hb6 => ?_) (fun hb6 => ?_)
        · replace h := iteT h hb6
          refine wp_skip ?_
          refine then_n ?_
          refine f_seq ?_
          refine wp_block ?_
          refine f_region ?_
          refine lv S (rn_move (S.tm rfl)) rfl ?_; clear S; intro a S
          refine lv S (rn_move (S.tm rfl)) rfl ?_; clear S; intro a S
          refine l_enter S (fun _ => run_call (vs := [.int .i64 x5]) ⟨(S.tm rfl), trivial⟩ Tryd.call30) (swimmer_yearLong_ok _ x5 _ rfl) rfl ?_; clear S; intro v26 a w36 hv26 hk31 hn26 S
          subst hv26
          refine lv S (rn_add (S.tm rfl) (S.tm rfl)) rfl ?_; clear S; intro a S
          refine lv S (rn_assign (S.tm rfl)) rfl ?_; clear S; intro a S
          refine l_done ?_
          replace S := S.nf (L' := [.blk b1 [.int .i64 p_d.Year, .int .i64 p_d.Month, .int .i64 p_d.Day] 28]) (K' := [(1, .pointer (some ⟨b1, 0, none⟩)), (4, .int .i64 (W (x4 + (swimmer_yearLong x5)))), (6, .int .i64 x5)]) [true] rfl ⟨rfl, rfl, rfl, trivial⟩
          refine blk_n ?_
          refine then_n ?_
          refine f_region ?_
          refine lv S (rn_move (S.tm rfl)) rfl ?_; clear S; intro a S
          refine lv S (rn_add (S.tm rfl) rfl) rfl ?_; clear S; intro a S
          refine lv S (rn_assign (S.tm rfl)) rfl ?_; clear S; intro a S
          refine l_done ?_
          replace S := S.nf (L' := [.blk b1 [.int .i64 p_d.Year, .int .i64 p_d.Month, .int .i64 p_d.Day] 28]) (K' := [(1, .pointer (some ⟨b1, 0, none⟩)), (4, .int .i64 (W (x4 + (swimmer_yearLong x5)))), (6, .int .i64 (W (x5 + 1)))]) [true] rfl ⟨rfl, rfl, rfl, trivial⟩
          refine then_n ?_
          exact ⟨m2, ⟨W (x4 + (swimmer_yearLong x5)), W (x5 + 1), h, S.nf [true] rfl ⟨rfl, rfl, rfl, trivial⟩⟩, Nat.lt_succ_self _⟩
        · replace h := iteF h hb6
          refine wp_exit ?_
          refine then_x ?_
          refine then_x ?_
          refine x_same ?_
          refine then_n ?_
          exact ⟨x4, h, S.nf [true] rfl ⟨rfl, rfl, trivial⟩⟩
    clear S h; rintro a w35 ⟨x4, h, S⟩; rw [hj3] at h; clear hj3 j3
    refine then_n ?_
    refine f_seq ?_
    refine f_seq ?_
    refine f_region ?_
    refine lv S (rn_fld fa_28_0 (S.tm rfl)) rfl ?_; clear S; intro a S
    refine lv S (rn_load Tryd.isAgg3 (S.tm rfl) (S.cell (i := 0) rfl rfl)) rfl ?_; clear S; intro a S
    refine lv S (rn_assign (S.tm rfl)) rfl ?_; clear S; intro a S
    refine l_done ?_
    replace S := S.nf (L' := []) (K' := [(4, .int .i64 x4), (7, .int .i64 p_d.Year)]) [false] rfl ⟨rfl, rfl, trivial⟩
    refine then_n ?_
    obtain ⟨j4, hj4, h⟩ := joinE h
    refine f_join (fun a w' => ∃ x6 : Int, j4 x6 = some r ∧ Sx w [] nov [] [(4, .int .i64 x6)] 68 a w') ?_ ?_
    · refine wp_block ?_
      refine f_loop (fun (m3 : Nat) a w' => ∃ x6 : Int, ∃ x7 : Int, swimmer_DayOf_l3 j4 m3 x6 x7 = some r ∧ Sx w [] nov [] [(4, .int .i64 x6), (7, .int .i64 x7)] 68 a w') id ((2024 - p_d.Year).toNat + 2) ⟨x4, p_d.Year, h, S.nf [] rfl ⟨rfl, rfl, trivial⟩⟩ ?_
      clear S h; rintro m3 a w37 ⟨x6, x7, h, S⟩
      cases m3 with
      | zero => rw [swimmer_DayOf_l3.eq_1] at h; cases h
      | succ m3 =>
        rw [swimmer_DayOf_l3.eq_2] at h
        refine f_seq ?_
        refine f_seq ?_
        refine f_region ?_
        refine lv S (rn_move (S.tm rfl)) rfl ?_; clear S; intro a S
        refine lv S (rn_lss (S.tm rfl) rfl) rfl ?_; clear S; intro a S
        refine l_done ?_
        replace S := S.nf (L' := []) (K' := [(4, .int .i64 x6), (7, .int .i64 x7), (57, .bool (decide (x7 < 2024)))]) [] rfl ⟨rfl, rfl, rfl, trivial⟩
        refine then_n ?_
        refine f_cond (S.tm rfl) (fun hb7 => ?_) (fun hb7 => ?_)
        · replace h := iteT h hb7
          refine wp_skip ?_
          refine then_n ?_
          refine f_seq ?_
          refine wp_block ?_
          refine f_region ?_
          refine lv S (rn_move (S.tm rfl)) rfl ?_; clear S; intro a S
          refine lv S (rn_move (S.tm rfl)) rfl ?_; clear S; intro a S
          refine l_enter S (fun _ => run_call (vs := [.int .i64 x7]) ⟨(S.tm rfl), trivial⟩ Tryd.call30) (swimmer_yearLong_ok _ x7 _ rfl) rfl ?_; clear S; intro v27 a w39 hv27 hk32 hn27 S
          subst hv27
          refine lv S (rn_sub (S.tm rfl) (S.tm rfl)) rfl ?_; clear S; intro a S
          refine lv S (rn_assign (S.tm rfl)) rfl ?_; clear S; intro a S
          refine l_done ?_
          replace S := S.nf (L' := []) (K' := [(4, .int .i64 (W (x6 - (swimmer_yearLong x7)))), (7, .int .i64 x7)]) [] rfl ⟨rfl, rfl, trivial⟩
          refine blk_n ?_
          refine then_n ?_
          refine f_region ?_
          refine lv S (rn_move (S.tm rfl)) rfl ?_; clear S; intro a S
          refine lv S (rn_add (S.tm rfl) rfl) rfl ?_; clear S; intro a S
          refine lv S (rn_assign (S.tm rfl)) rfl ?_; clear S; intro a S
          refine l_done ?_
          replace S := S.nf (L' := []) (K' := [(4, .int .i64 (W (x6 - (swimmer_yearLong x7)))), (7, .int .i64 (W (x7 + 1)))]) [] rfl ⟨rfl, rfl, trivial⟩
          refine then_n ?_
          exact ⟨m3, ⟨W (x6 - (swimmer_yearLong x7)), W (x7 + 1), h, S.nf [] rfl ⟨rfl, rfl, trivial⟩⟩, Nat.lt_succ_self _⟩
        · replace h := iteF h hb7
          refine wp_exit ?_
          refine then_x ?_
          refine then_x ?_
          refine x_same ?_
          refine then_n ?_
          exact ⟨x6, h, S.nf [] rfl ⟨rfl, trivial⟩⟩
    clear S h; rintro a w38 ⟨x6, h, S⟩; rw [hj4] at h; clear hj4 j4
    refine then_n ?_
    refine f_seq ?_
    refine f_seq ?_
    refine f_region ?_
    refine lv S (rn_move (S.tm rfl)) rfl ?_; clear S; intro a S
    refine l_enter S (fun _ => run_call (vs := [.int .i64 x6]) ⟨(S.tm rfl), trivial⟩ Tryd.call26) (swimmer_isDay_ok _ x6 _ rfl) rfl ?_; clear S; intro v28 a w40 hv28 hk33 hn28 S
    subst hv28
    refine lv S (rn_not (S.tm rfl)) rfl ?_; clear S; intro a S
    refine l_done ?_
    replace S := S.nf (L' := []) (K' := [(4, .int .i64 x6), (66, .bool (!(swimmer_isDay x6)))]) [] rfl ⟨rfl, rfl, trivial⟩
    refine then_n ?_
    refine f_cond (S.tm rfl) (fun hb8 => ?_) (fun hb8 => ?_)
    · replace h := iteT h hb8
      refine f_seq ?_
      refine f_region ?_
      refine lv S (rn_assign rfl) rfl ?_; clear S; intro a S
      refine lv S (rn_assign rfl) rfl ?_; clear S; intro a S
      refine l_done ?_
      replace S := S.nf (L' := []) (K' := [(2, .int .i64 0), (3, .int .i64 1)]) [] rfl ⟨rfl, rfl, trivial⟩
      refine then_n ?_
      refine wp_ret ?_
      refine then_r ?_
      obtain rfl := Option.some.inj h
      exact f_ret2 S Tryd.results9 rfl rfl rfl
    · replace h := iteF h hb8
      refine wp_skip ?_
      refine then_n ?_
      refine f_seq ?_
      refine f_region ?_
      refine lv S (rn_move (S.tm rfl)) rfl ?_; clear S; intro a S
      refine lv S (rn_assign (S.tm rfl)) rfl ?_; clear S; intro a S
      refine lv S (rn_assign rfl) rfl ?_; clear S; intro a S
      refine l_done ?_
      replace S := S.nf (L' := []) (K' := [(2, .int .i64 x6), (3, .int .i64 0)]) [] rfl ⟨rfl, rfl, trivial⟩
      refine then_n ?_
      refine wp_ret ?_
      obtain rfl := Option.some.inj h
      exact f_ret2 S Tryd.results9 rfl rfl rfl
theorem tumbref2_in_ok (w : World) (p_n : Int) (p_low : Int) (p_high : Int) (r : Bool) (h : tumbref2_in p_n p_low p_high = r) :
    Calls Tryd.prog 31 [.int .i64 p_n, .int .i64 p_low, .int .i64 p_high].toArray w (Ret w [] fun τ v w' => v = .bool r) := by
  refine f_enter [] [] Tryd.func31 rfl Tryd.ntmps31 rfl (by simp) (by simp [fps]) (by simp [fps]) fun a S => ?_
  unfold tumbref2_in at h
  replace S := S.nf (L' := []) (K' := [(0, .int .i64 p_n), (1, .int .i64 p_low), (2, .int .i64 p_high)]) [] rfl ⟨rfl, rfl, rfl, trivial⟩
  refine f_seq ?_
  refine f_region ?_
  refine lv S (rn_assign rfl) rfl ?_; clear S; intro a S
  refine l_done ?_
  replace S := S.nf (L' := []) (K' := [(0, .int .i64 p_n), (1, .int .i64 p_low), (2, .int .i64 p_high)]) [] rfl ⟨rfl, rfl, rfl, trivial⟩
  refine then_n ?_
  refine f_seq ?_
  refine f_region ?_
  refine lv S (rn_move (S.tm rfl)) rfl ?_; clear S; intro a S
  refine lv S (rn_move (S.tm rfl)) rfl ?_; clear S; intro a S
  refine lv S (rn_leq (S.tm rfl) (S.tm rfl)) rfl ?_; clear S; intro a S
  refine lv S (rn_move (S.tm rfl)) rfl ?_; clear S; intro a S
  refine f_cutm 4 (fun a w' => Keep [] w w' ∧ Sx w [] nov [] [(14, .bool ((decide (p_low ≤ p_n)) && (decide (p_n ≤ p_high))))] 15 a w') ?_ ?_
  · rcases Bool.eq_false_or_eq_true (decide (p_low ≤ p_n)) with hb1 | hb1
    · refine l_want S rfl rfl rfl hb1 ?_
      refine lv S (rn_move (S.tm rfl)) rfl ?_; clear S; intro a S
      refine l_want S rfl rfl rfl hb1 ?_
      refine lv S (rn_move (S.tm rfl)) rfl ?_; clear S; intro a S
      refine l_want S rfl rfl rfl hb1 ?_
      refine lv S (rn_leq (S.tm rfl) (S.tm rfl)) rfl ?_; clear S; intro a S
      refine lv S (rn_and_t hb1 (S.tm rfl) (S.tm rfl)) rfl ?_; clear S; intro a S
      refine l_done ?_
      refine then_n ?_
      exact ⟨Keep.refl _ _, S.nf [] rfl ⟨rfl, trivial⟩⟩
    · refine l_skip S rfl rfl rfl (by rw [hb1]; rfl) rfl ?_ rfl; clear S; intro a S
      refine l_skip S rfl rfl rfl (by rw [hb1]; rfl) rfl ?_ rfl; clear S; intro a S
      refine l_skip S rfl rfl rfl (by rw [hb1]; rfl) rfl ?_ rfl; clear S; intro a S
      refine lv S (rn_and_f (decide (p_n ≤ p_high)) hb1 (S.tm rfl) rfl) rfl ?_; clear S; intro a S
      refine l_done ?_
      refine then_n ?_
      exact ⟨Keep.refl _ _, S.nf [] rfl ⟨rfl, trivial⟩⟩
  clear S; rintro a w1 ⟨hk1, S⟩
  refine lv S (rn_assign (S.tm rfl)) rfl ?_; clear S; intro a S
  refine l_done ?_
  replace S := S.nf (L' := []) (K' := [(6, .bool ((decide (p_low ≤ p_n)) && (decide (p_n ≤ p_high))))]) [] rfl ⟨rfl, trivial⟩
  refine then_n ?_
  refine wp_ret ?_
  subst h
  exact f_ret S Tryd.results31 rfl rfl
theorem cmp_isNaN_int_ok (w : World) (p_x : Int) (r : Bool) (h : cmp_isNaN_int p_x = r) :
    Calls Tryd.prog 56 [.int .i64 p_x].toArray w (Ret w [] fun τ v w' => v = .bool r) := by
  refine f_enter [] [] Tryd.func56 rfl Tryd.ntmps56 rfl (by simp) (by simp [fps]) (by simp [fps]) fun a S => ?_
  unfold cmp_isNaN_int at h
  replace S := S.nf (L' := []) (K' := [(0, .int .i64 p_x)]) [] rfl ⟨rfl, trivial⟩
  refine f_seq ?_
  refine f_region ?_
  refine lv S (rn_assign rfl) rfl ?_; clear S; intro a S
  refine l_done ?_
  replace S := S.nf (L' := []) (K' := [(0, .int .i64 p_x)]) [] rfl ⟨rfl, trivial⟩
  refine then_n ?_
  refine f_seq ?_
  refine f_region ?_
  refine lv S (rn_move (S.tm rfl)) rfl ?_; clear S; intro a S
  refine lv S (rn_move (S.tm rfl)) rfl ?_; clear S; intro a S
  refine lv S (rn_neq (S.tm rfl) (S.tm rfl)) rfl ?_; clear S; intro a S
  refine lv S (rn_assign (S.tm rfl)) rfl ?_; clear S; intro a S
  refine l_done ?_
  replace S := S.nf (L' := []) (K' := [(2, .bool (!decide (p_x = p_x)))]) [] rfl ⟨rfl, trivial⟩
  refine then_n ?_
  refine wp_ret ?_
  subst h
  exact f_ret S Tryd.results56 rfl rfl
theorem cmp_Compare_int_ok (w : World) (p_x : Int) (p_y : Int) (r : Int) (h : cmp_Compare_int p_x p_y = r) :
    Calls Tryd.prog 47 [.int .i64 p_x, .int .i64 p_y].toArray w (Ret w [] fun τ v w' => v = .int .i64 r) := by
  refine f_enter [] [] Tryd.func47 rfl Tryd.ntmps47 rfl (by simp) (by simp [fps]) (by simp [fps]) fun a S => ?_
  unfold cmp_Compare_int at h
  replace S := S.nf (L' := []) (K' := [(0, .int .i64 p_x), (1, .int .i64 p_y)]) [] rfl ⟨rfl, rfl, trivial⟩
  refine f_seq ?_
  refine f_region ?_
  refine lv S (rn_assign rfl) rfl ?_; clear S; intro a S
  refine l_done ?_
  replace S := S.nf (L' := []) (K' := [(0, .int .i64 p_x), (1, .int .i64 p_y)]) [] rfl ⟨rfl, rfl, trivial⟩
  refine then_n ?_
  refine f_seq ?_
  refine f_region ?_
  refine lv S (rn_move (S.tm rfl)) rfl ?_; clear S; intro a S
  refine l_enter S (fun _ => run_call (vs := [.int .i64 p_x]) ⟨(S.tm rfl), trivial⟩ Tryd.call56) (cmp_isNaN_int_ok _ p_x _ rfl) rfl ?_; clear S; intro v1 a w1 hv1 hk1 hn1 S
  subst hv1
  refine lv S (rn_assign (S.tm rfl)) rfl ?_; clear S; intro a S
  refine l_done ?_
  replace S := S.nf (L' := []) (K' := [(0, .int .i64 p_x), (1, .int .i64 p_y), (5, .bool (cmp_isNaN_int p_x))]) [] rfl ⟨rfl, rfl, rfl, trivial⟩
  refine then_n ?_
  refine f_seq ?_
  refine f_region ?_
  refine lv S (rn_move (S.tm rfl)) rfl ?_; clear S; intro a S
  refine l_enter S (fun _ => run_call (vs := [.int .i64 p_y]) ⟨(S.tm rfl), trivial⟩ Tryd.call56) (cmp_isNaN_int_ok _ p_y _ rfl) rfl ?_; clear S; intro v2 a w2 hv2 hk2 hn2 S
  subst hv2
  refine lv S (rn_assign (S.tm rfl)) rfl ?_; clear S; intro a S
  refine l_done ?_
  replace S := S.nf (L' := []) (K' := [(0, .int .i64 p_x), (1, .int .i64 p_y), (5, .bool (cmp_isNaN_int p_x)), (6, .bool (cmp_isNaN_int p_y))]) [] rfl ⟨rfl, rfl, rfl, rfl, trivial⟩
  refine then_n ?_
  refine f_seq ?_
  refine f_seq ?_
  refine f_region ?_
  refine lv S (rn_move (S.tm rfl)) rfl ?_; clear S; intro a S
  refine l_done ?_
  replace S := S.nf (L' := []) (K' := [(0, .int .i64 p_x), (1, .int .i64 p_y), (6, .bool (cmp_isNaN_int p_y)), (11, .bool (cmp_isNaN_int p_x))]) [] rfl ⟨rfl, rfl, rfl, rfl, trivial⟩
  refine then_n ?_
  refine f_cond (S.tm rfl) (fun hb1 => ?_) (fun hb1 => ?_)
  · replace h := iteT h hb1
    refine f_seq ?_
    refine f_seq ?_
    refine f_region ?_
    refine lv S (rn_move (S.tm rfl)) rfl ?_; clear S; intro a S
    refine l_done ?_
    replace S := S.nf (L' := []) (K' := [(12, .bool (cmp_isNaN_int p_y))]) [] rfl ⟨rfl, trivial⟩
    refine then_n ?_
    refine f_cond (S.tm rfl) (fun hb2 => ?_) (fun hb2 => ?_)
    · replace h := iteT h hb2
      refine f_seq ?_
      refine f_region ?_
      refine lv S (rn_assign rfl) rfl ?_; clear S; intro a S
      refine l_done ?_
      replace S := S.nf (L' := []) (K' := [(4, .int .i64 0)]) [] rfl ⟨rfl, trivial⟩
      refine then_n ?_
      refine wp_ret ?_
      refine then_r ?_
      refine then_r ?_
      subst h
      exact f_ret S Tryd.results47 rfl rfl
    · replace h := iteF h hb2
      refine wp_skip ?_
      refine then_n ?_
      refine f_seq ?_
      refine f_region ?_
      refine lv S (rn_assign rfl) rfl ?_; clear S; intro a S
      refine l_done ?_
      replace S := S.nf (L' := []) (K' := [(4, .int .i64 (-1))]) [] rfl ⟨rfl, trivial⟩
      refine then_n ?_
      refine wp_ret ?_
      refine then_r ?_
      subst h
      exact f_ret S Tryd.results47 rfl rfl
  · replace h := iteF h hb1
    refine wp_skip ?_
    refine then_n ?_
    refine f_seq ?_
    refine f_seq ?_
    refine f_region ?_
    refine lv S (rn_move (S.tm rfl)) rfl ?_; clear S; intro a S
    refine l_done ?_
    replace S := S.nf (L' := []) (K' := [(0, .int .i64 p_x), (1, .int .i64 p_y), (13, .bool (cmp_isNaN_int p_y))]) [] rfl ⟨rfl, rfl, rfl, trivial⟩
    refine then_n ?_
    refine f_cond (S.tm rfl) (fun hb3 => ?_) (fun hb3 => ?_)
    · replace h := iteT h hb3
      refine f_seq ?_
      refine f_region ?_
      refine lv S (rn_assign rfl) rfl ?_; clear S; intro a S
      refine l_done ?_
      replace S := S.nf (L' := []) (K' := [(4, .int .i64 1)]) [] rfl ⟨rfl, trivial⟩
      refine then_n ?_
      refine wp_ret ?_
      refine then_r ?_
      subst h
      exact f_ret S Tryd.results47 rfl rfl
    · replace h := iteF h hb3
      refine wp_skip ?_
      refine then_n ?_
      refine f_seq ?_
      refine f_seq ?_
      refine f_region ?_
      refine lv S (rn_move (S.tm rfl)) rfl ?_; clear S; intro a S
      refine lv S (rn_move (S.tm rfl)) rfl ?_; clear S; intro a S
      refine lv S (rn_lss (S.tm rfl) (S.tm rfl)) rfl ?_; clear S; intro a S
      refine l_done ?_
      replace S := S.nf (L' := []) (K' := [(0, .int .i64 p_x), (1, .int .i64 p_y), (16, .bool (decide (p_x < p_y)))]) [] rfl ⟨rfl, rfl, rfl, trivial⟩
      refine then_n ?_
      refine f_cond (S.tm rfl) (fun hb4 => ?_) (fun hb4 => ?_)
      · replace h := iteT h hb4
        refine f_seq ?_
        refine f_region ?_
        refine lv S (rn_assign rfl) rfl ?_; clear S; intro a S
        refine l_done ?_
        replace S := S.nf (L' := []) (K' := [(4, .int .i64 (-1))]) [] rfl ⟨rfl, trivial⟩
        refine then_n ?_
        refine wp_ret ?_
        refine then_r ?_
        subst h
        exact f_ret S Tryd.results47 rfl rfl
      · replace h := iteF h hb4
        refine wp_skip ?_
        refine then_n ?_
        refine f_seq ?_
        refine f_seq ?_
        refine f_region ?_
        refine lv S (rn_move (S.tm rfl)) rfl ?_; clear S; intro a S
        refine lv S (rn_move (S.tm rfl)) rfl ?_; clear S; intro a S
        refine lv S (rn_gtr (S.tm rfl) (S.tm rfl)) rfl ?_; clear S; intro a S
        refine l_done ?_
        replace S := S.nf (L' := []) (K' := [(19, .bool (decide (p_y < p_x)))]) [] rfl ⟨rfl, trivial⟩
        refine then_n ?_
        refine f_cond (S.tm rfl) (fun hb5 => ?_) (fun hb5 => ?_)
        · replace h := iteT h hb5
          refine f_seq ?_
          refine f_region ?_
          refine lv S (rn_assign rfl) rfl ?_; clear S; intro a S
          refine l_done ?_
          replace S := S.nf (L' := []) (K' := [(4, .int .i64 1)]) [] rfl ⟨rfl, trivial⟩
          refine then_n ?_
          refine wp_ret ?_
          refine then_r ?_
          subst h
          exact f_ret S Tryd.results47 rfl rfl
        · replace h := iteF h hb5
          refine wp_skip ?_
          refine then_n ?_
          refine f_seq ?_
          refine f_region ?_
          refine lv S (rn_assign rfl) rfl ?_; clear S; intro a S
          refine l_done ?_
          replace S := S.nf (L' := []) (K' := [(4, .int .i64 0)]) [] rfl ⟨rfl, trivial⟩
          refine then_n ?_
          refine wp_ret ?_
          subst h
          exact f_ret S Tryd.results47 rfl rfl
theorem slices_Compare_int_ok (w : World) (v_p_s1 : Value) (p_s1 : List Int) (hs_p_s1 : Slc (view w []) 1 v_p_s1 (p_s1.map eInt)) (v_p_s2 : Value) (p_s2 : List Int) (hs_p_s2 : Slc (view w []) 1 v_p_s2 (p_s2.map eInt)) (r : Int) (h : slices_Compare_int p_s1 p_s2 = some r) :
    Calls Tryd.prog 42 [v_p_s1, v_p_s2].toArray w (Ret w [] fun τ v w' => v = .int .i64 r) := by
  refine f_enter [] [] Tryd.func42 rfl Tryd.ntmps42 rfl (by simp) (by simp [fps]) (by simp [fps]) fun a S => ?_
  unfold slices_Compare_int at h
  replace S := S.nf (L' := []) (K' := [(0, v_p_s1), (1, v_p_s2)]) [] rfl ⟨rfl, rfl, trivial⟩
  refine f_seq ?_
  refine f_region ?_
  refine lv S (rn_assign rfl) rfl ?_; clear S; intro a S
  refine l_done ?_
  replace S := S.nf (L' := []) (K' := [(0, v_p_s1), (1, v_p_s2)]) [] rfl ⟨rfl, rfl, trivial⟩
  refine then_n ?_
  refine f_seq ?_
  refine f_seq ?_
  refine f_region ?_
  refine lv S (rn_move (S.tm rfl)) rfl ?_; clear S; intro a S
  refine lv S (rn_lenT sl_22 (S.tm rfl) (slc_len hs_p_s1)) rfl ?_; clear S; intro a S
  refine lv S (rn_move rfl) rfl ?_; clear S; intro a S
  refine l_done ?_
  replace S := S.nf (L' := []) (K' := [(0, v_p_s1), (1, v_p_s2), (9, v_p_s1), (10, .int .i64 (p_s1.length : Int)), (11, .int .i64 0)]) [] rfl ⟨rfl, rfl, rfl, rfl, rfl, trivial⟩
  refine then_n ?_
  obtain ⟨j1, hj1, h⟩ := joinE h
  refine f_join (fun a w' => j1 = some r ∧ Sx w [] nov [] [(0, v_p_s1), (1, v_p_s2)] 36 a w') ?_ ?_
  · refine wp_block ?_
    refine f_loop (fun (ys1 : List Int) a w' => ∃ i1 : Nat, (∃ dn, p_s1 = dn ++ ys1 ∧ dn.length = i1) ∧ slices_Compare_int_l1 p_s2 j1 ys1 i1 = some r ∧ Sx w [] nov [] [(0, v_p_s1), (1, v_p_s2), (9, v_p_s1), (10, .int .i64 (p_s1.length : Int)), (11, .int .i64 (i1 : Int))] 36 a w') List.length p_s1 ⟨0, ⟨[], rfl, rfl⟩, h, S.nf [] rfl ⟨rfl, rfl, rfl, rfl, rfl, trivial⟩⟩ ?_
    clear S h; rintro ys1 a w1 ⟨i1, ⟨dn, hd1, hi1⟩, h, S⟩
    cases ys1 with
    | nil =>
      rw [slices_Compare_int_l1.eq_1] at h
      refine f_seq ?_
      refine f_region ?_
      refine lv S (rn_lss (S.tm rfl) (S.tm rfl)) rfl ?_; clear S; intro a S
      refine l_done ?_
      replace S := S.nf (L' := []) (K' := [(0, v_p_s1), (1, v_p_s2), (9, v_p_s1), (10, .int .i64 (p_s1.length : Int)), (11, .int .i64 (i1 : Int)), (12, .bool (decide ((i1 : Int) < (p_s1.length : Int))))]) [] rfl ⟨rfl, rfl, rfl, rfl, rfl, rfl, trivial⟩
      refine then_n ?_
      refine f_seq ?_
      refine wp_cond_false ((S.tm rfl).trans (congrArg Value.bool (rng_nil hd1 hi1))) ?_
      refine wp_exit ?_
      refine then_x ?_
      refine then_x ?_
      refine x_same ?_
      refine then_n ?_
      exact ⟨h, S.nf [] rfl ⟨rfl, rfl, trivial⟩⟩
    | cons y1 ys1 =>
      rw [slices_Compare_int_l1.eq_2] at h
      refine f_seq ?_
      refine f_region ?_
      refine lv S (rn_lss (S.tm rfl) (S.tm rfl)) rfl ?_; clear S; intro a S
      refine l_done ?_
      replace S := S.nf (L' := []) (K' := [(0, v_p_s1), (1, v_p_s2), (9, v_p_s1), (10, .int .i64 (p_s1.length : Int)), (11, .int .i64 (i1 : Int)), (12, .bool (decide ((i1 : Int) < (p_s1.length : Int))))]) [] rfl ⟨rfl, rfl, rfl, rfl, rfl, rfl, trivial⟩
      refine then_n ?_
      refine f_seq ?_
      refine wp_cond_true ((S.tm rfl).trans (congrArg Value.bool (rng_cons hd1 hi1))) ?_
      refine wp_skip ?_
      refine then_n ?_
      refine f_seq ?_
      refine wp_block ?_
      refine f_seq ?_
      refine f_region ?_
      refine lv S (rn_move (S.tm rfl)) rfl ?_; clear S; intro a S
      obtain ⟨b1, o1, hm1, hr1⟩ := rn_indexT (a := a) (x := .tmp 9) (y := .tmp 11) (ty := 0) sl_22 hs_p_s1 (get_mid hd1 hi1) rfl (S.tm rfl) (S.tm rfl)
      refine lv S (hr1 _) rfl ?_; clear S; intro a S
      clear hr1
      refine lv S (rn_ld Tryd.isAgg3 (off := o1) (o := 0) (S.tm rfl) (hm1.at S.emb0) rfl) rfl ?_; clear S; intro a S
      refine lv S (rn_assign (S.tm rfl)) rfl ?_; clear S; intro a S
      refine lv S (rn_assign (S.tm rfl)) rfl ?_; clear S; intro a S
      refine l_done ?_
      replace S := S.nf (L' := []) (K' := [(0, v_p_s1), (1, v_p_s2), (5, .int .i64 (i1 : Int)), (6, .int .i64 y1), (9, v_p_s1), (10, .int .i64 (p_s1.length : Int)), (11, .int .i64 (i1 : Int))]) [] rfl ⟨rfl, rfl, rfl, rfl, rfl, rfl, rfl, trivial⟩
      refine then_n ?_
      refine f_seq ?_
      refine f_seq ?_
      refine f_region ?_
      refine lv S (rn_move (S.tm rfl)) rfl ?_; clear S; intro a S
      refine lv S (rn_move (S.tm rfl)) rfl ?_; clear S; intro a S
      refine lv S (rn_lenT sl_22 (S.tm rfl) (slc_len hs_p_s2)) rfl ?_; clear S; intro a S
      refine lv S (rn_geq (S.tm rfl) (S.tm rfl)) rfl ?_; clear S; intro a S
      refine l_done ?_
      replace S := S.nf (L' := []) (K' := [(0, v_p_s1), (1, v_p_s2), (5, .int .i64 (i1 : Int)), (6, .int .i64 y1), (9, v_p_s1), (10, .int .i64 (p_s1.length : Int)), (11, .int .i64 (i1 : Int)), (19, .bool (decide ((p_s2.length : Int) ≤ (i1 : Int))))]) [] rfl ⟨rfl, rfl, rfl, rfl, rfl, rfl, rfl, rfl, trivial⟩
      refine then_n ?_
      refine f_cond (S.tm rfl) (fun hb1 => ?_) (fun hb1 => ?_)
      · replace h := iteT h hb1
        refine f_seq ?_
        refine f_region ?_
        refine lv S (rn_assign rfl) rfl ?_; clear S; intro a S
        refine l_done ?_
        replace S := S.nf (L' := []) (K' := [(4, .int .i64 1)]) [] rfl ⟨rfl, trivial⟩
        refine then_n ?_
        refine wp_ret ?_
        refine then_r ?_
        refine blk_r ?_
        refine then_r ?_
        refine then_r ?_
        refine blk_r ?_
        refine then_r ?_
        refine then_r ?_
        obtain rfl := Option.some.inj h
        exact f_ret S Tryd.results42 rfl rfl
      · replace h := iteF h hb1
        refine wp_skip ?_
        refine then_n ?_
        refine f_seq ?_
        refine f_region ?_
        refine lv S (rn_move (S.tm rfl)) rfl ?_; clear S; intro a S
        refine lv S (rn_move (S.tm rfl)) rfl ?_; clear S; intro a S
        obtain ⟨hc1, h⟩ := chkE h
        obtain ⟨b2, o2, hm2, hr2⟩ := rn_indexT (a := a) (x := .tmp 20) (y := .tmp 21) (ty := 0) sl_22 hs_p_s2 (inB_get hc1).1 (inB_get hc1).2 (S.tm rfl) (S.tm rfl)
        refine lv S (hr2 _) rfl ?_; clear S; intro a S
        clear hr2
        refine lv S (rn_ld Tryd.isAgg3 (off := o2) (o := 0) (S.tm rfl) (hm2.at S.emb0) rfl) rfl ?_; clear S; intro a S
        refine lv S (rn_assign (S.tm rfl)) rfl ?_; clear S; intro a S
        refine l_done ?_
        replace S := S.nf (L' := []) (K' := [(0, v_p_s1), (1, v_p_s2), (6, .int .i64 y1), (7, .int .i64 (nth p_s2 (i1 : Int))), (9, v_p_s1), (10, .int .i64 (p_s1.length : Int)), (11, .int .i64 (i1 : Int))]) [] rfl ⟨rfl, rfl, rfl, rfl, rfl, rfl, rfl, trivial⟩
        refine then_n ?_
        refine f_seq ?_
        refine f_region ?_
        refine lv S (rn_move (S.tm rfl)) rfl ?_; clear S; intro a S
        refine lv S (rn_move (S.tm rfl)) rfl ?_; clear S; intro a S
        refine l_enter S (fun _ => run_call (vs := [.int .i64 y1, .int .i64 (nth p_s2 (i1 : Int))]) ⟨(S.tm rfl), (S.tm rfl), trivial⟩ Tryd.call47) (cmp_Compare_int_ok _ y1 (nth p_s2 (i1 : Int)) _ rfl) rfl ?_; clear S; intro v1 a w3 hv1 hk1 hn1 S
        subst hv1
        refine lv S (rn_assign (S.tm rfl)) rfl ?_; clear S; intro a S
        refine l_done ?_
        replace S := S.nf (L' := []) (K' := [(0, v_p_s1), (1, v_p_s2), (8, .int .i64 (cmp_Compare_int y1 (nth p_s2 (i1 : Int)))), (9, v_p_s1), (10, .int .i64 (p_s1.length : Int)), (11, .int .i64 (i1 : Int))]) [] rfl ⟨rfl, rfl, rfl, rfl, rfl, rfl, trivial⟩
        refine then_n ?_
        refine f_seq ?_
        refine f_region ?_
        refine lv S (rn_move (S.tm rfl)) rfl ?_; clear S; intro a S
        refine lv S (rn_neq (S.tm rfl) rfl) rfl ?_; clear S; intro a S
        refine l_done ?_
        replace S := S.nf (L' := []) (K' := [(0, v_p_s1), (1, v_p_s2), (8, .int .i64 (cmp_Compare_int y1 (nth p_s2 (i1 : Int)))), (9, v_p_s1), (10, .int .i64 (p_s1.length : Int)), (11, .int .i64 (i1 : Int)), (28, .bool (!decide ((cmp_Compare_int y1 (nth p_s2 (i1 : Int))) = 0)))]) [] rfl ⟨rfl, rfl, rfl, rfl, rfl, rfl, rfl, trivial⟩
        refine then_n ?_
        refine f_cond (S.tm rfl) (fun hb2 => ?_) (fun hb2 => ?_)
        · replace h := iteT h hb2
          refine f_seq ?_
          refine f_region ?_
          refine lv S (rn_move (S.tm rfl)) rfl ?_; clear S; intro a S
          refine lv S (rn_assign (S.tm rfl)) rfl ?_; clear S; intro a S
          refine l_done ?_
          replace S := S.nf (L' := []) (K' := [(4, .int .i64 (cmp_Compare_int y1 (nth p_s2 (i1 : Int))))]) [] rfl ⟨rfl, trivial⟩
          refine then_n ?_
          refine wp_ret ?_
          refine blk_r ?_
          refine then_r ?_
          refine then_r ?_
          refine blk_r ?_
          refine then_r ?_
          refine then_r ?_
          obtain rfl := Option.some.inj h
          exact f_ret S Tryd.results42 rfl rfl
        · replace h := iteF h hb2
          refine wp_skip ?_
          refine blk_n ?_
          refine then_n ?_
          refine f_region ?_
          refine lv S (rn_add (S.tm rfl) rfl) rfl ?_; clear S; intro a S
          refine lv S (rn_move (S.tm rfl)) rfl ?_; clear S; intro a S
          refine l_done ?_
          replace S := S.nf (L' := []) (K' := [(0, v_p_s1), (1, v_p_s2), (9, v_p_s1), (10, .int .i64 (p_s1.length : Int)), (11, .int .i64 (W ((i1 : Int) + 1)))]) [] rfl ⟨rfl, rfl, rfl, rfl, rfl, trivial⟩
          refine then_n ?_
          exact ⟨ys1, ⟨i1 + 1, ⟨_, (hd1).trans (List.append_cons _ _ _), by simp [hi1]⟩, h, S.nf [] rfl ⟨rfl, rfl, rfl, rfl, (congrArg (fun z => some (Value.int .i64 z)) (rng_next hd1 hi1 (slc_max hs_p_s1))), trivial⟩⟩, Nat.lt_succ_self _⟩
  clear S h; rintro a w2 ⟨h, S⟩; rw [hj1] at h; clear hj1 j1
  refine then_n ?_
  refine f_seq ?_
  refine f_seq ?_
  refine f_region ?_
  refine lv S (rn_move (S.tm rfl)) rfl ?_; clear S; intro a S
  refine lv S (rn_lenT sl_22 (S.tm rfl) (slc_len hs_p_s1)) rfl ?_; clear S; intro a S
  refine lv S (rn_move (S.tm rfl)) rfl ?_; clear S; intro a S
  refine lv S (rn_lenT sl_22 (S.tm rfl) (slc_len hs_p_s2)) rfl ?_; clear S; intro a S
  refine lv S (rn_lss (S.tm rfl) (S.tm rfl)) rfl ?_; clear S; intro a S
  refine l_done ?_
  replace S := S.nf (L' := []) (K' := [(35, .bool (decide ((p_s1.length : Int) < (p_s2.length : Int))))]) [] rfl ⟨rfl, trivial⟩
  refine then_n ?_
  refine f_cond (S.tm rfl) (fun hb3 => ?_) (fun hb3 => ?_)
  · replace h := iteT h hb3
    refine f_seq ?_
    refine f_region ?_
    refine lv S (rn_assign rfl) rfl ?_; clear S; intro a S
    refine l_done ?_
    replace S := S.nf (L' := []) (K' := [(4, .int .i64 (-1))]) [] rfl ⟨rfl, trivial⟩
    refine then_n ?_
    refine wp_ret ?_
    refine then_r ?_
    obtain rfl := Option.some.inj h
    exact f_ret S Tryd.results42 rfl rfl
  · replace h := iteF h hb3
    refine wp_skip ?_
    refine then_n ?_
    refine f_seq ?_
    refine f_region ?_
    refine lv S (rn_assign rfl) rfl ?_; clear S; intro a S
    refine l_done ?_
    replace S := S.nf (L' := []) (K' := [(4, .int .i64 0)]) [] rfl ⟨rfl, trivial⟩
    refine then_n ?_
    refine wp_ret ?_
    obtain rfl := Option.some.inj h
    exact f_ret S Tryd.results42 rfl rfl
theorem tumbref2_dateOrder_ok (w : World) (p_a : GDate) (p_b : GDate) (r : Int) (h : tumbref2_dateOrder p_a p_b = some r) :
    Calls Tryd.prog 33 [.agg (GDate.enc p_a).toArray, .agg (GDate.enc p_b).toArray].toArray w (Ret w [] fun τ v w' => v = .int .i64 r) := by
  refine f_enter [] [] Tryd.func33 rfl Tryd.ntmps33 rfl (by simp) (by simp [fps]) (by simp [fps]) fun a S => ?_
  unfold tumbref2_dateOrder at h
  replace S := S.nf (L' := []) (K' := [(0, .agg (GDate.enc p_a).toArray), (1, .agg (GDate.enc p_b).toArray)]) [] rfl ⟨rfl, rfl, trivial⟩
  refine f_seq ?_
  refine f_region ?_
  refine l_box S (S.tm rfl) (cs := [.int .i64 p_a.Year, .int .i64 p_a.Month, .int .i64 p_a.Day]) rfl rfl ?_; clear S; intro a w1 b1 hz1 hk1 S
  refine l_box S (S.tm rfl) (cs := [.int .i64 p_b.Year, .int .i64 p_b.Month, .int .i64 p_b.Day]) rfl rfl ?_; clear S; intro a w2 b2 hz2 hk2 S
  refine lv S (rn_assign rfl) rfl ?_; clear S; intro a S
  refine l_done ?_
  replace S := S.nf (L' := [.blk b2 [.int .i64 p_b.Year, .int .i64 p_b.Month, .int .i64 p_b.Day] 28, .blk b1 [.int .i64 p_a.Year, .int .i64 p_a.Month, .int .i64 p_a.Day] 28]) (K' := [(2, .pointer (some ⟨b1, 0, none⟩)), (3, .pointer (some ⟨b2, 0, none⟩))]) [true, true] rfl ⟨rfl, rfl, trivial⟩
  refine then_n ?_
  refine f_seq ?_
  refine f_region ?_
  refine lv S (rn_fld fa_28_0 (S.tm rfl)) rfl ?_; clear S; intro a S
  refine lv S (rn_load Tryd.isAgg3 (S.tm rfl) (S.cell (i := 1) rfl rfl)) rfl ?_; clear S; intro a S
  refine lv S (rn_fld fa_28_1 (S.tm rfl)) rfl ?_; clear S; intro a S
  refine lv S (rn_load Tryd.isAgg3 (S.tm rfl) (S.cell (i := 1) rfl rfl)) rfl ?_; clear S; intro a S
  refine lv S (rn_fld fa_28_2 (S.tm rfl)) rfl ?_; clear S; intro a S
  refine lv S (rn_load Tryd.isAgg3 (S.tm rfl) (S.cell (i := 1) rfl rfl)) rfl ?_; clear S; intro a S
  refine l_buildSlice S Tryd.underlying22 Tryd.sizeOf3 Tryd.zeroValue3 rfl rfl (pv := [(0, .int .i64 p_a.Year), (1, .int .i64 p_a.Month), (2, .int .i64 p_a.Day)]) ⟨rfl, (S.tm rfl), rfl, (S.tm rfl), rfl, (S.tm rfl), trivial⟩ (cs := [.int .i64 p_a.Year, .int .i64 p_a.Month, .int .i64 p_a.Day]) (by kernel_rfl) rfl ?_; clear S; intro a w3 b3 hz3 hk3 S
  refine lv S (rn_fld fa_28_0 (S.tm rfl)) rfl ?_; clear S; intro a S
  refine lv S (rn_load Tryd.isAgg3 (S.tm rfl) (S.cell (i := 1) rfl rfl)) rfl ?_; clear S; intro a S
  refine lv S (rn_fld fa_28_1 (S.tm rfl)) rfl ?_; clear S; intro a S
  refine lv S (rn_load Tryd.isAgg3 (S.tm rfl) (S.cell (i := 1) rfl rfl)) rfl ?_; clear S; intro a S
  refine lv S (rn_fld fa_28_2 (S.tm rfl)) rfl ?_; clear S; intro a S
  refine lv S (rn_load Tryd.isAgg3 (S.tm rfl) (S.cell (i := 1) rfl rfl)) rfl ?_; clear S; intro a S
  refine l_buildSlice S Tryd.underlying22 Tryd.sizeOf3 Tryd.zeroValue3 rfl rfl (pv := [(0, .int .i64 p_b.Year), (1, .int .i64 p_b.Month), (2, .int .i64 p_b.Day)]) ⟨rfl, (S.tm rfl), rfl, (S.tm rfl), rfl, (S.tm rfl), trivial⟩ (cs := [.int .i64 p_b.Year, .int .i64 p_b.Month, .int .i64 p_b.Day]) (by kernel_rfl) rfl ?_; clear S; intro a w4 b4 hz4 hk4 S
  obtain ⟨r1, hr1, h⟩ := bindE h
  refine l_enter S (fun _ => run_call (vs := [.slice (some ⟨b3, 0, none⟩) 3 3, .slice (some ⟨b4, 0, none⟩) 3 3]) ⟨(S.tm rfl), (S.tm rfl), trivial⟩ Tryd.call42) (slices_Compare_int_ok _ (.slice (some ⟨b3, 0, none⟩) 3 3) [p_a.Year, p_a.Month, p_a.Day] (lit_slcT enc_int S (i := 1) rfl rfl rfl rfl ((ne_nil (e' := .blk b3 [.int .i64 p_a.Year, .int .i64 p_a.Month, .int .i64 p_a.Day] 3)) _ rfl)) (.slice (some ⟨b4, 0, none⟩) 3 3) [p_b.Year, p_b.Month, p_b.Day] (lit_slcT enc_int S (i := 0) rfl rfl rfl rfl ((ne_nil (e' := .blk b4 [.int .i64 p_b.Year, .int .i64 p_b.Month, .int .i64 p_b.Day] 3)) _ rfl)) _ hr1) rfl ?_; clear S; intro v1 a w5 hv1 hk5 hn1 S
  subst hv1
  refine lv S (rn_assign (S.tm rfl)) rfl ?_; clear S; intro a S
  refine l_done ?_
  replace S := S.nf (L' := []) (K' := [(4, .int .i64 r1)]) [false, false, false, false] rfl ⟨rfl, trivial⟩
  refine then_n ?_
  refine wp_ret ?_
  obtain rfl := Option.some.inj h
  exact f_ret S Tryd.results33 rfl rfl
set_option maxRecDepth 20000 in
theorem tumbref2_DayFor_ok (w : World) (p_d : GDate) (r : Int × Int) (h : tumbref2_DayFor p_d = some r) :
    Calls Tryd.prog 10 [.agg (GDate.enc p_d).toArray].toArray w (Ret w [] fun τ v w' => v = .tuple #[.int .i64 r.1, .int .i64 r.2]) := by
  refine f_enter [] [] Tryd.func10 rfl Tryd.ntmps10 rfl (by simp) (by simp [fps]) (by simp [fps]) fun a S => ?_
  unfold tumbref2_DayFor at h
  replace S := S.nf (L' := []) (K' := [(0, .agg (GDate.enc p_d).toArray)]) [] rfl ⟨rfl, trivial⟩
  refine f_seq ?_
  refine f_region ?_
  refine l_box S (S.tm rfl) (cs := [.int .i64 p_d.Year, .int .i64 p_d.Month, .int .i64 p_d.Day]) rfl rfl ?_; clear S; intro a w1 b1 hz1 hk1 S
  refine lv S (rn_assign rfl) rfl ?_; clear S; intro a S
  refine lv S (rn_assign rfl) rfl ?_; clear S; intro a S
  refine l_done ?_
  replace S := S.nf (L' := [.blk b1 [.int .i64 p_d.Year, .int .i64 p_d.Month, .int .i64 p_d.Day] 28]) (K' := [(1, .pointer (some ⟨b1, 0, none⟩))]) [true] rfl ⟨rfl, trivial⟩
  refine then_n ?_
  refine f_seq ?_
  refine f_seq ?_
  obtain ⟨j1, hj1, h⟩ := joinE h
  refine f_join (fun a w' => ∃ x1 : Bool, j1 x1 = some r ∧ Sx w [] nov [.blk b1 [.int .i64 p_d.Year, .int .i64 p_d.Month, .int .i64 p_d.Day] 28] [(1, .pointer (some ⟨b1, 0, none⟩)), (27, .bool x1)] 50 a w') ?_ ?_
  · rcases Bool.eq_false_or_eq_true (!(tumbref2_in p_d.Year 1914 2036)) with hb1 | hb1
    · replace h := iteT h hb1
      rcases Bool.eq_false_or_eq_true true with hb2 | hb2
      · replace h := iteT h hb2
        refine d_region [] ([]) Tryd.mixed S rfl (by kernel_rfl) ?_; clear S; intro w6 hk5 hsel S
        refine d_quiet 0 S hsel rfl rfl rfl (by kernel_rfl) (by kernel_rfl) rfl (fun _ hw => (rn_fld fa_28_0 (S.tm rfl))) ?_; clear S; intro a S
        refine d_quiet 1 S hsel rfl rfl rfl (by kernel_rfl) (by kernel_rfl) rfl (fun _ hw => (rn_ld Tryd.isAgg3 (off := 0) (o := 0) (S.tm rfl) ((S.blk_mem (i := 0) (cells := [.int .i64 p_d.Year, .int .i64 p_d.Month, .int .i64 p_d.Day]) (b := b1) (T := 28) rfl (ne_nil (e' := .blk b1 [.int .i64 p_d.Year, .int .i64 p_d.Month, .int .i64 p_d.Day] 28))).kept hw) rfl)) ?_; clear S; intro a S
        refine d_loud1 2 (by kernel_rfl) rfl ?_
        refine l_enter S (fun _ => run_call (vs := [.int .i64 p_d.Year, .int .i64 1914, .int .i64 2036]) ⟨(S.tm rfl), rfl, rfl, trivial⟩ Tryd.call31) (tumbref2_in_ok _ p_d.Year 1914 2036 _ rfl) rfl ?_; clear S; intro v4 a w7 hv4 hk6 hn4 S
        subst hv4
        refine l_done ?_
        refine d_next hk6 ?_
        refine d_rest [3, 4, 5, 6, 7, 8, 9, 10, 11, 12, 13, 14, 15, 16, 17, 18, 19, 20] hsel (by kernel_rfl) rfl ?_
        clear hsel
        refine s_lv S rfl (rn_not (S.tm rfl)) rfl ?_; clear S; intro a S
        refine s_lv S rfl (rn_move (S.tm rfl)) rfl ?_; clear S; intro a S
        refine s_skip S rfl rfl rfl rfl (by rw [hb1]; rfl) rfl ?_ rfl; clear S; intro a S
        refine s_skip S rfl rfl rfl rfl (by rw [hb1]; rfl) rfl ?_ rfl; clear S; intro a S
        refine s_skip S rfl rfl rfl rfl (by rw [hb1]; rfl) rfl ?_ rfl; clear S; intro a S
        refine s_skip S rfl rfl rfl rfl (by rw [hb1]; rfl) rfl ?_ rfl; clear S; intro a S
        refine s_lv S rfl (rn_pick_b hb1 (S.tm rfl) rfl) rfl ?_; clear S; intro a S
        refine s_lv S rfl (rn_move (S.tm rfl)) rfl ?_; clear S; intro a S
        refine s_skip S rfl rfl rfl rfl (by rw [hb2]; rfl) rfl ?_ rfl; clear S; intro a S
        refine s_skip S rfl rfl rfl rfl (by rw [hb2]; rfl) rfl ?_ rfl; clear S; intro a S
        refine s_skip S rfl rfl rfl rfl (by rw [hb2]; rfl) rfl ?_ rfl; clear S; intro a S
        refine s_skip S rfl rfl rfl rfl (by rw [hb2]; rfl) rfl ?_ rfl; clear S; intro a S
        refine s_skip S rfl rfl rfl rfl (by rw [hb2]; rfl) rfl ?_ rfl; clear S; intro a S
        refine s_skip S rfl rfl rfl rfl (by rw [hb2]; rfl) rfl ?_ rfl; clear S; intro a S
        refine s_skip S rfl rfl rfl rfl (by rw [hb2]; rfl) rfl ?_ rfl; clear S; intro a S
        refine s_skip S rfl rfl rfl rfl (by rw [hb2]; rfl) rfl ?_ rfl; clear S; intro a S
        refine s_skip S rfl rfl rfl rfl (by rw [hb2]; rfl) rfl ?_ rfl; clear S; intro a S
        refine s_lv S rfl (rn_pick_b hb2 (S.tm rfl) rfl) rfl ?_; clear S; intro a S
        refine s_done ?_
        replace S := S.nf (L' := [.blk b1 [.int .i64 p_d.Year, .int .i64 p_d.Month, .int .i64 p_d.Day] 28]) (K' := [(1, .pointer (some ⟨b1, 0, none⟩)), (27, .bool true)]) [true] rfl ⟨rfl, rfl, trivial⟩
        refine then_n ?_
        exact ⟨true, h, S.nf [true] rfl ⟨rfl, rfl, trivial⟩⟩
      · replace h := iteF h hb2
        obtain ⟨r1, hr1, h⟩ := bindE h
        refine d_region [] ([]) Tryd.mixed S rfl (by kernel_rfl) ?_; clear S; intro w11 hk10 hsel S
        refine d_quiet 0 S hsel rfl rfl rfl (by kernel_rfl) (by kernel_rfl) rfl (fun _ hw => (rn_fld fa_28_0 (S.tm rfl))) ?_; clear S; intro a S
        refine d_quiet 1 S hsel rfl rfl rfl (by kernel_rfl) (by kernel_rfl) rfl (fun _ hw => (rn_ld Tryd.isAgg3 (off := 0) (o := 0) (S.tm rfl) ((S.blk_mem (i := 0) (cells := [.int .i64 p_d.Year, .int .i64 p_d.Month, .int .i64 p_d.Day]) (b := b1) (T := 28) rfl (ne_nil (e' := .blk b1 [.int .i64 p_d.Year, .int .i64 p_d.Month, .int .i64 p_d.Day] 28))).kept hw) rfl)) ?_; clear S; intro a S
        refine d_loud1 2 (by kernel_rfl) rfl ?_
        refine l_enter S (fun _ => run_call (vs := [.int .i64 p_d.Year, .int .i64 1914, .int .i64 2036]) ⟨(S.tm rfl), rfl, rfl, trivial⟩ Tryd.call31) (tumbref2_in_ok _ p_d.Year 1914 2036 _ rfl) rfl ?_; clear S; intro v8 a w12 hv8 hk11 hn8 S
        subst hv8
        refine l_done ?_
        refine d_next hk11 ?_
        refine d_quiet 3 S hsel rfl rfl rfl (by kernel_rfl) (by kernel_rfl) rfl (fun _ hw => (rn_not (S.tm rfl))) ?_; clear S; intro a S
        refine d_quiet 4 S hsel rfl rfl rfl (by kernel_rfl) (by kernel_rfl) rfl (fun _ hw => (rn_move (S.tm rfl))) ?_; clear S; intro a S
        refine d_skip 5 S hsel rfl rfl rfl rfl (by rw [hb1]; rfl) rfl (by kernel_rfl) (by kernel_rfl) rfl ?_; clear S; intro a S
        refine d_skip 6 S hsel rfl rfl rfl rfl (by rw [hb1]; rfl) rfl (by kernel_rfl) (by kernel_rfl) rfl ?_; clear S; intro a S
        refine d_skip 7 S hsel rfl rfl rfl rfl (by rw [hb1]; rfl) rfl (by kernel_rfl) (by kernel_rfl) rfl ?_; clear S; intro a S
        refine d_skip 8 S hsel rfl rfl rfl rfl (by rw [hb1]; rfl) rfl (by kernel_rfl) (by kernel_rfl) rfl ?_; clear S; intro a S
        refine d_quiet 9 S hsel rfl rfl rfl (by kernel_rfl) (by kernel_rfl) rfl (fun _ hw => (rn_pick_b hb1 (S.tm rfl) rfl)) ?_; clear S; intro a S
        refine d_quiet 10 S hsel rfl rfl rfl (by kernel_rfl) (by kernel_rfl) rfl (fun _ hw => (rn_move (S.tm rfl))) ?_; clear S; intro a S
        refine d_quiet_g 11 S hsel rfl rfl rfl rfl hb2 rfl rfl (by kernel_rfl) (by kernel_rfl) rfl (fun _ hw => (rn_fld fa_28_2 (S.tm rfl))) ?_; clear S; intro a S
        refine d_quiet_g 12 S hsel rfl rfl rfl rfl hb2 rfl rfl (by kernel_rfl) (by kernel_rfl) rfl (fun _ hw => (rn_ld Tryd.isAgg3 (off := 0) (o := 2) (S.tm rfl) ((S.blk_mem (i := 0) (cells := [.int .i64 p_d.Year, .int .i64 p_d.Month, .int .i64 p_d.Day]) (b := b1) (T := 28) rfl (ne_nil (e' := .blk b1 [.int .i64 p_d.Year, .int .i64 p_d.Month, .int .i64 p_d.Day] 28))).kept hw) rfl)) ?_; clear S; intro a S
        refine d_quiet_g 13 S hsel rfl rfl rfl rfl hb2 rfl rfl (by kernel_rfl) (by kernel_rfl) rfl (fun _ hw => (rn_fld fa_28_0 (S.tm rfl))) ?_; clear S; intro a S
        refine d_quiet_g 14 S hsel rfl rfl rfl rfl hb2 rfl rfl (by kernel_rfl) (by kernel_rfl) rfl (fun _ hw => (rn_ld Tryd.isAgg3 (off := 0) (o := 0) (S.tm rfl) ((S.blk_mem (i := 0) (cells := [.int .i64 p_d.Year, .int .i64 p_d.Month, .int .i64 p_d.Day]) (b := b1) (T := 28) rfl (ne_nil (e' := .blk b1 [.int .i64 p_d.Year, .int .i64 p_d.Month, .int .i64 p_d.Day] 28))).kept hw) rfl)) ?_; clear S; intro a S
        refine d_quiet_g 15 S hsel rfl rfl rfl rfl hb2 rfl rfl (by kernel_rfl) (by kernel_rfl) rfl (fun _ hw => (rn_fld fa_28_1 (S.tm rfl))) ?_; clear S; intro a S
        refine d_quiet_g 16 S hsel rfl rfl rfl rfl hb2 rfl rfl (by kernel_rfl) (by kernel_rfl) rfl (fun _ hw => (rn_ld Tryd.isAgg3 (off := 0) (o := 1) (S.tm rfl) ((S.blk_mem (i := 0) (cells := [.int .i64 p_d.Year, .int .i64 p_d.Month, .int .i64 p_d.Day]) (b := b1) (T := 28) rfl (ne_nil (e' := .blk b1 [.int .i64 p_d.Year, .int .i64 p_d.Month, .int .i64 p_d.Day] 28))).kept hw) rfl)) ?_; clear S; intro a S
        refine d_loud1 17 (by kernel_rfl) rfl ?_
        refine l_want S rfl rfl rfl hb2 ?_
        refine l_enter S (fun _ => run_call (vs := [.int .i64 p_d.Year, .int .i64 p_d.Month]) ⟨(S.tm rfl), (S.tm rfl), trivial⟩ Tryd.call32) (tumbref2_monthLong_ok _ p_d.Year p_d.Month _ hr1) rfl ?_; clear S; intro v9 a w13 hv9 hk12 hn9 S
        subst hv9
        refine l_done ?_
        refine d_next hk12 ?_
        refine d_loud1 18 (by kernel_rfl) rfl ?_
        refine l_want S rfl rfl rfl hb2 ?_
        refine l_enter S (fun _ => run_call (vs := [.int .i64 p_d.Day, .int .i64 1, .int .i64 r1]) ⟨(S.tm rfl), rfl, (S.tm rfl), trivial⟩ Tryd.call31) (tumbref2_in_ok _ p_d.Day 1 r1 _ rfl) rfl ?_; clear S; intro v10 a w14 hv10 hk13 hn10 S
        subst hv10
        refine l_done ?_
        refine d_next hk13 ?_
        refine d_rest [19, 20] hsel (by kernel_rfl) rfl ?_
        clear hsel
        refine s_want S rfl rfl rfl rfl hb2 ?_
        refine s_lv0 S (rn_not (S.tm rfl)) rfl ?_; clear S; intro a S
        refine s_lv S rfl (rn_pick_c hb2 (S.tm rfl) (S.tm rfl)) rfl ?_; clear S; intro a S
        refine s_done ?_
        replace S := S.nf (L' := [.blk b1 [.int .i64 p_d.Year, .int .i64 p_d.Month, .int .i64 p_d.Day] 28]) (K' := [(1, .pointer (some ⟨b1, 0, none⟩)), (27, .bool (!(tumbref2_in p_d.Day 1 r1)))]) [true] rfl ⟨rfl, rfl, trivial⟩
        refine then_n ?_
        exact ⟨!(tumbref2_in p_d.Day 1 r1), h, S.nf [true] rfl ⟨rfl, rfl, trivial⟩⟩
    · replace h := iteF h hb1
      rcases Bool.eq_false_or_eq_true (!(tumbref2_in p_d.Month 1 12)) with hb3 | hb3
      · replace h := iteT h hb3
        refine d_region [] ([]) Tryd.mixed S rfl (by kernel_rfl) ?_; clear S; intro w19 hk18 hsel S
        refine d_quiet 0 S hsel rfl rfl rfl (by kernel_rfl) (by kernel_rfl) rfl (fun _ hw => (rn_fld fa_28_0 (S.tm rfl))) ?_; clear S; intro a S
        refine d_quiet 1 S hsel rfl rfl rfl (by kernel_rfl) (by kernel_rfl) rfl (fun _ hw => (rn_ld Tryd.isAgg3 (off := 0) (o := 0) (S.tm rfl) ((S.blk_mem (i := 0) (cells := [.int .i64 p_d.Year, .int .i64 p_d.Month, .int .i64 p_d.Day]) (b := b1) (T := 28) rfl (ne_nil (e' := .blk b1 [.int .i64 p_d.Year, .int .i64 p_d.Month, .int .i64 p_d.Day] 28))).kept hw) rfl)) ?_; clear S; intro a S
        refine d_loud1 2 (by kernel_rfl) rfl ?_
        refine l_enter S (fun _ => run_call (vs := [.int .i64 p_d.Year, .int .i64 1914, .int .i64 2036]) ⟨(S.tm rfl), rfl, rfl, trivial⟩ Tryd.call31) (tumbref2_in_ok _ p_d.Year 1914 2036 _ rfl) rfl ?_; clear S; intro v15 a w20 hv15 hk19 hn15 S
        subst hv15
        refine l_done ?_
        refine d_next hk19 ?_
        refine d_quiet 3 S hsel rfl rfl rfl (by kernel_rfl) (by kernel_rfl) rfl (fun _ hw => (rn_not (S.tm rfl))) ?_; clear S; intro a S
        refine d_quiet 4 S hsel rfl rfl rfl (by kernel_rfl) (by kernel_rfl) rfl (fun _ hw => (rn_move (S.tm rfl))) ?_; clear S; intro a S
        refine d_quiet_g 5 S hsel rfl rfl rfl rfl hb1 rfl rfl (by kernel_rfl) (by kernel_rfl) rfl (fun _ hw => (rn_fld fa_28_1 (S.tm rfl))) ?_; clear S; intro a S
        refine d_quiet_g 6 S hsel rfl rfl rfl rfl hb1 rfl rfl (by kernel_rfl) (by kernel_rfl) rfl (fun _ hw => (rn_ld Tryd.isAgg3 (off := 0) (o := 1) (S.tm rfl) ((S.blk_mem (i := 0) (cells := [.int .i64 p_d.Year, .int .i64 p_d.Month, .int .i64 p_d.Day]) (b := b1) (T := 28) rfl (ne_nil (e' := .blk b1 [.int .i64 p_d.Year, .int .i64 p_d.Month, .int .i64 p_d.Day] 28))).kept hw) rfl)) ?_; clear S; intro a S
        refine d_loud1 7 (by kernel_rfl) rfl ?_
        refine l_want S rfl rfl rfl hb1 ?_
        refine l_enter S (fun _ => run_call (vs := [.int .i64 p_d.Month, .int .i64 1, .int .i64 12]) ⟨(S.tm rfl), rfl, rfl, trivial⟩ Tryd.call31) (tumbref2_in_ok _ p_d.Month 1 12 _ rfl) rfl ?_; clear S; intro v16 a w21 hv16 hk20 hn16 S
        subst hv16
        refine l_done ?_
        refine d_next hk20 ?_
        refine d_rest [8, 9, 10, 11, 12, 13, 14, 15, 16, 17, 18, 19, 20] hsel (by kernel_rfl) rfl ?_
        clear hsel
        refine s_want S rfl rfl rfl rfl hb1 ?_
        refine s_lv0 S (rn_not (S.tm rfl)) rfl ?_; clear S; intro a S
        refine s_lv S rfl (rn_pick_c hb1 (S.tm rfl) (S.tm rfl)) rfl ?_; clear S; intro a S
        refine s_lv S rfl (rn_move (S.tm rfl)) rfl ?_; clear S; intro a S
        refine s_skip S rfl rfl rfl rfl (by rw [hb3]; rfl) rfl ?_ rfl; clear S; intro a S
        refine s_skip S rfl rfl rfl rfl (by rw [hb3]; rfl) rfl ?_ rfl; clear S; intro a S
        refine s_skip S rfl rfl rfl rfl (by rw [hb3]; rfl) rfl ?_ rfl; clear S; intro a S
        refine s_skip S rfl rfl rfl rfl (by rw [hb3]; rfl) rfl ?_ rfl; clear S; intro a S
        refine s_skip S rfl rfl rfl rfl (by rw [hb3]; rfl) rfl ?_ rfl; clear S; intro a S
        refine s_skip S rfl rfl rfl rfl (by rw [hb3]; rfl) rfl ?_ rfl; clear S; intro a S
        refine s_skip S rfl rfl rfl rfl (by rw [hb3]; rfl) rfl ?_ rfl; clear S; intro a S
        refine s_skip S rfl rfl rfl rfl (by rw [hb3]; rfl) rfl ?_ rfl; clear S; intro a S
        refine s_skip S rfl rfl rfl rfl (by rw [hb3]; rfl) rfl ?_ rfl; clear S; intro a S
        refine s_lv S rfl (rn_pick_b hb3 (S.tm rfl) rfl) rfl ?_; clear S; intro a S
        refine s_done ?_
        replace S := S.nf (L' := [.blk b1 [.int .i64 p_d.Year, .int .i64 p_d.Month, .int .i64 p_d.Day] 28]) (K' := [(1, .pointer (some ⟨b1, 0, none⟩)), (27, .bool true)]) [true] rfl ⟨rfl, rfl, trivial⟩
        refine then_n ?_
        exact ⟨true, h, S.nf [true] rfl ⟨rfl, rfl, trivial⟩⟩
      · replace h := iteF h hb3
        obtain ⟨r2, hr2, h⟩ := bindE h
        refine d_region [] ([]) Tryd.mixed S rfl (by kernel_rfl) ?_; clear S; intro w26 hk25 hsel S
        refine d_quiet 0 S hsel rfl rfl rfl (by kernel_rfl) (by kernel_rfl) rfl (fun _ hw => (rn_fld fa_28_0 (S.tm rfl))) ?_; clear S; intro a S
        refine d_quiet 1 S hsel rfl rfl rfl (by kernel_rfl) (by kernel_rfl) rfl (fun _ hw => (rn_ld Tryd.isAgg3 (off := 0) (o := 0) (S.tm rfl) ((S.blk_mem (i := 0) (cells := [.int .i64 p_d.Year, .int .i64 p_d.Month, .int .i64 p_d.Day]) (b := b1) (T := 28) rfl (ne_nil (e' := .blk b1 [.int .i64 p_d.Year, .int .i64 p_d.Month, .int .i64 p_d.Day] 28))).kept hw) rfl)) ?_; clear S; intro a S
        refine d_loud1 2 (by kernel_rfl) rfl ?_
        refine l_enter S (fun _ => run_call (vs := [.int .i64 p_d.Year, .int .i64 1914, .int .i64 2036]) ⟨(S.tm rfl), rfl, rfl, trivial⟩ Tryd.call31) (tumbref2_in_ok _ p_d.Year 1914 2036 _ rfl) rfl ?_; clear S; intro v21 a w27 hv21 hk26 hn21 S
        subst hv21
        refine l_done ?_
        refine d_next hk26 ?_
        refine d_quiet 3 S hsel rfl rfl rfl (by kernel_rfl) (by kernel_rfl) rfl (fun _ hw => (rn_not (S.tm rfl))) ?_; clear S; intro a S
        refine d_quiet 4 S hsel rfl rfl rfl (by kernel_rfl) (by kernel_rfl) rfl (fun _ hw => (rn_move (S.tm rfl))) ?_; clear S; intro a S
        refine d_quiet_g 5 S hsel rfl rfl rfl rfl hb1 rfl rfl (by kernel_rfl) (by kernel_rfl) rfl (fun _ hw => (rn_fld fa_28_1 (S.tm rfl))) ?_; clear S; intro a S
        refine d_quiet_g 6 S hsel rfl rfl rfl rfl hb1 rfl rfl (by kernel_rfl) (by kernel_rfl) rfl (fun _ hw => (rn_ld Tryd.isAgg3 (off := 0) (o := 1) (S.tm rfl) ((S.blk_mem (i := 0) (cells := [.int .i64 p_d.Year, .int .i64 p_d.Month, .int .i64 p_d.Day]) (b := b1) (T := 28) rfl (ne_nil (e' := .blk b1 [.int .i64 p_d.Year, .int .i64 p_d.Month, .int .i64 p_d.Day] 28))).kept hw) rfl)) ?_; clear S; intro a S
        refine d_loud1 7 (by kernel_rfl) rfl ?_
        refine l_want S rfl rfl rfl hb1 ?_
        refine l_enter S (fun _ => run_call (vs := [.int .i64 p_d.Month, .int .i64 1, .int .i64 12]) ⟨(S.tm rfl), rfl, rfl, trivial⟩ Tryd.call31) (tumbref2_in_ok _ p_d.Month 1 12 _ rfl) rfl ?_; clear S; intro v22 a w28 hv22 hk27 hn22 S
        subst hv22
        refine l_done ?_
        refine d_next hk27 ?_
        refine d_quiet_g 8 S hsel rfl rfl rfl rfl hb1 rfl rfl (by kernel_rfl) (by kernel_rfl) rfl (fun _ hw => (rn_not (S.tm rfl))) ?_; clear S; intro a S
        refine d_quiet 9 S hsel rfl rfl rfl (by kernel_rfl) (by kernel_rfl) rfl (fun _ hw => (rn_pick_c hb1 (S.tm rfl) (S.tm rfl))) ?_; clear S; intro a S
        refine d_quiet 10 S hsel rfl rfl rfl (by kernel_rfl) (by kernel_rfl) rfl (fun _ hw => (rn_move (S.tm rfl))) ?_; clear S; intro a S
        refine d_quiet_g 11 S hsel rfl rfl rfl rfl hb3 rfl rfl (by kernel_rfl) (by kernel_rfl) rfl (fun _ hw => (rn_fld fa_28_2 (S.tm rfl))) ?_; clear S; intro a S
        refine d_quiet_g 12 S hsel rfl rfl rfl rfl hb3 rfl rfl (by kernel_rfl) (by kernel_rfl) rfl (fun _ hw => (rn_ld Tryd.isAgg3 (off := 0) (o := 2) (S.tm rfl) ((S.blk_mem (i := 0) (cells := [.int .i64 p_d.Year, .int .i64 p_d.Month, .int .i64 p_d.Day]) (b := b1) (T := 28) rfl (ne_nil (e' := .blk b1 [.int .i64 p_d.Year, .int .i64 p_d.Month, .int .i64 p_d.Day] 28))).kept hw) rfl)) ?_; clear S; intro a S
        refine d_quiet_g 13 S hsel rfl rfl rfl rfl hb3 rfl rfl (by kernel_rfl) (by kernel_rfl) rfl (fun _ hw => (rn_fld fa_28_0 (S.tm rfl))) ?_; clear S; intro a S
        refine d_quiet_g 14 S hsel rfl rfl rfl rfl hb3 rfl rfl (by kernel_rfl) (by kernel_rfl) rfl (fun _ hw => (rn_ld Tryd.isAgg3 (off := 0) (o := 0) (S.tm rfl) ((S.blk_mem (i := 0) (cells := [.int .i64 p_d.Year, .int .i64 p_d.Month, .int .i64 p_d.Day]) (b := b1) (T := 28) rfl (ne_nil (e' := .blk b1 [.int .i64 p_d.Year, .int .i64 p_d.Month, .int .i64 p_d.Day] 28))).kept hw) rfl)) ?_; clear S; intro a S
        refine d_quiet_g 15 S hsel rfl rfl rfl rfl hb3 rfl rfl (by kernel_rfl) (by kernel_rfl) rfl (fun _ hw => (rn_fld fa_28_1 (S.tm rfl))) ?_; clear S; intro a S
        refine d_quiet_g 16 S hsel rfl rfl rfl rfl hb3 rfl rfl (by kernel_rfl) (by kernel_rfl) rfl (fun _ hw => (rn_ld Tryd.isAgg3 (off := 0) (o := 1) (S.tm rfl) ((S.blk_mem (i := 0) (cells := [.int .i64 p_d.Year, .int .i64 p_d.Month, .int .i64 p_d.Day]) (b := b1) (T := 28) rfl (ne_nil (e' := .blk b1 [.int .i64 p_d.Year, .int .i64 p_d.Month, .int .i64 p_d.Day] 28))).kept hw) rfl)) ?_; clear S; intro a S
        refine d_loud1 17 (by kernel_rfl) rfl ?_
        refine l_want S rfl rfl rfl hb3 ?_
        refine l_enter S (fun _ => run_call (vs := [.int .i64 p_d.Year, .int .i64 p_d.Month]) ⟨(S.tm rfl), (S.tm rfl), trivial⟩ Tryd.call32) (tumbref2_monthLong_ok _ p_d.Year p_d.Month _ hr2) rfl ?_; clear S; intro v23 a w29 hv23 hk28 hn23 S
        subst hv23
        refine l_done ?_
        refine d_next hk28 ?_
        refine d_loud1 18 (by kernel_rfl) rfl ?_
        refine l_want S rfl rfl rfl hb3 ?_
        refine l_enter S (fun _ => run_call (vs := [.int .i64 p_d.Day, .int .i64 1, .int .i64 r2]) ⟨(S.tm rfl), rfl, (S.tm rfl), trivial⟩ Tryd.call31) (tumbref2_in_ok _ p_d.Day 1 r2 _ rfl) rfl ?_; clear S; intro v24 a w30 hv24 hk29 hn24 S
        subst hv24
        refine l_done ?_
        refine d_next hk29 ?_
        refine d_rest [19, 20] hsel (by kernel_rfl) rfl ?_
        clear hsel
        refine s_want S rfl rfl rfl rfl hb3 ?_
        refine s_lv0 S (rn_not (S.tm rfl)) rfl ?_; clear S; intro a S
        refine s_lv S rfl (rn_pick_c hb3 (S.tm rfl) (S.tm rfl)) rfl ?_; clear S; intro a S
        refine s_done ?_
        replace S := S.nf (L' := [.blk b1 [.int .i64 p_d.Year, .int .i64 p_d.Month, .int .i64 p_d.Day] 28]) (K' := [(1, .pointer (some ⟨b1, 0, none⟩)), (27, .bool (!(tumbref2_in p_d.Day 1 r2)))]) [true] rfl ⟨rfl, rfl, trivial⟩
        refine then_n ?_
        exact ⟨!(tumbref2_in p_d.Day 1 r2), h, S.nf [true] rfl ⟨rfl, rfl, trivial⟩⟩
  clear S h; rintro a w2 ⟨x1, h, S⟩; rw [hj1] at h; clear hj1 j1
  refine then_n ?_
  refine f_cond (S.tm rfl) (fun hb4 => ?_) (fun hb4 => ?_)
  · replace h := iteT h hb4
    refine f_seq ?_
    refine f_region ?_
    refine lv S (rn_assign rfl) rfl ?_; clear S; intro a S
    refine lv S (rn_assign rfl) rfl ?_; clear S; intro a S
    refine l_done ?_
    replace S := S.nf (L' := []) (K' := [(2, .int .i64 0), (3, .int .i64 1)]) [false] rfl ⟨rfl, rfl, trivial⟩
    refine then_n ?_
    refine wp_ret ?_
    refine then_r ?_
    obtain rfl := Option.some.inj h
    exact f_ret2 S Tryd.results10 rfl rfl rfl
  · replace h := iteF h hb4
    refine wp_skip ?_
    refine then_n ?_
    refine f_seq ?_
    refine f_region ?_
    refine lv S (rn_assign rfl) rfl ?_; clear S; intro a S
    refine lv S (rn_assign rfl) rfl ?_; clear S; intro a S
    refine l_done ?_
    replace S := S.nf (L' := [.blk b1 [.int .i64 p_d.Year, .int .i64 p_d.Month, .int .i64 p_d.Day] 28]) (K' := [(1, .pointer (some ⟨b1, 0, none⟩)), (4, .int .i64 (-40000)), (5, .int .i64 4000)]) [true] rfl ⟨rfl, rfl, rfl, trivial⟩
    refine then_n ?_
    refine f_seq ?_
    obtain ⟨j2, hj2, h⟩ := joinE h
    refine f_join (fun a w' => ∃ x2 : Int, j2 x2 = some r ∧ Sx w [] nov [.blk b1 [.int .i64 p_d.Year, .int .i64 p_d.Month, .int .i64 p_d.Day] 28] [(1, .pointer (some ⟨b1, 0, none⟩)), (4, .int .i64 x2)] 50 a w') ?_ ?_
    · refine wp_block ?_
      refine f_loop (fun (m1 : Nat) a w' => ∃ x2 : Int, ∃ x3 : Int, tumbref2_DayFor_l1 p_d j2 m1 x2 x3 = some r ∧ Sx w [] nov [.blk b1 [.int .i64 p_d.Year, .int .i64 p_d.Month, .int .i64 p_d.Day] 28] [(1, .pointer (some ⟨b1, 0, none⟩)), (4, .int .i64 x2), (5, .int .i64 x3)] 50 a w') id 44002 ⟨(-40000), 4000, h, S.nf [true] rfl ⟨rfl, rfl, rfl, trivial⟩⟩ ?_
      clear S h; rintro m1 a w31 ⟨x2, x3, h, S⟩
      cases m1 with
      | zero => rw [tumbref2_DayFor_l1.eq_1] at h; cases h
      | succ m1 =>
        rw [tumbref2_DayFor_l1.eq_2] at h
        refine f_seq ?_
        refine f_seq ?_
        refine f_region ?_
        refine lv S (rn_move (S.tm rfl)) rfl ?_; clear S; intro a S
        refine lv S (rn_move (S.tm rfl)) rfl ?_; clear S; intro a S
        refine lv S (rn_lss (S.tm rfl) (S.tm rfl)) rfl ?_; clear S; intro a S
        refine l_done ?_
        replace S := S.nf (L' := [.blk b1 [.int .i64 p_d.Year, .int .i64 p_d.Month, .int .i64 p_d.Day] 28]) (K' := [(1, .pointer (some ⟨b1, 0, none⟩)), (4, .int .i64 x2), (5, .int .i64 x3), (30, .bool (decide (x2 < x3)))]) [true] rfl ⟨rfl, rfl, rfl, rfl, trivial⟩
        refine then_n ?_
        refine f_cond (S.tm rfl) (fun hb5 => ?_) (fun hb5 => ?_)
        · replace h := iteT h hb5
          refine wp_skip ?_
          refine then_n ?_
          obtain ⟨j3, hj3, h⟩ := joinE h
          refine f_join (fun a w' => ∃ x4 : Int, ∃ x5 : Int, j3 x4 x5 = some r ∧ Sx w [] nov [.blk b1 [.int .i64 p_d.Year, .int .i64 p_d.Month, .int .i64 p_d.Day] 28] [(1, .pointer (some ⟨b1, 0, none⟩)), (4, .int .i64 x4), (5, .int .i64 x5)] 50 a w') ?_ ?_
          · refine wp_block ?_
            refine f_seq ?_
            refine f_region ?_
            refine lv S (rn_move (S.tm rfl)) rfl ?_; clear S; intro a S
            refine lv S (rn_move (S.tm rfl)) rfl ?_; clear S; intro a S
            refine lv S (rn_move (S.tm rfl)) rfl ?_; clear S; intro a S
            refine lv S (rn_sub (S.tm rfl) (S.tm rfl)) rfl ?_; clear S; intro a S
            refine lv S (rn_quo (S.tm rfl) rfl (by decide)) rfl ?_; clear S; intro a S
            refine lv S (rn_add (S.tm rfl) (S.tm rfl)) rfl ?_; clear S; intro a S
            refine lv S (rn_assign (S.tm rfl)) rfl ?_; clear S; intro a S
            refine l_done ?_
            replace S := S.nf (L' := [.blk b1 [.int .i64 p_d.Year, .int .i64 p_d.Month, .int .i64 p_d.Day] 28]) (K' := [(1, .pointer (some ⟨b1, 0, none⟩)), (4, .int .i64 x2), (5, .int .i64 x3), (6, .int .i64 (W (x2 + (W (Int.tdiv (W (x3 - x2)) 2)))))]) [true] rfl ⟨rfl, rfl, rfl, rfl, trivial⟩
            refine then_n ?_
            refine f_seq ?_
            obtain ⟨r3, hr3, h⟩ := bindE h
            obtain ⟨r4, hr4, h⟩ := bindE h
            refine d_region [] ([]) Tryd.mixed S rfl (by kernel_rfl) ?_; clear S; intro w36 hk32 hsel S
            refine d_quiet 0 S hsel rfl rfl rfl (by kernel_rfl) (by kernel_rfl) rfl (fun _ hw => (rn_move (S.tm rfl))) ?_; clear S; intro a S
            refine d_quiet 2 S hsel rfl rfl rfl (by kernel_rfl) (by kernel_rfl) rfl (fun _ hw => (rn_ldA Tryd.isAgg28 Tryd.sizeOf28 (off := 0) (o := 0) (part := [.int .i64 p_d.Year, .int .i64 p_d.Month, .int .i64 p_d.Day]) rfl rfl (S.tm rfl) ((S.blk_mem (i := 0) (cells := [.int .i64 p_d.Year, .int .i64 p_d.Month, .int .i64 p_d.Day]) (b := b1) (T := 28) rfl (ne_nil (e' := .blk b1 [.int .i64 p_d.Year, .int .i64 p_d.Month, .int .i64 p_d.Day] 28))).kept hw))) ?_; clear S; intro a S
            refine d_loud1 1 (by kernel_rfl) rfl ?_
            refine l_enter S (fun _ => run_call (vs := [.int .i64 (W (x2 + (W (Int.tdiv (W (x3 - x2)) 2))))]) ⟨(S.tm rfl), trivial⟩ Tryd.call15) (tumbref2_DateFor_ok _ (W (x2 + (W (Int.tdiv (W (x3 - x2)) 2)))) _ hr3) rfl ?_; clear S; intro v27 a w37 hv27 hk33 hn27 S
            subst hv27
            refine l_done ?_
            refine d_next hk33 ?_
            refine d_loud1 3 (by kernel_rfl) rfl ?_
            refine l_enter S (fun _ => run_call (vs := [.agg (GDate.enc r3).toArray, .agg (GDate.enc p_d).toArray]) ⟨(S.tm rfl), (S.tm rfl), trivial⟩ Tryd.call33) (tumbref2_dateOrder_ok _ r3 p_d _ hr4) rfl ?_; clear S; intro v28 a w38 hv28 hk34 hn28 S
            subst hv28
            refine l_done ?_
            refine d_next hk34 ?_
            refine d_rest [4] hsel (by kernel_rfl) rfl ?_
            clear hsel
            refine s_lv S rfl (rn_geq (S.tm rfl) rfl) rfl ?_; clear S; intro a S
            refine s_done ?_
            replace S := S.nf (L' := [.blk b1 [.int .i64 p_d.Year, .int .i64 p_d.Month, .int .i64 p_d.Day] 28]) (K' := [(1, .pointer (some ⟨b1, 0, none⟩)), (4, .int .i64 x2), (5, .int .i64 x3), (6, .int .i64 (W (x2 + (W (Int.tdiv (W (x3 - x2)) 2))))), (41, .bool (decide (0 ≤ r4)))]) [true] rfl ⟨rfl, rfl, rfl, rfl, rfl, trivial⟩
            refine then_n ?_
            obtain ⟨j4, hj4, h⟩ := joinE h
            refine f_join (fun a w' => ∃ x6 : Int, ∃ x7 : Int, j4 x6 x7 = some r ∧ Sx w [] nov [.blk b1 [.int .i64 p_d.Year, .int .i64 p_d.Month, .int .i64 p_d.Day] 28] [(1, .pointer (some ⟨b1, 0, none⟩)), (4, .int .i64 x6), (5, .int .i64 x7)] 50 a w') ?_ ?_
            · refine f_cond (S.tm rfl) (fun hb6 => ?_) (fun hb6 => ?_)
              · replace h := iteT h hb6
                refine f_region ?_
                refine lv S (rn_move (S.tm rfl)) rfl ?_; clear S; intro a S
                refine lv S (rn_assign (S.tm rfl)) rfl ?_; clear S; intro a S
                refine l_done ?_
                replace S := S.nf (L' := [.blk b1 [.int .i64 p_d.Year, .int .i64 p_d.Month, .int .i64 p_d.Day] 28]) (K' := [(1, .pointer (some ⟨b1, 0, none⟩)), (4, .int .i64 x2), (5, .int .i64 (W (x2 + (W (Int.tdiv (W (x3 - x2)) 2)))))]) [true] rfl ⟨rfl, rfl, rfl, trivial⟩
                refine then_n ?_
                exact ⟨x2, W (x2 + (W (Int.tdiv (W (x3 - x2)) 2))), h, S.nf [true] rfl ⟨rfl, rfl, rfl, trivial⟩⟩
              · replace h := iteF h hb6
                refine f_region ?_
                refine lv S (rn_move (S.tm rfl)) rfl ?_; clear S; intro a S
                refine lv S (rn_add (S.tm rfl) rfl) rfl ?_; clear S; intro a S
                refine lv S (rn_assign (S.tm rfl)) rfl ?_; clear S; intro a S
                refine l_done ?_
                replace S := S.nf (L' := [.blk b1 [.int .i64 p_d.Year, .int .i64 p_d.Month, .int .i64 p_d.Day] 28]) (K' := [(1, .pointer (some ⟨b1, 0, none⟩)), (4, .int .i64 (W ((W (x2 + (W (Int.tdiv (W (x3 - x2)) 2)))) + 1))), (5, .int .i64 x3)]) [true] rfl ⟨rfl, rfl, rfl, trivial⟩
                refine then_n ?_
                exact ⟨W ((W (x2 + (W (Int.tdiv (W (x3 - x2)) 2)))) + 1), x3, h, S.nf [true] rfl ⟨rfl, rfl, rfl, trivial⟩⟩
            clear S h; rintro a w39 ⟨x6, x7, h, S⟩; rw [hj4] at h; clear hj4 j4
            refine blk_n ?_
            refine then_n ?_
            exact ⟨x6, x7, h, S.nf [true] rfl ⟨rfl, rfl, rfl, trivial⟩⟩
          clear S h; rintro a w33 ⟨x4, x5, h, S⟩; rw [hj3] at h; clear hj3 j3
          refine then_n ?_
          exact ⟨m1, ⟨x4, x5, h, S.nf [true] rfl ⟨rfl, rfl, rfl, trivial⟩⟩, Nat.lt_succ_self _⟩
        · replace h := iteF h hb5
          refine wp_exit ?_
          refine then_x ?_
          refine then_x ?_
          refine x_same ?_
          refine then_n ?_
          exact ⟨x2, h, S.nf [true] rfl ⟨rfl, rfl, trivial⟩⟩
    clear S h; rintro a w32 ⟨x2, h, S⟩; rw [hj2] at h; clear hj2 j2
    refine then_n ?_
    refine f_seq ?_
    refine f_seq ?_
    obtain ⟨r5, hr5, h⟩ := bindE h
    refine d_region [] ([]) Tryd.mixed S rfl (by kernel_rfl) ?_; clear S; intro w41 hk36 hsel S
    refine d_quiet 0 S hsel rfl rfl rfl (by kernel_rfl) (by kernel_rfl) rfl (fun _ hw => (rn_move (S.tm rfl))) ?_; clear S; intro a S
    refine d_quiet 2 S hsel rfl rfl rfl (by kernel_rfl) (by kernel_rfl) rfl (fun _ hw => (rn_ldA Tryd.isAgg28 Tryd.sizeOf28 (off := 0) (o := 0) (part := [.int .i64 p_d.Year, .int .i64 p_d.Month, .int .i64 p_d.Day]) rfl rfl (S.tm rfl) ((S.blk_mem (i := 0) (cells := [.int .i64 p_d.Year, .int .i64 p_d.Month, .int .i64 p_d.Day]) (b := b1) (T := 28) rfl (ne_nil (e' := .blk b1 [.int .i64 p_d.Year, .int .i64 p_d.Month, .int .i64 p_d.Day] 28))).kept hw))) ?_; clear S; intro a S
    refine d_loud1 1 (by kernel_rfl) rfl ?_
    refine l_enter S (fun _ => run_call (vs := [.int .i64 x2]) ⟨(S.tm rfl), trivial⟩ Tryd.call15) (tumbref2_DateFor_ok _ x2 _ hr5) rfl ?_; clear S; intro v30 a w42 hv30 hk37 hn30 S
    subst hv30
    refine l_done ?_
    refine d_next hk37 ?_
    refine d_rest [3] hsel (by kernel_rfl) rfl ?_
    clear hsel
    refine s_lv S rfl (rn_neq_28 (m := r5) (n := p_d) (S.tm rfl) (S.tm rfl)) rfl ?_; clear S; intro a S
    refine s_done ?_
    replace S := S.nf (L' := []) (K' := [(4, .int .i64 x2), (48, .bool (!decide (r5 = p_d)))]) [false] rfl ⟨rfl, rfl, trivial⟩
    refine then_n ?_
    refine f_cond (S.tm rfl) (fun hb7 => ?_) (fun hb7 => ?_)
    · replace h := iteT h hb7
      refine f_seq ?_
      refine f_region ?_
      refine lv S (rn_assign rfl) rfl ?_; clear S; intro a S
      refine lv S (rn_assign rfl) rfl ?_; clear S; intro a S
      refine l_done ?_
      replace S := S.nf (L' := []) (K' := [(2, .int .i64 0), (3, .int .i64 1)]) [] rfl ⟨rfl, rfl, trivial⟩
      refine then_n ?_
      refine wp_ret ?_
      refine then_r ?_
      obtain rfl := Option.some.inj h
      exact f_ret2 S Tryd.results10 rfl rfl rfl
    · replace h := iteF h hb7
      refine wp_skip ?_
      refine then_n ?_
      refine f_seq ?_
      refine f_region ?_
      refine lv S (rn_move (S.tm rfl)) rfl ?_; clear S; intro a S
      refine lv S (rn_assign (S.tm rfl)) rfl ?_; clear S; intro a S
      refine lv S (rn_assign rfl) rfl ?_; clear S; intro a S
      refine l_done ?_
      replace S := S.nf (L' := []) (K' := [(2, .int .i64 x2), (3, .int .i64 0)]) [] rfl ⟨rfl, rfl, trivial⟩
      refine then_n ?_
      refine wp_ret ?_
      obtain rfl := Option.some.inj h
      exact f_ret2 S Tryd.results10 rfl rfl rfl
theorem tumbref2_Day_ok (w : World) (p_n : Int) (r : Bool) (h : tumbref2_Day p_n = r) :
    Calls Tryd.prog 12 [.int .i64 p_n].toArray w (Ret w [] fun τ v w' => v = .bool r) := by
  refine f_enter [] [] Tryd.func12 rfl Tryd.ntmps12 rfl (by simp) (by simp [fps]) (by simp [fps]) fun a S => ?_
  unfold tumbref2_Day at h
  replace S := S.nf (L' := []) (K' := [(0, .int .i64 p_n)]) [] rfl ⟨rfl, trivial⟩
  refine f_seq ?_
  refine f_region ?_
  refine lv S (rn_assign rfl) rfl ?_; clear S; intro a S
  refine l_done ?_
  replace S := S.nf (L' := []) (K' := [(0, .int .i64 p_n)]) [] rfl ⟨rfl, trivial⟩
  refine then_n ?_
  refine f_seq ?_
  refine f_region ?_
  refine lv S (rn_move (S.tm rfl)) rfl ?_; clear S; intro a S
  refine l_enter S (fun _ => run_call (vs := [.int .i64 p_n, .int .i64 (-40000), .int .i64 4000]) ⟨(S.tm rfl), rfl, rfl, trivial⟩ Tryd.call31) (tumbref2_in_ok _ p_n (-40000) 4000 _ rfl) rfl ?_; clear S; intro v1 a w1 hv1 hk1 hn1 S
  subst hv1
  refine lv S (rn_assign (S.tm rfl)) rfl ?_; clear S; intro a S
  refine l_done ?_
  replace S := S.nf (L' := []) (K' := [(2, .bool (tumbref2_in p_n (-40000) 4000))]) [] rfl ⟨rfl, trivial⟩
  refine then_n ?_
  refine wp_ret ?_
  subst h
  exact f_ret S Tryd.results12 rfl rfl
theorem tumblaw2_when_ok (w : World) (p_is : Bool) (p_e : Int) (r : Int) (h : tumblaw2_when p_is p_e = r) :
    Calls Tryd.prog 11 [.bool p_is, .int .i64 p_e].toArray w (Ret w [] fun τ v w' => v = .int .i64 r) := by
  refine f_enter [] [] Tryd.func11 rfl Tryd.ntmps11 rfl (by simp) (by simp [fps]) (by simp [fps]) fun a S => ?_
  unfold tumblaw2_when at h
  replace S := S.nf (L' := []) (K' := [(0, .bool p_is), (1, .int .i64 p_e)]) [] rfl ⟨rfl, rfl, trivial⟩
  refine f_seq ?_
  refine f_region ?_
  refine lv S (rn_assign rfl) rfl ?_; clear S; intro a S
  refine l_done ?_
  replace S := S.nf (L' := []) (K' := [(0, .bool p_is), (1, .int .i64 p_e)]) [] rfl ⟨rfl, rfl, trivial⟩
  refine then_n ?_
  refine f_seq ?_
  refine f_seq ?_
  refine f_region ?_
  refine lv S (rn_move (S.tm rfl)) rfl ?_; clear S; intro a S
  refine l_done ?_
  replace S := S.nf (L' := []) (K' := [(1, .int .i64 p_e), (5, .bool p_is)]) [] rfl ⟨rfl, rfl, trivial⟩
  refine then_n ?_
  refine f_cond (S.tm rfl) (fun hb1 => ?_) (fun hb1 => ?_)
  · replace h := iteT h hb1
    refine f_seq ?_
    refine f_region ?_
    refine lv S (rn_move (S.tm rfl)) rfl ?_; clear S; intro a S
    refine lv S (rn_assign (S.tm rfl)) rfl ?_; clear S; intro a S
    refine l_done ?_
    replace S := S.nf (L' := []) (K' := [(4, .int .i64 p_e)]) [] rfl ⟨rfl, trivial⟩
    refine then_n ?_
    refine wp_ret ?_
    refine then_r ?_
    subst h
    exact f_ret S Tryd.results11 rfl rfl
  · replace h := iteF h hb1
    refine wp_skip ?_
    refine then_n ?_
    refine f_seq ?_
    refine f_region ?_
    refine lv S (rn_assign rfl) rfl ?_; clear S; intro a S
    refine l_done ?_
    replace S := S.nf (L' := []) (K' := [(4, .int .i64 0)]) [] rfl ⟨rfl, trivial⟩
    refine then_n ?_
    refine wp_ret ?_
    subst h
    exact f_ret S Tryd.results11 rfl rfl
theorem strings_Trim_ok (w : World) (s c : ByteArray) (r : ByteArray) (h : strings_Trim s c = some r) : Calls Tryd.prog 43 [.string s, .string c].toArray w (Ret w [] fun _ v _ => v = .string r) := by
  unfold strings_Trim at h
  obtain ⟨h1, h⟩ := chkE h
  obtain ⟨h2, h⟩ := chkE h
  obtain ⟨h3, h⟩ := chkE h
  obtain rfl := Option.some.inj h
  exact ret_of_below (Any.strings_Trim_laid Tryd.lays160 (by kernel_rfl) s c w (by simpa using h1) (by simpa using h2) (fun j b hb => by simpa using List.all_eq_true.1 h3 b (List.mem_of_getElem? hb)))
theorem words_IsKey_ok (w : World) (p_s : ByteArray) (r : Bool) (h : words_IsKey p_s = some r) :
    Calls Tryd.prog 34 [.string p_s].toArray w (Ret w [] fun τ v w' => v = .bool r) := by
  refine f_enter [] [] Tryd.func34 rfl Tryd.ntmps34 rfl (by simp) (by simp [fps]) (by simp [fps]) fun a S => ?_
  unfold words_IsKey at h
  replace S := S.nf (L' := []) (K' := [(0, .string p_s)]) [] rfl ⟨rfl, trivial⟩
  refine f_seq ?_
  refine f_region ?_
  refine lv S (rn_assign rfl) rfl ?_; clear S; intro a S
  refine l_done ?_
  replace S := S.nf (L' := []) (K' := [(0, .string p_s)]) [] rfl ⟨rfl, trivial⟩
  refine then_n ?_
  refine f_seq ?_
  refine f_region ?_
  refine lv S (rn_move (S.tm rfl)) rfl ?_; clear S; intro a S
  refine lv S (rn_len_str Tryd.underlying9 (S.tm rfl)) rfl ?_; clear S; intro a S
  refine lv S (rn_geq (S.tm rfl) rfl) rfl ?_; clear S; intro a S
  refine lv S (rn_move (S.tm rfl)) rfl ?_; clear S; intro a S
  refine f_cutm 4 (fun a w' => Keep [] w w' ∧ Sx w [] nov [] [(0, .string p_s), (10, .bool ((decide (1 ≤ (p_s.size : Int))) && (decide ((p_s.size : Int) ≤ 40))))] 26 a w') ?_ ?_
  · rcases Bool.eq_false_or_eq_true (decide (1 ≤ (p_s.size : Int))) with hb1 | hb1
    · refine l_want S rfl rfl rfl hb1 ?_
      refine lv S (rn_move (S.tm rfl)) rfl ?_; clear S; intro a S
      refine l_want S rfl rfl rfl hb1 ?_
      refine lv S (rn_len_str Tryd.underlying9 (S.tm rfl)) rfl ?_; clear S; intro a S
      refine l_want S rfl rfl rfl hb1 ?_
      refine lv S (rn_leq (S.tm rfl) rfl) rfl ?_; clear S; intro a S
      refine lv S (rn_and_t hb1 (S.tm rfl) (S.tm rfl)) rfl ?_; clear S; intro a S
      refine l_done ?_
      refine then_n ?_
      exact ⟨Keep.refl _ _, S.nf [] rfl ⟨rfl, rfl, trivial⟩⟩
    · refine l_skip S rfl rfl rfl (by rw [hb1]; rfl) rfl ?_ rfl; clear S; intro a S
      refine l_skip S rfl rfl rfl (by rw [hb1]; rfl) rfl ?_ rfl; clear S; intro a S
      refine l_skip S rfl rfl rfl (by rw [hb1]; rfl) rfl ?_ rfl; clear S; intro a S
      refine lv S (rn_and_f (decide ((p_s.size : Int) ≤ 40)) hb1 (S.tm rfl) rfl) rfl ?_; clear S; intro a S
      refine l_done ?_
      refine then_n ?_
      exact ⟨Keep.refl _ _, S.nf [] rfl ⟨rfl, rfl, trivial⟩⟩
  clear S; rintro a w1 ⟨hk1, S⟩
  refine lv S (rn_move (S.tm rfl)) rfl ?_; clear S; intro a S
  obtain ⟨j1, hj1, h⟩ := joinE h
  refine f_cutm 4 (fun a w' => ∃ c1, j1 c1 = some r ∧ Keep [] w1 w' ∧ Sx w [] nov [] [(0, .string p_s), (15, .bool c1)] 26 a w') ?_ ?_
  · rcases Bool.eq_false_or_eq_true ((decide (1 ≤ (p_s.size : Int))) && (decide ((p_s.size : Int) ≤ 40))) with hb2 | hb2
    · replace h := iteT h hb2
      refine l_want S rfl rfl rfl hb2 ?_
      refine lv S (rn_move (S.tm rfl)) rfl ?_; clear S; intro a S
      refine l_want S rfl rfl rfl hb2 ?_
      obtain ⟨hc1, h⟩ := chkE h
      refine lv S (rn_sindexT Tryd.underlying9 (S.tm rfl) rfl hc1) rfl ?_; clear S; intro a S
      refine l_want S rfl rfl rfl hb2 ?_
      refine lv S (rn_geq (S.tm rfl) rfl) rfl ?_; clear S; intro a S
      refine lv S (rn_and_t hb2 (S.tm rfl) (S.tm rfl)) rfl ?_; clear S; intro a S
      refine l_done ?_
      refine then_n ?_
      exact ⟨_, h, Keep.refl _ _, S.nf [] rfl ⟨rfl, rfl, trivial⟩⟩
    · replace h := iteF h hb2
      refine l_skip S rfl rfl rfl (by rw [hb2]; rfl) rfl ?_ rfl; clear S; intro a S
      refine l_skip S rfl rfl rfl (by rw [hb2]; rfl) rfl ?_ rfl; clear S; intro a S
      refine l_skip S rfl rfl rfl (by rw [hb2]; rfl) rfl ?_ rfl; clear S; intro a S
      refine lv S (rn_and_f true hb2 (S.tm rfl) rfl) rfl ?_; clear S; intro a S
      refine l_done ?_
      refine then_n ?_
      exact ⟨_, h, Keep.refl _ _, S.nf [] rfl ⟨rfl, rfl, trivial⟩⟩
  clear S h; rintro a w2 ⟨c1, h, hk2, S⟩; rw [hj1] at h; clear hj1 j1
  refine lv S (rn_move (S.tm rfl)) rfl ?_; clear S; intro a S
  obtain ⟨j2, hj2, h⟩ := joinE h
  refine f_cutm 4 (fun a w' => ∃ c2, j2 c2 = some r ∧ Keep [] w2 w' ∧ Sx w [] nov [] [(0, .string p_s), (20, .bool c2)] 26 a w') ?_ ?_
  · rcases Bool.eq_false_or_eq_true c1 with hb3 | hb3
    · replace h := iteT h hb3
      refine l_want S rfl rfl rfl hb3 ?_
      refine lv S (rn_move (S.tm rfl)) rfl ?_; clear S; intro a S
      refine l_want S rfl rfl rfl hb3 ?_
      obtain ⟨hc2, h⟩ := chkE h
      refine lv S (rn_sindexT Tryd.underlying9 (S.tm rfl) rfl hc2) rfl ?_; clear S; intro a S
      refine l_want S rfl rfl rfl hb3 ?_
      refine lv S (rn_leq (S.tm rfl) rfl) rfl ?_; clear S; intro a S
      refine lv S (rn_and_t hb3 (S.tm rfl) (S.tm rfl)) rfl ?_; clear S; intro a S
      refine l_done ?_
      refine then_n ?_
      exact ⟨_, h, Keep.refl _ _, S.nf [] rfl ⟨rfl, rfl, trivial⟩⟩
    · replace h := iteF h hb3
      refine l_skip S rfl rfl rfl (by rw [hb3]; rfl) rfl ?_ rfl; clear S; intro a S
      refine l_skip S rfl rfl rfl (by rw [hb3]; rfl) rfl ?_ rfl; clear S; intro a S
      refine l_skip S rfl rfl rfl (by rw [hb3]; rfl) rfl ?_ rfl; clear S; intro a S
      refine lv S (rn_and_f true hb3 (S.tm rfl) rfl) rfl ?_; clear S; intro a S
      refine l_done ?_
      refine then_n ?_
      exact ⟨_, h, Keep.refl _ _, S.nf [] rfl ⟨rfl, rfl, trivial⟩⟩
  clear S h; rintro a w3 ⟨c2, h, hk3, S⟩; rw [hj2] at h; clear hj2 j2
  refine lv S (rn_move (S.tm rfl)) rfl ?_; clear S; intro a S
  obtain ⟨j3, hj3, h⟩ := joinE h
  refine f_cutm 4 (fun a w' => ∃ c3, j3 c3 = some r ∧ Keep [] w3 w' ∧ Sx w [] nov [] [(25, .bool c3)] 26 a w') ?_ ?_
  · rcases Bool.eq_false_or_eq_true c2 with hb4 | hb4
    · replace h := iteT h hb4
      refine l_want S rfl rfl rfl hb4 ?_
      refine lv S (rn_move (S.tm rfl)) rfl ?_; clear S; intro a S
      refine l_want S rfl rfl rfl hb4 ?_
      obtain ⟨r1, hr1, h⟩ := bindE h
      refine l_enter S (fun _ => run_call (vs := [.string p_s, .string k_abcdefghijkl_h0e2e2c]) ⟨(S.tm rfl), rfl, trivial⟩ Tryd.call43) (strings_Trim_ok _ p_s k_abcdefghijkl_h0e2e2c _ hr1) rfl ?_; clear S; intro v1 a w5 hv1 hk4 hn1 S
      subst hv1
      refine l_want S rfl rfl rfl hb4 ?_
      refine lv S (rn_seql (S.tm rfl) rfl) rfl ?_; clear S; intro a S
      refine lv S (rn_and_t hb4 (S.tm rfl) (S.tm rfl)) rfl ?_; clear S; intro a S
      refine l_done ?_
      refine then_n ?_
      exact ⟨_, h, hk4, S.nf [] rfl ⟨rfl, trivial⟩⟩
    · replace h := iteF h hb4
      refine l_skip S rfl rfl rfl (by rw [hb4]; rfl) rfl ?_ rfl; clear S; intro a S
      refine l_skip S rfl rfl rfl (by rw [hb4]; rfl) rfl ?_ rfl; clear S; intro a S
      refine l_skip S rfl rfl rfl (by rw [hb4]; rfl) rfl ?_ rfl; clear S; intro a S
      refine lv S (rn_and_f true hb4 (S.tm rfl) rfl) rfl ?_; clear S; intro a S
      refine l_done ?_
      refine then_n ?_
      exact ⟨_, h, Keep.refl _ _, S.nf [] rfl ⟨rfl, trivial⟩⟩
  clear S h; rintro a w4 ⟨c3, h, hk5, S⟩; rw [hj3] at h; clear hj3 j3
  refine lv S (rn_assign (S.tm rfl)) rfl ?_; clear S; intro a S
  refine l_done ?_
  replace S := S.nf (L' := []) (K' := [(2, .bool c3)]) [] rfl ⟨rfl, trivial⟩
  refine then_n ?_
  refine wp_ret ?_
  obtain rfl := Option.some.inj h
  exact f_ret S Tryd.results34 rfl rfl
end Go.Proofs.YtngikibiddnndaaDoor
