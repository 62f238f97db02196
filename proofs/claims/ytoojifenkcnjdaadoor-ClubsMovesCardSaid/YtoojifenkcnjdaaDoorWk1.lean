/- Each Go function computes its plain twin, by program. -/
import Derived.Test.YtoojifenkcnjdaaDoorTab
import Derived.Test.YtoojifenkcnjdaaDoorLay
namespace Go.Proofs.YtoojifenkcnjdaaDoor
open Go
theorem tumbmake_Below_ok (w : World) (p_x : Int) (p_n : Int) (r : Int) (h : tumbmake_Below p_x p_n = some r) :
    Calls Tryd.prog 49 [.int .i64 p_x, .int .i64 p_n].toArray w (Ret w [] fun τ v w' => v = .int .i64 r) := by
  refine f_enter [] [] Tryd.func49 rfl Tryd.ntmps49 rfl (by simp) (by simp [fps]) (by simp [fps]) fun a S => ?_
  unfold tumbmake_Below at h
  replace S := S.nf (L' := []) (K' := [(0, .int .i64 p_x), (1, .int .i64 p_n)]) [] rfl ⟨rfl, rfl, trivial⟩
  refine f_seq ?_
  refine f_region ?_
  refine lv S (rn_assign rfl) rfl ?_; clear S; intro a S
  refine l_done ?_
  replace S := S.nf (L' := []) (K' := [(0, .int .i64 p_x), (1, .int .i64 p_n)]) [] rfl ⟨rfl, rfl, trivial⟩
  refine then_n ?_
  refine f_seq ?_
  refine f_seq ?_
  refine f_region ?_
  refine lv S (rn_move (S.tm rfl)) rfl ?_; clear S; intro a S
  refine lv S (rn_lss (S.tm rfl) rfl) rfl ?_; clear S; intro a S
  refine l_done ?_
  replace S := S.nf (L' := []) (K' := [(0, .int .i64 p_x), (1, .int .i64 p_n), (6, .bool (decide (p_n < 1)))]) [] rfl ⟨rfl, rfl, rfl, trivial⟩
  refine then_n ?_
  refine f_cond (S.tm rfl) (fun hb1 => ?_) (fun hb1 => ?_)
  · replace h := iteT h hb1
    refine f_seq ?_
    refine f_region ?_
    refine lv S (rn_assign rfl) rfl ?_; clear S; intro a S
    refine l_done ?_
    replace S := S.nf (L' := []) (K' := [(4, .int .i64 0)]) [] rfl ⟨rfl, trivial⟩
    refine then_n ?_
    refine wp_ret ?_
    refine then_r ?_
    obtain rfl := Option.some.inj h
    exact f_ret S Tryd.results49 rfl rfl
  · replace h := iteF h hb1
    refine wp_skip ?_
    refine then_n ?_
    refine f_seq ?_
    refine f_region ?_
    refine lv S (rn_move (S.tm rfl)) rfl ?_; clear S; intro a S
    refine lv S (rn_move (S.tm rfl)) rfl ?_; clear S; intro a S
    obtain ⟨hc1, h⟩ := chkE h
    refine lv S (rn_rem (S.tm rfl) (S.tm rfl) (by simpa using hc1)) rfl ?_; clear S; intro a S
    refine lv S (rn_assign (S.tm rfl)) rfl ?_; clear S; intro a S
    refine l_done ?_
    replace S := S.nf (L' := []) (K' := [(0, .int .i64 (Int.tmod p_x p_n)), (1, .int .i64 p_n)]) [] rfl ⟨rfl, rfl, trivial⟩
    refine then_n ?_
    refine f_seq ?_
    refine f_seq ?_
    refine f_region ?_
    refine lv S (rn_move (S.tm rfl)) rfl ?_; clear S; intro a S
    refine lv S (rn_lss (S.tm rfl) rfl) rfl ?_; clear S; intro a S
    refine l_done ?_
    replace S := S.nf (L' := []) (K' := [(0, .int .i64 (Int.tmod p_x p_n)), (1, .int .i64 p_n), (11, .bool (decide ((Int.tmod p_x p_n) < 0)))]) [] rfl ⟨rfl, rfl, rfl, trivial⟩
    refine then_n ?_
    obtain ⟨j1, hj1, h⟩ := joinE h
    refine f_join (fun a w' => ∃ x1 : Int, j1 x1 = some r ∧ Sx w [] nov [] [(0, .int .i64 x1)] 16 a w') ?_ ?_
    · refine f_cond (S.tm rfl) (fun hb2 => ?_) (fun hb2 => ?_)
      · replace h := iteT h hb2
        refine f_region ?_
        refine lv S (rn_move (S.tm rfl)) rfl ?_; clear S; intro a S
        refine lv S (rn_move (S.tm rfl)) rfl ?_; clear S; intro a S
        refine lv S (rn_add (S.tm rfl) (S.tm rfl)) rfl ?_; clear S; intro a S
        refine lv S (rn_assign (S.tm rfl)) rfl ?_; clear S; intro a S
        refine l_done ?_
        replace S := S.nf (L' := []) (K' := [(0, .int .i64 (W ((Int.tmod p_x p_n) + p_n)))]) [] rfl ⟨rfl, trivial⟩
        refine then_n ?_
        exact ⟨W ((Int.tmod p_x p_n) + p_n), h, S.nf [] rfl ⟨rfl, trivial⟩⟩
      · replace h := iteF h hb2
        refine wp_skip ?_
        refine then_n ?_
        exact ⟨Int.tmod p_x p_n, h, S.nf [] rfl ⟨rfl, trivial⟩⟩
    clear S h; rintro a w1 ⟨x1, h, S⟩; rw [hj1] at h; clear hj1 j1
    refine then_n ?_
    refine f_seq ?_
    refine f_region ?_
    refine lv S (rn_move (S.tm rfl)) rfl ?_; clear S; intro a S
    refine lv S (rn_assign (S.tm rfl)) rfl ?_; clear S; intro a S
    refine l_done ?_
    replace S := S.nf (L' := []) (K' := [(4, .int .i64 x1)]) [] rfl ⟨rfl, trivial⟩
    refine then_n ?_
    refine wp_ret ?_
    obtain rfl := Option.some.inj h
    exact f_ret S Tryd.results49 rfl rfl
set_option maxRecDepth 20000 in
theorem Stream_Next_ok (w : World) (b_p_s : Nat) (v_p_s_L : Value) (p_s_L : List Int) (hs_p_s_L : Slc (view w [b_p_s]) 1 v_p_s_L (p_s_L.map eInt)) (p_s_at : Int) (hb_b_p_s : (LEnt.blk b_p_s [v_p_s_L, .int .i64 p_s_at] 25).holds w) (p_n : Int) (r : Int × Int) (h : Stream_Next p_s_L p_s_at p_n = some r) :
    Calls Tryd.prog 27 [.pointer (some ⟨b_p_s, 0, none⟩), .int .i64 p_n].toArray w (Ret w [b_p_s] fun τ v w' => (LEnt.blk b_p_s [v_p_s_L, .int .i64 r.2] 25).holds w' ∧ v = .int .i64 r.1) := by
  refine f_enter [b_p_s] [.blk b_p_s [v_p_s_L, .int .i64 p_s_at] 25] Tryd.func27 rfl Tryd.ntmps27 rfl (fun e he => by simp only [List.mem_singleton] at he; subst he; exact hb_b_p_s) (by simp [fps, LEnt.fp]) (by simp [fps, LEnt.fp]) fun a S => ?_
  unfold Stream_Next at h
  replace S := S.nf (L' := [.blk b_p_s [v_p_s_L, .int .i64 p_s_at] 25]) (K' := [(0, .pointer (some ⟨b_p_s, 0, none⟩)), (1, .int .i64 p_n)]) [true] rfl ⟨rfl, rfl, trivial⟩
  refine f_seq ?_
  refine f_region ?_
  refine lv S (rn_assign rfl) rfl ?_; clear S; intro a S
  refine l_done ?_
  replace S := S.nf (L' := [.blk b_p_s [v_p_s_L, .int .i64 p_s_at] 25]) (K' := [(0, .pointer (some ⟨b_p_s, 0, none⟩)), (1, .int .i64 p_n)]) [true] rfl ⟨rfl, rfl, trivial⟩
  refine then_n ?_
  refine f_seq ?_
  refine f_region ?_
  refine lv S (rn_move (S.tm rfl)) rfl ?_; clear S; intro a S
  refine lv S (rn_nilCheck (S.tm rfl)) rfl ?_; clear S; intro a S
  refine lv S (rn_fld fa_25_1 (S.tm rfl)) rfl ?_; clear S; intro a S
  refine lv S (rn_load Tryd.isAgg3 (S.tm rfl) (S.cell (i := 0) rfl rfl)) rfl ?_; clear S; intro a S
  refine lv S (rn_add (S.tm rfl) rfl) rfl ?_; clear S; intro a S
  refine lv S (rn_nilCheck (S.tm rfl)) rfl ?_; clear S; intro a S
  refine lv S (rn_fld fa_25_1 (S.tm rfl)) rfl ?_; clear S; intro a S
  refine l_store S (S.tm rfl) (S.tm rfl) (i := 0) (off := 1) rfl Tryd.sizeOf3 (vs := [.int .i64 (W (p_s_at + 1))]) rfl rfl rfl rfl ?_; clear S; intro w1 hk1 S
  refine l_done ?_
  replace S := S.nf (L' := [.blk b_p_s [v_p_s_L, .int .i64 (W (p_s_at + 1))] 25]) (K' := [(0, .pointer (some ⟨b_p_s, 0, none⟩)), (1, .int .i64 p_n)]) [true] rfl ⟨rfl, rfl, trivial⟩
  refine then_n ?_
  refine f_seq ?_
  refine f_seq ?_
  refine f_region ?_
  refine lv S (rn_move (S.tm rfl)) rfl ?_; clear S; intro a S
  refine lv S (rn_nilCheck (S.tm rfl)) rfl ?_; clear S; intro a S
  refine lv S (rn_fld fa_25_0 (S.tm rfl)) rfl ?_; clear S; intro a S
  refine lv S (rn_load Tryd.isAgg22 (S.tm rfl) (S.cell (i := 0) rfl rfl)) rfl ?_; clear S; intro a S
  refine lv S (rn_lenT sl_22 (S.tm rfl) (slc_len hs_p_s_L)) rfl ?_; clear S; intro a S
  refine lv S (rn_eql (S.tm rfl) rfl) rfl ?_; clear S; intro a S
  refine l_done ?_
  replace S := S.nf (L' := [.blk b_p_s [v_p_s_L, .int .i64 (W (p_s_at + 1))] 25]) (K' := [(0, .pointer (some ⟨b_p_s, 0, none⟩)), (1, .int .i64 p_n), (19, .bool (decide ((p_s_L.length : Int) = 0)))]) [true] rfl ⟨rfl, rfl, rfl, trivial⟩
  refine then_n ?_
  refine f_cond (S.tm rfl) (fun hb1 => ?_) (fun hb1 => ?_)
  · replace h := iteT h hb1
    refine f_seq ?_
    refine f_region ?_
    refine lv S (rn_move (S.tm rfl)) rfl ?_; clear S; intro a S
    refine lv S (rn_nilCheck (S.tm rfl)) rfl ?_; clear S; intro a S
    refine lv S (rn_fld fa_25_1 (S.tm rfl)) rfl ?_; clear S; intro a S
    refine lv S (rn_load Tryd.isAgg3 (S.tm rfl) (S.cell (i := 0) rfl rfl)) rfl ?_; clear S; intro a S
    refine lv S (rn_mul (S.tm rfl) rfl) rfl ?_; clear S; intro a S
    refine lv S (rn_move (S.tm rfl)) rfl ?_; clear S; intro a S
    obtain ⟨r1, hr1, h⟩ := bindE h
    refine l_enter S (fun _ => run_call (vs := [.int .i64 (W ((W (p_s_at + 1)) * 7919)), .int .i64 p_n]) ⟨(S.tm rfl), (S.tm rfl), trivial⟩ Tryd.call49) (tumbmake_Below_ok _ (W ((W (p_s_at + 1)) * 7919)) p_n _ hr1) rfl ?_; clear S; intro v1 a w2 hv1 hk2 hn1 S
    subst hv1
    refine lv S (rn_assign (S.tm rfl)) rfl ?_; clear S; intro a S
    refine l_done ?_
    replace S := S.nf (L' := [.blk b_p_s [v_p_s_L, .int .i64 (W (p_s_at + 1))] 25]) (K' := [(4, .int .i64 r1)]) [true] rfl ⟨rfl, trivial⟩
    refine then_n ?_
    refine wp_ret ?_
    refine then_r ?_
    obtain rfl := Option.some.inj h
    exact f_ret S Tryd.results27 rfl ⟨(S.holds _ (List.mem_of_getElem? (i := 0) rfl)), rfl⟩
  · replace h := iteF h hb1
    refine wp_skip ?_
    refine then_n ?_
    refine f_seq ?_
    refine d_region [] ([]) Tryd.mixed S rfl (by kernel_rfl) ?_; clear S; intro w3 hk3 hsel S
    refine d_rest [0, 1, 2, 3, 4, 5, 6, 7, 8, 9, 10, 11] hsel (by kernel_rfl) rfl ?_
    clear hsel
    refine s_lv S rfl (rn_move (S.tm rfl)) rfl ?_; clear S; intro a S
    refine s_lv S rfl (rn_nilCheck (S.tm rfl)) rfl ?_; clear S; intro a S
    refine s_lv S rfl (rn_fld fa_25_1 (S.tm rfl)) rfl ?_; clear S; intro a S
    refine s_lv S rfl (rn_load Tryd.isAgg3 (S.tm rfl) (S.cell (i := 0) rfl rfl)) rfl ?_; clear S; intro a S
    refine s_lv S rfl (rn_sub (S.tm rfl) rfl) rfl ?_; clear S; intro a S
    refine s_lv S rfl (rn_move (S.tm rfl)) rfl ?_; clear S; intro a S
    refine s_lv S rfl (rn_nilCheck (S.tm rfl)) rfl ?_; clear S; intro a S
    refine s_lv S rfl (rn_fld fa_25_0 (S.tm rfl)) rfl ?_; clear S; intro a S
    refine s_lv S rfl (rn_load Tryd.isAgg22 (S.tm rfl) (S.cell (i := 0) rfl rfl)) rfl ?_; clear S; intro a S
    refine s_lv S rfl (rn_lenT sl_22 (S.tm rfl) (slc_len hs_p_s_L)) rfl ?_; clear S; intro a S
    obtain ⟨hc1, h⟩ := chkE h
    refine s_lv S rfl (rn_rem (S.tm rfl) (S.tm rfl) (by simpa using hc1)) rfl ?_; clear S; intro a S
    refine s_lv S rfl (rn_assign (S.tm rfl)) rfl ?_; clear S; intro a S
    refine s_done ?_
    replace S := S.nf (L' := [.blk b_p_s [v_p_s_L, .int .i64 (W (p_s_at + 1))] 25]) (K' := [(0, .pointer (some ⟨b_p_s, 0, none⟩)), (1, .int .i64 p_n), (5, .int .i64 (Int.tmod (W ((W (p_s_at + 1)) - 1)) (p_s_L.length : Int)))]) [true] rfl ⟨rfl, rfl, rfl, trivial⟩
    refine then_n ?_
    refine f_seq ?_
    refine d_region [] ([]) Tryd.mixed S rfl (by kernel_rfl) ?_; clear S; intro w4 hk4 hsel S
    refine d_rest [0, 1, 2, 3, 4, 5, 6, 7, 8, 9, 10, 11] hsel (by kernel_rfl) rfl ?_
    clear hsel
    refine s_lv S rfl (rn_move (S.tm rfl)) rfl ?_; clear S; intro a S
    refine s_lv S rfl (rn_nilCheck (S.tm rfl)) rfl ?_; clear S; intro a S
    refine s_lv S rfl (rn_fld fa_25_1 (S.tm rfl)) rfl ?_; clear S; intro a S
    refine s_lv S rfl (rn_load Tryd.isAgg3 (S.tm rfl) (S.cell (i := 0) rfl rfl)) rfl ?_; clear S; intro a S
    refine s_lv S rfl (rn_sub (S.tm rfl) rfl) rfl ?_; clear S; intro a S
    refine s_lv S rfl (rn_move (S.tm rfl)) rfl ?_; clear S; intro a S
    refine s_lv S rfl (rn_nilCheck (S.tm rfl)) rfl ?_; clear S; intro a S
    refine s_lv S rfl (rn_fld fa_25_0 (S.tm rfl)) rfl ?_; clear S; intro a S
    refine s_lv S rfl (rn_load Tryd.isAgg22 (S.tm rfl) (S.cell (i := 0) rfl rfl)) rfl ?_; clear S; intro a S
    refine s_lv S rfl (rn_lenT sl_22 (S.tm rfl) (slc_len hs_p_s_L)) rfl ?_; clear S; intro a S
    obtain ⟨hc2, h⟩ := chkE h
    refine s_lv S rfl (rn_quo (S.tm rfl) (S.tm rfl) (by simpa using hc2)) rfl ?_; clear S; intro a S
    refine s_lv S rfl (rn_assign (S.tm rfl)) rfl ?_; clear S; intro a S
    refine s_done ?_
    replace S := S.nf (L' := [.blk b_p_s [v_p_s_L, .int .i64 (W (p_s_at + 1))] 25]) (K' := [(0, .pointer (some ⟨b_p_s, 0, none⟩)), (1, .int .i64 p_n), (5, .int .i64 (Int.tmod (W ((W (p_s_at + 1)) - 1)) (p_s_L.length : Int))), (6, .int .i64 (W (Int.tdiv (W ((W (p_s_at + 1)) - 1)) (p_s_L.length : Int))))]) [true] rfl ⟨rfl, rfl, rfl, rfl, trivial⟩
    refine then_n ?_
    refine f_seq ?_
    refine f_region ?_
    refine lv S (rn_move (S.tm rfl)) rfl ?_; clear S; intro a S
    refine lv S (rn_nilCheck (S.tm rfl)) rfl ?_; clear S; intro a S
    refine lv S (rn_fld fa_25_0 (S.tm rfl)) rfl ?_; clear S; intro a S
    refine lv S (rn_load Tryd.isAgg22 (S.tm rfl) (S.cell (i := 0) rfl rfl)) rfl ?_; clear S; intro a S
    refine lv S (rn_move (S.tm rfl)) rfl ?_; clear S; intro a S
    obtain ⟨hc3, h⟩ := chkE h
    obtain ⟨b1, o1, hm1, hr2⟩ := rn_indexT (a := a) (x := .tmp 52) (y := .tmp 53) (ty := 0) sl_22 hs_p_s_L (inB_get hc3).1 (inB_get hc3).2 (S.tm rfl) (S.tm rfl)
    refine lv S (hr2 _) rfl ?_; clear S; intro a S
    clear hr2
    refine lv S (rn_ld Tryd.isAgg3 (off := o1) (o := 0) (S.tm rfl) (hm1.at S.emb0) rfl) rfl ?_; clear S; intro a S
    obtain ⟨r2, hr3, h⟩ := bindE h
    refine l_enter S (fun _ => run_call (vs := [.int .i64 (nth p_s_L (Int.tmod (W ((W (p_s_at + 1)) - 1)) (p_s_L.length : Int))), .int .i64 1073741824]) ⟨(S.tm rfl), rfl, trivial⟩ Tryd.call49) (tumbmake_Below_ok _ (nth p_s_L (Int.tmod (W ((W (p_s_at + 1)) - 1)) (p_s_L.length : Int))) 1073741824 _ hr3) rfl ?_; clear S; intro v2 a w5 hv2 hk5 hn2 S
    subst hv2
    refine lv S (rn_move (S.tm rfl)) rfl ?_; clear S; intro a S
    refine lv S (rn_move (S.tm rfl)) rfl ?_; clear S; intro a S
    refine lv S (rn_add rfl (S.tm rfl)) rfl ?_; clear S; intro a S
    refine lv S (rn_mul (S.tm rfl) (S.tm rfl)) rfl ?_; clear S; intro a S
    refine lv S (rn_add (S.tm rfl) (S.tm rfl)) rfl ?_; clear S; intro a S
    refine lv S (rn_move (S.tm rfl)) rfl ?_; clear S; intro a S
    obtain ⟨r3, hr4, h⟩ := bindE h
    refine l_enter S (fun _ => run_call (vs := [.int .i64 (W (r2 + (W ((W (Int.tdiv (W ((W (p_s_at + 1)) - 1)) (p_s_L.length : Int))) * (W (7919 + (Int.tmod (W ((W (p_s_at + 1)) - 1)) (p_s_L.length : Int)))))))), .int .i64 p_n]) ⟨(S.tm rfl), (S.tm rfl), trivial⟩ Tryd.call49) (tumbmake_Below_ok _ (W (r2 + (W ((W (Int.tdiv (W ((W (p_s_at + 1)) - 1)) (p_s_L.length : Int))) * (W (7919 + (Int.tmod (W ((W (p_s_at + 1)) - 1)) (p_s_L.length : Int)))))))) p_n _ hr4) rfl ?_; clear S; intro v3 a w6 hv3 hk6 hn3 S
    subst hv3
    refine lv S (rn_assign (S.tm rfl)) rfl ?_; clear S; intro a S
    refine l_done ?_
    replace S := S.nf (L' := [.blk b_p_s [v_p_s_L, .int .i64 (W (p_s_at + 1))] 25]) (K' := [(4, .int .i64 r3)]) [true] rfl ⟨rfl, trivial⟩
    refine then_n ?_
    refine wp_ret ?_
    obtain rfl := Option.some.inj h
    exact f_ret S Tryd.results27 rfl ⟨(S.holds _ (List.mem_of_getElem? (i := 0) rfl)), rfl⟩
theorem Stream_Pick_ok (w : World) (b_p_s : Nat) (v_p_s_L : Value) (p_s_L : List Int) (hs_p_s_L : Slc (view w [b_p_s]) 1 v_p_s_L (p_s_L.map eInt)) (p_s_at : Int) (hb_b_p_s : (LEnt.blk b_p_s [v_p_s_L, .int .i64 p_s_at] 25).holds w) (v_p_l : Value) (p_l : List Int) (hs_p_l : Slc (view w [b_p_s]) 1 v_p_l (p_l.map eInt)) (r : Int × Int) (h : Stream_Pick p_s_L p_s_at p_l = some r) :
    Calls Tryd.prog 19 [.pointer (some ⟨b_p_s, 0, none⟩), v_p_l].toArray w (Ret w [b_p_s] fun τ v w' => (LEnt.blk b_p_s [v_p_s_L, .int .i64 r.2] 25).holds w' ∧ v = .int .i64 r.1) := by
  refine f_enter [b_p_s] [.blk b_p_s [v_p_s_L, .int .i64 p_s_at] 25] Tryd.func19 rfl Tryd.ntmps19 rfl (fun e he => by simp only [List.mem_singleton] at he; subst he; exact hb_b_p_s) (by simp [fps, LEnt.fp]) (by simp [fps, LEnt.fp]) fun a S => ?_
  unfold Stream_Pick at h
  replace S := S.nf (L' := [.blk b_p_s [v_p_s_L, .int .i64 p_s_at] 25]) (K' := [(0, .pointer (some ⟨b_p_s, 0, none⟩)), (1, v_p_l)]) [true] rfl ⟨rfl, rfl, trivial⟩
  refine f_seq ?_
  refine f_region ?_
  refine lv S (rn_assign rfl) rfl ?_; clear S; intro a S
  refine l_done ?_
  replace S := S.nf (L' := [.blk b_p_s [v_p_s_L, .int .i64 p_s_at] 25]) (K' := [(0, .pointer (some ⟨b_p_s, 0, none⟩)), (1, v_p_l)]) [true] rfl ⟨rfl, rfl, trivial⟩
  refine then_n ?_
  refine f_seq ?_
  refine f_region ?_
  refine lv S (rn_move (S.tm rfl)) rfl ?_; clear S; intro a S
  refine lv S (rn_move (S.tm rfl)) rfl ?_; clear S; intro a S
  refine lv S (rn_move (S.tm rfl)) rfl ?_; clear S; intro a S
  refine lv S (rn_lenT sl_22 (S.tm rfl) (slc_len hs_p_l)) rfl ?_; clear S; intro a S
  obtain ⟨r1, hr1, h⟩ := bindE h
  refine l_enter1 0 S (b := b_p_s) rfl rfl (fun _ => .blk b_p_s [v_p_s_L, .int .i64 r1.2] 25) (fun _ => run_call (vs := [.pointer (some ⟨b_p_s, 0, none⟩), .int .i64 (p_l.length : Int)]) ⟨(S.tm rfl), (S.tm rfl), trivial⟩ Tryd.call27) (Stream_Next_ok _ b_p_s v_p_s_L p_s_L (hs_p_s_L.mono (S.le_arg (fp_sub (i := 0) (e := .blk b_p_s [v_p_s_L, .int .i64 p_s_at] 25) rfl))) p_s_at (S.holds _ (List.mem_of_getElem? (i := 0) rfl)) (p_l.length : Int) _ hr1) rfl (fun _ _ _ h => ⟨h.1, fun _ hc => by cases hc; rfl⟩) ?_; clear S; intro v1 a w1 hv1 hk1 hn1 S
  replace hv1 := hv1.2
  subst hv1
  obtain ⟨hc1, h⟩ := chkE h
  obtain ⟨b1, o1, hm1, hr2⟩ := rn_indexT (a := a) (x := .tmp 5) (y := .tmp 9) (ty := 0) sl_22 hs_p_l (inB_get hc1).1 (inB_get hc1).2 (S.tm rfl) (S.tm rfl)
  refine lv S (hr2 _) rfl ?_; clear S; intro a S
  clear hr2
  refine lv S (rn_ld Tryd.isAgg3 (off := o1) (o := 0) (S.tm rfl) (hm1.at S.emb0) rfl) rfl ?_; clear S; intro a S
  refine lv S (rn_assign (S.tm rfl)) rfl ?_; clear S; intro a S
  refine l_done ?_
  replace S := S.nf (L' := [.blk b_p_s [v_p_s_L, .int .i64 r1.2] 25]) (K' := [(4, .int .i64 (nth p_l r1.1))]) [true] rfl ⟨rfl, trivial⟩
  refine then_n ?_
  refine wp_ret ?_
  obtain rfl := Option.some.inj h
  exact f_ret S Tryd.results19 rfl ⟨(S.holds _ (List.mem_of_getElem? (i := 0) rfl)), rfl⟩
theorem Stream_Range_ok (w : World) (b_p_s : Nat) (v_p_s_L : Value) (p_s_L : List Int) (hs_p_s_L : Slc (view w [b_p_s]) 1 v_p_s_L (p_s_L.map eInt)) (p_s_at : Int) (hb_b_p_s : (LEnt.blk b_p_s [v_p_s_L, .int .i64 p_s_at] 25).holds w) (p_low : Int) (p_high : Int) (r : Int × Int) (h : Stream_Range p_s_L p_s_at p_low p_high = some r) :
    Calls Tryd.prog 48 [.pointer (some ⟨b_p_s, 0, none⟩), .int .i64 p_low, .int .i64 p_high].toArray w (Ret w [b_p_s] fun τ v w' => (LEnt.blk b_p_s [v_p_s_L, .int .i64 r.2] 25).holds w' ∧ v = .int .i64 r.1) := by
  refine f_enter [b_p_s] [.blk b_p_s [v_p_s_L, .int .i64 p_s_at] 25] Tryd.func48 rfl Tryd.ntmps48 rfl (fun e he => by simp only [List.mem_singleton] at he; subst he; exact hb_b_p_s) (by simp [fps, LEnt.fp]) (by simp [fps, LEnt.fp]) fun a S => ?_
  unfold Stream_Range at h
  replace S := S.nf (L' := [.blk b_p_s [v_p_s_L, .int .i64 p_s_at] 25]) (K' := [(0, .pointer (some ⟨b_p_s, 0, none⟩)), (1, .int .i64 p_low), (2, .int .i64 p_high)]) [true] rfl ⟨rfl, rfl, rfl, trivial⟩
  refine f_seq ?_
  refine f_region ?_
  refine lv S (rn_assign rfl) rfl ?_; clear S; intro a S
  refine l_done ?_
  replace S := S.nf (L' := [.blk b_p_s [v_p_s_L, .int .i64 p_s_at] 25]) (K' := [(0, .pointer (some ⟨b_p_s, 0, none⟩)), (1, .int .i64 p_low), (2, .int .i64 p_high)]) [true] rfl ⟨rfl, rfl, rfl, trivial⟩
  refine then_n ?_
  refine f_seq ?_
  refine f_seq ?_
  refine f_region ?_
  refine lv S (rn_move (S.tm rfl)) rfl ?_; clear S; intro a S
  refine lv S (rn_move (S.tm rfl)) rfl ?_; clear S; intro a S
  refine lv S (rn_lss (S.tm rfl) (S.tm rfl)) rfl ?_; clear S; intro a S
  refine l_done ?_
  replace S := S.nf (L' := [.blk b_p_s [v_p_s_L, .int .i64 p_s_at] 25]) (K' := [(0, .pointer (some ⟨b_p_s, 0, none⟩)), (1, .int .i64 p_low), (2, .int .i64 p_high), (9, .bool (decide (p_high < p_low)))]) [true] rfl ⟨rfl, rfl, rfl, rfl, trivial⟩
  refine then_n ?_
  refine f_cond (S.tm rfl) (fun hb1 => ?_) (fun hb1 => ?_)
  · replace h := iteT h hb1
    refine f_seq ?_
    refine f_region ?_
    refine lv S (rn_move (S.tm rfl)) rfl ?_; clear S; intro a S
    refine lv S (rn_assign (S.tm rfl)) rfl ?_; clear S; intro a S
    refine l_done ?_
    replace S := S.nf (L' := [.blk b_p_s [v_p_s_L, .int .i64 p_s_at] 25]) (K' := [(6, .int .i64 p_low)]) [true] rfl ⟨rfl, trivial⟩
    refine then_n ?_
    refine wp_ret ?_
    refine then_r ?_
    obtain rfl := Option.some.inj h
    exact f_ret S Tryd.results48 rfl ⟨(S.holds _ (List.mem_of_getElem? (i := 0) rfl)), rfl⟩
  · replace h := iteF h hb1
    refine wp_skip ?_
    refine then_n ?_
    refine f_seq ?_
    refine f_region ?_
    refine lv S (rn_move (S.tm rfl)) rfl ?_; clear S; intro a S
    refine lv S (rn_move (S.tm rfl)) rfl ?_; clear S; intro a S
    refine lv S (rn_move (S.tm rfl)) rfl ?_; clear S; intro a S
    refine lv S (rn_move (S.tm rfl)) rfl ?_; clear S; intro a S
    refine lv S (rn_sub (S.tm rfl) (S.tm rfl)) rfl ?_; clear S; intro a S
    refine lv S (rn_add (S.tm rfl) rfl) rfl ?_; clear S; intro a S
    obtain ⟨r1, hr1, h⟩ := bindE h
    refine l_enter1 0 S (b := b_p_s) rfl rfl (fun _ => .blk b_p_s [v_p_s_L, .int .i64 r1.2] 25) (fun _ => run_call (vs := [.pointer (some ⟨b_p_s, 0, none⟩), .int .i64 (W ((W (p_high - p_low)) + 1))]) ⟨(S.tm rfl), (S.tm rfl), trivial⟩ Tryd.call27) (Stream_Next_ok _ b_p_s v_p_s_L p_s_L (hs_p_s_L.mono (S.le_arg (fp_sub (i := 0) (e := .blk b_p_s [v_p_s_L, .int .i64 p_s_at] 25) rfl))) p_s_at (S.holds _ (List.mem_of_getElem? (i := 0) rfl)) (W ((W (p_high - p_low)) + 1)) _ hr1) rfl (fun _ _ _ h => ⟨h.1, fun _ hc => by cases hc; rfl⟩) ?_; clear S; intro v1 a w1 hv1 hk1 hn1 S
    replace hv1 := hv1.2
    subst hv1
    refine lv S (rn_add (S.tm rfl) (S.tm rfl)) rfl ?_; clear S; intro a S
    refine lv S (rn_assign (S.tm rfl)) rfl ?_; clear S; intro a S
    refine l_done ?_
    replace S := S.nf (L' := [.blk b_p_s [v_p_s_L, .int .i64 r1.2] 25]) (K' := [(6, .int .i64 (W (p_low + r1.1)))]) [true] rfl ⟨rfl, trivial⟩
    refine then_n ?_
    refine wp_ret ?_
    obtain rfl := Option.some.inj h
    exact f_ret S Tryd.results48 rfl ⟨(S.holds _ (List.mem_of_getElem? (i := 0) rfl)), rfl⟩
theorem Stream_Some_ok (w : World) (b_p_s : Nat) (v_p_s_L : Value) (p_s_L : List Int) (hs_p_s_L : Slc (view w [b_p_s]) 1 v_p_s_L (p_s_L.map eInt)) (p_s_at : Int) (hb_b_p_s : (LEnt.blk b_p_s [v_p_s_L, .int .i64 p_s_at] 25).holds w) (v_p_l : Value) (p_l : List ByteArray) (hs_p_l : Slc (view w [b_p_s]) 1 v_p_l (p_l.map eStr)) (r : ByteArray × Int) (h : Stream_Some p_s_L p_s_at p_l = some r) :
    Calls Tryd.prog 5 [.pointer (some ⟨b_p_s, 0, none⟩), v_p_l].toArray w (Ret w [b_p_s] fun τ v w' => (LEnt.blk b_p_s [v_p_s_L, .int .i64 r.2] 25).holds w' ∧ v = .string r.1) := by
  refine f_enter [b_p_s] [.blk b_p_s [v_p_s_L, .int .i64 p_s_at] 25] Tryd.func5 rfl Tryd.ntmps5 rfl (fun e he => by simp only [List.mem_singleton] at he; subst he; exact hb_b_p_s) (by simp [fps, LEnt.fp]) (by simp [fps, LEnt.fp]) fun a S => ?_
  unfold Stream_Some at h
  replace S := S.nf (L' := [.blk b_p_s [v_p_s_L, .int .i64 p_s_at] 25]) (K' := [(0, .pointer (some ⟨b_p_s, 0, none⟩)), (1, v_p_l)]) [true] rfl ⟨rfl, rfl, trivial⟩
  refine f_seq ?_
  refine f_region ?_
  refine lv S (rn_assign rfl) rfl ?_; clear S; intro a S
  refine l_done ?_
  replace S := S.nf (L' := [.blk b_p_s [v_p_s_L, .int .i64 p_s_at] 25]) (K' := [(0, .pointer (some ⟨b_p_s, 0, none⟩)), (1, v_p_l)]) [true] rfl ⟨rfl, rfl, trivial⟩
  refine then_n ?_
  refine f_seq ?_
  refine f_region ?_
  refine lv S (rn_move (S.tm rfl)) rfl ?_; clear S; intro a S
  refine lv S (rn_move (S.tm rfl)) rfl ?_; clear S; intro a S
  refine lv S (rn_move (S.tm rfl)) rfl ?_; clear S; intro a S
  refine lv S (rn_lenT sl_33 (S.tm rfl) (slc_len hs_p_l)) rfl ?_; clear S; intro a S
  obtain ⟨r1, hr1, h⟩ := bindE h
  refine l_enter1 0 S (b := b_p_s) rfl rfl (fun _ => .blk b_p_s [v_p_s_L, .int .i64 r1.2] 25) (fun _ => run_call (vs := [.pointer (some ⟨b_p_s, 0, none⟩), .int .i64 (p_l.length : Int)]) ⟨(S.tm rfl), (S.tm rfl), trivial⟩ Tryd.call27) (Stream_Next_ok _ b_p_s v_p_s_L p_s_L (hs_p_s_L.mono (S.le_arg (fp_sub (i := 0) (e := .blk b_p_s [v_p_s_L, .int .i64 p_s_at] 25) rfl))) p_s_at (S.holds _ (List.mem_of_getElem? (i := 0) rfl)) (p_l.length : Int) _ hr1) rfl (fun _ _ _ h => ⟨h.1, fun _ hc => by cases hc; rfl⟩) ?_; clear S; intro v1 a w1 hv1 hk1 hn1 S
  replace hv1 := hv1.2
  subst hv1
  obtain ⟨hc1, h⟩ := chkE h
  obtain ⟨b1, o1, hm1, hr2⟩ := rn_indexT (a := a) (x := .tmp 5) (y := .tmp 9) (ty := 0) sl_33 hs_p_l (inB_get hc1).1 (inB_get hc1).2 (S.tm rfl) (S.tm rfl)
  refine lv S (hr2 _) rfl ?_; clear S; intro a S
  clear hr2
  refine lv S (rn_ld Tryd.isAgg9 (off := o1) (o := 0) (S.tm rfl) (hm1.at S.emb0) rfl) rfl ?_; clear S; intro a S
  refine lv S (rn_assign (S.tm rfl)) rfl ?_; clear S; intro a S
  refine l_done ?_
  replace S := S.nf (L' := [.blk b_p_s [v_p_s_L, .int .i64 r1.2] 25]) (K' := [(4, .string (nth p_l r1.1))]) [true] rfl ⟨rfl, trivial⟩
  refine then_n ?_
  refine wp_ret ?_
  obtain rfl := Option.some.inj h
  exact f_ret S Tryd.results5 rfl ⟨(S.holds _ (List.mem_of_getElem? (i := 0) rfl)), rfl⟩
theorem Stream_RightMoves_ok (w : World) (b_p_s : Nat) (v_p_s_L : Value) (p_s_L : List Int) (hs_p_s_L : Slc (view w [b_p_s]) 1 v_p_s_L (p_s_L.map eInt)) (p_s_at : Int) (hb_b_p_s : (LEnt.blk b_p_s [v_p_s_L, .int .i64 p_s_at] 25).holds w) (r : (List GMove) × Int) (h : Stream_RightMoves p_s_L p_s_at = some r) :
    Calls Tryd.prog 26 [.pointer (some ⟨b_p_s, 0, none⟩)].toArray w (Ret w [b_p_s] fun τ v w' => (LEnt.blk b_p_s [v_p_s_L, .int .i64 r.2] 25).holds w' ∧ OwnV τ 59 3 v r.1.length (r.1.flatMap GMove.enc)) := by
  refine f_enter [b_p_s] [.blk b_p_s [v_p_s_L, .int .i64 p_s_at] 25] Tryd.func26 rfl Tryd.ntmps26 rfl (fun e he => by simp only [List.mem_singleton] at he; subst he; exact hb_b_p_s) (by simp [fps, LEnt.fp]) (by simp [fps, LEnt.fp]) fun a S => ?_
  unfold Stream_RightMoves at h
  replace S := S.nf (L' := [.blk b_p_s [v_p_s_L, .int .i64 p_s_at] 25]) (K' := [(0, .pointer (some ⟨b_p_s, 0, none⟩))]) [true] rfl ⟨rfl, trivial⟩
  refine f_seq ?_
  refine f_region ?_
  refine lv S (rn_assign rfl) rfl ?_; clear S; intro a S
  refine l_done ?_
  replace S := S.nf (L' := [.blk b_p_s [v_p_s_L, .int .i64 p_s_at] 25]) (K' := [(0, .pointer (some ⟨b_p_s, 0, none⟩))]) [true] rfl ⟨rfl, trivial⟩
  refine then_n ?_
  refine f_seq ?_
  refine f_region ?_
  refine lv S (rn_assign rfl) rfl ?_; clear S; intro a S
  replace S := S.nil 59 3
  refine l_done ?_
  replace S := S.nf (L' := [.own (.slice none 0 0) 59 3 ([] : List GMove).length (([] : List GMove).flatMap GMove.enc), .blk b_p_s [v_p_s_L, .int .i64 p_s_at] 25]) (K' := [(0, .pointer (some ⟨b_p_s, 0, none⟩)), (3, (.slice none 0 0))]) [true, true] rfl ⟨rfl, rfl, trivial⟩
  refine then_n ?_
  refine f_seq ?_
  refine f_seq ?_
  refine f_region ?_
  refine l_buildSlice S Tryd.underlying33 Tryd.sizeOf9 Tryd.zeroValue9 rfl rfl (pv := [(0, .string k_ann), (1, .string k_bea), (2, .string k_cid), (3, .string k_dan), (4, .string k_eve)]) ⟨rfl, rfl, rfl, rfl, rfl, rfl, rfl, rfl, rfl, rfl, trivial⟩ (cs := [.string k_ann, .string k_bea, .string k_cid, .string k_dan, .string k_eve]) (by kernel_rfl) rfl ?_; clear S; intro a w1 b1 hz1 hk1 S
  refine lv S (rn_lenT sl_33 (S.tm rfl) ⟨_, _, rfl⟩) rfl ?_; clear S; intro a S
  refine lv S (rn_move rfl) rfl ?_; clear S; intro a S
  refine l_done ?_
  replace S := S.nf (L' := [.blk b1 [.string k_ann, .string k_bea, .string k_cid, .string k_dan, .string k_eve] 9, .own (.slice none 0 0) 59 3 ([] : List GMove).length (([] : List GMove).flatMap GMove.enc), .blk b_p_s [v_p_s_L, .int .i64 p_s_at] 25]) (K' := [(0, .pointer (some ⟨b_p_s, 0, none⟩)), (3, (.slice none 0 0)), (9, .slice (some ⟨b1, 0, none⟩) 5 5), (10, .int .i64 (([k_ann, k_bea, k_cid, k_dan, k_eve] : List ByteArray).length : Int)), (11, .int .i64 0)]) [true, true, true] rfl ⟨rfl, rfl, rfl, rfl, rfl, trivial⟩
  refine then_n ?_
  replace S := S.litOwn (i := 0) (xs := [k_ann, k_bea, k_cid, k_dan, k_eve]) rfl enc_str rfl rfl rfl
  replace S := S.nf (L' := [.own (.slice (some ⟨b1, 0, none⟩) 5 5) 9 1 ([k_ann, k_bea, k_cid, k_dan, k_eve] : List ByteArray).length (([k_ann, k_bea, k_cid, k_dan, k_eve] : List ByteArray).flatMap eStr), .own (.slice none 0 0) 59 3 ([] : List GMove).length (([] : List GMove).flatMap GMove.enc), .blk b_p_s [v_p_s_L, .int .i64 p_s_at] 25]) (K' := [(0, .pointer (some ⟨b_p_s, 0, none⟩)), (3, (.slice none 0 0)), (9, (.slice (some ⟨b1, 0, none⟩) 5 5)), (10, .int .i64 (([k_ann, k_bea, k_cid, k_dan, k_eve] : List ByteArray).length : Int)), (11, .int .i64 0)]) [] rfl ⟨rfl, rfl, rfl, rfl, rfl, trivial⟩
  obtain ⟨φ1, hl1, hs1, S⟩ := S.freezeT (xs := ([k_ann, k_bea, k_cid, k_dan, k_eve] : List ByteArray)) (enc := eStr) (i := 0) rfl (fun c hc hh => not_fps S (i := 2) rfl rfl (j := 0) rfl rfl (by simp at hc; subst hc; exact hh))
  replace S := S.nf (L' := [.own (.slice none 0 0) 59 3 ([] : List GMove).length (([] : List GMove).flatMap GMove.enc), .blk b_p_s [v_p_s_L, .int .i64 p_s_at] 25]) (K' := [(0, .pointer (some ⟨b_p_s, 0, none⟩)), (3, (.slice none 0 0)), (9, (.slice (some ⟨b1, 0, none⟩) 5 5)), (10, .int .i64 (([k_ann, k_bea, k_cid, k_dan, k_eve] : List ByteArray).length : Int)), (11, .int .i64 0)]) [] rfl ⟨rfl, rfl, rfl, rfl, rfl, trivial⟩
  obtain ⟨j1, hj1, h⟩ := joinE h
  refine f_join (fun a w' => ∃ x1 : List GMove, ∃ x2 : Int, ∃ v1 : Value, j1 x1 x2 = some r ∧ Sx w [b_p_s] φ1 [.own v1 59 3 x1.length (x1.flatMap GMove.enc), .blk b_p_s [v_p_s_L, .int .i64 x2] 25] [(3, v1)] 44 a w') ?_ ?_
  · refine wp_block ?_
    refine f_loop (fun (ys1 : List ByteArray) a w' => ∃ i1 : Nat, ∃ x1 : List GMove, ∃ x2 : Int, ∃ v1 : Value, (∃ dn, ([k_ann, k_bea, k_cid, k_dan, k_eve] : List ByteArray) = dn ++ ys1 ∧ dn.length = i1) ∧ Stream_RightMoves_l1 p_s_L j1 ys1 i1 x1 x2 = some r ∧ Sx w [b_p_s] φ1 [.own v1 59 3 x1.length (x1.flatMap GMove.enc), .blk b_p_s [v_p_s_L, .int .i64 x2] 25] [(0, .pointer (some ⟨b_p_s, 0, none⟩)), (3, v1), (9, (.slice (some ⟨b1, 0, none⟩) 5 5)), (10, .int .i64 (([k_ann, k_bea, k_cid, k_dan, k_eve] : List ByteArray).length : Int)), (11, .int .i64 (i1 : Int))] 44 a w') List.length ([k_ann, k_bea, k_cid, k_dan, k_eve] : List ByteArray) ⟨0, ([] : List GMove), p_s_at, (.slice none 0 0), ⟨[], rfl, rfl⟩, h, S.nf [true, true] rfl ⟨rfl, rfl, rfl, rfl, rfl, trivial⟩⟩ ?_
    clear S h; rintro ys1 a w2 ⟨i1, x1, x2, v1, ⟨dn, hd1, hi1⟩, h, S⟩
    cases ys1 with
    | nil =>
      rw [Stream_RightMoves_l1.eq_1] at h
      refine f_seq ?_
      refine f_region ?_
      refine lv S (rn_lss (S.tm rfl) (S.tm rfl)) rfl ?_; clear S; intro a S
      refine l_done ?_
      replace S := S.nf (L' := [.own v1 59 3 x1.length (x1.flatMap GMove.enc), .blk b_p_s [v_p_s_L, .int .i64 x2] 25]) (K' := [(0, .pointer (some ⟨b_p_s, 0, none⟩)), (3, v1), (9, (.slice (some ⟨b1, 0, none⟩) 5 5)), (10, .int .i64 (([k_ann, k_bea, k_cid, k_dan, k_eve] : List ByteArray).length : Int)), (11, .int .i64 (i1 : Int)), (12, .bool (decide ((i1 : Int) < (([k_ann, k_bea, k_cid, k_dan, k_eve] : List ByteArray).length : Int))))]) [true, true] rfl ⟨rfl, rfl, rfl, rfl, rfl, rfl, trivial⟩
      refine then_n ?_
      refine f_seq ?_
      refine wp_cond_false ((S.tm rfl).trans (congrArg Value.bool (rng_nil hd1 hi1))) ?_
      refine wp_exit ?_
      refine then_x ?_
      refine then_x ?_
      refine x_same ?_
      refine then_n ?_
      exact ⟨x1, x2, v1, h, S.nf [true, true] rfl ⟨rfl, trivial⟩⟩
    | cons y1 ys1 =>
      rw [Stream_RightMoves_l1.eq_2] at h
      refine f_seq ?_
      refine f_region ?_
      refine lv S (rn_lss (S.tm rfl) (S.tm rfl)) rfl ?_; clear S; intro a S
      refine l_done ?_
      replace S := S.nf (L' := [.own v1 59 3 x1.length (x1.flatMap GMove.enc), .blk b_p_s [v_p_s_L, .int .i64 x2] 25]) (K' := [(0, .pointer (some ⟨b_p_s, 0, none⟩)), (3, v1), (9, (.slice (some ⟨b1, 0, none⟩) 5 5)), (10, .int .i64 (([k_ann, k_bea, k_cid, k_dan, k_eve] : List ByteArray).length : Int)), (11, .int .i64 (i1 : Int)), (12, .bool (decide ((i1 : Int) < (([k_ann, k_bea, k_cid, k_dan, k_eve] : List ByteArray).length : Int))))]) [true, true] rfl ⟨rfl, rfl, rfl, rfl, rfl, rfl, trivial⟩
      refine then_n ?_
      refine f_seq ?_
      refine wp_cond_true ((S.tm rfl).trans (congrArg Value.bool (rng_cons hd1 hi1))) ?_
      refine wp_skip ?_
      refine then_n ?_
      refine f_seq ?_
      refine wp_block ?_
      refine f_seq ?_
      refine f_region ?_
      obtain ⟨b2, o1, hm1, hr1⟩ := rn_indexT (a := a) (x := .tmp 9) (y := .tmp 11) (ty := 0) sl_33 (ownV_slcT enc_str hs1) (get_mid hd1 hi1) rfl (S.tm rfl) (S.tm rfl)
      refine lv S (hr1 _) rfl ?_; clear S; intro a S
      clear hr1
      refine lv S (rn_ld Tryd.isAgg9 (off := o1) (o := 0) (S.tm rfl) (hm1.at S.emb) rfl) rfl ?_; clear S; intro a S
      refine lv S (rn_assign (S.tm rfl)) rfl ?_; clear S; intro a S
      refine l_done ?_
      replace S := S.nf (L' := [.own v1 59 3 x1.length (x1.flatMap GMove.enc), .blk b_p_s [v_p_s_L, .int .i64 x2] 25]) (K' := [(0, .pointer (some ⟨b_p_s, 0, none⟩)), (3, v1), (5, .string y1), (9, (.slice (some ⟨b1, 0, none⟩) 5 5)), (10, .int .i64 (([k_ann, k_bea, k_cid, k_dan, k_eve] : List ByteArray).length : Int)), (11, .int .i64 (i1 : Int))]) [true, true] rfl ⟨rfl, rfl, rfl, rfl, rfl, rfl, trivial⟩
      refine then_n ?_
      refine f_seq ?_
      refine f_region ?_
      refine lv S (rn_move (S.tm rfl)) rfl ?_; clear S; intro a S
      refine l_buildSlice S Tryd.underlying22 Tryd.sizeOf3 Tryd.zeroValue3 rfl rfl (pv := [(0, .int .i64 (-100)), (1, .int .i64 0), (2, .int .i64 50)]) ⟨rfl, rfl, rfl, rfl, rfl, rfl, trivial⟩ (cs := [.int .i64 (-100), .int .i64 0, .int .i64 50]) (by kernel_rfl) rfl ?_; clear S; intro a w4 b3 hz2 hk2 S
      obtain ⟨r1, hr2, h⟩ := bindE h
      refine l_enter1 2 S (b := b_p_s) rfl rfl (fun _ => .blk b_p_s [v_p_s_L, .int .i64 r1.2] 25) (fun _ => run_call (vs := [.pointer (some ⟨b_p_s, 0, none⟩), .slice (some ⟨b3, 0, none⟩) 3 3]) ⟨(S.tm rfl), (S.tm rfl), trivial⟩ Tryd.call19) (Stream_Pick_ok _ b_p_s v_p_s_L p_s_L (hs_p_s_L.mono (S.le_arg (fp_sub (i := 2) (e := .blk b_p_s [v_p_s_L, .int .i64 x2] 25) rfl))) x2 (S.holds _ (List.mem_of_getElem? (i := 2) rfl)) (.slice (some ⟨b3, 0, none⟩) 3 3) [(-100), 0, 50] (lit_slcT enc_int S (i := 0) rfl rfl rfl rfl ((ne_fp (i := 2) (j := 0) (e := .blk b_p_s [v_p_s_L, .int .i64 x2] 25) (e' := .blk b3 [.int .i64 (-100), .int .i64 0, .int .i64 50] 3) S rfl rfl rfl) _ rfl)) _ hr2) rfl (fun _ _ _ h => ⟨h.1, fun _ hc => by cases hc; rfl⟩) ?_; clear S; intro v2 a w5 hv1 hk3 hn1 S
      replace hv1 := hv1.2
      subst hv1
      refine lv S (rn_assign (S.tm rfl)) rfl ?_; clear S; intro a S
      refine lv S (rn_assign rfl) rfl ?_; clear S; intro a S
      refine l_done ?_
      replace S := S.nf (L' := [.own v1 59 3 x1.length (x1.flatMap GMove.enc), .blk b_p_s [v_p_s_L, .int .i64 r1.2] 25]) (K' := [(0, .pointer (some ⟨b_p_s, 0, none⟩)), (3, v1), (5, .string y1), (6, .int .i64 r1.1), (7, .string k_empty), (9, (.slice (some ⟨b1, 0, none⟩) 5 5)), (10, .int .i64 (([k_ann, k_bea, k_cid, k_dan, k_eve] : List ByteArray).length : Int)), (11, .int .i64 (i1 : Int))]) [false, true, true] rfl ⟨rfl, rfl, rfl, rfl, rfl, rfl, rfl, rfl, trivial⟩
      refine then_n ?_
      refine f_seq ?_
      refine f_region ?_
      refine lv S (rn_move (S.tm rfl)) rfl ?_; clear S; intro a S
      obtain ⟨r2, hr3, h⟩ := bindE h
      refine l_enter1 1 S (b := b_p_s) rfl rfl (fun _ => .blk b_p_s [v_p_s_L, .int .i64 r2.2] 25) (fun _ => run_call (vs := [.pointer (some ⟨b_p_s, 0, none⟩), .int .i64 0, .int .i64 3]) ⟨(S.tm rfl), rfl, rfl, trivial⟩ Tryd.call48) (Stream_Range_ok _ b_p_s v_p_s_L p_s_L (hs_p_s_L.mono (S.le_arg (fp_sub (i := 1) (e := .blk b_p_s [v_p_s_L, .int .i64 r1.2] 25) rfl))) r1.2 (S.holds _ (List.mem_of_getElem? (i := 1) rfl)) 0 3 _ hr3) rfl (fun _ _ _ h => ⟨h.1, fun _ hc => by cases hc; rfl⟩) ?_; clear S; intro v3 a w6 hv2 hk4 hn2 S
      replace hv2 := hv2.2
      subst hv2
      refine lv S (rn_move rfl) rfl ?_; clear S; intro a S
      refine l_done ?_
      replace S := S.nf (L' := [.own v1 59 3 x1.length (x1.flatMap GMove.enc), .blk b_p_s [v_p_s_L, .int .i64 r2.2] 25]) (K' := [(0, .pointer (some ⟨b_p_s, 0, none⟩)), (3, v1), (5, .string y1), (6, .int .i64 r1.1), (7, .string k_empty), (9, (.slice (some ⟨b1, 0, none⟩) 5 5)), (10, .int .i64 (([k_ann, k_bea, k_cid, k_dan, k_eve] : List ByteArray).length : Int)), (11, .int .i64 (i1 : Int)), (19, .int .i64 r2.1), (20, .int .i64 0)]) [true, true] rfl ⟨rfl, rfl, rfl, rfl, rfl, rfl, rfl, rfl, rfl, rfl, trivial⟩
      refine then_n ?_
      obtain ⟨j2, hj2, h⟩ := joinE h
      refine f_join (fun a w' => ∃ x3 : List GMove, ∃ x4 : Int, ∃ v4 : Value, j2 x3 x4 = some r ∧ Sx w [b_p_s] φ1 [.own v4 59 3 x3.length (x3.flatMap GMove.enc), .blk b_p_s [v_p_s_L, .int .i64 x4] 25] [(0, .pointer (some ⟨b_p_s, 0, none⟩)), (3, v4), (9, (.slice (some ⟨b1, 0, none⟩) 5 5)), (10, .int .i64 (([k_ann, k_bea, k_cid, k_dan, k_eve] : List ByteArray).length : Int)), (11, .int .i64 (i1 : Int))] 44 a w') ?_ ?_
      · refine wp_block ?_
        refine f_loop (fun (m1 : Nat) a w' => ∃ x3 : List GMove, ∃ x4 : Int, ∃ x5 : Int, ∃ x6 : ByteArray, ∃ x7 : Int, ∃ v4 : Value, Stream_RightMoves_l2 r2 p_s_L y1 j2 m1 x3 x4 x5 x6 x7 = some r ∧ Sx w [b_p_s] φ1 [.own v4 59 3 x3.length (x3.flatMap GMove.enc), .blk b_p_s [v_p_s_L, .int .i64 x4] 25] [(0, .pointer (some ⟨b_p_s, 0, none⟩)), (3, v4), (5, .string y1), (6, .int .i64 x5), (7, .string x6), (9, (.slice (some ⟨b1, 0, none⟩) 5 5)), (10, .int .i64 (([k_ann, k_bea, k_cid, k_dan, k_eve] : List ByteArray).length : Int)), (11, .int .i64 (i1 : Int)), (19, .int .i64 r2.1), (20, .int .i64 x7)] 44 a w') id ((r2.1 - 0).toNat + 2) ⟨x1, r2.2, r1.1, k_empty, 0, v1, h, S.nf [true, true] rfl ⟨rfl, rfl, rfl, rfl, rfl, rfl, rfl, rfl, rfl, rfl, trivial⟩⟩ ?_
        clear S h; rintro m1 a w7 ⟨x3, x4, x5, x6, x7, v4, h, S⟩
        cases m1 with
        | zero => rw [Stream_RightMoves_l2.eq_1] at h; cases h
        | succ m1 =>
          rw [Stream_RightMoves_l2.eq_2] at h
          refine f_seq ?_
          refine f_region ?_
          refine lv S (rn_lss (S.tm rfl) (S.tm rfl)) rfl ?_; clear S; intro a S
          refine l_done ?_
          replace S := S.nf (L' := [.own v4 59 3 x3.length (x3.flatMap GMove.enc), .blk b_p_s [v_p_s_L, .int .i64 x4] 25]) (K' := [(0, .pointer (some ⟨b_p_s, 0, none⟩)), (3, v4), (5, .string y1), (6, .int .i64 x5), (7, .string x6), (9, (.slice (some ⟨b1, 0, none⟩) 5 5)), (10, .int .i64 (([k_ann, k_bea, k_cid, k_dan, k_eve] : List ByteArray).length : Int)), (11, .int .i64 (i1 : Int)), (19, .int .i64 r2.1), (20, .int .i64 x7), (21, .bool (decide (x7 < r2.1)))]) [true, true] rfl ⟨rfl, rfl, rfl, rfl, rfl, rfl, rfl, rfl, rfl, rfl, rfl, trivial⟩
          refine then_n ?_
          refine f_seq ?_
          refine f_cond (S.tm rfl) (fun hb1 => ?_) (fun hb1 => ?_)
          · replace h := iteT h hb1
            refine wp_skip ?_
            refine then_n ?_
            refine f_seq ?_
            obtain ⟨j3, hj3, h⟩ := joinE h
            refine f_join (fun a w' => ∃ x8 : List GMove, ∃ x9 : Int, ∃ x10 : Int, ∃ x11 : ByteArray, ∃ v5 : Value, j3 x8 x9 x10 x11 = some r ∧ Sx w [b_p_s] φ1 [.own v5 59 3 x8.length (x8.flatMap GMove.enc), .blk b_p_s [v_p_s_L, .int .i64 x9] 25] [(0, .pointer (some ⟨b_p_s, 0, none⟩)), (3, v5), (5, .string y1), (6, .int .i64 x10), (7, .string x11), (9, (.slice (some ⟨b1, 0, none⟩) 5 5)), (10, .int .i64 (([k_ann, k_bea, k_cid, k_dan, k_eve] : List ByteArray).length : Int)), (11, .int .i64 (i1 : Int)), (19, .int .i64 r2.1), (20, .int .i64 x7)] 44 a w') ?_ ?_
            · refine wp_block ?_
              refine f_seq ?_
              refine f_region ?_
              refine lv S (rn_move (S.tm rfl)) rfl ?_; clear S; intro a S
              refine l_buildSlice S Tryd.underlying33 Tryd.sizeOf9 Tryd.zeroValue9 rfl rfl (pv := [(0, .string k_blue), (1, .string k_blue), (2, .string k_red), (3, .string k_empty)]) ⟨rfl, rfl, rfl, rfl, rfl, rfl, rfl, rfl, trivial⟩ (cs := [.string k_blue, .string k_blue, .string k_red, .string k_empty]) (by kernel_rfl) rfl ?_; clear S; intro a w10 b4 hz3 hk5 S
              obtain ⟨r3, hr4, h⟩ := bindE h
              refine l_enter1 2 S (b := b_p_s) rfl rfl (fun _ => .blk b_p_s [v_p_s_L, .int .i64 r3.2] 25) (fun _ => run_call (vs := [.pointer (some ⟨b_p_s, 0, none⟩), .slice (some ⟨b4, 0, none⟩) 4 4]) ⟨(S.tm rfl), (S.tm rfl), trivial⟩ Tryd.call5) (Stream_Some_ok _ b_p_s v_p_s_L p_s_L (hs_p_s_L.mono (S.le_arg (fp_sub (i := 2) (e := .blk b_p_s [v_p_s_L, .int .i64 x4] 25) rfl))) x4 (S.holds _ (List.mem_of_getElem? (i := 2) rfl)) (.slice (some ⟨b4, 0, none⟩) 4 4) [k_blue, k_blue, k_red, k_empty] (lit_slcT enc_str S (i := 0) rfl rfl rfl rfl ((ne_fp (i := 2) (j := 0) (e := .blk b_p_s [v_p_s_L, .int .i64 x4] 25) (e' := .blk b4 [.string k_blue, .string k_blue, .string k_red, .string k_empty] 9) S rfl rfl rfl) _ rfl)) _ hr4) rfl (fun _ _ _ h => ⟨h.1, fun _ hc => by cases hc; rfl⟩) ?_; clear S; intro v6 a w11 hv3 hk6 hn3 S
              replace hv3 := hv3.2
              subst hv3
              refine lv S (rn_assign (S.tm rfl)) rfl ?_; clear S; intro a S
              refine l_done ?_
              replace S := S.nf (L' := [.own v4 59 3 x3.length (x3.flatMap GMove.enc), .blk b_p_s [v_p_s_L, .int .i64 r3.2] 25]) (K' := [(0, .pointer (some ⟨b_p_s, 0, none⟩)), (3, v4), (5, .string y1), (6, .int .i64 x5), (7, .string x6), (8, .string r3.1), (9, (.slice (some ⟨b1, 0, none⟩) 5 5)), (10, .int .i64 (([k_ann, k_bea, k_cid, k_dan, k_eve] : List ByteArray).length : Int)), (11, .int .i64 (i1 : Int)), (19, .int .i64 r2.1), (20, .int .i64 x7)]) [false, true, true] rfl ⟨rfl, rfl, rfl, rfl, rfl, rfl, rfl, rfl, rfl, rfl, rfl, trivial⟩
              refine then_n ?_
              refine f_seq ?_
              refine f_seq ?_
              refine f_region ?_
              refine lv S (rn_move (S.tm rfl)) rfl ?_; clear S; intro a S
              refine lv S (rn_move (S.tm rfl)) rfl ?_; clear S; intro a S
              refine lv S (rn_seql (S.tm rfl) (S.tm rfl)) rfl ?_; clear S; intro a S
              refine l_done ?_
              replace S := S.nf (L' := [.own v4 59 3 x3.length (x3.flatMap GMove.enc), .blk b_p_s [v_p_s_L, .int .i64 r3.2] 25]) (K' := [(0, .pointer (some ⟨b_p_s, 0, none⟩)), (3, v4), (5, .string y1), (6, .int .i64 x5), (7, .string x6), (8, .string r3.1), (9, (.slice (some ⟨b1, 0, none⟩) 5 5)), (10, .int .i64 (([k_ann, k_bea, k_cid, k_dan, k_eve] : List ByteArray).length : Int)), (11, .int .i64 (i1 : Int)), (19, .int .i64 r2.1), (20, .int .i64 x7), (27, .bool (decide (r3.1 = x6)))]) [true, true] rfl ⟨rfl, rfl, rfl, rfl, rfl, rfl, rfl, rfl, rfl, rfl, rfl, rfl, trivial⟩
              refine then_n ?_
              refine f_cond (S.tm rfl) (fun hb2 => ?_) (fun hb2 => ?_)
              · replace h := iteT h hb2
                refine wp_exit ?_
                refine then_x ?_
                refine x_same ?_
                refine then_n ?_
                exact ⟨x3, r3.2, x5, x6, v4, h, S.nf [true, true] rfl ⟨rfl, rfl, rfl, rfl, rfl, rfl, rfl, rfl, rfl, rfl, trivial⟩⟩
              · replace h := iteF h hb2
                refine wp_skip ?_
                refine then_n ?_
                refine f_seq ?_
                refine f_region ?_
                refine lv S (rn_move (S.tm rfl)) rfl ?_; clear S; intro a S
                refine lv S (rn_move (S.tm rfl)) rfl ?_; clear S; intro a S
                refine lv S (rn_move (S.tm rfl)) rfl ?_; clear S; intro a S
                refine lv S (rn_move (S.tm rfl)) rfl ?_; clear S; intro a S
                refine lv S (rn_bld bt_59 (pv := [(0, .string y1), (1, .string r3.1), (2, .int .i64 x5)]) ⟨rfl, (S.tm rfl), rfl, (S.tm rfl), rfl, (S.tm rfl), trivial⟩ (cs := [.string y1, .string r3.1, .int .i64 x5]) (by kernel_rfl)) rfl ?_; clear S; intro a S
                refine l_buildSlice S Tryd.underlying26 Tryd.sizeOf59 Tryd.zeroValue59 rfl rfl (pv := [(0, .agg #[.string y1, .string r3.1, .int .i64 x5])]) ⟨rfl, (S.tm rfl), trivial⟩ (cs := [.string y1, .string r3.1, .int .i64 x5]) (by kernel_rfl) rfl ?_; clear S; intro a w12 b5 hz4 hk7 S
                obtain ⟨hc1, h⟩ := chkE h
                refine l_appendT sl_26 GMove.enc_ok S (S.tm rfl) (i := 1) rfl (S.tm rfl) (j := 0) rfl (ys := [(GMove.mk y1 r3.1 x5)]) rfl rfl rfl rfl (by have := room_lt hc1; omega) rfl ?_; clear S; intro v7 a w13 hk8 S
                refine lv S (rn_assign (S.tm rfl)) rfl ?_; clear S; intro a S
                refine l_done ?_
                replace S := S.nf (L' := [.own v7 59 3 (x3 ++ [(GMove.mk y1 r3.1 x5)]).length ((x3 ++ [(GMove.mk y1 r3.1 x5)]).flatMap GMove.enc), .blk b_p_s [v_p_s_L, .int .i64 r3.2] 25]) (K' := [(0, .pointer (some ⟨b_p_s, 0, none⟩)), (3, v7), (5, .string y1), (6, .int .i64 x5), (8, .string r3.1), (9, (.slice (some ⟨b1, 0, none⟩) 5 5)), (10, .int .i64 (([k_ann, k_bea, k_cid, k_dan, k_eve] : List ByteArray).length : Int)), (11, .int .i64 (i1 : Int)), (19, .int .i64 r2.1), (20, .int .i64 x7)]) [false, true, true] rfl ⟨rfl, rfl, rfl, rfl, rfl, rfl, rfl, rfl, rfl, rfl, trivial⟩
                refine then_n ?_
                refine f_seq ?_
                refine f_region ?_
                refine lv S (rn_move (S.tm rfl)) rfl ?_; clear S; intro a S
                refine lv S (rn_assign (S.tm rfl)) rfl ?_; clear S; intro a S
                refine l_done ?_
                replace S := S.nf (L' := [.own v7 59 3 (x3 ++ [(GMove.mk y1 r3.1 x5)]).length ((x3 ++ [(GMove.mk y1 r3.1 x5)]).flatMap GMove.enc), .blk b_p_s [v_p_s_L, .int .i64 r3.2] 25]) (K' := [(0, .pointer (some ⟨b_p_s, 0, none⟩)), (3, v7), (5, .string y1), (6, .int .i64 x5), (7, .string r3.1), (9, (.slice (some ⟨b1, 0, none⟩) 5 5)), (10, .int .i64 (([k_ann, k_bea, k_cid, k_dan, k_eve] : List ByteArray).length : Int)), (11, .int .i64 (i1 : Int)), (19, .int .i64 r2.1), (20, .int .i64 x7)]) [true, true] rfl ⟨rfl, rfl, rfl, rfl, rfl, rfl, rfl, rfl, rfl, rfl, trivial⟩
                refine then_n ?_
                refine f_region ?_
                refine lv S (rn_move (S.tm rfl)) rfl ?_; clear S; intro a S
                refine lv S (rn_move (S.tm rfl)) rfl ?_; clear S; intro a S
                refine l_buildSlice S Tryd.underlying22 Tryd.sizeOf3 Tryd.zeroValue3 rfl rfl (pv := [(0, .int .i64 1), (1, .int .i64 30), (2, .int .i64 365)]) ⟨rfl, rfl, rfl, rfl, rfl, rfl, trivial⟩ (cs := [.int .i64 1, .int .i64 30, .int .i64 365]) (by kernel_rfl) rfl ?_; clear S; intro a w14 b6 hz5 hk9 S
                obtain ⟨r4, hr5, h⟩ := bindE h
                refine l_enter1 2 S (b := b_p_s) rfl rfl (fun _ => .blk b_p_s [v_p_s_L, .int .i64 r4.2] 25) (fun _ => run_call (vs := [.pointer (some ⟨b_p_s, 0, none⟩), .slice (some ⟨b6, 0, none⟩) 3 3]) ⟨(S.tm rfl), (S.tm rfl), trivial⟩ Tryd.call19) (Stream_Pick_ok _ b_p_s v_p_s_L p_s_L (hs_p_s_L.mono (S.le_arg (fp_sub (i := 2) (e := .blk b_p_s [v_p_s_L, .int .i64 r3.2] 25) rfl))) r3.2 (S.holds _ (List.mem_of_getElem? (i := 2) rfl)) (.slice (some ⟨b6, 0, none⟩) 3 3) [1, 30, 365] (lit_slcT enc_int S (i := 0) rfl rfl rfl rfl ((ne_fp (i := 2) (j := 0) (e := .blk b_p_s [v_p_s_L, .int .i64 r3.2] 25) (e' := .blk b6 [.int .i64 1, .int .i64 30, .int .i64 365] 3) S rfl rfl rfl) _ rfl)) _ hr5) rfl (fun _ _ _ h => ⟨h.1, fun _ hc => by cases hc; rfl⟩) ?_; clear S; intro v8 a w15 hv4 hk10 hn4 S
                replace hv4 := hv4.2
                subst hv4
                refine lv S (rn_add (S.tm rfl) (S.tm rfl)) rfl ?_; clear S; intro a S
                refine lv S (rn_assign (S.tm rfl)) rfl ?_; clear S; intro a S
                refine l_done ?_
                replace S := S.nf (L' := [.own v7 59 3 (x3 ++ [(GMove.mk y1 r3.1 x5)]).length ((x3 ++ [(GMove.mk y1 r3.1 x5)]).flatMap GMove.enc), .blk b_p_s [v_p_s_L, .int .i64 r4.2] 25]) (K' := [(0, .pointer (some ⟨b_p_s, 0, none⟩)), (3, v7), (5, .string y1), (6, .int .i64 (W (x5 + r4.1))), (7, .string r3.1), (9, (.slice (some ⟨b1, 0, none⟩) 5 5)), (10, .int .i64 (([k_ann, k_bea, k_cid, k_dan, k_eve] : List ByteArray).length : Int)), (11, .int .i64 (i1 : Int)), (19, .int .i64 r2.1), (20, .int .i64 x7)]) [false, true, true] rfl ⟨rfl, rfl, rfl, rfl, rfl, rfl, rfl, rfl, rfl, rfl, trivial⟩
                refine blk_n ?_
                refine then_n ?_
                exact ⟨(x3 ++ [(GMove.mk y1 r3.1 x5)]), r4.2, W (x5 + r4.1), r3.1, v7, h, S.nf [true, true] rfl ⟨rfl, rfl, rfl, rfl, rfl, rfl, rfl, rfl, rfl, rfl, trivial⟩⟩
            clear S h; rintro a w9 ⟨x8, x9, x10, x11, v5, h, S⟩; rw [hj3] at h; clear hj3 j3
            refine then_n ?_
            refine f_region ?_
            refine lv S (rn_add (S.tm rfl) rfl) rfl ?_; clear S; intro a S
            refine lv S (rn_move (S.tm rfl)) rfl ?_; clear S; intro a S
            refine l_done ?_
            replace S := S.nf (L' := [.own v5 59 3 x8.length (x8.flatMap GMove.enc), .blk b_p_s [v_p_s_L, .int .i64 x9] 25]) (K' := [(0, .pointer (some ⟨b_p_s, 0, none⟩)), (3, v5), (5, .string y1), (6, .int .i64 x10), (7, .string x11), (9, (.slice (some ⟨b1, 0, none⟩) 5 5)), (10, .int .i64 (([k_ann, k_bea, k_cid, k_dan, k_eve] : List ByteArray).length : Int)), (11, .int .i64 (i1 : Int)), (19, .int .i64 r2.1), (20, .int .i64 (W (x7 + 1)))]) [true, true] rfl ⟨rfl, rfl, rfl, rfl, rfl, rfl, rfl, rfl, rfl, rfl, trivial⟩
            refine then_n ?_
            exact ⟨m1, ⟨x8, x9, x10, x11, W (x7 + 1), v5, h, S.nf [true, true] rfl ⟨rfl, rfl, rfl, rfl, rfl, rfl, rfl, rfl, rfl, rfl, trivial⟩⟩, Nat.lt_succ_self _⟩
          · replace h := iteF h hb1
            refine wp_exit ?_
            refine then_x ?_
            refine then_x ?_
            refine x_same ?_
            refine then_n ?_
            exact ⟨x3, x4, v4, h, S.nf [true, true] rfl ⟨rfl, rfl, rfl, rfl, rfl, trivial⟩⟩
      clear S h; rintro a w8 ⟨x3, x4, v4, h, S⟩; rw [hj2] at h; clear hj2 j2
      refine blk_n ?_
      refine then_n ?_
      refine f_region ?_
      refine lv S (rn_add (S.tm rfl) rfl) rfl ?_; clear S; intro a S
      refine lv S (rn_move (S.tm rfl)) rfl ?_; clear S; intro a S
      refine l_done ?_
      replace S := S.nf (L' := [.own v4 59 3 x3.length (x3.flatMap GMove.enc), .blk b_p_s [v_p_s_L, .int .i64 x4] 25]) (K' := [(0, .pointer (some ⟨b_p_s, 0, none⟩)), (3, v4), (9, (.slice (some ⟨b1, 0, none⟩) 5 5)), (10, .int .i64 (([k_ann, k_bea, k_cid, k_dan, k_eve] : List ByteArray).length : Int)), (11, .int .i64 (W ((i1 : Int) + 1)))]) [true, true] rfl ⟨rfl, rfl, rfl, rfl, rfl, trivial⟩
      refine then_n ?_
      exact ⟨ys1, ⟨i1 + 1, x3, x4, v4, ⟨_, (hd1).trans (List.append_cons _ _ _), by simp [hi1]⟩, h, S.nf [true, true] rfl ⟨rfl, rfl, rfl, rfl, (congrArg (fun z => some (Value.int .i64 z)) (rng_next hd1 hi1 (slc_max (ownV_slcT enc_str hs1)))), trivial⟩⟩, Nat.lt_succ_self _⟩
  clear S h; rintro a w3 ⟨x1, x2, v1, h, S⟩; rw [hj1] at h; clear hj1 j1
  refine then_n ?_
  refine f_seq ?_
  refine f_region ?_
  refine lv S (rn_move (S.tm rfl)) rfl ?_; clear S; intro a S
  refine lv S (rn_assign (S.tm rfl)) rfl ?_; clear S; intro a S
  refine l_done ?_
  replace S := S.nf (L' := [.own v1 59 3 x1.length (x1.flatMap GMove.enc), .blk b_p_s [v_p_s_L, .int .i64 x2] 25]) (K' := [(2, v1)]) [true, true] rfl ⟨rfl, trivial⟩
  refine then_n ?_
  refine wp_ret ?_
  obtain rfl := Option.some.inj h
  exact f_ret S Tryd.results26 rfl ⟨(S.holds _ (List.mem_of_getElem? (i := 1) rfl)), (own_retX S (i := 0) rfl (fun c hc hh => not_fps S (i := 1) rfl rfl (j := 0) rfl rfl (by simp at hc; subst hc; exact hh)))⟩
theorem Stream_Flip_ok (w : World) (b_p_s : Nat) (v_p_s_L : Value) (p_s_L : List Int) (hs_p_s_L : Slc (view w [b_p_s]) 1 v_p_s_L (p_s_L.map eInt)) (p_s_at : Int) (hb_b_p_s : (LEnt.blk b_p_s [v_p_s_L, .int .i64 p_s_at] 25).holds w) (p_n : Int) (r : Bool × Int) (h : Stream_Flip p_s_L p_s_at p_n = some r) :
    Calls Tryd.prog 20 [.pointer (some ⟨b_p_s, 0, none⟩), .int .i64 p_n].toArray w (Ret w [b_p_s] fun τ v w' => (LEnt.blk b_p_s [v_p_s_L, .int .i64 r.2] 25).holds w' ∧ v = .bool r.1) := by
  refine f_enter [b_p_s] [.blk b_p_s [v_p_s_L, .int .i64 p_s_at] 25] Tryd.func20 rfl Tryd.ntmps20 rfl (fun e he => by simp only [List.mem_singleton] at he; subst he; exact hb_b_p_s) (by simp [fps, LEnt.fp]) (by simp [fps, LEnt.fp]) fun a S => ?_
  unfold Stream_Flip at h
  replace S := S.nf (L' := [.blk b_p_s [v_p_s_L, .int .i64 p_s_at] 25]) (K' := [(0, .pointer (some ⟨b_p_s, 0, none⟩)), (1, .int .i64 p_n)]) [true] rfl ⟨rfl, rfl, trivial⟩
  refine f_seq ?_
  refine f_region ?_
  refine lv S (rn_assign rfl) rfl ?_; clear S; intro a S
  refine l_done ?_
  replace S := S.nf (L' := [.blk b_p_s [v_p_s_L, .int .i64 p_s_at] 25]) (K' := [(0, .pointer (some ⟨b_p_s, 0, none⟩)), (1, .int .i64 p_n)]) [true] rfl ⟨rfl, rfl, trivial⟩
  refine then_n ?_
  refine f_seq ?_
  refine f_region ?_
  refine lv S (rn_move (S.tm rfl)) rfl ?_; clear S; intro a S
  refine lv S (rn_move (S.tm rfl)) rfl ?_; clear S; intro a S
  obtain ⟨r1, hr1, h⟩ := bindE h
  refine l_enter1 0 S (b := b_p_s) rfl rfl (fun _ => .blk b_p_s [v_p_s_L, .int .i64 r1.2] 25) (fun _ => run_call (vs := [.pointer (some ⟨b_p_s, 0, none⟩), .int .i64 p_n]) ⟨(S.tm rfl), (S.tm rfl), trivial⟩ Tryd.call27) (Stream_Next_ok _ b_p_s v_p_s_L p_s_L (hs_p_s_L.mono (S.le_arg (fp_sub (i := 0) (e := .blk b_p_s [v_p_s_L, .int .i64 p_s_at] 25) rfl))) p_s_at (S.holds _ (List.mem_of_getElem? (i := 0) rfl)) p_n _ hr1) rfl (fun _ _ _ h => ⟨h.1, fun _ hc => by cases hc; rfl⟩) ?_; clear S; intro v1 a w1 hv1 hk1 hn1 S
  replace hv1 := hv1.2
  subst hv1
  refine lv S (rn_eql (S.tm rfl) rfl) rfl ?_; clear S; intro a S
  refine lv S (rn_assign (S.tm rfl)) rfl ?_; clear S; intro a S
  refine l_done ?_
  replace S := S.nf (L' := [.blk b_p_s [v_p_s_L, .int .i64 r1.2] 25]) (K' := [(4, .bool (decide (r1.1 = 0)))]) [true] rfl ⟨rfl, trivial⟩
  refine then_n ?_
  refine wp_ret ?_
  obtain rfl := Option.some.inj h
  exact f_ret S Tryd.results20 rfl ⟨(S.holds _ (List.mem_of_getElem? (i := 0) rfl)), rfl⟩
theorem Stream_Odd_ok (w : World) (b_p_s : Nat) (v_p_s_L : Value) (p_s_L : List Int) (hs_p_s_L : Slc (view w [b_p_s]) 1 v_p_s_L (p_s_L.map eInt)) (p_s_at : Int) (hb_b_p_s : (LEnt.blk b_p_s [v_p_s_L, .int .i64 p_s_at] 25).holds w) (p_low : Int) (p_high : Int) (r : Int × Int) (h : Stream_Odd p_s_L p_s_at p_low p_high = some r) :
    Calls Tryd.prog 28 [.pointer (some ⟨b_p_s, 0, none⟩), .int .i64 p_low, .int .i64 p_high].toArray w (Ret w [b_p_s] fun τ v w' => (LEnt.blk b_p_s [v_p_s_L, .int .i64 r.2] 25).holds w' ∧ v = .int .i64 r.1) := by
  refine f_enter [b_p_s] [.blk b_p_s [v_p_s_L, .int .i64 p_s_at] 25] Tryd.func28 rfl Tryd.ntmps28 rfl (fun e he => by simp only [List.mem_singleton] at he; subst he; exact hb_b_p_s) (by simp [fps, LEnt.fp]) (by simp [fps, LEnt.fp]) fun a S => ?_
  unfold Stream_Odd at h
  replace S := S.nf (L' := [.blk b_p_s [v_p_s_L, .int .i64 p_s_at] 25]) (K' := [(0, .pointer (some ⟨b_p_s, 0, none⟩)), (1, .int .i64 p_low), (2, .int .i64 p_high)]) [true] rfl ⟨rfl, rfl, rfl, trivial⟩
  refine f_seq ?_
  refine f_region ?_
  refine lv S (rn_assign rfl) rfl ?_; clear S; intro a S
  refine l_done ?_
  replace S := S.nf (L' := [.blk b_p_s [v_p_s_L, .int .i64 p_s_at] 25]) (K' := [(0, .pointer (some ⟨b_p_s, 0, none⟩)), (1, .int .i64 p_low), (2, .int .i64 p_high)]) [true] rfl ⟨rfl, rfl, rfl, trivial⟩
  refine then_n ?_
  refine f_seq ?_
  refine f_seq ?_
  refine f_region ?_
  refine lv S (rn_move (S.tm rfl)) rfl ?_; clear S; intro a S
  obtain ⟨r1, hr1, h⟩ := bindE h
  refine l_enter1 0 S (b := b_p_s) rfl rfl (fun _ => .blk b_p_s [v_p_s_L, .int .i64 r1.2] 25) (fun _ => run_call (vs := [.pointer (some ⟨b_p_s, 0, none⟩), .int .i64 12]) ⟨(S.tm rfl), rfl, trivial⟩ Tryd.call20) (Stream_Flip_ok _ b_p_s v_p_s_L p_s_L (hs_p_s_L.mono (S.le_arg (fp_sub (i := 0) (e := .blk b_p_s [v_p_s_L, .int .i64 p_s_at] 25) rfl))) p_s_at (S.holds _ (List.mem_of_getElem? (i := 0) rfl)) 12 _ hr1) rfl (fun _ _ _ h => ⟨h.1, fun _ hc => by cases hc; rfl⟩) ?_; clear S; intro v1 a w1 hv1 hk1 hn1 S
  replace hv1 := hv1.2
  subst hv1
  refine l_done ?_
  replace S := S.nf (L' := [.blk b_p_s [v_p_s_L, .int .i64 r1.2] 25]) (K' := [(0, .pointer (some ⟨b_p_s, 0, none⟩)), (1, .int .i64 p_low), (2, .int .i64 p_high), (8, .bool r1.1)]) [true] rfl ⟨rfl, rfl, rfl, rfl, trivial⟩
  refine then_n ?_
  refine f_cond (S.tm rfl) (fun hb1 => ?_) (fun hb1 => ?_)
  · replace h := iteT h hb1
    refine f_seq ?_
    refine f_region ?_
    refine lv S (rn_move (S.tm rfl)) rfl ?_; clear S; intro a S
    refine lv S (rn_move (S.tm rfl)) rfl ?_; clear S; intro a S
    refine lv S (rn_sub (S.tm rfl) rfl) rfl ?_; clear S; intro a S
    refine lv S (rn_move (S.tm rfl)) rfl ?_; clear S; intro a S
    refine lv S (rn_add (S.tm rfl) rfl) rfl ?_; clear S; intro a S
    refine lv S (rn_move (S.tm rfl)) rfl ?_; clear S; intro a S
    refine lv S (rn_move (S.tm rfl)) rfl ?_; clear S; intro a S
    refine l_buildSlice S Tryd.underlying22 Tryd.sizeOf3 Tryd.zeroValue3 rfl rfl (pv := [(0, .int .i64 (W (p_low - 1))), (1, .int .i64 (W (p_high + 1))), (2, .int .i64 p_low), (3, .int .i64 p_high), (4, .int .i64 (-1099511627776)), (5, .int .i64 1099511627776)]) ⟨rfl, (S.tm rfl), rfl, (S.tm rfl), rfl, (S.tm rfl), rfl, (S.tm rfl), rfl, rfl, rfl, rfl, trivial⟩ (cs := [.int .i64 (W (p_low - 1)), .int .i64 (W (p_high + 1)), .int .i64 p_low, .int .i64 p_high, .int .i64 (-1099511627776), .int .i64 1099511627776]) (by kernel_rfl) rfl ?_; clear S; intro a w2 b1 hz1 hk2 S
    obtain ⟨r2, hr2, h⟩ := bindE h
    refine l_enter1 1 S (b := b_p_s) rfl rfl (fun _ => .blk b_p_s [v_p_s_L, .int .i64 r2.2] 25) (fun _ => run_call (vs := [.pointer (some ⟨b_p_s, 0, none⟩), .slice (some ⟨b1, 0, none⟩) 6 6]) ⟨(S.tm rfl), (S.tm rfl), trivial⟩ Tryd.call19) (Stream_Pick_ok _ b_p_s v_p_s_L p_s_L (hs_p_s_L.mono (S.le_arg (fp_sub (i := 1) (e := .blk b_p_s [v_p_s_L, .int .i64 r1.2] 25) rfl))) r1.2 (S.holds _ (List.mem_of_getElem? (i := 1) rfl)) (.slice (some ⟨b1, 0, none⟩) 6 6) [W (p_low - 1), W (p_high + 1), p_low, p_high, (-1099511627776), 1099511627776] (lit_slcT enc_int S (i := 0) rfl rfl rfl rfl ((ne_fp (i := 1) (j := 0) (e := .blk b_p_s [v_p_s_L, .int .i64 r1.2] 25) (e' := .blk b1 [.int .i64 (W (p_low - 1)), .int .i64 (W (p_high + 1)), .int .i64 p_low, .int .i64 p_high, .int .i64 (-1099511627776), .int .i64 1099511627776] 3) S rfl rfl rfl) _ rfl)) _ hr2) rfl (fun _ _ _ h => ⟨h.1, fun _ hc => by cases hc; rfl⟩) ?_; clear S; intro v2 a w3 hv2 hk3 hn2 S
    replace hv2 := hv2.2
    subst hv2
    refine lv S (rn_assign (S.tm rfl)) rfl ?_; clear S; intro a S
    refine l_done ?_
    replace S := S.nf (L' := [.blk b_p_s [v_p_s_L, .int .i64 r2.2] 25]) (K' := [(6, .int .i64 r2.1)]) [false, true] rfl ⟨rfl, trivial⟩
    refine then_n ?_
    refine wp_ret ?_
    refine then_r ?_
    obtain rfl := Option.some.inj h
    exact f_ret S Tryd.results28 rfl ⟨(S.holds _ (List.mem_of_getElem? (i := 0) rfl)), rfl⟩
  · replace h := iteF h hb1
    refine wp_skip ?_
    refine then_n ?_
    refine f_seq ?_
    refine f_region ?_
    refine lv S (rn_move (S.tm rfl)) rfl ?_; clear S; intro a S
    refine lv S (rn_move (S.tm rfl)) rfl ?_; clear S; intro a S
    refine lv S (rn_move (S.tm rfl)) rfl ?_; clear S; intro a S
    obtain ⟨r3, hr3, h⟩ := bindE h
    refine l_enter1 0 S (b := b_p_s) rfl rfl (fun _ => .blk b_p_s [v_p_s_L, .int .i64 r3.2] 25) (fun _ => run_call (vs := [.pointer (some ⟨b_p_s, 0, none⟩), .int .i64 p_low, .int .i64 p_high]) ⟨(S.tm rfl), (S.tm rfl), (S.tm rfl), trivial⟩ Tryd.call48) (Stream_Range_ok _ b_p_s v_p_s_L p_s_L (hs_p_s_L.mono (S.le_arg (fp_sub (i := 0) (e := .blk b_p_s [v_p_s_L, .int .i64 r1.2] 25) rfl))) r1.2 (S.holds _ (List.mem_of_getElem? (i := 0) rfl)) p_low p_high _ hr3) rfl (fun _ _ _ h => ⟨h.1, fun _ hc => by cases hc; rfl⟩) ?_; clear S; intro v3 a w4 hv3 hk4 hn3 S
    replace hv3 := hv3.2
    subst hv3
    refine lv S (rn_assign (S.tm rfl)) rfl ?_; clear S; intro a S
    refine l_done ?_
    replace S := S.nf (L' := [.blk b_p_s [v_p_s_L, .int .i64 r3.2] 25]) (K' := [(6, .int .i64 r3.1)]) [true] rfl ⟨rfl, trivial⟩
    refine then_n ?_
    refine wp_ret ?_
    obtain rfl := Option.some.inj h
    exact f_ret S Tryd.results28 rfl ⟨(S.holds _ (List.mem_of_getElem? (i := 0) rfl)), rfl⟩
theorem Stream_Moves_ok (w : World) (b_p_s : Nat) (v_p_s_L : Value) (p_s_L : List Int) (hs_p_s_L : Slc (view w [b_p_s]) 1 v_p_s_L (p_s_L.map eInt)) (p_s_at : Int) (hb_b_p_s : (LEnt.blk b_p_s [v_p_s_L, .int .i64 p_s_at] 25).holds w) (r : (List GMove) × Int) (h : Stream_Moves p_s_L p_s_at = some r) :
    Calls Tryd.prog 4 [.pointer (some ⟨b_p_s, 0, none⟩)].toArray w (Ret w [b_p_s] fun τ v w' => (LEnt.blk b_p_s [v_p_s_L, .int .i64 r.2] 25).holds w' ∧ OwnV τ 59 3 v r.1.length (r.1.flatMap GMove.enc)) := by
  refine f_enter [b_p_s] [.blk b_p_s [v_p_s_L, .int .i64 p_s_at] 25] Tryd.func4 rfl Tryd.ntmps4 rfl (fun e he => by simp only [List.mem_singleton] at he; subst he; exact hb_b_p_s) (by simp [fps, LEnt.fp]) (by simp [fps, LEnt.fp]) fun a S => ?_
  unfold Stream_Moves at h
  replace S := S.nf (L' := [.blk b_p_s [v_p_s_L, .int .i64 p_s_at] 25]) (K' := [(0, .pointer (some ⟨b_p_s, 0, none⟩))]) [true] rfl ⟨rfl, trivial⟩
  refine f_seq ?_
  refine f_region ?_
  refine lv S (rn_assign rfl) rfl ?_; clear S; intro a S
  refine l_done ?_
  replace S := S.nf (L' := [.blk b_p_s [v_p_s_L, .int .i64 p_s_at] 25]) (K' := [(0, .pointer (some ⟨b_p_s, 0, none⟩))]) [true] rfl ⟨rfl, trivial⟩
  refine then_n ?_
  refine f_seq ?_
  refine f_region ?_
  refine lv S (rn_move (S.tm rfl)) rfl ?_; clear S; intro a S
  obtain ⟨r1, hr1, h⟩ := bindE h
  have hz1 := S.keep.size
  refine l_enter1 0 S (b := b_p_s) rfl rfl (fun _ => .blk b_p_s [v_p_s_L, .int .i64 r1.2] 25) (fun _ => run_call (vs := [.pointer (some ⟨b_p_s, 0, none⟩)]) ⟨(S.tm rfl), trivial⟩ Tryd.call26) (Stream_RightMoves_ok _ b_p_s v_p_s_L p_s_L (hs_p_s_L.mono (S.le_arg (fp_sub (i := 0) (e := .blk b_p_s [v_p_s_L, .int .i64 p_s_at] 25) rfl))) p_s_at (S.holds _ (List.mem_of_getElem? (i := 0) rfl)) _ hr1) rfl (fun _ _ _ h => ⟨h.1, fun _ hc => by cases hc; rfl⟩) ?_; clear S; intro v1 a w1 hv1 hk1 hn1 S
  replace hv1 := hv1.2
  replace S := S.take hn1 hz1 hv1
  refine lv S (rn_assign (S.tm rfl)) rfl ?_; clear S; intro a S
  refine l_done ?_
  replace S := S.nf (L' := [.own v1 59 3 r1.1.length (r1.1.flatMap GMove.enc), .blk b_p_s [v_p_s_L, .int .i64 r1.2] 25]) (K' := [(0, .pointer (some ⟨b_p_s, 0, none⟩)), (3, v1)]) [true, true] rfl ⟨rfl, rfl, trivial⟩
  refine then_n ?_
  refine f_seq ?_
  refine f_seq ?_
  refine f_region ?_
  refine lv S (rn_move (S.tm rfl)) rfl ?_; clear S; intro a S
  refine lv S (rn_lenT sl_26 (S.tm rfl) (own_len (S.own_at (i := 0) rfl))) rfl ?_; clear S; intro a S
  refine lv S (rn_gtr (S.tm rfl) rfl) rfl ?_; clear S; intro a S
  refine lv S (rn_move (S.tm rfl)) rfl ?_; clear S; intro a S
  obtain ⟨j1, hj1, h⟩ := joinE h
  refine f_cutm 3 (fun a w' => ∃ x1 : Int, ∃ x2 : Bool, j1 x1 x2 = some r ∧ Sx w [b_p_s] nov [.own v1 59 3 r1.1.length (r1.1.flatMap GMove.enc), .blk b_p_s [v_p_s_L, .int .i64 x1] 25] [(0, .pointer (some ⟨b_p_s, 0, none⟩)), (3, v1), (13, .bool x2)] 46 a w') ?_ ?_
  · rcases Bool.eq_false_or_eq_true (decide (0 < (r1.1.length : Int))) with hb1 | hb1
    · replace h := iteT h hb1
      refine l_want S rfl rfl rfl hb1 ?_
      refine lv S (rn_move (S.tm rfl)) rfl ?_; clear S; intro a S
      refine l_want S rfl rfl rfl hb1 ?_
      obtain ⟨r2, hr2, h⟩ := bindE h
      refine l_enter1 1 S (b := b_p_s) rfl rfl (fun _ => .blk b_p_s [v_p_s_L, .int .i64 r2.2] 25) (fun _ => run_call (vs := [.pointer (some ⟨b_p_s, 0, none⟩), .int .i64 12]) ⟨(S.tm rfl), rfl, trivial⟩ Tryd.call20) (Stream_Flip_ok _ b_p_s v_p_s_L p_s_L (hs_p_s_L.mono (S.le_arg (fp_sub (i := 1) (e := .blk b_p_s [v_p_s_L, .int .i64 r1.2] 25) rfl))) r1.2 (S.holds _ (List.mem_of_getElem? (i := 1) rfl)) 12 _ hr2) rfl (fun _ _ _ h => ⟨h.1, fun _ hc => by cases hc; rfl⟩) ?_; clear S; intro v2 a w3 hv2 hk2 hn2 S
      replace hv2 := hv2.2
      subst hv2
      refine lv S (rn_pick_b hb1 (S.tm rfl) (S.tm rfl)) rfl ?_; clear S; intro a S
      refine l_done ?_
      refine then_n ?_
      exact ⟨r2.2, r2.1, h, S.nf [true, true] rfl ⟨rfl, rfl, rfl, trivial⟩⟩
    · replace h := iteF h hb1
      refine l_skip S rfl rfl rfl (neq_f hb1) rfl ?_ rfl; clear S; intro a S
      refine l_skip S rfl rfl rfl (neq_f hb1) rfl ?_ rfl; clear S; intro a S
      refine lv S (rn_pick_c hb1 (S.tm rfl) rfl) rfl ?_; clear S; intro a S
      refine l_done ?_
      refine then_n ?_
      exact ⟨r1.2, false, h, S.nf [true, true] rfl ⟨rfl, rfl, rfl, trivial⟩⟩
  clear S h; rintro a w2 ⟨x1, x2, h, S⟩; rw [hj1] at h; clear hj1 j1
  refine l_done ?_
  replace S := S.nf (L' := [.own v1 59 3 r1.1.length (r1.1.flatMap GMove.enc), .blk b_p_s [v_p_s_L, .int .i64 x1] 25]) (K' := [(0, .pointer (some ⟨b_p_s, 0, none⟩)), (3, v1), (13, .bool x2)]) [true, true] rfl ⟨rfl, rfl, rfl, trivial⟩
  refine then_n ?_
  obtain ⟨j2, hj2, h⟩ := joinE h
  refine f_join (fun a w' => ∃ x3 : List GMove, ∃ x4 : Int, ∃ v3 : Value, j2 x3 x4 = some r ∧ Sx w [b_p_s] nov [.own v3 59 3 x3.length (x3.flatMap GMove.enc), .blk b_p_s [v_p_s_L, .int .i64 x4] 25] [(3, v3)] 46 a w') ?_ ?_
  · refine f_cond (S.tm rfl) (fun hb2 => ?_) (fun hb2 => ?_)
    · replace h := iteT h hb2
      refine f_seq ?_
      refine f_region ?_
      refine lv S (rn_move (S.tm rfl)) rfl ?_; clear S; intro a S
      refine lv S (rn_move (S.tm rfl)) rfl ?_; clear S; intro a S
      refine lv S (rn_move (S.tm rfl)) rfl ?_; clear S; intro a S
      refine lv S (rn_lenT sl_26 (S.tm rfl) (own_len (S.own_at (i := 0) rfl))) rfl ?_; clear S; intro a S
      obtain ⟨r3, hr3, h⟩ := bindE h
      refine l_enter1 1 S (b := b_p_s) rfl rfl (fun _ => .blk b_p_s [v_p_s_L, .int .i64 r3.2] 25) (fun _ => run_call (vs := [.pointer (some ⟨b_p_s, 0, none⟩), .int .i64 (r1.1.length : Int)]) ⟨(S.tm rfl), (S.tm rfl), trivial⟩ Tryd.call27) (Stream_Next_ok _ b_p_s v_p_s_L p_s_L (hs_p_s_L.mono (S.le_arg (fp_sub (i := 1) (e := .blk b_p_s [v_p_s_L, .int .i64 x1] 25) rfl))) x1 (S.holds _ (List.mem_of_getElem? (i := 1) rfl)) (r1.1.length : Int) _ hr3) rfl (fun _ _ _ h => ⟨h.1, fun _ hc => by cases hc; rfl⟩) ?_; clear S; intro v4 a w5 hv3 hk3 hn3 S
      replace hv3 := hv3.2
      subst hv3
      obtain ⟨hc1, h⟩ := chkE h
      obtain ⟨b1, hg1, hr4⟩ := rn_indexS (a := a) (x := .tmp 14) (y := .tmp 18) (ty := 0) sl_26 GMove.enc_ok S (i := 0) rfl (inB_get hc1).1 (inB_get hc1).2 (S.tm rfl) (S.tm rfl)
      refine lv S (hr4 _) rfl ?_; clear S; intro a S
      clear hr4
      refine lv S (rn_assign (S.tm rfl)) rfl ?_; clear S; intro a S
      refine l_done ?_
      replace S := S.nf (L' := [.own v1 59 3 r1.1.length (r1.1.flatMap GMove.enc), .blk b_p_s [v_p_s_L, .int .i64 r3.2] 25]) (K' := [(0, .pointer (some ⟨b_p_s, 0, none⟩)), (3, v1), (4, .pointer (some ⟨b1, r3.1.toNat * 3, none⟩))]) [true, true] rfl ⟨rfl, rfl, rfl, trivial⟩
      refine then_n ?_
      obtain ⟨j3, hj3, h⟩ := joinE h
      refine f_join (fun a w' => ∃ x5 : List GMove, ∃ x6 : Int, ∃ v5 : Value, j3 x5 x6 = some r ∧ Sx w [b_p_s] nov [.own v5 59 3 x5.length (x5.flatMap GMove.enc), .blk b_p_s [v_p_s_L, .int .i64 x6] 25] [(3, v5)] 46 a w') ?_ ?_
      · obtain ⟨r4, hr5, h⟩ := bindE h
        obtain ⟨r5, hr6, h⟩ := bindE h
        obtain ⟨r6, hr7, h⟩ := bindE h
        refine d_region [21, 24, 27] ([b_p_s]) Tryd.mixed S rfl (by kernel_rfl) ?_; clear S; intro w18 hk15 hsel S
        refine d_pure 0 S hsel rfl rfl (by kernel_rfl) (by kernel_rfl) rfl (fun _ => (rn_move (S.tm rfl))) ?_; clear S; intro a S
        refine d_pure 1 S hsel rfl rfl (by kernel_rfl) (by kernel_rfl) rfl (fun _ => (rn_move (S.tm rfl))) ?_; clear S; intro a S
        refine d_pure 2 S hsel rfl rfl (by kernel_rfl) (by kernel_rfl) rfl (fun _ => (rn_move (S.tm rfl))) ?_; clear S; intro a S
        refine d_pure 3 S hsel rfl rfl (by kernel_rfl) (by kernel_rfl) rfl (fun _ => (rn_move (S.tm rfl))) ?_; clear S; intro a S
        refine d_pure 4 S hsel rfl rfl (by kernel_rfl) (by kernel_rfl) rfl (fun _ => (rn_move (S.tm rfl))) ?_; clear S; intro a S
        refine d_pure 5 S hsel rfl rfl (by kernel_rfl) (by kernel_rfl) rfl (fun _ => (rn_nilCheck (S.tm rfl))) ?_; clear S; intro a S
        refine d_pure 6 S hsel rfl rfl (by kernel_rfl) (by kernel_rfl) rfl (fun _ => (rn_fld fa_59_0 (S.tm rfl))) ?_; clear S; intro a S
        refine d_quiet 7 S hsel rfl (by kernel_rfl) (by kernel_rfl) (by kernel_rfl) (by kernel_rfl) rfl (fun _ hw => (rn_ld Tryd.isAgg9 (off := r3.1.toNat * 3) (o := 0) (S.tm rfl) ((own_mem GMove.enc_ok S (i := 0) rfl hg1 (inB_get hc1).1 (ne_fp (i := 1) (j := 0) (e := .blk b_p_s [v_p_s_L, .int .i64 r3.2] 25) (e' := .own v1 59 3 r1.1.length (r1.1.flatMap GMove.enc)) S rfl rfl rfl)).kept hw) rfl)) ?_; clear S; intro a S
        refine d_pure 10 S hsel rfl rfl (by kernel_rfl) (by kernel_rfl) rfl (fun _ => (rn_move (S.tm rfl))) ?_; clear S; intro a S
        refine d_pure 11 S hsel rfl rfl (by kernel_rfl) (by kernel_rfl) rfl (fun _ => (rn_move (S.tm rfl))) ?_; clear S; intro a S
        refine d_pure 12 S hsel rfl rfl (by kernel_rfl) (by kernel_rfl) rfl (fun _ => (rn_nilCheck (S.tm rfl))) ?_; clear S; intro a S
        refine d_pure 13 S hsel rfl rfl (by kernel_rfl) (by kernel_rfl) rfl (fun _ => (rn_fld fa_59_1 (S.tm rfl))) ?_; clear S; intro a S
        refine d_quiet 14 S hsel rfl (by kernel_rfl) (by kernel_rfl) (by kernel_rfl) (by kernel_rfl) rfl (fun _ hw => (rn_ld Tryd.isAgg9 (off := r3.1.toNat * 3) (o := 1) (S.tm rfl) ((own_mem GMove.enc_ok S (i := 0) rfl hg1 (inB_get hc1).1 (ne_fp (i := 1) (j := 0) (e := .blk b_p_s [v_p_s_L, .int .i64 r3.2] 25) (e' := .own v1 59 3 r1.1.length (r1.1.flatMap GMove.enc)) S rfl rfl rfl)).kept hw) rfl)) ?_; clear S; intro a S
        refine d_pure 17 S hsel rfl rfl (by kernel_rfl) (by kernel_rfl) rfl (fun _ => (rn_move (S.tm rfl))) ?_; clear S; intro a S
        refine d_loud2 8 15 (by kernel_rfl) rfl rfl ?_ ?_
        · refine l_buildSlice S Tryd.underlying33 Tryd.sizeOf9 Tryd.zeroValue9 rfl rfl (pv := [(0, .string ((nth r1.1 r3.1).Who)), (1, .string k_empty), (2, .string k_ann)]) ⟨rfl, (S.tm rfl), rfl, rfl, rfl, rfl, trivial⟩ (cs := [.string ((nth r1.1 r3.1).Who), .string k_empty, .string k_ann]) (by kernel_rfl) rfl ?_; clear S; intro a w19 b4 hz4 hk16 S
          refine l_done ?_
          refine d_next (Keep.none hk16) ?_
          refine d_loud2 9 15 (by kernel_rfl) rfl rfl ?_ ?_
          · refine l_enter1 2 S (b := b_p_s) rfl rfl (fun _ => .blk b_p_s [v_p_s_L, .int .i64 r4.2] 25) (fun _ => run_call (vs := [.pointer (some ⟨b_p_s, 0, none⟩), .slice (some ⟨b4, 0, none⟩) 3 3]) ⟨(S.tm rfl), (S.tm rfl), trivial⟩ Tryd.call5) (Stream_Some_ok _ b_p_s v_p_s_L p_s_L (hs_p_s_L.mono (S.le_arg (fp_sub (i := 2) (e := .blk b_p_s [v_p_s_L, .int .i64 r3.2] 25) rfl))) r3.2 (S.holds _ (List.mem_of_getElem? (i := 2) rfl)) (.slice (some ⟨b4, 0, none⟩) 3 3) [(nth r1.1 r3.1).Who, k_empty, k_ann] (lit_slcT enc_str S (i := 0) rfl rfl rfl rfl ((ne_fp (i := 2) (j := 0) (e := .blk b_p_s [v_p_s_L, .int .i64 r3.2] 25) (e' := .blk b4 [.string ((nth r1.1 r3.1).Who), .string k_empty, .string k_ann] 9) S rfl rfl rfl) _ rfl)) _ hr5) rfl (fun _ _ _ h => ⟨h.1, fun _ hc => by cases hc; rfl⟩) ?_; clear S; intro v9 a w20 hv7 hk17 hn7 S
            replace hv7 := hv7.2
            subst hv7
            refine l_done ?_
            refine d_next hk17 ?_
            refine d_loud1 15 (by kernel_rfl) rfl ?_
            refine l_buildSlice S Tryd.underlying33 Tryd.sizeOf9 Tryd.zeroValue9 rfl rfl (pv := [(0, .string ((nth r1.1 r3.1).Club)), (1, .string k_A), (2, .string k_blue), (3, .string k_empty)]) ⟨rfl, (S.tm rfl), rfl, rfl, rfl, rfl, rfl, rfl, trivial⟩ (cs := [.string ((nth r1.1 r3.1).Club), .string k_A, .string k_blue, .string k_empty]) (by kernel_rfl) rfl ?_; clear S; intro a w21 b5 hz5 hk18 S
            refine l_done ?_
            refine d_next (Keep.none hk18) ?_
            refine d_loud1 16 (by kernel_rfl) rfl ?_
            refine l_enter1 3 S (b := b_p_s) rfl rfl (fun _ => .blk b_p_s [v_p_s_L, .int .i64 r5.2] 25) (fun _ => run_call (vs := [.pointer (some ⟨b_p_s, 0, none⟩), .slice (some ⟨b5, 0, none⟩) 4 4]) ⟨(S.tm rfl), (S.tm rfl), trivial⟩ Tryd.call5) (Stream_Some_ok _ b_p_s v_p_s_L p_s_L (hs_p_s_L.mono (S.le_arg (fp_sub (i := 3) (e := .blk b_p_s [v_p_s_L, .int .i64 r4.2] 25) rfl))) r4.2 (S.holds _ (List.mem_of_getElem? (i := 3) rfl)) (.slice (some ⟨b5, 0, none⟩) 4 4) [(nth r1.1 r3.1).Club, k_A, k_blue, k_empty] (lit_slcT enc_str S (i := 0) rfl rfl rfl rfl ((ne_fp (i := 3) (j := 0) (e := .blk b_p_s [v_p_s_L, .int .i64 r4.2] 25) (e' := .blk b5 [.string ((nth r1.1 r3.1).Club), .string k_A, .string k_blue, .string k_empty] 9) S rfl rfl rfl) _ rfl)) _ hr6) rfl (fun _ _ _ h => ⟨h.1, fun _ hc => by cases hc; rfl⟩) ?_; clear S; intro v10 a w22 hv8 hk19 hn8 S
            replace hv8 := hv8.2
            subst hv8
            refine l_done ?_
            refine d_next hk19 ?_
            refine d_loud1 18 (by kernel_rfl) rfl ?_
            refine l_enter1 3 S (b := b_p_s) rfl rfl (fun _ => .blk b_p_s [v_p_s_L, .int .i64 r6.2] 25) (fun _ => run_call (vs := [.pointer (some ⟨b_p_s, 0, none⟩), .int .i64 (-100), .int .i64 400]) ⟨(S.tm rfl), rfl, rfl, trivial⟩ Tryd.call28) (Stream_Odd_ok _ b_p_s v_p_s_L p_s_L (hs_p_s_L.mono (S.le_arg (fp_sub (i := 3) (e := .blk b_p_s [v_p_s_L, .int .i64 r5.2] 25) rfl))) r5.2 (S.holds _ (List.mem_of_getElem? (i := 3) rfl)) (-100) 400 _ hr7) rfl (fun _ _ _ h => ⟨h.1, fun _ hc => by cases hc; rfl⟩) ?_; clear S; intro v11 a w23 hv9 hk20 hn9 S
            replace hv9 := hv9.2
            subst hv9
            refine l_done ?_
            refine d_next hk20 ?_
            refine d_pure 19 S hsel rfl rfl (by kernel_rfl) (by kernel_rfl) rfl (fun _ => (rn_nilCheck (S.tm rfl))) ?_; clear S; intro a S
            refine d_pure 20 S hsel rfl rfl (by kernel_rfl) (by kernel_rfl) rfl (fun _ => (rn_fld fa_59_0 (S.tm rfl))) ?_; clear S; intro a S
            refine d_loudB 21 ([b_p_s] ++ v1.ownBlock.toList) rfl (by kernel_rfl) rfl ?_
            refine l_storeO (c := 0) (j := r3.1.toNat) (GMove.mk r4.1 ((nth r1.1 r3.1).Club) ((nth r1.1 r3.1).Day)) GMove.enc_ok S (S.tm rfl) (S.tm rfl) (i := 2) rfl hg1 (inB_get hc1).1 Tryd.sizeOf9 (vs := [.string r4.1]) rfl rfl rfl rfl rfl ?_; clear S; intro w25 hk22 S
            refine l_done ?_
            refine d_nextB ?_
            refine d_quiet 22 S hsel rfl rfl rfl (by kernel_rfl) (by kernel_rfl) rfl (fun _ hw => (rn_nilCheck (S.tm rfl))) ?_; clear S; intro a S
            refine d_quiet 23 S hsel rfl rfl rfl (by kernel_rfl) (by kernel_rfl) rfl (fun _ hw => (rn_fld fa_59_1 (S.tm rfl))) ?_; clear S; intro a S
            refine d_loud1 24 (by kernel_rfl) rfl ?_
            refine l_storeO (c := 1) (j := r3.1.toNat) (GMove.mk r4.1 r5.1 ((nth r1.1 r3.1).Day)) GMove.enc_ok S (S.tm rfl) (S.tm rfl) (i := 2) rfl hg1 (get_set (inB_get hc1).1) Tryd.sizeOf9 (vs := [.string r5.1]) rfl rfl rfl rfl rfl ?_; clear S; intro w27 hk24 S
            refine l_done ?_
            refine d_next (hk24.sub (by intro y hy; simp at hy ⊢; simp [hy])) ?_
            refine d_quiet 25 S hsel rfl rfl rfl (by kernel_rfl) (by kernel_rfl) rfl (fun _ hw => (rn_nilCheck (S.tm rfl))) ?_; clear S; intro a S
            refine d_quiet 26 S hsel rfl rfl rfl (by kernel_rfl) (by kernel_rfl) rfl (fun _ hw => (rn_fld fa_59_2 (S.tm rfl))) ?_; clear S; intro a S
            refine d_loud1 27 (by kernel_rfl) rfl ?_
            refine l_storeO (c := 2) (j := r3.1.toNat) (GMove.mk r4.1 r5.1 r6.1) GMove.enc_ok S (S.tm rfl) (S.tm rfl) (i := 2) rfl hg1 (get_set (get_set (inB_get hc1).1)) Tryd.sizeOf3 (vs := [.int .i64 r6.1]) rfl rfl rfl rfl rfl ?_; clear S; intro w29 hk26 S
            refine l_done ?_
            refine d_next (hk26.sub (by intro y hy; simp at hy ⊢; simp [hy])) ?_
            refine d_end (by kernel_rfl) ?_
            clear hsel
            replace S := S.nf (L' := [.own v1 59 3 (((r1.1.set r3.1.toNat (GMove.mk r4.1 ((nth r1.1 r3.1).Club) ((nth r1.1 r3.1).Day))).set r3.1.toNat (GMove.mk r4.1 r5.1 ((nth r1.1 r3.1).Day))).set r3.1.toNat (GMove.mk r4.1 r5.1 r6.1)).length ((((r1.1.set r3.1.toNat (GMove.mk r4.1 ((nth r1.1 r3.1).Club) ((nth r1.1 r3.1).Day))).set r3.1.toNat (GMove.mk r4.1 r5.1 ((nth r1.1 r3.1).Day))).set r3.1.toNat (GMove.mk r4.1 r5.1 r6.1)).flatMap GMove.enc), .blk b_p_s [v_p_s_L, .int .i64 r6.2] 25]) (K' := [(3, v1)]) [false, false, true, true] rfl ⟨rfl, trivial⟩
            refine then_n ?_
            exact ⟨(((r1.1.set r3.1.toNat (GMove.mk r4.1 ((nth r1.1 r3.1).Club) ((nth r1.1 r3.1).Day))).set r3.1.toNat (GMove.mk r4.1 r5.1 ((nth r1.1 r3.1).Day))).set r3.1.toNat (GMove.mk r4.1 r5.1 r6.1)), r6.2, v1, h, S.nf [true, true] rfl ⟨rfl, trivial⟩⟩
          · refine l_buildSlice S Tryd.underlying33 Tryd.sizeOf9 Tryd.zeroValue9 rfl rfl (pv := [(0, .string ((nth r1.1 r3.1).Club)), (1, .string k_A), (2, .string k_blue), (3, .string k_empty)]) ⟨rfl, (S.tm rfl), rfl, rfl, rfl, rfl, rfl, rfl, trivial⟩ (cs := [.string ((nth r1.1 r3.1).Club), .string k_A, .string k_blue, .string k_empty]) (by kernel_rfl) rfl ?_; clear S; intro a w30 b6 hz6 hk27 S
            refine l_done ?_
            refine d_next (Keep.none hk27) ?_
            refine d_loud1 9 (by kernel_rfl) rfl ?_
            refine l_enter1 3 S (b := b_p_s) rfl rfl (fun _ => .blk b_p_s [v_p_s_L, .int .i64 r4.2] 25) (fun _ => run_call (vs := [.pointer (some ⟨b_p_s, 0, none⟩), .slice (some ⟨b4, 0, none⟩) 3 3]) ⟨(S.tm rfl), (S.tm rfl), trivial⟩ Tryd.call5) (Stream_Some_ok _ b_p_s v_p_s_L p_s_L (hs_p_s_L.mono (S.le_arg (fp_sub (i := 3) (e := .blk b_p_s [v_p_s_L, .int .i64 r3.2] 25) rfl))) r3.2 (S.holds _ (List.mem_of_getElem? (i := 3) rfl)) (.slice (some ⟨b4, 0, none⟩) 3 3) [(nth r1.1 r3.1).Who, k_empty, k_ann] (lit_slcT enc_str S (i := 1) rfl rfl rfl rfl ((ne_fp (i := 3) (j := 1) (e := .blk b_p_s [v_p_s_L, .int .i64 r3.2] 25) (e' := .blk b4 [.string ((nth r1.1 r3.1).Who), .string k_empty, .string k_ann] 9) S rfl rfl rfl) _ rfl)) _ hr5) rfl (fun _ _ _ h => ⟨h.1, fun _ hc => by cases hc; rfl⟩) ?_; clear S; intro v12 a w31 hv10 hk28 hn10 S
            replace hv10 := hv10.2
            subst hv10
            refine l_done ?_
            refine d_next hk28 ?_
            refine d_loud1 16 (by kernel_rfl) rfl ?_
            refine l_enter1 3 S (b := b_p_s) rfl rfl (fun _ => .blk b_p_s [v_p_s_L, .int .i64 r5.2] 25) (fun _ => run_call (vs := [.pointer (some ⟨b_p_s, 0, none⟩), .slice (some ⟨b6, 0, none⟩) 4 4]) ⟨(S.tm rfl), (S.tm rfl), trivial⟩ Tryd.call5) (Stream_Some_ok _ b_p_s v_p_s_L p_s_L (hs_p_s_L.mono (S.le_arg (fp_sub (i := 3) (e := .blk b_p_s [v_p_s_L, .int .i64 r4.2] 25) rfl))) r4.2 (S.holds _ (List.mem_of_getElem? (i := 3) rfl)) (.slice (some ⟨b6, 0, none⟩) 4 4) [(nth r1.1 r3.1).Club, k_A, k_blue, k_empty] (lit_slcT enc_str S (i := 0) rfl rfl rfl rfl ((ne_fp (i := 3) (j := 0) (e := .blk b_p_s [v_p_s_L, .int .i64 r4.2] 25) (e' := .blk b6 [.string ((nth r1.1 r3.1).Club), .string k_A, .string k_blue, .string k_empty] 9) S rfl rfl rfl) _ rfl)) _ hr6) rfl (fun _ _ _ h => ⟨h.1, fun _ hc => by cases hc; rfl⟩) ?_; clear S; intro v13 a w32 hv11 hk29 hn11 S
            replace hv11 := hv11.2
            subst hv11
            refine l_done ?_
            refine d_next hk29 ?_
            refine d_loud1 18 (by kernel_rfl) rfl ?_
            refine l_enter1 3 S (b := b_p_s) rfl rfl (fun _ => .blk b_p_s [v_p_s_L, .int .i64 r6.2] 25) (fun _ => run_call (vs := [.pointer (some ⟨b_p_s, 0, none⟩), .int .i64 (-100), .int .i64 400]) ⟨(S.tm rfl), rfl, rfl, trivial⟩ Tryd.call28) (Stream_Odd_ok _ b_p_s v_p_s_L p_s_L (hs_p_s_L.mono (S.le_arg (fp_sub (i := 3) (e := .blk b_p_s [v_p_s_L, .int .i64 r5.2] 25) rfl))) r5.2 (S.holds _ (List.mem_of_getElem? (i := 3) rfl)) (-100) 400 _ hr7) rfl (fun _ _ _ h => ⟨h.1, fun _ hc => by cases hc; rfl⟩) ?_; clear S; intro v14 a w33 hv12 hk30 hn12 S
            replace hv12 := hv12.2
            subst hv12
            refine l_done ?_
            refine d_next hk30 ?_
            refine d_pure 19 S hsel rfl rfl (by kernel_rfl) (by kernel_rfl) rfl (fun _ => (rn_nilCheck (S.tm rfl))) ?_; clear S; intro a S
            refine d_pure 20 S hsel rfl rfl (by kernel_rfl) (by kernel_rfl) rfl (fun _ => (rn_fld fa_59_0 (S.tm rfl))) ?_; clear S; intro a S
            refine d_loudB 21 ([b_p_s] ++ v1.ownBlock.toList) rfl (by kernel_rfl) rfl ?_
            refine l_storeO (c := 0) (j := r3.1.toNat) (GMove.mk r4.1 ((nth r1.1 r3.1).Club) ((nth r1.1 r3.1).Day)) GMove.enc_ok S (S.tm rfl) (S.tm rfl) (i := 2) rfl hg1 (inB_get hc1).1 Tryd.sizeOf9 (vs := [.string r4.1]) rfl rfl rfl rfl rfl ?_; clear S; intro w35 hk32 S
            refine l_done ?_
            refine d_nextB ?_
            refine d_quiet 22 S hsel rfl rfl rfl (by kernel_rfl) (by kernel_rfl) rfl (fun _ hw => (rn_nilCheck (S.tm rfl))) ?_; clear S; intro a S
            refine d_quiet 23 S hsel rfl rfl rfl (by kernel_rfl) (by kernel_rfl) rfl (fun _ hw => (rn_fld fa_59_1 (S.tm rfl))) ?_; clear S; intro a S
            refine d_loud1 24 (by kernel_rfl) rfl ?_
            refine l_storeO (c := 1) (j := r3.1.toNat) (GMove.mk r4.1 r5.1 ((nth r1.1 r3.1).Day)) GMove.enc_ok S (S.tm rfl) (S.tm rfl) (i := 2) rfl hg1 (get_set (inB_get hc1).1) Tryd.sizeOf9 (vs := [.string r5.1]) rfl rfl rfl rfl rfl ?_; clear S; intro w37 hk34 S
            refine l_done ?_
            refine d_next (hk34.sub (by intro y hy; simp at hy ⊢; simp [hy])) ?_
            refine d_quiet 25 S hsel rfl rfl rfl (by kernel_rfl) (by kernel_rfl) rfl (fun _ hw => (rn_nilCheck (S.tm rfl))) ?_; clear S; intro a S
            refine d_quiet 26 S hsel rfl rfl rfl (by kernel_rfl) (by kernel_rfl) rfl (fun _ hw => (rn_fld fa_59_2 (S.tm rfl))) ?_; clear S; intro a S
            refine d_loud1 27 (by kernel_rfl) rfl ?_
            refine l_storeO (c := 2) (j := r3.1.toNat) (GMove.mk r4.1 r5.1 r6.1) GMove.enc_ok S (S.tm rfl) (S.tm rfl) (i := 2) rfl hg1 (get_set (get_set (inB_get hc1).1)) Tryd.sizeOf3 (vs := [.int .i64 r6.1]) rfl rfl rfl rfl rfl ?_; clear S; intro w39 hk36 S
            refine l_done ?_
            refine d_next (hk36.sub (by intro y hy; simp at hy ⊢; simp [hy])) ?_
            refine d_end (by kernel_rfl) ?_
            clear hsel
            replace S := S.nf (L' := [.own v1 59 3 (((r1.1.set r3.1.toNat (GMove.mk r4.1 ((nth r1.1 r3.1).Club) ((nth r1.1 r3.1).Day))).set r3.1.toNat (GMove.mk r4.1 r5.1 ((nth r1.1 r3.1).Day))).set r3.1.toNat (GMove.mk r4.1 r5.1 r6.1)).length ((((r1.1.set r3.1.toNat (GMove.mk r4.1 ((nth r1.1 r3.1).Club) ((nth r1.1 r3.1).Day))).set r3.1.toNat (GMove.mk r4.1 r5.1 ((nth r1.1 r3.1).Day))).set r3.1.toNat (GMove.mk r4.1 r5.1 r6.1)).flatMap GMove.enc), .blk b_p_s [v_p_s_L, .int .i64 r6.2] 25]) (K' := [(3, v1)]) [false, false, true, true] rfl ⟨rfl, trivial⟩
            refine then_n ?_
            exact ⟨(((r1.1.set r3.1.toNat (GMove.mk r4.1 ((nth r1.1 r3.1).Club) ((nth r1.1 r3.1).Day))).set r3.1.toNat (GMove.mk r4.1 r5.1 ((nth r1.1 r3.1).Day))).set r3.1.toNat (GMove.mk r4.1 r5.1 r6.1)), r6.2, v1, h, S.nf [true, true] rfl ⟨rfl, trivial⟩⟩
        · refine l_buildSlice S Tryd.underlying33 Tryd.sizeOf9 Tryd.zeroValue9 rfl rfl (pv := [(0, .string ((nth r1.1 r3.1).Club)), (1, .string k_A), (2, .string k_blue), (3, .string k_empty)]) ⟨rfl, (S.tm rfl), rfl, rfl, rfl, rfl, rfl, rfl, trivial⟩ (cs := [.string ((nth r1.1 r3.1).Club), .string k_A, .string k_blue, .string k_empty]) (by kernel_rfl) rfl ?_; clear S; intro a w40 b7 hz7 hk37 S
          refine l_done ?_
          refine d_next (Keep.none hk37) ?_
          refine d_loud1 8 (by kernel_rfl) rfl ?_
          refine l_buildSlice S Tryd.underlying33 Tryd.sizeOf9 Tryd.zeroValue9 rfl rfl (pv := [(0, .string ((nth r1.1 r3.1).Who)), (1, .string k_empty), (2, .string k_ann)]) ⟨rfl, (S.tm rfl), rfl, rfl, rfl, rfl, trivial⟩ (cs := [.string ((nth r1.1 r3.1).Who), .string k_empty, .string k_ann]) (by kernel_rfl) rfl ?_; clear S; intro a w41 b8 hz8 hk38 S
          refine l_done ?_
          refine d_next (Keep.none hk38) ?_
          refine d_loud1 9 (by kernel_rfl) rfl ?_
          refine l_enter1 3 S (b := b_p_s) rfl rfl (fun _ => .blk b_p_s [v_p_s_L, .int .i64 r4.2] 25) (fun _ => run_call (vs := [.pointer (some ⟨b_p_s, 0, none⟩), .slice (some ⟨b8, 0, none⟩) 3 3]) ⟨(S.tm rfl), (S.tm rfl), trivial⟩ Tryd.call5) (Stream_Some_ok _ b_p_s v_p_s_L p_s_L (hs_p_s_L.mono (S.le_arg (fp_sub (i := 3) (e := .blk b_p_s [v_p_s_L, .int .i64 r3.2] 25) rfl))) r3.2 (S.holds _ (List.mem_of_getElem? (i := 3) rfl)) (.slice (some ⟨b8, 0, none⟩) 3 3) [(nth r1.1 r3.1).Who, k_empty, k_ann] (lit_slcT enc_str S (i := 0) rfl rfl rfl rfl ((ne_fp (i := 3) (j := 0) (e := .blk b_p_s [v_p_s_L, .int .i64 r3.2] 25) (e' := .blk b8 [.string ((nth r1.1 r3.1).Who), .string k_empty, .string k_ann] 9) S rfl rfl rfl) _ rfl)) _ hr5) rfl (fun _ _ _ h => ⟨h.1, fun _ hc => by cases hc; rfl⟩) ?_; clear S; intro v15 a w42 hv13 hk39 hn13 S
          replace hv13 := hv13.2
          subst hv13
          refine l_done ?_
          refine d_next hk39 ?_
          refine d_loud1 16 (by kernel_rfl) rfl ?_
          refine l_enter1 3 S (b := b_p_s) rfl rfl (fun _ => .blk b_p_s [v_p_s_L, .int .i64 r5.2] 25) (fun _ => run_call (vs := [.pointer (some ⟨b_p_s, 0, none⟩), .slice (some ⟨b7, 0, none⟩) 4 4]) ⟨(S.tm rfl), (S.tm rfl), trivial⟩ Tryd.call5) (Stream_Some_ok _ b_p_s v_p_s_L p_s_L (hs_p_s_L.mono (S.le_arg (fp_sub (i := 3) (e := .blk b_p_s [v_p_s_L, .int .i64 r4.2] 25) rfl))) r4.2 (S.holds _ (List.mem_of_getElem? (i := 3) rfl)) (.slice (some ⟨b7, 0, none⟩) 4 4) [(nth r1.1 r3.1).Club, k_A, k_blue, k_empty] (lit_slcT enc_str S (i := 1) rfl rfl rfl rfl ((ne_fp (i := 3) (j := 1) (e := .blk b_p_s [v_p_s_L, .int .i64 r4.2] 25) (e' := .blk b7 [.string ((nth r1.1 r3.1).Club), .string k_A, .string k_blue, .string k_empty] 9) S rfl rfl rfl) _ rfl)) _ hr6) rfl (fun _ _ _ h => ⟨h.1, fun _ hc => by cases hc; rfl⟩) ?_; clear S; intro v16 a w43 hv14 hk40 hn14 S
          replace hv14 := hv14.2
          subst hv14
          refine l_done ?_
          refine d_next hk40 ?_
          refine d_loud1 18 (by kernel_rfl) rfl ?_
          refine l_enter1 3 S (b := b_p_s) rfl rfl (fun _ => .blk b_p_s [v_p_s_L, .int .i64 r6.2] 25) (fun _ => run_call (vs := [.pointer (some ⟨b_p_s, 0, none⟩), .int .i64 (-100), .int .i64 400]) ⟨(S.tm rfl), rfl, rfl, trivial⟩ Tryd.call28) (Stream_Odd_ok _ b_p_s v_p_s_L p_s_L (hs_p_s_L.mono (S.le_arg (fp_sub (i := 3) (e := .blk b_p_s [v_p_s_L, .int .i64 r5.2] 25) rfl))) r5.2 (S.holds _ (List.mem_of_getElem? (i := 3) rfl)) (-100) 400 _ hr7) rfl (fun _ _ _ h => ⟨h.1, fun _ hc => by cases hc; rfl⟩) ?_; clear S; intro v17 a w44 hv15 hk41 hn15 S
          replace hv15 := hv15.2
          subst hv15
          refine l_done ?_
          refine d_next hk41 ?_
          refine d_pure 19 S hsel rfl rfl (by kernel_rfl) (by kernel_rfl) rfl (fun _ => (rn_nilCheck (S.tm rfl))) ?_; clear S; intro a S
          refine d_pure 20 S hsel rfl rfl (by kernel_rfl) (by kernel_rfl) rfl (fun _ => (rn_fld fa_59_0 (S.tm rfl))) ?_; clear S; intro a S
          refine d_loudB 21 ([b_p_s] ++ v1.ownBlock.toList) rfl (by kernel_rfl) rfl ?_
          refine l_storeO (c := 0) (j := r3.1.toNat) (GMove.mk r4.1 ((nth r1.1 r3.1).Club) ((nth r1.1 r3.1).Day)) GMove.enc_ok S (S.tm rfl) (S.tm rfl) (i := 2) rfl hg1 (inB_get hc1).1 Tryd.sizeOf9 (vs := [.string r4.1]) rfl rfl rfl rfl rfl ?_; clear S; intro w46 hk43 S
          refine l_done ?_
          refine d_nextB ?_
          refine d_quiet 22 S hsel rfl rfl rfl (by kernel_rfl) (by kernel_rfl) rfl (fun _ hw => (rn_nilCheck (S.tm rfl))) ?_; clear S; intro a S
          refine d_quiet 23 S hsel rfl rfl rfl (by kernel_rfl) (by kernel_rfl) rfl (fun _ hw => (rn_fld fa_59_1 (S.tm rfl))) ?_; clear S; intro a S
          refine d_loud1 24 (by kernel_rfl) rfl ?_
          refine l_storeO (c := 1) (j := r3.1.toNat) (GMove.mk r4.1 r5.1 ((nth r1.1 r3.1).Day)) GMove.enc_ok S (S.tm rfl) (S.tm rfl) (i := 2) rfl hg1 (get_set (inB_get hc1).1) Tryd.sizeOf9 (vs := [.string r5.1]) rfl rfl rfl rfl rfl ?_; clear S; intro w48 hk45 S
          refine l_done ?_
          refine d_next (hk45.sub (by intro y hy; simp at hy ⊢; simp [hy])) ?_
          refine d_quiet 25 S hsel rfl rfl rfl (by kernel_rfl) (by kernel_rfl) rfl (fun _ hw => (rn_nilCheck (S.tm rfl))) ?_; clear S; intro a S
          refine d_quiet 26 S hsel rfl rfl rfl (by kernel_rfl) (by kernel_rfl) rfl (fun _ hw => (rn_fld fa_59_2 (S.tm rfl))) ?_; clear S; intro a S
          refine d_loud1 27 (by kernel_rfl) rfl ?_
          refine l_storeO (c := 2) (j := r3.1.toNat) (GMove.mk r4.1 r5.1 r6.1) GMove.enc_ok S (S.tm rfl) (S.tm rfl) (i := 2) rfl hg1 (get_set (get_set (inB_get hc1).1)) Tryd.sizeOf3 (vs := [.int .i64 r6.1]) rfl rfl rfl rfl rfl ?_; clear S; intro w50 hk47 S
          refine l_done ?_
          refine d_next (hk47.sub (by intro y hy; simp at hy ⊢; simp [hy])) ?_
          refine d_end (by kernel_rfl) ?_
          clear hsel
          replace S := S.nf (L' := [.own v1 59 3 (((r1.1.set r3.1.toNat (GMove.mk r4.1 ((nth r1.1 r3.1).Club) ((nth r1.1 r3.1).Day))).set r3.1.toNat (GMove.mk r4.1 r5.1 ((nth r1.1 r3.1).Day))).set r3.1.toNat (GMove.mk r4.1 r5.1 r6.1)).length ((((r1.1.set r3.1.toNat (GMove.mk r4.1 ((nth r1.1 r3.1).Club) ((nth r1.1 r3.1).Day))).set r3.1.toNat (GMove.mk r4.1 r5.1 ((nth r1.1 r3.1).Day))).set r3.1.toNat (GMove.mk r4.1 r5.1 r6.1)).flatMap GMove.enc), .blk b_p_s [v_p_s_L, .int .i64 r6.2] 25]) (K' := [(3, v1)]) [false, false, true, true] rfl ⟨rfl, trivial⟩
          refine then_n ?_
          exact ⟨(((r1.1.set r3.1.toNat (GMove.mk r4.1 ((nth r1.1 r3.1).Club) ((nth r1.1 r3.1).Day))).set r3.1.toNat (GMove.mk r4.1 r5.1 ((nth r1.1 r3.1).Day))).set r3.1.toNat (GMove.mk r4.1 r5.1 r6.1)), r6.2, v1, h, S.nf [true, true] rfl ⟨rfl, trivial⟩⟩
      clear S h; rintro a w6 ⟨x5, x6, v5, h, S⟩; rw [hj3] at h; clear hj3 j3
      refine then_n ?_
      exact ⟨x5, x6, v5, h, S.nf [true, true] rfl ⟨rfl, trivial⟩⟩
    · replace h := iteF h hb2
      refine wp_skip ?_
      refine then_n ?_
      exact ⟨r1.1, x1, v1, h, S.nf [true, true] rfl ⟨rfl, trivial⟩⟩
  clear S h; rintro a w4 ⟨x3, x4, v3, h, S⟩; rw [hj2] at h; clear hj2 j2
  refine then_n ?_
  refine f_seq ?_
  refine f_region ?_
  refine lv S (rn_move (S.tm rfl)) rfl ?_; clear S; intro a S
  refine lv S (rn_assign (S.tm rfl)) rfl ?_; clear S; intro a S
  refine l_done ?_
  replace S := S.nf (L' := [.own v3 59 3 x3.length (x3.flatMap GMove.enc), .blk b_p_s [v_p_s_L, .int .i64 x4] 25]) (K' := [(2, v3)]) [true, true] rfl ⟨rfl, trivial⟩
  refine then_n ?_
  refine wp_ret ?_
  obtain rfl := Option.some.inj h
  exact f_ret S Tryd.results4 rfl ⟨(S.holds _ (List.mem_of_getElem? (i := 1) rfl)), (own_retX S (i := 0) rfl (fun c hc hh => not_fps S (i := 1) rfl rfl (j := 0) rfl rfl (by simp at hc; subst hc; exact hh)))⟩
theorem Stream_MeetDay_ok (w : World) (b_p_s : Nat) (v_p_s_L : Value) (p_s_L : List Int) (hs_p_s_L : Slc (view w [b_p_s]) 1 v_p_s_L (p_s_L.map eInt)) (p_s_at : Int) (hb_b_p_s : (LEnt.blk b_p_s [v_p_s_L, .int .i64 p_s_at] 25).holds w) (r : Int × Int) (h : Stream_MeetDay p_s_L p_s_at = some r) :
    Calls Tryd.prog 6 [.pointer (some ⟨b_p_s, 0, none⟩)].toArray w (Ret w [b_p_s] fun τ v w' => (LEnt.blk b_p_s [v_p_s_L, .int .i64 r.2] 25).holds w' ∧ v = .int .i64 r.1) := by
  refine f_enter [b_p_s] [.blk b_p_s [v_p_s_L, .int .i64 p_s_at] 25] Tryd.func6 rfl Tryd.ntmps6 rfl (fun e he => by simp only [List.mem_singleton] at he; subst he; exact hb_b_p_s) (by simp [fps, LEnt.fp]) (by simp [fps, LEnt.fp]) fun a S => ?_
  unfold Stream_MeetDay at h
  replace S := S.nf (L' := [.blk b_p_s [v_p_s_L, .int .i64 p_s_at] 25]) (K' := [(0, .pointer (some ⟨b_p_s, 0, none⟩))]) [true] rfl ⟨rfl, trivial⟩
  refine f_seq ?_
  refine f_region ?_
  refine lv S (rn_assign rfl) rfl ?_; clear S; intro a S
  refine l_done ?_
  replace S := S.nf (L' := [.blk b_p_s [v_p_s_L, .int .i64 p_s_at] 25]) (K' := [(0, .pointer (some ⟨b_p_s, 0, none⟩))]) [true] rfl ⟨rfl, trivial⟩
  refine then_n ?_
  refine f_seq ?_
  refine f_seq ?_
  refine f_region ?_
  refine lv S (rn_move (S.tm rfl)) rfl ?_; clear S; intro a S
  obtain ⟨r1, hr1, h⟩ := bindE h
  refine l_enter1 0 S (b := b_p_s) rfl rfl (fun _ => .blk b_p_s [v_p_s_L, .int .i64 r1.2] 25) (fun _ => run_call (vs := [.pointer (some ⟨b_p_s, 0, none⟩), .int .i64 15]) ⟨(S.tm rfl), rfl, trivial⟩ Tryd.call20) (Stream_Flip_ok _ b_p_s v_p_s_L p_s_L (hs_p_s_L.mono (S.le_arg (fp_sub (i := 0) (e := .blk b_p_s [v_p_s_L, .int .i64 p_s_at] 25) rfl))) p_s_at (S.holds _ (List.mem_of_getElem? (i := 0) rfl)) 15 _ hr1) rfl (fun _ _ _ h => ⟨h.1, fun _ hc => by cases hc; rfl⟩) ?_; clear S; intro v1 a w1 hv1 hk1 hn1 S
  replace hv1 := hv1.2
  subst hv1
  refine l_done ?_
  replace S := S.nf (L' := [.blk b_p_s [v_p_s_L, .int .i64 r1.2] 25]) (K' := [(0, .pointer (some ⟨b_p_s, 0, none⟩)), (4, .bool r1.1)]) [true] rfl ⟨rfl, rfl, trivial⟩
  refine then_n ?_
  refine f_cond (S.tm rfl) (fun hb1 => ?_) (fun hb1 => ?_)
  · replace h := iteT h hb1
    refine f_seq ?_
    refine f_region ?_
    refine lv S (rn_move (S.tm rfl)) rfl ?_; clear S; intro a S
    obtain ⟨r2, hr2, h⟩ := bindE h
    refine l_enter1 0 S (b := b_p_s) rfl rfl (fun _ => .blk b_p_s [v_p_s_L, .int .i64 r2.2] 25) (fun _ => run_call (vs := [.pointer (some ⟨b_p_s, 0, none⟩), .int .i64 (-40000), .int .i64 4000]) ⟨(S.tm rfl), rfl, rfl, trivial⟩ Tryd.call28) (Stream_Odd_ok _ b_p_s v_p_s_L p_s_L (hs_p_s_L.mono (S.le_arg (fp_sub (i := 0) (e := .blk b_p_s [v_p_s_L, .int .i64 r1.2] 25) rfl))) r1.2 (S.holds _ (List.mem_of_getElem? (i := 0) rfl)) (-40000) 4000 _ hr2) rfl (fun _ _ _ h => ⟨h.1, fun _ hc => by cases hc; rfl⟩) ?_; clear S; intro v2 a w2 hv2 hk2 hn2 S
    replace hv2 := hv2.2
    subst hv2
    refine lv S (rn_assign (S.tm rfl)) rfl ?_; clear S; intro a S
    refine l_done ?_
    replace S := S.nf (L' := [.blk b_p_s [v_p_s_L, .int .i64 r2.2] 25]) (K' := [(2, .int .i64 r2.1)]) [true] rfl ⟨rfl, trivial⟩
    refine then_n ?_
    refine wp_ret ?_
    refine then_r ?_
    obtain rfl := Option.some.inj h
    exact f_ret S Tryd.results6 rfl ⟨(S.holds _ (List.mem_of_getElem? (i := 0) rfl)), rfl⟩
  · replace h := iteF h hb1
    refine wp_skip ?_
    refine then_n ?_
    refine f_seq ?_
    refine f_region ?_
    refine lv S (rn_move (S.tm rfl)) rfl ?_; clear S; intro a S
    refine l_buildSlice S Tryd.underlying22 Tryd.sizeOf3 Tryd.zeroValue3 rfl rfl (pv := [(0, .int .i64 0), (1, .int .i64 58), (2, .int .i64 59), (3, .int .i64 60), (4, .int .i64 365), (5, .int .i64 366), (6, .int .i64 424), (7, .int .i64 425), (8, .int .i64 789), (9, .int .i64 1519), (10, .int .i64 1520), (11, .int .i64 1521), (12, .int .i64 3000), (13, .int .i64 4000)]) ⟨rfl, rfl, rfl, rfl, rfl, rfl, rfl, rfl, rfl, rfl, rfl, rfl, rfl, rfl, rfl, rfl, rfl, rfl, rfl, rfl, rfl, rfl, rfl, rfl, rfl, rfl, rfl, rfl, trivial⟩ (cs := [.int .i64 0, .int .i64 58, .int .i64 59, .int .i64 60, .int .i64 365, .int .i64 366, .int .i64 424, .int .i64 425, .int .i64 789, .int .i64 1519, .int .i64 1520, .int .i64 1521, .int .i64 3000, .int .i64 4000]) (by kernel_rfl) rfl ?_; clear S; intro a w3 b1 hz1 hk3 S
    obtain ⟨r3, hr3, h⟩ := bindE h
    refine l_enter1 1 S (b := b_p_s) rfl rfl (fun _ => .blk b_p_s [v_p_s_L, .int .i64 r3.2] 25) (fun _ => run_call (vs := [.pointer (some ⟨b_p_s, 0, none⟩), .slice (some ⟨b1, 0, none⟩) 14 14]) ⟨(S.tm rfl), (S.tm rfl), trivial⟩ Tryd.call19) (Stream_Pick_ok _ b_p_s v_p_s_L p_s_L (hs_p_s_L.mono (S.le_arg (fp_sub (i := 1) (e := .blk b_p_s [v_p_s_L, .int .i64 r1.2] 25) rfl))) r1.2 (S.holds _ (List.mem_of_getElem? (i := 1) rfl)) (.slice (some ⟨b1, 0, none⟩) 14 14) [0, 58, 59, 60, 365, 366, 424, 425, 789, 1519, 1520, 1521, 3000, 4000] (lit_slcT enc_int S (i := 0) rfl rfl rfl rfl ((ne_fp (i := 1) (j := 0) (e := .blk b_p_s [v_p_s_L, .int .i64 r1.2] 25) (e' := .blk b1 [.int .i64 0, .int .i64 58, .int .i64 59, .int .i64 60, .int .i64 365, .int .i64 366, .int .i64 424, .int .i64 425, .int .i64 789, .int .i64 1519, .int .i64 1520, .int .i64 1521, .int .i64 3000, .int .i64 4000] 3) S rfl rfl rfl) _ rfl)) _ hr3) rfl (fun _ _ _ h => ⟨h.1, fun _ hc => by cases hc; rfl⟩) ?_; clear S; intro v3 a w4 hv3 hk4 hn3 S
    replace hv3 := hv3.2
    subst hv3
    refine lv S (rn_move (S.tm rfl)) rfl ?_; clear S; intro a S
    refine l_buildSlice S Tryd.underlying22 Tryd.sizeOf3 Tryd.zeroValue3 rfl rfl (pv := [(0, .int .i64 (-1)), (1, .int .i64 0), (2, .int .i64 0), (3, .int .i64 1)]) ⟨rfl, rfl, rfl, rfl, rfl, rfl, rfl, rfl, trivial⟩ (cs := [.int .i64 (-1), .int .i64 0, .int .i64 0, .int .i64 1]) (by kernel_rfl) rfl ?_; clear S; intro a w5 b2 hz2 hk5 S
    obtain ⟨r4, hr4, h⟩ := bindE h
    refine l_enter1 2 S (b := b_p_s) rfl rfl (fun _ => .blk b_p_s [v_p_s_L, .int .i64 r4.2] 25) (fun _ => run_call (vs := [.pointer (some ⟨b_p_s, 0, none⟩), .slice (some ⟨b2, 0, none⟩) 4 4]) ⟨(S.tm rfl), (S.tm rfl), trivial⟩ Tryd.call19) (Stream_Pick_ok _ b_p_s v_p_s_L p_s_L (hs_p_s_L.mono (S.le_arg (fp_sub (i := 2) (e := .blk b_p_s [v_p_s_L, .int .i64 r3.2] 25) rfl))) r3.2 (S.holds _ (List.mem_of_getElem? (i := 2) rfl)) (.slice (some ⟨b2, 0, none⟩) 4 4) [(-1), 0, 0, 1] (lit_slcT enc_int S (i := 0) rfl rfl rfl rfl ((ne_fp (i := 2) (j := 0) (e := .blk b_p_s [v_p_s_L, .int .i64 r3.2] 25) (e' := .blk b2 [.int .i64 (-1), .int .i64 0, .int .i64 0, .int .i64 1] 3) S rfl rfl rfl) _ rfl)) _ hr4) rfl (fun _ _ _ h => ⟨h.1, fun _ hc => by cases hc; rfl⟩) ?_; clear S; intro v4 a w6 hv4 hk6 hn4 S
    replace hv4 := hv4.2
    subst hv4
    refine lv S (rn_add (S.tm rfl) (S.tm rfl)) rfl ?_; clear S; intro a S
    refine lv S (rn_assign (S.tm rfl)) rfl ?_; clear S; intro a S
    refine l_done ?_
    replace S := S.nf (L' := [.blk b_p_s [v_p_s_L, .int .i64 r4.2] 25]) (K' := [(2, .int .i64 (W (r3.1 + r4.1)))]) [false, false, true] rfl ⟨rfl, trivial⟩
    refine then_n ?_
    refine wp_ret ?_
    obtain rfl := Option.some.inj h
    exact f_ret S Tryd.results6 rfl ⟨(S.holds _ (List.mem_of_getElem? (i := 0) rfl)), rfl⟩
theorem strings_Trim_ok (w : World) (s c : ByteArray) (r : ByteArray) (h : strings_Trim s c = some r) : Calls Tryd.prog 53 [.string s, .string c].toArray w (Ret w [] fun _ v _ => v = .string r) := by
  unfold strings_Trim at h
  obtain ⟨h1, h⟩ := chkE h
  obtain ⟨h2, h⟩ := chkE h
  obtain ⟨h3, h⟩ := chkE h
  obtain rfl := Option.some.inj h
  exact ret_of_below (Any.strings_Trim_laid Tryd.lays160 (by kernel_rfl) s c w (by simpa using h1) (by simpa using h2) (fun j b hb => by simpa using List.all_eq_true.1 h3 b (List.mem_of_getElem? hb)))
theorem words_IsKey_ok (w : World) (p_s : ByteArray) (r : Bool) (h : words_IsKey p_s = some r) :
    Calls Tryd.prog 35 [.string p_s].toArray w (Ret w [] fun τ v w' => v = .bool r) := by
  refine f_enter [] [] Tryd.func35 rfl Tryd.ntmps35 rfl (by simp) (by simp [fps]) (by simp [fps]) fun a S => ?_
  unfold words_IsKey at h
  replace S := S.nf (L' := []) (K' := [(0, .string p_s)]) [] rfl ⟨rfl, trivial⟩
  refine f_seq ?_
  refine f_region ?_
  refine lv S (rn_assign rfl) rfl ?_; clear S; intro a S
  refine l_done ?_
  replace S := S.nf (L' := []) (K' := [(0, .string p_s)]) [] rfl ⟨rfl, trivial⟩
  refine then_n ?_
  refine f_seq ?_
  refine f_region ?_
  refine lv S (rn_move (S.tm rfl)) rfl ?_; clear S; intro a S
  refine lv S (rn_len_str Tryd.underlying9 (S.tm rfl)) rfl ?_; clear S; intro a S
  refine lv S (rn_geq (S.tm rfl) rfl) rfl ?_; clear S; intro a S
  refine lv S (rn_move (S.tm rfl)) rfl ?_; clear S; intro a S
  refine f_cutm 4 (fun a w' => Keep [] w w' ∧ Sx w [] nov [] [(0, .string p_s), (10, .bool ((decide (1 ≤ (p_s.size : Int))) && (decide ((p_s.size : Int) ≤ 40))))] 26 a w') ?_ ?_
  · rcases Bool.eq_false_or_eq_true (decide (1 ≤ (p_s.size : Int))) with hb1 | hb1
    · refine l_want S rfl rfl rfl hb1 ?_
      refine lv S (rn_move (S.tm rfl)) rfl ?_; clear S; intro a S
      refine l_want S rfl rfl rfl hb1 ?_
      refine lv S (rn_len_str Tryd.underlying9 (S.tm rfl)) rfl ?_; clear S; intro a S
      refine l_want S rfl rfl rfl hb1 ?_
      refine lv S (rn_leq (S.tm rfl) rfl) rfl ?_; clear S; intro a S
      refine lv S (rn_and_t hb1 (S.tm rfl) (S.tm rfl)) rfl ?_; clear S; intro a S
      refine l_done ?_
      refine then_n ?_
      exact ⟨Keep.refl _ _, S.nf [] rfl ⟨rfl, rfl, trivial⟩⟩
    · refine l_skip S rfl rfl rfl (neq_f hb1) rfl ?_ rfl; clear S; intro a S
      refine l_skip S rfl rfl rfl (neq_f hb1) rfl ?_ rfl; clear S; intro a S
      refine l_skip S rfl rfl rfl (neq_f hb1) rfl ?_ rfl; clear S; intro a S
      refine lv S (rn_and_f (decide ((p_s.size : Int) ≤ 40)) hb1 (S.tm rfl) rfl) rfl ?_; clear S; intro a S
      refine l_done ?_
      refine then_n ?_
      exact ⟨Keep.refl _ _, S.nf [] rfl ⟨rfl, rfl, trivial⟩⟩
  clear S; rintro a w1 ⟨hk1, S⟩
  refine lv S (rn_move (S.tm rfl)) rfl ?_; clear S; intro a S
  obtain ⟨j1, hj1, h⟩ := joinE h
  refine f_cutm 4 (fun a w' => ∃ c1, j1 c1 = some r ∧ Keep [] w1 w' ∧ Sx w [] nov [] [(0, .string p_s), (15, .bool c1)] 26 a w') ?_ ?_
  · rcases Bool.eq_false_or_eq_true ((decide (1 ≤ (p_s.size : Int))) && (decide ((p_s.size : Int) ≤ 40))) with hb2 | hb2
    · replace h := iteT h hb2
      refine l_want S rfl rfl rfl hb2 ?_
      refine lv S (rn_move (S.tm rfl)) rfl ?_; clear S; intro a S
      refine l_want S rfl rfl rfl hb2 ?_
      obtain ⟨hc1, h⟩ := chkE h
      refine lv S (rn_sindexT Tryd.underlying9 (S.tm rfl) rfl hc1) rfl ?_; clear S; intro a S
      refine l_want S rfl rfl rfl hb2 ?_
      refine lv S (rn_geq (S.tm rfl) rfl) rfl ?_; clear S; intro a S
      refine lv S (rn_and_t hb2 (S.tm rfl) (S.tm rfl)) rfl ?_; clear S; intro a S
      refine l_done ?_
      refine then_n ?_
      exact ⟨_, h, Keep.refl _ _, S.nf [] rfl ⟨rfl, rfl, trivial⟩⟩
    · replace h := iteF h hb2
      refine l_skip S rfl rfl rfl (neq_f hb2) rfl ?_ rfl; clear S; intro a S
      refine l_skip S rfl rfl rfl (neq_f hb2) rfl ?_ rfl; clear S; intro a S
      refine l_skip S rfl rfl rfl (neq_f hb2) rfl ?_ rfl; clear S; intro a S
      refine lv S (rn_and_f true hb2 (S.tm rfl) rfl) rfl ?_; clear S; intro a S
      refine l_done ?_
      refine then_n ?_
      exact ⟨_, h, Keep.refl _ _, S.nf [] rfl ⟨rfl, rfl, trivial⟩⟩
  clear S h; rintro a w2 ⟨c1, h, hk2, S⟩; rw [hj1] at h; clear hj1 j1
  refine lv S (rn_move (S.tm rfl)) rfl ?_; clear S; intro a S
  obtain ⟨j2, hj2, h⟩ := joinE h
  refine f_cutm 4 (fun a w' => ∃ c2, j2 c2 = some r ∧ Keep [] w2 w' ∧ Sx w [] nov [] [(0, .string p_s), (20, .bool c2)] 26 a w') ?_ ?_
  · rcases Bool.eq_false_or_eq_true c1 with hb3 | hb3
    · replace h := iteT h hb3
      refine l_want S rfl rfl rfl hb3 ?_
      refine lv S (rn_move (S.tm rfl)) rfl ?_; clear S; intro a S
      refine l_want S rfl rfl rfl hb3 ?_
      obtain ⟨hc2, h⟩ := chkE h
      refine lv S (rn_sindexT Tryd.underlying9 (S.tm rfl) rfl hc2) rfl ?_; clear S; intro a S
      refine l_want S rfl rfl rfl hb3 ?_
      refine lv S (rn_leq (S.tm rfl) rfl) rfl ?_; clear S; intro a S
      refine lv S (rn_and_t hb3 (S.tm rfl) (S.tm rfl)) rfl ?_; clear S; intro a S
      refine l_done ?_
      refine then_n ?_
      exact ⟨_, h, Keep.refl _ _, S.nf [] rfl ⟨rfl, rfl, trivial⟩⟩
    · replace h := iteF h hb3
      refine l_skip S rfl rfl rfl (neq_f hb3) rfl ?_ rfl; clear S; intro a S
      refine l_skip S rfl rfl rfl (neq_f hb3) rfl ?_ rfl; clear S; intro a S
      refine l_skip S rfl rfl rfl (neq_f hb3) rfl ?_ rfl; clear S; intro a S
      refine lv S (rn_and_f true hb3 (S.tm rfl) rfl) rfl ?_; clear S; intro a S
      refine l_done ?_
      refine then_n ?_
      exact ⟨_, h, Keep.refl _ _, S.nf [] rfl ⟨rfl, rfl, trivial⟩⟩
  clear S h; rintro a w3 ⟨c2, h, hk3, S⟩; rw [hj2] at h; clear hj2 j2
  refine lv S (rn_move (S.tm rfl)) rfl ?_; clear S; intro a S
  obtain ⟨j3, hj3, h⟩ := joinE h
  refine f_cutm 4 (fun a w' => ∃ c3, j3 c3 = some r ∧ Keep [] w3 w' ∧ Sx w [] nov [] [(25, .bool c3)] 26 a w') ?_ ?_
  · rcases Bool.eq_false_or_eq_true c2 with hb4 | hb4
    · replace h := iteT h hb4
      refine l_want S rfl rfl rfl hb4 ?_
      refine lv S (rn_move (S.tm rfl)) rfl ?_; clear S; intro a S
      refine l_want S rfl rfl rfl hb4 ?_
      obtain ⟨r1, hr1, h⟩ := bindE h
      refine l_enter S (fun _ => run_call (vs := [.string p_s, .string k_abcdefghijkl_h0e2e2c]) ⟨(S.tm rfl), rfl, trivial⟩ Tryd.call53) (strings_Trim_ok _ p_s k_abcdefghijkl_h0e2e2c _ hr1) rfl ?_; clear S; intro v1 a w5 hv1 hk4 hn1 S
      subst hv1
      refine l_want S rfl rfl rfl hb4 ?_
      refine lv S (rn_seql (S.tm rfl) rfl) rfl ?_; clear S; intro a S
      refine lv S (rn_and_t hb4 (S.tm rfl) (S.tm rfl)) rfl ?_; clear S; intro a S
      refine l_done ?_
      refine then_n ?_
      exact ⟨_, h, hk4, S.nf [] rfl ⟨rfl, trivial⟩⟩
    · replace h := iteF h hb4
      refine l_skip S rfl rfl rfl (neq_f hb4) rfl ?_ rfl; clear S; intro a S
      refine l_skip S rfl rfl rfl (neq_f hb4) rfl ?_ rfl; clear S; intro a S
      refine l_skip S rfl rfl rfl (neq_f hb4) rfl ?_ rfl; clear S; intro a S
      refine lv S (rn_and_f true hb4 (S.tm rfl) rfl) rfl ?_; clear S; intro a S
      refine l_done ?_
      refine then_n ?_
      exact ⟨_, h, Keep.refl _ _, S.nf [] rfl ⟨rfl, trivial⟩⟩
  clear S h; rintro a w4 ⟨c3, h, hk5, S⟩; rw [hj3] at h; clear hj3 j3
  refine lv S (rn_assign (S.tm rfl)) rfl ?_; clear S; intro a S
  refine l_done ?_
  replace S := S.nf (L' := []) (K' := [(2, .bool c3)]) [] rfl ⟨rfl, trivial⟩
  refine then_n ?_
  refine wp_ret ?_
  obtain rfl := Option.some.inj h
  exact f_ret S Tryd.results35 rfl rfl
theorem words_Within_ok (w : World) (p_n : Int) (p_low : Int) (p_high : Int) (r : Bool) (h : words_Within p_n p_low p_high = r) :
    Calls Tryd.prog 54 [.int .i64 p_n, .int .i64 p_low, .int .i64 p_high].toArray w (Ret w [] fun τ v w' => v = .bool r) := by
  refine f_enter [] [] Tryd.func54 rfl Tryd.ntmps54 rfl (by simp) (by simp [fps]) (by simp [fps]) fun a S => ?_
  unfold words_Within at h
  replace S := S.nf (L' := []) (K' := [(0, .int .i64 p_n), (1, .int .i64 p_low), (2, .int .i64 p_high)]) [] rfl ⟨rfl, rfl, rfl, trivial⟩
  refine f_seq ?_
  refine f_region ?_
  refine lv S (rn_assign rfl) rfl ?_; clear S; intro a S
  refine l_done ?_
  replace S := S.nf (L' := []) (K' := [(0, .int .i64 p_n), (1, .int .i64 p_low), (2, .int .i64 p_high)]) [] rfl ⟨rfl, rfl, rfl, trivial⟩
  refine then_n ?_
  refine f_seq ?_
  refine f_region ?_
  refine lv S (rn_move (S.tm rfl)) rfl ?_; clear S; intro a S
  refine lv S (rn_move (S.tm rfl)) rfl ?_; clear S; intro a S
  refine lv S (rn_geq (S.tm rfl) (S.tm rfl)) rfl ?_; clear S; intro a S
  refine lv S (rn_move (S.tm rfl)) rfl ?_; clear S; intro a S
  refine f_cutm 4 (fun a w' => Keep [] w w' ∧ Sx w [] nov [] [(14, .bool ((decide (p_low ≤ p_n)) && (decide (p_n ≤ p_high))))] 15 a w') ?_ ?_
  · rcases Bool.eq_false_or_eq_true (decide (p_low ≤ p_n)) with hb1 | hb1
    · refine l_want S rfl rfl rfl hb1 ?_
      refine lv S (rn_move (S.tm rfl)) rfl ?_; clear S; intro a S
      refine l_want S rfl rfl rfl hb1 ?_
      refine lv S (rn_move (S.tm rfl)) rfl ?_; clear S; intro a S
      refine l_want S rfl rfl rfl hb1 ?_
      refine lv S (rn_leq (S.tm rfl) (S.tm rfl)) rfl ?_; clear S; intro a S
      refine lv S (rn_and_t hb1 (S.tm rfl) (S.tm rfl)) rfl ?_; clear S; intro a S
      refine l_done ?_
      refine then_n ?_
      exact ⟨Keep.refl _ _, S.nf [] rfl ⟨rfl, trivial⟩⟩
    · refine l_skip S rfl rfl rfl (neq_f hb1) rfl ?_ rfl; clear S; intro a S
      refine l_skip S rfl rfl rfl (neq_f hb1) rfl ?_ rfl; clear S; intro a S
      refine l_skip S rfl rfl rfl (neq_f hb1) rfl ?_ rfl; clear S; intro a S
      refine lv S (rn_and_f (decide (p_n ≤ p_high)) hb1 (S.tm rfl) rfl) rfl ?_; clear S; intro a S
      refine l_done ?_
      refine then_n ?_
      exact ⟨Keep.refl _ _, S.nf [] rfl ⟨rfl, trivial⟩⟩
  clear S; rintro a w1 ⟨hk1, S⟩
  refine lv S (rn_assign (S.tm rfl)) rfl ?_; clear S; intro a S
  refine l_done ?_
  replace S := S.nf (L' := []) (K' := [(6, .bool ((decide (p_low ≤ p_n)) && (decide (p_n ≤ p_high))))]) [] rfl ⟨rfl, trivial⟩
  refine then_n ?_
  refine wp_ret ?_
  subst h
  exact f_ret S Tryd.results54 rfl rfl
theorem swimmer_isDay_ok (w : World) (p_n : Int) (r : Bool) (h : swimmer_isDay p_n = r) :
    Calls Tryd.prog 36 [.int .i64 p_n].toArray w (Ret w [] fun τ v w' => v = .bool r) := by
  refine f_enter [] [] Tryd.func36 rfl Tryd.ntmps36 rfl (by simp) (by simp [fps]) (by simp [fps]) fun a S => ?_
  unfold swimmer_isDay at h
  replace S := S.nf (L' := []) (K' := [(0, .int .i64 p_n)]) [] rfl ⟨rfl, trivial⟩
  refine f_seq ?_
  refine f_region ?_
  refine lv S (rn_assign rfl) rfl ?_; clear S; intro a S
  refine l_done ?_
  replace S := S.nf (L' := []) (K' := [(0, .int .i64 p_n)]) [] rfl ⟨rfl, trivial⟩
  refine then_n ?_
  refine f_seq ?_
  refine f_region ?_
  refine lv S (rn_move (S.tm rfl)) rfl ?_; clear S; intro a S
  refine l_enter S (fun _ => run_call (vs := [.int .i64 p_n, .int .i64 (-40000), .int .i64 4000]) ⟨(S.tm rfl), rfl, rfl, trivial⟩ Tryd.call54) (words_Within_ok _ p_n (-40000) 4000 _ rfl) rfl ?_; clear S; intro v1 a w1 hv1 hk1 hn1 S
  subst hv1
  refine lv S (rn_assign (S.tm rfl)) rfl ?_; clear S; intro a S
  refine l_done ?_
  replace S := S.nf (L' := []) (K' := [(2, .bool (words_Within p_n (-40000) 4000))]) [] rfl ⟨rfl, trivial⟩
  refine then_n ?_
  refine wp_ret ?_
  subst h
  exact f_ret S Tryd.results36 rfl rfl
theorem strings_Compare_ok (w : World) (s t : ByteArray) (r : Int) (h : strings_Compare s t = r) : Calls Tryd.prog 38 [.string s, .string t].toArray w (Ret w [] fun _ v _ => v = .int .i64 r) := by
  subst h
  exact ret_of_same (Any.strings_Compare Tryd.lays106 s t w)
theorem cmp_isNaN_int_ok (w : World) (p_x : Int) (r : Bool) (h : cmp_isNaN_int p_x = r) :
    Calls Tryd.prog 56 [.int .i64 p_x].toArray w (Ret w [] fun τ v w' => v = .bool r) := by
  refine f_enter [] [] Tryd.func56 rfl Tryd.ntmps56 rfl (by simp) (by simp [fps]) (by simp [fps]) fun a S => ?_
  unfold cmp_isNaN_int at h
  replace S := S.nf (L' := []) (K' := [(0, .int .i64 p_x)]) [] rfl ⟨rfl, trivial⟩
  refine f_seq ?_
  refine f_region ?_
  refine lv S (rn_assign rfl) rfl ?_; clear S; intro a S
  refine l_done ?_
  replace S := S.nf (L' := []) (K' := [(0, .int .i64 p_x)]) [] rfl ⟨rfl, trivial⟩
  refine then_n ?_
  refine f_seq ?_
  refine f_region ?_
  refine lv S (rn_move (S.tm rfl)) rfl ?_; clear S; intro a S
  refine lv S (rn_move (S.tm rfl)) rfl ?_; clear S; intro a S
  refine lv S (rn_neq (S.tm rfl) (S.tm rfl)) rfl ?_; clear S; intro a S
  refine lv S (rn_assign (S.tm rfl)) rfl ?_; clear S; intro a S
  refine l_done ?_
  replace S := S.nf (L' := []) (K' := [(2, .bool (!decide (p_x = p_x)))]) [] rfl ⟨rfl, trivial⟩
  refine then_n ?_
  refine wp_ret ?_
  subst h
  exact f_ret S Tryd.results56 rfl rfl
theorem cmp_Compare_int_ok (w : World) (p_x : Int) (p_y : Int) (r : Int) (h : cmp_Compare_int p_x p_y = r) :
    Calls Tryd.prog 39 [.int .i64 p_x, .int .i64 p_y].toArray w (Ret w [] fun τ v w' => v = .int .i64 r) := by
  refine f_enter [] [] Tryd.func39 rfl Tryd.ntmps39 rfl (by simp) (by simp [fps]) (by simp [fps]) fun a S => ?_
  unfold cmp_Compare_int at h
  replace S := S.nf (L' := []) (K' := [(0, .int .i64 p_x), (1, .int .i64 p_y)]) [] rfl ⟨rfl, rfl, trivial⟩
  refine f_seq ?_
  refine f_region ?_
  refine lv S (rn_assign rfl) rfl ?_; clear S; intro a S
  refine l_done ?_
  replace S := S.nf (L' := []) (K' := [(0, .int .i64 p_x), (1, .int .i64 p_y)]) [] rfl ⟨rfl, rfl, trivial⟩
  refine then_n ?_
  refine f_seq ?_
  refine f_region ?_
  refine lv S (rn_move (S.tm rfl)) rfl ?_; clear S; intro a S
  refine l_enter S (fun _ => run_call (vs := [.int .i64 p_x]) ⟨(S.tm rfl), trivial⟩ Tryd.call56) (cmp_isNaN_int_ok _ p_x _ rfl) rfl ?_; clear S; intro v1 a w1 hv1 hk1 hn1 S
  subst hv1
  refine lv S (rn_assign (S.tm rfl)) rfl ?_; clear S; intro a S
  refine l_done ?_
  replace S := S.nf (L' := []) (K' := [(0, .int .i64 p_x), (1, .int .i64 p_y), (5, .bool (cmp_isNaN_int p_x))]) [] rfl ⟨rfl, rfl, rfl, trivial⟩
  refine then_n ?_
  refine f_seq ?_
  refine f_region ?_
  refine lv S (rn_move (S.tm rfl)) rfl ?_; clear S; intro a S
  refine l_enter S (fun _ => run_call (vs := [.int .i64 p_y]) ⟨(S.tm rfl), trivial⟩ Tryd.call56) (cmp_isNaN_int_ok _ p_y _ rfl) rfl ?_; clear S; intro v2 a w2 hv2 hk2 hn2 S
  subst hv2
  refine lv S (rn_assign (S.tm rfl)) rfl ?_; clear S; intro a S
  refine l_done ?_
  replace S := S.nf (L' := []) (K' := [(0, .int .i64 p_x), (1, .int .i64 p_y), (5, .bool (cmp_isNaN_int p_x)), (6, .bool (cmp_isNaN_int p_y))]) [] rfl ⟨rfl, rfl, rfl, rfl, trivial⟩
  refine then_n ?_
  refine f_seq ?_
  refine f_seq ?_
  refine f_region ?_
  refine lv S (rn_move (S.tm rfl)) rfl ?_; clear S; intro a S
  refine l_done ?_
  replace S := S.nf (L' := []) (K' := [(0, .int .i64 p_x), (1, .int .i64 p_y), (6, .bool (cmp_isNaN_int p_y)), (11, .bool (cmp_isNaN_int p_x))]) [] rfl ⟨rfl, rfl, rfl, rfl, trivial⟩
  refine then_n ?_
  refine f_cond (S.tm rfl) (fun hb1 => ?_) (fun hb1 => ?_)
  · replace h := iteT h hb1
    refine f_seq ?_
    refine f_seq ?_
    refine f_region ?_
    refine lv S (rn_move (S.tm rfl)) rfl ?_; clear S; intro a S
    refine l_done ?_
    replace S := S.nf (L' := []) (K' := [(12, .bool (cmp_isNaN_int p_y))]) [] rfl ⟨rfl, trivial⟩
    refine then_n ?_
    refine f_cond (S.tm rfl) (fun hb2 => ?_) (fun hb2 => ?_)
    · replace h := iteT h hb2
      refine f_seq ?_
      refine f_region ?_
      refine lv S (rn_assign rfl) rfl ?_; clear S; intro a S
      refine l_done ?_
      replace S := S.nf (L' := []) (K' := [(4, .int .i64 0)]) [] rfl ⟨rfl, trivial⟩
      refine then_n ?_
      refine wp_ret ?_
      refine then_r ?_
      refine then_r ?_
      subst h
      exact f_ret S Tryd.results39 rfl rfl
    · replace h := iteF h hb2
      refine wp_skip ?_
      refine then_n ?_
      refine f_seq ?_
      refine f_region ?_
      refine lv S (rn_assign rfl) rfl ?_; clear S; intro a S
      refine l_done ?_
      replace S := S.nf (L' := []) (K' := [(4, .int .i64 (-1))]) [] rfl ⟨rfl, trivial⟩
      refine then_n ?_
      refine wp_ret ?_
      refine then_r ?_
      subst h
      exact f_ret S Tryd.results39 rfl rfl
  · replace h := iteF h hb1
    refine wp_skip ?_
    refine then_n ?_
    refine f_seq ?_
    refine f_seq ?_
    refine f_region ?_
    refine lv S (rn_move (S.tm rfl)) rfl ?_; clear S; intro a S
    refine l_done ?_
    replace S := S.nf (L' := []) (K' := [(0, .int .i64 p_x), (1, .int .i64 p_y), (13, .bool (cmp_isNaN_int p_y))]) [] rfl ⟨rfl, rfl, rfl, trivial⟩
    refine then_n ?_
    refine f_cond (S.tm rfl) (fun hb3 => ?_) (fun hb3 => ?_)
    · replace h := iteT h hb3
      refine f_seq ?_
      refine f_region ?_
      refine lv S (rn_assign rfl) rfl ?_; clear S; intro a S
      refine l_done ?_
      replace S := S.nf (L' := []) (K' := [(4, .int .i64 1)]) [] rfl ⟨rfl, trivial⟩
      refine then_n ?_
      refine wp_ret ?_
      refine then_r ?_
      subst h
      exact f_ret S Tryd.results39 rfl rfl
    · replace h := iteF h hb3
      refine wp_skip ?_
      refine then_n ?_
      refine f_seq ?_
      refine f_seq ?_
      refine f_region ?_
      refine lv S (rn_move (S.tm rfl)) rfl ?_; clear S; intro a S
      refine lv S (rn_move (S.tm rfl)) rfl ?_; clear S; intro a S
      refine lv S (rn_lss (S.tm rfl) (S.tm rfl)) rfl ?_; clear S; intro a S
      refine l_done ?_
      replace S := S.nf (L' := []) (K' := [(0, .int .i64 p_x), (1, .int .i64 p_y), (16, .bool (decide (p_x < p_y)))]) [] rfl ⟨rfl, rfl, rfl, trivial⟩
      refine then_n ?_
      refine f_cond (S.tm rfl) (fun hb4 => ?_) (fun hb4 => ?_)
      · replace h := iteT h hb4
        refine f_seq ?_
        refine f_region ?_
        refine lv S (rn_assign rfl) rfl ?_; clear S; intro a S
        refine l_done ?_
        replace S := S.nf (L' := []) (K' := [(4, .int .i64 (-1))]) [] rfl ⟨rfl, trivial⟩
        refine then_n ?_
        refine wp_ret ?_
        refine then_r ?_
        subst h
        exact f_ret S Tryd.results39 rfl rfl
      · replace h := iteF h hb4
        refine wp_skip ?_
        refine then_n ?_
        refine f_seq ?_
        refine f_seq ?_
        refine f_region ?_
        refine lv S (rn_move (S.tm rfl)) rfl ?_; clear S; intro a S
        refine lv S (rn_move (S.tm rfl)) rfl ?_; clear S; intro a S
        refine lv S (rn_gtr (S.tm rfl) (S.tm rfl)) rfl ?_; clear S; intro a S
        refine l_done ?_
        replace S := S.nf (L' := []) (K' := [(19, .bool (decide (p_y < p_x)))]) [] rfl ⟨rfl, trivial⟩
        refine then_n ?_
        refine f_cond (S.tm rfl) (fun hb5 => ?_) (fun hb5 => ?_)
        · replace h := iteT h hb5
          refine f_seq ?_
          refine f_region ?_
          refine lv S (rn_assign rfl) rfl ?_; clear S; intro a S
          refine l_done ?_
          replace S := S.nf (L' := []) (K' := [(4, .int .i64 1)]) [] rfl ⟨rfl, trivial⟩
          refine then_n ?_
          refine wp_ret ?_
          refine then_r ?_
          subst h
          exact f_ret S Tryd.results39 rfl rfl
        · replace h := iteF h hb5
          refine wp_skip ?_
          refine then_n ?_
          refine f_seq ?_
          refine f_region ?_
          refine lv S (rn_assign rfl) rfl ?_; clear S; intro a S
          refine l_done ?_
          replace S := S.nf (L' := []) (K' := [(4, .int .i64 0)]) [] rfl ⟨rfl, trivial⟩
          refine then_n ?_
          refine wp_ret ?_
          subst h
          exact f_ret S Tryd.results39 rfl rfl
theorem cmp_Or_int_ok (w : World) (v_p_vals : Value) (p_vals : List Int) (hs_p_vals : Slc (view w []) 1 v_p_vals (p_vals.map eInt)) (r : Int) (h : cmp_Or_int p_vals = r) :
    Calls Tryd.prog 37 [v_p_vals].toArray w (Ret w [] fun τ v w' => v = .int .i64 r) := by
  refine f_enter [] [] Tryd.func37 rfl Tryd.ntmps37 rfl (by simp) (by simp [fps]) (by simp [fps]) fun a S => ?_
  unfold cmp_Or_int at h
  replace S := S.nf (L' := []) (K' := [(0, v_p_vals)]) [] rfl ⟨rfl, trivial⟩
  refine f_seq ?_
  refine f_region ?_
  refine lv S (rn_assign rfl) rfl ?_; clear S; intro a S
  refine l_done ?_
  replace S := S.nf (L' := []) (K' := [(0, v_p_vals)]) [] rfl ⟨rfl, trivial⟩
  refine then_n ?_
  refine f_seq ?_
  refine f_region ?_
  refine lv S (rn_assign rfl) rfl ?_; clear S; intro a S
  refine l_done ?_
  replace S := S.nf (L' := []) (K' := [(0, v_p_vals), (3, .int .i64 0)]) [] rfl ⟨rfl, rfl, trivial⟩
  refine then_n ?_
  refine f_seq ?_
  refine f_seq ?_
  refine f_region ?_
  refine lv S (rn_move (S.tm rfl)) rfl ?_; clear S; intro a S
  refine lv S (rn_lenT sl_22 (S.tm rfl) (slc_len hs_p_vals)) rfl ?_; clear S; intro a S
  refine lv S (rn_move rfl) rfl ?_; clear S; intro a S
  refine l_done ?_
  replace S := S.nf (L' := []) (K' := [(3, .int .i64 0), (6, v_p_vals), (7, .int .i64 (p_vals.length : Int)), (8, .int .i64 0)]) [] rfl ⟨rfl, rfl, rfl, rfl, trivial⟩
  refine then_n ?_
  obtain ⟨j1, hj1, h⟩ := joinE h
  refine f_join (fun a w' => j1 = r ∧ Sx w [] nov [] [(3, .int .i64 0)] 18 a w') ?_ ?_
  · refine wp_block ?_
    refine f_loop (fun (ys1 : List Int) a w' => ∃ i1 : Nat, (∃ dn, p_vals = dn ++ ys1 ∧ dn.length = i1) ∧ cmp_Or_int_l1 j1 ys1 i1 = r ∧ Sx w [] nov [] [(3, .int .i64 0), (6, v_p_vals), (7, .int .i64 (p_vals.length : Int)), (8, .int .i64 (i1 : Int))] 18 a w') List.length p_vals ⟨0, ⟨[], rfl, rfl⟩, h, S.nf [] rfl ⟨rfl, rfl, rfl, rfl, trivial⟩⟩ ?_
    clear S h; rintro ys1 a w1 ⟨i1, ⟨dn, hd1, hi1⟩, h, S⟩
    cases ys1 with
    | nil =>
      rw [cmp_Or_int_l1.eq_1] at h
      refine f_seq ?_
      refine f_region ?_
      refine lv S (rn_lss (S.tm rfl) (S.tm rfl)) rfl ?_; clear S; intro a S
      refine l_done ?_
      replace S := S.nf (L' := []) (K' := [(3, .int .i64 0), (6, v_p_vals), (7, .int .i64 (p_vals.length : Int)), (8, .int .i64 (i1 : Int)), (9, .bool (decide ((i1 : Int) < (p_vals.length : Int))))]) [] rfl ⟨rfl, rfl, rfl, rfl, rfl, trivial⟩
      refine then_n ?_
      refine f_seq ?_
      refine wp_cond_false ((S.tm rfl).trans (congrArg Value.bool (rng_nil hd1 hi1))) ?_
      refine wp_exit ?_
      refine then_x ?_
      refine then_x ?_
      refine x_same ?_
      refine then_n ?_
      exact ⟨h, S.nf [] rfl ⟨rfl, trivial⟩⟩
    | cons y1 ys1 =>
      rw [cmp_Or_int_l1.eq_2] at h
      refine f_seq ?_
      refine f_region ?_
      refine lv S (rn_lss (S.tm rfl) (S.tm rfl)) rfl ?_; clear S; intro a S
      refine l_done ?_
      replace S := S.nf (L' := []) (K' := [(3, .int .i64 0), (6, v_p_vals), (7, .int .i64 (p_vals.length : Int)), (8, .int .i64 (i1 : Int)), (9, .bool (decide ((i1 : Int) < (p_vals.length : Int))))]) [] rfl ⟨rfl, rfl, rfl, rfl, rfl, trivial⟩
      refine then_n ?_
      refine f_seq ?_
      refine wp_cond_true ((S.tm rfl).trans (congrArg Value.bool (rng_cons hd1 hi1))) ?_
      refine wp_skip ?_
      refine then_n ?_
      refine f_seq ?_
      refine wp_block ?_
      refine f_seq ?_
      refine f_region ?_
      obtain ⟨b1, o1, hm1, hr1⟩ := rn_indexT (a := a) (x := .tmp 6) (y := .tmp 8) (ty := 0) sl_22 hs_p_vals (get_mid hd1 hi1) rfl (S.tm rfl) (S.tm rfl)
      refine lv S (hr1 _) rfl ?_; clear S; intro a S
      clear hr1
      refine lv S (rn_ld Tryd.isAgg3 (off := o1) (o := 0) (S.tm rfl) (hm1.at S.emb0) rfl) rfl ?_; clear S; intro a S
      refine lv S (rn_assign (S.tm rfl)) rfl ?_; clear S; intro a S
      refine l_done ?_
      replace S := S.nf (L' := []) (K' := [(3, .int .i64 0), (5, .int .i64 y1), (6, v_p_vals), (7, .int .i64 (p_vals.length : Int)), (8, .int .i64 (i1 : Int))]) [] rfl ⟨rfl, rfl, rfl, rfl, rfl, trivial⟩
      refine then_n ?_
      refine f_seq ?_
      refine f_region ?_
      refine lv S (rn_move (S.tm rfl)) rfl ?_; clear S; intro a S
      refine lv S (rn_move (S.tm rfl)) rfl ?_; clear S; intro a S
      refine lv S (rn_neq (S.tm rfl) (S.tm rfl)) rfl ?_; clear S; intro a S
      refine l_done ?_
      replace S := S.nf (L' := []) (K' := [(3, .int .i64 0), (5, .int .i64 y1), (6, v_p_vals), (7, .int .i64 (p_vals.length : Int)), (8, .int .i64 (i1 : Int)), (14, .bool (!decide (y1 = 0)))]) [] rfl ⟨rfl, rfl, rfl, rfl, rfl, rfl, trivial⟩
      refine then_n ?_
      refine f_cond (S.tm rfl) (fun hb1 => ?_) (fun hb1 => ?_)
      · replace h := iteT h hb1
        refine f_seq ?_
        refine f_region ?_
        refine lv S (rn_move (S.tm rfl)) rfl ?_; clear S; intro a S
        refine lv S (rn_assign (S.tm rfl)) rfl ?_; clear S; intro a S
        refine l_done ?_
        replace S := S.nf (L' := []) (K' := [(2, .int .i64 y1)]) [] rfl ⟨rfl, trivial⟩
        refine then_n ?_
        refine wp_ret ?_
        refine blk_r ?_
        refine then_r ?_
        refine then_r ?_
        refine blk_r ?_
        refine then_r ?_
        refine then_r ?_
        subst h
        exact f_ret S Tryd.results37 rfl rfl
      · replace h := iteF h hb1
        refine wp_skip ?_
        refine blk_n ?_
        refine then_n ?_
        refine f_region ?_
        refine lv S (rn_add (S.tm rfl) rfl) rfl ?_; clear S; intro a S
        refine lv S (rn_move (S.tm rfl)) rfl ?_; clear S; intro a S
        refine l_done ?_
        replace S := S.nf (L' := []) (K' := [(3, .int .i64 0), (6, v_p_vals), (7, .int .i64 (p_vals.length : Int)), (8, .int .i64 (W ((i1 : Int) + 1)))]) [] rfl ⟨rfl, rfl, rfl, rfl, trivial⟩
        refine then_n ?_
        exact ⟨ys1, ⟨i1 + 1, ⟨_, (hd1).trans (List.append_cons _ _ _), by simp [hi1]⟩, h, S.nf [] rfl ⟨rfl, rfl, rfl, (congrArg (fun z => some (Value.int .i64 z)) (rng_next hd1 hi1 (slc_max hs_p_vals))), trivial⟩⟩, Nat.lt_succ_self _⟩
  clear S h; rintro a w2 ⟨h, S⟩; rw [hj1] at h; clear hj1 j1
  refine then_n ?_
  refine f_seq ?_
  refine f_region ?_
  refine lv S (rn_move (S.tm rfl)) rfl ?_; clear S; intro a S
  refine lv S (rn_assign (S.tm rfl)) rfl ?_; clear S; intro a S
  refine l_done ?_
  replace S := S.nf (L' := []) (K' := [(2, .int .i64 0)]) [] rfl ⟨rfl, trivial⟩
  refine then_n ?_
  refine wp_ret ?_
  subst h
  exact f_ret S Tryd.results37 rfl rfl
set_option maxRecDepth 20000 in
theorem swimmer_CheckMoves_ok (w : World) (v_p_l : Value) (p_l : List GMove) (hs_p_l : Slc (view w []) 3 v_p_l (p_l.map GMove.enc)) (r : Int) (h : swimmer_CheckMoves p_l = some r) :
    Calls Tryd.prog 16 [v_p_l].toArray w (Ret w [] fun τ v w' => v = .int .i64 r) := by
  refine f_enter [] [] Tryd.func16 rfl Tryd.ntmps16 rfl (by simp) (by simp [fps]) (by simp [fps]) fun a S => ?_
  unfold swimmer_CheckMoves at h
  replace S := S.nf (L' := []) (K' := [(0, v_p_l)]) [] rfl ⟨rfl, trivial⟩
  refine f_seq ?_
  refine f_region ?_
  refine lv S (rn_assign rfl) rfl ?_; clear S; intro a S
  refine l_done ?_
  replace S := S.nf (L' := []) (K' := [(0, v_p_l)]) [] rfl ⟨rfl, trivial⟩
  refine then_n ?_
  refine f_seq ?_
  refine f_seq ?_
  refine f_region ?_
  refine lv S (rn_move (S.tm rfl)) rfl ?_; clear S; intro a S
  refine lv S (rn_lenT sl_26 (S.tm rfl) (slc_len hs_p_l)) rfl ?_; clear S; intro a S
  refine lv S (rn_gtr (S.tm rfl) rfl) rfl ?_; clear S; intro a S
  refine l_done ?_
  replace S := S.nf (L' := []) (K' := [(0, v_p_l), (8, .bool (decide (1000 < (p_l.length : Int))))]) [] rfl ⟨rfl, rfl, trivial⟩
  refine then_n ?_
  refine f_cond (S.tm rfl) (fun hb1 => ?_) (fun hb1 => ?_)
  · replace h := iteT h hb1
    refine f_seq ?_
    refine f_region ?_
    refine lv S (rn_assign rfl) rfl ?_; clear S; intro a S
    refine l_done ?_
    replace S := S.nf (L' := []) (K' := [(2, .int .i64 2)]) [] rfl ⟨rfl, trivial⟩
    refine then_n ?_
    refine wp_ret ?_
    refine then_r ?_
    obtain rfl := Option.some.inj h
    exact f_ret S Tryd.results16 rfl rfl
  · replace h := iteF h hb1
    refine wp_skip ?_
    refine then_n ?_
    refine f_seq ?_
    refine f_seq ?_
    refine f_region ?_
    refine lv S (rn_move (S.tm rfl)) rfl ?_; clear S; intro a S
    refine lv S (rn_lenT sl_26 (S.tm rfl) (slc_len hs_p_l)) rfl ?_; clear S; intro a S
    refine lv S (rn_move rfl) rfl ?_; clear S; intro a S
    refine l_done ?_
    replace S := S.nf (L' := []) (K' := [(0, v_p_l), (9, v_p_l), (10, .int .i64 (p_l.length : Int)), (11, .int .i64 0)]) [] rfl ⟨rfl, rfl, rfl, rfl, trivial⟩
    refine then_n ?_
    obtain ⟨j1, hj1, h⟩ := joinE h
    refine f_join (fun a w' => j1 = some r ∧ Sx w [] nov [] [] 97 a w') ?_ ?_
    · refine wp_block ?_
      refine f_loop (fun (ys1 : List GMove) a w' => ∃ i1 : Nat, (∃ dn, p_l = dn ++ ys1 ∧ dn.length = i1) ∧ swimmer_CheckMoves_l1 p_l j1 ys1 i1 = some r ∧ Sx w [] nov [] [(0, v_p_l), (9, v_p_l), (10, .int .i64 (p_l.length : Int)), (11, .int .i64 (i1 : Int))] 97 a w') List.length p_l ⟨0, ⟨[], rfl, rfl⟩, h, S.nf [] rfl ⟨rfl, rfl, rfl, rfl, trivial⟩⟩ ?_
      clear S h; rintro ys1 a w1 ⟨i1, ⟨dn, hd1, hi1⟩, h, S⟩
      cases ys1 with
      | nil =>
        rw [swimmer_CheckMoves_l1.eq_1] at h
        refine f_seq ?_
        refine f_region ?_
        refine lv S (rn_lss (S.tm rfl) (S.tm rfl)) rfl ?_; clear S; intro a S
        refine l_done ?_
        replace S := S.nf (L' := []) (K' := [(0, v_p_l), (9, v_p_l), (10, .int .i64 (p_l.length : Int)), (11, .int .i64 (i1 : Int)), (12, .bool (decide ((i1 : Int) < (p_l.length : Int))))]) [] rfl ⟨rfl, rfl, rfl, rfl, rfl, trivial⟩
        refine then_n ?_
        refine f_seq ?_
        refine wp_cond_false ((S.tm rfl).trans (congrArg Value.bool (rng_nil hd1 hi1))) ?_
        refine wp_exit ?_
        refine then_x ?_
        refine then_x ?_
        refine x_same ?_
        refine then_n ?_
        exact ⟨h, S.nf [] rfl trivial⟩
      | cons y1 ys1 =>
        rw [swimmer_CheckMoves_l1.eq_2] at h
        refine f_seq ?_
        refine f_region ?_
        refine lv S (rn_lss (S.tm rfl) (S.tm rfl)) rfl ?_; clear S; intro a S
        refine l_done ?_
        replace S := S.nf (L' := []) (K' := [(0, v_p_l), (9, v_p_l), (10, .int .i64 (p_l.length : Int)), (11, .int .i64 (i1 : Int)), (12, .bool (decide ((i1 : Int) < (p_l.length : Int))))]) [] rfl ⟨rfl, rfl, rfl, rfl, rfl, trivial⟩
        refine then_n ?_
        refine f_seq ?_
        refine wp_cond_true ((S.tm rfl).trans (congrArg Value.bool (rng_cons hd1 hi1))) ?_
        refine wp_skip ?_
        refine then_n ?_
        refine f_seq ?_
        refine wp_block ?_
        refine f_seq ?_
        refine f_region ?_
        refine lv S (rn_move (S.tm rfl)) rfl ?_; clear S; intro a S
        obtain ⟨b1, o1, hm1, hr1⟩ := rn_indexT (a := a) (x := .tmp 9) (y := .tmp 11) (ty := 0) sl_26 hs_p_l (get_mid hd1 hi1) rfl (S.tm rfl) (S.tm rfl)
        refine lv S (hr1 _) rfl ?_; clear S; intro a S
        clear hr1
        refine lv S (rn_ldA Tryd.isAgg59 Tryd.sizeOf59 (off := o1) (o := 0) (part := [.string y1.Who, .string y1.Club, .int .i64 y1.Day]) rfl rfl (S.tm rfl) (hm1.at S.emb0)) rfl ?_; clear S; intro a S
        refine l_alloc S Tryd.zeroValue59 (cs := [.string k_empty, .string k_empty, .int .i64 0]) rfl rfl ?_; clear S; intro a w3 b2 hz1 hk1 S
        refine lv S (rn_assign (S.tm rfl)) rfl ?_; clear S; intro a S
        refine l_store S (S.tm rfl) (S.tm rfl) (i := 0) (off := 0) rfl Tryd.sizeOf59 (vs := [.string y1.Who, .string y1.Club, .int .i64 y1.Day]) rfl rfl rfl rfl ?_; clear S; intro w4 hk2 S
        refine l_done ?_
        replace S := S.nf (L' := [.blk b2 [.string y1.Who, .string y1.Club, .int .i64 y1.Day] 59]) (K' := [(0, v_p_l), (3, .int .i64 (i1 : Int)), (4, .pointer (some ⟨b2, 0, none⟩)), (9, v_p_l), (10, .int .i64 (p_l.length : Int)), (11, .int .i64 (i1 : Int))]) [true] rfl ⟨rfl, rfl, rfl, rfl, rfl, rfl, trivial⟩
        refine then_n ?_
        refine f_seq ?_
        refine d_region [] ([]) Tryd.mixed S rfl (by kernel_rfl) ?_; clear S; intro w5 hk3 hsel S
        refine d_rest [0, 1, 2, 3, 4, 5, 6, 7, 8, 9, 10, 11, 12, 13] hsel (by kernel_rfl) rfl ?_
        clear hsel
        refine s_lv S rfl (rn_move (S.tm rfl)) rfl ?_; clear S; intro a S
        refine s_lv S rfl (rn_eql (S.tm rfl) rfl) rfl ?_; clear S; intro a S
        refine s_lv S rfl (rn_move (S.tm rfl)) rfl ?_; clear S; intro a S
        obtain ⟨j2, hj2, h⟩ := joinE h
        refine s_cutm 10 (fun a w' => ∃ c1, j2 c1 = some r ∧ Keep [] w5 w' ∧ Sx w [] nov [.blk b2 [.string y1.Who, .string y1.Club, .int .i64 y1.Day] 59] [(0, v_p_l), (3, .int .i64 (i1 : Int)), (4, .pointer (some ⟨b2, 0, none⟩)), (9, v_p_l), (10, .int .i64 (p_l.length : Int)), (11, .int .i64 (i1 : Int)), (28, .bool c1)] 97 a w') ?_ ?_
        · rcases Bool.eq_false_or_eq_true (decide ((i1 : Int) = 0)) with hb2 | hb2
          · replace h := iteT h hb2
            refine s_skip S rfl rfl rfl rfl (neq_t hb2) rfl ?_ rfl; clear S; intro a S
            refine s_skip S rfl rfl rfl rfl (neq_t hb2) rfl ?_ rfl; clear S; intro a S
            refine s_skip S rfl rfl rfl rfl (neq_t hb2) rfl ?_ rfl; clear S; intro a S
            refine s_skip S rfl rfl rfl rfl (neq_t hb2) rfl ?_ rfl; clear S; intro a S
            refine s_skip S rfl rfl rfl rfl (neq_t hb2) rfl ?_ rfl; clear S; intro a S
            refine s_skip S rfl rfl rfl rfl (neq_t hb2) rfl ?_ rfl; clear S; intro a S
            refine s_skip S rfl rfl rfl rfl (neq_t hb2) rfl ?_ rfl; clear S; intro a S
            refine s_skip S rfl rfl rfl rfl (neq_t hb2) rfl ?_ rfl; clear S; intro a S
            refine s_skip S rfl rfl rfl rfl (neq_t hb2) rfl ?_ rfl; clear S; intro a S
            refine s_lv S rfl (rn_or_t true hb2 (S.tm rfl) rfl) rfl ?_; clear S; intro a S
            refine s_done ?_
            exact ⟨_, h, Keep.refl _ _, S.nf [true] rfl ⟨rfl, rfl, rfl, rfl, rfl, rfl, rfl, trivial⟩⟩
          · replace h := iteF h hb2
            refine s_want S rfl rfl rfl rfl hb2 ?_
            refine s_lv0 S (rn_move (S.tm rfl)) rfl ?_; clear S; intro a S
            refine s_want S rfl rfl rfl rfl hb2 ?_
            refine s_lv0 S (rn_move (S.tm rfl)) rfl ?_; clear S; intro a S
            refine s_want S rfl rfl rfl rfl hb2 ?_
            refine s_lv0 S (rn_sub (S.tm rfl) rfl) rfl ?_; clear S; intro a S
            refine s_want S rfl rfl rfl rfl hb2 ?_
            obtain ⟨hc1, h⟩ := chkE h
            obtain ⟨b3, o2, hm2, hr2⟩ := rn_indexT (a := a) (x := .tmp 19) (y := .tmp 21) (ty := 0) sl_26 hs_p_l (inB_get hc1).1 (inB_get hc1).2 (S.tm rfl) (S.tm rfl)
            refine s_lv0 S (hr2 _) rfl ?_; clear S; intro a S
            clear hr2
            refine s_want S rfl rfl rfl rfl hb2 ?_
            refine s_lv0 S (rn_fld fa_59_0 (S.tm rfl)) rfl ?_; clear S; intro a S
            refine s_want S rfl rfl rfl rfl hb2 ?_
            refine s_lv0 S (rn_ld Tryd.isAgg9 (off := o2) (o := 0) (S.tm rfl) (hm2.at S.emb0) rfl) rfl ?_; clear S; intro a S
            refine s_want S rfl rfl rfl rfl hb2 ?_
            refine s_lv0 S (rn_fld fa_59_0 (S.tm rfl)) rfl ?_; clear S; intro a S
            refine s_want S rfl rfl rfl rfl hb2 ?_
            refine s_lv0 S (rn_load Tryd.isAgg9 (S.tm rfl) (S.cell (i := 0) rfl rfl)) rfl ?_; clear S; intro a S
            refine s_want S rfl rfl rfl rfl hb2 ?_
            refine s_lv0 S (rn_sneq (S.tm rfl) (S.tm rfl)) rfl ?_; clear S; intro a S
            refine s_lv S rfl (rn_or_f hb2 (S.tm rfl) (S.tm rfl)) rfl ?_; clear S; intro a S
            refine s_done ?_
            exact ⟨_, h, Keep.refl _ _, S.nf [true] rfl ⟨rfl, rfl, rfl, rfl, rfl, rfl, rfl, trivial⟩⟩
        clear S h; rintro a w6 ⟨c1, h, hk4, S⟩; rw [hj2] at h; clear hj2 j2
        refine s_lv S rfl (rn_assign (S.tm rfl)) rfl ?_; clear S; intro a S
        refine s_done ?_
        replace S := S.nf (L' := [.blk b2 [.string y1.Who, .string y1.Club, .int .i64 y1.Day] 59]) (K' := [(0, v_p_l), (3, .int .i64 (i1 : Int)), (4, .pointer (some ⟨b2, 0, none⟩)), (5, .bool c1), (9, v_p_l), (10, .int .i64 (p_l.length : Int)), (11, .int .i64 (i1 : Int))]) [true] rfl ⟨rfl, rfl, rfl, rfl, rfl, rfl, rfl, trivial⟩
        refine then_n ?_
        refine wp_block ?_
        refine f_seq ?_
        refine f_region ?_
        refine lv S (rn_fld fa_59_0 (S.tm rfl)) rfl ?_; clear S; intro a S
        refine lv S (rn_load Tryd.isAgg9 (S.tm rfl) (S.cell (i := 0) rfl rfl)) rfl ?_; clear S; intro a S
        obtain ⟨r1, hr3, h⟩ := bindE h
        refine l_enter S (fun _ => run_call (vs := [.string y1.Who]) ⟨(S.tm rfl), trivial⟩ Tryd.call35) (words_IsKey_ok _ y1.Who _ hr3) rfl ?_; clear S; intro v1 a w7 hv1 hk5 hn1 S
        subst hv1
        refine lv S (rn_not (S.tm rfl)) rfl ?_; clear S; intro a S
        refine lv S (rn_move (S.tm rfl)) rfl ?_; clear S; intro a S
        obtain ⟨j3, hj3, h⟩ := joinE h
        refine f_cutm 10 (fun a w' => ∃ c2, j3 c2 = some r ∧ Keep [] w7 w' ∧ Sx w [] nov [.blk b2 [.string y1.Who, .string y1.Club, .int .i64 y1.Day] 59] [(0, v_p_l), (3, .int .i64 (i1 : Int)), (4, .pointer (some ⟨b2, 0, none⟩)), (5, .bool c1), (9, v_p_l), (10, .int .i64 (p_l.length : Int)), (11, .int .i64 (i1 : Int)), (44, .bool c2)] 97 a w') ?_ ?_
        · rcases Bool.eq_false_or_eq_true (!r1) with hb3 | hb3
          · replace h := iteT h hb3
            refine l_skip S rfl rfl rfl (neq_t hb3) rfl ?_ rfl; clear S; intro a S
            refine l_skip S rfl rfl rfl (neq_t hb3) rfl ?_ rfl; clear S; intro a S
            refine l_skip S rfl rfl rfl (neq_t hb3) rfl ?_ rfl; clear S; intro a S
            refine l_skip S rfl rfl rfl (neq_t hb3) rfl ?_ rfl; clear S; intro a S
            refine l_skipU S rfl rfl rfl rfl ?_; clear S; intro a S
            refine l_skipU S rfl rfl rfl rfl ?_; clear S; intro a S
            refine l_skipU S rfl rfl rfl rfl ?_; clear S; intro a S
            refine l_skipU S rfl rfl rfl rfl ?_; clear S; intro a S
            refine l_skip S rfl rfl rfl (neq_t hb3) rfl ?_ rfl; clear S; intro a S
            refine lv S (rn_or_t true hb3 (S.tm rfl) rfl) rfl ?_; clear S; intro a S
            refine l_done ?_
            refine then_n ?_
            exact ⟨_, h, Keep.refl _ _, S.nf [true] rfl ⟨rfl, rfl, rfl, rfl, rfl, rfl, rfl, rfl, trivial⟩⟩
          · replace h := iteF h hb3
            refine l_want S rfl rfl rfl hb3 ?_
            refine lv S (rn_fld fa_59_1 (S.tm rfl)) rfl ?_; clear S; intro a S
            refine l_want S rfl rfl rfl hb3 ?_
            refine lv S (rn_load Tryd.isAgg9 (S.tm rfl) (S.cell (i := 0) rfl rfl)) rfl ?_; clear S; intro a S
            refine l_want S rfl rfl rfl hb3 ?_
            refine lv S (rn_sneq (S.tm rfl) rfl) rfl ?_; clear S; intro a S
            refine l_want S rfl rfl rfl hb3 ?_
            refine lv S (rn_move (S.tm rfl)) rfl ?_; clear S; intro a S
            obtain ⟨j4, hj4, h⟩ := joinE h
            refine f_cutm 5 (fun a w' => ∃ c3, j4 c3 = some r ∧ Keep [] w7 w' ∧ Sx w [] nov [.blk b2 [.string y1.Who, .string y1.Club, .int .i64 y1.Day] 59] [(0, v_p_l), (3, .int .i64 (i1 : Int)), (4, .pointer (some ⟨b2, 0, none⟩)), (5, .bool c1), (9, v_p_l), (10, .int .i64 (p_l.length : Int)), (11, .int .i64 (i1 : Int)), (34, .bool (!r1)), (35, .pointer (some ⟨b2, 1, none⟩)), (36, .string y1.Club), (37, .bool (!decide (y1.Club = k_empty))), (38, .bool (!decide (y1.Club = k_empty))), (43, .bool c3)] 97 a w') ?_ ?_
            · rcases Bool.eq_false_or_eq_true (!decide (y1.Club = k_empty)) with hb4 | hb4
              · replace h := iteT h hb4
                refine l_want S rfl rfl rfl hb4 ?_
                refine lv S (rn_fld fa_59_1 (S.tm rfl)) rfl ?_; clear S; intro a S
                refine l_want S rfl rfl rfl hb4 ?_
                refine lv S (rn_load Tryd.isAgg9 (S.tm rfl) (S.cell (i := 0) rfl rfl)) rfl ?_; clear S; intro a S
                refine l_want S rfl rfl rfl hb4 ?_
                obtain ⟨r2, hr4, h⟩ := bindE h
                refine l_enter S (fun _ => run_call (vs := [.string y1.Club]) ⟨(S.tm rfl), trivial⟩ Tryd.call35) (words_IsKey_ok _ y1.Club _ hr4) rfl ?_; clear S; intro v2 a w10 hv2 hk6 hn2 S
                subst hv2
                refine l_want S rfl rfl rfl hb4 ?_
                refine lv S (rn_not (S.tm rfl)) rfl ?_; clear S; intro a S
                refine l_want S rfl rfl rfl hb3 ?_
                refine lv S (rn_and_t hb4 (S.tm rfl) (S.tm rfl)) rfl ?_; clear S; intro a S
                refine l_done ?_
                refine then_n ?_
                exact ⟨_, h, hk6, S.nf [true] rfl ⟨rfl, rfl, rfl, rfl, rfl, rfl, rfl, rfl, rfl, rfl, rfl, rfl, rfl, trivial⟩⟩
              · replace h := iteF h hb4
                refine l_skip S rfl rfl rfl (neq_f hb4) rfl ?_ rfl; clear S; intro a S
                refine l_skip S rfl rfl rfl (neq_f hb4) rfl ?_ rfl; clear S; intro a S
                refine l_skip S rfl rfl rfl (neq_f hb4) rfl ?_ rfl; clear S; intro a S
                refine l_skip S rfl rfl rfl (neq_f hb4) rfl ?_ rfl; clear S; intro a S
                refine l_want S rfl rfl rfl hb3 ?_
                refine lv S (rn_and_f true hb4 (S.tm rfl) rfl) rfl ?_; clear S; intro a S
                refine l_done ?_
                refine then_n ?_
                exact ⟨_, h, Keep.refl _ _, S.nf [true] rfl ⟨rfl, rfl, rfl, rfl, rfl, rfl, rfl, rfl, rfl, rfl, rfl, rfl, rfl, trivial⟩⟩
            clear S h; rintro a w9 ⟨c3, h, hk7, S⟩; rw [hj4] at h; clear hj4 j4
            refine lv S (rn_or_f hb3 (S.tm rfl) (S.tm rfl)) rfl ?_; clear S; intro a S
            refine l_done ?_
            refine then_n ?_
            exact ⟨_, h, hk7, S.nf [true] rfl ⟨rfl, rfl, rfl, rfl, rfl, rfl, rfl, rfl, trivial⟩⟩
        clear S h; rintro a w8 ⟨c2, h, hk8, S⟩; rw [hj3] at h; clear hj3 j3
        refine lv S (rn_assign (S.tm rfl)) rfl ?_; clear S; intro a S
        refine l_done ?_
        replace S := S.nf (L' := [.blk b2 [.string y1.Who, .string y1.Club, .int .i64 y1.Day] 59]) (K' := [(0, v_p_l), (3, .int .i64 (i1 : Int)), (4, .pointer (some ⟨b2, 0, none⟩)), (5, .bool c1), (9, v_p_l), (10, .int .i64 (p_l.length : Int)), (11, .int .i64 (i1 : Int)), (29, .bool c2)]) [true] rfl ⟨rfl, rfl, rfl, rfl, rfl, rfl, rfl, rfl, trivial⟩
        refine then_n ?_
        refine f_cond (S.tm rfl) (fun hb5 => ?_) (fun hb5 => ?_)
        · replace h := iteT h hb5
          refine f_seq ?_
          refine f_region ?_
          refine lv S (rn_assign rfl) rfl ?_; clear S; intro a S
          refine l_done ?_
          replace S := S.nf (L' := []) (K' := [(2, .int .i64 5)]) [false] rfl ⟨rfl, trivial⟩
          refine then_n ?_
          refine wp_ret ?_
          refine blk_r ?_
          refine blk_r ?_
          refine then_r ?_
          refine then_r ?_
          refine blk_r ?_
          refine then_r ?_
          refine then_r ?_
          obtain rfl := Option.some.inj h
          exact f_ret S Tryd.results16 rfl rfl
        · replace h := iteF h hb5
          refine f_seq ?_
          refine f_region ?_
          refine lv S (rn_fld fa_59_2 (S.tm rfl)) rfl ?_; clear S; intro a S
          refine lv S (rn_load Tryd.isAgg3 (S.tm rfl) (S.cell (i := 0) rfl rfl)) rfl ?_; clear S; intro a S
          refine l_enter S (fun _ => run_call (vs := [.int .i64 y1.Day]) ⟨(S.tm rfl), trivial⟩ Tryd.call36) (swimmer_isDay_ok _ y1.Day _ rfl) rfl ?_; clear S; intro v3 a w11 hv3 hk9 hn3 S
          subst hv3
          refine lv S (rn_not (S.tm rfl)) rfl ?_; clear S; intro a S
          refine lv S (rn_assign (S.tm rfl)) rfl ?_; clear S; intro a S
          refine l_done ?_
          replace S := S.nf (L' := [.blk b2 [.string y1.Who, .string y1.Club, .int .i64 y1.Day] 59]) (K' := [(0, v_p_l), (3, .int .i64 (i1 : Int)), (4, .pointer (some ⟨b2, 0, none⟩)), (5, .bool c1), (9, v_p_l), (10, .int .i64 (p_l.length : Int)), (11, .int .i64 (i1 : Int)), (45, .bool (!(swimmer_isDay y1.Day)))]) [true] rfl ⟨rfl, rfl, rfl, rfl, rfl, rfl, rfl, rfl, trivial⟩
          refine then_n ?_
          refine f_cond (S.tm rfl) (fun hb6 => ?_) (fun hb6 => ?_)
          · replace h := iteT h hb6
            refine f_seq ?_
            refine f_region ?_
            refine lv S (rn_assign rfl) rfl ?_; clear S; intro a S
            refine l_done ?_
            replace S := S.nf (L' := []) (K' := [(2, .int .i64 1)]) [false] rfl ⟨rfl, trivial⟩
            refine then_n ?_
            refine wp_ret ?_
            refine blk_r ?_
            refine blk_r ?_
            refine then_r ?_
            refine then_r ?_
            refine blk_r ?_
            refine then_r ?_
            refine then_r ?_
            obtain rfl := Option.some.inj h
            exact f_ret S Tryd.results16 rfl rfl
          · replace h := iteF h hb6
            refine f_seq ?_
            obtain ⟨j5, hj5, h⟩ := joinE h
            refine f_join (fun a w' => ∃ x1 : Bool, j5 x1 = some r ∧ Sx w [] nov [.blk b2 [.string y1.Who, .string y1.Club, .int .i64 y1.Day] 59] [(0, v_p_l), (3, .int .i64 (i1 : Int)), (4, .pointer (some ⟨b2, 0, none⟩)), (5, .bool c1), (9, v_p_l), (10, .int .i64 (p_l.length : Int)), (11, .int .i64 (i1 : Int)), (50, .bool x1)] 97 a w') ?_ ?_
            · rcases Bool.eq_false_or_eq_true (decide (0 < (i1 : Int))) with hb7 | hb7
              · replace h := iteT h hb7
                obtain ⟨hc2, h⟩ := chkE h
                obtain ⟨hc3, h⟩ := chkE h
                refine d_region [] ([]) Tryd.mixed S rfl (by kernel_rfl) ?_; clear S; intro w17 hk14 hsel S
                refine d_quiet 0 S hsel rfl rfl rfl (by kernel_rfl) (by kernel_rfl) rfl (fun _ hw => (rn_move (S.tm rfl))) ?_; clear S; intro a S
                refine d_quiet 1 S hsel rfl rfl rfl (by kernel_rfl) (by kernel_rfl) rfl (fun _ hw => (rn_gtr (S.tm rfl) rfl)) ?_; clear S; intro a S
                refine d_quiet 2 S hsel rfl rfl rfl (by kernel_rfl) (by kernel_rfl) rfl (fun _ hw => (rn_move (S.tm rfl))) ?_; clear S; intro a S
                refine d_quiet_g 3 S hsel rfl rfl rfl rfl hb7 rfl rfl (by kernel_rfl) (by kernel_rfl) rfl (fun _ hw => (rn_move (S.tm rfl))) ?_; clear S; intro a S
                refine d_quiet_g 4 S hsel rfl rfl rfl rfl hb7 rfl rfl (by kernel_rfl) (by kernel_rfl) rfl (fun _ hw => (rn_move (S.tm rfl))) ?_; clear S; intro a S
                refine d_quiet_g 5 S hsel rfl rfl rfl rfl hb7 rfl rfl (by kernel_rfl) (by kernel_rfl) rfl (fun _ hw => (rn_sub (S.tm rfl) rfl)) ?_; clear S; intro a S
                obtain ⟨b7, o5, hm5, hr7⟩ := rn_indexT (a := a) (x := .tmp 54) (y := .tmp 56) (ty := 0) sl_26 (hs_p_l.mono (S.le_arg nil_sub)) (inB_get hc2).1 (inB_get hc2).2 (S.tm rfl) (S.tm rfl)
                refine d_quiet_g 6 S hsel rfl rfl rfl rfl hb7 rfl rfl (by kernel_rfl) (by kernel_rfl) rfl (fun _ hw => hr7 _) ?_; clear S; intro a S
                clear hr7
                refine d_quiet_g 7 S hsel rfl rfl rfl rfl hb7 rfl rfl (by kernel_rfl) (by kernel_rfl) rfl (fun _ hw => (rn_fld fa_59_0 (S.tm rfl))) ?_; clear S; intro a S
                refine d_quiet_g 8 S hsel rfl rfl rfl rfl hb7 rfl rfl (by kernel_rfl) (by kernel_rfl) rfl (fun _ hw => (rn_ld Tryd.isAgg9 (off := o5) (o := 0) (S.tm rfl) (hm5.kept hw) rfl)) ?_; clear S; intro a S
                refine d_quiet_g 9 S hsel rfl rfl rfl rfl hb7 rfl rfl (by kernel_rfl) (by kernel_rfl) rfl (fun _ hw => (rn_fld fa_59_0 (S.tm rfl))) ?_; clear S; intro a S
                refine d_quiet_g 10 S hsel rfl rfl rfl rfl hb7 rfl rfl (by kernel_rfl) (by kernel_rfl) rfl (fun _ hw => (rn_ld Tryd.isAgg9 (off := 0) (o := 0) (S.tm rfl) ((S.blk_mem (i := 0) (cells := [.string y1.Who, .string y1.Club, .int .i64 y1.Day]) (b := b2) (T := 59) rfl (ne_nil (e' := .blk b2 [.string y1.Who, .string y1.Club, .int .i64 y1.Day] 59))).kept hw) rfl)) ?_; clear S; intro a S
                refine d_quiet_g 12 S hsel rfl rfl rfl rfl hb7 rfl rfl (by kernel_rfl) (by kernel_rfl) rfl (fun _ hw => (rn_move (S.tm rfl))) ?_; clear S; intro a S
                refine d_quiet_g 13 S hsel rfl rfl rfl rfl hb7 rfl rfl (by kernel_rfl) (by kernel_rfl) rfl (fun _ hw => (rn_move (S.tm rfl))) ?_; clear S; intro a S
                refine d_quiet_g 14 S hsel rfl rfl rfl rfl hb7 rfl rfl (by kernel_rfl) (by kernel_rfl) rfl (fun _ hw => (rn_sub (S.tm rfl) rfl)) ?_; clear S; intro a S
                obtain ⟨b8, o6, hm6, hr8⟩ := rn_indexT (a := a) (x := .tmp 63) (y := .tmp 65) (ty := 0) sl_26 (hs_p_l.mono (S.le_arg nil_sub)) (inB_get hc3).1 (inB_get hc3).2 (S.tm rfl) (S.tm rfl)
                refine d_quiet_g 15 S hsel rfl rfl rfl rfl hb7 rfl rfl (by kernel_rfl) (by kernel_rfl) rfl (fun _ hw => hr8 _) ?_; clear S; intro a S
                clear hr8
                refine d_quiet_g 16 S hsel rfl rfl rfl rfl hb7 rfl rfl (by kernel_rfl) (by kernel_rfl) rfl (fun _ hw => (rn_fld fa_59_2 (S.tm rfl))) ?_; clear S; intro a S
                refine d_quiet_g 17 S hsel rfl rfl rfl rfl hb7 rfl rfl (by kernel_rfl) (by kernel_rfl) rfl (fun _ hw => (rn_ld Tryd.isAgg3 (off := o6) (o := 2) (S.tm rfl) (hm6.kept hw) rfl)) ?_; clear S; intro a S
                refine d_quiet_g 18 S hsel rfl rfl rfl rfl hb7 rfl rfl (by kernel_rfl) (by kernel_rfl) rfl (fun _ hw => (rn_fld fa_59_2 (S.tm rfl))) ?_; clear S; intro a S
                refine d_quiet_g 19 S hsel rfl rfl rfl rfl hb7 rfl rfl (by kernel_rfl) (by kernel_rfl) rfl (fun _ hw => (rn_ld Tryd.isAgg3 (off := 0) (o := 2) (S.tm rfl) ((S.blk_mem (i := 0) (cells := [.string y1.Who, .string y1.Club, .int .i64 y1.Day]) (b := b2) (T := 59) rfl (ne_nil (e' := .blk b2 [.string y1.Who, .string y1.Club, .int .i64 y1.Day] 59))).kept hw) rfl)) ?_; clear S; intro a S
                refine d_loud1 11 (by kernel_rfl) rfl ?_
                refine l_want S rfl rfl rfl hb7 ?_
                refine l_enter S (fun _ => run_call (vs := [.string ((nth p_l (W ((i1 : Int) - 1))).Who), .string y1.Who]) ⟨(S.tm rfl), (S.tm rfl), trivial⟩ Tryd.call38) (strings_Compare_ok _ ((nth p_l (W ((i1 : Int) - 1))).Who) y1.Who _ rfl) rfl ?_; clear S; intro v7 a w18 hv7 hk15 hn7 S
                subst hv7
                refine l_done ?_
                refine d_next hk15 ?_
                refine d_loud1 20 (by kernel_rfl) rfl ?_
                refine l_want S rfl rfl rfl hb7 ?_
                refine l_enter S (fun _ => run_call (vs := [.int .i64 ((nth p_l (W ((i1 : Int) - 1))).Day), .int .i64 y1.Day]) ⟨(S.tm rfl), (S.tm rfl), trivial⟩ Tryd.call39) (cmp_Compare_int_ok _ ((nth p_l (W ((i1 : Int) - 1))).Day) y1.Day _ rfl) rfl ?_; clear S; intro v8 a w19 hv8 hk16 hn8 S
                subst hv8
                refine l_done ?_
                refine d_next hk16 ?_
                refine d_loud1 21 (by kernel_rfl) rfl ?_
                refine l_want S rfl rfl rfl hb7 ?_
                refine l_buildSlice S Tryd.underlying22 Tryd.sizeOf3 Tryd.zeroValue3 rfl rfl (pv := [(0, .int .i64 (strings_Compare ((nth p_l (W ((i1 : Int) - 1))).Who) y1.Who)), (1, .int .i64 (cmp_Compare_int ((nth p_l (W ((i1 : Int) - 1))).Day) y1.Day))]) ⟨rfl, (S.tm rfl), rfl, (S.tm rfl), trivial⟩ (cs := [.int .i64 (strings_Compare ((nth p_l (W ((i1 : Int) - 1))).Who) y1.Who), .int .i64 (cmp_Compare_int ((nth p_l (W ((i1 : Int) - 1))).Day) y1.Day)]) (by kernel_rfl) rfl ?_; clear S; intro a w20 b9 hz3 hk17 S
                refine l_done ?_
                refine d_next hk17 ?_
                refine d_loud1 22 (by kernel_rfl) rfl ?_
                refine l_want S rfl rfl rfl hb7 ?_
                refine l_enter S (fun _ => run_call (vs := [.slice (some ⟨b9, 0, none⟩) 2 2]) ⟨(S.tm rfl), trivial⟩ Tryd.call37) (cmp_Or_int_ok _ (.slice (some ⟨b9, 0, none⟩) 2 2) [(strings_Compare ((nth p_l (W ((i1 : Int) - 1))).Who) y1.Who), (cmp_Compare_int ((nth p_l (W ((i1 : Int) - 1))).Day) y1.Day)] (lit_slcT enc_int S (i := 0) rfl rfl rfl rfl ((ne_nil (e' := .blk b9 [.int .i64 (strings_Compare ((nth p_l (W ((i1 : Int) - 1))).Who) y1.Who), .int .i64 (cmp_Compare_int ((nth p_l (W ((i1 : Int) - 1))).Day) y1.Day)] 3)) _ rfl)) _ rfl) rfl ?_; clear S; intro v9 a w21 hv9 hk18 hn9 S
                subst hv9
                refine l_done ?_
                refine d_next hk18 ?_
                refine d_rest [23, 24, 25] hsel (by kernel_rfl) rfl ?_
                clear hsel
                refine s_want S rfl rfl rfl rfl hb7 ?_
                refine s_lv0 S (rn_geq (S.tm rfl) rfl) rfl ?_; clear S; intro a S
                refine s_lv S rfl (rn_pick_b hb7 (S.tm rfl) (S.tm rfl)) rfl ?_; clear S; intro a S
                refine s_lv S rfl (rn_assign (S.tm rfl)) rfl ?_; clear S; intro a S
                refine s_done ?_
                replace S := S.nf (L' := [.blk b9 [.int .i64 (strings_Compare ((nth p_l (W ((i1 : Int) - 1))).Who) y1.Who), .int .i64 (cmp_Compare_int ((nth p_l (W ((i1 : Int) - 1))).Day) y1.Day)] 3, .blk b2 [.string y1.Who, .string y1.Club, .int .i64 y1.Day] 59]) (K' := [(0, v_p_l), (3, .int .i64 (i1 : Int)), (4, .pointer (some ⟨b2, 0, none⟩)), (5, .bool c1), (9, v_p_l), (10, .int .i64 (p_l.length : Int)), (11, .int .i64 (i1 : Int)), (50, .bool (decide (0 ≤ (cmp_Or_int [(strings_Compare ((nth p_l (W ((i1 : Int) - 1))).Who) y1.Who), (cmp_Compare_int ((nth p_l (W ((i1 : Int) - 1))).Day) y1.Day)])))), (54, v_p_l), (55, .int .i64 (i1 : Int)), (56, .int .i64 (W ((i1 : Int) - 1))), (57, .pointer (some ⟨b7, o5, none⟩)), (58, .pointer (some ⟨b7, o5, none⟩)), (59, .string ((nth p_l (W ((i1 : Int) - 1))).Who)), (60, .pointer (some ⟨b2, 0, none⟩)), (61, .string y1.Who), (62, .int .i64 (strings_Compare ((nth p_l (W ((i1 : Int) - 1))).Who) y1.Who)), (63, v_p_l), (64, .int .i64 (i1 : Int)), (65, .int .i64 (W ((i1 : Int) - 1))), (66, .pointer (some ⟨b8, o6, none⟩)), (67, .pointer (some ⟨b8, o6 + 2, none⟩)), (68, .int .i64 ((nth p_l (W ((i1 : Int) - 1))).Day)), (69, .pointer (some ⟨b2, 2, none⟩)), (70, .int .i64 y1.Day), (71, .int .i64 (cmp_Compare_int ((nth p_l (W ((i1 : Int) - 1))).Day) y1.Day)), (72, .slice (some ⟨b9, 0, none⟩) 2 2), (73, .int .i64 (cmp_Or_int [(strings_Compare ((nth p_l (W ((i1 : Int) - 1))).Who) y1.Who), (cmp_Compare_int ((nth p_l (W ((i1 : Int) - 1))).Day) y1.Day)])), (74, .bool (decide (0 ≤ (cmp_Or_int [(strings_Compare ((nth p_l (W ((i1 : Int) - 1))).Who) y1.Who), (cmp_Compare_int ((nth p_l (W ((i1 : Int) - 1))).Day) y1.Day)]))))]) [true, true] rfl ⟨rfl, rfl, rfl, rfl, rfl, rfl, rfl, rfl, rfl, rfl, rfl, rfl, rfl, rfl, rfl, rfl, rfl, rfl, rfl, rfl, rfl, rfl, rfl, rfl, rfl, rfl, rfl, rfl, rfl, trivial⟩
                refine then_n ?_
                exact ⟨decide (0 ≤ (cmp_Or_int [(strings_Compare ((nth p_l (W ((i1 : Int) - 1))).Who) y1.Who), (cmp_Compare_int ((nth p_l (W ((i1 : Int) - 1))).Day) y1.Day)])), h, S.nf [false, true] rfl ⟨rfl, rfl, rfl, rfl, rfl, rfl, rfl, rfl, trivial⟩⟩
              · replace h := iteF h hb7
                refine d_region [] ([]) Tryd.mixed S rfl (by kernel_rfl) ?_; clear S; intro w22 hk19 hsel S
                refine d_rest [0, 1, 2, 3, 4, 5, 6, 7, 8, 9, 10, 11, 12, 13, 14, 15, 16, 17, 18, 19, 20, 21, 22, 23, 24, 25] hsel (by kernel_rfl) rfl ?_
                clear hsel
                refine s_lv S rfl (rn_move (S.tm rfl)) rfl ?_; clear S; intro a S
                refine s_lv S rfl (rn_gtr (S.tm rfl) rfl) rfl ?_; clear S; intro a S
                refine s_lv S rfl (rn_move (S.tm rfl)) rfl ?_; clear S; intro a S
                refine s_skip S rfl rfl rfl rfl (neq_f hb7) rfl ?_ rfl; clear S; intro a S
                refine s_skip S rfl rfl rfl rfl (neq_f hb7) rfl ?_ rfl; clear S; intro a S
                refine s_skip S rfl rfl rfl rfl (neq_f hb7) rfl ?_ rfl; clear S; intro a S
                refine s_skip S rfl rfl rfl rfl (neq_f hb7) rfl ?_ rfl; clear S; intro a S
                refine s_skip S rfl rfl rfl rfl (neq_f hb7) rfl ?_ rfl; clear S; intro a S
                refine s_skip S rfl rfl rfl rfl (neq_f hb7) rfl ?_ rfl; clear S; intro a S
                refine s_skip S rfl rfl rfl rfl (neq_f hb7) rfl ?_ rfl; clear S; intro a S
                refine s_skip S rfl rfl rfl rfl (neq_f hb7) rfl ?_ rfl; clear S; intro a S
                refine s_skip S rfl rfl rfl rfl (neq_f hb7) rfl ?_ rfl; clear S; intro a S
                refine s_skip S rfl rfl rfl rfl (neq_f hb7) rfl ?_ rfl; clear S; intro a S
                refine s_skip S rfl rfl rfl rfl (neq_f hb7) rfl ?_ rfl; clear S; intro a S
                refine s_skip S rfl rfl rfl rfl (neq_f hb7) rfl ?_ rfl; clear S; intro a S
                refine s_skip S rfl rfl rfl rfl (neq_f hb7) rfl ?_ rfl; clear S; intro a S
                refine s_skip S rfl rfl rfl rfl (neq_f hb7) rfl ?_ rfl; clear S; intro a S
                refine s_skip S rfl rfl rfl rfl (neq_f hb7) rfl ?_ rfl; clear S; intro a S
                refine s_skip S rfl rfl rfl rfl (neq_f hb7) rfl ?_ rfl; clear S; intro a S
                refine s_skip S rfl rfl rfl rfl (neq_f hb7) rfl ?_ rfl; clear S; intro a S
                refine s_skip S rfl rfl rfl rfl (neq_f hb7) rfl ?_ rfl; clear S; intro a S
                refine s_skip S rfl rfl rfl rfl (neq_f hb7) rfl ?_ rfl; clear S; intro a S
                refine s_skip S rfl rfl rfl rfl (neq_f hb7) rfl ?_ rfl; clear S; intro a S
                refine s_skip S rfl rfl rfl rfl (neq_f hb7) rfl ?_ rfl; clear S; intro a S
                refine s_lv S rfl (rn_pick_c hb7 (S.tm rfl) rfl) rfl ?_; clear S; intro a S
                refine s_lv S rfl (rn_assign (S.tm rfl)) rfl ?_; clear S; intro a S
                refine s_done ?_
                replace S := S.nf (L' := [.blk b2 [.string y1.Who, .string y1.Club, .int .i64 y1.Day] 59]) (K' := [(0, v_p_l), (3, .int .i64 (i1 : Int)), (4, .pointer (some ⟨b2, 0, none⟩)), (5, .bool c1), (9, v_p_l), (10, .int .i64 (p_l.length : Int)), (11, .int .i64 (i1 : Int)), (50, .bool false)]) [true] rfl ⟨rfl, rfl, rfl, rfl, rfl, rfl, rfl, rfl, trivial⟩
                refine then_n ?_
                exact ⟨false, h, S.nf [true] rfl ⟨rfl, rfl, rfl, rfl, rfl, rfl, rfl, rfl, trivial⟩⟩
            clear S h; rintro a w12 ⟨x1, h, S⟩; rw [hj5] at h; clear hj5 j5
            refine then_n ?_
            refine f_cond (S.tm rfl) (fun hb8 => ?_) (fun hb8 => ?_)
            · replace h := iteT h hb8
              refine f_seq ?_
              refine f_region ?_
              refine lv S (rn_assign rfl) rfl ?_; clear S; intro a S
              refine l_done ?_
              replace S := S.nf (L' := []) (K' := [(2, .int .i64 7)]) [false] rfl ⟨rfl, trivial⟩
              refine then_n ?_
              refine wp_ret ?_
              refine blk_r ?_
              refine blk_r ?_
              refine then_r ?_
              refine then_r ?_
              refine blk_r ?_
              refine then_r ?_
              refine then_r ?_
              obtain rfl := Option.some.inj h
              exact f_ret S Tryd.results16 rfl rfl
            · replace h := iteF h hb8
              refine f_seq ?_
              refine f_seq ?_
              refine f_region ?_
              refine lv S (rn_move (S.tm rfl)) rfl ?_; clear S; intro a S
              refine lv S (rn_move (S.tm rfl)) rfl ?_; clear S; intro a S
              refine f_cutm 4 (fun a w' => Keep [] w12 w' ∧ Sx w [] nov [.blk b2 [.string y1.Who, .string y1.Club, .int .i64 y1.Day] 59] [(0, v_p_l), (3, .int .i64 (i1 : Int)), (4, .pointer (some ⟨b2, 0, none⟩)), (5, .bool c1), (9, v_p_l), (10, .int .i64 (p_l.length : Int)), (11, .int .i64 (i1 : Int)), (82, .bool (c1 && (decide (y1.Club = k_empty))))] 97 a w') ?_ ?_
              · rcases Bool.eq_false_or_eq_true c1 with hb9 | hb9
                · refine l_want S rfl rfl rfl hb9 ?_
                  refine lv S (rn_fld fa_59_1 (S.tm rfl)) rfl ?_; clear S; intro a S
                  refine l_want S rfl rfl rfl hb9 ?_
                  refine lv S (rn_load Tryd.isAgg9 (S.tm rfl) (S.cell (i := 0) rfl rfl)) rfl ?_; clear S; intro a S
                  refine l_want S rfl rfl rfl hb9 ?_
                  refine lv S (rn_seql (S.tm rfl) rfl) rfl ?_; clear S; intro a S
                  refine lv S (rn_and_t hb9 (S.tm rfl) (S.tm rfl)) rfl ?_; clear S; intro a S
                  refine l_done ?_
                  refine then_n ?_
                  exact ⟨Keep.refl _ _, S.nf [true] rfl ⟨rfl, rfl, rfl, rfl, rfl, rfl, rfl, rfl, trivial⟩⟩
                · refine l_skip S rfl rfl rfl (neq_f hb9) rfl ?_ rfl; clear S; intro a S
                  refine l_skip S rfl rfl rfl (neq_f hb9) rfl ?_ rfl; clear S; intro a S
                  refine l_skip S rfl rfl rfl (neq_f hb9) rfl ?_ rfl; clear S; intro a S
                  refine lv S (rn_and_f (decide (y1.Club = k_empty)) hb9 (S.tm rfl) rfl) rfl ?_; clear S; intro a S
                  refine l_done ?_
                  refine then_n ?_
                  exact ⟨Keep.refl _ _, S.nf [true] rfl ⟨rfl, rfl, rfl, rfl, rfl, rfl, rfl, rfl, trivial⟩⟩
              clear S; rintro a w23 ⟨hk20, S⟩
              refine lv S (rn_assign (S.tm rfl)) rfl ?_; clear S; intro a S
              refine l_done ?_
              replace S := S.nf (L' := [.blk b2 [.string y1.Who, .string y1.Club, .int .i64 y1.Day] 59]) (K' := [(0, v_p_l), (3, .int .i64 (i1 : Int)), (4, .pointer (some ⟨b2, 0, none⟩)), (5, .bool c1), (9, v_p_l), (10, .int .i64 (p_l.length : Int)), (11, .int .i64 (i1 : Int)), (76, .bool (c1 && (decide (y1.Club = k_empty))))]) [true] rfl ⟨rfl, rfl, rfl, rfl, rfl, rfl, rfl, rfl, trivial⟩
              refine then_n ?_
              obtain ⟨j6, hj6, h⟩ := joinE h
              refine f_join (fun a w' => ∃ x2 : Bool, j6 x2 = some r ∧ Sx w [] nov [] [(0, v_p_l), (9, v_p_l), (10, .int .i64 (p_l.length : Int)), (11, .int .i64 (i1 : Int)), (76, .bool x2)] 97 a w') ?_ ?_
              · refine f_cond (S.tm rfl) (fun hb10 => ?_) (fun hb10 => ?_)
                · replace h := iteT h hb10
                  refine wp_skip ?_
                  refine then_n ?_
                  exact ⟨(c1 && (decide (y1.Club = k_empty))), h, S.nf [false] rfl ⟨rfl, rfl, rfl, rfl, rfl, trivial⟩⟩
                · replace h := iteF h hb10
                  refine d_region [] ([]) Tryd.mixed S rfl (by kernel_rfl) ?_; clear S; intro w25 hk21 hsel S
                  refine d_rest [0, 1, 2, 3, 4, 5, 6, 7, 8, 9, 10, 11, 12, 13] hsel (by kernel_rfl) rfl ?_
                  clear hsel
                  refine s_lv S rfl (rn_move (S.tm rfl)) rfl ?_; clear S; intro a S
                  refine s_lv S rfl (rn_not (S.tm rfl)) rfl ?_; clear S; intro a S
                  refine s_lv S rfl (rn_move (S.tm rfl)) rfl ?_; clear S; intro a S
                  obtain ⟨j7, hj7, h⟩ := joinE h
                  refine s_cutm 10 (fun a w' => ∃ c4, j7 c4 = some r ∧ Keep [] w25 w' ∧ Sx w [] nov [.blk b2 [.string y1.Who, .string y1.Club, .int .i64 y1.Day] 59] [(0, v_p_l), (9, v_p_l), (10, .int .i64 (p_l.length : Int)), (11, .int .i64 (i1 : Int)), (95, .bool c4)] 97 a w') ?_ ?_
                  · rcases Bool.eq_false_or_eq_true (!c1) with hb11 | hb11
                    · replace h := iteT h hb11
                      refine s_want S rfl rfl rfl rfl hb11 ?_
                      refine s_lv0 S (rn_move (S.tm rfl)) rfl ?_; clear S; intro a S
                      refine s_want S rfl rfl rfl rfl hb11 ?_
                      refine s_lv0 S (rn_move (S.tm rfl)) rfl ?_; clear S; intro a S
                      refine s_want S rfl rfl rfl rfl hb11 ?_
                      refine s_lv0 S (rn_sub (S.tm rfl) rfl) rfl ?_; clear S; intro a S
                      refine s_want S rfl rfl rfl rfl hb11 ?_
                      obtain ⟨hc4, h⟩ := chkE h
                      obtain ⟨b10, o7, hm7, hr9⟩ := rn_indexT (a := a) (x := .tmp 86) (y := .tmp 88) (ty := 0) sl_26 hs_p_l (inB_get hc4).1 (inB_get hc4).2 (S.tm rfl) (S.tm rfl)
                      refine s_lv0 S (hr9 _) rfl ?_; clear S; intro a S
                      clear hr9
                      refine s_want S rfl rfl rfl rfl hb11 ?_
                      refine s_lv0 S (rn_fld fa_59_1 (S.tm rfl)) rfl ?_; clear S; intro a S
                      refine s_want S rfl rfl rfl rfl hb11 ?_
                      refine s_lv0 S (rn_ld Tryd.isAgg9 (off := o7) (o := 1) (S.tm rfl) (hm7.at S.emb0) rfl) rfl ?_; clear S; intro a S
                      refine s_want S rfl rfl rfl rfl hb11 ?_
                      refine s_lv0 S (rn_fld fa_59_1 (S.tm rfl)) rfl ?_; clear S; intro a S
                      refine s_want S rfl rfl rfl rfl hb11 ?_
                      refine s_lv0 S (rn_load Tryd.isAgg9 (S.tm rfl) (S.cell (i := 0) rfl rfl)) rfl ?_; clear S; intro a S
                      refine s_want S rfl rfl rfl rfl hb11 ?_
                      refine s_lv0 S (rn_seql (S.tm rfl) (S.tm rfl)) rfl ?_; clear S; intro a S
                      refine s_lv S rfl (rn_and_t hb11 (S.tm rfl) (S.tm rfl)) rfl ?_; clear S; intro a S
                      refine s_done ?_
                      exact ⟨_, h, Keep.refl _ _, S.nf [true] rfl ⟨rfl, rfl, rfl, rfl, rfl, trivial⟩⟩
                    · replace h := iteF h hb11
                      refine s_skip S rfl rfl rfl rfl (neq_f hb11) rfl ?_ rfl; clear S; intro a S
                      refine s_skip S rfl rfl rfl rfl (neq_f hb11) rfl ?_ rfl; clear S; intro a S
                      refine s_skip S rfl rfl rfl rfl (neq_f hb11) rfl ?_ rfl; clear S; intro a S
                      refine s_skip S rfl rfl rfl rfl (neq_f hb11) rfl ?_ rfl; clear S; intro a S
                      refine s_skip S rfl rfl rfl rfl (neq_f hb11) rfl ?_ rfl; clear S; intro a S
                      refine s_skip S rfl rfl rfl rfl (neq_f hb11) rfl ?_ rfl; clear S; intro a S
                      refine s_skip S rfl rfl rfl rfl (neq_f hb11) rfl ?_ rfl; clear S; intro a S
                      refine s_skip S rfl rfl rfl rfl (neq_f hb11) rfl ?_ rfl; clear S; intro a S
                      refine s_skip S rfl rfl rfl rfl (neq_f hb11) rfl ?_ rfl; clear S; intro a S
                      refine s_lv S rfl (rn_and_f true hb11 (S.tm rfl) rfl) rfl ?_; clear S; intro a S
                      refine s_done ?_
                      exact ⟨_, h, Keep.refl _ _, S.nf [true] rfl ⟨rfl, rfl, rfl, rfl, rfl, trivial⟩⟩
                  clear S h; rintro a w26 ⟨c4, h, hk22, S⟩; rw [hj7] at h; clear hj7 j7
                  refine s_lv S rfl (rn_assign (S.tm rfl)) rfl ?_; clear S; intro a S
                  refine s_done ?_
                  replace S := S.nf (L' := []) (K' := [(0, v_p_l), (9, v_p_l), (10, .int .i64 (p_l.length : Int)), (11, .int .i64 (i1 : Int)), (76, .bool c4)]) [false] rfl ⟨rfl, rfl, rfl, rfl, rfl, trivial⟩
                  refine then_n ?_
                  exact ⟨c4, h, S.nf [] rfl ⟨rfl, rfl, rfl, rfl, rfl, trivial⟩⟩
              clear S h; rintro a w24 ⟨x2, h, S⟩; rw [hj6] at h; clear hj6 j6
              refine then_n ?_
              refine f_cond (S.tm rfl) (fun hb12 => ?_) (fun hb12 => ?_)
              · replace h := iteT h hb12
                refine f_seq ?_
                refine f_region ?_
                refine lv S (rn_assign rfl) rfl ?_; clear S; intro a S
                refine l_done ?_
                replace S := S.nf (L' := []) (K' := [(2, .int .i64 3)]) [] rfl ⟨rfl, trivial⟩
                refine then_n ?_
                refine wp_ret ?_
                refine blk_r ?_
                refine blk_r ?_
                refine then_r ?_
                refine then_r ?_
                refine blk_r ?_
                refine then_r ?_
                refine then_r ?_
                obtain rfl := Option.some.inj h
                exact f_ret S Tryd.results16 rfl rfl
              · replace h := iteF h hb12
                refine wp_skip ?_
                refine blk_n ?_
                refine blk_n ?_
                refine then_n ?_
                refine f_region ?_
                refine lv S (rn_add (S.tm rfl) rfl) rfl ?_; clear S; intro a S
                refine lv S (rn_move (S.tm rfl)) rfl ?_; clear S; intro a S
                refine l_done ?_
                replace S := S.nf (L' := []) (K' := [(0, v_p_l), (9, v_p_l), (10, .int .i64 (p_l.length : Int)), (11, .int .i64 (W ((i1 : Int) + 1)))]) [] rfl ⟨rfl, rfl, rfl, rfl, trivial⟩
                refine then_n ?_
                exact ⟨ys1, ⟨i1 + 1, ⟨_, (hd1).trans (List.append_cons _ _ _), by simp [hi1]⟩, h, S.nf [] rfl ⟨rfl, rfl, rfl, (congrArg (fun z => some (Value.int .i64 z)) (rng_next hd1 hi1 (slc_max hs_p_l))), trivial⟩⟩, Nat.lt_succ_self _⟩
    clear S h; rintro a w2 ⟨h, S⟩; rw [hj1] at h; clear hj1 j1
    refine then_n ?_
    refine f_seq ?_
    refine f_region ?_
    refine lv S (rn_assign rfl) rfl ?_; clear S; intro a S
    refine l_done ?_
    replace S := S.nf (L' := []) (K' := [(2, .int .i64 0)]) [] rfl ⟨rfl, trivial⟩
    refine then_n ?_
    refine wp_ret ?_
    obtain rfl := Option.some.inj h
    exact f_ret S Tryd.results16 rfl rfl
theorem swimmer_checkClub_ok (w : World) (v_p_l : Value) (p_l : List GMove) (hs_p_l : Slc (view w []) 3 v_p_l (p_l.map GMove.enc)) (p_key : ByteArray) (p_day : Int) (r : Int) (h : swimmer_checkClub p_l p_key p_day = some r) :
    Calls Tryd.prog 29 [v_p_l, .string p_key, .int .i64 p_day].toArray w (Ret w [] fun τ v w' => v = .int .i64 r) := by
  refine f_enter [] [] Tryd.func29 rfl Tryd.ntmps29 rfl (by simp) (by simp [fps]) (by simp [fps]) fun a S => ?_
  unfold swimmer_checkClub at h
  replace S := S.nf (L' := []) (K' := [(0, v_p_l), (1, .string p_key), (2, .int .i64 p_day)]) [] rfl ⟨rfl, rfl, rfl, trivial⟩
  refine f_seq ?_
  refine f_region ?_
  refine lv S (rn_assign rfl) rfl ?_; clear S; intro a S
  refine l_done ?_
  replace S := S.nf (L' := []) (K' := [(0, v_p_l), (1, .string p_key), (2, .int .i64 p_day)]) [] rfl ⟨rfl, rfl, rfl, trivial⟩
  refine then_n ?_
  refine f_seq ?_
  refine f_seq ?_
  refine f_region ?_
  refine lv S (rn_move (S.tm rfl)) rfl ?_; clear S; intro a S
  obtain ⟨r1, hr1, h⟩ := bindE h
  refine l_enter S (fun _ => run_call (vs := [v_p_l]) ⟨(S.tm rfl), trivial⟩ Tryd.call16) (swimmer_CheckMoves_ok _ v_p_l p_l (hs_p_l.mono (S.le_arg nil_sub)) _ hr1) rfl ?_; clear S; intro v1 a w1 hv1 hk1 hn1 S
  subst hv1
  refine lv S (rn_assign (S.tm rfl)) rfl ?_; clear S; intro a S
  refine l_done ?_
  replace S := S.nf (L' := []) (K' := [(1, .string p_key), (2, .int .i64 p_day), (7, .int .i64 r1)]) [] rfl ⟨rfl, rfl, rfl, trivial⟩
  refine then_n ?_
  refine f_seq ?_
  refine f_region ?_
  refine lv S (rn_move (S.tm rfl)) rfl ?_; clear S; intro a S
  refine lv S (rn_neq (S.tm rfl) rfl) rfl ?_; clear S; intro a S
  refine l_done ?_
  replace S := S.nf (L' := []) (K' := [(1, .string p_key), (2, .int .i64 p_day), (7, .int .i64 r1), (11, .bool (!decide (r1 = 0)))]) [] rfl ⟨rfl, rfl, rfl, rfl, trivial⟩
  refine then_n ?_
  refine f_cond (S.tm rfl) (fun hb1 => ?_) (fun hb1 => ?_)
  · replace h := iteT h hb1
    refine f_seq ?_
    refine f_region ?_
    refine lv S (rn_move (S.tm rfl)) rfl ?_; clear S; intro a S
    refine lv S (rn_assign (S.tm rfl)) rfl ?_; clear S; intro a S
    refine l_done ?_
    replace S := S.nf (L' := []) (K' := [(6, .int .i64 r1)]) [] rfl ⟨rfl, trivial⟩
    refine then_n ?_
    refine wp_ret ?_
    refine then_r ?_
    obtain rfl := Option.some.inj h
    exact f_ret S Tryd.results29 rfl rfl
  · replace h := iteF h hb1
    refine wp_skip ?_
    refine then_n ?_
    refine f_seq ?_
    refine f_seq ?_
    refine f_region ?_
    refine lv S (rn_move (S.tm rfl)) rfl ?_; clear S; intro a S
    obtain ⟨r2, hr2, h⟩ := bindE h
    refine l_enter S (fun _ => run_call (vs := [.string p_key]) ⟨(S.tm rfl), trivial⟩ Tryd.call35) (words_IsKey_ok _ p_key _ hr2) rfl ?_; clear S; intro v2 a w2 hv2 hk2 hn2 S
    subst hv2
    refine lv S (rn_not (S.tm rfl)) rfl ?_; clear S; intro a S
    refine l_done ?_
    replace S := S.nf (L' := []) (K' := [(2, .int .i64 p_day), (15, .bool (!r2))]) [] rfl ⟨rfl, rfl, trivial⟩
    refine then_n ?_
    refine f_cond (S.tm rfl) (fun hb2 => ?_) (fun hb2 => ?_)
    · replace h := iteT h hb2
      refine f_seq ?_
      refine f_region ?_
      refine lv S (rn_assign rfl) rfl ?_; clear S; intro a S
      refine l_done ?_
      replace S := S.nf (L' := []) (K' := [(6, .int .i64 5)]) [] rfl ⟨rfl, trivial⟩
      refine then_n ?_
      refine wp_ret ?_
      refine then_r ?_
      obtain rfl := Option.some.inj h
      exact f_ret S Tryd.results29 rfl rfl
    · replace h := iteF h hb2
      refine wp_skip ?_
      refine then_n ?_
      refine f_seq ?_
      refine f_seq ?_
      refine f_region ?_
      refine lv S (rn_move (S.tm rfl)) rfl ?_; clear S; intro a S
      refine l_enter S (fun _ => run_call (vs := [.int .i64 p_day]) ⟨(S.tm rfl), trivial⟩ Tryd.call36) (swimmer_isDay_ok _ p_day _ rfl) rfl ?_; clear S; intro v3 a w3 hv3 hk3 hn3 S
      subst hv3
      refine lv S (rn_not (S.tm rfl)) rfl ?_; clear S; intro a S
      refine l_done ?_
      replace S := S.nf (L' := []) (K' := [(18, .bool (!(swimmer_isDay p_day)))]) [] rfl ⟨rfl, trivial⟩
      refine then_n ?_
      refine f_cond (S.tm rfl) (fun hb3 => ?_) (fun hb3 => ?_)
      · replace h := iteT h hb3
        refine f_seq ?_
        refine f_region ?_
        refine lv S (rn_assign rfl) rfl ?_; clear S; intro a S
        refine l_done ?_
        replace S := S.nf (L' := []) (K' := [(6, .int .i64 1)]) [] rfl ⟨rfl, trivial⟩
        refine then_n ?_
        refine wp_ret ?_
        refine then_r ?_
        obtain rfl := Option.some.inj h
        exact f_ret S Tryd.results29 rfl rfl
      · replace h := iteF h hb3
        refine wp_skip ?_
        refine then_n ?_
        refine f_seq ?_
        refine f_region ?_
        refine lv S (rn_assign rfl) rfl ?_; clear S; intro a S
        refine l_done ?_
        replace S := S.nf (L' := []) (K' := [(6, .int .i64 0)]) [] rfl ⟨rfl, trivial⟩
        refine then_n ?_
        refine wp_ret ?_
        obtain rfl := Option.some.inj h
        exact f_ret S Tryd.results29 rfl rfl
theorem swimmer_clubAt_ok (w : World) (v_p_l : Value) (p_l : List GMove) (hs_p_l : Slc (view w []) 3 v_p_l (p_l.map GMove.enc)) (p_who : ByteArray) (p_day : Int) (r : ByteArray) (h : swimmer_clubAt p_l p_who p_day = r) :
    Calls Tryd.prog 30 [v_p_l, .string p_who, .int .i64 p_day].toArray w (Ret w [] fun τ v w' => v = .string r) := by
  refine f_enter [] [] Tryd.func30 rfl Tryd.ntmps30 rfl (by simp) (by simp [fps]) (by simp [fps]) fun a S => ?_
  unfold swimmer_clubAt at h
  replace S := S.nf (L' := []) (K' := [(0, v_p_l), (1, .string p_who), (2, .int .i64 p_day)]) [] rfl ⟨rfl, rfl, rfl, trivial⟩
  refine f_seq ?_
  refine f_region ?_
  refine lv S (rn_assign rfl) rfl ?_; clear S; intro a S
  refine l_done ?_
  replace S := S.nf (L' := []) (K' := [(0, v_p_l), (1, .string p_who), (2, .int .i64 p_day)]) [] rfl ⟨rfl, rfl, rfl, trivial⟩
  refine then_n ?_
  refine f_seq ?_
  refine f_region ?_
  refine lv S (rn_assign rfl) rfl ?_; clear S; intro a S
  refine l_done ?_
  replace S := S.nf (L' := []) (K' := [(0, v_p_l), (1, .string p_who), (2, .int .i64 p_day), (7, .string k_empty)]) [] rfl ⟨rfl, rfl, rfl, rfl, trivial⟩
  refine then_n ?_
  refine f_seq ?_
  refine f_seq ?_
  refine f_region ?_
  refine lv S (rn_move (S.tm rfl)) rfl ?_; clear S; intro a S
  refine lv S (rn_lenT sl_26 (S.tm rfl) (slc_len hs_p_l)) rfl ?_; clear S; intro a S
  refine lv S (rn_move rfl) rfl ?_; clear S; intro a S
  refine l_done ?_
  replace S := S.nf (L' := []) (K' := [(1, .string p_who), (2, .int .i64 p_day), (7, .string k_empty), (10, v_p_l), (11, .int .i64 (p_l.length : Int)), (12, .int .i64 0)]) [] rfl ⟨rfl, rfl, rfl, rfl, rfl, rfl, trivial⟩
  refine then_n ?_
  obtain ⟨j1, hj1, h⟩ := joinE h
  refine f_join (fun a w' => ∃ x1 : ByteArray, j1 x1 = r ∧ Sx w [] nov [] [(7, .string x1)] 30 a w') ?_ ?_
  · refine wp_block ?_
    refine f_loop (fun (ys1 : List GMove) a w' => ∃ i1 : Nat, ∃ x1 : ByteArray, (∃ dn, p_l = dn ++ ys1 ∧ dn.length = i1) ∧ swimmer_clubAt_l1 p_who p_day j1 ys1 i1 x1 = r ∧ Sx w [] nov [] [(1, .string p_who), (2, .int .i64 p_day), (7, .string x1), (10, v_p_l), (11, .int .i64 (p_l.length : Int)), (12, .int .i64 (i1 : Int))] 30 a w') List.length p_l ⟨0, k_empty, ⟨[], rfl, rfl⟩, h, S.nf [] rfl ⟨rfl, rfl, rfl, rfl, rfl, rfl, trivial⟩⟩ ?_
    clear S h; rintro ys1 a w1 ⟨i1, x1, ⟨dn, hd1, hi1⟩, h, S⟩
    cases ys1 with
    | nil =>
      rw [swimmer_clubAt_l1.eq_1] at h
      refine f_seq ?_
      refine f_region ?_
      refine lv S (rn_lss (S.tm rfl) (S.tm rfl)) rfl ?_; clear S; intro a S
      refine l_done ?_
      replace S := S.nf (L' := []) (K' := [(1, .string p_who), (2, .int .i64 p_day), (7, .string x1), (10, v_p_l), (11, .int .i64 (p_l.length : Int)), (12, .int .i64 (i1 : Int)), (13, .bool (decide ((i1 : Int) < (p_l.length : Int))))]) [] rfl ⟨rfl, rfl, rfl, rfl, rfl, rfl, rfl, trivial⟩
      refine then_n ?_
      refine f_seq ?_
      refine wp_cond_false ((S.tm rfl).trans (congrArg Value.bool (rng_nil hd1 hi1))) ?_
      refine wp_exit ?_
      refine then_x ?_
      refine then_x ?_
      refine x_same ?_
      refine then_n ?_
      exact ⟨x1, h, S.nf [] rfl ⟨rfl, trivial⟩⟩
    | cons y1 ys1 =>
      rw [swimmer_clubAt_l1.eq_2] at h
      refine f_seq ?_
      refine f_region ?_
      refine lv S (rn_lss (S.tm rfl) (S.tm rfl)) rfl ?_; clear S; intro a S
      refine l_done ?_
      replace S := S.nf (L' := []) (K' := [(1, .string p_who), (2, .int .i64 p_day), (7, .string x1), (10, v_p_l), (11, .int .i64 (p_l.length : Int)), (12, .int .i64 (i1 : Int)), (13, .bool (decide ((i1 : Int) < (p_l.length : Int))))]) [] rfl ⟨rfl, rfl, rfl, rfl, rfl, rfl, rfl, trivial⟩
      refine then_n ?_
      refine f_seq ?_
      refine wp_cond_true ((S.tm rfl).trans (congrArg Value.bool (rng_cons hd1 hi1))) ?_
      refine wp_skip ?_
      refine then_n ?_
      refine f_seq ?_
      obtain ⟨j2, hj2, h⟩ := joinE h
      refine f_join (fun a w' => ∃ x2 : ByteArray, j2 x2 = r ∧ Sx w [] nov [] [(1, .string p_who), (2, .int .i64 p_day), (7, .string x2), (10, v_p_l), (11, .int .i64 (p_l.length : Int)), (12, .int .i64 (i1 : Int))] 30 a w') ?_ ?_
      · refine wp_block ?_
        refine f_seq ?_
        refine f_region ?_
        obtain ⟨b1, o1, hm1, hr1⟩ := rn_indexT (a := a) (x := .tmp 10) (y := .tmp 12) (ty := 0) sl_26 hs_p_l (get_mid hd1 hi1) rfl (S.tm rfl) (S.tm rfl)
        refine lv S (hr1 _) rfl ?_; clear S; intro a S
        clear hr1
        refine lv S (rn_ldA Tryd.isAgg59 Tryd.sizeOf59 (off := o1) (o := 0) (part := [.string y1.Who, .string y1.Club, .int .i64 y1.Day]) rfl rfl (S.tm rfl) (hm1.at S.emb0)) rfl ?_; clear S; intro a S
        refine l_alloc S Tryd.zeroValue59 (cs := [.string k_empty, .string k_empty, .int .i64 0]) rfl rfl ?_; clear S; intro a w4 b2 hz1 hk1 S
        refine l_store S (S.tm rfl) (S.tm rfl) (i := 0) (off := 0) rfl Tryd.sizeOf59 (vs := [.string y1.Who, .string y1.Club, .int .i64 y1.Day]) rfl rfl rfl rfl ?_; clear S; intro w5 hk2 S
        refine l_done ?_
        replace S := S.nf (L' := [.blk b2 [.string y1.Who, .string y1.Club, .int .i64 y1.Day] 59]) (K' := [(1, .string p_who), (2, .int .i64 p_day), (7, .string x1), (9, .pointer (some ⟨b2, 0, none⟩)), (10, v_p_l), (11, .int .i64 (p_l.length : Int)), (12, .int .i64 (i1 : Int))]) [true] rfl ⟨rfl, rfl, rfl, rfl, rfl, rfl, rfl, trivial⟩
        refine then_n ?_
        refine f_seq ?_
        refine f_region ?_
        refine lv S (rn_fld fa_59_0 (S.tm rfl)) rfl ?_; clear S; intro a S
        refine lv S (rn_load Tryd.isAgg9 (S.tm rfl) (S.cell (i := 0) rfl rfl)) rfl ?_; clear S; intro a S
        refine lv S (rn_move (S.tm rfl)) rfl ?_; clear S; intro a S
        refine lv S (rn_seql (S.tm rfl) (S.tm rfl)) rfl ?_; clear S; intro a S
        refine lv S (rn_move (S.tm rfl)) rfl ?_; clear S; intro a S
        refine f_cutm 5 (fun a w' => Keep [] w5 w' ∧ Sx w [] nov [.blk b2 [.string y1.Who, .string y1.Club, .int .i64 y1.Day] 59] [(1, .string p_who), (2, .int .i64 p_day), (7, .string x1), (9, .pointer (some ⟨b2, 0, none⟩)), (10, v_p_l), (11, .int .i64 (p_l.length : Int)), (12, .int .i64 (i1 : Int)), (25, .bool ((decide (y1.Who = p_who)) && (decide (y1.Day ≤ p_day))))] 30 a w') ?_ ?_
        · rcases Bool.eq_false_or_eq_true (decide (y1.Who = p_who)) with hb1 | hb1
          · refine l_want S rfl rfl rfl hb1 ?_
            refine lv S (rn_fld fa_59_2 (S.tm rfl)) rfl ?_; clear S; intro a S
            refine l_want S rfl rfl rfl hb1 ?_
            refine lv S (rn_load Tryd.isAgg3 (S.tm rfl) (S.cell (i := 0) rfl rfl)) rfl ?_; clear S; intro a S
            refine l_want S rfl rfl rfl hb1 ?_
            refine lv S (rn_move (S.tm rfl)) rfl ?_; clear S; intro a S
            refine l_want S rfl rfl rfl hb1 ?_
            refine lv S (rn_leq (S.tm rfl) (S.tm rfl)) rfl ?_; clear S; intro a S
            refine lv S (rn_and_t hb1 (S.tm rfl) (S.tm rfl)) rfl ?_; clear S; intro a S
            refine l_done ?_
            refine then_n ?_
            exact ⟨Keep.refl _ _, S.nf [true] rfl ⟨rfl, rfl, rfl, rfl, rfl, rfl, rfl, rfl, trivial⟩⟩
          · refine l_skip S rfl rfl rfl (neq_f hb1) rfl ?_ rfl; clear S; intro a S
            refine l_skip S rfl rfl rfl (neq_f hb1) rfl ?_ rfl; clear S; intro a S
            refine l_skip S rfl rfl rfl (neq_f hb1) rfl ?_ rfl; clear S; intro a S
            refine l_skip S rfl rfl rfl (neq_f hb1) rfl ?_ rfl; clear S; intro a S
            refine lv S (rn_and_f (decide (y1.Day ≤ p_day)) hb1 (S.tm rfl) rfl) rfl ?_; clear S; intro a S
            refine l_done ?_
            refine then_n ?_
            exact ⟨Keep.refl _ _, S.nf [true] rfl ⟨rfl, rfl, rfl, rfl, rfl, rfl, rfl, rfl, trivial⟩⟩
        clear S; rintro a w6 ⟨hk3, S⟩
        refine l_done ?_
        replace S := S.nf (L' := [.blk b2 [.string y1.Who, .string y1.Club, .int .i64 y1.Day] 59]) (K' := [(1, .string p_who), (2, .int .i64 p_day), (7, .string x1), (9, .pointer (some ⟨b2, 0, none⟩)), (10, v_p_l), (11, .int .i64 (p_l.length : Int)), (12, .int .i64 (i1 : Int)), (25, .bool ((decide (y1.Who = p_who)) && (decide (y1.Day ≤ p_day))))]) [true] rfl ⟨rfl, rfl, rfl, rfl, rfl, rfl, rfl, rfl, trivial⟩
        refine then_n ?_
        obtain ⟨j3, hj3, h⟩ := joinE h
        refine f_join (fun a w' => ∃ x3 : ByteArray, j3 x3 = r ∧ Sx w [] nov [] [(1, .string p_who), (2, .int .i64 p_day), (7, .string x3), (10, v_p_l), (11, .int .i64 (p_l.length : Int)), (12, .int .i64 (i1 : Int))] 30 a w') ?_ ?_
        · refine f_cond (S.tm rfl) (fun hb2 => ?_) (fun hb2 => ?_)
          · replace h := iteT h hb2
            refine f_region ?_
            refine lv S (rn_fld fa_59_1 (S.tm rfl)) rfl ?_; clear S; intro a S
            refine lv S (rn_load Tryd.isAgg9 (S.tm rfl) (S.cell (i := 0) rfl rfl)) rfl ?_; clear S; intro a S
            refine lv S (rn_assign (S.tm rfl)) rfl ?_; clear S; intro a S
            refine l_done ?_
            replace S := S.nf (L' := []) (K' := [(1, .string p_who), (2, .int .i64 p_day), (7, .string y1.Club), (10, v_p_l), (11, .int .i64 (p_l.length : Int)), (12, .int .i64 (i1 : Int))]) [false] rfl ⟨rfl, rfl, rfl, rfl, rfl, rfl, trivial⟩
            refine then_n ?_
            exact ⟨y1.Club, h, S.nf [] rfl ⟨rfl, rfl, rfl, rfl, rfl, rfl, trivial⟩⟩
          · replace h := iteF h hb2
            refine wp_skip ?_
            refine then_n ?_
            exact ⟨x1, h, S.nf [false] rfl ⟨rfl, rfl, rfl, rfl, rfl, rfl, trivial⟩⟩
        clear S h; rintro a w7 ⟨x3, h, S⟩; rw [hj3] at h; clear hj3 j3
        refine blk_n ?_
        refine then_n ?_
        exact ⟨x3, h, S.nf [] rfl ⟨rfl, rfl, rfl, rfl, rfl, rfl, trivial⟩⟩
      clear S h; rintro a w3 ⟨x2, h, S⟩; rw [hj2] at h; clear hj2 j2
      refine then_n ?_
      refine f_region ?_
      refine lv S (rn_add (S.tm rfl) rfl) rfl ?_; clear S; intro a S
      refine lv S (rn_move (S.tm rfl)) rfl ?_; clear S; intro a S
      refine l_done ?_
      replace S := S.nf (L' := []) (K' := [(1, .string p_who), (2, .int .i64 p_day), (7, .string x2), (10, v_p_l), (11, .int .i64 (p_l.length : Int)), (12, .int .i64 (W ((i1 : Int) + 1)))]) [] rfl ⟨rfl, rfl, rfl, rfl, rfl, rfl, trivial⟩
      refine then_n ?_
      exact ⟨ys1, ⟨i1 + 1, x2, ⟨_, (hd1).trans (List.append_cons _ _ _), by simp [hi1]⟩, h, S.nf [] rfl ⟨rfl, rfl, rfl, rfl, rfl, (congrArg (fun z => some (Value.int .i64 z)) (rng_next hd1 hi1 (slc_max hs_p_l))), trivial⟩⟩, Nat.lt_succ_self _⟩
  clear S h; rintro a w2 ⟨x1, h, S⟩; rw [hj1] at h; clear hj1 j1
  refine then_n ?_
  refine f_seq ?_
  refine f_region ?_
  refine lv S (rn_move (S.tm rfl)) rfl ?_; clear S; intro a S
  refine lv S (rn_assign (S.tm rfl)) rfl ?_; clear S; intro a S
  refine l_done ?_
  replace S := S.nf (L' := []) (K' := [(6, .string x1)]) [] rfl ⟨rfl, trivial⟩
  refine then_n ?_
  refine wp_ret ?_
  subst h
  exact f_ret S Tryd.results30 rfl rfl
theorem swimmer_ClubAt_ok (w : World) (v_p_l : Value) (p_l : List GMove) (hs_p_l : Slc (view w []) 3 v_p_l (p_l.map GMove.enc)) (p_who : ByteArray) (p_day : Int) (r : ByteArray × Int) (h : swimmer_ClubAt p_l p_who p_day = some r) :
    Calls Tryd.prog 7 [v_p_l, .string p_who, .int .i64 p_day].toArray w (Ret w [] fun τ v w' => v = .tuple #[.string r.1, .int .i64 r.2]) := by
  refine f_enter [] [] Tryd.func7 rfl Tryd.ntmps7 rfl (by simp) (by simp [fps]) (by simp [fps]) fun a S => ?_
  unfold swimmer_ClubAt at h
  replace S := S.nf (L' := []) (K' := [(0, v_p_l), (1, .string p_who), (2, .int .i64 p_day)]) [] rfl ⟨rfl, rfl, rfl, trivial⟩
  refine f_seq ?_
  refine f_region ?_
  refine lv S (rn_assign rfl) rfl ?_; clear S; intro a S
  refine lv S (rn_assign rfl) rfl ?_; clear S; intro a S
  refine l_done ?_
  replace S := S.nf (L' := []) (K' := [(0, v_p_l), (1, .string p_who), (2, .int .i64 p_day)]) [] rfl ⟨rfl, rfl, rfl, trivial⟩
  refine then_n ?_
  refine f_seq ?_
  refine f_seq ?_
  refine f_region ?_
  refine lv S (rn_move (S.tm rfl)) rfl ?_; clear S; intro a S
  refine lv S (rn_move (S.tm rfl)) rfl ?_; clear S; intro a S
  refine lv S (rn_move (S.tm rfl)) rfl ?_; clear S; intro a S
  obtain ⟨r1, hr1, h⟩ := bindE h
  refine l_enter S (fun _ => run_call (vs := [v_p_l, .string p_who, .int .i64 p_day]) ⟨(S.tm rfl), (S.tm rfl), (S.tm rfl), trivial⟩ Tryd.call29) (swimmer_checkClub_ok _ v_p_l p_l (hs_p_l.mono (S.le_arg nil_sub)) p_who p_day _ hr1) rfl ?_; clear S; intro v1 a w1 hv1 hk1 hn1 S
  subst hv1
  refine lv S (rn_assign (S.tm rfl)) rfl ?_; clear S; intro a S
  refine l_done ?_
  replace S := S.nf (L' := []) (K' := [(0, v_p_l), (1, .string p_who), (2, .int .i64 p_day), (8, .int .i64 r1)]) [] rfl ⟨rfl, rfl, rfl, rfl, trivial⟩
  refine then_n ?_
  refine f_seq ?_
  refine f_region ?_
  refine lv S (rn_move (S.tm rfl)) rfl ?_; clear S; intro a S
  refine lv S (rn_neq (S.tm rfl) rfl) rfl ?_; clear S; intro a S
  refine l_done ?_
  replace S := S.nf (L' := []) (K' := [(0, v_p_l), (1, .string p_who), (2, .int .i64 p_day), (8, .int .i64 r1), (14, .bool (!decide (r1 = 0)))]) [] rfl ⟨rfl, rfl, rfl, rfl, rfl, trivial⟩
  refine then_n ?_
  refine f_cond (S.tm rfl) (fun hb1 => ?_) (fun hb1 => ?_)
  · replace h := iteT h hb1
    refine f_seq ?_
    refine f_region ?_
    refine lv S (rn_move (S.tm rfl)) rfl ?_; clear S; intro a S
    refine lv S (rn_assign rfl) rfl ?_; clear S; intro a S
    refine lv S (rn_assign (S.tm rfl)) rfl ?_; clear S; intro a S
    refine l_done ?_
    replace S := S.nf (L' := []) (K' := [(6, .string k_empty), (7, .int .i64 r1)]) [] rfl ⟨rfl, rfl, trivial⟩
    refine then_n ?_
    refine wp_ret ?_
    refine then_r ?_
    obtain rfl := Option.some.inj h
    exact f_ret2 S Tryd.results7 rfl rfl rfl
  · replace h := iteF h hb1
    refine wp_skip ?_
    refine then_n ?_
    refine f_seq ?_
    refine f_region ?_
    refine lv S (rn_move (S.tm rfl)) rfl ?_; clear S; intro a S
    refine lv S (rn_move (S.tm rfl)) rfl ?_; clear S; intro a S
    refine lv S (rn_move (S.tm rfl)) rfl ?_; clear S; intro a S
    refine l_enter S (fun _ => run_call (vs := [v_p_l, .string p_who, .int .i64 p_day]) ⟨(S.tm rfl), (S.tm rfl), (S.tm rfl), trivial⟩ Tryd.call30) (swimmer_clubAt_ok _ v_p_l p_l (hs_p_l.mono (S.le_arg nil_sub)) p_who p_day _ rfl) rfl ?_; clear S; intro v2 a w2 hv2 hk2 hn2 S
    subst hv2
    refine lv S (rn_assign (S.tm rfl)) rfl ?_; clear S; intro a S
    refine lv S (rn_assign rfl) rfl ?_; clear S; intro a S
    refine l_done ?_
    replace S := S.nf (L' := []) (K' := [(6, .string (swimmer_clubAt p_l p_who p_day)), (7, .int .i64 0)]) [] rfl ⟨rfl, rfl, trivial⟩
    refine then_n ?_
    refine wp_ret ?_
    obtain rfl := Option.some.inj h
    exact f_ret2 S Tryd.results7 rfl rfl rfl
set_option maxRecDepth 20000 in
theorem swimmer_Members_ok (w : World) (v_p_l : Value) (p_l : List GMove) (hs_p_l : Slc (view w []) 3 v_p_l (p_l.map GMove.enc)) (p_club : ByteArray) (p_day : Int) (r : (List ByteArray) × Int) (h : swimmer_Members p_l p_club p_day = some r) :
    Calls Tryd.prog 8 [v_p_l, .string p_club, .int .i64 p_day].toArray w (Ret w [] fun τ v w' => ∃ u1 : Value, v = .tuple #[u1, .int .i64 r.2] ∧ OwnV τ 9 1 u1 r.1.length (r.1.flatMap eStr)) := by
  refine f_enter [] [] Tryd.func8 rfl Tryd.ntmps8 rfl (by simp) (by simp [fps]) (by simp [fps]) fun a S => ?_
  unfold swimmer_Members at h
  replace S := S.nf (L' := []) (K' := [(0, v_p_l), (1, .string p_club), (2, .int .i64 p_day)]) [] rfl ⟨rfl, rfl, rfl, trivial⟩
  refine f_seq ?_
  refine f_region ?_
  refine lv S (rn_assign rfl) rfl ?_; clear S; intro a S
  refine lv S (rn_assign rfl) rfl ?_; clear S; intro a S
  refine l_done ?_
  replace S := S.nf (L' := []) (K' := [(0, v_p_l), (1, .string p_club), (2, .int .i64 p_day)]) [] rfl ⟨rfl, rfl, rfl, trivial⟩
  refine then_n ?_
  refine f_seq ?_
  refine f_seq ?_
  refine f_region ?_
  refine lv S (rn_move (S.tm rfl)) rfl ?_; clear S; intro a S
  refine lv S (rn_move (S.tm rfl)) rfl ?_; clear S; intro a S
  refine lv S (rn_move (S.tm rfl)) rfl ?_; clear S; intro a S
  obtain ⟨r1, hr1, h⟩ := bindE h
  refine l_enter S (fun _ => run_call (vs := [v_p_l, .string p_club, .int .i64 p_day]) ⟨(S.tm rfl), (S.tm rfl), (S.tm rfl), trivial⟩ Tryd.call29) (swimmer_checkClub_ok _ v_p_l p_l (hs_p_l.mono (S.le_arg nil_sub)) p_club p_day _ hr1) rfl ?_; clear S; intro v1 a w1 hv1 hk1 hn1 S
  subst hv1
  refine lv S (rn_assign (S.tm rfl)) rfl ?_; clear S; intro a S
  refine l_done ?_
  replace S := S.nf (L' := []) (K' := [(0, v_p_l), (1, .string p_club), (2, .int .i64 p_day), (8, .int .i64 r1)]) [] rfl ⟨rfl, rfl, rfl, rfl, trivial⟩
  refine then_n ?_
  refine f_seq ?_
  refine f_region ?_
  refine lv S (rn_move (S.tm rfl)) rfl ?_; clear S; intro a S
  refine lv S (rn_neq (S.tm rfl) rfl) rfl ?_; clear S; intro a S
  refine l_done ?_
  replace S := S.nf (L' := []) (K' := [(0, v_p_l), (1, .string p_club), (2, .int .i64 p_day), (8, .int .i64 r1), (17, .bool (!decide (r1 = 0)))]) [] rfl ⟨rfl, rfl, rfl, rfl, rfl, trivial⟩
  refine then_n ?_
  refine f_cond (S.tm rfl) (fun hb1 => ?_) (fun hb1 => ?_)
  · replace h := iteT h hb1
    refine f_seq ?_
    refine f_region ?_
    refine lv S (rn_move (S.tm rfl)) rfl ?_; clear S; intro a S
    refine lv S (rn_assign rfl) rfl ?_; clear S; intro a S
    refine lv S (rn_assign (S.tm rfl)) rfl ?_; clear S; intro a S
    refine l_done ?_
    replace S := S.nf (L' := []) (K' := [(6, .slice none 0 0), (7, .int .i64 r1)]) [] rfl ⟨rfl, rfl, trivial⟩
    refine then_n ?_
    refine wp_ret ?_
    refine then_r ?_
    obtain rfl := Option.some.inj h
    exact f_ret2 S Tryd.results8 rfl rfl ⟨_, rfl, (ownV_nil _ _ _)⟩
  · replace h := iteF h hb1
    refine wp_skip ?_
    refine then_n ?_
    refine f_seq ?_
    refine f_region ?_
    refine lv S (rn_assign rfl) rfl ?_; clear S; intro a S
    replace S := S.nil 9 1
    refine l_done ?_
    replace S := S.nf (L' := [.own (.slice none 0 0) 9 1 ([] : List ByteArray).length (([] : List ByteArray).flatMap eStr)]) (K' := [(0, v_p_l), (1, .string p_club), (2, .int .i64 p_day), (9, (.slice none 0 0))]) [true] rfl ⟨rfl, rfl, rfl, rfl, trivial⟩
    refine then_n ?_
    refine f_seq ?_
    refine f_seq ?_
    refine f_region ?_
    refine lv S (rn_move (S.tm rfl)) rfl ?_; clear S; intro a S
    refine lv S (rn_lenT sl_26 (S.tm rfl) (slc_len hs_p_l)) rfl ?_; clear S; intro a S
    refine lv S (rn_move rfl) rfl ?_; clear S; intro a S
    refine l_done ?_
    replace S := S.nf (L' := [.own (.slice none 0 0) 9 1 ([] : List ByteArray).length (([] : List ByteArray).flatMap eStr)]) (K' := [(0, v_p_l), (1, .string p_club), (2, .int .i64 p_day), (9, (.slice none 0 0)), (19, v_p_l), (20, .int .i64 (p_l.length : Int)), (21, .int .i64 0)]) [true] rfl ⟨rfl, rfl, rfl, rfl, rfl, rfl, rfl, trivial⟩
    refine then_n ?_
    obtain ⟨j1, hj1, h⟩ := joinE h
    refine f_join (fun a w' => ∃ x1 : List ByteArray, ∃ v2 : Value, j1 x1 = some r ∧ Sx w [] nov [.own v2 9 1 x1.length (x1.flatMap eStr)] [(9, v2)] 55 a w') ?_ ?_
    · refine wp_block ?_
      refine f_loop (fun (ys1 : List GMove) a w' => ∃ i1 : Nat, ∃ x1 : List ByteArray, ∃ v2 : Value, (∃ dn, p_l = dn ++ ys1 ∧ dn.length = i1) ∧ swimmer_Members_l1 p_l p_day p_club j1 ys1 i1 x1 = some r ∧ Sx w [] nov [.own v2 9 1 x1.length (x1.flatMap eStr)] [(0, v_p_l), (1, .string p_club), (2, .int .i64 p_day), (9, v2), (19, v_p_l), (20, .int .i64 (p_l.length : Int)), (21, .int .i64 (i1 : Int))] 55 a w') List.length p_l ⟨0, ([] : List ByteArray), (.slice none 0 0), ⟨[], rfl, rfl⟩, h, S.nf [true] rfl ⟨rfl, rfl, rfl, rfl, rfl, rfl, rfl, trivial⟩⟩ ?_
      clear S h; rintro ys1 a w2 ⟨i1, x1, v2, ⟨dn, hd1, hi1⟩, h, S⟩
      cases ys1 with
      | nil =>
        rw [swimmer_Members_l1.eq_1] at h
        refine f_seq ?_
        refine f_region ?_
        refine lv S (rn_lss (S.tm rfl) (S.tm rfl)) rfl ?_; clear S; intro a S
        refine l_done ?_
        replace S := S.nf (L' := [.own v2 9 1 x1.length (x1.flatMap eStr)]) (K' := [(0, v_p_l), (1, .string p_club), (2, .int .i64 p_day), (9, v2), (19, v_p_l), (20, .int .i64 (p_l.length : Int)), (21, .int .i64 (i1 : Int)), (22, .bool (decide ((i1 : Int) < (p_l.length : Int))))]) [true] rfl ⟨rfl, rfl, rfl, rfl, rfl, rfl, rfl, rfl, trivial⟩
        refine then_n ?_
        refine f_seq ?_
        refine wp_cond_false ((S.tm rfl).trans (congrArg Value.bool (rng_nil hd1 hi1))) ?_
        refine wp_exit ?_
        refine then_x ?_
        refine then_x ?_
        refine x_same ?_
        refine then_n ?_
        exact ⟨x1, v2, h, S.nf [true] rfl ⟨rfl, trivial⟩⟩
      | cons y1 ys1 =>
        rw [swimmer_Members_l1.eq_2] at h
        refine f_seq ?_
        refine f_region ?_
        refine lv S (rn_lss (S.tm rfl) (S.tm rfl)) rfl ?_; clear S; intro a S
        refine l_done ?_
        replace S := S.nf (L' := [.own v2 9 1 x1.length (x1.flatMap eStr)]) (K' := [(0, v_p_l), (1, .string p_club), (2, .int .i64 p_day), (9, v2), (19, v_p_l), (20, .int .i64 (p_l.length : Int)), (21, .int .i64 (i1 : Int)), (22, .bool (decide ((i1 : Int) < (p_l.length : Int))))]) [true] rfl ⟨rfl, rfl, rfl, rfl, rfl, rfl, rfl, rfl, trivial⟩
        refine then_n ?_
        refine f_seq ?_
        refine wp_cond_true ((S.tm rfl).trans (congrArg Value.bool (rng_cons hd1 hi1))) ?_
        refine wp_skip ?_
        refine then_n ?_
        refine f_seq ?_
        obtain ⟨j2, hj2, h⟩ := joinE h
        refine f_join (fun a w' => ∃ x2 : List ByteArray, ∃ v3 : Value, j2 x2 = some r ∧ Sx w [] nov [.own v3 9 1 x2.length (x2.flatMap eStr)] [(0, v_p_l), (1, .string p_club), (2, .int .i64 p_day), (9, v3), (19, v_p_l), (20, .int .i64 (p_l.length : Int)), (21, .int .i64 (i1 : Int))] 55 a w') ?_ ?_
        · refine wp_block ?_
          refine f_seq ?_
          refine f_region ?_
          refine lv S (rn_move (S.tm rfl)) rfl ?_; clear S; intro a S
          obtain ⟨b1, o1, hm1, hr2⟩ := rn_indexT (a := a) (x := .tmp 19) (y := .tmp 21) (ty := 0) sl_26 hs_p_l (get_mid hd1 hi1) rfl (S.tm rfl) (S.tm rfl)
          refine lv S (hr2 _) rfl ?_; clear S; intro a S
          clear hr2
          refine lv S (rn_ldA Tryd.isAgg59 Tryd.sizeOf59 (off := o1) (o := 0) (part := [.string y1.Who, .string y1.Club, .int .i64 y1.Day]) rfl rfl (S.tm rfl) (hm1.at S.emb0)) rfl ?_; clear S; intro a S
          refine l_alloc S Tryd.zeroValue59 (cs := [.string k_empty, .string k_empty, .int .i64 0]) rfl rfl ?_; clear S; intro a w5 b2 hz1 hk2 S
          refine lv S (rn_assign (S.tm rfl)) rfl ?_; clear S; intro a S
          refine l_store S (S.tm rfl) (S.tm rfl) (i := 0) (off := 0) rfl Tryd.sizeOf59 (vs := [.string y1.Who, .string y1.Club, .int .i64 y1.Day]) rfl rfl rfl rfl ?_; clear S; intro w6 hk3 S
          refine l_done ?_
          replace S := S.nf (L' := [.blk b2 [.string y1.Who, .string y1.Club, .int .i64 y1.Day] 59, .own v2 9 1 x1.length (x1.flatMap eStr)]) (K' := [(0, v_p_l), (1, .string p_club), (2, .int .i64 p_day), (9, v2), (10, .int .i64 (i1 : Int)), (11, .pointer (some ⟨b2, 0, none⟩)), (19, v_p_l), (20, .int .i64 (p_l.length : Int)), (21, .int .i64 (i1 : Int))]) [true, true] rfl ⟨rfl, rfl, rfl, rfl, rfl, rfl, rfl, rfl, rfl, trivial⟩
          refine then_n ?_
          refine f_seq ?_
          obtain ⟨j3, hj3, h⟩ := joinE h
          refine f_join (fun a w' => ∃ x3 : Bool, j3 x3 = some r ∧ Sx w [] nov [.blk b2 [.string y1.Who, .string y1.Club, .int .i64 y1.Day] 59, .own v2 9 1 x1.length (x1.flatMap eStr)] [(0, v_p_l), (1, .string p_club), (2, .int .i64 p_day), (9, v2), (11, .pointer (some ⟨b2, 0, none⟩)), (19, v_p_l), (20, .int .i64 (p_l.length : Int)), (21, .int .i64 (i1 : Int)), (47, .bool x3)] 55 a w') ?_ ?_
          · rcases Bool.eq_false_or_eq_true (decide ((i1 : Int) = 0)) with hb2 | hb2
            · replace h := iteT h hb2
              rcases Bool.eq_false_or_eq_true true with hb3 | hb3
              · replace h := iteT h hb3
                refine d_region [] ([]) Tryd.mixed S rfl (by kernel_rfl) ?_; clear S; intro w9 hk5 hsel S
                refine d_quiet 0 S hsel rfl rfl rfl (by kernel_rfl) (by kernel_rfl) rfl (fun _ hw => (rn_move (S.tm rfl))) ?_; clear S; intro a S
                refine d_quiet 1 S hsel rfl rfl rfl (by kernel_rfl) (by kernel_rfl) rfl (fun _ hw => (rn_eql (S.tm rfl) rfl)) ?_; clear S; intro a S
                refine d_quiet 2 S hsel rfl rfl rfl (by kernel_rfl) (by kernel_rfl) rfl (fun _ hw => (rn_move (S.tm rfl))) ?_; clear S; intro a S
                refine d_skip 3 S hsel rfl rfl rfl rfl (neq_t hb2) rfl (by kernel_rfl) (by kernel_rfl) rfl ?_; clear S; intro a S
                refine d_skip 4 S hsel rfl rfl rfl rfl (neq_t hb2) rfl (by kernel_rfl) (by kernel_rfl) rfl ?_; clear S; intro a S
                refine d_skip 5 S hsel rfl rfl rfl rfl (neq_t hb2) rfl (by kernel_rfl) (by kernel_rfl) rfl ?_; clear S; intro a S
                refine d_skip 6 S hsel rfl rfl rfl rfl (neq_t hb2) rfl (by kernel_rfl) (by kernel_rfl) rfl ?_; clear S; intro a S
                refine d_skip 7 S hsel rfl rfl rfl rfl (neq_t hb2) rfl (by kernel_rfl) (by kernel_rfl) rfl ?_; clear S; intro a S
                refine d_skip 8 S hsel rfl rfl rfl rfl (neq_t hb2) rfl (by kernel_rfl) (by kernel_rfl) rfl ?_; clear S; intro a S
                refine d_skip 9 S hsel rfl rfl rfl rfl (neq_t hb2) rfl (by kernel_rfl) (by kernel_rfl) rfl ?_; clear S; intro a S
                refine d_skip 10 S hsel rfl rfl rfl rfl (neq_t hb2) rfl (by kernel_rfl) (by kernel_rfl) rfl ?_; clear S; intro a S
                refine d_skip 11 S hsel rfl rfl rfl rfl (neq_t hb2) rfl (by kernel_rfl) (by kernel_rfl) rfl ?_; clear S; intro a S
                refine d_quiet 12 S hsel rfl rfl rfl (by kernel_rfl) (by kernel_rfl) rfl (fun _ hw => (rn_pick_b hb2 (S.tm rfl) rfl)) ?_; clear S; intro a S
                refine d_quiet 13 S hsel rfl rfl rfl (by kernel_rfl) (by kernel_rfl) rfl (fun _ hw => (rn_move (S.tm rfl))) ?_; clear S; intro a S
                refine d_quiet_g 14 S hsel rfl rfl rfl rfl hb3 rfl rfl (by kernel_rfl) (by kernel_rfl) rfl (fun _ hw => (rn_move (S.tm rfl))) ?_; clear S; intro a S
                refine d_quiet_g 15 S hsel rfl rfl rfl rfl hb3 rfl rfl (by kernel_rfl) (by kernel_rfl) rfl (fun _ hw => (rn_fld fa_59_0 (S.tm rfl))) ?_; clear S; intro a S
                refine d_quiet_g 16 S hsel rfl rfl rfl rfl hb3 rfl rfl (by kernel_rfl) (by kernel_rfl) rfl (fun _ hw => (rn_ld Tryd.isAgg9 (off := 0) (o := 0) (S.tm rfl) ((S.blk_mem (i := 0) (cells := [.string y1.Who, .string y1.Club, .int .i64 y1.Day]) (b := b2) (T := 59) rfl (ne_nil (e' := .blk b2 [.string y1.Who, .string y1.Club, .int .i64 y1.Day] 59))).kept hw) rfl)) ?_; clear S; intro a S
                refine d_quiet_g 17 S hsel rfl rfl rfl rfl hb3 rfl rfl (by kernel_rfl) (by kernel_rfl) rfl (fun _ hw => (rn_move (S.tm rfl))) ?_; clear S; intro a S
                refine d_quiet_g 19 S hsel rfl rfl rfl rfl hb3 rfl rfl (by kernel_rfl) (by kernel_rfl) rfl (fun _ hw => (rn_move (S.tm rfl))) ?_; clear S; intro a S
                refine d_loud1 18 (by kernel_rfl) rfl ?_
                refine l_want S rfl rfl rfl hb3 ?_
                refine l_enter S (fun _ => run_call (vs := [v_p_l, .string y1.Who, .int .i64 p_day]) ⟨(S.tm rfl), (S.tm rfl), (S.tm rfl), trivial⟩ Tryd.call30) (swimmer_clubAt_ok _ v_p_l p_l (hs_p_l.mono (S.le_arg nil_sub)) y1.Who p_day _ rfl) rfl ?_; clear S; intro v5 a w10 hv3 hk6 hn3 S
                subst hv3
                refine l_done ?_
                refine d_next hk6 ?_
                refine d_rest [20, 21] hsel (by kernel_rfl) rfl ?_
                clear hsel
                refine s_want S rfl rfl rfl rfl hb3 ?_
                refine s_lv0 S (rn_seql (S.tm rfl) (S.tm rfl)) rfl ?_; clear S; intro a S
                refine s_lv S rfl (rn_pick_b hb3 (S.tm rfl) (S.tm rfl)) rfl ?_; clear S; intro a S
                refine s_done ?_
                replace S := S.nf (L' := [.blk b2 [.string y1.Who, .string y1.Club, .int .i64 y1.Day] 59, .own v2 9 1 x1.length (x1.flatMap eStr)]) (K' := [(0, v_p_l), (1, .string p_club), (2, .int .i64 p_day), (9, v2), (11, .pointer (some ⟨b2, 0, none⟩)), (19, v_p_l), (20, .int .i64 (p_l.length : Int)), (21, .int .i64 (i1 : Int)), (40, v_p_l), (41, .pointer (some ⟨b2, 0, none⟩)), (42, .string y1.Who), (43, .int .i64 p_day), (44, .string (swimmer_clubAt p_l y1.Who p_day)), (45, .string p_club), (46, .bool (decide ((swimmer_clubAt p_l y1.Who p_day) = p_club))), (47, .bool (decide ((swimmer_clubAt p_l y1.Who p_day) = p_club)))]) [true, true] rfl ⟨rfl, rfl, rfl, rfl, rfl, rfl, rfl, rfl, rfl, rfl, rfl, rfl, rfl, rfl, rfl, rfl, trivial⟩
                refine then_n ?_
                exact ⟨decide ((swimmer_clubAt p_l y1.Who p_day) = p_club), h, S.nf [true, true] rfl ⟨rfl, rfl, rfl, rfl, rfl, rfl, rfl, rfl, rfl, trivial⟩⟩
              · replace h := iteF h hb3
                refine d_region [] ([]) Tryd.mixed S rfl (by kernel_rfl) ?_; clear S; intro w11 hk7 hsel S
                refine d_rest [0, 1, 2, 3, 4, 5, 6, 7, 8, 9, 10, 11, 12, 13, 14, 15, 16, 17, 18, 19, 20, 21] hsel (by kernel_rfl) rfl ?_
                clear hsel
                refine s_lv S rfl (rn_move (S.tm rfl)) rfl ?_; clear S; intro a S
                refine s_lv S rfl (rn_eql (S.tm rfl) rfl) rfl ?_; clear S; intro a S
                refine s_lv S rfl (rn_move (S.tm rfl)) rfl ?_; clear S; intro a S
                refine s_skip S rfl rfl rfl rfl (neq_t hb2) rfl ?_ rfl; clear S; intro a S
                refine s_skip S rfl rfl rfl rfl (neq_t hb2) rfl ?_ rfl; clear S; intro a S
                refine s_skip S rfl rfl rfl rfl (neq_t hb2) rfl ?_ rfl; clear S; intro a S
                refine s_skip S rfl rfl rfl rfl (neq_t hb2) rfl ?_ rfl; clear S; intro a S
                refine s_skip S rfl rfl rfl rfl (neq_t hb2) rfl ?_ rfl; clear S; intro a S
                refine s_skip S rfl rfl rfl rfl (neq_t hb2) rfl ?_ rfl; clear S; intro a S
                refine s_skip S rfl rfl rfl rfl (neq_t hb2) rfl ?_ rfl; clear S; intro a S
                refine s_skip S rfl rfl rfl rfl (neq_t hb2) rfl ?_ rfl; clear S; intro a S
                refine s_skip S rfl rfl rfl rfl (neq_t hb2) rfl ?_ rfl; clear S; intro a S
                refine s_lv S rfl (rn_pick_b hb2 (S.tm rfl) rfl) rfl ?_; clear S; intro a S
                refine s_lv S rfl (rn_move (S.tm rfl)) rfl ?_; clear S; intro a S
                refine s_skip S rfl rfl rfl rfl (neq_f hb3) rfl ?_ rfl; clear S; intro a S
                refine s_skip S rfl rfl rfl rfl (neq_f hb3) rfl ?_ rfl; clear S; intro a S
                refine s_skip S rfl rfl rfl rfl (neq_f hb3) rfl ?_ rfl; clear S; intro a S
                refine s_skip S rfl rfl rfl rfl (neq_f hb3) rfl ?_ rfl; clear S; intro a S
                refine s_skip S rfl rfl rfl rfl (neq_f hb3) rfl ?_ rfl; clear S; intro a S
                refine s_skip S rfl rfl rfl rfl (neq_f hb3) rfl ?_ rfl; clear S; intro a S
                refine s_skip S rfl rfl rfl rfl (neq_f hb3) rfl ?_ rfl; clear S; intro a S
                refine s_lv S rfl (rn_pick_c hb3 (S.tm rfl) rfl) rfl ?_; clear S; intro a S
                refine s_done ?_
                replace S := S.nf (L' := [.blk b2 [.string y1.Who, .string y1.Club, .int .i64 y1.Day] 59, .own v2 9 1 x1.length (x1.flatMap eStr)]) (K' := [(0, v_p_l), (1, .string p_club), (2, .int .i64 p_day), (9, v2), (11, .pointer (some ⟨b2, 0, none⟩)), (19, v_p_l), (20, .int .i64 (p_l.length : Int)), (21, .int .i64 (i1 : Int)), (47, .bool false)]) [true, true] rfl ⟨rfl, rfl, rfl, rfl, rfl, rfl, rfl, rfl, rfl, trivial⟩
                refine then_n ?_
                exact ⟨false, h, S.nf [true, true] rfl ⟨rfl, rfl, rfl, rfl, rfl, rfl, rfl, rfl, rfl, trivial⟩⟩
            · replace h := iteF h hb2
              obtain ⟨hc1, h⟩ := chkE h
              rcases Bool.eq_false_or_eq_true (!decide (((nth p_l (W ((i1 : Int) - 1))).Who) = y1.Who)) with hb4 | hb4
              · replace h := iteT h hb4
                refine d_region [] ([]) Tryd.mixed S rfl (by kernel_rfl) ?_; clear S; intro w13 hk9 hsel S
                refine d_quiet 0 S hsel rfl rfl rfl (by kernel_rfl) (by kernel_rfl) rfl (fun _ hw => (rn_move (S.tm rfl))) ?_; clear S; intro a S
                refine d_quiet 1 S hsel rfl rfl rfl (by kernel_rfl) (by kernel_rfl) rfl (fun _ hw => (rn_eql (S.tm rfl) rfl)) ?_; clear S; intro a S
                refine d_quiet 2 S hsel rfl rfl rfl (by kernel_rfl) (by kernel_rfl) rfl (fun _ hw => (rn_move (S.tm rfl))) ?_; clear S; intro a S
                refine d_quiet_g 3 S hsel rfl rfl rfl rfl hb2 rfl rfl (by kernel_rfl) (by kernel_rfl) rfl (fun _ hw => (rn_move (S.tm rfl))) ?_; clear S; intro a S
                refine d_quiet_g 4 S hsel rfl rfl rfl rfl hb2 rfl rfl (by kernel_rfl) (by kernel_rfl) rfl (fun _ hw => (rn_move (S.tm rfl))) ?_; clear S; intro a S
                refine d_quiet_g 5 S hsel rfl rfl rfl rfl hb2 rfl rfl (by kernel_rfl) (by kernel_rfl) rfl (fun _ hw => (rn_sub (S.tm rfl) rfl)) ?_; clear S; intro a S
                obtain ⟨b5, o4, hm4, hr5⟩ := rn_indexT (a := a) (x := .tmp 29) (y := .tmp 31) (ty := 0) sl_26 (hs_p_l.mono (S.le_arg nil_sub)) (inB_get hc1).1 (inB_get hc1).2 (S.tm rfl) (S.tm rfl)
                refine d_quiet_g 6 S hsel rfl rfl rfl rfl hb2 rfl rfl (by kernel_rfl) (by kernel_rfl) rfl (fun _ hw => hr5 _) ?_; clear S; intro a S
                clear hr5
                refine d_quiet_g 7 S hsel rfl rfl rfl rfl hb2 rfl rfl (by kernel_rfl) (by kernel_rfl) rfl (fun _ hw => (rn_fld fa_59_0 (S.tm rfl))) ?_; clear S; intro a S
                refine d_quiet_g 8 S hsel rfl rfl rfl rfl hb2 rfl rfl (by kernel_rfl) (by kernel_rfl) rfl (fun _ hw => (rn_ld Tryd.isAgg9 (off := o4) (o := 0) (S.tm rfl) (hm4.kept hw) rfl)) ?_; clear S; intro a S
                refine d_quiet_g 9 S hsel rfl rfl rfl rfl hb2 rfl rfl (by kernel_rfl) (by kernel_rfl) rfl (fun _ hw => (rn_fld fa_59_0 (S.tm rfl))) ?_; clear S; intro a S
                refine d_quiet_g 10 S hsel rfl rfl rfl rfl hb2 rfl rfl (by kernel_rfl) (by kernel_rfl) rfl (fun _ hw => (rn_ld Tryd.isAgg9 (off := 0) (o := 0) (S.tm rfl) ((S.blk_mem (i := 0) (cells := [.string y1.Who, .string y1.Club, .int .i64 y1.Day]) (b := b2) (T := 59) rfl (ne_nil (e' := .blk b2 [.string y1.Who, .string y1.Club, .int .i64 y1.Day] 59))).kept hw) rfl)) ?_; clear S; intro a S
                refine d_quiet_g 11 S hsel rfl rfl rfl rfl hb2 rfl rfl (by kernel_rfl) (by kernel_rfl) rfl (fun _ hw => (rn_sneq (S.tm rfl) (S.tm rfl))) ?_; clear S; intro a S
                refine d_quiet 12 S hsel rfl rfl rfl (by kernel_rfl) (by kernel_rfl) rfl (fun _ hw => (rn_pick_c hb2 (S.tm rfl) (S.tm rfl))) ?_; clear S; intro a S
                refine d_quiet 13 S hsel rfl rfl rfl (by kernel_rfl) (by kernel_rfl) rfl (fun _ hw => (rn_move (S.tm rfl))) ?_; clear S; intro a S
                refine d_quiet_g 14 S hsel rfl rfl rfl rfl hb4 rfl rfl (by kernel_rfl) (by kernel_rfl) rfl (fun _ hw => (rn_move (S.tm rfl))) ?_; clear S; intro a S
                refine d_quiet_g 15 S hsel rfl rfl rfl rfl hb4 rfl rfl (by kernel_rfl) (by kernel_rfl) rfl (fun _ hw => (rn_fld fa_59_0 (S.tm rfl))) ?_; clear S; intro a S
                refine d_quiet_g 16 S hsel rfl rfl rfl rfl hb4 rfl rfl (by kernel_rfl) (by kernel_rfl) rfl (fun _ hw => (rn_ld Tryd.isAgg9 (off := 0) (o := 0) (S.tm rfl) ((S.blk_mem (i := 0) (cells := [.string y1.Who, .string y1.Club, .int .i64 y1.Day]) (b := b2) (T := 59) rfl (ne_nil (e' := .blk b2 [.string y1.Who, .string y1.Club, .int .i64 y1.Day] 59))).kept hw) rfl)) ?_; clear S; intro a S
                refine d_quiet_g 17 S hsel rfl rfl rfl rfl hb4 rfl rfl (by kernel_rfl) (by kernel_rfl) rfl (fun _ hw => (rn_move (S.tm rfl))) ?_; clear S; intro a S
                refine d_quiet_g 19 S hsel rfl rfl rfl rfl hb4 rfl rfl (by kernel_rfl) (by kernel_rfl) rfl (fun _ hw => (rn_move (S.tm rfl))) ?_; clear S; intro a S
                refine d_loud1 18 (by kernel_rfl) rfl ?_
                refine l_want S rfl rfl rfl hb4 ?_
                refine l_enter S (fun _ => run_call (vs := [v_p_l, .string y1.Who, .int .i64 p_day]) ⟨(S.tm rfl), (S.tm rfl), (S.tm rfl), trivial⟩ Tryd.call30) (swimmer_clubAt_ok _ v_p_l p_l (hs_p_l.mono (S.le_arg nil_sub)) y1.Who p_day _ rfl) rfl ?_; clear S; intro v7 a w14 hv5 hk10 hn5 S
                subst hv5
                refine l_done ?_
                refine d_next hk10 ?_
                refine d_rest [20, 21] hsel (by kernel_rfl) rfl ?_
                clear hsel
                refine s_want S rfl rfl rfl rfl hb4 ?_
                refine s_lv0 S (rn_seql (S.tm rfl) (S.tm rfl)) rfl ?_; clear S; intro a S
                refine s_lv S rfl (rn_pick_b hb4 (S.tm rfl) (S.tm rfl)) rfl ?_; clear S; intro a S
                refine s_done ?_
                replace S := S.nf (L' := [.blk b2 [.string y1.Who, .string y1.Club, .int .i64 y1.Day] 59, .own v2 9 1 x1.length (x1.flatMap eStr)]) (K' := [(0, v_p_l), (1, .string p_club), (2, .int .i64 p_day), (9, v2), (11, .pointer (some ⟨b2, 0, none⟩)), (19, v_p_l), (20, .int .i64 (p_l.length : Int)), (21, .int .i64 (i1 : Int)), (29, v_p_l), (30, .int .i64 (i1 : Int)), (31, .int .i64 (W ((i1 : Int) - 1))), (32, .pointer (some ⟨b5, o4, none⟩)), (33, .pointer (some ⟨b5, o4, none⟩)), (34, .string ((nth p_l (W ((i1 : Int) - 1))).Who)), (35, .pointer (some ⟨b2, 0, none⟩)), (36, .string y1.Who), (37, .bool (!decide (((nth p_l (W ((i1 : Int) - 1))).Who) = y1.Who))), (40, v_p_l), (41, .pointer (some ⟨b2, 0, none⟩)), (42, .string y1.Who), (43, .int .i64 p_day), (44, .string (swimmer_clubAt p_l y1.Who p_day)), (45, .string p_club), (46, .bool (decide ((swimmer_clubAt p_l y1.Who p_day) = p_club))), (47, .bool (decide ((swimmer_clubAt p_l y1.Who p_day) = p_club)))]) [true, true] rfl ⟨rfl, rfl, rfl, rfl, rfl, rfl, rfl, rfl, rfl, rfl, rfl, rfl, rfl, rfl, rfl, rfl, rfl, rfl, rfl, rfl, rfl, rfl, rfl, rfl, rfl, trivial⟩
                refine then_n ?_
                exact ⟨decide ((swimmer_clubAt p_l y1.Who p_day) = p_club), h, S.nf [true, true] rfl ⟨rfl, rfl, rfl, rfl, rfl, rfl, rfl, rfl, rfl, trivial⟩⟩
              · replace h := iteF h hb4
                refine d_region [] ([]) Tryd.mixed S rfl (by kernel_rfl) ?_; clear S; intro w15 hk11 hsel S
                refine d_rest [0, 1, 2, 3, 4, 5, 6, 7, 8, 9, 10, 11, 12, 13, 14, 15, 16, 17, 18, 19, 20, 21] hsel (by kernel_rfl) rfl ?_
                clear hsel
                refine s_lv S rfl (rn_move (S.tm rfl)) rfl ?_; clear S; intro a S
                refine s_lv S rfl (rn_eql (S.tm rfl) rfl) rfl ?_; clear S; intro a S
                refine s_lv S rfl (rn_move (S.tm rfl)) rfl ?_; clear S; intro a S
                refine s_want S rfl rfl rfl rfl hb2 ?_
                refine s_lv0 S (rn_move (S.tm rfl)) rfl ?_; clear S; intro a S
                refine s_want S rfl rfl rfl rfl hb2 ?_
                refine s_lv0 S (rn_move (S.tm rfl)) rfl ?_; clear S; intro a S
                refine s_want S rfl rfl rfl rfl hb2 ?_
                refine s_lv0 S (rn_sub (S.tm rfl) rfl) rfl ?_; clear S; intro a S
                refine s_want S rfl rfl rfl rfl hb2 ?_
                obtain ⟨hc2, h⟩ := chkE h
                obtain ⟨b6, o5, hm5, hr6⟩ := rn_indexT (a := a) (x := .tmp 29) (y := .tmp 31) (ty := 0) sl_26 hs_p_l (inB_get hc2).1 (inB_get hc2).2 (S.tm rfl) (S.tm rfl)
                refine s_lv0 S (hr6 _) rfl ?_; clear S; intro a S
                clear hr6
                refine s_want S rfl rfl rfl rfl hb2 ?_
                refine s_lv0 S (rn_fld fa_59_0 (S.tm rfl)) rfl ?_; clear S; intro a S
                refine s_want S rfl rfl rfl rfl hb2 ?_
                refine s_lv0 S (rn_ld Tryd.isAgg9 (off := o5) (o := 0) (S.tm rfl) (hm5.at S.emb0) rfl) rfl ?_; clear S; intro a S
                refine s_want S rfl rfl rfl rfl hb2 ?_
                refine s_lv0 S (rn_fld fa_59_0 (S.tm rfl)) rfl ?_; clear S; intro a S
                refine s_want S rfl rfl rfl rfl hb2 ?_
                refine s_lv0 S (rn_load Tryd.isAgg9 (S.tm rfl) (S.cell (i := 0) rfl rfl)) rfl ?_; clear S; intro a S
                refine s_want S rfl rfl rfl rfl hb2 ?_
                refine s_lv0 S (rn_sneq (S.tm rfl) (S.tm rfl)) rfl ?_; clear S; intro a S
                refine s_lv S rfl (rn_pick_c hb2 (S.tm rfl) (S.tm rfl)) rfl ?_; clear S; intro a S
                refine s_lv S rfl (rn_move (S.tm rfl)) rfl ?_; clear S; intro a S
                refine s_skip S rfl rfl rfl rfl (neq_f hb4) rfl ?_ rfl; clear S; intro a S
                refine s_skip S rfl rfl rfl rfl (neq_f hb4) rfl ?_ rfl; clear S; intro a S
                refine s_skip S rfl rfl rfl rfl (neq_f hb4) rfl ?_ rfl; clear S; intro a S
                refine s_skip S rfl rfl rfl rfl (neq_f hb4) rfl ?_ rfl; clear S; intro a S
                refine s_skip S rfl rfl rfl rfl (neq_f hb4) rfl ?_ rfl; clear S; intro a S
                refine s_skip S rfl rfl rfl rfl (neq_f hb4) rfl ?_ rfl; clear S; intro a S
                refine s_skip S rfl rfl rfl rfl (neq_f hb4) rfl ?_ rfl; clear S; intro a S
                refine s_lv S rfl (rn_pick_c hb4 (S.tm rfl) rfl) rfl ?_; clear S; intro a S
                refine s_done ?_
                replace S := S.nf (L' := [.blk b2 [.string y1.Who, .string y1.Club, .int .i64 y1.Day] 59, .own v2 9 1 x1.length (x1.flatMap eStr)]) (K' := [(0, v_p_l), (1, .string p_club), (2, .int .i64 p_day), (9, v2), (11, .pointer (some ⟨b2, 0, none⟩)), (19, v_p_l), (20, .int .i64 (p_l.length : Int)), (21, .int .i64 (i1 : Int)), (29, v_p_l), (30, .int .i64 (i1 : Int)), (31, .int .i64 (W ((i1 : Int) - 1))), (32, .pointer (some ⟨b6, o5, none⟩)), (33, .pointer (some ⟨b6, o5, none⟩)), (34, .string ((nth p_l (W ((i1 : Int) - 1))).Who)), (35, .pointer (some ⟨b2, 0, none⟩)), (36, .string y1.Who), (37, .bool (!decide (((nth p_l (W ((i1 : Int) - 1))).Who) = y1.Who))), (47, .bool false)]) [true, true] rfl ⟨rfl, rfl, rfl, rfl, rfl, rfl, rfl, rfl, rfl, rfl, rfl, rfl, rfl, rfl, rfl, rfl, rfl, rfl, trivial⟩
                refine then_n ?_
                exact ⟨false, h, S.nf [true, true] rfl ⟨rfl, rfl, rfl, rfl, rfl, rfl, rfl, rfl, rfl, trivial⟩⟩
          clear S h; rintro a w7 ⟨x3, h, S⟩; rw [hj3] at h; clear hj3 j3
          refine then_n ?_
          obtain ⟨j4, hj4, h⟩ := joinE h
          refine f_join (fun a w' => ∃ x4 : List ByteArray, ∃ v8 : Value, j4 x4 = some r ∧ Sx w [] nov [.own v8 9 1 x4.length (x4.flatMap eStr)] [(0, v_p_l), (1, .string p_club), (2, .int .i64 p_day), (9, v8), (19, v_p_l), (20, .int .i64 (p_l.length : Int)), (21, .int .i64 (i1 : Int))] 55 a w') ?_ ?_
          · refine f_cond (S.tm rfl) (fun hb5 => ?_) (fun hb5 => ?_)
            · replace h := iteT h hb5
              refine f_region ?_
              refine lv S (rn_move (S.tm rfl)) rfl ?_; clear S; intro a S
              refine lv S (rn_fld fa_59_0 (S.tm rfl)) rfl ?_; clear S; intro a S
              refine lv S (rn_load Tryd.isAgg9 (S.tm rfl) (S.cell (i := 0) rfl rfl)) rfl ?_; clear S; intro a S
              refine l_buildSlice S Tryd.underlying33 Tryd.sizeOf9 Tryd.zeroValue9 rfl rfl (pv := [(0, .string y1.Who)]) ⟨rfl, (S.tm rfl), trivial⟩ (cs := [.string y1.Who]) (by kernel_rfl) rfl ?_; clear S; intro a w17 b7 hz2 hk12 S
              obtain ⟨hc3, h⟩ := chkE h
              refine l_appendT sl_33 enc_str S (S.tm rfl) (i := 2) rfl (S.tm rfl) (j := 0) rfl (ys := [y1.Who]) rfl rfl rfl rfl (by have := room_lt hc3; omega) rfl ?_; clear S; intro v9 a w18 hk13 S
              refine lv S (rn_assign (S.tm rfl)) rfl ?_; clear S; intro a S
              refine l_done ?_
              replace S := S.nf (L' := [.own v9 9 1 (x1 ++ [y1.Who]).length ((x1 ++ [y1.Who]).flatMap eStr)]) (K' := [(0, v_p_l), (1, .string p_club), (2, .int .i64 p_day), (9, v9), (19, v_p_l), (20, .int .i64 (p_l.length : Int)), (21, .int .i64 (i1 : Int))]) [false, false, true] rfl ⟨rfl, rfl, rfl, rfl, rfl, rfl, rfl, trivial⟩
              refine then_n ?_
              exact ⟨(x1 ++ [y1.Who]), v9, h, S.nf [true] rfl ⟨rfl, rfl, rfl, rfl, rfl, rfl, rfl, trivial⟩⟩
            · replace h := iteF h hb5
              refine wp_skip ?_
              refine then_n ?_
              exact ⟨x1, v2, h, S.nf [false, true] rfl ⟨rfl, rfl, rfl, rfl, rfl, rfl, rfl, trivial⟩⟩
          clear S h; rintro a w16 ⟨x4, v8, h, S⟩; rw [hj4] at h; clear hj4 j4
          refine blk_n ?_
          refine then_n ?_
          exact ⟨x4, v8, h, S.nf [true] rfl ⟨rfl, rfl, rfl, rfl, rfl, rfl, rfl, trivial⟩⟩
        clear S h; rintro a w4 ⟨x2, v3, h, S⟩; rw [hj2] at h; clear hj2 j2
        refine then_n ?_
        refine f_region ?_
        refine lv S (rn_add (S.tm rfl) rfl) rfl ?_; clear S; intro a S
        refine lv S (rn_move (S.tm rfl)) rfl ?_; clear S; intro a S
        refine l_done ?_
        replace S := S.nf (L' := [.own v3 9 1 x2.length (x2.flatMap eStr)]) (K' := [(0, v_p_l), (1, .string p_club), (2, .int .i64 p_day), (9, v3), (19, v_p_l), (20, .int .i64 (p_l.length : Int)), (21, .int .i64 (W ((i1 : Int) + 1)))]) [true] rfl ⟨rfl, rfl, rfl, rfl, rfl, rfl, rfl, trivial⟩
        refine then_n ?_
        exact ⟨ys1, ⟨i1 + 1, x2, v3, ⟨_, (hd1).trans (List.append_cons _ _ _), by simp [hi1]⟩, h, S.nf [true] rfl ⟨rfl, rfl, rfl, rfl, rfl, rfl, (congrArg (fun z => some (Value.int .i64 z)) (rng_next hd1 hi1 (slc_max hs_p_l))), trivial⟩⟩, Nat.lt_succ_self _⟩
    clear S h; rintro a w3 ⟨x1, v2, h, S⟩; rw [hj1] at h; clear hj1 j1
    refine then_n ?_
    refine f_seq ?_
    refine f_region ?_
    refine lv S (rn_move (S.tm rfl)) rfl ?_; clear S; intro a S
    refine lv S (rn_assign (S.tm rfl)) rfl ?_; clear S; intro a S
    refine lv S (rn_assign rfl) rfl ?_; clear S; intro a S
    refine l_done ?_
    replace S := S.nf (L' := [.own v2 9 1 x1.length (x1.flatMap eStr)]) (K' := [(6, v2), (7, .int .i64 0)]) [true] rfl ⟨rfl, rfl, trivial⟩
    refine then_n ?_
    refine wp_ret ?_
    obtain rfl := Option.some.inj h
    exact f_ret2 S Tryd.results8 rfl rfl ⟨_, rfl, (own_retT S (i := 0) rfl rfl)⟩
theorem tumbref2_in_ok (w : World) (p_n : Int) (p_low : Int) (p_high : Int) (r : Bool) (h : tumbref2_in p_n p_low p_high = r) :
    Calls Tryd.prog 33 [.int .i64 p_n, .int .i64 p_low, .int .i64 p_high].toArray w (Ret w [] fun τ v w' => v = .bool r) := by
  refine f_enter [] [] Tryd.func33 rfl Tryd.ntmps33 rfl (by simp) (by simp [fps]) (by simp [fps]) fun a S => ?_
  unfold tumbref2_in at h
  replace S := S.nf (L' := []) (K' := [(0, .int .i64 p_n), (1, .int .i64 p_low), (2, .int .i64 p_high)]) [] rfl ⟨rfl, rfl, rfl, trivial⟩
  refine f_seq ?_
  refine f_region ?_
  refine lv S (rn_assign rfl) rfl ?_; clear S; intro a S
  refine l_done ?_
  replace S := S.nf (L' := []) (K' := [(0, .int .i64 p_n), (1, .int .i64 p_low), (2, .int .i64 p_high)]) [] rfl ⟨rfl, rfl, rfl, trivial⟩
  refine then_n ?_
  refine f_seq ?_
  refine f_region ?_
  refine lv S (rn_move (S.tm rfl)) rfl ?_; clear S; intro a S
  refine lv S (rn_move (S.tm rfl)) rfl ?_; clear S; intro a S
  refine lv S (rn_leq (S.tm rfl) (S.tm rfl)) rfl ?_; clear S; intro a S
  refine lv S (rn_move (S.tm rfl)) rfl ?_; clear S; intro a S
  refine f_cutm 4 (fun a w' => Keep [] w w' ∧ Sx w [] nov [] [(14, .bool ((decide (p_low ≤ p_n)) && (decide (p_n ≤ p_high))))] 15 a w') ?_ ?_
  · rcases Bool.eq_false_or_eq_true (decide (p_low ≤ p_n)) with hb1 | hb1
    · refine l_want S rfl rfl rfl hb1 ?_
      refine lv S (rn_move (S.tm rfl)) rfl ?_; clear S; intro a S
      refine l_want S rfl rfl rfl hb1 ?_
      refine lv S (rn_move (S.tm rfl)) rfl ?_; clear S; intro a S
      refine l_want S rfl rfl rfl hb1 ?_
      refine lv S (rn_leq (S.tm rfl) (S.tm rfl)) rfl ?_; clear S; intro a S
      refine lv S (rn_and_t hb1 (S.tm rfl) (S.tm rfl)) rfl ?_; clear S; intro a S
      refine l_done ?_
      refine then_n ?_
      exact ⟨Keep.refl _ _, S.nf [] rfl ⟨rfl, trivial⟩⟩
    · refine l_skip S rfl rfl rfl (neq_f hb1) rfl ?_ rfl; clear S; intro a S
      refine l_skip S rfl rfl rfl (neq_f hb1) rfl ?_ rfl; clear S; intro a S
      refine l_skip S rfl rfl rfl (neq_f hb1) rfl ?_ rfl; clear S; intro a S
      refine lv S (rn_and_f (decide (p_n ≤ p_high)) hb1 (S.tm rfl) rfl) rfl ?_; clear S; intro a S
      refine l_done ?_
      refine then_n ?_
      exact ⟨Keep.refl _ _, S.nf [] rfl ⟨rfl, trivial⟩⟩
  clear S; rintro a w1 ⟨hk1, S⟩
  refine lv S (rn_assign (S.tm rfl)) rfl ?_; clear S; intro a S
  refine l_done ?_
  replace S := S.nf (L' := []) (K' := [(6, .bool ((decide (p_low ≤ p_n)) && (decide (p_n ≤ p_high))))]) [] rfl ⟨rfl, trivial⟩
  refine then_n ?_
  refine wp_ret ?_
  subst h
  exact f_ret S Tryd.results33 rfl rfl
theorem strings_IndexByte_ok (w : World) (s : ByteArray) (c : Int) (r : Int) (h : strings_IndexByte s c = r) : Calls Tryd.prog 60 [.string s, .int .u8 c].toArray w (Ret w [] fun _ v _ => v = .int .i64 r) := by
  subst h
  exact ret_of_same (Any.strings_IndexByte Tryd.lays137 s c w)
theorem tumbref2_only_ok (w : World) (p_s : ByteArray) (p_some : ByteArray) (r : Bool) (h : tumbref2_only p_s p_some = some r) :
    Calls Tryd.prog 50 [.string p_s, .string p_some].toArray w (Ret w [] fun τ v w' => v = .bool r) := by
  refine f_enter [] [] Tryd.func50 rfl Tryd.ntmps50 rfl (by simp) (by simp [fps]) (by simp [fps]) fun a S => ?_
  unfold tumbref2_only at h
  replace S := S.nf (L' := []) (K' := [(0, .string p_s), (1, .string p_some)]) [] rfl ⟨rfl, rfl, trivial⟩
  refine f_seq ?_
  refine f_region ?_
  refine lv S (rn_assign rfl) rfl ?_; clear S; intro a S
  refine l_done ?_
  replace S := S.nf (L' := []) (K' := [(0, .string p_s), (1, .string p_some)]) [] rfl ⟨rfl, rfl, trivial⟩
  refine then_n ?_
  refine f_seq ?_
  refine f_seq ?_
  refine f_region ?_
  refine lv S (rn_move (S.tm rfl)) rfl ?_; clear S; intro a S
  refine lv S (rn_len_str Tryd.underlying9 (S.tm rfl)) rfl ?_; clear S; intro a S
  refine lv S (rn_move rfl) rfl ?_; clear S; intro a S
  refine l_done ?_
  replace S := S.nf (L' := []) (K' := [(0, .string p_s), (1, .string p_some), (7, .int .i64 (p_s.size : Int)), (8, .int .i64 0)]) [] rfl ⟨rfl, rfl, rfl, rfl, trivial⟩
  refine then_n ?_
  obtain ⟨j1, hj1, h⟩ := joinE h
  refine f_join (fun a w' => j1 = some r ∧ Sx w [] nov [] [] 18 a w') ?_ ?_
  · refine wp_block ?_
    refine f_loop (fun (m1 : Nat) a w' => ∃ x1 : Int, tumbref2_only_l1 p_s p_some j1 m1 x1 = some r ∧ Sx w [] nov [] [(0, .string p_s), (1, .string p_some), (7, .int .i64 (p_s.size : Int)), (8, .int .i64 x1)] 18 a w') id (((p_s.size : Int) - 0).toNat + 2) ⟨0, h, S.nf [] rfl ⟨rfl, rfl, rfl, rfl, trivial⟩⟩ ?_
    clear S h; rintro m1 a w1 ⟨x1, h, S⟩
    cases m1 with
    | zero => rw [tumbref2_only_l1.eq_1] at h; cases h
    | succ m1 =>
      rw [tumbref2_only_l1.eq_2] at h
      refine f_seq ?_
      refine f_region ?_
      refine lv S (rn_lss (S.tm rfl) (S.tm rfl)) rfl ?_; clear S; intro a S
      refine l_done ?_
      replace S := S.nf (L' := []) (K' := [(0, .string p_s), (1, .string p_some), (7, .int .i64 (p_s.size : Int)), (8, .int .i64 x1), (9, .bool (decide (x1 < (p_s.size : Int))))]) [] rfl ⟨rfl, rfl, rfl, rfl, rfl, trivial⟩
      refine then_n ?_
      refine f_seq ?_
      refine f_cond (S.tm rfl) (fun hb1 => ?_) (fun hb1 => ?_)
      · replace h := iteT h hb1
        refine wp_skip ?_
        refine then_n ?_
        refine f_seq ?_
        refine wp_block ?_
        refine f_seq ?_
        refine f_region ?_
        refine lv S (rn_move (S.tm rfl)) rfl ?_; clear S; intro a S
        refine lv S (rn_assign (S.tm rfl)) rfl ?_; clear S; intro a S
        refine l_done ?_
        replace S := S.nf (L' := []) (K' := [(0, .string p_s), (1, .string p_some), (5, .int .i64 x1), (7, .int .i64 (p_s.size : Int)), (8, .int .i64 x1)]) [] rfl ⟨rfl, rfl, rfl, rfl, rfl, trivial⟩
        refine then_n ?_
        refine f_seq ?_
        refine f_region ?_
        refine lv S (rn_move (S.tm rfl)) rfl ?_; clear S; intro a S
        refine lv S (rn_move (S.tm rfl)) rfl ?_; clear S; intro a S
        refine lv S (rn_move (S.tm rfl)) rfl ?_; clear S; intro a S
        obtain ⟨hc1, h⟩ := chkE h
        refine lv S (rn_sindexT Tryd.underlying9 (S.tm rfl) (S.tm rfl) hc1) rfl ?_; clear S; intro a S
        refine l_enter S (fun _ => run_call (vs := [.string p_some, .int .u8 (sbyte p_s x1)]) ⟨(S.tm rfl), (S.tm rfl), trivial⟩ Tryd.call60) (strings_IndexByte_ok _ p_some (sbyte p_s x1) _ rfl) rfl ?_; clear S; intro v1 a w3 hv1 hk1 hn1 S
        subst hv1
        refine lv S (rn_lss (S.tm rfl) rfl) rfl ?_; clear S; intro a S
        refine l_done ?_
        replace S := S.nf (L' := []) (K' := [(0, .string p_s), (1, .string p_some), (7, .int .i64 (p_s.size : Int)), (8, .int .i64 x1), (16, .bool (decide ((strings_IndexByte p_some (sbyte p_s x1)) < 0)))]) [] rfl ⟨rfl, rfl, rfl, rfl, rfl, trivial⟩
        refine then_n ?_
        refine f_cond (S.tm rfl) (fun hb2 => ?_) (fun hb2 => ?_)
        · replace h := iteT h hb2
          refine f_seq ?_
          refine f_region ?_
          refine lv S (rn_assign rfl) rfl ?_; clear S; intro a S
          refine l_done ?_
          replace S := S.nf (L' := []) (K' := [(4, .bool false)]) [] rfl ⟨rfl, trivial⟩
          refine then_n ?_
          refine wp_ret ?_
          refine blk_r ?_
          refine then_r ?_
          refine then_r ?_
          refine blk_r ?_
          refine then_r ?_
          refine then_r ?_
          obtain rfl := Option.some.inj h
          exact f_ret S Tryd.results50 rfl rfl
        · replace h := iteF h hb2
          refine wp_skip ?_
          refine blk_n ?_
          refine then_n ?_
          refine f_region ?_
          refine lv S (rn_add (S.tm rfl) rfl) rfl ?_; clear S; intro a S
          refine lv S (rn_move (S.tm rfl)) rfl ?_; clear S; intro a S
          refine l_done ?_
          replace S := S.nf (L' := []) (K' := [(0, .string p_s), (1, .string p_some), (7, .int .i64 (p_s.size : Int)), (8, .int .i64 (W (x1 + 1)))]) [] rfl ⟨rfl, rfl, rfl, rfl, trivial⟩
          refine then_n ?_
          exact ⟨m1, ⟨W (x1 + 1), h, S.nf [] rfl ⟨rfl, rfl, rfl, rfl, trivial⟩⟩, Nat.lt_succ_self _⟩
      · replace h := iteF h hb1
        refine wp_exit ?_
        refine then_x ?_
        refine then_x ?_
        refine x_same ?_
        refine then_n ?_
        exact ⟨h, S.nf [] rfl trivial⟩
  clear S h; rintro a w2 ⟨h, S⟩; rw [hj1] at h; clear hj1 j1
  refine then_n ?_
  refine f_seq ?_
  refine f_region ?_
  refine lv S (rn_assign rfl) rfl ?_; clear S; intro a S
  refine l_done ?_
  replace S := S.nf (L' := []) (K' := [(4, .bool true)]) [] rfl ⟨rfl, trivial⟩
  refine then_n ?_
  refine wp_ret ?_
  obtain rfl := Option.some.inj h
  exact f_ret S Tryd.results50 rfl rfl
theorem tumbref2_Key_ok (w : World) (p_s : ByteArray) (r : Bool) (h : tumbref2_Key p_s = some r) :
    Calls Tryd.prog 31 [.string p_s].toArray w (Ret w [] fun τ v w' => v = .bool r) := by
  refine f_enter [] [] Tryd.func31 rfl Tryd.ntmps31 rfl (by simp) (by simp [fps]) (by simp [fps]) fun a S => ?_
  unfold tumbref2_Key at h
  replace S := S.nf (L' := []) (K' := [(0, .string p_s)]) [] rfl ⟨rfl, trivial⟩
  refine f_seq ?_
  refine f_region ?_
  refine lv S (rn_assign rfl) rfl ?_; clear S; intro a S
  refine l_done ?_
  replace S := S.nf (L' := []) (K' := [(0, .string p_s)]) [] rfl ⟨rfl, trivial⟩
  refine then_n ?_
  refine f_seq ?_
  refine f_region ?_
  refine lv S (rn_move (S.tm rfl)) rfl ?_; clear S; intro a S
  refine lv S (rn_len_str Tryd.underlying9 (S.tm rfl)) rfl ?_; clear S; intro a S
  refine l_enter S (fun _ => run_call (vs := [.int .i64 (p_s.size : Int), .int .i64 1, .int .i64 40]) ⟨(S.tm rfl), rfl, rfl, trivial⟩ Tryd.call33) (tumbref2_in_ok _ (p_s.size : Int) 1 40 _ rfl) rfl ?_; clear S; intro v1 a w1 hv1 hk1 hn1 S
  subst hv1
  refine lv S (rn_move (S.tm rfl)) rfl ?_; clear S; intro a S
  obtain ⟨j1, hj1, h⟩ := joinE h
  refine f_cutm 4 (fun a w' => ∃ c1, j1 c1 = some r ∧ Keep [] w1 w' ∧ Sx w [] nov [] [(0, .string p_s), (10, .bool c1)] 15 a w') ?_ ?_
  · rcases Bool.eq_false_or_eq_true (tumbref2_in (p_s.size : Int) 1 40) with hb1 | hb1
    · replace h := iteT h hb1
      refine l_want S rfl rfl rfl hb1 ?_
      refine lv S (rn_move (S.tm rfl)) rfl ?_; clear S; intro a S
      refine l_want S rfl rfl rfl hb1 ?_
      obtain ⟨hc1, h⟩ := chkE h
      refine lv S (rn_scutTh Tryd.underlying9 (S.tm rfl) rfl hc1) rfl ?_; clear S; intro a S
      refine l_want S rfl rfl rfl hb1 ?_
      obtain ⟨r1, hr1, h⟩ := bindE h
      refine l_enter S (fun _ => run_call (vs := [.string (scut p_s 0 1), .string k_abcdefghijklmnopqrstuvwxyz]) ⟨(S.tm rfl), rfl, trivial⟩ Tryd.call50) (tumbref2_only_ok _ (scut p_s 0 1) k_abcdefghijklmnopqrstuvwxyz _ hr1) rfl ?_; clear S; intro v2 a w3 hv2 hk2 hn2 S
      subst hv2
      refine lv S (rn_and_t hb1 (S.tm rfl) (S.tm rfl)) rfl ?_; clear S; intro a S
      refine l_done ?_
      refine then_n ?_
      exact ⟨_, h, hk2, S.nf [] rfl ⟨rfl, rfl, trivial⟩⟩
    · replace h := iteF h hb1
      refine l_skip S rfl rfl rfl (neq_f hb1) rfl ?_ rfl; clear S; intro a S
      refine l_skip S rfl rfl rfl (neq_f hb1) rfl ?_ rfl; clear S; intro a S
      refine l_skip S rfl rfl rfl (neq_f hb1) rfl ?_ rfl; clear S; intro a S
      refine lv S (rn_and_f true hb1 (S.tm rfl) rfl) rfl ?_; clear S; intro a S
      refine l_done ?_
      refine then_n ?_
      exact ⟨_, h, Keep.refl _ _, S.nf [] rfl ⟨rfl, rfl, trivial⟩⟩
  clear S h; rintro a w2 ⟨c1, h, hk3, S⟩; rw [hj1] at h; clear hj1 j1
  refine lv S (rn_move (S.tm rfl)) rfl ?_; clear S; intro a S
  obtain ⟨j2, hj2, h⟩ := joinE h
  refine f_cutm 3 (fun a w' => ∃ c2, j2 c2 = some r ∧ Keep [] w2 w' ∧ Sx w [] nov [] [(14, .bool c2)] 15 a w') ?_ ?_
  · rcases Bool.eq_false_or_eq_true c1 with hb2 | hb2
    · replace h := iteT h hb2
      refine l_want S rfl rfl rfl hb2 ?_
      refine lv S (rn_move (S.tm rfl)) rfl ?_; clear S; intro a S
      refine l_want S rfl rfl rfl hb2 ?_
      obtain ⟨r2, hr2, h⟩ := bindE h
      refine l_enter S (fun _ => run_call (vs := [.string p_s, .string k_abcdefghijkl_h0e2e2c]) ⟨(S.tm rfl), rfl, trivial⟩ Tryd.call50) (tumbref2_only_ok _ p_s k_abcdefghijkl_h0e2e2c _ hr2) rfl ?_; clear S; intro v3 a w5 hv3 hk4 hn3 S
      subst hv3
      refine lv S (rn_and_t hb2 (S.tm rfl) (S.tm rfl)) rfl ?_; clear S; intro a S
      refine l_done ?_
      refine then_n ?_
      exact ⟨_, h, hk4, S.nf [] rfl ⟨rfl, trivial⟩⟩
    · replace h := iteF h hb2
      refine l_skip S rfl rfl rfl (neq_f hb2) rfl ?_ rfl; clear S; intro a S
      refine l_skip S rfl rfl rfl (neq_f hb2) rfl ?_ rfl; clear S; intro a S
      refine lv S (rn_and_f true hb2 (S.tm rfl) rfl) rfl ?_; clear S; intro a S
      refine l_done ?_
      refine then_n ?_
      exact ⟨_, h, Keep.refl _ _, S.nf [] rfl ⟨rfl, trivial⟩⟩
  clear S h; rintro a w4 ⟨c2, h, hk5, S⟩; rw [hj2] at h; clear hj2 j2
  refine lv S (rn_assign (S.tm rfl)) rfl ?_; clear S; intro a S
  refine l_done ?_
  replace S := S.nf (L' := []) (K' := [(2, .bool c2)]) [] rfl ⟨rfl, trivial⟩
  refine then_n ?_
  refine wp_ret ?_
  obtain rfl := Option.some.inj h
  exact f_ret S Tryd.results31 rfl rfl
theorem tumbref2_Day_ok (w : World) (p_n : Int) (r : Bool) (h : tumbref2_Day p_n = r) :
    Calls Tryd.prog 13 [.int .i64 p_n].toArray w (Ret w [] fun τ v w' => v = .bool r) := by
  refine f_enter [] [] Tryd.func13 rfl Tryd.ntmps13 rfl (by simp) (by simp [fps]) (by simp [fps]) fun a S => ?_
  unfold tumbref2_Day at h
  replace S := S.nf (L' := []) (K' := [(0, .int .i64 p_n)]) [] rfl ⟨rfl, trivial⟩
  refine f_seq ?_
  refine f_region ?_
  refine lv S (rn_assign rfl) rfl ?_; clear S; intro a S
  refine l_done ?_
  replace S := S.nf (L' := []) (K' := [(0, .int .i64 p_n)]) [] rfl ⟨rfl, trivial⟩
  refine then_n ?_
  refine f_seq ?_
  refine f_region ?_
  refine lv S (rn_move (S.tm rfl)) rfl ?_; clear S; intro a S
  refine l_enter S (fun _ => run_call (vs := [.int .i64 p_n, .int .i64 (-40000), .int .i64 4000]) ⟨(S.tm rfl), rfl, rfl, trivial⟩ Tryd.call33) (tumbref2_in_ok _ p_n (-40000) 4000 _ rfl) rfl ?_; clear S; intro v1 a w1 hv1 hk1 hn1 S
  subst hv1
  refine lv S (rn_assign (S.tm rfl)) rfl ?_; clear S; intro a S
  refine l_done ?_
  replace S := S.nf (L' := []) (K' := [(2, .bool (tumbref2_in p_n (-40000) 4000))]) [] rfl ⟨rfl, trivial⟩
  refine then_n ?_
  refine wp_ret ?_
  subst h
  exact f_ret S Tryd.results13 rfl rfl
theorem tumbref2_sign_ok (w : World) (p_n : Int) (r : Int) (h : tumbref2_sign p_n = r) :
    Calls Tryd.prog 51 [.int .i64 p_n].toArray w (Ret w [] fun τ v w' => v = .int .i64 r) := by
  refine f_enter [] [] Tryd.func51 rfl Tryd.ntmps51 rfl (by simp) (by simp [fps]) (by simp [fps]) fun a S => ?_
  unfold tumbref2_sign at h
  replace S := S.nf (L' := []) (K' := [(0, .int .i64 p_n)]) [] rfl ⟨rfl, trivial⟩
  refine f_seq ?_
  refine f_region ?_
  refine lv S (rn_assign rfl) rfl ?_; clear S; intro a S
  refine l_done ?_
  replace S := S.nf (L' := []) (K' := [(0, .int .i64 p_n)]) [] rfl ⟨rfl, trivial⟩
  refine then_n ?_
  refine f_seq ?_
  refine wp_block ?_
  refine f_seq ?_
  refine f_region ?_
  refine lv S (rn_move (S.tm rfl)) rfl ?_; clear S; intro a S
  refine lv S (rn_lss (S.tm rfl) rfl) rfl ?_; clear S; intro a S
  refine lv S (rn_assign (S.tm rfl)) rfl ?_; clear S; intro a S
  refine l_done ?_
  replace S := S.nf (L' := []) (K' := [(0, .int .i64 p_n), (3, .bool (decide (p_n < 0)))]) [] rfl ⟨rfl, rfl, trivial⟩
  refine then_n ?_
  refine f_cond (S.tm rfl) (fun hb1 => ?_) (fun hb1 => ?_)
  · replace h := iteT h hb1
    refine f_seq ?_
    refine f_region ?_
    refine lv S (rn_assign rfl) rfl ?_; clear S; intro a S
    refine l_done ?_
    replace S := S.nf (L' := []) (K' := [(2, .int .i64 (-1))]) [] rfl ⟨rfl, trivial⟩
    refine then_n ?_
    refine wp_ret ?_
    refine blk_r ?_
    refine then_r ?_
    subst h
    exact f_ret S Tryd.results51 rfl rfl
  · replace h := iteF h hb1
    refine f_seq ?_
    refine f_region ?_
    refine lv S (rn_move (S.tm rfl)) rfl ?_; clear S; intro a S
    refine lv S (rn_gtr (S.tm rfl) rfl) rfl ?_; clear S; intro a S
    refine lv S (rn_assign (S.tm rfl)) rfl ?_; clear S; intro a S
    refine l_done ?_
    replace S := S.nf (L' := []) (K' := [(6, .bool (decide (0 < p_n)))]) [] rfl ⟨rfl, trivial⟩
    refine then_n ?_
    refine f_cond (S.tm rfl) (fun hb2 => ?_) (fun hb2 => ?_)
    · replace h := iteT h hb2
      refine f_seq ?_
      refine f_region ?_
      refine lv S (rn_assign rfl) rfl ?_; clear S; intro a S
      refine l_done ?_
      replace S := S.nf (L' := []) (K' := [(2, .int .i64 1)]) [] rfl ⟨rfl, trivial⟩
      refine then_n ?_
      refine wp_ret ?_
      refine blk_r ?_
      refine then_r ?_
      subst h
      exact f_ret S Tryd.results51 rfl rfl
    · replace h := iteF h hb2
      refine wp_skip ?_
      refine blk_n ?_
      refine then_n ?_
      refine f_seq ?_
      refine f_region ?_
      refine lv S (rn_assign rfl) rfl ?_; clear S; intro a S
      refine l_done ?_
      replace S := S.nf (L' := []) (K' := [(2, .int .i64 0)]) [] rfl ⟨rfl, trivial⟩
      refine then_n ?_
      refine wp_ret ?_
      subst h
      exact f_ret S Tryd.results51 rfl rfl
theorem tumbref2_moveOrder_ok (w : World) (p_a : GMove) (p_b : GMove) (r : Int) (h : tumbref2_moveOrder p_a p_b = r) :
    Calls Tryd.prog 32 [.agg (GMove.enc p_a).toArray, .agg (GMove.enc p_b).toArray].toArray w (Ret w [] fun τ v w' => v = .int .i64 r) := by
  refine f_enter [] [] Tryd.func32 rfl Tryd.ntmps32 rfl (by simp) (by simp [fps]) (by simp [fps]) fun a S => ?_
  unfold tumbref2_moveOrder at h
  replace S := S.nf (L' := []) (K' := [(0, .agg (GMove.enc p_a).toArray), (1, .agg (GMove.enc p_b).toArray)]) [] rfl ⟨rfl, rfl, trivial⟩
  refine f_seq ?_
  refine f_region ?_
  refine l_box S (S.tm rfl) (cs := [.string p_a.Who, .string p_a.Club, .int .i64 p_a.Day]) rfl rfl ?_; clear S; intro a w1 b1 hz1 hk1 S
  refine l_box S (S.tm rfl) (cs := [.string p_b.Who, .string p_b.Club, .int .i64 p_b.Day]) rfl rfl ?_; clear S; intro a w2 b2 hz2 hk2 S
  refine lv S (rn_assign rfl) rfl ?_; clear S; intro a S
  refine l_done ?_
  replace S := S.nf (L' := [.blk b2 [.string p_b.Who, .string p_b.Club, .int .i64 p_b.Day] 59, .blk b1 [.string p_a.Who, .string p_a.Club, .int .i64 p_a.Day] 59]) (K' := [(2, .pointer (some ⟨b1, 0, none⟩)), (3, .pointer (some ⟨b2, 0, none⟩))]) [true, true] rfl ⟨rfl, rfl, trivial⟩
  refine then_n ?_
  refine f_seq ?_
  refine f_seq ?_
  refine f_region ?_
  refine lv S (rn_fld fa_59_0 (S.tm rfl)) rfl ?_; clear S; intro a S
  refine lv S (rn_load Tryd.isAgg9 (S.tm rfl) (S.cell (i := 1) rfl rfl)) rfl ?_; clear S; intro a S
  refine lv S (rn_fld fa_59_0 (S.tm rfl)) rfl ?_; clear S; intro a S
  refine lv S (rn_load Tryd.isAgg9 (S.tm rfl) (S.cell (i := 0) rfl rfl)) rfl ?_; clear S; intro a S
  refine l_enter S (fun _ => run_call (vs := [.string p_a.Who, .string p_b.Who]) ⟨(S.tm rfl), (S.tm rfl), trivial⟩ Tryd.call38) (strings_Compare_ok _ p_a.Who p_b.Who _ rfl) rfl ?_; clear S; intro v1 a w3 hv1 hk3 hn1 S
  subst hv1
  refine lv S (rn_assign (S.tm rfl)) rfl ?_; clear S; intro a S
  refine l_done ?_
  replace S := S.nf (L' := [.blk b2 [.string p_b.Who, .string p_b.Club, .int .i64 p_b.Day] 59, .blk b1 [.string p_a.Who, .string p_a.Club, .int .i64 p_a.Day] 59]) (K' := [(2, .pointer (some ⟨b1, 0, none⟩)), (3, .pointer (some ⟨b2, 0, none⟩)), (5, .int .i64 (strings_Compare p_a.Who p_b.Who))]) [true, true] rfl ⟨rfl, rfl, rfl, trivial⟩
  refine then_n ?_
  refine f_seq ?_
  refine f_region ?_
  refine lv S (rn_move (S.tm rfl)) rfl ?_; clear S; intro a S
  refine lv S (rn_neq (S.tm rfl) rfl) rfl ?_; clear S; intro a S
  refine l_done ?_
  replace S := S.nf (L' := [.blk b2 [.string p_b.Who, .string p_b.Club, .int .i64 p_b.Day] 59, .blk b1 [.string p_a.Who, .string p_a.Club, .int .i64 p_a.Day] 59]) (K' := [(2, .pointer (some ⟨b1, 0, none⟩)), (3, .pointer (some ⟨b2, 0, none⟩)), (5, .int .i64 (strings_Compare p_a.Who p_b.Who)), (12, .bool (!decide ((strings_Compare p_a.Who p_b.Who) = 0)))]) [true, true] rfl ⟨rfl, rfl, rfl, rfl, trivial⟩
  refine then_n ?_
  refine f_cond (S.tm rfl) (fun hb1 => ?_) (fun hb1 => ?_)
  · replace h := iteT h hb1
    refine f_seq ?_
    refine f_region ?_
    refine lv S (rn_move (S.tm rfl)) rfl ?_; clear S; intro a S
    refine lv S (rn_assign (S.tm rfl)) rfl ?_; clear S; intro a S
    refine l_done ?_
    replace S := S.nf (L' := []) (K' := [(4, .int .i64 (strings_Compare p_a.Who p_b.Who))]) [false, false] rfl ⟨rfl, trivial⟩
    refine then_n ?_
    refine wp_ret ?_
    refine then_r ?_
    subst h
    exact f_ret S Tryd.results32 rfl rfl
  · replace h := iteF h hb1
    refine wp_skip ?_
    refine then_n ?_
    refine f_seq ?_
    refine f_region ?_
    refine lv S (rn_fld fa_59_2 (S.tm rfl)) rfl ?_; clear S; intro a S
    refine lv S (rn_load Tryd.isAgg3 (S.tm rfl) (S.cell (i := 1) rfl rfl)) rfl ?_; clear S; intro a S
    refine lv S (rn_fld fa_59_2 (S.tm rfl)) rfl ?_; clear S; intro a S
    refine lv S (rn_load Tryd.isAgg3 (S.tm rfl) (S.cell (i := 0) rfl rfl)) rfl ?_; clear S; intro a S
    refine lv S (rn_sub (S.tm rfl) (S.tm rfl)) rfl ?_; clear S; intro a S
    refine l_enter S (fun _ => run_call (vs := [.int .i64 (W (p_a.Day - p_b.Day))]) ⟨(S.tm rfl), trivial⟩ Tryd.call51) (tumbref2_sign_ok _ (W (p_a.Day - p_b.Day)) _ rfl) rfl ?_; clear S; intro v2 a w4 hv2 hk4 hn2 S
    subst hv2
    refine lv S (rn_assign (S.tm rfl)) rfl ?_; clear S; intro a S
    refine l_done ?_
    replace S := S.nf (L' := []) (K' := [(4, .int .i64 (tumbref2_sign (W (p_a.Day - p_b.Day))))]) [false, false] rfl ⟨rfl, trivial⟩
    refine then_n ?_
    refine wp_ret ?_
    subst h
    exact f_ret S Tryd.results32 rfl rfl
end Go.Proofs.YtoojifenkcnjdaaDoor
