/- Each Go function computes its plain twin, by program. -/
import Derived.Test.YtfejddpblajggaaDoorTab
import Derived.Test.YtfejddpblajggaaDoorLay
namespace Go.Proofs.YtfejddpblajggaaDoor
open Go
theorem tumbmake_Below_ok (w : World) (p_x : Int) (p_n : Int) (r : Int) (h : tumbmake_Below p_x p_n = some r) :
    Calls Tryd.prog 38 [.int .i64 p_x, .int .i64 p_n].toArray w (Ret w [] fun τ v w' => v = .int .i64 r) := by
  refine f_enter [] [] Tryd.func38 rfl Tryd.ntmps38 rfl (by simp) (by simp [fps]) (by simp [fps]) fun a S => ?_
  unfold tumbmake_Below at h
  replace S := S.nf (L' := []) (K' := [(0, .int .i64 p_x), (1, .int .i64 p_n)]) [] rfl ⟨rfl, rfl, trivial⟩
  refine f_seq ?_
  refine f_region ?_
  refine lv S (rn_assign rfl) rfl ?_; clear S; intro a S
  refine l_done ?_
  replace S := S.nf (L' := []) (K' := [(0, .int .i64 p_x), (1, .int .i64 p_n)]) [] rfl ⟨rfl, rfl, trivial⟩
  refine then_n ?_
  refine f_seq ?_
  refine f_seq ?_
  refine f_region ?_
  refine lv S (rn_move (S.tm rfl)) rfl ?_; clear S; intro a S
  refine lv S (rn_lss (S.tm rfl) rfl) rfl ?_; clear S; intro a S
  refine l_done ?_
  replace S := S.nf (L' := []) (K' := [(0, .int .i64 p_x), (1, .int .i64 p_n), (6, .bool (decide (p_n < 1)))]) [] rfl ⟨rfl, rfl, rfl, trivial⟩
  refine then_n ?_
  refine f_cond (S.tm rfl) (fun hb1 => ?_) (fun hb1 => ?_)
  · replace h := iteT h hb1
    refine f_seq ?_
    refine f_region ?_
    refine lv S (rn_assign rfl) rfl ?_; clear S; intro a S
    refine l_done ?_
    replace S := S.nf (L' := []) (K' := [(4, .int .i64 0)]) [] rfl ⟨rfl, trivial⟩
    refine then_n ?_
    refine wp_ret ?_
    refine then_r ?_
    obtain rfl := Option.some.inj h
    exact f_ret S Tryd.results38 rfl rfl
  · replace h := iteF h hb1
    refine wp_skip ?_
    refine then_n ?_
    refine f_seq ?_
    refine f_region ?_
    refine lv S (rn_move (S.tm rfl)) rfl ?_; clear S; intro a S
    refine lv S (rn_move (S.tm rfl)) rfl ?_; clear S; intro a S
    obtain ⟨hc1, h⟩ := chkE h
    refine lv S (rn_rem (S.tm rfl) (S.tm rfl) (by simpa using hc1)) rfl ?_; clear S; intro a S
    refine lv S (rn_assign (S.tm rfl)) rfl ?_; clear S; intro a S
    refine l_done ?_
    replace S := S.nf (L' := []) (K' := [(0, .int .i64 (Int.tmod p_x p_n)), (1, .int .i64 p_n)]) [] rfl ⟨rfl, rfl, trivial⟩
    refine then_n ?_
    refine f_seq ?_
    refine f_seq ?_
    refine f_region ?_
    refine lv S (rn_move (S.tm rfl)) rfl ?_; clear S; intro a S
    refine lv S (rn_lss (S.tm rfl) rfl) rfl ?_; clear S; intro a S
    refine l_done ?_
    replace S := S.nf (L' := []) (K' := [(0, .int .i64 (Int.tmod p_x p_n)), (1, .int .i64 p_n), (11, .bool (decide ((Int.tmod p_x p_n) < 0)))]) [] rfl ⟨rfl, rfl, rfl, trivial⟩
    refine then_n ?_
    obtain ⟨j1, hj1, h⟩ := joinE h
    refine f_join (fun a w' => ∃ x1 : Int, j1 x1 = some r ∧ Sx w [] nov [] [(0, .int .i64 x1)] 16 a w') ?_ ?_
    · refine f_cond (S.tm rfl) (fun hb2 => ?_) (fun hb2 => ?_)
      · replace h := iteT h hb2
        refine f_region ?_
        refine lv S (rn_move (S.tm rfl)) rfl ?_; clear S; intro a S
        refine lv S (rn_move (S.tm rfl)) rfl ?_; clear S; intro a S
        refine lv S (rn_add (S.tm rfl) (S.tm rfl)) rfl ?_; clear S; intro a S
        refine lv S (rn_assign (S.tm rfl)) rfl ?_; clear S; intro a S
        refine l_done ?_
        replace S := S.nf (L' := []) (K' := [(0, .int .i64 (W ((Int.tmod p_x p_n) + p_n)))]) [] rfl ⟨rfl, trivial⟩
        refine then_n ?_
        exact ⟨W ((Int.tmod p_x p_n) + p_n), h, S.nf [] rfl ⟨rfl, trivial⟩⟩
      · replace h := iteF h hb2
        refine wp_skip ?_
        refine then_n ?_
        exact ⟨Int.tmod p_x p_n, h, S.nf [] rfl ⟨rfl, trivial⟩⟩
    clear S h; rintro a w1 ⟨x1, h, S⟩; rw [hj1] at h; clear hj1 j1
    refine then_n ?_
    refine f_seq ?_
    refine f_region ?_
    refine lv S (rn_move (S.tm rfl)) rfl ?_; clear S; intro a S
    refine lv S (rn_assign (S.tm rfl)) rfl ?_; clear S; intro a S
    refine l_done ?_
    replace S := S.nf (L' := []) (K' := [(4, .int .i64 x1)]) [] rfl ⟨rfl, trivial⟩
    refine then_n ?_
    refine wp_ret ?_
    obtain rfl := Option.some.inj h
    exact f_ret S Tryd.results38 rfl rfl
theorem Stream_Next_ok (w : World) (b_p_s : Nat) (v_p_s_L : Value) (p_s_L : List Int) (hs_p_s_L : Slc (view w [b_p_s]) 1 v_p_s_L (p_s_L.map eInt)) (p_s_at : Int) (hb_b_p_s : (LEnt.blk b_p_s [v_p_s_L, .int .i64 p_s_at] 25).holds w) (p_n : Int) (r : Int × Int) (h : Stream_Next p_s_L p_s_at p_n = some r) :
    Calls Tryd.prog 26 [.pointer (some ⟨b_p_s, 0, none⟩), .int .i64 p_n].toArray w (Ret w [b_p_s] fun τ v w' => (LEnt.blk b_p_s [v_p_s_L, .int .i64 r.2] 25).holds w' ∧ v = .int .i64 r.1) := by
  refine f_enter [b_p_s] [.blk b_p_s [v_p_s_L, .int .i64 p_s_at] 25] Tryd.func26 rfl Tryd.ntmps26 rfl (fun e he => by simp only [List.mem_singleton] at he; subst he; exact hb_b_p_s) (by simp [fps, LEnt.fp]) (by simp [fps, LEnt.fp]) fun a S => ?_
  unfold Stream_Next at h
  replace S := S.nf (L' := [.blk b_p_s [v_p_s_L, .int .i64 p_s_at] 25]) (K' := [(0, .pointer (some ⟨b_p_s, 0, none⟩)), (1, .int .i64 p_n)]) [true] rfl ⟨rfl, rfl, trivial⟩
  refine f_seq ?_
  refine f_region ?_
  refine lv S (rn_assign rfl) rfl ?_; clear S; intro a S
  refine l_done ?_
  replace S := S.nf (L' := [.blk b_p_s [v_p_s_L, .int .i64 p_s_at] 25]) (K' := [(0, .pointer (some ⟨b_p_s, 0, none⟩)), (1, .int .i64 p_n)]) [true] rfl ⟨rfl, rfl, trivial⟩
  refine then_n ?_
  refine f_seq ?_
  refine f_region ?_
  refine lv S (rn_move (S.tm rfl)) rfl ?_; clear S; intro a S
  refine lv S (rn_nilCheck (S.tm rfl)) rfl ?_; clear S; intro a S
  refine lv S (rn_fld fa_25_1 (S.tm rfl)) rfl ?_; clear S; intro a S
  refine lv S (rn_load Tryd.isAgg3 (S.tm rfl) (S.cell (i := 0) rfl rfl)) rfl ?_; clear S; intro a S
  refine lv S (rn_add (S.tm rfl) rfl) rfl ?_; clear S; intro a S
  refine lv S (rn_nilCheck (S.tm rfl)) rfl ?_; clear S; intro a S
  refine lv S (rn_fld fa_25_1 (S.tm rfl)) rfl ?_; clear S; intro a S
  refine l_store S (S.tm rfl) (S.tm rfl) (i := 0) (off := 1) rfl Tryd.sizeOf3 (vs := [.int .i64 (W (p_s_at + 1))]) rfl rfl rfl rfl ?_; clear S; intro w1 hk1 S
  refine l_done ?_
  replace S := S.nf (L' := [.blk b_p_s [v_p_s_L, .int .i64 (W (p_s_at + 1))] 25]) (K' := [(0, .pointer (some ⟨b_p_s, 0, none⟩)), (1, .int .i64 p_n)]) [true] rfl ⟨rfl, rfl, trivial⟩
  refine then_n ?_
  refine f_seq ?_
  refine f_seq ?_
  refine f_region ?_
  refine lv S (rn_move (S.tm rfl)) rfl ?_; clear S; intro a S
  refine lv S (rn_nilCheck (S.tm rfl)) rfl ?_; clear S; intro a S
  refine lv S (rn_fld fa_25_0 (S.tm rfl)) rfl ?_; clear S; intro a S
  refine lv S (rn_load Tryd.isAgg22 (S.tm rfl) (S.cell (i := 0) rfl rfl)) rfl ?_; clear S; intro a S
  refine lv S (rn_lenT sl_22 (S.tm rfl) (slc_len hs_p_s_L)) rfl ?_; clear S; intro a S
  refine lv S (rn_eql (S.tm rfl) rfl) rfl ?_; clear S; intro a S
  refine l_done ?_
  replace S := S.nf (L' := [.blk b_p_s [v_p_s_L, .int .i64 (W (p_s_at + 1))] 25]) (K' := [(0, .pointer (some ⟨b_p_s, 0, none⟩)), (1, .int .i64 p_n), (19, .bool (decide ((p_s_L.length : Int) = 0)))]) [true] rfl ⟨rfl, rfl, rfl, trivial⟩
  refine then_n ?_
  refine f_cond (S.tm rfl) (fun hb1 => ?_) (fun hb1 => ?_)
  · replace h := iteT h hb1
    refine f_seq ?_
    refine f_region ?_
    refine lv S (rn_move (S.tm rfl)) rfl ?_; clear S; intro a S
    refine lv S (rn_nilCheck (S.tm rfl)) rfl ?_; clear S; intro a S
    refine lv S (rn_fld fa_25_1 (S.tm rfl)) rfl ?_; clear S; intro a S
    refine lv S (rn_load Tryd.isAgg3 (S.tm rfl) (S.cell (i := 0) rfl rfl)) rfl ?_; clear S; intro a S
    refine lv S (rn_mul (S.tm rfl) rfl) rfl ?_; clear S; intro a S
    refine lv S (rn_move (S.tm rfl)) rfl ?_; clear S; intro a S
    obtain ⟨r1, hr1, h⟩ := bindE h
    refine l_enter S (fun _ => run_call (vs := [.int .i64 (W ((W (p_s_at + 1)) * 7919)), .int .i64 p_n]) ⟨(S.tm rfl), (S.tm rfl), trivial⟩ Tryd.call38) (tumbmake_Below_ok _ (W ((W (p_s_at + 1)) * 7919)) p_n _ hr1) rfl ?_; clear S; intro v1 a w2 hv1 hk2 hn1 S
    subst hv1
    refine lv S (rn_assign (S.tm rfl)) rfl ?_; clear S; intro a S
    refine l_done ?_
    replace S := S.nf (L' := [.blk b_p_s [v_p_s_L, .int .i64 (W (p_s_at + 1))] 25]) (K' := [(4, .int .i64 r1)]) [true] rfl ⟨rfl, trivial⟩
    refine then_n ?_
    refine wp_ret ?_
    refine then_r ?_
    obtain rfl := Option.some.inj h
    exact f_ret S Tryd.results26 rfl ⟨(S.holds _ (List.mem_of_getElem? (i := 0) rfl)), rfl⟩
  · replace h := iteF h hb1
    refine wp_skip ?_
    refine then_n ?_
    refine f_seq ?_
    obtain ⟨hc1, h⟩ := chkE h
    refine d_region ([]) Tryd.mixed S rfl (by kernel_rfl) ?_; clear S; intro w3 hk3 hsel S
    refine d_quiet 0 S hsel rfl (by kernel_rfl) (by kernel_rfl) rfl (fun _ hw => (rn_move (S.tm rfl))) ?_; clear S; intro a S
    refine d_quiet 1 S hsel rfl (by kernel_rfl) (by kernel_rfl) rfl (fun _ hw => (rn_nilCheck (S.tm rfl))) ?_; clear S; intro a S
    refine d_quiet 2 S hsel rfl (by kernel_rfl) (by kernel_rfl) rfl (fun _ hw => (rn_fld fa_25_1 (S.tm rfl))) ?_; clear S; intro a S
    refine d_quiet 3 S hsel rfl (by kernel_rfl) (by kernel_rfl) rfl (fun _ hw => (rn_ld Tryd.isAgg3 (off := 0) (o := 1) (S.tm rfl) ((S.blk_mem (i := 0) (cells := [v_p_s_L, .int .i64 (W (p_s_at + 1))]) (b := b_p_s) (T := 25) rfl (ne_nil (e' := .blk b_p_s [v_p_s_L, .int .i64 (W (p_s_at + 1))] 25))).kept hw) rfl)) ?_; clear S; intro a S
    refine d_quiet 4 S hsel rfl (by kernel_rfl) (by kernel_rfl) rfl (fun _ hw => (rn_sub (S.tm rfl) rfl)) ?_; clear S; intro a S
    refine d_quiet 5 S hsel rfl (by kernel_rfl) (by kernel_rfl) rfl (fun _ hw => (rn_move (S.tm rfl))) ?_; clear S; intro a S
    refine d_quiet 6 S hsel rfl (by kernel_rfl) (by kernel_rfl) rfl (fun _ hw => (rn_nilCheck (S.tm rfl))) ?_; clear S; intro a S
    refine d_quiet 7 S hsel rfl (by kernel_rfl) (by kernel_rfl) rfl (fun _ hw => (rn_fld fa_25_0 (S.tm rfl))) ?_; clear S; intro a S
    refine d_quiet 8 S hsel rfl (by kernel_rfl) (by kernel_rfl) rfl (fun _ hw => (rn_ld Tryd.isAgg22 (off := 0) (o := 0) (S.tm rfl) ((S.blk_mem (i := 0) (cells := [v_p_s_L, .int .i64 (W (p_s_at + 1))]) (b := b_p_s) (T := 25) rfl (ne_nil (e' := .blk b_p_s [v_p_s_L, .int .i64 (W (p_s_at + 1))] 25))).kept hw) rfl)) ?_; clear S; intro a S
    refine d_quiet 9 S hsel rfl (by kernel_rfl) (by kernel_rfl) rfl (fun _ hw => (rn_lenT sl_22 (S.tm rfl) (slc_len hs_p_s_L))) ?_; clear S; intro a S
    refine d_quiet 10 S hsel rfl (by kernel_rfl) (by kernel_rfl) rfl (fun _ hw => (rn_rem (S.tm rfl) (S.tm rfl) (by simpa using hc1))) ?_; clear S; intro a S
    refine d_quiet 11 S hsel rfl (by kernel_rfl) (by kernel_rfl) rfl (fun _ hw => (rn_assign (S.tm rfl))) ?_; clear S; intro a S
    refine d_end (by kernel_rfl) ?_
    clear hsel
    replace S := S.nf (L' := [.blk b_p_s [v_p_s_L, .int .i64 (W (p_s_at + 1))] 25]) (K' := [(0, .pointer (some ⟨b_p_s, 0, none⟩)), (1, .int .i64 p_n), (5, .int .i64 (Int.tmod (W ((W (p_s_at + 1)) - 1)) (p_s_L.length : Int)))]) [true] rfl ⟨rfl, rfl, rfl, trivial⟩
    refine then_n ?_
    refine f_seq ?_
    obtain ⟨hc2, h⟩ := chkE h
    refine d_region ([]) Tryd.mixed S rfl (by kernel_rfl) ?_; clear S; intro w4 hk4 hsel S
    refine d_quiet 0 S hsel rfl (by kernel_rfl) (by kernel_rfl) rfl (fun _ hw => (rn_move (S.tm rfl))) ?_; clear S; intro a S
    refine d_quiet 1 S hsel rfl (by kernel_rfl) (by kernel_rfl) rfl (fun _ hw => (rn_nilCheck (S.tm rfl))) ?_; clear S; intro a S
    refine d_quiet 2 S hsel rfl (by kernel_rfl) (by kernel_rfl) rfl (fun _ hw => (rn_fld fa_25_1 (S.tm rfl))) ?_; clear S; intro a S
    refine d_quiet 3 S hsel rfl (by kernel_rfl) (by kernel_rfl) rfl (fun _ hw => (rn_ld Tryd.isAgg3 (off := 0) (o := 1) (S.tm rfl) ((S.blk_mem (i := 0) (cells := [v_p_s_L, .int .i64 (W (p_s_at + 1))]) (b := b_p_s) (T := 25) rfl (ne_nil (e' := .blk b_p_s [v_p_s_L, .int .i64 (W (p_s_at + 1))] 25))).kept hw) rfl)) ?_; clear S; intro a S
    refine d_quiet 4 S hsel rfl (by kernel_rfl) (by kernel_rfl) rfl (fun _ hw => (rn_sub (S.tm rfl) rfl)) ?_; clear S; intro a S
    refine d_quiet 5 S hsel rfl (by kernel_rfl) (by kernel_rfl) rfl (fun _ hw => (rn_move (S.tm rfl))) ?_; clear S; intro a S
    refine d_quiet 6 S hsel rfl (by kernel_rfl) (by kernel_rfl) rfl (fun _ hw => (rn_nilCheck (S.tm rfl))) ?_; clear S; intro a S
    refine d_quiet 7 S hsel rfl (by kernel_rfl) (by kernel_rfl) rfl (fun _ hw => (rn_fld fa_25_0 (S.tm rfl))) ?_; clear S; intro a S
    refine d_quiet 8 S hsel rfl (by kernel_rfl) (by kernel_rfl) rfl (fun _ hw => (rn_ld Tryd.isAgg22 (off := 0) (o := 0) (S.tm rfl) ((S.blk_mem (i := 0) (cells := [v_p_s_L, .int .i64 (W (p_s_at + 1))]) (b := b_p_s) (T := 25) rfl (ne_nil (e' := .blk b_p_s [v_p_s_L, .int .i64 (W (p_s_at + 1))] 25))).kept hw) rfl)) ?_; clear S; intro a S
    refine d_quiet 9 S hsel rfl (by kernel_rfl) (by kernel_rfl) rfl (fun _ hw => (rn_lenT sl_22 (S.tm rfl) (slc_len hs_p_s_L))) ?_; clear S; intro a S
    refine d_quiet 10 S hsel rfl (by kernel_rfl) (by kernel_rfl) rfl (fun _ hw => (rn_quo (S.tm rfl) (S.tm rfl) (by simpa using hc2))) ?_; clear S; intro a S
    refine d_quiet 11 S hsel rfl (by kernel_rfl) (by kernel_rfl) rfl (fun _ hw => (rn_assign (S.tm rfl))) ?_; clear S; intro a S
    refine d_end (by kernel_rfl) ?_
    clear hsel
    replace S := S.nf (L' := [.blk b_p_s [v_p_s_L, .int .i64 (W (p_s_at + 1))] 25]) (K' := [(0, .pointer (some ⟨b_p_s, 0, none⟩)), (1, .int .i64 p_n), (5, .int .i64 (Int.tmod (W ((W (p_s_at + 1)) - 1)) (p_s_L.length : Int))), (6, .int .i64 (W (Int.tdiv (W ((W (p_s_at + 1)) - 1)) (p_s_L.length : Int))))]) [true] rfl ⟨rfl, rfl, rfl, rfl, trivial⟩
    refine then_n ?_
    refine f_seq ?_
    refine f_region ?_
    refine lv S (rn_move (S.tm rfl)) rfl ?_; clear S; intro a S
    refine lv S (rn_nilCheck (S.tm rfl)) rfl ?_; clear S; intro a S
    refine lv S (rn_fld fa_25_0 (S.tm rfl)) rfl ?_; clear S; intro a S
    refine lv S (rn_load Tryd.isAgg22 (S.tm rfl) (S.cell (i := 0) rfl rfl)) rfl ?_; clear S; intro a S
    refine lv S (rn_move (S.tm rfl)) rfl ?_; clear S; intro a S
    obtain ⟨hc3, h⟩ := chkE h
    obtain ⟨b1, o1, hm1, hr2⟩ := rn_indexT (a := a) (x := .tmp 52) (y := .tmp 53) (ty := 0) sl_22 hs_p_s_L (inB_get hc3).1 (inB_get hc3).2 (S.tm rfl) (S.tm rfl)
    refine lv S (hr2 _) rfl ?_; clear S; intro a S
    clear hr2
    refine lv S (rn_ld Tryd.isAgg3 (off := o1) (o := 0) (S.tm rfl) (hm1.at S.emb0) rfl) rfl ?_; clear S; intro a S
    obtain ⟨r2, hr3, h⟩ := bindE h
    refine l_enter S (fun _ => run_call (vs := [.int .i64 (nth p_s_L (Int.tmod (W ((W (p_s_at + 1)) - 1)) (p_s_L.length : Int))), .int .i64 1073741824]) ⟨(S.tm rfl), rfl, trivial⟩ Tryd.call38) (tumbmake_Below_ok _ (nth p_s_L (Int.tmod (W ((W (p_s_at + 1)) - 1)) (p_s_L.length : Int))) 1073741824 _ hr3) rfl ?_; clear S; intro v2 a w5 hv2 hk5 hn2 S
    subst hv2
    refine lv S (rn_move (S.tm rfl)) rfl ?_; clear S; intro a S
    refine lv S (rn_move (S.tm rfl)) rfl ?_; clear S; intro a S
    refine lv S (rn_add rfl (S.tm rfl)) rfl ?_; clear S; intro a S
    refine lv S (rn_mul (S.tm rfl) (S.tm rfl)) rfl ?_; clear S; intro a S
    refine lv S (rn_add (S.tm rfl) (S.tm rfl)) rfl ?_; clear S; intro a S
    refine lv S (rn_move (S.tm rfl)) rfl ?_; clear S; intro a S
    obtain ⟨r3, hr4, h⟩ := bindE h
    refine l_enter S (fun _ => run_call (vs := [.int .i64 (W (r2 + (W ((W (Int.tdiv (W ((W (p_s_at + 1)) - 1)) (p_s_L.length : Int))) * (W (7919 + (Int.tmod (W ((W (p_s_at + 1)) - 1)) (p_s_L.length : Int)))))))), .int .i64 p_n]) ⟨(S.tm rfl), (S.tm rfl), trivial⟩ Tryd.call38) (tumbmake_Below_ok _ (W (r2 + (W ((W (Int.tdiv (W ((W (p_s_at + 1)) - 1)) (p_s_L.length : Int))) * (W (7919 + (Int.tmod (W ((W (p_s_at + 1)) - 1)) (p_s_L.length : Int)))))))) p_n _ hr4) rfl ?_; clear S; intro v3 a w6 hv3 hk6 hn3 S
    subst hv3
    refine lv S (rn_assign (S.tm rfl)) rfl ?_; clear S; intro a S
    refine l_done ?_
    replace S := S.nf (L' := [.blk b_p_s [v_p_s_L, .int .i64 (W (p_s_at + 1))] 25]) (K' := [(4, .int .i64 r3)]) [true] rfl ⟨rfl, trivial⟩
    refine then_n ?_
    refine wp_ret ?_
    obtain rfl := Option.some.inj h
    exact f_ret S Tryd.results26 rfl ⟨(S.holds _ (List.mem_of_getElem? (i := 0) rfl)), rfl⟩
theorem Stream_Flip_ok (w : World) (b_p_s : Nat) (v_p_s_L : Value) (p_s_L : List Int) (hs_p_s_L : Slc (view w [b_p_s]) 1 v_p_s_L (p_s_L.map eInt)) (p_s_at : Int) (hb_b_p_s : (LEnt.blk b_p_s [v_p_s_L, .int .i64 p_s_at] 25).holds w) (p_n : Int) (r : Bool × Int) (h : Stream_Flip p_s_L p_s_at p_n = some r) :
    Calls Tryd.prog 25 [.pointer (some ⟨b_p_s, 0, none⟩), .int .i64 p_n].toArray w (Ret w [b_p_s] fun τ v w' => (LEnt.blk b_p_s [v_p_s_L, .int .i64 r.2] 25).holds w' ∧ v = .bool r.1) := by
  refine f_enter [b_p_s] [.blk b_p_s [v_p_s_L, .int .i64 p_s_at] 25] Tryd.func25 rfl Tryd.ntmps25 rfl (fun e he => by simp only [List.mem_singleton] at he; subst he; exact hb_b_p_s) (by simp [fps, LEnt.fp]) (by simp [fps, LEnt.fp]) fun a S => ?_
  unfold Stream_Flip at h
  replace S := S.nf (L' := [.blk b_p_s [v_p_s_L, .int .i64 p_s_at] 25]) (K' := [(0, .pointer (some ⟨b_p_s, 0, none⟩)), (1, .int .i64 p_n)]) [true] rfl ⟨rfl, rfl, trivial⟩
  refine f_seq ?_
  refine f_region ?_
  refine lv S (rn_assign rfl) rfl ?_; clear S; intro a S
  refine l_done ?_
  replace S := S.nf (L' := [.blk b_p_s [v_p_s_L, .int .i64 p_s_at] 25]) (K' := [(0, .pointer (some ⟨b_p_s, 0, none⟩)), (1, .int .i64 p_n)]) [true] rfl ⟨rfl, rfl, trivial⟩
  refine then_n ?_
  refine f_seq ?_
  refine f_region ?_
  refine lv S (rn_move (S.tm rfl)) rfl ?_; clear S; intro a S
  refine lv S (rn_move (S.tm rfl)) rfl ?_; clear S; intro a S
  obtain ⟨r1, hr1, h⟩ := bindE h
  refine l_enter1 0 S (b := b_p_s) rfl rfl (fun _ => .blk b_p_s [v_p_s_L, .int .i64 r1.2] 25) (fun _ => run_call (vs := [.pointer (some ⟨b_p_s, 0, none⟩), .int .i64 p_n]) ⟨(S.tm rfl), (S.tm rfl), trivial⟩ Tryd.call26) (Stream_Next_ok _ b_p_s v_p_s_L p_s_L (hs_p_s_L.mono (S.le_arg (fp_sub (i := 0) (e := .blk b_p_s [v_p_s_L, .int .i64 p_s_at] 25) rfl))) p_s_at (S.holds _ (List.mem_of_getElem? (i := 0) rfl)) p_n _ hr1) rfl (fun _ _ _ h => ⟨h.1, fun _ hc => by cases hc; rfl⟩) ?_; clear S; intro v1 a w1 hv1 hk1 hn1 S
  replace hv1 := hv1.2
  subst hv1
  refine lv S (rn_eql (S.tm rfl) rfl) rfl ?_; clear S; intro a S
  refine lv S (rn_assign (S.tm rfl)) rfl ?_; clear S; intro a S
  refine l_done ?_
  replace S := S.nf (L' := [.blk b_p_s [v_p_s_L, .int .i64 r1.2] 25]) (K' := [(4, .bool (decide (r1.1 = 0)))]) [true] rfl ⟨rfl, trivial⟩
  refine then_n ?_
  refine wp_ret ?_
  obtain rfl := Option.some.inj h
  exact f_ret S Tryd.results25 rfl ⟨(S.holds _ (List.mem_of_getElem? (i := 0) rfl)), rfl⟩
theorem Stream_Pick_ok (w : World) (b_p_s : Nat) (v_p_s_L : Value) (p_s_L : List Int) (hs_p_s_L : Slc (view w [b_p_s]) 1 v_p_s_L (p_s_L.map eInt)) (p_s_at : Int) (hb_b_p_s : (LEnt.blk b_p_s [v_p_s_L, .int .i64 p_s_at] 25).holds w) (v_p_l : Value) (p_l : List Int) (hs_p_l : Slc (view w [b_p_s]) 1 v_p_l (p_l.map eInt)) (r : Int × Int) (h : Stream_Pick p_s_L p_s_at p_l = some r) :
    Calls Tryd.prog 6 [.pointer (some ⟨b_p_s, 0, none⟩), v_p_l].toArray w (Ret w [b_p_s] fun τ v w' => (LEnt.blk b_p_s [v_p_s_L, .int .i64 r.2] 25).holds w' ∧ v = .int .i64 r.1) := by
  refine f_enter [b_p_s] [.blk b_p_s [v_p_s_L, .int .i64 p_s_at] 25] Tryd.func6 rfl Tryd.ntmps6 rfl (fun e he => by simp only [List.mem_singleton] at he; subst he; exact hb_b_p_s) (by simp [fps, LEnt.fp]) (by simp [fps, LEnt.fp]) fun a S => ?_
  unfold Stream_Pick at h
  replace S := S.nf (L' := [.blk b_p_s [v_p_s_L, .int .i64 p_s_at] 25]) (K' := [(0, .pointer (some ⟨b_p_s, 0, none⟩)), (1, v_p_l)]) [true] rfl ⟨rfl, rfl, trivial⟩
  refine f_seq ?_
  refine f_region ?_
  refine lv S (rn_assign rfl) rfl ?_; clear S; intro a S
  refine l_done ?_
  replace S := S.nf (L' := [.blk b_p_s [v_p_s_L, .int .i64 p_s_at] 25]) (K' := [(0, .pointer (some ⟨b_p_s, 0, none⟩)), (1, v_p_l)]) [true] rfl ⟨rfl, rfl, trivial⟩
  refine then_n ?_
  refine f_seq ?_
  refine f_region ?_
  refine lv S (rn_move (S.tm rfl)) rfl ?_; clear S; intro a S
  refine lv S (rn_move (S.tm rfl)) rfl ?_; clear S; intro a S
  refine lv S (rn_move (S.tm rfl)) rfl ?_; clear S; intro a S
  refine lv S (rn_lenT sl_22 (S.tm rfl) (slc_len hs_p_l)) rfl ?_; clear S; intro a S
  obtain ⟨r1, hr1, h⟩ := bindE h
  refine l_enter1 0 S (b := b_p_s) rfl rfl (fun _ => .blk b_p_s [v_p_s_L, .int .i64 r1.2] 25) (fun _ => run_call (vs := [.pointer (some ⟨b_p_s, 0, none⟩), .int .i64 (p_l.length : Int)]) ⟨(S.tm rfl), (S.tm rfl), trivial⟩ Tryd.call26) (Stream_Next_ok _ b_p_s v_p_s_L p_s_L (hs_p_s_L.mono (S.le_arg (fp_sub (i := 0) (e := .blk b_p_s [v_p_s_L, .int .i64 p_s_at] 25) rfl))) p_s_at (S.holds _ (List.mem_of_getElem? (i := 0) rfl)) (p_l.length : Int) _ hr1) rfl (fun _ _ _ h => ⟨h.1, fun _ hc => by cases hc; rfl⟩) ?_; clear S; intro v1 a w1 hv1 hk1 hn1 S
  replace hv1 := hv1.2
  subst hv1
  obtain ⟨hc1, h⟩ := chkE h
  obtain ⟨b1, o1, hm1, hr2⟩ := rn_indexT (a := a) (x := .tmp 5) (y := .tmp 9) (ty := 0) sl_22 hs_p_l (inB_get hc1).1 (inB_get hc1).2 (S.tm rfl) (S.tm rfl)
  refine lv S (hr2 _) rfl ?_; clear S; intro a S
  clear hr2
  refine lv S (rn_ld Tryd.isAgg3 (off := o1) (o := 0) (S.tm rfl) (hm1.at S.emb0) rfl) rfl ?_; clear S; intro a S
  refine lv S (rn_assign (S.tm rfl)) rfl ?_; clear S; intro a S
  refine l_done ?_
  replace S := S.nf (L' := [.blk b_p_s [v_p_s_L, .int .i64 r1.2] 25]) (K' := [(4, .int .i64 (nth p_l r1.1))]) [true] rfl ⟨rfl, trivial⟩
  refine then_n ?_
  refine wp_ret ?_
  obtain rfl := Option.some.inj h
  exact f_ret S Tryd.results6 rfl ⟨(S.holds _ (List.mem_of_getElem? (i := 0) rfl)), rfl⟩
theorem Stream_RightItems_ok (w : World) (b_p_s : Nat) (v_p_s_L : Value) (p_s_L : List Int) (hs_p_s_L : Slc (view w [b_p_s]) 1 v_p_s_L (p_s_L.map eInt)) (p_s_at : Int) (hb_b_p_s : (LEnt.blk b_p_s [v_p_s_L, .int .i64 p_s_at] 25).holds w) (p_most : Int) (r : (List GItem) × Int) (h : Stream_RightItems p_s_L p_s_at p_most = some r) :
    Calls Tryd.prog 24 [.pointer (some ⟨b_p_s, 0, none⟩), .int .i64 p_most].toArray w (Ret w [b_p_s] fun τ v w' => (LEnt.blk b_p_s [v_p_s_L, .int .i64 r.2] 25).holds w' ∧ OwnV τ 60 5 v r.1.length (r.1.flatMap GItem.enc)) := by
  refine f_enter [b_p_s] [.blk b_p_s [v_p_s_L, .int .i64 p_s_at] 25] Tryd.func24 rfl Tryd.ntmps24 rfl (fun e he => by simp only [List.mem_singleton] at he; subst he; exact hb_b_p_s) (by simp [fps, LEnt.fp]) (by simp [fps, LEnt.fp]) fun a S => ?_
  unfold Stream_RightItems at h
  replace S := S.nf (L' := [.blk b_p_s [v_p_s_L, .int .i64 p_s_at] 25]) (K' := [(0, .pointer (some ⟨b_p_s, 0, none⟩)), (1, .int .i64 p_most)]) [true] rfl ⟨rfl, rfl, trivial⟩
  refine f_seq ?_
  refine f_region ?_
  refine lv S (rn_assign rfl) rfl ?_; clear S; intro a S
  refine l_done ?_
  replace S := S.nf (L' := [.blk b_p_s [v_p_s_L, .int .i64 p_s_at] 25]) (K' := [(0, .pointer (some ⟨b_p_s, 0, none⟩)), (1, .int .i64 p_most)]) [true] rfl ⟨rfl, rfl, trivial⟩
  refine then_n ?_
  refine f_seq ?_
  refine f_region ?_
  refine lv S (rn_assign rfl) rfl ?_; clear S; intro a S
  replace S := S.nil 60 5
  refine l_done ?_
  replace S := S.nf (L' := [.own (.slice none 0 0) 60 5 ([] : List GItem).length (([] : List GItem).flatMap GItem.enc), .blk b_p_s [v_p_s_L, .int .i64 p_s_at] 25]) (K' := [(0, .pointer (some ⟨b_p_s, 0, none⟩)), (1, .int .i64 p_most), (5, (.slice none 0 0))]) [true, true] rfl ⟨rfl, rfl, rfl, trivial⟩
  refine then_n ?_
  refine f_seq ?_
  refine f_seq ?_
  refine f_region ?_
  refine l_buildSlice S Tryd.underlying70 Tryd.sizeOf9 Tryd.zeroValue9 rfl rfl (pv := [(0, .string k_ic), (1, .string k_ia), (2, .string k_id), (3, .string k_ib), (4, .string k_ie)]) ⟨rfl, rfl, rfl, rfl, rfl, rfl, rfl, rfl, rfl, rfl, trivial⟩ (cs := [.string k_ic, .string k_ia, .string k_id, .string k_ib, .string k_ie]) (by kernel_rfl) rfl ?_; clear S; intro a w1 b1 hz1 hk1 S
  refine lv S (rn_move (S.tm rfl)) rfl ?_; clear S; intro a S
  replace S := S.litOwn (i := 0) (xs := [k_ic, k_ia, k_id, k_ib, k_ie]) rfl enc_str rfl rfl rfl
  replace S := S.nf (L' := [.own (.slice (some ⟨b1, 0, none⟩) 5 5) 9 1 ([k_ic, k_ia, k_id, k_ib, k_ie] : List ByteArray).length (([k_ic, k_ia, k_id, k_ib, k_ie] : List ByteArray).flatMap eStr), .own (.slice none 0 0) 60 5 ([] : List GItem).length (([] : List GItem).flatMap GItem.enc), .blk b_p_s [v_p_s_L, .int .i64 p_s_at] 25]) (K' := [(0, .pointer (some ⟨b_p_s, 0, none⟩)), (1, .int .i64 p_most), (5, (.slice none 0 0)), (8, (.slice (some ⟨b1, 0, none⟩) 5 5)), (9, .int .i64 p_most)]) [] rfl ⟨rfl, rfl, rfl, rfl, rfl, trivial⟩
  obtain ⟨φ1, hl1, hs1, S⟩ := S.freezeT (xs := ([k_ic, k_ia, k_id, k_ib, k_ie] : List ByteArray)) (enc := eStr) (i := 0) rfl (fun c hc hh => not_fps S (i := 2) rfl rfl (j := 0) rfl rfl (by simp at hc; subst hc; exact hh))
  replace S := S.nf (L' := [.own (.slice none 0 0) 60 5 ([] : List GItem).length (([] : List GItem).flatMap GItem.enc), .blk b_p_s [v_p_s_L, .int .i64 p_s_at] 25]) (K' := [(0, .pointer (some ⟨b_p_s, 0, none⟩)), (1, .int .i64 p_most), (5, (.slice none 0 0)), (8, (.slice (some ⟨b1, 0, none⟩) 5 5)), (9, .int .i64 p_most)]) [] rfl ⟨rfl, rfl, rfl, rfl, rfl, trivial⟩
  obtain ⟨hc1, h⟩ := chkE h
  obtain ⟨v1, hs2, hr1⟩ := rn_cutTh (a := a) (x := .tmp 8) (y' := .tmp 9) (ty := 70) sl_70 (ownV_slcT enc_str hs1) (S.tm rfl) (S.tm rfl) hc1
  refine lv S (hr1 _) rfl ?_; clear S; intro a S
  clear hr1
  refine lv S (rn_lenT sl_70 (S.tm rfl) (slc_len hs2)) rfl ?_; clear S; intro a S
  refine lv S (rn_move rfl) rfl ?_; clear S; intro a S
  refine l_done ?_
  replace S := S.nf (L' := [.own (.slice none 0 0) 60 5 ([] : List GItem).length (([] : List GItem).flatMap GItem.enc), .blk b_p_s [v_p_s_L, .int .i64 p_s_at] 25]) (K' := [(0, .pointer (some ⟨b_p_s, 0, none⟩)), (5, (.slice none 0 0)), (10, v1), (11, .int .i64 ((cut ([k_ic, k_ia, k_id, k_ib, k_ie] : List ByteArray) 0 p_most).length : Int)), (12, .int .i64 0)]) [true, true] rfl ⟨rfl, rfl, rfl, rfl, rfl, trivial⟩
  refine then_n ?_
  obtain ⟨j1, hj1, h⟩ := joinE h
  refine f_join (fun a w' => ∃ x1 : List GItem, ∃ x2 : Int, ∃ v2 : Value, j1 x1 x2 = some r ∧ Sx w [b_p_s] φ1 [.own v2 60 5 x1.length (x1.flatMap GItem.enc), .blk b_p_s [v_p_s_L, .int .i64 x2] 25] [(5, v2)] 38 a w') ?_ ?_
  · refine wp_block ?_
    refine f_loop (fun (ys1 : List ByteArray) a w' => ∃ i1 : Nat, ∃ x1 : List GItem, ∃ x2 : Int, ∃ v2 : Value, (∃ dn, cut ([k_ic, k_ia, k_id, k_ib, k_ie] : List ByteArray) 0 p_most = dn ++ ys1 ∧ dn.length = i1) ∧ Stream_RightItems_l1 p_s_L j1 ys1 i1 x1 x2 = some r ∧ Sx w [b_p_s] φ1 [.own v2 60 5 x1.length (x1.flatMap GItem.enc), .blk b_p_s [v_p_s_L, .int .i64 x2] 25] [(0, .pointer (some ⟨b_p_s, 0, none⟩)), (5, v2), (10, v1), (11, .int .i64 ((cut ([k_ic, k_ia, k_id, k_ib, k_ie] : List ByteArray) 0 p_most).length : Int)), (12, .int .i64 (i1 : Int))] 38 a w') List.length (cut ([k_ic, k_ia, k_id, k_ib, k_ie] : List ByteArray) 0 p_most) ⟨0, ([] : List GItem), p_s_at, (.slice none 0 0), ⟨[], rfl, rfl⟩, h, S.nf [true, true] rfl ⟨rfl, rfl, rfl, rfl, rfl, trivial⟩⟩ ?_
    clear S h; rintro ys1 a w2 ⟨i1, x1, x2, v2, ⟨dn, hd1, hi1⟩, h, S⟩
    cases ys1 with
    | nil =>
      rw [Stream_RightItems_l1.eq_1] at h
      refine f_seq ?_
      refine f_region ?_
      refine lv S (rn_lss (S.tm rfl) (S.tm rfl)) rfl ?_; clear S; intro a S
      refine l_done ?_
      replace S := S.nf (L' := [.own v2 60 5 x1.length (x1.flatMap GItem.enc), .blk b_p_s [v_p_s_L, .int .i64 x2] 25]) (K' := [(0, .pointer (some ⟨b_p_s, 0, none⟩)), (5, v2), (10, v1), (11, .int .i64 ((cut ([k_ic, k_ia, k_id, k_ib, k_ie] : List ByteArray) 0 p_most).length : Int)), (12, .int .i64 (i1 : Int)), (13, .bool (decide ((i1 : Int) < ((cut ([k_ic, k_ia, k_id, k_ib, k_ie] : List ByteArray) 0 p_most).length : Int))))]) [true, true] rfl ⟨rfl, rfl, rfl, rfl, rfl, rfl, trivial⟩
      refine then_n ?_
      refine f_seq ?_
      refine wp_cond_false ((S.tm rfl).trans (congrArg Value.bool (rng_nil hd1 hi1))) ?_
      refine wp_exit ?_
      refine then_x ?_
      refine then_x ?_
      refine x_same ?_
      refine then_n ?_
      exact ⟨x1, x2, v2, h, S.nf [true, true] rfl ⟨rfl, trivial⟩⟩
    | cons y1 ys1 =>
      rw [Stream_RightItems_l1.eq_2] at h
      refine f_seq ?_
      refine f_region ?_
      refine lv S (rn_lss (S.tm rfl) (S.tm rfl)) rfl ?_; clear S; intro a S
      refine l_done ?_
      replace S := S.nf (L' := [.own v2 60 5 x1.length (x1.flatMap GItem.enc), .blk b_p_s [v_p_s_L, .int .i64 x2] 25]) (K' := [(0, .pointer (some ⟨b_p_s, 0, none⟩)), (5, v2), (10, v1), (11, .int .i64 ((cut ([k_ic, k_ia, k_id, k_ib, k_ie] : List ByteArray) 0 p_most).length : Int)), (12, .int .i64 (i1 : Int)), (13, .bool (decide ((i1 : Int) < ((cut ([k_ic, k_ia, k_id, k_ib, k_ie] : List ByteArray) 0 p_most).length : Int))))]) [true, true] rfl ⟨rfl, rfl, rfl, rfl, rfl, rfl, trivial⟩
      refine then_n ?_
      refine f_seq ?_
      refine wp_cond_true ((S.tm rfl).trans (congrArg Value.bool (rng_cons hd1 hi1))) ?_
      refine wp_skip ?_
      refine then_n ?_
      refine f_seq ?_
      obtain ⟨j2, hj2, h⟩ := joinE h
      refine f_join (fun a w' => ∃ x3 : List GItem, ∃ x4 : Int, ∃ v3 : Value, j2 x3 x4 = some r ∧ Sx w [b_p_s] φ1 [.own v3 60 5 x3.length (x3.flatMap GItem.enc), .blk b_p_s [v_p_s_L, .int .i64 x4] 25] [(0, .pointer (some ⟨b_p_s, 0, none⟩)), (5, v3), (10, v1), (11, .int .i64 ((cut ([k_ic, k_ia, k_id, k_ib, k_ie] : List ByteArray) 0 p_most).length : Int)), (12, .int .i64 (i1 : Int))] 38 a w') ?_ ?_
      · refine wp_block ?_
        refine f_seq ?_
        refine f_region ?_
        obtain ⟨b2, o1, hm1, hr2⟩ := rn_indexT (a := a) (x := .tmp 10) (y := .tmp 12) (ty := 0) sl_70 hs2 (get_mid hd1 hi1) rfl (S.tm rfl) (S.tm rfl)
        refine lv S (hr2 _) rfl ?_; clear S; intro a S
        clear hr2
        refine lv S (rn_ld Tryd.isAgg9 (off := o1) (o := 0) (S.tm rfl) (hm1.at S.emb) rfl) rfl ?_; clear S; intro a S
        refine lv S (rn_assign (S.tm rfl)) rfl ?_; clear S; intro a S
        refine l_done ?_
        replace S := S.nf (L' := [.own v2 60 5 x1.length (x1.flatMap GItem.enc), .blk b_p_s [v_p_s_L, .int .i64 x2] 25]) (K' := [(0, .pointer (some ⟨b_p_s, 0, none⟩)), (5, v2), (7, .string y1), (10, v1), (11, .int .i64 ((cut ([k_ic, k_ia, k_id, k_ib, k_ie] : List ByteArray) 0 p_most).length : Int)), (12, .int .i64 (i1 : Int))]) [true, true] rfl ⟨rfl, rfl, rfl, rfl, rfl, rfl, trivial⟩
        refine then_n ?_
        refine f_seq ?_
        refine f_region ?_
        refine lv S (rn_move (S.tm rfl)) rfl ?_; clear S; intro a S
        obtain ⟨r1, hr3, h⟩ := bindE h
        refine l_enter1 1 S (b := b_p_s) rfl rfl (fun _ => .blk b_p_s [v_p_s_L, .int .i64 r1.2] 25) (fun _ => run_call (vs := [.pointer (some ⟨b_p_s, 0, none⟩), .int .i64 6]) ⟨(S.tm rfl), rfl, trivial⟩ Tryd.call25) (Stream_Flip_ok _ b_p_s v_p_s_L p_s_L (hs_p_s_L.mono (S.le_arg (fp_sub (i := 1) (e := .blk b_p_s [v_p_s_L, .int .i64 x2] 25) rfl))) x2 (S.holds _ (List.mem_of_getElem? (i := 1) rfl)) 6 _ hr3) rfl (fun _ _ _ h => ⟨h.1, fun _ hc => by cases hc; rfl⟩) ?_; clear S; intro v4 a w5 hv1 hk2 hn1 S
        replace hv1 := hv1.2
        subst hv1
        refine lv S (rn_not (S.tm rfl)) rfl ?_; clear S; intro a S
        refine l_done ?_
        replace S := S.nf (L' := [.own v2 60 5 x1.length (x1.flatMap GItem.enc), .blk b_p_s [v_p_s_L, .int .i64 r1.2] 25]) (K' := [(0, .pointer (some ⟨b_p_s, 0, none⟩)), (5, v2), (7, .string y1), (10, v1), (11, .int .i64 ((cut ([k_ic, k_ia, k_id, k_ib, k_ie] : List ByteArray) 0 p_most).length : Int)), (12, .int .i64 (i1 : Int)), (18, .bool (!r1.1))]) [true, true] rfl ⟨rfl, rfl, rfl, rfl, rfl, rfl, rfl, trivial⟩
        refine then_n ?_
        obtain ⟨j3, hj3, h⟩ := joinE h
        refine f_join (fun a w' => ∃ x5 : List GItem, ∃ x6 : Int, ∃ v5 : Value, j3 x5 x6 = some r ∧ Sx w [b_p_s] φ1 [.own v5 60 5 x5.length (x5.flatMap GItem.enc), .blk b_p_s [v_p_s_L, .int .i64 x6] 25] [(0, .pointer (some ⟨b_p_s, 0, none⟩)), (5, v5), (10, v1), (11, .int .i64 ((cut ([k_ic, k_ia, k_id, k_ib, k_ie] : List ByteArray) 0 p_most).length : Int)), (12, .int .i64 (i1 : Int))] 38 a w') ?_ ?_
        · refine f_cond (S.tm rfl) (fun hb1 => ?_) (fun hb1 => ?_)
          · replace h := iteT h hb1
            refine f_region ?_
            refine lv S (rn_move (S.tm rfl)) rfl ?_; clear S; intro a S
            refine lv S (rn_move (S.tm rfl)) rfl ?_; clear S; intro a S
            refine lv S (rn_move (S.tm rfl)) rfl ?_; clear S; intro a S
            refine l_buildSlice S Tryd.underlying22 Tryd.sizeOf3 Tryd.zeroValue3 rfl rfl (pv := [(0, .int .i64 1), (1, .int .i64 1), (2, .int .i64 2), (3, .int .i64 3)]) ⟨rfl, rfl, rfl, rfl, rfl, rfl, rfl, rfl, trivial⟩ (cs := [.int .i64 1, .int .i64 1, .int .i64 2, .int .i64 3]) (by kernel_rfl) rfl ?_; clear S; intro a w7 b3 hz2 hk3 S
            obtain ⟨r2, hr4, h⟩ := bindE h
            refine l_enter1 2 S (b := b_p_s) rfl rfl (fun _ => .blk b_p_s [v_p_s_L, .int .i64 r2.2] 25) (fun _ => run_call (vs := [.pointer (some ⟨b_p_s, 0, none⟩), .slice (some ⟨b3, 0, none⟩) 4 4]) ⟨(S.tm rfl), (S.tm rfl), trivial⟩ Tryd.call6) (Stream_Pick_ok _ b_p_s v_p_s_L p_s_L (hs_p_s_L.mono (S.le_arg (fp_sub (i := 2) (e := .blk b_p_s [v_p_s_L, .int .i64 r1.2] 25) rfl))) r1.2 (S.holds _ (List.mem_of_getElem? (i := 2) rfl)) (.slice (some ⟨b3, 0, none⟩) 4 4) [1, 1, 2, 3] (lit_slcT enc_int S (i := 0) rfl rfl rfl rfl ((ne_fp (i := 2) (j := 0) (e := .blk b_p_s [v_p_s_L, .int .i64 r1.2] 25) (e' := .blk b3 [.int .i64 1, .int .i64 1, .int .i64 2, .int .i64 3] 3) S rfl rfl rfl) _ rfl)) _ hr4) rfl (fun _ _ _ h => ⟨h.1, fun _ hc => by cases hc; rfl⟩) ?_; clear S; intro v6 a w8 hv2 hk4 hn2 S
            replace hv2 := hv2.2
            subst hv2
            refine lv S (rn_move (S.tm rfl)) rfl ?_; clear S; intro a S
            refine l_buildSlice S Tryd.underlying22 Tryd.sizeOf3 Tryd.zeroValue3 rfl rfl (pv := [(0, .int .i64 50), (1, .int .i64 100)]) ⟨rfl, rfl, rfl, rfl, trivial⟩ (cs := [.int .i64 50, .int .i64 100]) (by kernel_rfl) rfl ?_; clear S; intro a w9 b4 hz3 hk5 S
            obtain ⟨r3, hr5, h⟩ := bindE h
            refine l_enter1 3 S (b := b_p_s) rfl rfl (fun _ => .blk b_p_s [v_p_s_L, .int .i64 r3.2] 25) (fun _ => run_call (vs := [.pointer (some ⟨b_p_s, 0, none⟩), .slice (some ⟨b4, 0, none⟩) 2 2]) ⟨(S.tm rfl), (S.tm rfl), trivial⟩ Tryd.call6) (Stream_Pick_ok _ b_p_s v_p_s_L p_s_L (hs_p_s_L.mono (S.le_arg (fp_sub (i := 3) (e := .blk b_p_s [v_p_s_L, .int .i64 r2.2] 25) rfl))) r2.2 (S.holds _ (List.mem_of_getElem? (i := 3) rfl)) (.slice (some ⟨b4, 0, none⟩) 2 2) [50, 100] (lit_slcT enc_int S (i := 0) rfl rfl rfl rfl ((ne_fp (i := 3) (j := 0) (e := .blk b_p_s [v_p_s_L, .int .i64 r2.2] 25) (e' := .blk b4 [.int .i64 50, .int .i64 100] 3) S rfl rfl rfl) _ rfl)) _ hr5) rfl (fun _ _ _ h => ⟨h.1, fun _ hc => by cases hc; rfl⟩) ?_; clear S; intro v7 a w10 hv3 hk6 hn3 S
            replace hv3 := hv3.2
            subst hv3
            refine lv S (rn_move (S.tm rfl)) rfl ?_; clear S; intro a S
            refine l_buildSlice S Tryd.underlying22 Tryd.sizeOf3 Tryd.zeroValue3 rfl rfl (pv := [(0, .int .i64 0), (1, .int .i64 10), (2, .int .i64 60)]) ⟨rfl, rfl, rfl, rfl, rfl, rfl, trivial⟩ (cs := [.int .i64 0, .int .i64 10, .int .i64 60]) (by kernel_rfl) rfl ?_; clear S; intro a w11 b5 hz4 hk7 S
            obtain ⟨r4, hr6, h⟩ := bindE h
            refine l_enter1 4 S (b := b_p_s) rfl rfl (fun _ => .blk b_p_s [v_p_s_L, .int .i64 r4.2] 25) (fun _ => run_call (vs := [.pointer (some ⟨b_p_s, 0, none⟩), .slice (some ⟨b5, 0, none⟩) 3 3]) ⟨(S.tm rfl), (S.tm rfl), trivial⟩ Tryd.call6) (Stream_Pick_ok _ b_p_s v_p_s_L p_s_L (hs_p_s_L.mono (S.le_arg (fp_sub (i := 4) (e := .blk b_p_s [v_p_s_L, .int .i64 r3.2] 25) rfl))) r3.2 (S.holds _ (List.mem_of_getElem? (i := 4) rfl)) (.slice (some ⟨b5, 0, none⟩) 3 3) [0, 10, 60] (lit_slcT enc_int S (i := 0) rfl rfl rfl rfl ((ne_fp (i := 4) (j := 0) (e := .blk b_p_s [v_p_s_L, .int .i64 r3.2] 25) (e' := .blk b5 [.int .i64 0, .int .i64 10, .int .i64 60] 3) S rfl rfl rfl) _ rfl)) _ hr6) rfl (fun _ _ _ h => ⟨h.1, fun _ hc => by cases hc; rfl⟩) ?_; clear S; intro v8 a w12 hv4 hk8 hn4 S
            replace hv4 := hv4.2
            subst hv4
            refine lv S (rn_move (S.tm rfl)) rfl ?_; clear S; intro a S
            refine l_buildSlice S Tryd.underlying22 Tryd.sizeOf3 Tryd.zeroValue3 rfl rfl (pv := [(0, .int .i64 0), (1, .int .i64 20), (2, .int .i64 50), (3, .int .i64 200)]) ⟨rfl, rfl, rfl, rfl, rfl, rfl, rfl, rfl, trivial⟩ (cs := [.int .i64 0, .int .i64 20, .int .i64 50, .int .i64 200]) (by kernel_rfl) rfl ?_; clear S; intro a w13 b6 hz5 hk9 S
            obtain ⟨r5, hr7, h⟩ := bindE h
            refine l_enter1 5 S (b := b_p_s) rfl rfl (fun _ => .blk b_p_s [v_p_s_L, .int .i64 r5.2] 25) (fun _ => run_call (vs := [.pointer (some ⟨b_p_s, 0, none⟩), .slice (some ⟨b6, 0, none⟩) 4 4]) ⟨(S.tm rfl), (S.tm rfl), trivial⟩ Tryd.call6) (Stream_Pick_ok _ b_p_s v_p_s_L p_s_L (hs_p_s_L.mono (S.le_arg (fp_sub (i := 5) (e := .blk b_p_s [v_p_s_L, .int .i64 r4.2] 25) rfl))) r4.2 (S.holds _ (List.mem_of_getElem? (i := 5) rfl)) (.slice (some ⟨b6, 0, none⟩) 4 4) [0, 20, 50, 200] (lit_slcT enc_int S (i := 0) rfl rfl rfl rfl ((ne_fp (i := 5) (j := 0) (e := .blk b_p_s [v_p_s_L, .int .i64 r4.2] 25) (e' := .blk b6 [.int .i64 0, .int .i64 20, .int .i64 50, .int .i64 200] 3) S rfl rfl rfl) _ rfl)) _ hr7) rfl (fun _ _ _ h => ⟨h.1, fun _ hc => by cases hc; rfl⟩) ?_; clear S; intro v9 a w14 hv5 hk10 hn5 S
            replace hv5 := hv5.2
            subst hv5
            refine lv S (rn_bld bt_60 (pv := [(0, .string y1), (1, .int .i64 r2.1), (2, .int .i64 r3.1), (3, .int .i64 r4.1), (4, .int .i64 r5.1)]) ⟨rfl, (S.tm rfl), rfl, (S.tm rfl), rfl, (S.tm rfl), rfl, (S.tm rfl), rfl, (S.tm rfl), trivial⟩ (cs := [.string y1, .int .i64 r2.1, .int .i64 r3.1, .int .i64 r4.1, .int .i64 r5.1]) (by kernel_rfl)) rfl ?_; clear S; intro a S
            refine l_buildSlice S Tryd.underlying26 Tryd.sizeOf60 Tryd.zeroValue60 rfl rfl (pv := [(0, .agg #[.string y1, .int .i64 r2.1, .int .i64 r3.1, .int .i64 r4.1, .int .i64 r5.1])]) ⟨rfl, (S.tm rfl), trivial⟩ (cs := [.string y1, .int .i64 r2.1, .int .i64 r3.1, .int .i64 r4.1, .int .i64 r5.1]) (by kernel_rfl) rfl ?_; clear S; intro a w15 b7 hz6 hk11 S
            obtain ⟨hc2, h⟩ := chkE h
            refine l_appendT sl_26 GItem.enc_ok S (S.tm rfl) (i := 5) rfl (S.tm rfl) (j := 0) rfl (ys := [(GItem.mk y1 r2.1 r3.1 r4.1 r5.1)]) rfl rfl rfl rfl (by have := room_lt hc2; omega) rfl ?_; clear S; intro v10 a w16 hk12 S
            refine lv S (rn_assign (S.tm rfl)) rfl ?_; clear S; intro a S
            refine l_done ?_
            replace S := S.nf (L' := [.own v10 60 5 (x1 ++ [(GItem.mk y1 r2.1 r3.1 r4.1 r5.1)]).length ((x1 ++ [(GItem.mk y1 r2.1 r3.1 r4.1 r5.1)]).flatMap GItem.enc), .blk b_p_s [v_p_s_L, .int .i64 r5.2] 25]) (K' := [(0, .pointer (some ⟨b_p_s, 0, none⟩)), (5, v10), (10, v1), (11, .int .i64 ((cut ([k_ic, k_ia, k_id, k_ib, k_ie] : List ByteArray) 0 p_most).length : Int)), (12, .int .i64 (i1 : Int))]) [false, false, false, false, false, true, true] rfl ⟨rfl, rfl, rfl, rfl, rfl, trivial⟩
            refine then_n ?_
            exact ⟨(x1 ++ [(GItem.mk y1 r2.1 r3.1 r4.1 r5.1)]), r5.2, v10, h, S.nf [true, true] rfl ⟨rfl, rfl, rfl, rfl, rfl, trivial⟩⟩
          · replace h := iteF h hb1
            refine wp_skip ?_
            refine then_n ?_
            exact ⟨x1, r1.2, v2, h, S.nf [true, true] rfl ⟨rfl, rfl, rfl, rfl, rfl, trivial⟩⟩
        clear S h; rintro a w6 ⟨x5, x6, v5, h, S⟩; rw [hj3] at h; clear hj3 j3
        refine blk_n ?_
        refine then_n ?_
        exact ⟨x5, x6, v5, h, S.nf [true, true] rfl ⟨rfl, rfl, rfl, rfl, rfl, trivial⟩⟩
      clear S h; rintro a w4 ⟨x3, x4, v3, h, S⟩; rw [hj2] at h; clear hj2 j2
      refine then_n ?_
      refine f_region ?_
      refine lv S (rn_add (S.tm rfl) rfl) rfl ?_; clear S; intro a S
      refine lv S (rn_move (S.tm rfl)) rfl ?_; clear S; intro a S
      refine l_done ?_
      replace S := S.nf (L' := [.own v3 60 5 x3.length (x3.flatMap GItem.enc), .blk b_p_s [v_p_s_L, .int .i64 x4] 25]) (K' := [(0, .pointer (some ⟨b_p_s, 0, none⟩)), (5, v3), (10, v1), (11, .int .i64 ((cut ([k_ic, k_ia, k_id, k_ib, k_ie] : List ByteArray) 0 p_most).length : Int)), (12, .int .i64 (W ((i1 : Int) + 1)))]) [true, true] rfl ⟨rfl, rfl, rfl, rfl, rfl, trivial⟩
      refine then_n ?_
      exact ⟨ys1, ⟨i1 + 1, x3, x4, v3, ⟨_, (hd1).trans (List.append_cons _ _ _), by simp [hi1]⟩, h, S.nf [true, true] rfl ⟨rfl, rfl, rfl, rfl, (congrArg (fun z => some (Value.int .i64 z)) (rng_next hd1 hi1 (slc_max hs2))), trivial⟩⟩, Nat.lt_succ_self _⟩
  clear S h; rintro a w3 ⟨x1, x2, v2, h, S⟩; rw [hj1] at h; clear hj1 j1
  refine then_n ?_
  refine f_seq ?_
  refine f_region ?_
  refine lv S (rn_move (S.tm rfl)) rfl ?_; clear S; intro a S
  refine lv S (rn_assign (S.tm rfl)) rfl ?_; clear S; intro a S
  refine l_done ?_
  replace S := S.nf (L' := [.own v2 60 5 x1.length (x1.flatMap GItem.enc), .blk b_p_s [v_p_s_L, .int .i64 x2] 25]) (K' := [(4, v2)]) [true, true] rfl ⟨rfl, trivial⟩
  refine then_n ?_
  refine wp_ret ?_
  obtain rfl := Option.some.inj h
  exact f_ret S Tryd.results24 rfl ⟨(S.holds _ (List.mem_of_getElem? (i := 1) rfl)), (own_retX S (i := 0) rfl (fun c hc hh => not_fps S (i := 1) rfl rfl (j := 0) rfl rfl (by simp at hc; subst hc; exact hh)))⟩
theorem Stream_Some_ok (w : World) (b_p_s : Nat) (v_p_s_L : Value) (p_s_L : List Int) (hs_p_s_L : Slc (view w [b_p_s]) 1 v_p_s_L (p_s_L.map eInt)) (p_s_at : Int) (hb_b_p_s : (LEnt.blk b_p_s [v_p_s_L, .int .i64 p_s_at] 25).holds w) (v_p_l : Value) (p_l : List ByteArray) (hs_p_l : Slc (view w [b_p_s]) 1 v_p_l (p_l.map eStr)) (r : ByteArray × Int) (h : Stream_Some p_s_L p_s_at p_l = some r) :
    Calls Tryd.prog 27 [.pointer (some ⟨b_p_s, 0, none⟩), v_p_l].toArray w (Ret w [b_p_s] fun τ v w' => (LEnt.blk b_p_s [v_p_s_L, .int .i64 r.2] 25).holds w' ∧ v = .string r.1) := by
  refine f_enter [b_p_s] [.blk b_p_s [v_p_s_L, .int .i64 p_s_at] 25] Tryd.func27 rfl Tryd.ntmps27 rfl (fun e he => by simp only [List.mem_singleton] at he; subst he; exact hb_b_p_s) (by simp [fps, LEnt.fp]) (by simp [fps, LEnt.fp]) fun a S => ?_
  unfold Stream_Some at h
  replace S := S.nf (L' := [.blk b_p_s [v_p_s_L, .int .i64 p_s_at] 25]) (K' := [(0, .pointer (some ⟨b_p_s, 0, none⟩)), (1, v_p_l)]) [true] rfl ⟨rfl, rfl, trivial⟩
  refine f_seq ?_
  refine f_region ?_
  refine lv S (rn_assign rfl) rfl ?_; clear S; intro a S
  refine l_done ?_
  replace S := S.nf (L' := [.blk b_p_s [v_p_s_L, .int .i64 p_s_at] 25]) (K' := [(0, .pointer (some ⟨b_p_s, 0, none⟩)), (1, v_p_l)]) [true] rfl ⟨rfl, rfl, trivial⟩
  refine then_n ?_
  refine f_seq ?_
  refine f_region ?_
  refine lv S (rn_move (S.tm rfl)) rfl ?_; clear S; intro a S
  refine lv S (rn_move (S.tm rfl)) rfl ?_; clear S; intro a S
  refine lv S (rn_move (S.tm rfl)) rfl ?_; clear S; intro a S
  refine lv S (rn_lenT sl_70 (S.tm rfl) (slc_len hs_p_l)) rfl ?_; clear S; intro a S
  obtain ⟨r1, hr1, h⟩ := bindE h
  refine l_enter1 0 S (b := b_p_s) rfl rfl (fun _ => .blk b_p_s [v_p_s_L, .int .i64 r1.2] 25) (fun _ => run_call (vs := [.pointer (some ⟨b_p_s, 0, none⟩), .int .i64 (p_l.length : Int)]) ⟨(S.tm rfl), (S.tm rfl), trivial⟩ Tryd.call26) (Stream_Next_ok _ b_p_s v_p_s_L p_s_L (hs_p_s_L.mono (S.le_arg (fp_sub (i := 0) (e := .blk b_p_s [v_p_s_L, .int .i64 p_s_at] 25) rfl))) p_s_at (S.holds _ (List.mem_of_getElem? (i := 0) rfl)) (p_l.length : Int) _ hr1) rfl (fun _ _ _ h => ⟨h.1, fun _ hc => by cases hc; rfl⟩) ?_; clear S; intro v1 a w1 hv1 hk1 hn1 S
  replace hv1 := hv1.2
  subst hv1
  obtain ⟨hc1, h⟩ := chkE h
  obtain ⟨b1, o1, hm1, hr2⟩ := rn_indexT (a := a) (x := .tmp 5) (y := .tmp 9) (ty := 0) sl_70 hs_p_l (inB_get hc1).1 (inB_get hc1).2 (S.tm rfl) (S.tm rfl)
  refine lv S (hr2 _) rfl ?_; clear S; intro a S
  clear hr2
  refine lv S (rn_ld Tryd.isAgg9 (off := o1) (o := 0) (S.tm rfl) (hm1.at S.emb0) rfl) rfl ?_; clear S; intro a S
  refine lv S (rn_assign (S.tm rfl)) rfl ?_; clear S; intro a S
  refine l_done ?_
  replace S := S.nf (L' := [.blk b_p_s [v_p_s_L, .int .i64 r1.2] 25]) (K' := [(4, .string (nth p_l r1.1))]) [true] rfl ⟨rfl, trivial⟩
  refine then_n ?_
  refine wp_ret ?_
  obtain rfl := Option.some.inj h
  exact f_ret S Tryd.results27 rfl ⟨(S.holds _ (List.mem_of_getElem? (i := 0) rfl)), rfl⟩
theorem Stream_Range_ok (w : World) (b_p_s : Nat) (v_p_s_L : Value) (p_s_L : List Int) (hs_p_s_L : Slc (view w [b_p_s]) 1 v_p_s_L (p_s_L.map eInt)) (p_s_at : Int) (hb_b_p_s : (LEnt.blk b_p_s [v_p_s_L, .int .i64 p_s_at] 25).holds w) (p_low : Int) (p_high : Int) (r : Int × Int) (h : Stream_Range p_s_L p_s_at p_low p_high = some r) :
    Calls Tryd.prog 39 [.pointer (some ⟨b_p_s, 0, none⟩), .int .i64 p_low, .int .i64 p_high].toArray w (Ret w [b_p_s] fun τ v w' => (LEnt.blk b_p_s [v_p_s_L, .int .i64 r.2] 25).holds w' ∧ v = .int .i64 r.1) := by
  refine f_enter [b_p_s] [.blk b_p_s [v_p_s_L, .int .i64 p_s_at] 25] Tryd.func39 rfl Tryd.ntmps39 rfl (fun e he => by simp only [List.mem_singleton] at he; subst he; exact hb_b_p_s) (by simp [fps, LEnt.fp]) (by simp [fps, LEnt.fp]) fun a S => ?_
  unfold Stream_Range at h
  replace S := S.nf (L' := [.blk b_p_s [v_p_s_L, .int .i64 p_s_at] 25]) (K' := [(0, .pointer (some ⟨b_p_s, 0, none⟩)), (1, .int .i64 p_low), (2, .int .i64 p_high)]) [true] rfl ⟨rfl, rfl, rfl, trivial⟩
  refine f_seq ?_
  refine f_region ?_
  refine lv S (rn_assign rfl) rfl ?_; clear S; intro a S
  refine l_done ?_
  replace S := S.nf (L' := [.blk b_p_s [v_p_s_L, .int .i64 p_s_at] 25]) (K' := [(0, .pointer (some ⟨b_p_s, 0, none⟩)), (1, .int .i64 p_low), (2, .int .i64 p_high)]) [true] rfl ⟨rfl, rfl, rfl, trivial⟩
  refine then_n ?_
  refine f_seq ?_
  refine f_seq ?_
  refine f_region ?_
  refine lv S (rn_move (S.tm rfl)) rfl ?_; clear S; intro a S
  refine lv S (rn_move (S.tm rfl)) rfl ?_; clear S; intro a S
  refine lv S (rn_lss (S.tm rfl) (S.tm rfl)) rfl ?_; clear S; intro a S
  refine l_done ?_
  replace S := S.nf (L' := [.blk b_p_s [v_p_s_L, .int .i64 p_s_at] 25]) (K' := [(0, .pointer (some ⟨b_p_s, 0, none⟩)), (1, .int .i64 p_low), (2, .int .i64 p_high), (9, .bool (decide (p_high < p_low)))]) [true] rfl ⟨rfl, rfl, rfl, rfl, trivial⟩
  refine then_n ?_
  refine f_cond (S.tm rfl) (fun hb1 => ?_) (fun hb1 => ?_)
  · replace h := iteT h hb1
    refine f_seq ?_
    refine f_region ?_
    refine lv S (rn_move (S.tm rfl)) rfl ?_; clear S; intro a S
    refine lv S (rn_assign (S.tm rfl)) rfl ?_; clear S; intro a S
    refine l_done ?_
    replace S := S.nf (L' := [.blk b_p_s [v_p_s_L, .int .i64 p_s_at] 25]) (K' := [(6, .int .i64 p_low)]) [true] rfl ⟨rfl, trivial⟩
    refine then_n ?_
    refine wp_ret ?_
    refine then_r ?_
    obtain rfl := Option.some.inj h
    exact f_ret S Tryd.results39 rfl ⟨(S.holds _ (List.mem_of_getElem? (i := 0) rfl)), rfl⟩
  · replace h := iteF h hb1
    refine wp_skip ?_
    refine then_n ?_
    refine f_seq ?_
    refine f_region ?_
    refine lv S (rn_move (S.tm rfl)) rfl ?_; clear S; intro a S
    refine lv S (rn_move (S.tm rfl)) rfl ?_; clear S; intro a S
    refine lv S (rn_move (S.tm rfl)) rfl ?_; clear S; intro a S
    refine lv S (rn_move (S.tm rfl)) rfl ?_; clear S; intro a S
    refine lv S (rn_sub (S.tm rfl) (S.tm rfl)) rfl ?_; clear S; intro a S
    refine lv S (rn_add (S.tm rfl) rfl) rfl ?_; clear S; intro a S
    obtain ⟨r1, hr1, h⟩ := bindE h
    refine l_enter1 0 S (b := b_p_s) rfl rfl (fun _ => .blk b_p_s [v_p_s_L, .int .i64 r1.2] 25) (fun _ => run_call (vs := [.pointer (some ⟨b_p_s, 0, none⟩), .int .i64 (W ((W (p_high - p_low)) + 1))]) ⟨(S.tm rfl), (S.tm rfl), trivial⟩ Tryd.call26) (Stream_Next_ok _ b_p_s v_p_s_L p_s_L (hs_p_s_L.mono (S.le_arg (fp_sub (i := 0) (e := .blk b_p_s [v_p_s_L, .int .i64 p_s_at] 25) rfl))) p_s_at (S.holds _ (List.mem_of_getElem? (i := 0) rfl)) (W ((W (p_high - p_low)) + 1)) _ hr1) rfl (fun _ _ _ h => ⟨h.1, fun _ hc => by cases hc; rfl⟩) ?_; clear S; intro v1 a w1 hv1 hk1 hn1 S
    replace hv1 := hv1.2
    subst hv1
    refine lv S (rn_add (S.tm rfl) (S.tm rfl)) rfl ?_; clear S; intro a S
    refine lv S (rn_assign (S.tm rfl)) rfl ?_; clear S; intro a S
    refine l_done ?_
    replace S := S.nf (L' := [.blk b_p_s [v_p_s_L, .int .i64 r1.2] 25]) (K' := [(6, .int .i64 (W (p_low + r1.1)))]) [true] rfl ⟨rfl, trivial⟩
    refine then_n ?_
    refine wp_ret ?_
    obtain rfl := Option.some.inj h
    exact f_ret S Tryd.results39 rfl ⟨(S.holds _ (List.mem_of_getElem? (i := 0) rfl)), rfl⟩
theorem Stream_Odd_ok (w : World) (b_p_s : Nat) (v_p_s_L : Value) (p_s_L : List Int) (hs_p_s_L : Slc (view w [b_p_s]) 1 v_p_s_L (p_s_L.map eInt)) (p_s_at : Int) (hb_b_p_s : (LEnt.blk b_p_s [v_p_s_L, .int .i64 p_s_at] 25).holds w) (p_low : Int) (p_high : Int) (r : Int × Int) (h : Stream_Odd p_s_L p_s_at p_low p_high = some r) :
    Calls Tryd.prog 28 [.pointer (some ⟨b_p_s, 0, none⟩), .int .i64 p_low, .int .i64 p_high].toArray w (Ret w [b_p_s] fun τ v w' => (LEnt.blk b_p_s [v_p_s_L, .int .i64 r.2] 25).holds w' ∧ v = .int .i64 r.1) := by
  refine f_enter [b_p_s] [.blk b_p_s [v_p_s_L, .int .i64 p_s_at] 25] Tryd.func28 rfl Tryd.ntmps28 rfl (fun e he => by simp only [List.mem_singleton] at he; subst he; exact hb_b_p_s) (by simp [fps, LEnt.fp]) (by simp [fps, LEnt.fp]) fun a S => ?_
  unfold Stream_Odd at h
  replace S := S.nf (L' := [.blk b_p_s [v_p_s_L, .int .i64 p_s_at] 25]) (K' := [(0, .pointer (some ⟨b_p_s, 0, none⟩)), (1, .int .i64 p_low), (2, .int .i64 p_high)]) [true] rfl ⟨rfl, rfl, rfl, trivial⟩
  refine f_seq ?_
  refine f_region ?_
  refine lv S (rn_assign rfl) rfl ?_; clear S; intro a S
  refine l_done ?_
  replace S := S.nf (L' := [.blk b_p_s [v_p_s_L, .int .i64 p_s_at] 25]) (K' := [(0, .pointer (some ⟨b_p_s, 0, none⟩)), (1, .int .i64 p_low), (2, .int .i64 p_high)]) [true] rfl ⟨rfl, rfl, rfl, trivial⟩
  refine then_n ?_
  refine f_seq ?_
  refine f_seq ?_
  refine f_region ?_
  refine lv S (rn_move (S.tm rfl)) rfl ?_; clear S; intro a S
  obtain ⟨r1, hr1, h⟩ := bindE h
  refine l_enter1 0 S (b := b_p_s) rfl rfl (fun _ => .blk b_p_s [v_p_s_L, .int .i64 r1.2] 25) (fun _ => run_call (vs := [.pointer (some ⟨b_p_s, 0, none⟩), .int .i64 12]) ⟨(S.tm rfl), rfl, trivial⟩ Tryd.call25) (Stream_Flip_ok _ b_p_s v_p_s_L p_s_L (hs_p_s_L.mono (S.le_arg (fp_sub (i := 0) (e := .blk b_p_s [v_p_s_L, .int .i64 p_s_at] 25) rfl))) p_s_at (S.holds _ (List.mem_of_getElem? (i := 0) rfl)) 12 _ hr1) rfl (fun _ _ _ h => ⟨h.1, fun _ hc => by cases hc; rfl⟩) ?_; clear S; intro v1 a w1 hv1 hk1 hn1 S
  replace hv1 := hv1.2
  subst hv1
  refine l_done ?_
  replace S := S.nf (L' := [.blk b_p_s [v_p_s_L, .int .i64 r1.2] 25]) (K' := [(0, .pointer (some ⟨b_p_s, 0, none⟩)), (1, .int .i64 p_low), (2, .int .i64 p_high), (8, .bool r1.1)]) [true] rfl ⟨rfl, rfl, rfl, rfl, trivial⟩
  refine then_n ?_
  refine f_cond (S.tm rfl) (fun hb1 => ?_) (fun hb1 => ?_)
  · replace h := iteT h hb1
    refine f_seq ?_
    refine f_region ?_
    refine lv S (rn_move (S.tm rfl)) rfl ?_; clear S; intro a S
    refine lv S (rn_move (S.tm rfl)) rfl ?_; clear S; intro a S
    refine lv S (rn_sub (S.tm rfl) rfl) rfl ?_; clear S; intro a S
    refine lv S (rn_move (S.tm rfl)) rfl ?_; clear S; intro a S
    refine lv S (rn_add (S.tm rfl) rfl) rfl ?_; clear S; intro a S
    refine lv S (rn_move (S.tm rfl)) rfl ?_; clear S; intro a S
    refine lv S (rn_move (S.tm rfl)) rfl ?_; clear S; intro a S
    refine l_buildSlice S Tryd.underlying22 Tryd.sizeOf3 Tryd.zeroValue3 rfl rfl (pv := [(0, .int .i64 (W (p_low - 1))), (1, .int .i64 (W (p_high + 1))), (2, .int .i64 p_low), (3, .int .i64 p_high), (4, .int .i64 (-1099511627776)), (5, .int .i64 1099511627776)]) ⟨rfl, (S.tm rfl), rfl, (S.tm rfl), rfl, (S.tm rfl), rfl, (S.tm rfl), rfl, rfl, rfl, rfl, trivial⟩ (cs := [.int .i64 (W (p_low - 1)), .int .i64 (W (p_high + 1)), .int .i64 p_low, .int .i64 p_high, .int .i64 (-1099511627776), .int .i64 1099511627776]) (by kernel_rfl) rfl ?_; clear S; intro a w2 b1 hz1 hk2 S
    obtain ⟨r2, hr2, h⟩ := bindE h
    refine l_enter1 1 S (b := b_p_s) rfl rfl (fun _ => .blk b_p_s [v_p_s_L, .int .i64 r2.2] 25) (fun _ => run_call (vs := [.pointer (some ⟨b_p_s, 0, none⟩), .slice (some ⟨b1, 0, none⟩) 6 6]) ⟨(S.tm rfl), (S.tm rfl), trivial⟩ Tryd.call6) (Stream_Pick_ok _ b_p_s v_p_s_L p_s_L (hs_p_s_L.mono (S.le_arg (fp_sub (i := 1) (e := .blk b_p_s [v_p_s_L, .int .i64 r1.2] 25) rfl))) r1.2 (S.holds _ (List.mem_of_getElem? (i := 1) rfl)) (.slice (some ⟨b1, 0, none⟩) 6 6) [W (p_low - 1), W (p_high + 1), p_low, p_high, (-1099511627776), 1099511627776] (lit_slcT enc_int S (i := 0) rfl rfl rfl rfl ((ne_fp (i := 1) (j := 0) (e := .blk b_p_s [v_p_s_L, .int .i64 r1.2] 25) (e' := .blk b1 [.int .i64 (W (p_low - 1)), .int .i64 (W (p_high + 1)), .int .i64 p_low, .int .i64 p_high, .int .i64 (-1099511627776), .int .i64 1099511627776] 3) S rfl rfl rfl) _ rfl)) _ hr2) rfl (fun _ _ _ h => ⟨h.1, fun _ hc => by cases hc; rfl⟩) ?_; clear S; intro v2 a w3 hv2 hk3 hn2 S
    replace hv2 := hv2.2
    subst hv2
    refine lv S (rn_assign (S.tm rfl)) rfl ?_; clear S; intro a S
    refine l_done ?_
    replace S := S.nf (L' := [.blk b_p_s [v_p_s_L, .int .i64 r2.2] 25]) (K' := [(6, .int .i64 r2.1)]) [false, true] rfl ⟨rfl, trivial⟩
    refine then_n ?_
    refine wp_ret ?_
    refine then_r ?_
    obtain rfl := Option.some.inj h
    exact f_ret S Tryd.results28 rfl ⟨(S.holds _ (List.mem_of_getElem? (i := 0) rfl)), rfl⟩
  · replace h := iteF h hb1
    refine wp_skip ?_
    refine then_n ?_
    refine f_seq ?_
    refine f_region ?_
    refine lv S (rn_move (S.tm rfl)) rfl ?_; clear S; intro a S
    refine lv S (rn_move (S.tm rfl)) rfl ?_; clear S; intro a S
    refine lv S (rn_move (S.tm rfl)) rfl ?_; clear S; intro a S
    obtain ⟨r3, hr3, h⟩ := bindE h
    refine l_enter1 0 S (b := b_p_s) rfl rfl (fun _ => .blk b_p_s [v_p_s_L, .int .i64 r3.2] 25) (fun _ => run_call (vs := [.pointer (some ⟨b_p_s, 0, none⟩), .int .i64 p_low, .int .i64 p_high]) ⟨(S.tm rfl), (S.tm rfl), (S.tm rfl), trivial⟩ Tryd.call39) (Stream_Range_ok _ b_p_s v_p_s_L p_s_L (hs_p_s_L.mono (S.le_arg (fp_sub (i := 0) (e := .blk b_p_s [v_p_s_L, .int .i64 r1.2] 25) rfl))) r1.2 (S.holds _ (List.mem_of_getElem? (i := 0) rfl)) p_low p_high _ hr3) rfl (fun _ _ _ h => ⟨h.1, fun _ hc => by cases hc; rfl⟩) ?_; clear S; intro v3 a w4 hv3 hk4 hn3 S
    replace hv3 := hv3.2
    subst hv3
    refine lv S (rn_assign (S.tm rfl)) rfl ?_; clear S; intro a S
    refine l_done ?_
    replace S := S.nf (L' := [.blk b_p_s [v_p_s_L, .int .i64 r3.2] 25]) (K' := [(6, .int .i64 r3.1)]) [true] rfl ⟨rfl, trivial⟩
    refine then_n ?_
    refine wp_ret ?_
    obtain rfl := Option.some.inj h
    exact f_ret S Tryd.results28 rfl ⟨(S.holds _ (List.mem_of_getElem? (i := 0) rfl)), rfl⟩
theorem Stream_Items_ok (w : World) (b_p_s : Nat) (v_p_s_L : Value) (p_s_L : List Int) (hs_p_s_L : Slc (view w [b_p_s]) 1 v_p_s_L (p_s_L.map eInt)) (p_s_at : Int) (hb_b_p_s : (LEnt.blk b_p_s [v_p_s_L, .int .i64 p_s_at] 25).holds w) (p_most : Int) (r : (List GItem) × Int) (h : Stream_Items p_s_L p_s_at p_most = some r) :
    Calls Tryd.prog 4 [.pointer (some ⟨b_p_s, 0, none⟩), .int .i64 p_most].toArray w (Ret w [b_p_s] fun τ v w' => (LEnt.blk b_p_s [v_p_s_L, .int .i64 r.2] 25).holds w' ∧ OwnV τ 60 5 v r.1.length (r.1.flatMap GItem.enc)) := by
  refine f_enter [b_p_s] [.blk b_p_s [v_p_s_L, .int .i64 p_s_at] 25] Tryd.func4 rfl Tryd.ntmps4 rfl (fun e he => by simp only [List.mem_singleton] at he; subst he; exact hb_b_p_s) (by simp [fps, LEnt.fp]) (by simp [fps, LEnt.fp]) fun a S => ?_
  unfold Stream_Items at h
  replace S := S.nf (L' := [.blk b_p_s [v_p_s_L, .int .i64 p_s_at] 25]) (K' := [(0, .pointer (some ⟨b_p_s, 0, none⟩)), (1, .int .i64 p_most)]) [true] rfl ⟨rfl, rfl, trivial⟩
  refine f_seq ?_
  refine f_region ?_
  refine lv S (rn_assign rfl) rfl ?_; clear S; intro a S
  refine l_done ?_
  replace S := S.nf (L' := [.blk b_p_s [v_p_s_L, .int .i64 p_s_at] 25]) (K' := [(0, .pointer (some ⟨b_p_s, 0, none⟩)), (1, .int .i64 p_most)]) [true] rfl ⟨rfl, rfl, trivial⟩
  refine then_n ?_
  refine f_seq ?_
  refine f_region ?_
  refine lv S (rn_move (S.tm rfl)) rfl ?_; clear S; intro a S
  refine lv S (rn_move (S.tm rfl)) rfl ?_; clear S; intro a S
  obtain ⟨r1, hr1, h⟩ := bindE h
  have hz1 := S.keep.size
  refine l_enter1 0 S (b := b_p_s) rfl rfl (fun _ => .blk b_p_s [v_p_s_L, .int .i64 r1.2] 25) (fun _ => run_call (vs := [.pointer (some ⟨b_p_s, 0, none⟩), .int .i64 p_most]) ⟨(S.tm rfl), (S.tm rfl), trivial⟩ Tryd.call24) (Stream_RightItems_ok _ b_p_s v_p_s_L p_s_L (hs_p_s_L.mono (S.le_arg (fp_sub (i := 0) (e := .blk b_p_s [v_p_s_L, .int .i64 p_s_at] 25) rfl))) p_s_at (S.holds _ (List.mem_of_getElem? (i := 0) rfl)) p_most _ hr1) rfl (fun _ _ _ h => ⟨h.1, fun _ hc => by cases hc; rfl⟩) ?_; clear S; intro v1 a w1 hv1 hk1 hn1 S
  replace hv1 := hv1.2
  replace S := S.take hn1 hz1 hv1
  refine lv S (rn_assign (S.tm rfl)) rfl ?_; clear S; intro a S
  refine l_done ?_
  replace S := S.nf (L' := [.own v1 60 5 r1.1.length (r1.1.flatMap GItem.enc), .blk b_p_s [v_p_s_L, .int .i64 r1.2] 25]) (K' := [(0, .pointer (some ⟨b_p_s, 0, none⟩)), (5, v1)]) [true, true] rfl ⟨rfl, rfl, trivial⟩
  refine then_n ?_
  refine f_seq ?_
  refine f_seq ?_
  refine f_region ?_
  refine lv S (rn_move (S.tm rfl)) rfl ?_; clear S; intro a S
  refine lv S (rn_lenT sl_26 (S.tm rfl) (own_len (S.own_at (i := 0) rfl))) rfl ?_; clear S; intro a S
  refine lv S (rn_gtr (S.tm rfl) rfl) rfl ?_; clear S; intro a S
  refine lv S (rn_move (S.tm rfl)) rfl ?_; clear S; intro a S
  obtain ⟨j1, hj1, h⟩ := joinE h
  refine f_cutm 3 (fun a w' => ∃ x1 : Int, ∃ x2 : Bool, j1 x1 x2 = some r ∧ Sx w [b_p_s] nov [.own v1 60 5 r1.1.length (r1.1.flatMap GItem.enc), .blk b_p_s [v_p_s_L, .int .i64 x1] 25] [(0, .pointer (some ⟨b_p_s, 0, none⟩)), (5, v1), (16, .bool x2)] 54 a w') ?_ ?_
  · rcases Bool.eq_false_or_eq_true (decide (0 < (r1.1.length : Int))) with hb1 | hb1
    · replace h := iteT h hb1
      refine l_want S rfl rfl rfl hb1 ?_
      refine lv S (rn_move (S.tm rfl)) rfl ?_; clear S; intro a S
      refine l_want S rfl rfl rfl hb1 ?_
      obtain ⟨r2, hr2, h⟩ := bindE h
      refine l_enter1 1 S (b := b_p_s) rfl rfl (fun _ => .blk b_p_s [v_p_s_L, .int .i64 r2.2] 25) (fun _ => run_call (vs := [.pointer (some ⟨b_p_s, 0, none⟩), .int .i64 15]) ⟨(S.tm rfl), rfl, trivial⟩ Tryd.call25) (Stream_Flip_ok _ b_p_s v_p_s_L p_s_L (hs_p_s_L.mono (S.le_arg (fp_sub (i := 1) (e := .blk b_p_s [v_p_s_L, .int .i64 r1.2] 25) rfl))) r1.2 (S.holds _ (List.mem_of_getElem? (i := 1) rfl)) 15 _ hr2) rfl (fun _ _ _ h => ⟨h.1, fun _ hc => by cases hc; rfl⟩) ?_; clear S; intro v2 a w3 hv2 hk2 hn2 S
      replace hv2 := hv2.2
      subst hv2
      refine lv S (rn_pick_b hb1 (S.tm rfl) (S.tm rfl)) rfl ?_; clear S; intro a S
      refine l_done ?_
      refine then_n ?_
      exact ⟨r2.2, r2.1, h, S.nf [true, true] rfl ⟨rfl, rfl, rfl, trivial⟩⟩
    · replace h := iteF h hb1
      refine l_skip S rfl rfl rfl (by rw [hb1]; rfl) rfl ?_ rfl; clear S; intro a S
      refine l_skip S rfl rfl rfl (by rw [hb1]; rfl) rfl ?_ rfl; clear S; intro a S
      refine lv S (rn_pick_c hb1 (S.tm rfl) rfl) rfl ?_; clear S; intro a S
      refine l_done ?_
      refine then_n ?_
      exact ⟨r1.2, false, h, S.nf [true, true] rfl ⟨rfl, rfl, rfl, trivial⟩⟩
  clear S h; rintro a w2 ⟨x1, x2, h, S⟩; rw [hj1] at h; clear hj1 j1
  refine l_done ?_
  replace S := S.nf (L' := [.own v1 60 5 r1.1.length (r1.1.flatMap GItem.enc), .blk b_p_s [v_p_s_L, .int .i64 x1] 25]) (K' := [(0, .pointer (some ⟨b_p_s, 0, none⟩)), (5, v1), (16, .bool x2)]) [true, true] rfl ⟨rfl, rfl, rfl, trivial⟩
  refine then_n ?_
  obtain ⟨j2, hj2, h⟩ := joinE h
  refine f_join (fun a w' => ∃ x3 : List GItem, ∃ x4 : Int, ∃ v3 : Value, j2 x3 x4 = some r ∧ Sx w [b_p_s] nov [.own v3 60 5 x3.length (x3.flatMap GItem.enc), .blk b_p_s [v_p_s_L, .int .i64 x4] 25] [(5, v3)] 54 a w') ?_ ?_
  · refine f_cond (S.tm rfl) (fun hb2 => ?_) (fun hb2 => ?_)
    · replace h := iteT h hb2
      refine f_seq ?_
      refine f_region ?_
      refine lv S (rn_move (S.tm rfl)) rfl ?_; clear S; intro a S
      refine lv S (rn_move (S.tm rfl)) rfl ?_; clear S; intro a S
      refine lv S (rn_move (S.tm rfl)) rfl ?_; clear S; intro a S
      refine lv S (rn_lenT sl_26 (S.tm rfl) (own_len (S.own_at (i := 0) rfl))) rfl ?_; clear S; intro a S
      obtain ⟨r3, hr3, h⟩ := bindE h
      refine l_enter1 1 S (b := b_p_s) rfl rfl (fun _ => .blk b_p_s [v_p_s_L, .int .i64 r3.2] 25) (fun _ => run_call (vs := [.pointer (some ⟨b_p_s, 0, none⟩), .int .i64 (r1.1.length : Int)]) ⟨(S.tm rfl), (S.tm rfl), trivial⟩ Tryd.call26) (Stream_Next_ok _ b_p_s v_p_s_L p_s_L (hs_p_s_L.mono (S.le_arg (fp_sub (i := 1) (e := .blk b_p_s [v_p_s_L, .int .i64 x1] 25) rfl))) x1 (S.holds _ (List.mem_of_getElem? (i := 1) rfl)) (r1.1.length : Int) _ hr3) rfl (fun _ _ _ h => ⟨h.1, fun _ hc => by cases hc; rfl⟩) ?_; clear S; intro v4 a w5 hv3 hk3 hn3 S
      replace hv3 := hv3.2
      subst hv3
      obtain ⟨hc1, h⟩ := chkE h
      obtain ⟨b1, hg1, hr4⟩ := rn_indexS (a := a) (x := .tmp 17) (y := .tmp 21) (ty := 0) sl_26 GItem.enc_ok S (i := 0) rfl (inB_get hc1).1 (inB_get hc1).2 (S.tm rfl) (S.tm rfl)
      refine lv S (hr4 _) rfl ?_; clear S; intro a S
      clear hr4
      refine lv S (rn_assign (S.tm rfl)) rfl ?_; clear S; intro a S
      refine l_done ?_
      replace S := S.nf (L' := [.own v1 60 5 r1.1.length (r1.1.flatMap GItem.enc), .blk b_p_s [v_p_s_L, .int .i64 r3.2] 25]) (K' := [(0, .pointer (some ⟨b_p_s, 0, none⟩)), (5, v1), (6, .pointer (some ⟨b1, r3.1.toNat * 5, none⟩))]) [true, true] rfl ⟨rfl, rfl, rfl, trivial⟩
      refine then_n ?_
      refine f_region ?_
      refine lv S (rn_move (S.tm rfl)) rfl ?_; clear S; intro a S
      refine lv S (rn_move (S.tm rfl)) rfl ?_; clear S; intro a S
      refine lv S (rn_move (S.tm rfl)) rfl ?_; clear S; intro a S
      refine lv S (rn_move (S.tm rfl)) rfl ?_; clear S; intro a S
      refine lv S (rn_move (S.tm rfl)) rfl ?_; clear S; intro a S
      refine lv S (rn_move (S.tm rfl)) rfl ?_; clear S; intro a S
      refine lv S (rn_move (S.tm rfl)) rfl ?_; clear S; intro a S
      refine lv S (rn_nilCheck (S.tm rfl)) rfl ?_; clear S; intro a S
      refine lv S (rn_fld fa_60_0 (S.tm rfl)) rfl ?_; clear S; intro a S
      refine lv S (rn_ld Tryd.isAgg9 (off := r3.1.toNat * 5) (o := 0) (S.tm rfl) (own_cells GItem.enc_ok S (i := 0) rfl hg1 (inB_get hc1).1) rfl) rfl ?_; clear S; intro a S
      refine l_buildSlice S Tryd.underlying70 Tryd.sizeOf9 Tryd.zeroValue9 rfl rfl (pv := [(0, .string ((nth r1.1 r3.1).Key)), (1, .string k_empty), (2, .string k_ia)]) ⟨rfl, (S.tm rfl), rfl, rfl, rfl, rfl, trivial⟩ (cs := [.string ((nth r1.1 r3.1).Key), .string k_empty, .string k_ia]) (by kernel_rfl) rfl ?_; clear S; intro a w6 b2 hz2 hk4 S
      obtain ⟨r4, hr5, h⟩ := bindE h
      refine l_enter1 2 S (b := b_p_s) rfl rfl (fun _ => .blk b_p_s [v_p_s_L, .int .i64 r4.2] 25) (fun _ => run_call (vs := [.pointer (some ⟨b_p_s, 0, none⟩), .slice (some ⟨b2, 0, none⟩) 3 3]) ⟨(S.tm rfl), (S.tm rfl), trivial⟩ Tryd.call27) (Stream_Some_ok _ b_p_s v_p_s_L p_s_L (hs_p_s_L.mono (S.le_arg (fp_sub (i := 2) (e := .blk b_p_s [v_p_s_L, .int .i64 r3.2] 25) rfl))) r3.2 (S.holds _ (List.mem_of_getElem? (i := 2) rfl)) (.slice (some ⟨b2, 0, none⟩) 3 3) [(nth r1.1 r3.1).Key, k_empty, k_ia] (lit_slcT enc_str S (i := 0) rfl rfl rfl rfl ((ne_fp (i := 2) (j := 0) (e := .blk b_p_s [v_p_s_L, .int .i64 r3.2] 25) (e' := .blk b2 [.string ((nth r1.1 r3.1).Key), .string k_empty, .string k_ia] 9) S rfl rfl rfl) _ rfl)) _ hr5) rfl (fun _ _ _ h => ⟨h.1, fun _ hc => by cases hc; rfl⟩) ?_; clear S; intro v5 a w7 hv4 hk5 hn4 S
      replace hv4 := hv4.2
      subst hv4
      refine lv S (rn_move (S.tm rfl)) rfl ?_; clear S; intro a S
      obtain ⟨r5, hr6, h⟩ := bindE h
      refine l_enter1 2 S (b := b_p_s) rfl rfl (fun _ => .blk b_p_s [v_p_s_L, .int .i64 r5.2] 25) (fun _ => run_call (vs := [.pointer (some ⟨b_p_s, 0, none⟩), .int .i64 1, .int .i64 60]) ⟨(S.tm rfl), rfl, rfl, trivial⟩ Tryd.call28) (Stream_Odd_ok _ b_p_s v_p_s_L p_s_L (hs_p_s_L.mono (S.le_arg (fp_sub (i := 2) (e := .blk b_p_s [v_p_s_L, .int .i64 r4.2] 25) rfl))) r4.2 (S.holds _ (List.mem_of_getElem? (i := 2) rfl)) 1 60 _ hr6) rfl (fun _ _ _ h => ⟨h.1, fun _ hc => by cases hc; rfl⟩) ?_; clear S; intro v6 a w8 hv5 hk6 hn5 S
      replace hv5 := hv5.2
      subst hv5
      refine lv S (rn_move (S.tm rfl)) rfl ?_; clear S; intro a S
      obtain ⟨r6, hr7, h⟩ := bindE h
      refine l_enter1 2 S (b := b_p_s) rfl rfl (fun _ => .blk b_p_s [v_p_s_L, .int .i64 r6.2] 25) (fun _ => run_call (vs := [.pointer (some ⟨b_p_s, 0, none⟩), .int .i64 1, .int .i64 100]) ⟨(S.tm rfl), rfl, rfl, trivial⟩ Tryd.call28) (Stream_Odd_ok _ b_p_s v_p_s_L p_s_L (hs_p_s_L.mono (S.le_arg (fp_sub (i := 2) (e := .blk b_p_s [v_p_s_L, .int .i64 r5.2] 25) rfl))) r5.2 (S.holds _ (List.mem_of_getElem? (i := 2) rfl)) 1 100 _ hr7) rfl (fun _ _ _ h => ⟨h.1, fun _ hc => by cases hc; rfl⟩) ?_; clear S; intro v7 a w9 hv6 hk7 hn6 S
      replace hv6 := hv6.2
      subst hv6
      refine lv S (rn_move (S.tm rfl)) rfl ?_; clear S; intro a S
      obtain ⟨r7, hr8, h⟩ := bindE h
      refine l_enter1 2 S (b := b_p_s) rfl rfl (fun _ => .blk b_p_s [v_p_s_L, .int .i64 r7.2] 25) (fun _ => run_call (vs := [.pointer (some ⟨b_p_s, 0, none⟩), .int .i64 0, .int .i64 100]) ⟨(S.tm rfl), rfl, rfl, trivial⟩ Tryd.call28) (Stream_Odd_ok _ b_p_s v_p_s_L p_s_L (hs_p_s_L.mono (S.le_arg (fp_sub (i := 2) (e := .blk b_p_s [v_p_s_L, .int .i64 r6.2] 25) rfl))) r6.2 (S.holds _ (List.mem_of_getElem? (i := 2) rfl)) 0 100 _ hr8) rfl (fun _ _ _ h => ⟨h.1, fun _ hc => by cases hc; rfl⟩) ?_; clear S; intro v8 a w10 hv7 hk8 hn7 S
      replace hv7 := hv7.2
      subst hv7
      refine lv S (rn_move (S.tm rfl)) rfl ?_; clear S; intro a S
      obtain ⟨r8, hr9, h⟩ := bindE h
      refine l_enter1 2 S (b := b_p_s) rfl rfl (fun _ => .blk b_p_s [v_p_s_L, .int .i64 r8.2] 25) (fun _ => run_call (vs := [.pointer (some ⟨b_p_s, 0, none⟩), .int .i64 0, .int .i64 100]) ⟨(S.tm rfl), rfl, rfl, trivial⟩ Tryd.call28) (Stream_Odd_ok _ b_p_s v_p_s_L p_s_L (hs_p_s_L.mono (S.le_arg (fp_sub (i := 2) (e := .blk b_p_s [v_p_s_L, .int .i64 r7.2] 25) rfl))) r7.2 (S.holds _ (List.mem_of_getElem? (i := 2) rfl)) 0 100 _ hr9) rfl (fun _ _ _ h => ⟨h.1, fun _ hc => by cases hc; rfl⟩) ?_; clear S; intro v9 a w11 hv8 hk9 hn8 S
      replace hv8 := hv8.2
      subst hv8
      refine lv S (rn_nilCheck (S.tm rfl)) rfl ?_; clear S; intro a S
      refine lv S (rn_fld fa_60_0 (S.tm rfl)) rfl ?_; clear S; intro a S
      refine l_storeO (c := 0) (j := r3.1.toNat) (GItem.mk r4.1 ((nth r1.1 r3.1).Heats) ((nth r1.1 r3.1).Long) ((nth r1.1 r3.1).Gap) ((nth r1.1 r3.1).Break)) GItem.enc_ok S (S.tm rfl) (S.tm rfl) (i := 1) rfl hg1 (inB_get hc1).1 Tryd.sizeOf9 (vs := [.string r4.1]) rfl rfl rfl rfl rfl ?_; clear S; intro w13 hk11 S
      refine lv S (rn_nilCheck (S.tm rfl)) rfl ?_; clear S; intro a S
      refine lv S (rn_fld fa_60_1 (S.tm rfl)) rfl ?_; clear S; intro a S
      refine l_storeO (c := 1) (j := r3.1.toNat) (GItem.mk r4.1 r5.1 ((nth r1.1 r3.1).Long) ((nth r1.1 r3.1).Gap) ((nth r1.1 r3.1).Break)) GItem.enc_ok S (S.tm rfl) (S.tm rfl) (i := 1) rfl hg1 (get_set (inB_get hc1).1) Tryd.sizeOf3 (vs := [.int .i64 r5.1]) rfl rfl rfl rfl rfl ?_; clear S; intro w15 hk13 S
      refine lv S (rn_nilCheck (S.tm rfl)) rfl ?_; clear S; intro a S
      refine lv S (rn_fld fa_60_2 (S.tm rfl)) rfl ?_; clear S; intro a S
      refine l_storeO (c := 2) (j := r3.1.toNat) (GItem.mk r4.1 r5.1 r6.1 ((nth r1.1 r3.1).Gap) ((nth r1.1 r3.1).Break)) GItem.enc_ok S (S.tm rfl) (S.tm rfl) (i := 1) rfl hg1 (get_set (get_set (inB_get hc1).1)) Tryd.sizeOf3 (vs := [.int .i64 r6.1]) rfl rfl rfl rfl rfl ?_; clear S; intro w17 hk15 S
      refine lv S (rn_nilCheck (S.tm rfl)) rfl ?_; clear S; intro a S
      refine lv S (rn_fld fa_60_3 (S.tm rfl)) rfl ?_; clear S; intro a S
      refine l_storeO (c := 3) (j := r3.1.toNat) (GItem.mk r4.1 r5.1 r6.1 r7.1 ((nth r1.1 r3.1).Break)) GItem.enc_ok S (S.tm rfl) (S.tm rfl) (i := 1) rfl hg1 (get_set (get_set (get_set (inB_get hc1).1))) Tryd.sizeOf3 (vs := [.int .i64 r7.1]) rfl rfl rfl rfl rfl ?_; clear S; intro w19 hk17 S
      refine lv S (rn_nilCheck (S.tm rfl)) rfl ?_; clear S; intro a S
      refine lv S (rn_fld fa_60_4 (S.tm rfl)) rfl ?_; clear S; intro a S
      refine l_storeO (c := 4) (j := r3.1.toNat) (GItem.mk r4.1 r5.1 r6.1 r7.1 r8.1) GItem.enc_ok S (S.tm rfl) (S.tm rfl) (i := 1) rfl hg1 (get_set (get_set (get_set (get_set (inB_get hc1).1)))) Tryd.sizeOf3 (vs := [.int .i64 r8.1]) rfl rfl rfl rfl rfl ?_; clear S; intro w21 hk19 S
      refine l_done ?_
      replace S := S.nf (L' := [.own v1 60 5 (((((r1.1.set r3.1.toNat (GItem.mk r4.1 ((nth r1.1 r3.1).Heats) ((nth r1.1 r3.1).Long) ((nth r1.1 r3.1).Gap) ((nth r1.1 r3.1).Break))).set r3.1.toNat (GItem.mk r4.1 r5.1 ((nth r1.1 r3.1).Long) ((nth r1.1 r3.1).Gap) ((nth r1.1 r3.1).Break))).set r3.1.toNat (GItem.mk r4.1 r5.1 r6.1 ((nth r1.1 r3.1).Gap) ((nth r1.1 r3.1).Break))).set r3.1.toNat (GItem.mk r4.1 r5.1 r6.1 r7.1 ((nth r1.1 r3.1).Break))).set r3.1.toNat (GItem.mk r4.1 r5.1 r6.1 r7.1 r8.1)).length ((((((r1.1.set r3.1.toNat (GItem.mk r4.1 ((nth r1.1 r3.1).Heats) ((nth r1.1 r3.1).Long) ((nth r1.1 r3.1).Gap) ((nth r1.1 r3.1).Break))).set r3.1.toNat (GItem.mk r4.1 r5.1 ((nth r1.1 r3.1).Long) ((nth r1.1 r3.1).Gap) ((nth r1.1 r3.1).Break))).set r3.1.toNat (GItem.mk r4.1 r5.1 r6.1 ((nth r1.1 r3.1).Gap) ((nth r1.1 r3.1).Break))).set r3.1.toNat (GItem.mk r4.1 r5.1 r6.1 r7.1 ((nth r1.1 r3.1).Break))).set r3.1.toNat (GItem.mk r4.1 r5.1 r6.1 r7.1 r8.1)).flatMap GItem.enc), .blk b_p_s [v_p_s_L, .int .i64 r8.2] 25]) (K' := [(5, v1)]) [false, true, true] rfl ⟨rfl, trivial⟩
      refine then_n ?_
      exact ⟨(((((r1.1.set r3.1.toNat (GItem.mk r4.1 ((nth r1.1 r3.1).Heats) ((nth r1.1 r3.1).Long) ((nth r1.1 r3.1).Gap) ((nth r1.1 r3.1).Break))).set r3.1.toNat (GItem.mk r4.1 r5.1 ((nth r1.1 r3.1).Long) ((nth r1.1 r3.1).Gap) ((nth r1.1 r3.1).Break))).set r3.1.toNat (GItem.mk r4.1 r5.1 r6.1 ((nth r1.1 r3.1).Gap) ((nth r1.1 r3.1).Break))).set r3.1.toNat (GItem.mk r4.1 r5.1 r6.1 r7.1 ((nth r1.1 r3.1).Break))).set r3.1.toNat (GItem.mk r4.1 r5.1 r6.1 r7.1 r8.1)), r8.2, v1, h, S.nf [true, true] rfl ⟨rfl, trivial⟩⟩
    · replace h := iteF h hb2
      refine wp_skip ?_
      refine then_n ?_
      exact ⟨r1.1, x1, v1, h, S.nf [true, true] rfl ⟨rfl, trivial⟩⟩
  clear S h; rintro a w4 ⟨x3, x4, v3, h, S⟩; rw [hj2] at h; clear hj2 j2
  refine then_n ?_
  refine f_seq ?_
  refine f_region ?_
  refine lv S (rn_move (S.tm rfl)) rfl ?_; clear S; intro a S
  refine lv S (rn_assign (S.tm rfl)) rfl ?_; clear S; intro a S
  refine l_done ?_
  replace S := S.nf (L' := [.own v3 60 5 x3.length (x3.flatMap GItem.enc), .blk b_p_s [v_p_s_L, .int .i64 x4] 25]) (K' := [(4, v3)]) [true, true] rfl ⟨rfl, trivial⟩
  refine then_n ?_
  refine wp_ret ?_
  obtain rfl := Option.some.inj h
  exact f_ret S Tryd.results4 rfl ⟨(S.holds _ (List.mem_of_getElem? (i := 1) rfl)), (own_retX S (i := 0) rfl (fun c hc hh => not_fps S (i := 1) rfl rfl (j := 0) rfl rfl (by simp at hc; subst hc; exact hh)))⟩
theorem Stream_SessionStart_ok (w : World) (b_p_s : Nat) (v_p_s_L : Value) (p_s_L : List Int) (hs_p_s_L : Slc (view w [b_p_s]) 1 v_p_s_L (p_s_L.map eInt)) (p_s_at : Int) (hb_b_p_s : (LEnt.blk b_p_s [v_p_s_L, .int .i64 p_s_at] 25).holds w) (r : Int × Int) (h : Stream_SessionStart p_s_L p_s_at = some r) :
    Calls Tryd.prog 5 [.pointer (some ⟨b_p_s, 0, none⟩)].toArray w (Ret w [b_p_s] fun τ v w' => (LEnt.blk b_p_s [v_p_s_L, .int .i64 r.2] 25).holds w' ∧ v = .int .i64 r.1) := by
  refine f_enter [b_p_s] [.blk b_p_s [v_p_s_L, .int .i64 p_s_at] 25] Tryd.func5 rfl Tryd.ntmps5 rfl (fun e he => by simp only [List.mem_singleton] at he; subst he; exact hb_b_p_s) (by simp [fps, LEnt.fp]) (by simp [fps, LEnt.fp]) fun a S => ?_
  unfold Stream_SessionStart at h
  replace S := S.nf (L' := [.blk b_p_s [v_p_s_L, .int .i64 p_s_at] 25]) (K' := [(0, .pointer (some ⟨b_p_s, 0, none⟩))]) [true] rfl ⟨rfl, trivial⟩
  refine f_seq ?_
  refine f_region ?_
  refine lv S (rn_assign rfl) rfl ?_; clear S; intro a S
  refine l_done ?_
  replace S := S.nf (L' := [.blk b_p_s [v_p_s_L, .int .i64 p_s_at] 25]) (K' := [(0, .pointer (some ⟨b_p_s, 0, none⟩))]) [true] rfl ⟨rfl, trivial⟩
  refine then_n ?_
  refine f_seq ?_
  refine f_region ?_
  refine lv S (rn_move (S.tm rfl)) rfl ?_; clear S; intro a S
  refine l_buildSlice S Tryd.underlying22 Tryd.sizeOf3 Tryd.zeroValue3 rfl rfl (pv := [(0, .int .i64 0), (1, .int .i64 0), (2, .int .i64 30), (3, .int .i64 1000), (4, .int .i64 (-1)), (5, .int .i64 345686399999), (6, .int .i64 345686399700), (7, .int .i64 345686400000)]) ⟨rfl, rfl, rfl, rfl, rfl, rfl, rfl, rfl, rfl, rfl, rfl, rfl, rfl, rfl, rfl, rfl, trivial⟩ (cs := [.int .i64 0, .int .i64 0, .int .i64 30, .int .i64 1000, .int .i64 (-1), .int .i64 345686399999, .int .i64 345686399700, .int .i64 345686400000]) (by kernel_rfl) rfl ?_; clear S; intro a w1 b1 hz1 hk1 S
  obtain ⟨r1, hr1, h⟩ := bindE h
  refine l_enter1 1 S (b := b_p_s) rfl rfl (fun _ => .blk b_p_s [v_p_s_L, .int .i64 r1.2] 25) (fun _ => run_call (vs := [.pointer (some ⟨b_p_s, 0, none⟩), .slice (some ⟨b1, 0, none⟩) 8 8]) ⟨(S.tm rfl), (S.tm rfl), trivial⟩ Tryd.call6) (Stream_Pick_ok _ b_p_s v_p_s_L p_s_L (hs_p_s_L.mono (S.le_arg (fp_sub (i := 1) (e := .blk b_p_s [v_p_s_L, .int .i64 p_s_at] 25) rfl))) p_s_at (S.holds _ (List.mem_of_getElem? (i := 1) rfl)) (.slice (some ⟨b1, 0, none⟩) 8 8) [0, 0, 30, 1000, (-1), 345686399999, 345686399700, 345686400000] (lit_slcT enc_int S (i := 0) rfl rfl rfl rfl ((ne_fp (i := 1) (j := 0) (e := .blk b_p_s [v_p_s_L, .int .i64 p_s_at] 25) (e' := .blk b1 [.int .i64 0, .int .i64 0, .int .i64 30, .int .i64 1000, .int .i64 (-1), .int .i64 345686399999, .int .i64 345686399700, .int .i64 345686400000] 3) S rfl rfl rfl) _ rfl)) _ hr1) rfl (fun _ _ _ h => ⟨h.1, fun _ hc => by cases hc; rfl⟩) ?_; clear S; intro v1 a w2 hv1 hk2 hn1 S
  replace hv1 := hv1.2
  subst hv1
  refine lv S (rn_assign (S.tm rfl)) rfl ?_; clear S; intro a S
  refine l_done ?_
  replace S := S.nf (L' := [.blk b_p_s [v_p_s_L, .int .i64 r1.2] 25]) (K' := [(2, .int .i64 r1.1)]) [false, true] rfl ⟨rfl, trivial⟩
  refine then_n ?_
  refine wp_ret ?_
  obtain rfl := Option.some.inj h
  exact f_ret S Tryd.results5 rfl ⟨(S.holds _ (List.mem_of_getElem? (i := 0) rfl)), rfl⟩
theorem strings_Trim_ok (w : World) (s c : ByteArray) (r : ByteArray) (h : strings_Trim s c = some r) : Calls Tryd.prog 44 [.string s, .string c].toArray w (Ret w [] fun _ v _ => v = .string r) := by
  unfold strings_Trim at h
  obtain ⟨h1, h⟩ := chkE h
  obtain ⟨h2, h⟩ := chkE h
  obtain ⟨h3, h⟩ := chkE h
  obtain rfl := Option.some.inj h
  exact ret_of_below (Any.strings_Trim_laid Tryd.lays160 (by kernel_rfl) s c w (by simpa using h1) (by simpa using h2) (fun j b hb => by simpa using List.all_eq_true.1 h3 b (List.mem_of_getElem? hb)))
theorem words_IsKey_ok (w : World) (p_s : ByteArray) (r : Bool) (h : words_IsKey p_s = some r) :
    Calls Tryd.prog 37 [.string p_s].toArray w (Ret w [] fun τ v w' => v = .bool r) := by
  refine f_enter [] [] Tryd.func37 rfl Tryd.ntmps37 rfl (by simp) (by simp [fps]) (by simp [fps]) fun a S => ?_
  unfold words_IsKey at h
  replace S := S.nf (L' := []) (K' := [(0, .string p_s)]) [] rfl ⟨rfl, trivial⟩
  refine f_seq ?_
  refine f_region ?_
  refine lv S (rn_assign rfl) rfl ?_; clear S; intro a S
  refine l_done ?_
  replace S := S.nf (L' := []) (K' := [(0, .string p_s)]) [] rfl ⟨rfl, trivial⟩
  refine then_n ?_
  refine f_seq ?_
  refine f_region ?_
  refine lv S (rn_move (S.tm rfl)) rfl ?_; clear S; intro a S
  refine lv S (rn_len_str Tryd.underlying9 (S.tm rfl)) rfl ?_; clear S; intro a S
  refine lv S (rn_geq (S.tm rfl) rfl) rfl ?_; clear S; intro a S
  refine lv S (rn_move (S.tm rfl)) rfl ?_; clear S; intro a S
  refine f_cutm 4 (fun a w' => Keep [] w w' ∧ Sx w [] nov [] [(0, .string p_s), (10, .bool ((decide (1 ≤ (p_s.size : Int))) && (decide ((p_s.size : Int) ≤ 40))))] 26 a w') ?_ ?_
  · rcases Bool.eq_false_or_eq_true (decide (1 ≤ (p_s.size : Int))) with hb1 | hb1
    · refine l_want S rfl rfl rfl hb1 ?_
      refine lv S (rn_move (S.tm rfl)) rfl ?_; clear S; intro a S
      refine l_want S rfl rfl rfl hb1 ?_
      refine lv S (rn_len_str Tryd.underlying9 (S.tm rfl)) rfl ?_; clear S; intro a S
      refine l_want S rfl rfl rfl hb1 ?_
      refine lv S (rn_leq (S.tm rfl) rfl) rfl ?_; clear S; intro a S
      refine lv S (rn_and_t hb1 (S.tm rfl) (S.tm rfl)) rfl ?_; clear S; intro a S
      refine l_done ?_
      refine then_n ?_
      exact ⟨Keep.refl _ _, S.nf [] rfl ⟨rfl, rfl, trivial⟩⟩
    · refine l_skip S rfl rfl rfl (by rw [hb1]; rfl) rfl ?_ rfl; clear S; intro a S
      refine l_skip S rfl rfl rfl (by rw [hb1]; rfl) rfl ?_ rfl; clear S; intro a S
      refine l_skip S rfl rfl rfl (by rw [hb1]; rfl) rfl ?_ rfl; clear S; intro a S
      refine lv S (rn_and_f (decide ((p_s.size : Int) ≤ 40)) hb1 (S.tm rfl) rfl) rfl ?_; clear S; intro a S
      refine l_done ?_
      refine then_n ?_
      exact ⟨Keep.refl _ _, S.nf [] rfl ⟨rfl, rfl, trivial⟩⟩
  clear S; rintro a w1 ⟨hk1, S⟩
  refine lv S (rn_move (S.tm rfl)) rfl ?_; clear S; intro a S
  obtain ⟨j1, hj1, h⟩ := joinE h
  refine f_cutm 4 (fun a w' => ∃ c1, j1 c1 = some r ∧ Keep [] w1 w' ∧ Sx w [] nov [] [(0, .string p_s), (15, .bool c1)] 26 a w') ?_ ?_
  · rcases Bool.eq_false_or_eq_true ((decide (1 ≤ (p_s.size : Int))) && (decide ((p_s.size : Int) ≤ 40))) with hb2 | hb2
    · replace h := iteT h hb2
      refine l_want S rfl rfl rfl hb2 ?_
      refine lv S (rn_move (S.tm rfl)) rfl ?_; clear S; intro a S
      refine l_want S rfl rfl rfl hb2 ?_
      obtain ⟨hc1, h⟩ := chkE h
      refine lv S (rn_sindexT Tryd.underlying9 (S.tm rfl) rfl hc1) rfl ?_; clear S; intro a S
      refine l_want S rfl rfl rfl hb2 ?_
      refine lv S (rn_geq (S.tm rfl) rfl) rfl ?_; clear S; intro a S
      refine lv S (rn_and_t hb2 (S.tm rfl) (S.tm rfl)) rfl ?_; clear S; intro a S
      refine l_done ?_
      refine then_n ?_
      exact ⟨_, h, Keep.refl _ _, S.nf [] rfl ⟨rfl, rfl, trivial⟩⟩
    · replace h := iteF h hb2
      refine l_skip S rfl rfl rfl (by rw [hb2]; rfl) rfl ?_ rfl; clear S; intro a S
      refine l_skip S rfl rfl rfl (by rw [hb2]; rfl) rfl ?_ rfl; clear S; intro a S
      refine l_skip S rfl rfl rfl (by rw [hb2]; rfl) rfl ?_ rfl; clear S; intro a S
      refine lv S (rn_and_f true hb2 (S.tm rfl) rfl) rfl ?_; clear S; intro a S
      refine l_done ?_
      refine then_n ?_
      exact ⟨_, h, Keep.refl _ _, S.nf [] rfl ⟨rfl, rfl, trivial⟩⟩
  clear S h; rintro a w2 ⟨c1, h, hk2, S⟩; rw [hj1] at h; clear hj1 j1
  refine lv S (rn_move (S.tm rfl)) rfl ?_; clear S; intro a S
  obtain ⟨j2, hj2, h⟩ := joinE h
  refine f_cutm 4 (fun a w' => ∃ c2, j2 c2 = some r ∧ Keep [] w2 w' ∧ Sx w [] nov [] [(0, .string p_s), (20, .bool c2)] 26 a w') ?_ ?_
  · rcases Bool.eq_false_or_eq_true c1 with hb3 | hb3
    · replace h := iteT h hb3
      refine l_want S rfl rfl rfl hb3 ?_
      refine lv S (rn_move (S.tm rfl)) rfl ?_; clear S; intro a S
      refine l_want S rfl rfl rfl hb3 ?_
      obtain ⟨hc2, h⟩ := chkE h
      refine lv S (rn_sindexT Tryd.underlying9 (S.tm rfl) rfl hc2) rfl ?_; clear S; intro a S
      refine l_want S rfl rfl rfl hb3 ?_
      refine lv S (rn_leq (S.tm rfl) rfl) rfl ?_; clear S; intro a S
      refine lv S (rn_and_t hb3 (S.tm rfl) (S.tm rfl)) rfl ?_; clear S; intro a S
      refine l_done ?_
      refine then_n ?_
      exact ⟨_, h, Keep.refl _ _, S.nf [] rfl ⟨rfl, rfl, trivial⟩⟩
    · replace h := iteF h hb3
      refine l_skip S rfl rfl rfl (by rw [hb3]; rfl) rfl ?_ rfl; clear S; intro a S
      refine l_skip S rfl rfl rfl (by rw [hb3]; rfl) rfl ?_ rfl; clear S; intro a S
      refine l_skip S rfl rfl rfl (by rw [hb3]; rfl) rfl ?_ rfl; clear S; intro a S
      refine lv S (rn_and_f true hb3 (S.tm rfl) rfl) rfl ?_; clear S; intro a S
      refine l_done ?_
      refine then_n ?_
      exact ⟨_, h, Keep.refl _ _, S.nf [] rfl ⟨rfl, rfl, trivial⟩⟩
  clear S h; rintro a w3 ⟨c2, h, hk3, S⟩; rw [hj2] at h; clear hj2 j2
  refine lv S (rn_move (S.tm rfl)) rfl ?_; clear S; intro a S
  obtain ⟨j3, hj3, h⟩ := joinE h
  refine f_cutm 4 (fun a w' => ∃ c3, j3 c3 = some r ∧ Keep [] w3 w' ∧ Sx w [] nov [] [(25, .bool c3)] 26 a w') ?_ ?_
  · rcases Bool.eq_false_or_eq_true c2 with hb4 | hb4
    · replace h := iteT h hb4
      refine l_want S rfl rfl rfl hb4 ?_
      refine lv S (rn_move (S.tm rfl)) rfl ?_; clear S; intro a S
      refine l_want S rfl rfl rfl hb4 ?_
      obtain ⟨r1, hr1, h⟩ := bindE h
      refine l_enter S (fun _ => run_call (vs := [.string p_s, .string k_abcdefghijklmnopqrstuvwx]) ⟨(S.tm rfl), rfl, trivial⟩ Tryd.call44) (strings_Trim_ok _ p_s k_abcdefghijklmnopqrstuvwx _ hr1) rfl ?_; clear S; intro v1 a w5 hv1 hk4 hn1 S
      subst hv1
      refine l_want S rfl rfl rfl hb4 ?_
      refine lv S (rn_seql (S.tm rfl) rfl) rfl ?_; clear S; intro a S
      refine lv S (rn_and_t hb4 (S.tm rfl) (S.tm rfl)) rfl ?_; clear S; intro a S
      refine l_done ?_
      refine then_n ?_
      exact ⟨_, h, hk4, S.nf [] rfl ⟨rfl, trivial⟩⟩
    · replace h := iteF h hb4
      refine l_skip S rfl rfl rfl (by rw [hb4]; rfl) rfl ?_ rfl; clear S; intro a S
      refine l_skip S rfl rfl rfl (by rw [hb4]; rfl) rfl ?_ rfl; clear S; intro a S
      refine l_skip S rfl rfl rfl (by rw [hb4]; rfl) rfl ?_ rfl; clear S; intro a S
      refine lv S (rn_and_f true hb4 (S.tm rfl) rfl) rfl ?_; clear S; intro a S
      refine l_done ?_
      refine then_n ?_
      exact ⟨_, h, Keep.refl _ _, S.nf [] rfl ⟨rfl, trivial⟩⟩
  clear S h; rintro a w4 ⟨c3, h, hk5, S⟩; rw [hj3] at h; clear hj3 j3
  refine lv S (rn_assign (S.tm rfl)) rfl ?_; clear S; intro a S
  refine l_done ?_
  replace S := S.nf (L' := []) (K' := [(2, .bool c3)]) [] rfl ⟨rfl, trivial⟩
  refine then_n ?_
  refine wp_ret ?_
  obtain rfl := Option.some.inj h
  exact f_ret S Tryd.results37 rfl rfl
theorem words_Within_ok (w : World) (p_n : Int) (p_low : Int) (p_high : Int) (r : Bool) (h : words_Within p_n p_low p_high = r) :
    Calls Tryd.prog 32 [.int .i64 p_n, .int .i64 p_low, .int .i64 p_high].toArray w (Ret w [] fun τ v w' => v = .bool r) := by
  refine f_enter [] [] Tryd.func32 rfl Tryd.ntmps32 rfl (by simp) (by simp [fps]) (by simp [fps]) fun a S => ?_
  unfold words_Within at h
  replace S := S.nf (L' := []) (K' := [(0, .int .i64 p_n), (1, .int .i64 p_low), (2, .int .i64 p_high)]) [] rfl ⟨rfl, rfl, rfl, trivial⟩
  refine f_seq ?_
  refine f_region ?_
  refine lv S (rn_assign rfl) rfl ?_; clear S; intro a S
  refine l_done ?_
  replace S := S.nf (L' := []) (K' := [(0, .int .i64 p_n), (1, .int .i64 p_low), (2, .int .i64 p_high)]) [] rfl ⟨rfl, rfl, rfl, trivial⟩
  refine then_n ?_
  refine f_seq ?_
  refine f_region ?_
  refine lv S (rn_move (S.tm rfl)) rfl ?_; clear S; intro a S
  refine lv S (rn_move (S.tm rfl)) rfl ?_; clear S; intro a S
  refine lv S (rn_geq (S.tm rfl) (S.tm rfl)) rfl ?_; clear S; intro a S
  refine lv S (rn_move (S.tm rfl)) rfl ?_; clear S; intro a S
  refine f_cutm 4 (fun a w' => Keep [] w w' ∧ Sx w [] nov [] [(14, .bool ((decide (p_low ≤ p_n)) && (decide (p_n ≤ p_high))))] 15 a w') ?_ ?_
  · rcases Bool.eq_false_or_eq_true (decide (p_low ≤ p_n)) with hb1 | hb1
    · refine l_want S rfl rfl rfl hb1 ?_
      refine lv S (rn_move (S.tm rfl)) rfl ?_; clear S; intro a S
      refine l_want S rfl rfl rfl hb1 ?_
      refine lv S (rn_move (S.tm rfl)) rfl ?_; clear S; intro a S
      refine l_want S rfl rfl rfl hb1 ?_
      refine lv S (rn_leq (S.tm rfl) (S.tm rfl)) rfl ?_; clear S; intro a S
      refine lv S (rn_and_t hb1 (S.tm rfl) (S.tm rfl)) rfl ?_; clear S; intro a S
      refine l_done ?_
      refine then_n ?_
      exact ⟨Keep.refl _ _, S.nf [] rfl ⟨rfl, trivial⟩⟩
    · refine l_skip S rfl rfl rfl (by rw [hb1]; rfl) rfl ?_ rfl; clear S; intro a S
      refine l_skip S rfl rfl rfl (by rw [hb1]; rfl) rfl ?_ rfl; clear S; intro a S
      refine l_skip S rfl rfl rfl (by rw [hb1]; rfl) rfl ?_ rfl; clear S; intro a S
      refine lv S (rn_and_f (decide (p_n ≤ p_high)) hb1 (S.tm rfl) rfl) rfl ?_; clear S; intro a S
      refine l_done ?_
      refine then_n ?_
      exact ⟨Keep.refl _ _, S.nf [] rfl ⟨rfl, trivial⟩⟩
  clear S; rintro a w1 ⟨hk1, S⟩
  refine lv S (rn_assign (S.tm rfl)) rfl ?_; clear S; intro a S
  refine l_done ?_
  replace S := S.nf (L' := []) (K' := [(6, .bool ((decide (p_low ≤ p_n)) && (decide (p_n ≤ p_high))))]) [] rfl ⟨rfl, trivial⟩
  refine then_n ?_
  refine wp_ret ?_
  subst h
  exact f_ret S Tryd.results32 rfl rfl
theorem session_CheckItems_ok (w : World) (v_p_l : Value) (p_l : List GItem) (hs_p_l : Slc (view w []) 5 v_p_l (p_l.map GItem.enc)) (r : Int) (h : session_CheckItems p_l = some r) :
    Calls Tryd.prog 20 [v_p_l].toArray w (Ret w [] fun τ v w' => v = .int .i64 r) := by
  refine f_enter [] [] Tryd.func20 rfl Tryd.ntmps20 rfl (by simp) (by simp [fps]) (by simp [fps]) fun a S => ?_
  unfold session_CheckItems at h
  replace S := S.nf (L' := []) (K' := [(0, v_p_l)]) [] rfl ⟨rfl, trivial⟩
  refine f_seq ?_
  refine f_region ?_
  refine lv S (rn_assign rfl) rfl ?_; clear S; intro a S
  refine l_done ?_
  replace S := S.nf (L' := []) (K' := [(0, v_p_l)]) [] rfl ⟨rfl, trivial⟩
  refine then_n ?_
  refine f_seq ?_
  refine f_seq ?_
  refine f_region ?_
  refine lv S (rn_move (S.tm rfl)) rfl ?_; clear S; intro a S
  refine lv S (rn_lenT sl_26 (S.tm rfl) (slc_len hs_p_l)) rfl ?_; clear S; intro a S
  refine lv S (rn_gtr (S.tm rfl) rfl) rfl ?_; clear S; intro a S
  refine l_done ?_
  replace S := S.nf (L' := []) (K' := [(0, v_p_l), (8, .bool (decide (100 < (p_l.length : Int))))]) [] rfl ⟨rfl, rfl, trivial⟩
  refine then_n ?_
  refine f_cond (S.tm rfl) (fun hb1 => ?_) (fun hb1 => ?_)
  · replace h := iteT h hb1
    refine f_seq ?_
    refine f_region ?_
    refine lv S (rn_assign rfl) rfl ?_; clear S; intro a S
    refine l_done ?_
    replace S := S.nf (L' := []) (K' := [(2, .int .i64 2)]) [] rfl ⟨rfl, trivial⟩
    refine then_n ?_
    refine wp_ret ?_
    refine then_r ?_
    obtain rfl := Option.some.inj h
    exact f_ret S Tryd.results20 rfl rfl
  · replace h := iteF h hb1
    refine wp_skip ?_
    refine then_n ?_
    refine f_seq ?_
    refine f_region ?_
    refine l_makeMap (κ := ByteArray) (ν := Bool) S rfl Value.string Value.bool ?_; clear S; intro a w1 b1 hz1 hk1 S
    refine lv S (rn_assign (S.tm rfl)) rfl ?_; clear S; intro a S
    refine l_done ?_
    replace S := S.nf (L' := [.map b1 (ments Value.string Value.bool ([] : List (ByteArray × Bool))) ([] : List (ByteArray × Bool)).length]) (K' := [(0, v_p_l), (3, .map (some b1))]) [true] rfl ⟨rfl, rfl, trivial⟩
    refine then_n ?_
    refine f_seq ?_
    refine f_seq ?_
    refine f_region ?_
    refine lv S (rn_move (S.tm rfl)) rfl ?_; clear S; intro a S
    refine lv S (rn_lenT sl_26 (S.tm rfl) (slc_len hs_p_l)) rfl ?_; clear S; intro a S
    refine lv S (rn_move rfl) rfl ?_; clear S; intro a S
    refine l_done ?_
    replace S := S.nf (L' := [.map b1 (ments Value.string Value.bool ([] : List (ByteArray × Bool))) ([] : List (ByteArray × Bool)).length]) (K' := [(3, .map (some b1)), (10, v_p_l), (11, .int .i64 (p_l.length : Int)), (12, .int .i64 0)]) [true] rfl ⟨rfl, rfl, rfl, rfl, trivial⟩
    refine then_n ?_
    obtain ⟨j1, hj1, h⟩ := joinE h
    refine f_join (fun a w' => ∃ x1 : List (ByteArray × Bool), j1 x1 = some r ∧ Sx w [] nov [.map b1 (ments Value.string Value.bool x1) x1.length] [] 53 a w') ?_ ?_
    · refine wp_block ?_
      refine f_loop (fun (ys1 : List GItem) a w' => ∃ i1 : Nat, ∃ x1 : List (ByteArray × Bool), (∃ dn, p_l = dn ++ ys1 ∧ dn.length = i1) ∧ session_CheckItems_l1 j1 ys1 i1 x1 = some r ∧ Sx w [] nov [.map b1 (ments Value.string Value.bool x1) x1.length] [(3, .map (some b1)), (10, v_p_l), (11, .int .i64 (p_l.length : Int)), (12, .int .i64 (i1 : Int))] 53 a w') List.length p_l ⟨0, ([] : List (ByteArray × Bool)), ⟨[], rfl, rfl⟩, h, S.nf [true] rfl ⟨rfl, rfl, rfl, rfl, trivial⟩⟩ ?_
      clear S h; rintro ys1 a w2 ⟨i1, x1, ⟨dn, hd1, hi1⟩, h, S⟩
      cases ys1 with
      | nil =>
        rw [session_CheckItems_l1.eq_1] at h
        refine f_seq ?_
        refine f_region ?_
        refine lv S (rn_lss (S.tm rfl) (S.tm rfl)) rfl ?_; clear S; intro a S
        refine l_done ?_
        replace S := S.nf (L' := [.map b1 (ments Value.string Value.bool x1) x1.length]) (K' := [(3, .map (some b1)), (10, v_p_l), (11, .int .i64 (p_l.length : Int)), (12, .int .i64 (i1 : Int)), (13, .bool (decide ((i1 : Int) < (p_l.length : Int))))]) [true] rfl ⟨rfl, rfl, rfl, rfl, rfl, trivial⟩
        refine then_n ?_
        refine f_seq ?_
        refine wp_cond_false ((S.tm rfl).trans (congrArg Value.bool (rng_nil hd1 hi1))) ?_
        refine wp_exit ?_
        refine then_x ?_
        refine then_x ?_
        refine x_same ?_
        refine then_n ?_
        exact ⟨x1, h, S.nf [true] rfl trivial⟩
      | cons y1 ys1 =>
        rw [session_CheckItems_l1.eq_2] at h
        refine f_seq ?_
        refine f_region ?_
        refine lv S (rn_lss (S.tm rfl) (S.tm rfl)) rfl ?_; clear S; intro a S
        refine l_done ?_
        replace S := S.nf (L' := [.map b1 (ments Value.string Value.bool x1) x1.length]) (K' := [(3, .map (some b1)), (10, v_p_l), (11, .int .i64 (p_l.length : Int)), (12, .int .i64 (i1 : Int)), (13, .bool (decide ((i1 : Int) < (p_l.length : Int))))]) [true] rfl ⟨rfl, rfl, rfl, rfl, rfl, trivial⟩
        refine then_n ?_
        refine f_seq ?_
        refine wp_cond_true ((S.tm rfl).trans (congrArg Value.bool (rng_cons hd1 hi1))) ?_
        refine wp_skip ?_
        refine then_n ?_
        refine f_seq ?_
        refine wp_block ?_
        refine f_seq ?_
        refine f_region ?_
        obtain ⟨b2, o1, hm1, hr1⟩ := rn_indexT (a := a) (x := .tmp 10) (y := .tmp 12) (ty := 0) sl_26 hs_p_l (get_mid hd1 hi1) rfl (S.tm rfl) (S.tm rfl)
        refine lv S (hr1 _) rfl ?_; clear S; intro a S
        clear hr1
        refine lv S (rn_ldA Tryd.isAgg60 Tryd.sizeOf60 (off := o1) (o := 0) (part := [.string y1.Key, .int .i64 y1.Heats, .int .i64 y1.Long, .int .i64 y1.Gap, .int .i64 y1.Break]) rfl rfl (S.tm rfl) (hm1.at S.emb0)) rfl ?_; clear S; intro a S
        refine l_alloc S Tryd.zeroValue60 (cs := [.string k_empty, .int .i64 0, .int .i64 0, .int .i64 0, .int .i64 0]) rfl rfl ?_; clear S; intro a w4 b3 hz2 hk2 S
        refine l_store S (S.tm rfl) (S.tm rfl) (i := 0) (off := 0) rfl Tryd.sizeOf60 (vs := [.string y1.Key, .int .i64 y1.Heats, .int .i64 y1.Long, .int .i64 y1.Gap, .int .i64 y1.Break]) rfl rfl rfl rfl ?_; clear S; intro w5 hk3 S
        refine l_done ?_
        replace S := S.nf (L' := [.blk b3 [.string y1.Key, .int .i64 y1.Heats, .int .i64 y1.Long, .int .i64 y1.Gap, .int .i64 y1.Break] 60, .map b1 (ments Value.string Value.bool x1) x1.length]) (K' := [(3, .map (some b1)), (5, .pointer (some ⟨b3, 0, none⟩)), (10, v_p_l), (11, .int .i64 (p_l.length : Int)), (12, .int .i64 (i1 : Int))]) [true, true] rfl ⟨rfl, rfl, rfl, rfl, rfl, trivial⟩
        refine then_n ?_
        refine f_seq ?_
        refine wp_block ?_
        refine f_seq ?_
        refine f_region ?_
        refine lv S (rn_fld fa_60_0 (S.tm rfl)) rfl ?_; clear S; intro a S
        refine lv S (rn_load Tryd.isAgg9 (S.tm rfl) (S.cell (i := 0) rfl rfl)) rfl ?_; clear S; intro a S
        obtain ⟨r1, hr2, h⟩ := bindE h
        refine l_enter S (fun _ => run_call (vs := [.string y1.Key]) ⟨(S.tm rfl), trivial⟩ Tryd.call37) (words_IsKey_ok _ y1.Key _ hr2) rfl ?_; clear S; intro v1 a w6 hv1 hk4 hn1 S
        subst hv1
        refine lv S (rn_not (S.tm rfl)) rfl ?_; clear S; intro a S
        refine lv S (rn_assign (S.tm rfl)) rfl ?_; clear S; intro a S
        refine l_done ?_
        replace S := S.nf (L' := [.blk b3 [.string y1.Key, .int .i64 y1.Heats, .int .i64 y1.Long, .int .i64 y1.Gap, .int .i64 y1.Break] 60, .map b1 (ments Value.string Value.bool x1) x1.length]) (K' := [(3, .map (some b1)), (5, .pointer (some ⟨b3, 0, none⟩)), (10, v_p_l), (11, .int .i64 (p_l.length : Int)), (12, .int .i64 (i1 : Int)), (16, .bool (!r1))]) [true, true] rfl ⟨rfl, rfl, rfl, rfl, rfl, rfl, trivial⟩
        refine then_n ?_
        refine f_cond (S.tm rfl) (fun hb2 => ?_) (fun hb2 => ?_)
        · replace h := iteT h hb2
          refine f_seq ?_
          refine f_region ?_
          refine lv S (rn_assign rfl) rfl ?_; clear S; intro a S
          refine l_done ?_
          replace S := S.nf (L' := []) (K' := [(2, .int .i64 5)]) [false, false] rfl ⟨rfl, trivial⟩
          refine then_n ?_
          refine wp_ret ?_
          refine blk_r ?_
          refine then_r ?_
          refine blk_r ?_
          refine then_r ?_
          refine then_r ?_
          refine blk_r ?_
          refine then_r ?_
          refine then_r ?_
          obtain rfl := Option.some.inj h
          exact f_ret S Tryd.results20 rfl rfl
        · replace h := iteF h hb2
          refine f_seq ?_
          refine f_region ?_
          refine lv S (rn_move (S.tm rfl)) rfl ?_; clear S; intro a S
          refine lv S (rn_fld fa_60_0 (S.tm rfl)) rfl ?_; clear S; intro a S
          refine lv S (rn_load Tryd.isAgg9 (S.tm rfl) (S.cell (i := 0) rfl rfl)) rfl ?_; clear S; intro a S
          refine lv S (rn_lookup (kv := Value.string) (vv := Value.bool) (m := x1) (key := y1.Key) (z := false) (S.map_at (i := 1) rfl) Tryd.underlying69 (keyT_str Tryd.underlying9) Tryd.zeroValue4 (S.tm rfl) (S.tm rfl)) rfl ?_; clear S; intro a S
          refine lv S (rn_assign (S.tm rfl)) rfl ?_; clear S; intro a S
          refine l_done ?_
          replace S := S.nf (L' := [.blk b3 [.string y1.Key, .int .i64 y1.Heats, .int .i64 y1.Long, .int .i64 y1.Gap, .int .i64 y1.Break] 60, .map b1 (ments Value.string Value.bool x1) x1.length]) (K' := [(3, .map (some b1)), (5, .pointer (some ⟨b3, 0, none⟩)), (10, v_p_l), (11, .int .i64 (p_l.length : Int)), (12, .int .i64 (i1 : Int)), (21, .bool (mgetD x1 y1.Key false))]) [true, true] rfl ⟨rfl, rfl, rfl, rfl, rfl, rfl, trivial⟩
          refine then_n ?_
          refine f_cond (S.tm rfl) (fun hb3 => ?_) (fun hb3 => ?_)
          · replace h := iteT h hb3
            refine f_seq ?_
            refine f_region ?_
            refine lv S (rn_assign rfl) rfl ?_; clear S; intro a S
            refine l_done ?_
            replace S := S.nf (L' := []) (K' := [(2, .int .i64 6)]) [false, false] rfl ⟨rfl, trivial⟩
            refine then_n ?_
            refine wp_ret ?_
            refine blk_r ?_
            refine then_r ?_
            refine blk_r ?_
            refine then_r ?_
            refine then_r ?_
            refine blk_r ?_
            refine then_r ?_
            refine then_r ?_
            obtain rfl := Option.some.inj h
            exact f_ret S Tryd.results20 rfl rfl
          · replace h := iteF h hb3
            refine f_seq ?_
            refine f_region ?_
            refine lv S (rn_fld fa_60_1 (S.tm rfl)) rfl ?_; clear S; intro a S
            refine lv S (rn_load Tryd.isAgg3 (S.tm rfl) (S.cell (i := 0) rfl rfl)) rfl ?_; clear S; intro a S
            refine l_enter S (fun _ => run_call (vs := [.int .i64 y1.Heats, .int .i64 1, .int .i64 60]) ⟨(S.tm rfl), rfl, rfl, trivial⟩ Tryd.call32) (words_Within_ok _ y1.Heats 1 60 _ rfl) rfl ?_; clear S; intro v2 a w7 hv2 hk5 hn2 S
            subst hv2
            refine lv S (rn_not (S.tm rfl)) rfl ?_; clear S; intro a S
            refine lv S (rn_move (S.tm rfl)) rfl ?_; clear S; intro a S
            refine f_cutm 5 (fun a w' => Keep [] w7 w' ∧ Sx w [] nov [.blk b3 [.string y1.Key, .int .i64 y1.Heats, .int .i64 y1.Long, .int .i64 y1.Gap, .int .i64 y1.Break] 60, .map b1 (ments Value.string Value.bool x1) x1.length] [(3, .map (some b1)), (5, .pointer (some ⟨b3, 0, none⟩)), (10, v_p_l), (11, .int .i64 (p_l.length : Int)), (12, .int .i64 (i1 : Int)), (36, .bool ((!(words_Within y1.Heats 1 60)) || (!(words_Within y1.Long 1 3600000))))] 53 a w') ?_ ?_
            · rcases Bool.eq_false_or_eq_true (!(words_Within y1.Heats 1 60)) with hb4 | hb4
              · refine l_skip S rfl rfl rfl (by rw [hb4]; rfl) rfl ?_ rfl; clear S; intro a S
                refine l_skip S rfl rfl rfl (by rw [hb4]; rfl) rfl ?_ rfl; clear S; intro a S
                refine l_skip S rfl rfl rfl (by rw [hb4]; rfl) rfl ?_ rfl; clear S; intro a S
                refine l_skip S rfl rfl rfl (by rw [hb4]; rfl) rfl ?_ rfl; clear S; intro a S
                refine lv S (rn_or_t (!(words_Within y1.Long 1 3600000)) hb4 (S.tm rfl) rfl) rfl ?_; clear S; intro a S
                refine l_done ?_
                refine then_n ?_
                exact ⟨Keep.refl _ _, S.nf [true, true] rfl ⟨rfl, rfl, rfl, rfl, rfl, rfl, trivial⟩⟩
              · refine l_want S rfl rfl rfl hb4 ?_
                refine lv S (rn_fld fa_60_2 (S.tm rfl)) rfl ?_; clear S; intro a S
                refine l_want S rfl rfl rfl hb4 ?_
                refine lv S (rn_load Tryd.isAgg3 (S.tm rfl) (S.cell (i := 0) rfl rfl)) rfl ?_; clear S; intro a S
                refine l_want S rfl rfl rfl hb4 ?_
                refine l_enter S (fun _ => run_call (vs := [.int .i64 y1.Long, .int .i64 1, .int .i64 3600000]) ⟨(S.tm rfl), rfl, rfl, trivial⟩ Tryd.call32) (words_Within_ok _ y1.Long 1 3600000 _ rfl) rfl ?_; clear S; intro v3 a w9 hv3 hk6 hn3 S
                subst hv3
                refine l_want S rfl rfl rfl hb4 ?_
                refine lv S (rn_not (S.tm rfl)) rfl ?_; clear S; intro a S
                refine lv S (rn_or_f hb4 (S.tm rfl) (S.tm rfl)) rfl ?_; clear S; intro a S
                refine l_done ?_
                refine then_n ?_
                exact ⟨hk6, S.nf [true, true] rfl ⟨rfl, rfl, rfl, rfl, rfl, rfl, trivial⟩⟩
            clear S; rintro a w8 ⟨hk7, S⟩
            refine lv S (rn_move (S.tm rfl)) rfl ?_; clear S; intro a S
            refine f_cutm 5 (fun a w' => Keep [] w8 w' ∧ Sx w [] nov [.blk b3 [.string y1.Key, .int .i64 y1.Heats, .int .i64 y1.Long, .int .i64 y1.Gap, .int .i64 y1.Break] 60, .map b1 (ments Value.string Value.bool x1) x1.length] [(3, .map (some b1)), (5, .pointer (some ⟨b3, 0, none⟩)), (10, v_p_l), (11, .int .i64 (p_l.length : Int)), (12, .int .i64 (i1 : Int)), (42, .bool (((!(words_Within y1.Heats 1 60)) || (!(words_Within y1.Long 1 3600000))) || (!(words_Within y1.Gap 0 3600000))))] 53 a w') ?_ ?_
            · rcases Bool.eq_false_or_eq_true ((!(words_Within y1.Heats 1 60)) || (!(words_Within y1.Long 1 3600000))) with hb5 | hb5
              · refine l_skip S rfl rfl rfl (by rw [hb5]; rfl) rfl ?_ rfl; clear S; intro a S
                refine l_skip S rfl rfl rfl (by rw [hb5]; rfl) rfl ?_ rfl; clear S; intro a S
                refine l_skip S rfl rfl rfl (by rw [hb5]; rfl) rfl ?_ rfl; clear S; intro a S
                refine l_skip S rfl rfl rfl (by rw [hb5]; rfl) rfl ?_ rfl; clear S; intro a S
                refine lv S (rn_or_t (!(words_Within y1.Gap 0 3600000)) hb5 (S.tm rfl) rfl) rfl ?_; clear S; intro a S
                refine l_done ?_
                refine then_n ?_
                exact ⟨Keep.refl _ _, S.nf [true, true] rfl ⟨rfl, rfl, rfl, rfl, rfl, rfl, trivial⟩⟩
              · refine l_want S rfl rfl rfl hb5 ?_
                refine lv S (rn_fld fa_60_3 (S.tm rfl)) rfl ?_; clear S; intro a S
                refine l_want S rfl rfl rfl hb5 ?_
                refine lv S (rn_load Tryd.isAgg3 (S.tm rfl) (S.cell (i := 0) rfl rfl)) rfl ?_; clear S; intro a S
                refine l_want S rfl rfl rfl hb5 ?_
                refine l_enter S (fun _ => run_call (vs := [.int .i64 y1.Gap, .int .i64 0, .int .i64 3600000]) ⟨(S.tm rfl), rfl, rfl, trivial⟩ Tryd.call32) (words_Within_ok _ y1.Gap 0 3600000 _ rfl) rfl ?_; clear S; intro v4 a w11 hv4 hk8 hn4 S
                subst hv4
                refine l_want S rfl rfl rfl hb5 ?_
                refine lv S (rn_not (S.tm rfl)) rfl ?_; clear S; intro a S
                refine lv S (rn_or_f hb5 (S.tm rfl) (S.tm rfl)) rfl ?_; clear S; intro a S
                refine l_done ?_
                refine then_n ?_
                exact ⟨hk8, S.nf [true, true] rfl ⟨rfl, rfl, rfl, rfl, rfl, rfl, trivial⟩⟩
            clear S; rintro a w10 ⟨hk9, S⟩
            refine lv S (rn_move (S.tm rfl)) rfl ?_; clear S; intro a S
            refine f_cutm 5 (fun a w' => Keep [] w10 w' ∧ Sx w [] nov [.blk b3 [.string y1.Key, .int .i64 y1.Heats, .int .i64 y1.Long, .int .i64 y1.Gap, .int .i64 y1.Break] 60, .map b1 (ments Value.string Value.bool x1) x1.length] [(3, .map (some b1)), (5, .pointer (some ⟨b3, 0, none⟩)), (10, v_p_l), (11, .int .i64 (p_l.length : Int)), (12, .int .i64 (i1 : Int)), (48, .bool ((((!(words_Within y1.Heats 1 60)) || (!(words_Within y1.Long 1 3600000))) || (!(words_Within y1.Gap 0 3600000))) || (!(words_Within y1.Break 0 3600000))))] 53 a w') ?_ ?_
            · rcases Bool.eq_false_or_eq_true (((!(words_Within y1.Heats 1 60)) || (!(words_Within y1.Long 1 3600000))) || (!(words_Within y1.Gap 0 3600000))) with hb6 | hb6
              · refine l_skip S rfl rfl rfl (by rw [hb6]; rfl) rfl ?_ rfl; clear S; intro a S
                refine l_skip S rfl rfl rfl (by rw [hb6]; rfl) rfl ?_ rfl; clear S; intro a S
                refine l_skip S rfl rfl rfl (by rw [hb6]; rfl) rfl ?_ rfl; clear S; intro a S
                refine l_skip S rfl rfl rfl (by rw [hb6]; rfl) rfl ?_ rfl; clear S; intro a S
                refine lv S (rn_or_t (!(words_Within y1.Break 0 3600000)) hb6 (S.tm rfl) rfl) rfl ?_; clear S; intro a S
                refine l_done ?_
                refine then_n ?_
                exact ⟨Keep.refl _ _, S.nf [true, true] rfl ⟨rfl, rfl, rfl, rfl, rfl, rfl, trivial⟩⟩
              · refine l_want S rfl rfl rfl hb6 ?_
                refine lv S (rn_fld fa_60_4 (S.tm rfl)) rfl ?_; clear S; intro a S
                refine l_want S rfl rfl rfl hb6 ?_
                refine lv S (rn_load Tryd.isAgg3 (S.tm rfl) (S.cell (i := 0) rfl rfl)) rfl ?_; clear S; intro a S
                refine l_want S rfl rfl rfl hb6 ?_
                refine l_enter S (fun _ => run_call (vs := [.int .i64 y1.Break, .int .i64 0, .int .i64 3600000]) ⟨(S.tm rfl), rfl, rfl, trivial⟩ Tryd.call32) (words_Within_ok _ y1.Break 0 3600000 _ rfl) rfl ?_; clear S; intro v5 a w13 hv5 hk10 hn5 S
                subst hv5
                refine l_want S rfl rfl rfl hb6 ?_
                refine lv S (rn_not (S.tm rfl)) rfl ?_; clear S; intro a S
                refine lv S (rn_or_f hb6 (S.tm rfl) (S.tm rfl)) rfl ?_; clear S; intro a S
                refine l_done ?_
                refine then_n ?_
                exact ⟨hk10, S.nf [true, true] rfl ⟨rfl, rfl, rfl, rfl, rfl, rfl, trivial⟩⟩
            clear S; rintro a w12 ⟨hk11, S⟩
            refine lv S (rn_assign (S.tm rfl)) rfl ?_; clear S; intro a S
            refine l_done ?_
            replace S := S.nf (L' := [.blk b3 [.string y1.Key, .int .i64 y1.Heats, .int .i64 y1.Long, .int .i64 y1.Gap, .int .i64 y1.Break] 60, .map b1 (ments Value.string Value.bool x1) x1.length]) (K' := [(3, .map (some b1)), (5, .pointer (some ⟨b3, 0, none⟩)), (10, v_p_l), (11, .int .i64 (p_l.length : Int)), (12, .int .i64 (i1 : Int)), (26, .bool ((((!(words_Within y1.Heats 1 60)) || (!(words_Within y1.Long 1 3600000))) || (!(words_Within y1.Gap 0 3600000))) || (!(words_Within y1.Break 0 3600000))))]) [true, true] rfl ⟨rfl, rfl, rfl, rfl, rfl, rfl, trivial⟩
            refine then_n ?_
            refine f_cond (S.tm rfl) (fun hb7 => ?_) (fun hb7 => ?_)
            · replace h := iteT h hb7
              refine f_seq ?_
              refine f_region ?_
              refine lv S (rn_assign rfl) rfl ?_; clear S; intro a S
              refine l_done ?_
              replace S := S.nf (L' := []) (K' := [(2, .int .i64 1)]) [false, false] rfl ⟨rfl, trivial⟩
              refine then_n ?_
              refine wp_ret ?_
              refine blk_r ?_
              refine then_r ?_
              refine blk_r ?_
              refine then_r ?_
              refine then_r ?_
              refine blk_r ?_
              refine then_r ?_
              refine then_r ?_
              obtain rfl := Option.some.inj h
              exact f_ret S Tryd.results20 rfl rfl
            · replace h := iteF h hb7
              refine wp_skip ?_
              refine blk_n ?_
              refine then_n ?_
              refine f_region ?_
              refine lv S (rn_move (S.tm rfl)) rfl ?_; clear S; intro a S
              refine lv S (rn_fld fa_60_0 (S.tm rfl)) rfl ?_; clear S; intro a S
              refine lv S (rn_load Tryd.isAgg9 (S.tm rfl) (S.cell (i := 0) rfl rfl)) rfl ?_; clear S; intro a S
              refine l_mapUpdate (kv := Value.string) (vv := Value.bool) (m := x1) (key := y1.Key) (val := true) S (i := 1) rfl Tryd.underlying69 (keyT_str Tryd.underlying9) (S.tm rfl) (S.tm rfl) rfl ?_; clear S; intro w14 hk12 S
              refine l_done ?_
              replace S := S.nf (L' := [.map b1 (ments Value.string Value.bool (mput x1 y1.Key true)) (mput x1 y1.Key true).length]) (K' := [(3, .map (some b1)), (10, v_p_l), (11, .int .i64 (p_l.length : Int)), (12, .int .i64 (i1 : Int))]) [false, true] rfl ⟨rfl, rfl, rfl, rfl, trivial⟩
              refine blk_n ?_
              refine then_n ?_
              refine f_region ?_
              refine lv S (rn_add (S.tm rfl) rfl) rfl ?_; clear S; intro a S
              refine lv S (rn_move (S.tm rfl)) rfl ?_; clear S; intro a S
              refine l_done ?_
              replace S := S.nf (L' := [.map b1 (ments Value.string Value.bool (mput x1 y1.Key true)) (mput x1 y1.Key true).length]) (K' := [(3, .map (some b1)), (10, v_p_l), (11, .int .i64 (p_l.length : Int)), (12, .int .i64 (W ((i1 : Int) + 1)))]) [true] rfl ⟨rfl, rfl, rfl, rfl, trivial⟩
              refine then_n ?_
              exact ⟨ys1, ⟨i1 + 1, (mput x1 y1.Key true), ⟨_, (hd1).trans (List.append_cons _ _ _), by simp [hi1]⟩, h, S.nf [true] rfl ⟨rfl, rfl, rfl, (congrArg (fun z => some (Value.int .i64 z)) (rng_next hd1 hi1 (slc_max hs_p_l))), trivial⟩⟩, Nat.lt_succ_self _⟩
    clear S h; rintro a w3 ⟨x1, h, S⟩; rw [hj1] at h; clear hj1 j1
    refine then_n ?_
    refine f_seq ?_
    refine f_region ?_
    refine lv S (rn_assign rfl) rfl ?_; clear S; intro a S
    refine l_done ?_
    replace S := S.nf (L' := []) (K' := [(2, .int .i64 0)]) [false] rfl ⟨rfl, trivial⟩
    refine then_n ?_
    refine wp_ret ?_
    obtain rfl := Option.some.inj h
    exact f_ret S Tryd.results20 rfl rfl
theorem words_IsMoment_ok (w : World) (p_n : Int) (r : Bool) (h : words_IsMoment p_n = r) :
    Calls Tryd.prog 40 [.int .i64 p_n].toArray w (Ret w [] fun τ v w' => v = .bool r) := by
  refine f_enter [] [] Tryd.func40 rfl Tryd.ntmps40 rfl (by simp) (by simp [fps]) (by simp [fps]) fun a S => ?_
  unfold words_IsMoment at h
  replace S := S.nf (L' := []) (K' := [(0, .int .i64 p_n)]) [] rfl ⟨rfl, trivial⟩
  refine f_seq ?_
  refine f_region ?_
  refine lv S (rn_assign rfl) rfl ?_; clear S; intro a S
  refine l_done ?_
  replace S := S.nf (L' := []) (K' := [(0, .int .i64 p_n)]) [] rfl ⟨rfl, trivial⟩
  refine then_n ?_
  refine f_seq ?_
  refine f_region ?_
  refine lv S (rn_move (S.tm rfl)) rfl ?_; clear S; intro a S
  refine lv S (rn_geq (S.tm rfl) rfl) rfl ?_; clear S; intro a S
  refine lv S (rn_move (S.tm rfl)) rfl ?_; clear S; intro a S
  refine f_cutm 3 (fun a w' => Keep [] w w' ∧ Sx w [] nov [] [(8, .bool ((decide (0 ≤ p_n)) && (decide (p_n < 345686400000))))] 9 a w') ?_ ?_
  · rcases Bool.eq_false_or_eq_true (decide (0 ≤ p_n)) with hb1 | hb1
    · refine l_want S rfl rfl rfl hb1 ?_
      refine lv S (rn_move (S.tm rfl)) rfl ?_; clear S; intro a S
      refine l_want S rfl rfl rfl hb1 ?_
      refine lv S (rn_lss (S.tm rfl) rfl) rfl ?_; clear S; intro a S
      refine lv S (rn_and_t hb1 (S.tm rfl) (S.tm rfl)) rfl ?_; clear S; intro a S
      refine l_done ?_
      refine then_n ?_
      exact ⟨Keep.refl _ _, S.nf [] rfl ⟨rfl, trivial⟩⟩
    · refine l_skip S rfl rfl rfl (by rw [hb1]; rfl) rfl ?_ rfl; clear S; intro a S
      refine l_skip S rfl rfl rfl (by rw [hb1]; rfl) rfl ?_ rfl; clear S; intro a S
      refine lv S (rn_and_f (decide (p_n < 345686400000)) hb1 (S.tm rfl) rfl) rfl ?_; clear S; intro a S
      refine l_done ?_
      refine then_n ?_
      exact ⟨Keep.refl _ _, S.nf [] rfl ⟨rfl, trivial⟩⟩
  clear S; rintro a w1 ⟨hk1, S⟩
  refine lv S (rn_assign (S.tm rfl)) rfl ?_; clear S; intro a S
  refine l_done ?_
  replace S := S.nf (L' := []) (K' := [(2, .bool ((decide (0 ≤ p_n)) && (decide (p_n < 345686400000))))]) [] rfl ⟨rfl, trivial⟩
  refine then_n ?_
  refine wp_ret ?_
  subst h
  exact f_ret S Tryd.results40 rfl rfl
theorem session_timetable_ok (w : World) (v_p_l : Value) (p_l : List GItem) (hs_p_l : Slc (view w []) 5 v_p_l (p_l.map GItem.enc)) (p_from : Int) (r : (List GSlot)) (h : session_timetable p_l p_from = some r) :
    Calls Tryd.prog 31 [v_p_l, .int .i64 p_from].toArray w (Ret w [] fun τ v w' => OwnV τ 53 4 v r.length (r.flatMap GSlot.enc)) := by
  refine f_enter [] [] Tryd.func31 rfl Tryd.ntmps31 rfl (by simp) (by simp [fps]) (by simp [fps]) fun a S => ?_
  unfold session_timetable at h
  replace S := S.nf (L' := []) (K' := [(0, v_p_l), (1, .int .i64 p_from)]) [] rfl ⟨rfl, rfl, trivial⟩
  refine f_seq ?_
  refine f_region ?_
  refine lv S (rn_assign rfl) rfl ?_; clear S; intro a S
  refine l_done ?_
  replace S := S.nf (L' := []) (K' := [(0, v_p_l), (1, .int .i64 p_from)]) [] rfl ⟨rfl, rfl, trivial⟩
  refine then_n ?_
  refine f_seq ?_
  refine f_region ?_
  refine lv S (rn_assign rfl) rfl ?_; clear S; intro a S
  replace S := S.nil 53 4
  refine l_done ?_
  replace S := S.nf (L' := [.own (.slice none 0 0) 53 4 ([] : List GSlot).length (([] : List GSlot).flatMap GSlot.enc)]) (K' := [(0, v_p_l), (1, .int .i64 p_from), (5, (.slice none 0 0))]) [true] rfl ⟨rfl, rfl, rfl, trivial⟩
  refine then_n ?_
  refine f_seq ?_
  refine f_region ?_
  refine lv S (rn_move (S.tm rfl)) rfl ?_; clear S; intro a S
  refine lv S (rn_assign (S.tm rfl)) rfl ?_; clear S; intro a S
  refine l_done ?_
  replace S := S.nf (L' := [.own (.slice none 0 0) 53 4 ([] : List GSlot).length (([] : List GSlot).flatMap GSlot.enc)]) (K' := [(0, v_p_l), (5, (.slice none 0 0)), (6, .int .i64 p_from)]) [true] rfl ⟨rfl, rfl, rfl, trivial⟩
  refine then_n ?_
  refine f_seq ?_
  refine f_seq ?_
  refine f_region ?_
  refine lv S (rn_move (S.tm rfl)) rfl ?_; clear S; intro a S
  refine lv S (rn_lenT sl_26 (S.tm rfl) (slc_len hs_p_l)) rfl ?_; clear S; intro a S
  refine lv S (rn_move rfl) rfl ?_; clear S; intro a S
  refine l_done ?_
  replace S := S.nf (L' := [.own (.slice none 0 0) 53 4 ([] : List GSlot).length (([] : List GSlot).flatMap GSlot.enc)]) (K' := [(5, (.slice none 0 0)), (6, .int .i64 p_from), (11, v_p_l), (12, .int .i64 (p_l.length : Int)), (13, .int .i64 0)]) [true] rfl ⟨rfl, rfl, rfl, rfl, rfl, trivial⟩
  refine then_n ?_
  obtain ⟨j1, hj1, h⟩ := joinE h
  refine f_join (fun a w' => ∃ x1 : List GSlot, ∃ v1 : Value, j1 x1 = some r ∧ Sx w [] nov [.own v1 53 4 x1.length (x1.flatMap GSlot.enc)] [(5, v1)] 54 a w') ?_ ?_
  · refine wp_block ?_
    refine f_loop (fun (ys1 : List GItem) a w' => ∃ i1 : Nat, ∃ x1 : List GSlot, ∃ x2 : Int, ∃ v1 : Value, (∃ dn, p_l = dn ++ ys1 ∧ dn.length = i1) ∧ session_timetable_l1 j1 ys1 i1 x1 x2 = some r ∧ Sx w [] nov [.own v1 53 4 x1.length (x1.flatMap GSlot.enc)] [(5, v1), (6, .int .i64 x2), (11, v_p_l), (12, .int .i64 (p_l.length : Int)), (13, .int .i64 (i1 : Int))] 54 a w') List.length p_l ⟨0, ([] : List GSlot), p_from, (.slice none 0 0), ⟨[], rfl, rfl⟩, h, S.nf [true] rfl ⟨rfl, rfl, rfl, rfl, rfl, trivial⟩⟩ ?_
    clear S h; rintro ys1 a w1 ⟨i1, x1, x2, v1, ⟨dn, hd1, hi1⟩, h, S⟩
    cases ys1 with
    | nil =>
      rw [session_timetable_l1.eq_1] at h
      refine f_seq ?_
      refine f_region ?_
      refine lv S (rn_lss (S.tm rfl) (S.tm rfl)) rfl ?_; clear S; intro a S
      refine l_done ?_
      replace S := S.nf (L' := [.own v1 53 4 x1.length (x1.flatMap GSlot.enc)]) (K' := [(5, v1), (6, .int .i64 x2), (11, v_p_l), (12, .int .i64 (p_l.length : Int)), (13, .int .i64 (i1 : Int)), (14, .bool (decide ((i1 : Int) < (p_l.length : Int))))]) [true] rfl ⟨rfl, rfl, rfl, rfl, rfl, rfl, trivial⟩
      refine then_n ?_
      refine f_seq ?_
      refine wp_cond_false ((S.tm rfl).trans (congrArg Value.bool (rng_nil hd1 hi1))) ?_
      refine wp_exit ?_
      refine then_x ?_
      refine then_x ?_
      refine x_same ?_
      refine then_n ?_
      exact ⟨x1, v1, h, S.nf [true] rfl ⟨rfl, trivial⟩⟩
    | cons y1 ys1 =>
      rw [session_timetable_l1.eq_2] at h
      refine f_seq ?_
      refine f_region ?_
      refine lv S (rn_lss (S.tm rfl) (S.tm rfl)) rfl ?_; clear S; intro a S
      refine l_done ?_
      replace S := S.nf (L' := [.own v1 53 4 x1.length (x1.flatMap GSlot.enc)]) (K' := [(5, v1), (6, .int .i64 x2), (11, v_p_l), (12, .int .i64 (p_l.length : Int)), (13, .int .i64 (i1 : Int)), (14, .bool (decide ((i1 : Int) < (p_l.length : Int))))]) [true] rfl ⟨rfl, rfl, rfl, rfl, rfl, rfl, trivial⟩
      refine then_n ?_
      refine f_seq ?_
      refine wp_cond_true ((S.tm rfl).trans (congrArg Value.bool (rng_cons hd1 hi1))) ?_
      refine wp_skip ?_
      refine then_n ?_
      refine f_seq ?_
      refine wp_block ?_
      refine f_seq ?_
      refine f_region ?_
      obtain ⟨b1, o1, hm1, hr1⟩ := rn_indexT (a := a) (x := .tmp 11) (y := .tmp 13) (ty := 0) sl_26 hs_p_l (get_mid hd1 hi1) rfl (S.tm rfl) (S.tm rfl)
      refine lv S (hr1 _) rfl ?_; clear S; intro a S
      clear hr1
      refine lv S (rn_ldA Tryd.isAgg60 Tryd.sizeOf60 (off := o1) (o := 0) (part := [.string y1.Key, .int .i64 y1.Heats, .int .i64 y1.Long, .int .i64 y1.Gap, .int .i64 y1.Break]) rfl rfl (S.tm rfl) (hm1.at S.emb0)) rfl ?_; clear S; intro a S
      refine l_alloc S Tryd.zeroValue60 (cs := [.string k_empty, .int .i64 0, .int .i64 0, .int .i64 0, .int .i64 0]) rfl rfl ?_; clear S; intro a w3 b2 hz1 hk1 S
      refine l_store S (S.tm rfl) (S.tm rfl) (i := 0) (off := 0) rfl Tryd.sizeOf60 (vs := [.string y1.Key, .int .i64 y1.Heats, .int .i64 y1.Long, .int .i64 y1.Gap, .int .i64 y1.Break]) rfl rfl rfl rfl ?_; clear S; intro w4 hk2 S
      refine l_done ?_
      replace S := S.nf (L' := [.blk b2 [.string y1.Key, .int .i64 y1.Heats, .int .i64 y1.Long, .int .i64 y1.Gap, .int .i64 y1.Break] 60, .own v1 53 4 x1.length (x1.flatMap GSlot.enc)]) (K' := [(5, v1), (6, .int .i64 x2), (8, .pointer (some ⟨b2, 0, none⟩)), (11, v_p_l), (12, .int .i64 (p_l.length : Int)), (13, .int .i64 (i1 : Int))]) [true, true] rfl ⟨rfl, rfl, rfl, rfl, rfl, rfl, trivial⟩
      refine then_n ?_
      refine f_seq ?_
      refine f_seq ?_
      refine f_region ?_
      refine lv S (rn_assign rfl) rfl ?_; clear S; intro a S
      refine l_done ?_
      replace S := S.nf (L' := [.blk b2 [.string y1.Key, .int .i64 y1.Heats, .int .i64 y1.Long, .int .i64 y1.Gap, .int .i64 y1.Break] 60, .own v1 53 4 x1.length (x1.flatMap GSlot.enc)]) (K' := [(5, v1), (6, .int .i64 x2), (8, .pointer (some ⟨b2, 0, none⟩)), (9, .int .i64 1), (11, v_p_l), (12, .int .i64 (p_l.length : Int)), (13, .int .i64 (i1 : Int))]) [true, true] rfl ⟨rfl, rfl, rfl, rfl, rfl, rfl, rfl, trivial⟩
      refine then_n ?_
      obtain ⟨j2, hj2, h⟩ := joinE h
      refine f_join (fun a w' => ∃ x3 : List GSlot, ∃ x4 : Int, ∃ v2 : Value, j2 x3 x4 = some r ∧ Sx w [] nov [.blk b2 [.string y1.Key, .int .i64 y1.Heats, .int .i64 y1.Long, .int .i64 y1.Gap, .int .i64 y1.Break] 60, .own v2 53 4 x3.length (x3.flatMap GSlot.enc)] [(5, v2), (6, .int .i64 x4), (8, .pointer (some ⟨b2, 0, none⟩)), (11, v_p_l), (12, .int .i64 (p_l.length : Int)), (13, .int .i64 (i1 : Int))] 54 a w') ?_ ?_
      · refine wp_block ?_
        refine f_loop (fun (m1 : Nat) a w' => ∃ x3 : List GSlot, ∃ x4 : Int, ∃ x5 : Int, ∃ v2 : Value, session_timetable_l2 y1 j2 m1 x3 x4 x5 = some r ∧ Sx w [] nov [.blk b2 [.string y1.Key, .int .i64 y1.Heats, .int .i64 y1.Long, .int .i64 y1.Gap, .int .i64 y1.Break] 60, .own v2 53 4 x3.length (x3.flatMap GSlot.enc)] [(5, v2), (6, .int .i64 x4), (8, .pointer (some ⟨b2, 0, none⟩)), (9, .int .i64 x5), (11, v_p_l), (12, .int .i64 (p_l.length : Int)), (13, .int .i64 (i1 : Int))] 54 a w') id ((y1.Heats - 1).toNat + 2) ⟨x1, x2, 1, v1, h, S.nf [true, true] rfl ⟨rfl, rfl, rfl, rfl, rfl, rfl, rfl, trivial⟩⟩ ?_
        clear S h; rintro m1 a w5 ⟨x3, x4, x5, v2, h, S⟩
        cases m1 with
        | zero => rw [session_timetable_l2.eq_1] at h; cases h
        | succ m1 =>
          rw [session_timetable_l2.eq_2] at h
          refine f_seq ?_
          refine f_seq ?_
          refine f_region ?_
          refine lv S (rn_move (S.tm rfl)) rfl ?_; clear S; intro a S
          refine lv S (rn_fld fa_60_1 (S.tm rfl)) rfl ?_; clear S; intro a S
          refine lv S (rn_load Tryd.isAgg3 (S.tm rfl) (S.cell (i := 0) rfl rfl)) rfl ?_; clear S; intro a S
          refine lv S (rn_leq (S.tm rfl) (S.tm rfl)) rfl ?_; clear S; intro a S
          refine l_done ?_
          replace S := S.nf (L' := [.blk b2 [.string y1.Key, .int .i64 y1.Heats, .int .i64 y1.Long, .int .i64 y1.Gap, .int .i64 y1.Break] 60, .own v2 53 4 x3.length (x3.flatMap GSlot.enc)]) (K' := [(5, v2), (6, .int .i64 x4), (8, .pointer (some ⟨b2, 0, none⟩)), (9, .int .i64 x5), (11, v_p_l), (12, .int .i64 (p_l.length : Int)), (13, .int .i64 (i1 : Int)), (20, .bool (decide (x5 ≤ y1.Heats)))]) [true, true] rfl ⟨rfl, rfl, rfl, rfl, rfl, rfl, rfl, rfl, trivial⟩
          refine then_n ?_
          refine f_cond (S.tm rfl) (fun hb1 => ?_) (fun hb1 => ?_)
          · replace h := iteT h hb1
            refine wp_skip ?_
            refine then_n ?_
            refine f_seq ?_
            obtain ⟨j3, hj3, h⟩ := joinE h
            refine f_join (fun a w' => ∃ x6 : List GSlot, ∃ x7 : Int, ∃ v3 : Value, j3 x6 x7 = some r ∧ Sx w [] nov [.blk b2 [.string y1.Key, .int .i64 y1.Heats, .int .i64 y1.Long, .int .i64 y1.Gap, .int .i64 y1.Break] 60, .own v3 53 4 x6.length (x6.flatMap GSlot.enc)] [(5, v3), (6, .int .i64 x7), (8, .pointer (some ⟨b2, 0, none⟩)), (9, .int .i64 x5), (11, v_p_l), (12, .int .i64 (p_l.length : Int)), (13, .int .i64 (i1 : Int))] 54 a w') ?_ ?_
            · refine wp_block ?_
              refine f_seq ?_
              refine f_region ?_
              refine lv S (rn_move (S.tm rfl)) rfl ?_; clear S; intro a S
              refine lv S (rn_fld fa_60_0 (S.tm rfl)) rfl ?_; clear S; intro a S
              refine lv S (rn_load Tryd.isAgg9 (S.tm rfl) (S.cell (i := 0) rfl rfl)) rfl ?_; clear S; intro a S
              refine lv S (rn_move (S.tm rfl)) rfl ?_; clear S; intro a S
              refine lv S (rn_move (S.tm rfl)) rfl ?_; clear S; intro a S
              refine lv S (rn_move (S.tm rfl)) rfl ?_; clear S; intro a S
              refine lv S (rn_fld fa_60_2 (S.tm rfl)) rfl ?_; clear S; intro a S
              refine lv S (rn_load Tryd.isAgg3 (S.tm rfl) (S.cell (i := 0) rfl rfl)) rfl ?_; clear S; intro a S
              refine lv S (rn_add (S.tm rfl) (S.tm rfl)) rfl ?_; clear S; intro a S
              refine lv S (rn_bld bt_31 (pv := [(0, .int .i64 x4), (1, .int .i64 (W (x4 + y1.Long)))]) ⟨rfl, (S.tm rfl), rfl, (S.tm rfl), trivial⟩ (cs := [.int .i64 x4, .int .i64 (W (x4 + y1.Long))]) (by kernel_rfl)) rfl ?_; clear S; intro a S
              refine lv S (rn_bld bt_53 (pv := [(0, .string y1.Key), (1, .int .i64 x5), (2, .agg #[.int .i64 x4, .int .i64 (W (x4 + y1.Long))])]) ⟨rfl, (S.tm rfl), rfl, (S.tm rfl), rfl, (S.tm rfl), trivial⟩ (cs := [.string y1.Key, .int .i64 x5, .int .i64 x4, .int .i64 (W (x4 + y1.Long))]) (by kernel_rfl)) rfl ?_; clear S; intro a S
              refine l_buildSlice S Tryd.underlying32 Tryd.sizeOf53 Tryd.zeroValue53 rfl rfl (pv := [(0, .agg #[.string y1.Key, .int .i64 x5, .int .i64 x4, .int .i64 (W (x4 + y1.Long))])]) ⟨rfl, (S.tm rfl), trivial⟩ (cs := [.string y1.Key, .int .i64 x5, .int .i64 x4, .int .i64 (W (x4 + y1.Long))]) (by kernel_rfl) rfl ?_; clear S; intro a w8 b3 hz2 hk3 S
              obtain ⟨hc1, h⟩ := chkE h
              refine l_appendT sl_32 GSlot.enc_ok S (S.tm rfl) (i := 2) rfl (S.tm rfl) (j := 0) rfl (ys := [(GSlot.mk y1.Key x5 (GWindow.mk x4 (W (x4 + y1.Long))))]) rfl rfl rfl rfl (by have := room_lt hc1; omega) rfl ?_; clear S; intro v4 a w9 hk4 S
              refine lv S (rn_assign (S.tm rfl)) rfl ?_; clear S; intro a S
              refine l_done ?_
              replace S := S.nf (L' := [.blk b2 [.string y1.Key, .int .i64 y1.Heats, .int .i64 y1.Long, .int .i64 y1.Gap, .int .i64 y1.Break] 60, .own v4 53 4 (x3 ++ [(GSlot.mk y1.Key x5 (GWindow.mk x4 (W (x4 + y1.Long))))]).length ((x3 ++ [(GSlot.mk y1.Key x5 (GWindow.mk x4 (W (x4 + y1.Long))))]).flatMap GSlot.enc)]) (K' := [(5, v4), (6, .int .i64 x4), (8, .pointer (some ⟨b2, 0, none⟩)), (9, .int .i64 x5), (11, v_p_l), (12, .int .i64 (p_l.length : Int)), (13, .int .i64 (i1 : Int))]) [false, true, true] rfl ⟨rfl, rfl, rfl, rfl, rfl, rfl, rfl, trivial⟩
              refine then_n ?_
              refine f_seq ?_
              refine f_region ?_
              refine lv S (rn_move (S.tm rfl)) rfl ?_; clear S; intro a S
              refine lv S (rn_fld fa_60_2 (S.tm rfl)) rfl ?_; clear S; intro a S
              refine lv S (rn_load Tryd.isAgg3 (S.tm rfl) (S.cell (i := 0) rfl rfl)) rfl ?_; clear S; intro a S
              refine lv S (rn_add (S.tm rfl) (S.tm rfl)) rfl ?_; clear S; intro a S
              refine lv S (rn_assign (S.tm rfl)) rfl ?_; clear S; intro a S
              refine l_done ?_
              replace S := S.nf (L' := [.blk b2 [.string y1.Key, .int .i64 y1.Heats, .int .i64 y1.Long, .int .i64 y1.Gap, .int .i64 y1.Break] 60, .own v4 53 4 (x3 ++ [(GSlot.mk y1.Key x5 (GWindow.mk x4 (W (x4 + y1.Long))))]).length ((x3 ++ [(GSlot.mk y1.Key x5 (GWindow.mk x4 (W (x4 + y1.Long))))]).flatMap GSlot.enc)]) (K' := [(5, v4), (6, .int .i64 (W (x4 + y1.Long))), (8, .pointer (some ⟨b2, 0, none⟩)), (9, .int .i64 x5), (11, v_p_l), (12, .int .i64 (p_l.length : Int)), (13, .int .i64 (i1 : Int))]) [true, true] rfl ⟨rfl, rfl, rfl, rfl, rfl, rfl, rfl, trivial⟩
              refine then_n ?_
              refine f_seq ?_
              refine f_region ?_
              refine lv S (rn_move (S.tm rfl)) rfl ?_; clear S; intro a S
              refine lv S (rn_fld fa_60_1 (S.tm rfl)) rfl ?_; clear S; intro a S
              refine lv S (rn_load Tryd.isAgg3 (S.tm rfl) (S.cell (i := 0) rfl rfl)) rfl ?_; clear S; intro a S
              refine lv S (rn_lss (S.tm rfl) (S.tm rfl)) rfl ?_; clear S; intro a S
              refine l_done ?_
              replace S := S.nf (L' := [.blk b2 [.string y1.Key, .int .i64 y1.Heats, .int .i64 y1.Long, .int .i64 y1.Gap, .int .i64 y1.Break] 60, .own v4 53 4 (x3 ++ [(GSlot.mk y1.Key x5 (GWindow.mk x4 (W (x4 + y1.Long))))]).length ((x3 ++ [(GSlot.mk y1.Key x5 (GWindow.mk x4 (W (x4 + y1.Long))))]).flatMap GSlot.enc)]) (K' := [(5, v4), (6, .int .i64 (W (x4 + y1.Long))), (8, .pointer (some ⟨b2, 0, none⟩)), (9, .int .i64 x5), (11, v_p_l), (12, .int .i64 (p_l.length : Int)), (13, .int .i64 (i1 : Int)), (43, .bool (decide (x5 < y1.Heats)))]) [true, true] rfl ⟨rfl, rfl, rfl, rfl, rfl, rfl, rfl, rfl, trivial⟩
              refine then_n ?_
              obtain ⟨j4, hj4, h⟩ := joinE h
              refine f_join (fun a w' => ∃ x8 : Int, j4 x8 = some r ∧ Sx w [] nov [.blk b2 [.string y1.Key, .int .i64 y1.Heats, .int .i64 y1.Long, .int .i64 y1.Gap, .int .i64 y1.Break] 60, .own v4 53 4 (x3 ++ [(GSlot.mk y1.Key x5 (GWindow.mk x4 (W (x4 + y1.Long))))]).length ((x3 ++ [(GSlot.mk y1.Key x5 (GWindow.mk x4 (W (x4 + y1.Long))))]).flatMap GSlot.enc)] [(5, v4), (6, .int .i64 x8), (8, .pointer (some ⟨b2, 0, none⟩)), (9, .int .i64 x5), (11, v_p_l), (12, .int .i64 (p_l.length : Int)), (13, .int .i64 (i1 : Int))] 54 a w') ?_ ?_
              · refine f_cond (S.tm rfl) (fun hb2 => ?_) (fun hb2 => ?_)
                · replace h := iteT h hb2
                  refine f_region ?_
                  refine lv S (rn_move (S.tm rfl)) rfl ?_; clear S; intro a S
                  refine lv S (rn_fld fa_60_3 (S.tm rfl)) rfl ?_; clear S; intro a S
                  refine lv S (rn_load Tryd.isAgg3 (S.tm rfl) (S.cell (i := 0) rfl rfl)) rfl ?_; clear S; intro a S
                  refine lv S (rn_add (S.tm rfl) (S.tm rfl)) rfl ?_; clear S; intro a S
                  refine lv S (rn_assign (S.tm rfl)) rfl ?_; clear S; intro a S
                  refine l_done ?_
                  replace S := S.nf (L' := [.blk b2 [.string y1.Key, .int .i64 y1.Heats, .int .i64 y1.Long, .int .i64 y1.Gap, .int .i64 y1.Break] 60, .own v4 53 4 (x3 ++ [(GSlot.mk y1.Key x5 (GWindow.mk x4 (W (x4 + y1.Long))))]).length ((x3 ++ [(GSlot.mk y1.Key x5 (GWindow.mk x4 (W (x4 + y1.Long))))]).flatMap GSlot.enc)]) (K' := [(5, v4), (6, .int .i64 (W ((W (x4 + y1.Long)) + y1.Gap))), (8, .pointer (some ⟨b2, 0, none⟩)), (9, .int .i64 x5), (11, v_p_l), (12, .int .i64 (p_l.length : Int)), (13, .int .i64 (i1 : Int))]) [true, true] rfl ⟨rfl, rfl, rfl, rfl, rfl, rfl, rfl, trivial⟩
                  refine then_n ?_
                  exact ⟨W ((W (x4 + y1.Long)) + y1.Gap), h, S.nf [true, true] rfl ⟨rfl, rfl, rfl, rfl, rfl, rfl, rfl, trivial⟩⟩
                · replace h := iteF h hb2
                  refine wp_skip ?_
                  refine then_n ?_
                  exact ⟨W (x4 + y1.Long), h, S.nf [true, true] rfl ⟨rfl, rfl, rfl, rfl, rfl, rfl, rfl, trivial⟩⟩
              clear S h; rintro a w10 ⟨x8, h, S⟩; rw [hj4] at h; clear hj4 j4
              refine blk_n ?_
              refine then_n ?_
              exact ⟨(x3 ++ [(GSlot.mk y1.Key x5 (GWindow.mk x4 (W (x4 + y1.Long))))]), x8, v4, h, S.nf [true, true] rfl ⟨rfl, rfl, rfl, rfl, rfl, rfl, rfl, trivial⟩⟩
            clear S h; rintro a w7 ⟨x6, x7, v3, h, S⟩; rw [hj3] at h; clear hj3 j3
            refine then_n ?_
            refine f_region ?_
            refine lv S (rn_move (S.tm rfl)) rfl ?_; clear S; intro a S
            refine lv S (rn_add (S.tm rfl) rfl) rfl ?_; clear S; intro a S
            refine lv S (rn_assign (S.tm rfl)) rfl ?_; clear S; intro a S
            refine l_done ?_
            replace S := S.nf (L' := [.blk b2 [.string y1.Key, .int .i64 y1.Heats, .int .i64 y1.Long, .int .i64 y1.Gap, .int .i64 y1.Break] 60, .own v3 53 4 x6.length (x6.flatMap GSlot.enc)]) (K' := [(5, v3), (6, .int .i64 x7), (8, .pointer (some ⟨b2, 0, none⟩)), (9, .int .i64 (W (x5 + 1))), (11, v_p_l), (12, .int .i64 (p_l.length : Int)), (13, .int .i64 (i1 : Int))]) [true, true] rfl ⟨rfl, rfl, rfl, rfl, rfl, rfl, rfl, trivial⟩
            refine then_n ?_
            exact ⟨m1, ⟨x6, x7, W (x5 + 1), v3, h, S.nf [true, true] rfl ⟨rfl, rfl, rfl, rfl, rfl, rfl, rfl, trivial⟩⟩, Nat.lt_succ_self _⟩
          · replace h := iteF h hb1
            refine wp_exit ?_
            refine then_x ?_
            refine then_x ?_
            refine x_same ?_
            refine then_n ?_
            exact ⟨x3, x4, v2, h, S.nf [true, true] rfl ⟨rfl, rfl, rfl, rfl, rfl, rfl, trivial⟩⟩
      clear S h; rintro a w6 ⟨x3, x4, v2, h, S⟩; rw [hj2] at h; clear hj2 j2
      refine then_n ?_
      refine f_region ?_
      refine lv S (rn_move (S.tm rfl)) rfl ?_; clear S; intro a S
      refine lv S (rn_fld fa_60_4 (S.tm rfl)) rfl ?_; clear S; intro a S
      refine lv S (rn_load Tryd.isAgg3 (S.tm rfl) (S.cell (i := 0) rfl rfl)) rfl ?_; clear S; intro a S
      refine lv S (rn_add (S.tm rfl) (S.tm rfl)) rfl ?_; clear S; intro a S
      refine lv S (rn_assign (S.tm rfl)) rfl ?_; clear S; intro a S
      refine l_done ?_
      replace S := S.nf (L' := [.own v2 53 4 x3.length (x3.flatMap GSlot.enc)]) (K' := [(5, v2), (6, .int .i64 (W (x4 + y1.Break))), (11, v_p_l), (12, .int .i64 (p_l.length : Int)), (13, .int .i64 (i1 : Int))]) [false, true] rfl ⟨rfl, rfl, rfl, rfl, rfl, trivial⟩
      refine blk_n ?_
      refine then_n ?_
      refine f_region ?_
      refine lv S (rn_add (S.tm rfl) rfl) rfl ?_; clear S; intro a S
      refine lv S (rn_move (S.tm rfl)) rfl ?_; clear S; intro a S
      refine l_done ?_
      replace S := S.nf (L' := [.own v2 53 4 x3.length (x3.flatMap GSlot.enc)]) (K' := [(5, v2), (6, .int .i64 (W (x4 + y1.Break))), (11, v_p_l), (12, .int .i64 (p_l.length : Int)), (13, .int .i64 (W ((i1 : Int) + 1)))]) [true] rfl ⟨rfl, rfl, rfl, rfl, rfl, trivial⟩
      refine then_n ?_
      exact ⟨ys1, ⟨i1 + 1, x3, W (x4 + y1.Break), v2, ⟨_, (hd1).trans (List.append_cons _ _ _), by simp [hi1]⟩, h, S.nf [true] rfl ⟨rfl, rfl, rfl, rfl, (congrArg (fun z => some (Value.int .i64 z)) (rng_next hd1 hi1 (slc_max hs_p_l))), trivial⟩⟩, Nat.lt_succ_self _⟩
  clear S h; rintro a w2 ⟨x1, v1, h, S⟩; rw [hj1] at h; clear hj1 j1
  refine then_n ?_
  refine f_seq ?_
  refine f_region ?_
  refine lv S (rn_move (S.tm rfl)) rfl ?_; clear S; intro a S
  refine lv S (rn_assign (S.tm rfl)) rfl ?_; clear S; intro a S
  refine l_done ?_
  replace S := S.nf (L' := [.own v1 53 4 x1.length (x1.flatMap GSlot.enc)]) (K' := [(4, v1)]) [true] rfl ⟨rfl, trivial⟩
  refine then_n ?_
  refine wp_ret ?_
  obtain rfl := Option.some.inj h
  exact f_ret S Tryd.results31 rfl (own_retT S (i := 0) rfl rfl)
theorem session_end_ok (w : World) (v_p_l : Value) (p_l : List GSlot) (hs_p_l : Slc (view w []) 4 v_p_l (p_l.map GSlot.enc)) (p_from : Int) (r : Int) (h : session_end p_l p_from = some r) :
    Calls Tryd.prog 30 [v_p_l, .int .i64 p_from].toArray w (Ret w [] fun τ v w' => v = .int .i64 r) := by
  refine f_enter [] [] Tryd.func30 rfl Tryd.ntmps30 rfl (by simp) (by simp [fps]) (by simp [fps]) fun a S => ?_
  unfold session_end at h
  replace S := S.nf (L' := []) (K' := [(0, v_p_l), (1, .int .i64 p_from)]) [] rfl ⟨rfl, rfl, trivial⟩
  refine f_seq ?_
  refine f_region ?_
  refine lv S (rn_assign rfl) rfl ?_; clear S; intro a S
  refine l_done ?_
  replace S := S.nf (L' := []) (K' := [(0, v_p_l), (1, .int .i64 p_from)]) [] rfl ⟨rfl, rfl, trivial⟩
  refine then_n ?_
  refine f_seq ?_
  refine f_seq ?_
  refine f_region ?_
  refine lv S (rn_move (S.tm rfl)) rfl ?_; clear S; intro a S
  refine lv S (rn_lenT sl_32 (S.tm rfl) (slc_len hs_p_l)) rfl ?_; clear S; intro a S
  refine lv S (rn_eql (S.tm rfl) rfl) rfl ?_; clear S; intro a S
  refine l_done ?_
  replace S := S.nf (L' := []) (K' := [(0, v_p_l), (1, .int .i64 p_from), (7, .bool (decide ((p_l.length : Int) = 0)))]) [] rfl ⟨rfl, rfl, rfl, trivial⟩
  refine then_n ?_
  refine f_cond (S.tm rfl) (fun hb1 => ?_) (fun hb1 => ?_)
  · replace h := iteT h hb1
    refine f_seq ?_
    refine f_region ?_
    refine lv S (rn_move (S.tm rfl)) rfl ?_; clear S; intro a S
    refine lv S (rn_assign (S.tm rfl)) rfl ?_; clear S; intro a S
    refine l_done ?_
    replace S := S.nf (L' := []) (K' := [(4, .int .i64 p_from)]) [] rfl ⟨rfl, trivial⟩
    refine then_n ?_
    refine wp_ret ?_
    refine then_r ?_
    obtain rfl := Option.some.inj h
    exact f_ret S Tryd.results30 rfl rfl
  · replace h := iteF h hb1
    refine wp_skip ?_
    refine then_n ?_
    refine f_seq ?_
    refine f_region ?_
    refine lv S (rn_move (S.tm rfl)) rfl ?_; clear S; intro a S
    refine lv S (rn_move (S.tm rfl)) rfl ?_; clear S; intro a S
    refine lv S (rn_lenT sl_32 (S.tm rfl) (slc_len hs_p_l)) rfl ?_; clear S; intro a S
    refine lv S (rn_sub (S.tm rfl) rfl) rfl ?_; clear S; intro a S
    obtain ⟨hc1, h⟩ := chkE h
    obtain ⟨b1, o1, hm1, hr1⟩ := rn_indexT (a := a) (x := .tmp 9) (y := .tmp 12) (ty := 0) sl_32 hs_p_l (inB_get hc1).1 (inB_get hc1).2 (S.tm rfl) (S.tm rfl)
    refine lv S (hr1 _) rfl ?_; clear S; intro a S
    clear hr1
    refine lv S (rn_fld fa_53_2 (S.tm rfl)) rfl ?_; clear S; intro a S
    refine lv S (rn_fld fa_31_1 (S.tm rfl)) rfl ?_; clear S; intro a S
    refine lv S (rn_ld Tryd.isAgg3 (off := o1) (o := 3) (S.tm rfl) (hm1.at S.emb0) rfl) rfl ?_; clear S; intro a S
    refine lv S (rn_assign (S.tm rfl)) rfl ?_; clear S; intro a S
    refine l_done ?_
    replace S := S.nf (L' := []) (K' := [(4, .int .i64 (((nth p_l (W ((p_l.length : Int) - 1))).Time).To))]) [] rfl ⟨rfl, trivial⟩
    refine then_n ?_
    refine wp_ret ?_
    obtain rfl := Option.some.inj h
    exact f_ret S Tryd.results30 rfl rfl
theorem session_begin_ok (w : World) (v_p_l : Value) (p_l : List GItem) (hs_p_l : Slc (view w []) 5 v_p_l (p_l.map GItem.enc)) (p_from : Int) (r : (List GSlot) × Int) (h : session_begin p_l p_from = some r) :
    Calls Tryd.prog 29 [v_p_l, .int .i64 p_from].toArray w (Ret w [] fun τ v w' => ∃ u1 : Value, v = .tuple #[u1, .int .i64 r.2] ∧ OwnV τ 53 4 u1 r.1.length (r.1.flatMap GSlot.enc)) := by
  refine f_enter [] [] Tryd.func29 rfl Tryd.ntmps29 rfl (by simp) (by simp [fps]) (by simp [fps]) fun a S => ?_
  unfold session_begin at h
  replace S := S.nf (L' := []) (K' := [(0, v_p_l), (1, .int .i64 p_from)]) [] rfl ⟨rfl, rfl, trivial⟩
  refine f_seq ?_
  refine f_region ?_
  refine lv S (rn_assign rfl) rfl ?_; clear S; intro a S
  refine lv S (rn_assign rfl) rfl ?_; clear S; intro a S
  refine l_done ?_
  replace S := S.nf (L' := []) (K' := [(0, v_p_l), (1, .int .i64 p_from)]) [] rfl ⟨rfl, rfl, trivial⟩
  refine then_n ?_
  refine f_seq ?_
  refine f_seq ?_
  refine f_region ?_
  refine lv S (rn_move (S.tm rfl)) rfl ?_; clear S; intro a S
  refine l_enter S (fun _ => run_call (vs := [.int .i64 p_from]) ⟨(S.tm rfl), trivial⟩ Tryd.call40) (words_IsMoment_ok _ p_from _ rfl) rfl ?_; clear S; intro v1 a w1 hv1 hk1 hn1 S
  subst hv1
  refine lv S (rn_not (S.tm rfl)) rfl ?_; clear S; intro a S
  refine l_done ?_
  replace S := S.nf (L' := []) (K' := [(0, v_p_l), (1, .int .i64 p_from), (9, .bool (!(words_IsMoment p_from)))]) [] rfl ⟨rfl, rfl, rfl, trivial⟩
  refine then_n ?_
  refine f_cond (S.tm rfl) (fun hb1 => ?_) (fun hb1 => ?_)
  · replace h := iteT h hb1
    refine f_seq ?_
    refine f_region ?_
    refine lv S (rn_assign rfl) rfl ?_; clear S; intro a S
    refine lv S (rn_assign rfl) rfl ?_; clear S; intro a S
    refine l_done ?_
    replace S := S.nf (L' := []) (K' := [(4, .slice none 0 0), (5, .int .i64 1)]) [] rfl ⟨rfl, rfl, trivial⟩
    refine then_n ?_
    refine wp_ret ?_
    refine then_r ?_
    obtain rfl := Option.some.inj h
    exact f_ret2 S Tryd.results29 rfl rfl ⟨_, rfl, (ownV_nil _ _ _)⟩
  · replace h := iteF h hb1
    refine wp_skip ?_
    refine then_n ?_
    refine f_seq ?_
    refine f_region ?_
    refine lv S (rn_move (S.tm rfl)) rfl ?_; clear S; intro a S
    refine lv S (rn_move (S.tm rfl)) rfl ?_; clear S; intro a S
    obtain ⟨r1, hr1, h⟩ := bindE h
    have hz1 := S.keep.size
    refine l_enter S (fun _ => run_call (vs := [v_p_l, .int .i64 p_from]) ⟨(S.tm rfl), (S.tm rfl), trivial⟩ Tryd.call31) (session_timetable_ok _ v_p_l p_l (hs_p_l.mono (S.le_arg nil_sub)) p_from _ hr1) rfl ?_; clear S; intro v2 a w2 hv2 hk2 hn2 S
    obtain ⟨φ1, hl1, hm1, S⟩ := S.see' hn2 hz1
    have hs1 := hv2.mono hm1
    refine lv S (rn_assign (S.tm rfl)) rfl ?_; clear S; intro a S
    refine l_done ?_
    replace S := S.nf (L' := []) (K' := [(1, .int .i64 p_from), (6, v2)]) [] rfl ⟨rfl, rfl, trivial⟩
    refine then_n ?_
    refine f_seq ?_
    refine f_seq ?_
    refine f_region ?_
    refine lv S (rn_move (S.tm rfl)) rfl ?_; clear S; intro a S
    refine lv S (rn_move (S.tm rfl)) rfl ?_; clear S; intro a S
    obtain ⟨r2, hr2, h⟩ := bindE h
    refine l_enter S (fun _ => run_call (vs := [v2, .int .i64 p_from]) ⟨(S.tm rfl), (S.tm rfl), trivial⟩ Tryd.call30) (session_end_ok _ v2 r1 (((ownV_slcT GSlot.enc_ok hs1)).mono (S.le_new nil_sub)) p_from _ hr2) rfl ?_; clear S; intro v3 a w3 hv3 hk3 hn3 S
    subst hv3
    refine lv S (rn_gtr (S.tm rfl) rfl) rfl ?_; clear S; intro a S
    refine l_done ?_
    replace S := S.nf (L' := []) (K' := [(6, v2), (16, .bool (decide (345686400000 < r2)))]) [] rfl ⟨rfl, rfl, trivial⟩
    refine then_n ?_
    refine f_cond (S.tm rfl) (fun hb2 => ?_) (fun hb2 => ?_)
    · replace h := iteT h hb2
      refine f_seq ?_
      refine f_region ?_
      refine lv S (rn_assign rfl) rfl ?_; clear S; intro a S
      refine lv S (rn_assign rfl) rfl ?_; clear S; intro a S
      refine l_done ?_
      replace S := S.nf (L' := []) (K' := [(4, .slice none 0 0), (5, .int .i64 1)]) [] rfl ⟨rfl, rfl, trivial⟩
      refine then_n ?_
      refine wp_ret ?_
      refine then_r ?_
      obtain rfl := Option.some.inj h
      exact f_ret2 S Tryd.results29 rfl rfl ⟨_, rfl, (ownV_nil _ _ _)⟩
    · replace h := iteF h hb2
      refine wp_skip ?_
      refine then_n ?_
      refine f_seq ?_
      refine f_region ?_
      refine lv S (rn_move (S.tm rfl)) rfl ?_; clear S; intro a S
      refine lv S (rn_assign (S.tm rfl)) rfl ?_; clear S; intro a S
      refine lv S (rn_assign rfl) rfl ?_; clear S; intro a S
      refine l_done ?_
      replace S := S.nf (L' := []) (K' := [(4, v2), (5, .int .i64 0)]) [] rfl ⟨rfl, rfl, trivial⟩
      refine then_n ?_
      refine wp_ret ?_
      obtain rfl := Option.some.inj h
      exact f_ret2 S Tryd.results29 rfl rfl ⟨_, rfl, ((hs1).mono S.le_newer)⟩
theorem session_Timetable_ok (w : World) (v_p_l : Value) (p_l : List GItem) (hs_p_l : Slc (view w []) 5 v_p_l (p_l.map GItem.enc)) (p_from : Int) (r : (List GSlot) × Int) (h : session_Timetable p_l p_from = some r) :
    Calls Tryd.prog 7 [v_p_l, .int .i64 p_from].toArray w (Ret w [] fun τ v w' => ∃ u1 : Value, v = .tuple #[u1, .int .i64 r.2] ∧ OwnV τ 53 4 u1 r.1.length (r.1.flatMap GSlot.enc)) := by
  refine f_enter [] [] Tryd.func7 rfl Tryd.ntmps7 rfl (by simp) (by simp [fps]) (by simp [fps]) fun a S => ?_
  unfold session_Timetable at h
  replace S := S.nf (L' := []) (K' := [(0, v_p_l), (1, .int .i64 p_from)]) [] rfl ⟨rfl, rfl, trivial⟩
  refine f_seq ?_
  refine f_region ?_
  refine lv S (rn_assign rfl) rfl ?_; clear S; intro a S
  refine lv S (rn_assign rfl) rfl ?_; clear S; intro a S
  refine l_done ?_
  replace S := S.nf (L' := []) (K' := [(0, v_p_l), (1, .int .i64 p_from)]) [] rfl ⟨rfl, rfl, trivial⟩
  refine then_n ?_
  refine f_seq ?_
  refine f_seq ?_
  refine f_region ?_
  refine lv S (rn_move (S.tm rfl)) rfl ?_; clear S; intro a S
  obtain ⟨r1, hr1, h⟩ := bindE h
  refine l_enter S (fun _ => run_call (vs := [v_p_l]) ⟨(S.tm rfl), trivial⟩ Tryd.call20) (session_CheckItems_ok _ v_p_l p_l (hs_p_l.mono (S.le_arg nil_sub)) _ hr1) rfl ?_; clear S; intro v1 a w1 hv1 hk1 hn1 S
  subst hv1
  refine lv S (rn_assign (S.tm rfl)) rfl ?_; clear S; intro a S
  refine l_done ?_
  replace S := S.nf (L' := []) (K' := [(0, v_p_l), (1, .int .i64 p_from), (6, .int .i64 r1)]) [] rfl ⟨rfl, rfl, rfl, trivial⟩
  refine then_n ?_
  refine f_seq ?_
  refine f_region ?_
  refine lv S (rn_move (S.tm rfl)) rfl ?_; clear S; intro a S
  refine lv S (rn_neq (S.tm rfl) rfl) rfl ?_; clear S; intro a S
  refine l_done ?_
  replace S := S.nf (L' := []) (K' := [(0, v_p_l), (1, .int .i64 p_from), (6, .int .i64 r1), (10, .bool (!decide (r1 = 0)))]) [] rfl ⟨rfl, rfl, rfl, rfl, trivial⟩
  refine then_n ?_
  refine f_cond (S.tm rfl) (fun hb1 => ?_) (fun hb1 => ?_)
  · replace h := iteT h hb1
    refine f_seq ?_
    refine f_region ?_
    refine lv S (rn_move (S.tm rfl)) rfl ?_; clear S; intro a S
    refine lv S (rn_assign rfl) rfl ?_; clear S; intro a S
    refine lv S (rn_assign (S.tm rfl)) rfl ?_; clear S; intro a S
    refine l_done ?_
    replace S := S.nf (L' := []) (K' := [(4, .slice none 0 0), (5, .int .i64 r1)]) [] rfl ⟨rfl, rfl, trivial⟩
    refine then_n ?_
    refine wp_ret ?_
    refine then_r ?_
    obtain rfl := Option.some.inj h
    exact f_ret2 S Tryd.results7 rfl rfl ⟨_, rfl, (ownV_nil _ _ _)⟩
  · replace h := iteF h hb1
    refine wp_skip ?_
    refine then_n ?_
    refine f_seq ?_
    refine f_region ?_
    refine lv S (rn_move (S.tm rfl)) rfl ?_; clear S; intro a S
    refine lv S (rn_move (S.tm rfl)) rfl ?_; clear S; intro a S
    obtain ⟨r2, hr2, h⟩ := bindE h
    have hz1 := S.keep.size
    refine l_enter S (fun _ => run_call (vs := [v_p_l, .int .i64 p_from]) ⟨(S.tm rfl), (S.tm rfl), trivial⟩ Tryd.call29) (session_begin_ok _ v_p_l p_l (hs_p_l.mono (S.le_arg nil_sub)) p_from _ hr2) rfl ?_; clear S; intro v2 a w2 hv2 hk2 hn2 S
    obtain ⟨u1, rfl, ho1⟩ := hv2
    obtain ⟨φ1, hl1, hm1, S⟩ := S.see' hn2 hz1
    have hs1 := ho1.mono hm1
    refine lv S (rn_extract (S.tm rfl) rfl) rfl ?_; clear S; intro a S
    refine lv S (rn_extract (S.tm rfl) rfl) rfl ?_; clear S; intro a S
    refine lv S (rn_assign (S.tm rfl)) rfl ?_; clear S; intro a S
    refine lv S (rn_assign (S.tm rfl)) rfl ?_; clear S; intro a S
    refine l_done ?_
    replace S := S.nf (L' := []) (K' := [(4, u1), (5, .int .i64 r2.2)]) [] rfl ⟨rfl, rfl, trivial⟩
    refine then_n ?_
    refine wp_ret ?_
    obtain rfl := Option.some.inj h
    exact f_ret2 S Tryd.results7 rfl rfl ⟨_, rfl, ((hs1).mono S.le_newer)⟩
theorem session_Ends_ok (w : World) (v_p_l : Value) (p_l : List GItem) (hs_p_l : Slc (view w []) 5 v_p_l (p_l.map GItem.enc)) (p_from : Int) (r : Int × Int) (h : session_Ends p_l p_from = some r) :
    Calls Tryd.prog 8 [v_p_l, .int .i64 p_from].toArray w (Ret w [] fun τ v w' => v = .tuple #[.int .i64 r.1, .int .i64 r.2]) := by
  refine f_enter [] [] Tryd.func8 rfl Tryd.ntmps8 rfl (by simp) (by simp [fps]) (by simp [fps]) fun a S => ?_
  unfold session_Ends at h
  replace S := S.nf (L' := []) (K' := [(0, v_p_l), (1, .int .i64 p_from)]) [] rfl ⟨rfl, rfl, trivial⟩
  refine f_seq ?_
  refine f_region ?_
  refine lv S (rn_assign rfl) rfl ?_; clear S; intro a S
  refine lv S (rn_assign rfl) rfl ?_; clear S; intro a S
  refine l_done ?_
  replace S := S.nf (L' := []) (K' := [(0, v_p_l), (1, .int .i64 p_from)]) [] rfl ⟨rfl, rfl, trivial⟩
  refine then_n ?_
  refine f_seq ?_
  refine f_region ?_
  refine lv S (rn_move (S.tm rfl)) rfl ?_; clear S; intro a S
  refine lv S (rn_move (S.tm rfl)) rfl ?_; clear S; intro a S
  obtain ⟨r1, hr1, h⟩ := bindE h
  have hz1 := S.keep.size
  refine l_enter S (fun _ => run_call (vs := [v_p_l, .int .i64 p_from]) ⟨(S.tm rfl), (S.tm rfl), trivial⟩ Tryd.call7) (session_Timetable_ok _ v_p_l p_l (hs_p_l.mono (S.le_arg nil_sub)) p_from _ hr1) rfl ?_; clear S; intro v1 a w1 hv1 hk1 hn1 S
  obtain ⟨u1, rfl, ho1⟩ := hv1
  obtain ⟨φ1, hl1, hm1, S⟩ := S.see' hn1 hz1
  have hs1 := ho1.mono hm1
  refine lv S (rn_move (S.tm rfl)) rfl ?_; clear S; intro a S
  refine lv S (rn_extract (S.tm rfl) rfl) rfl ?_; clear S; intro a S
  refine lv S (rn_extract (S.tm rfl) rfl) rfl ?_; clear S; intro a S
  refine lv S (rn_assign (S.tm rfl)) rfl ?_; clear S; intro a S
  refine lv S (rn_assign (S.tm rfl)) rfl ?_; clear S; intro a S
  refine l_done ?_
  replace S := S.nf (L' := []) (K' := [(1, .int .i64 p_from), (6, u1), (7, .int .i64 r1.2)]) [] rfl ⟨rfl, rfl, rfl, trivial⟩
  refine then_n ?_
  refine f_seq ?_
  refine f_seq ?_
  refine f_region ?_
  refine lv S (rn_move (S.tm rfl)) rfl ?_; clear S; intro a S
  refine lv S (rn_neq (S.tm rfl) rfl) rfl ?_; clear S; intro a S
  refine l_done ?_
  replace S := S.nf (L' := []) (K' := [(1, .int .i64 p_from), (6, u1), (7, .int .i64 r1.2), (15, .bool (!decide (r1.2 = 0)))]) [] rfl ⟨rfl, rfl, rfl, rfl, trivial⟩
  refine then_n ?_
  refine f_cond (S.tm rfl) (fun hb1 => ?_) (fun hb1 => ?_)
  · replace h := iteT h hb1
    refine f_seq ?_
    refine f_region ?_
    refine lv S (rn_move (S.tm rfl)) rfl ?_; clear S; intro a S
    refine lv S (rn_assign rfl) rfl ?_; clear S; intro a S
    refine lv S (rn_assign (S.tm rfl)) rfl ?_; clear S; intro a S
    refine l_done ?_
    replace S := S.nf (L' := []) (K' := [(4, .int .i64 0), (5, .int .i64 r1.2)]) [] rfl ⟨rfl, rfl, trivial⟩
    refine then_n ?_
    refine wp_ret ?_
    refine then_r ?_
    obtain rfl := Option.some.inj h
    exact f_ret2 S Tryd.results8 rfl rfl rfl
  · replace h := iteF h hb1
    refine wp_skip ?_
    refine then_n ?_
    refine f_seq ?_
    refine f_region ?_
    refine lv S (rn_move (S.tm rfl)) rfl ?_; clear S; intro a S
    refine lv S (rn_move (S.tm rfl)) rfl ?_; clear S; intro a S
    obtain ⟨r2, hr2, h⟩ := bindE h
    refine l_enter S (fun _ => run_call (vs := [u1, .int .i64 p_from]) ⟨(S.tm rfl), (S.tm rfl), trivial⟩ Tryd.call30) (session_end_ok _ u1 r1.1 (((ownV_slcT GSlot.enc_ok hs1)).mono (S.le_new nil_sub)) p_from _ hr2) rfl ?_; clear S; intro v2 a w2 hv2 hk2 hn2 S
    subst hv2
    refine lv S (rn_assign (S.tm rfl)) rfl ?_; clear S; intro a S
    refine lv S (rn_assign rfl) rfl ?_; clear S; intro a S
    refine l_done ?_
    replace S := S.nf (L' := []) (K' := [(4, .int .i64 r2), (5, .int .i64 0)]) [] rfl ⟨rfl, rfl, trivial⟩
    refine then_n ?_
    refine wp_ret ?_
    obtain rfl := Option.some.inj h
    exact f_ret2 S Tryd.results8 rfl rfl rfl
theorem session_Fits_ok (w : World) (v_p_items : Value) (p_items : List GItem) (hs_p_items : Slc (view w []) 5 v_p_items (p_items.map GItem.enc)) (p_w : GWindow) (r : Int × Int) (h : session_Fits p_items p_w = some r) :
    Calls Tryd.prog 9 [v_p_items, .agg (GWindow.enc p_w).toArray].toArray w (Ret w [] fun τ v w' => v = .tuple #[.int .i64 r.1, .int .i64 r.2]) := by
  refine f_enter [] [] Tryd.func9 rfl Tryd.ntmps9 rfl (by simp) (by simp [fps]) (by simp [fps]) fun a S => ?_
  unfold session_Fits at h
  replace S := S.nf (L' := []) (K' := [(0, v_p_items), (1, .agg (GWindow.enc p_w).toArray)]) [] rfl ⟨rfl, rfl, trivial⟩
  refine f_seq ?_
  refine f_region ?_
  refine l_box S (S.tm rfl) (cs := [.int .i64 p_w.From, .int .i64 p_w.To]) rfl rfl ?_; clear S; intro a w1 b1 hz1 hk1 S
  refine lv S (rn_assign rfl) rfl ?_; clear S; intro a S
  refine lv S (rn_assign rfl) rfl ?_; clear S; intro a S
  refine l_done ?_
  replace S := S.nf (L' := [.blk b1 [.int .i64 p_w.From, .int .i64 p_w.To] 31]) (K' := [(0, v_p_items), (3, .pointer (some ⟨b1, 0, none⟩))]) [true] rfl ⟨rfl, rfl, trivial⟩
  refine then_n ?_
  refine f_seq ?_
  refine f_seq ?_
  refine f_region ?_
  refine lv S (rn_move (S.tm rfl)) rfl ?_; clear S; intro a S
  obtain ⟨r1, hr1, h⟩ := bindE h
  refine l_enter S (fun _ => run_call (vs := [v_p_items]) ⟨(S.tm rfl), trivial⟩ Tryd.call20) (session_CheckItems_ok _ v_p_items p_items (hs_p_items.mono (S.le_arg nil_sub)) _ hr1) rfl ?_; clear S; intro v1 a w2 hv1 hk2 hn1 S
  subst hv1
  refine lv S (rn_assign (S.tm rfl)) rfl ?_; clear S; intro a S
  refine l_done ?_
  replace S := S.nf (L' := [.blk b1 [.int .i64 p_w.From, .int .i64 p_w.To] 31]) (K' := [(0, v_p_items), (3, .pointer (some ⟨b1, 0, none⟩)), (6, .int .i64 r1)]) [true] rfl ⟨rfl, rfl, rfl, trivial⟩
  refine then_n ?_
  refine f_seq ?_
  refine f_region ?_
  refine lv S (rn_move (S.tm rfl)) rfl ?_; clear S; intro a S
  refine lv S (rn_neq (S.tm rfl) rfl) rfl ?_; clear S; intro a S
  refine l_done ?_
  replace S := S.nf (L' := [.blk b1 [.int .i64 p_w.From, .int .i64 p_w.To] 31]) (K' := [(0, v_p_items), (3, .pointer (some ⟨b1, 0, none⟩)), (6, .int .i64 r1), (11, .bool (!decide (r1 = 0)))]) [true] rfl ⟨rfl, rfl, rfl, rfl, trivial⟩
  refine then_n ?_
  refine f_cond (S.tm rfl) (fun hb1 => ?_) (fun hb1 => ?_)
  · replace h := iteT h hb1
    refine f_seq ?_
    refine f_region ?_
    refine lv S (rn_move (S.tm rfl)) rfl ?_; clear S; intro a S
    refine lv S (rn_assign rfl) rfl ?_; clear S; intro a S
    refine lv S (rn_assign (S.tm rfl)) rfl ?_; clear S; intro a S
    refine l_done ?_
    replace S := S.nf (L' := []) (K' := [(4, .int .i64 0), (5, .int .i64 r1)]) [false] rfl ⟨rfl, rfl, trivial⟩
    refine then_n ?_
    refine wp_ret ?_
    refine then_r ?_
    obtain rfl := Option.some.inj h
    exact f_ret2 S Tryd.results9 rfl rfl rfl
  · replace h := iteF h hb1
    refine wp_skip ?_
    refine then_n ?_
    refine f_seq ?_
    refine f_seq ?_
    refine f_region ?_
    refine lv S (rn_fld fa_31_0 (S.tm rfl)) rfl ?_; clear S; intro a S
    refine lv S (rn_load Tryd.isAgg3 (S.tm rfl) (S.cell (i := 0) rfl rfl)) rfl ?_; clear S; intro a S
    refine lv S (rn_lss (S.tm rfl) rfl) rfl ?_; clear S; intro a S
    refine lv S (rn_move (S.tm rfl)) rfl ?_; clear S; intro a S
    refine f_cutm 6 (fun a w' => Keep [] w2 w' ∧ Sx w [] nov [.blk b1 [.int .i64 p_w.From, .int .i64 p_w.To] 31] [(0, v_p_items), (3, .pointer (some ⟨b1, 0, none⟩)), (22, .bool ((decide (p_w.From < 0)) || (decide (p_w.To < p_w.From))))] 50 a w') ?_ ?_
    · rcases Bool.eq_false_or_eq_true (decide (p_w.From < 0)) with hb2 | hb2
      · refine l_skip S rfl rfl rfl (by rw [hb2]; rfl) rfl ?_ rfl; clear S; intro a S
        refine l_skip S rfl rfl rfl (by rw [hb2]; rfl) rfl ?_ rfl; clear S; intro a S
        refine l_skip S rfl rfl rfl (by rw [hb2]; rfl) rfl ?_ rfl; clear S; intro a S
        refine l_skip S rfl rfl rfl (by rw [hb2]; rfl) rfl ?_ rfl; clear S; intro a S
        refine l_skip S rfl rfl rfl (by rw [hb2]; rfl) rfl ?_ rfl; clear S; intro a S
        refine lv S (rn_or_t (decide (p_w.To < p_w.From)) hb2 (S.tm rfl) rfl) rfl ?_; clear S; intro a S
        refine l_done ?_
        refine then_n ?_
        exact ⟨Keep.refl _ _, S.nf [true] rfl ⟨rfl, rfl, rfl, trivial⟩⟩
      · refine l_want S rfl rfl rfl hb2 ?_
        refine lv S (rn_fld fa_31_0 (S.tm rfl)) rfl ?_; clear S; intro a S
        refine l_want S rfl rfl rfl hb2 ?_
        refine lv S (rn_load Tryd.isAgg3 (S.tm rfl) (S.cell (i := 0) rfl rfl)) rfl ?_; clear S; intro a S
        refine l_want S rfl rfl rfl hb2 ?_
        refine lv S (rn_fld fa_31_1 (S.tm rfl)) rfl ?_; clear S; intro a S
        refine l_want S rfl rfl rfl hb2 ?_
        refine lv S (rn_load Tryd.isAgg3 (S.tm rfl) (S.cell (i := 0) rfl rfl)) rfl ?_; clear S; intro a S
        refine l_want S rfl rfl rfl hb2 ?_
        refine lv S (rn_gtr (S.tm rfl) (S.tm rfl)) rfl ?_; clear S; intro a S
        refine lv S (rn_or_f hb2 (S.tm rfl) (S.tm rfl)) rfl ?_; clear S; intro a S
        refine l_done ?_
        refine then_n ?_
        exact ⟨Keep.refl _ _, S.nf [true] rfl ⟨rfl, rfl, rfl, trivial⟩⟩
    clear S; rintro a w3 ⟨hk3, S⟩
    refine lv S (rn_move (S.tm rfl)) rfl ?_; clear S; intro a S
    refine f_cutm 4 (fun a w' => Keep [] w3 w' ∧ Sx w [] nov [.blk b1 [.int .i64 p_w.From, .int .i64 p_w.To] 31] [(0, v_p_items), (3, .pointer (some ⟨b1, 0, none⟩)), (27, .bool (((decide (p_w.From < 0)) || (decide (p_w.To < p_w.From))) || (decide (345686400000 < p_w.To))))] 50 a w') ?_ ?_
    · rcases Bool.eq_false_or_eq_true ((decide (p_w.From < 0)) || (decide (p_w.To < p_w.From))) with hb3 | hb3
      · refine l_skip S rfl rfl rfl (by rw [hb3]; rfl) rfl ?_ rfl; clear S; intro a S
        refine l_skip S rfl rfl rfl (by rw [hb3]; rfl) rfl ?_ rfl; clear S; intro a S
        refine l_skip S rfl rfl rfl (by rw [hb3]; rfl) rfl ?_ rfl; clear S; intro a S
        refine lv S (rn_or_t (decide (345686400000 < p_w.To)) hb3 (S.tm rfl) rfl) rfl ?_; clear S; intro a S
        refine l_done ?_
        refine then_n ?_
        exact ⟨Keep.refl _ _, S.nf [true] rfl ⟨rfl, rfl, rfl, trivial⟩⟩
      · refine l_want S rfl rfl rfl hb3 ?_
        refine lv S (rn_fld fa_31_1 (S.tm rfl)) rfl ?_; clear S; intro a S
        refine l_want S rfl rfl rfl hb3 ?_
        refine lv S (rn_load Tryd.isAgg3 (S.tm rfl) (S.cell (i := 0) rfl rfl)) rfl ?_; clear S; intro a S
        refine l_want S rfl rfl rfl hb3 ?_
        refine lv S (rn_gtr (S.tm rfl) rfl) rfl ?_; clear S; intro a S
        refine lv S (rn_or_f hb3 (S.tm rfl) (S.tm rfl)) rfl ?_; clear S; intro a S
        refine l_done ?_
        refine then_n ?_
        exact ⟨Keep.refl _ _, S.nf [true] rfl ⟨rfl, rfl, rfl, trivial⟩⟩
    clear S; rintro a w4 ⟨hk4, S⟩
    refine l_done ?_
    replace S := S.nf (L' := [.blk b1 [.int .i64 p_w.From, .int .i64 p_w.To] 31]) (K' := [(0, v_p_items), (3, .pointer (some ⟨b1, 0, none⟩)), (27, .bool (((decide (p_w.From < 0)) || (decide (p_w.To < p_w.From))) || (decide (345686400000 < p_w.To))))]) [true] rfl ⟨rfl, rfl, rfl, trivial⟩
    refine then_n ?_
    refine f_cond (S.tm rfl) (fun hb4 => ?_) (fun hb4 => ?_)
    · replace h := iteT h hb4
      refine f_seq ?_
      refine f_region ?_
      refine lv S (rn_assign rfl) rfl ?_; clear S; intro a S
      refine lv S (rn_assign rfl) rfl ?_; clear S; intro a S
      refine l_done ?_
      replace S := S.nf (L' := []) (K' := [(4, .int .i64 0), (5, .int .i64 1)]) [false] rfl ⟨rfl, rfl, trivial⟩
      refine then_n ?_
      refine wp_ret ?_
      refine then_r ?_
      obtain rfl := Option.some.inj h
      exact f_ret2 S Tryd.results9 rfl rfl rfl
    · replace h := iteF h hb4
      refine wp_skip ?_
      refine then_n ?_
      refine f_seq ?_
      refine f_region ?_
      refine lv S (rn_assign rfl) rfl ?_; clear S; intro a S
      refine l_done ?_
      replace S := S.nf (L' := [.blk b1 [.int .i64 p_w.From, .int .i64 p_w.To] 31]) (K' := [(0, v_p_items), (3, .pointer (some ⟨b1, 0, none⟩)), (7, .int .i64 0)]) [true] rfl ⟨rfl, rfl, rfl, trivial⟩
      refine then_n ?_
      refine f_seq ?_
      obtain ⟨j1, hj1, h⟩ := joinE h
      refine f_join (fun a w' => ∃ x1 : Int, ∃ φ1 : View, j1 x1 = some r ∧ View.le nov φ1 ∧ Sx w [] φ1 [.blk b1 [.int .i64 p_w.From, .int .i64 p_w.To] 31] [(7, .int .i64 x1)] 50 a w') ?_ ?_
      · refine wp_block ?_
        refine f_loop (fun (m1 : Nat) a w' => ∃ x1 : Int, ∃ φ1 : View, session_Fits_l1 p_items p_w j1 m1 x1 = some r ∧ View.le nov φ1 ∧ Sx w [] φ1 [.blk b1 [.int .i64 p_w.From, .int .i64 p_w.To] 31] [(0, v_p_items), (3, .pointer (some ⟨b1, 0, none⟩)), (7, .int .i64 x1)] 50 a w') id (((p_items.length : Int) - 0).toNat + 2) ⟨0, nov, h, View.le_refl _, S.nf [true] rfl ⟨rfl, rfl, rfl, trivial⟩⟩ ?_
        clear S h; rintro m1 a w5 ⟨x1, φ1, h, hl1, S⟩
        cases m1 with
        | zero => rw [session_Fits_l1.eq_1] at h; cases h
        | succ m1 =>
          rw [session_Fits_l1.eq_2] at h
          refine f_seq ?_
          refine f_seq ?_
          obtain ⟨j2, hj2, h⟩ := joinE h
          refine f_join (fun a w' => ∃ x2 : Bool, ∃ φ2 : View, j2 x2 = some r ∧ View.le φ1 φ2 ∧ Sx w [] φ2 [.blk b1 [.int .i64 p_w.From, .int .i64 p_w.To] 31] [(0, v_p_items), (3, .pointer (some ⟨b1, 0, none⟩)), (7, .int .i64 x1), (46, .bool x2)] 50 a w') ?_ ?_
          · rcases Bool.eq_false_or_eq_true (decide (x1 < (p_items.length : Int))) with hb5 | hb5
            · replace h := iteT h hb5
              obtain ⟨hc1, h⟩ := chkE h
              obtain ⟨r2, hr3, h⟩ := bindE h
              obtain ⟨r3, hr4, h⟩ := bindE h
              refine d_region ([]) Tryd.mixed S rfl (by kernel_rfl) ?_; clear S; intro w10 hk7 hsel S
              refine d_quiet 0 S hsel rfl (by kernel_rfl) (by kernel_rfl) rfl (fun _ hw => (rn_move (S.tm rfl))) ?_; clear S; intro a S
              refine d_quiet 1 S hsel rfl (by kernel_rfl) (by kernel_rfl) rfl (fun _ hw => (rn_move (S.tm rfl))) ?_; clear S; intro a S
              refine d_quiet 2 S hsel rfl (by kernel_rfl) (by kernel_rfl) rfl (fun _ hw => (rn_lenT sl_26 (S.tm rfl) (slc_len hs_p_items))) ?_; clear S; intro a S
              refine d_quiet 3 S hsel rfl (by kernel_rfl) (by kernel_rfl) rfl (fun _ hw => (rn_lss (S.tm rfl) (S.tm rfl))) ?_; clear S; intro a S
              refine d_quiet 4 S hsel rfl (by kernel_rfl) (by kernel_rfl) rfl (fun _ hw => (rn_move (S.tm rfl))) ?_; clear S; intro a S
              refine d_quiet_g 5 S hsel rfl rfl rfl rfl hb5 (by kernel_rfl) (by kernel_rfl) rfl (fun _ hw => (rn_move (S.tm rfl))) ?_; clear S; intro a S
              refine d_quiet_g 6 S hsel rfl rfl rfl rfl hb5 (by kernel_rfl) (by kernel_rfl) rfl (fun _ hw => (rn_move (S.tm rfl))) ?_; clear S; intro a S
              refine d_quiet_g 7 S hsel rfl rfl rfl rfl hb5 (by kernel_rfl) (by kernel_rfl) rfl (fun _ hw => (rn_add (S.tm rfl) rfl)) ?_; clear S; intro a S
              obtain ⟨v5, hs3, hr5⟩ := rn_cutTh (a := a) (x := .tmp 33) (y' := .tmp 35) (ty := 26) sl_26 hs_p_items (S.tm rfl) (S.tm rfl) hc1
              refine d_quiet_g 8 S hsel rfl rfl rfl rfl hb5 (by kernel_rfl) (by kernel_rfl) rfl (fun _ hw => (hr5 _)) ?_; clear S; intro a S
              clear hr5
              refine d_quiet_g 9 S hsel rfl rfl rfl rfl hb5 (by kernel_rfl) (by kernel_rfl) rfl (fun _ hw => (rn_fld fa_31_0 (S.tm rfl))) ?_; clear S; intro a S
              refine d_quiet_g 10 S hsel rfl rfl rfl rfl hb5 (by kernel_rfl) (by kernel_rfl) rfl (fun _ hw => (rn_ld Tryd.isAgg3 (off := 0) (o := 0) (S.tm rfl) ((S.blk_mem (i := 0) (cells := [.int .i64 p_w.From, .int .i64 p_w.To]) (b := b1) (T := 31) rfl (ne_nil (e' := .blk b1 [.int .i64 p_w.From, .int .i64 p_w.To] 31))).kept hw) rfl)) ?_; clear S; intro a S
              refine d_quiet_g 12 S hsel rfl rfl rfl rfl hb5 (by kernel_rfl) (by kernel_rfl) rfl (fun _ hw => (rn_fld fa_31_0 (S.tm rfl))) ?_; clear S; intro a S
              refine d_quiet_g 13 S hsel rfl rfl rfl rfl hb5 (by kernel_rfl) (by kernel_rfl) rfl (fun _ hw => (rn_ld Tryd.isAgg3 (off := 0) (o := 0) (S.tm rfl) ((S.blk_mem (i := 0) (cells := [.int .i64 p_w.From, .int .i64 p_w.To]) (b := b1) (T := 31) rfl (ne_nil (e' := .blk b1 [.int .i64 p_w.From, .int .i64 p_w.To] 31))).kept hw) rfl)) ?_; clear S; intro a S
              refine d_quiet_g 15 S hsel rfl rfl rfl rfl hb5 (by kernel_rfl) (by kernel_rfl) rfl (fun _ hw => (rn_fld fa_31_1 (S.tm rfl))) ?_; clear S; intro a S
              refine d_quiet_g 16 S hsel rfl rfl rfl rfl hb5 (by kernel_rfl) (by kernel_rfl) rfl (fun _ hw => (rn_ld Tryd.isAgg3 (off := 0) (o := 1) (S.tm rfl) ((S.blk_mem (i := 0) (cells := [.int .i64 p_w.From, .int .i64 p_w.To]) (b := b1) (T := 31) rfl (ne_nil (e' := .blk b1 [.int .i64 p_w.From, .int .i64 p_w.To] 31))).kept hw) rfl)) ?_; clear S; intro a S
              refine d_loud1 11 (by kernel_rfl) rfl ?_
              refine l_want S rfl rfl rfl hb5 ?_
              have hz3 := S.keep.size
              refine l_enter S (fun _ => run_call (vs := [v5, .int .i64 p_w.From]) ⟨(S.tm rfl), (S.tm rfl), trivial⟩ Tryd.call31) (session_timetable_ok _ v5 (cut p_items 0 (W (x1 + 1))) (hs3.mono (S.le_arg nil_sub)) p_w.From _ hr3) rfl ?_; clear S; intro v6 a w11 hv4 hk8 hn4 S
              obtain ⟨φ4, hl4, hm2, S⟩ := S.see' hn4 hz3
              have hs4 := hv4.mono hm2
              refine l_done ?_
              refine d_next hk8 ?_
              refine d_loud1 14 (by kernel_rfl) rfl ?_
              refine l_want S rfl rfl rfl hb5 ?_
              refine l_enter S (fun _ => run_call (vs := [v6, .int .i64 p_w.From]) ⟨(S.tm rfl), (S.tm rfl), trivial⟩ Tryd.call30) (session_end_ok _ v6 r2 (((ownV_slcT GSlot.enc_ok hs4)).mono (S.le_new nil_sub)) p_w.From _ hr4) rfl ?_; clear S; intro v7 a w12 hv5 hk9 hn5 S
              subst hv5
              refine l_done ?_
              refine d_next hk9 ?_
              refine d_quiet_g 17 S hsel rfl rfl rfl rfl hb5 (by kernel_rfl) (by kernel_rfl) rfl (fun _ hw => (rn_leq (S.tm rfl) (S.tm rfl))) ?_; clear S; intro a S
              refine d_quiet 18 S hsel rfl (by kernel_rfl) (by kernel_rfl) rfl (fun _ hw => (rn_pick_b hb5 (S.tm rfl) (S.tm rfl))) ?_; clear S; intro a S
              refine d_end (by kernel_rfl) ?_
              clear hsel
              replace S := S.nf (L' := [.blk b1 [.int .i64 p_w.From, .int .i64 p_w.To] 31]) (K' := [(0, v_p_items), (3, .pointer (some ⟨b1, 0, none⟩)), (7, .int .i64 x1), (33, v_p_items), (34, .int .i64 x1), (35, .int .i64 (W (x1 + 1))), (36, v5), (37, .pointer (some ⟨b1, 0, none⟩)), (38, .int .i64 p_w.From), (39, v6), (40, .pointer (some ⟨b1, 0, none⟩)), (41, .int .i64 p_w.From), (42, .int .i64 r3), (43, .pointer (some ⟨b1, 1, none⟩)), (44, .int .i64 p_w.To), (45, .bool (decide (r3 ≤ p_w.To))), (46, .bool (decide (r3 ≤ p_w.To)))]) [true] rfl ⟨rfl, rfl, rfl, rfl, rfl, rfl, rfl, rfl, rfl, rfl, rfl, rfl, rfl, rfl, rfl, rfl, rfl, trivial⟩
              refine then_n ?_
              exact ⟨decide (r3 ≤ p_w.To), φ4, h, hl4, S.nf [true] rfl ⟨rfl, rfl, rfl, rfl, trivial⟩⟩
            · replace h := iteF h hb5
              refine d_region ([]) Tryd.mixed S rfl (by kernel_rfl) ?_; clear S; intro w13 hk10 hsel S
              refine d_quiet 0 S hsel rfl (by kernel_rfl) (by kernel_rfl) rfl (fun _ hw => (rn_move (S.tm rfl))) ?_; clear S; intro a S
              refine d_quiet 1 S hsel rfl (by kernel_rfl) (by kernel_rfl) rfl (fun _ hw => (rn_move (S.tm rfl))) ?_; clear S; intro a S
              refine d_quiet 2 S hsel rfl (by kernel_rfl) (by kernel_rfl) rfl (fun _ hw => (rn_lenT sl_26 (S.tm rfl) (slc_len hs_p_items))) ?_; clear S; intro a S
              refine d_quiet 3 S hsel rfl (by kernel_rfl) (by kernel_rfl) rfl (fun _ hw => (rn_lss (S.tm rfl) (S.tm rfl))) ?_; clear S; intro a S
              refine d_quiet 4 S hsel rfl (by kernel_rfl) (by kernel_rfl) rfl (fun _ hw => (rn_move (S.tm rfl))) ?_; clear S; intro a S
              refine d_skip 5 S hsel rfl rfl rfl rfl (by rw [hb5]; rfl) (by kernel_rfl) (by kernel_rfl) rfl ?_; clear S; intro a S
              refine d_skip 6 S hsel rfl rfl rfl rfl (by rw [hb5]; rfl) (by kernel_rfl) (by kernel_rfl) rfl ?_; clear S; intro a S
              refine d_skip 7 S hsel rfl rfl rfl rfl (by rw [hb5]; rfl) (by kernel_rfl) (by kernel_rfl) rfl ?_; clear S; intro a S
              refine d_skip 8 S hsel rfl rfl rfl rfl (by rw [hb5]; rfl) (by kernel_rfl) (by kernel_rfl) rfl ?_; clear S; intro a S
              refine d_skip 9 S hsel rfl rfl rfl rfl (by rw [hb5]; rfl) (by kernel_rfl) (by kernel_rfl) rfl ?_; clear S; intro a S
              refine d_skip 10 S hsel rfl rfl rfl rfl (by rw [hb5]; rfl) (by kernel_rfl) (by kernel_rfl) rfl ?_; clear S; intro a S
              refine d_skip 11 S hsel rfl rfl rfl rfl (by rw [hb5]; rfl) (by kernel_rfl) (by kernel_rfl) rfl ?_; clear S; intro a S
              refine d_skip 12 S hsel rfl rfl rfl rfl (by rw [hb5]; rfl) (by kernel_rfl) (by kernel_rfl) rfl ?_; clear S; intro a S
              refine d_skip 13 S hsel rfl rfl rfl rfl (by rw [hb5]; rfl) (by kernel_rfl) (by kernel_rfl) rfl ?_; clear S; intro a S
              refine d_skip 14 S hsel rfl rfl rfl rfl (by rw [hb5]; rfl) (by kernel_rfl) (by kernel_rfl) rfl ?_; clear S; intro a S
              refine d_skip 15 S hsel rfl rfl rfl rfl (by rw [hb5]; rfl) (by kernel_rfl) (by kernel_rfl) rfl ?_; clear S; intro a S
              refine d_skip 16 S hsel rfl rfl rfl rfl (by rw [hb5]; rfl) (by kernel_rfl) (by kernel_rfl) rfl ?_; clear S; intro a S
              refine d_skip 17 S hsel rfl rfl rfl rfl (by rw [hb5]; rfl) (by kernel_rfl) (by kernel_rfl) rfl ?_; clear S; intro a S
              refine d_quiet 18 S hsel rfl (by kernel_rfl) (by kernel_rfl) rfl (fun _ hw => (rn_pick_c hb5 (S.tm rfl) rfl)) ?_; clear S; intro a S
              refine d_end (by kernel_rfl) ?_
              clear hsel
              replace S := S.nf (L' := [.blk b1 [.int .i64 p_w.From, .int .i64 p_w.To] 31]) (K' := [(0, v_p_items), (3, .pointer (some ⟨b1, 0, none⟩)), (7, .int .i64 x1), (46, .bool false)]) [true] rfl ⟨rfl, rfl, rfl, rfl, trivial⟩
              refine then_n ?_
              exact ⟨false, φ1, h, (View.le_refl _), S.nf [true] rfl ⟨rfl, rfl, rfl, rfl, trivial⟩⟩
          clear S h; rintro a w7 ⟨x2, φ2, h, hl2, S⟩; rw [hj2] at h; clear hj2 j2
          refine then_n ?_
          refine f_cond (S.tm rfl) (fun hb6 => ?_) (fun hb6 => ?_)
          · replace h := iteT h hb6
            refine wp_skip ?_
            refine then_n ?_
            refine wp_block ?_
            refine f_region ?_
            refine lv S (rn_move (S.tm rfl)) rfl ?_; clear S; intro a S
            refine lv S (rn_add (S.tm rfl) rfl) rfl ?_; clear S; intro a S
            refine lv S (rn_assign (S.tm rfl)) rfl ?_; clear S; intro a S
            refine l_done ?_
            replace S := S.nf (L' := [.blk b1 [.int .i64 p_w.From, .int .i64 p_w.To] 31]) (K' := [(0, v_p_items), (3, .pointer (some ⟨b1, 0, none⟩)), (7, .int .i64 (W (x1 + 1)))]) [true] rfl ⟨rfl, rfl, rfl, trivial⟩
            refine blk_n ?_
            refine then_n ?_
            exact ⟨m1, ⟨W (x1 + 1), φ2, h, (View.le_trans hl1 hl2), S.nf [true] rfl ⟨rfl, rfl, rfl, trivial⟩⟩, Nat.lt_succ_self _⟩
          · replace h := iteF h hb6
            refine wp_exit ?_
            refine then_x ?_
            refine then_x ?_
            refine x_same ?_
            refine then_n ?_
            exact ⟨x1, φ2, h, (View.le_trans hl1 hl2), S.nf [true] rfl ⟨rfl, trivial⟩⟩
      clear S h; rintro a w6 ⟨x1, φ1, h, hl1, S⟩; rw [hj1] at h; clear hj1 j1
      refine then_n ?_
      refine f_seq ?_
      refine f_region ?_
      refine lv S (rn_move (S.tm rfl)) rfl ?_; clear S; intro a S
      refine lv S (rn_assign (S.tm rfl)) rfl ?_; clear S; intro a S
      refine lv S (rn_assign rfl) rfl ?_; clear S; intro a S
      refine l_done ?_
      replace S := S.nf (L' := []) (K' := [(4, .int .i64 x1), (5, .int .i64 0)]) [false] rfl ⟨rfl, rfl, trivial⟩
      refine then_n ?_
      refine wp_ret ?_
      obtain rfl := Option.some.inj h
      exact f_ret2 S Tryd.results9 rfl rfl rfl
theorem session_Pauses_ok (w : World) (v_p_items : Value) (p_items : List GItem) (hs_p_items : Slc (view w []) 5 v_p_items (p_items.map GItem.enc)) (p_from : Int) (p_least : Int) (r : (List GWindow) × Int) (h : session_Pauses p_items p_from p_least = some r) :
    Calls Tryd.prog 10 [v_p_items, .int .i64 p_from, .int .i64 p_least].toArray w (Ret w [] fun τ v w' => ∃ u1 : Value, v = .tuple #[u1, .int .i64 r.2] ∧ OwnV τ 31 2 u1 r.1.length (r.1.flatMap GWindow.enc)) := by
  refine f_enter [] [] Tryd.func10 rfl Tryd.ntmps10 rfl (by simp) (by simp [fps]) (by simp [fps]) fun a S => ?_
  unfold session_Pauses at h
  replace S := S.nf (L' := []) (K' := [(0, v_p_items), (1, .int .i64 p_from), (2, .int .i64 p_least)]) [] rfl ⟨rfl, rfl, rfl, trivial⟩
  refine f_seq ?_
  refine f_region ?_
  refine lv S (rn_assign rfl) rfl ?_; clear S; intro a S
  refine lv S (rn_assign rfl) rfl ?_; clear S; intro a S
  refine l_done ?_
  replace S := S.nf (L' := []) (K' := [(0, v_p_items), (1, .int .i64 p_from), (2, .int .i64 p_least)]) [] rfl ⟨rfl, rfl, rfl, trivial⟩
  refine then_n ?_
  refine f_seq ?_
  refine f_region ?_
  refine lv S (rn_move (S.tm rfl)) rfl ?_; clear S; intro a S
  refine lv S (rn_move (S.tm rfl)) rfl ?_; clear S; intro a S
  obtain ⟨r1, hr1, h⟩ := bindE h
  have hz1 := S.keep.size
  refine l_enter S (fun _ => run_call (vs := [v_p_items, .int .i64 p_from]) ⟨(S.tm rfl), (S.tm rfl), trivial⟩ Tryd.call7) (session_Timetable_ok _ v_p_items p_items (hs_p_items.mono (S.le_arg nil_sub)) p_from _ hr1) rfl ?_; clear S; intro v1 a w1 hv1 hk1 hn1 S
  obtain ⟨u1, rfl, ho1⟩ := hv1
  obtain ⟨φ1, hl1, hm1, S⟩ := S.see' hn1 hz1
  have hs1 := ho1.mono hm1
  refine lv S (rn_move (S.tm rfl)) rfl ?_; clear S; intro a S
  refine lv S (rn_extract (S.tm rfl) rfl) rfl ?_; clear S; intro a S
  refine lv S (rn_extract (S.tm rfl) rfl) rfl ?_; clear S; intro a S
  refine lv S (rn_assign (S.tm rfl)) rfl ?_; clear S; intro a S
  refine lv S (rn_assign (S.tm rfl)) rfl ?_; clear S; intro a S
  refine l_done ?_
  replace S := S.nf (L' := []) (K' := [(2, .int .i64 p_least), (8, u1), (9, .int .i64 r1.2)]) [] rfl ⟨rfl, rfl, rfl, trivial⟩
  refine then_n ?_
  refine f_seq ?_
  refine f_seq ?_
  refine f_region ?_
  refine lv S (rn_move (S.tm rfl)) rfl ?_; clear S; intro a S
  refine lv S (rn_neq (S.tm rfl) rfl) rfl ?_; clear S; intro a S
  refine l_done ?_
  replace S := S.nf (L' := []) (K' := [(2, .int .i64 p_least), (8, u1), (9, .int .i64 r1.2), (20, .bool (!decide (r1.2 = 0)))]) [] rfl ⟨rfl, rfl, rfl, rfl, trivial⟩
  refine then_n ?_
  refine f_cond (S.tm rfl) (fun hb1 => ?_) (fun hb1 => ?_)
  · replace h := iteT h hb1
    refine f_seq ?_
    refine f_region ?_
    refine lv S (rn_move (S.tm rfl)) rfl ?_; clear S; intro a S
    refine lv S (rn_assign rfl) rfl ?_; clear S; intro a S
    refine lv S (rn_assign (S.tm rfl)) rfl ?_; clear S; intro a S
    refine l_done ?_
    replace S := S.nf (L' := []) (K' := [(6, .slice none 0 0), (7, .int .i64 r1.2)]) [] rfl ⟨rfl, rfl, trivial⟩
    refine then_n ?_
    refine wp_ret ?_
    refine then_r ?_
    obtain rfl := Option.some.inj h
    exact f_ret2 S Tryd.results10 rfl rfl ⟨_, rfl, (ownV_nil _ _ _)⟩
  · replace h := iteF h hb1
    refine wp_skip ?_
    refine then_n ?_
    refine f_seq ?_
    refine f_seq ?_
    refine f_region ?_
    refine lv S (rn_move (S.tm rfl)) rfl ?_; clear S; intro a S
    refine l_enter S (fun _ => run_call (vs := [.int .i64 p_least, .int .i64 1, .int .i64 3600000]) ⟨(S.tm rfl), rfl, rfl, trivial⟩ Tryd.call32) (words_Within_ok _ p_least 1 3600000 _ rfl) rfl ?_; clear S; intro v2 a w2 hv2 hk2 hn2 S
    subst hv2
    refine lv S (rn_not (S.tm rfl)) rfl ?_; clear S; intro a S
    refine l_done ?_
    replace S := S.nf (L' := []) (K' := [(2, .int .i64 p_least), (8, u1), (24, .bool (!(words_Within p_least 1 3600000)))]) [] rfl ⟨rfl, rfl, rfl, trivial⟩
    refine then_n ?_
    refine f_cond (S.tm rfl) (fun hb2 => ?_) (fun hb2 => ?_)
    · replace h := iteT h hb2
      refine f_seq ?_
      refine f_region ?_
      refine lv S (rn_assign rfl) rfl ?_; clear S; intro a S
      refine lv S (rn_assign rfl) rfl ?_; clear S; intro a S
      refine l_done ?_
      replace S := S.nf (L' := []) (K' := [(6, .slice none 0 0), (7, .int .i64 1)]) [] rfl ⟨rfl, rfl, trivial⟩
      refine then_n ?_
      refine wp_ret ?_
      refine then_r ?_
      obtain rfl := Option.some.inj h
      exact f_ret2 S Tryd.results10 rfl rfl ⟨_, rfl, (ownV_nil _ _ _)⟩
    · replace h := iteF h hb2
      refine wp_skip ?_
      refine then_n ?_
      refine f_seq ?_
      refine f_region ?_
      refine lv S (rn_assign rfl) rfl ?_; clear S; intro a S
      replace S := S.nil 31 2
      refine l_done ?_
      replace S := S.nf (L' := [.own (.slice none 0 0) 31 2 ([] : List GWindow).length (([] : List GWindow).flatMap GWindow.enc)]) (K' := [(2, .int .i64 p_least), (8, u1), (10, (.slice none 0 0))]) [true] rfl ⟨rfl, rfl, rfl, trivial⟩
      refine then_n ?_
      refine f_seq ?_
      refine f_seq ?_
      refine f_region ?_
      refine lv S (rn_assign rfl) rfl ?_; clear S; intro a S
      refine l_done ?_
      replace S := S.nf (L' := [.own (.slice none 0 0) 31 2 ([] : List GWindow).length (([] : List GWindow).flatMap GWindow.enc)]) (K' := [(2, .int .i64 p_least), (8, u1), (10, (.slice none 0 0)), (11, .int .i64 1)]) [true] rfl ⟨rfl, rfl, rfl, rfl, trivial⟩
      refine then_n ?_
      obtain ⟨j1, hj1, h⟩ := joinE h
      refine f_join (fun a w' => ∃ x1 : List GWindow, ∃ v3 : Value, j1 x1 = some r ∧ Sx w [] φ1 [.own v3 31 2 x1.length (x1.flatMap GWindow.enc)] [(10, v3)] 57 a w') ?_ ?_
      · refine wp_block ?_
        refine f_loop (fun (m1 : Nat) a w' => ∃ x1 : List GWindow, ∃ x2 : Int, ∃ v3 : Value, session_Pauses_l1 r1 p_least j1 m1 x1 x2 = some r ∧ Sx w [] φ1 [.own v3 31 2 x1.length (x1.flatMap GWindow.enc)] [(2, .int .i64 p_least), (8, u1), (10, v3), (11, .int .i64 x2)] 57 a w') id (((r1.1.length : Int) - 1).toNat + 2) ⟨([] : List GWindow), 1, (.slice none 0 0), h, S.nf [true] rfl ⟨rfl, rfl, rfl, rfl, trivial⟩⟩ ?_
        clear S h; rintro m1 a w3 ⟨x1, x2, v3, h, S⟩
        cases m1 with
        | zero => rw [session_Pauses_l1.eq_1] at h; cases h
        | succ m1 =>
          rw [session_Pauses_l1.eq_2] at h
          refine f_seq ?_
          refine f_seq ?_
          refine f_region ?_
          refine lv S (rn_move (S.tm rfl)) rfl ?_; clear S; intro a S
          refine lv S (rn_move (S.tm rfl)) rfl ?_; clear S; intro a S
          refine lv S (rn_lenT sl_32 (S.tm rfl) (slc_len (ownV_slcT GSlot.enc_ok hs1))) rfl ?_; clear S; intro a S
          refine lv S (rn_lss (S.tm rfl) (S.tm rfl)) rfl ?_; clear S; intro a S
          refine l_done ?_
          replace S := S.nf (L' := [.own v3 31 2 x1.length (x1.flatMap GWindow.enc)]) (K' := [(2, .int .i64 p_least), (8, u1), (10, v3), (11, .int .i64 x2), (28, .bool (decide (x2 < (r1.1.length : Int))))]) [true] rfl ⟨rfl, rfl, rfl, rfl, rfl, trivial⟩
          refine then_n ?_
          refine f_cond (S.tm rfl) (fun hb3 => ?_) (fun hb3 => ?_)
          · replace h := iteT h hb3
            refine wp_skip ?_
            refine then_n ?_
            refine f_seq ?_
            obtain ⟨j2, hj2, h⟩ := joinE h
            refine f_join (fun a w' => ∃ x3 : List GWindow, ∃ v4 : Value, j2 x3 = some r ∧ Sx w [] φ1 [.own v4 31 2 x3.length (x3.flatMap GWindow.enc)] [(2, .int .i64 p_least), (8, u1), (10, v4), (11, .int .i64 x2)] 57 a w') ?_ ?_
            · refine wp_block ?_
              refine f_seq ?_
              obtain ⟨hc1, h⟩ := chkE h
              obtain ⟨hc2, h⟩ := chkE h
              refine d_region ([]) Tryd.mixed S rfl (by kernel_rfl) ?_; clear S; intro w8 hk5 hsel S
              refine d_quiet 0 S hsel rfl (by kernel_rfl) (by kernel_rfl) rfl (fun _ hw => (rn_move (S.tm rfl))) ?_; clear S; intro a S
              refine d_quiet 1 S hsel rfl (by kernel_rfl) (by kernel_rfl) rfl (fun _ hw => (rn_move (S.tm rfl))) ?_; clear S; intro a S
              refine d_quiet 2 S hsel rfl (by kernel_rfl) (by kernel_rfl) rfl (fun _ hw => (rn_sub (S.tm rfl) rfl)) ?_; clear S; intro a S
              obtain ⟨b4, o3, hm4, hr4⟩ := rn_indexT (a := a) (x := .tmp 31) (y := .tmp 33) (ty := 0) sl_32 (((ownV_slcT GSlot.enc_ok hs1)).mono (S.le_new nil_sub)) (inB_get hc1).1 (inB_get hc1).2 (S.tm rfl) (S.tm rfl)
              refine d_quiet 3 S hsel rfl (by kernel_rfl) (by kernel_rfl) rfl (fun _ hw => hr4 _) ?_; clear S; intro a S
              clear hr4
              refine d_quiet 4 S hsel rfl (by kernel_rfl) (by kernel_rfl) rfl (fun _ hw => (rn_fld fa_53_2 (S.tm rfl))) ?_; clear S; intro a S
              refine d_quiet 5 S hsel rfl (by kernel_rfl) (by kernel_rfl) rfl (fun _ hw => (rn_fld fa_31_1 (S.tm rfl))) ?_; clear S; intro a S
              refine d_quiet 6 S hsel rfl (by kernel_rfl) (by kernel_rfl) rfl (fun _ hw => (rn_ld Tryd.isAgg3 (off := o3) (o := 3) (S.tm rfl) (hm4.kept hw) rfl)) ?_; clear S; intro a S
              refine d_quiet 7 S hsel rfl (by kernel_rfl) (by kernel_rfl) rfl (fun _ hw => (rn_move (S.tm rfl))) ?_; clear S; intro a S
              refine d_quiet 8 S hsel rfl (by kernel_rfl) (by kernel_rfl) rfl (fun _ hw => (rn_move (S.tm rfl))) ?_; clear S; intro a S
              obtain ⟨b5, o4, hm5, hr5⟩ := rn_indexT (a := a) (x := .tmp 38) (y := .tmp 39) (ty := 0) sl_32 (((ownV_slcT GSlot.enc_ok hs1)).mono (S.le_new nil_sub)) (inB_get hc2).1 (inB_get hc2).2 (S.tm rfl) (S.tm rfl)
              refine d_quiet 9 S hsel rfl (by kernel_rfl) (by kernel_rfl) rfl (fun _ hw => hr5 _) ?_; clear S; intro a S
              clear hr5
              refine d_quiet 10 S hsel rfl (by kernel_rfl) (by kernel_rfl) rfl (fun _ hw => (rn_fld fa_53_2 (S.tm rfl))) ?_; clear S; intro a S
              refine d_quiet 11 S hsel rfl (by kernel_rfl) (by kernel_rfl) rfl (fun _ hw => (rn_fld fa_31_0 (S.tm rfl))) ?_; clear S; intro a S
              refine d_quiet 12 S hsel rfl (by kernel_rfl) (by kernel_rfl) rfl (fun _ hw => (rn_ld Tryd.isAgg3 (off := o4) (o := 2) (S.tm rfl) (hm5.kept hw) rfl)) ?_; clear S; intro a S
              refine d_quiet 13 S hsel rfl (by kernel_rfl) (by kernel_rfl) rfl (fun _ hw => (rn_bld bt_31 (pv := [(0, .int .i64 (((nth r1.1 (W (x2 - 1))).Time).To)), (1, .int .i64 (((nth r1.1 x2).Time).From))]) ⟨rfl, (S.tm rfl), rfl, (S.tm rfl), trivial⟩ (cs := [.int .i64 (((nth r1.1 (W (x2 - 1))).Time).To), .int .i64 (((nth r1.1 x2).Time).From)]) (by kernel_rfl))) ?_; clear S; intro a S
              refine d_loud1 14 (by kernel_rfl) rfl ?_
              refine l_alloc S Tryd.zeroValue31 (cs := [.int .i64 0, .int .i64 0]) rfl rfl ?_; clear S; intro a w9 b6 hz3 hk6 S
              refine l_done ?_
              refine d_nextN ([b6]) hk6 (new1 hz3) ?_
              refine d_loud1 15 (by kernel_rfl) rfl ?_
              refine l_store S (S.tm rfl) (S.tm rfl) (i := 0) (off := 0) rfl Tryd.sizeOf31 (vs := [.int .i64 (((nth r1.1 (W (x2 - 1))).Time).To), .int .i64 (((nth r1.1 x2).Time).From)]) rfl rfl rfl rfl ?_; clear S; intro w10 hk7 S
              refine l_done ?_
              refine d_next hk7 ?_
              refine d_end (by kernel_rfl) ?_
              clear hsel
              replace S := S.nf (L' := [.blk b6 [.int .i64 (((nth r1.1 (W (x2 - 1))).Time).To), .int .i64 (((nth r1.1 x2).Time).From)] 31, .own v3 31 2 x1.length (x1.flatMap GWindow.enc)]) (K' := [(2, .int .i64 p_least), (8, u1), (10, v3), (11, .int .i64 x2), (12, .pointer (some ⟨b6, 0, none⟩))]) [true, true] rfl ⟨rfl, rfl, rfl, rfl, rfl, trivial⟩
              refine then_n ?_
              refine f_seq ?_
              refine f_region ?_
              refine lv S (rn_fld fa_31_1 (S.tm rfl)) rfl ?_; clear S; intro a S
              refine lv S (rn_load Tryd.isAgg3 (S.tm rfl) (S.cell (i := 0) rfl rfl)) rfl ?_; clear S; intro a S
              refine lv S (rn_fld fa_31_0 (S.tm rfl)) rfl ?_; clear S; intro a S
              refine lv S (rn_load Tryd.isAgg3 (S.tm rfl) (S.cell (i := 0) rfl rfl)) rfl ?_; clear S; intro a S
              refine lv S (rn_sub (S.tm rfl) (S.tm rfl)) rfl ?_; clear S; intro a S
              refine lv S (rn_move (S.tm rfl)) rfl ?_; clear S; intro a S
              refine lv S (rn_geq (S.tm rfl) (S.tm rfl)) rfl ?_; clear S; intro a S
              refine l_done ?_
              replace S := S.nf (L' := [.blk b6 [.int .i64 (((nth r1.1 (W (x2 - 1))).Time).To), .int .i64 (((nth r1.1 x2).Time).From)] 31, .own v3 31 2 x1.length (x1.flatMap GWindow.enc)]) (K' := [(2, .int .i64 p_least), (8, u1), (10, v3), (11, .int .i64 x2), (12, .pointer (some ⟨b6, 0, none⟩)), (51, .bool (decide (p_least ≤ (W ((((nth r1.1 x2).Time).From) - (((nth r1.1 (W (x2 - 1))).Time).To))))))]) [true, true] rfl ⟨rfl, rfl, rfl, rfl, rfl, rfl, trivial⟩
              refine then_n ?_
              obtain ⟨j3, hj3, h⟩ := joinE h
              refine f_join (fun a w' => ∃ x4 : List GWindow, ∃ v5 : Value, j3 x4 = some r ∧ Sx w [] φ1 [.own v5 31 2 x4.length (x4.flatMap GWindow.enc)] [(2, .int .i64 p_least), (8, u1), (10, v5), (11, .int .i64 x2)] 57 a w') ?_ ?_
              · refine f_cond (S.tm rfl) (fun hb4 => ?_) (fun hb4 => ?_)
                · replace h := iteT h hb4
                  refine f_region ?_
                  refine lv S (rn_move (S.tm rfl)) rfl ?_; clear S; intro a S
                  refine lv S (rn_ldA Tryd.isAgg31 Tryd.sizeOf31 (off := 0) (o := 0) (part := [.int .i64 (((nth r1.1 (W (x2 - 1))).Time).To), .int .i64 (((nth r1.1 x2).Time).From)]) rfl rfl (S.tm rfl) (S.cellsAt (i := 0) rfl)) rfl ?_; clear S; intro a S
                  refine l_buildSlice S Tryd.underlying39 Tryd.sizeOf31 Tryd.zeroValue31 rfl rfl (pv := [(0, .agg #[.int .i64 (((nth r1.1 (W (x2 - 1))).Time).To), .int .i64 (((nth r1.1 x2).Time).From)])]) ⟨rfl, (S.tm rfl), trivial⟩ (cs := [.int .i64 (((nth r1.1 (W (x2 - 1))).Time).To), .int .i64 (((nth r1.1 x2).Time).From)]) (by kernel_rfl) rfl ?_; clear S; intro a w12 b7 hz4 hk8 S
                  obtain ⟨hc3, h⟩ := chkE h
                  refine l_appendT sl_39 GWindow.enc_ok S (S.tm rfl) (i := 2) rfl (S.tm rfl) (j := 0) rfl (ys := [(GWindow.mk (((nth r1.1 (W (x2 - 1))).Time).To) (((nth r1.1 x2).Time).From))]) rfl rfl rfl rfl (by have := room_lt hc3; omega) rfl ?_; clear S; intro v6 a w13 hk9 S
                  refine lv S (rn_assign (S.tm rfl)) rfl ?_; clear S; intro a S
                  refine l_done ?_
                  replace S := S.nf (L' := [.own v6 31 2 (x1 ++ [(GWindow.mk (((nth r1.1 (W (x2 - 1))).Time).To) (((nth r1.1 x2).Time).From))]).length ((x1 ++ [(GWindow.mk (((nth r1.1 (W (x2 - 1))).Time).To) (((nth r1.1 x2).Time).From))]).flatMap GWindow.enc)]) (K' := [(2, .int .i64 p_least), (8, u1), (10, v6), (11, .int .i64 x2)]) [false, false, true] rfl ⟨rfl, rfl, rfl, rfl, trivial⟩
                  refine then_n ?_
                  exact ⟨(x1 ++ [(GWindow.mk (((nth r1.1 (W (x2 - 1))).Time).To) (((nth r1.1 x2).Time).From))]), v6, h, S.nf [true] rfl ⟨rfl, rfl, rfl, rfl, trivial⟩⟩
                · replace h := iteF h hb4
                  refine wp_skip ?_
                  refine then_n ?_
                  exact ⟨x1, v3, h, S.nf [false, true] rfl ⟨rfl, rfl, rfl, rfl, trivial⟩⟩
              clear S h; rintro a w11 ⟨x4, v5, h, S⟩; rw [hj3] at h; clear hj3 j3
              refine blk_n ?_
              refine then_n ?_
              exact ⟨x4, v5, h, S.nf [true] rfl ⟨rfl, rfl, rfl, rfl, trivial⟩⟩
            clear S h; rintro a w5 ⟨x3, v4, h, S⟩; rw [hj2] at h; clear hj2 j2
            refine then_n ?_
            refine f_region ?_
            refine lv S (rn_move (S.tm rfl)) rfl ?_; clear S; intro a S
            refine lv S (rn_add (S.tm rfl) rfl) rfl ?_; clear S; intro a S
            refine lv S (rn_assign (S.tm rfl)) rfl ?_; clear S; intro a S
            refine l_done ?_
            replace S := S.nf (L' := [.own v4 31 2 x3.length (x3.flatMap GWindow.enc)]) (K' := [(2, .int .i64 p_least), (8, u1), (10, v4), (11, .int .i64 (W (x2 + 1)))]) [true] rfl ⟨rfl, rfl, rfl, rfl, trivial⟩
            refine then_n ?_
            exact ⟨m1, ⟨x3, W (x2 + 1), v4, h, S.nf [true] rfl ⟨rfl, rfl, rfl, rfl, trivial⟩⟩, Nat.lt_succ_self _⟩
          · replace h := iteF h hb3
            refine wp_exit ?_
            refine then_x ?_
            refine then_x ?_
            refine x_same ?_
            refine then_n ?_
            exact ⟨x1, v3, h, S.nf [true] rfl ⟨rfl, trivial⟩⟩
      clear S h; rintro a w4 ⟨x1, v3, h, S⟩; rw [hj1] at h; clear hj1 j1
      refine then_n ?_
      refine f_seq ?_
      refine f_region ?_
      refine lv S (rn_move (S.tm rfl)) rfl ?_; clear S; intro a S
      refine lv S (rn_assign (S.tm rfl)) rfl ?_; clear S; intro a S
      refine lv S (rn_assign rfl) rfl ?_; clear S; intro a S
      refine l_done ?_
      replace S := S.nf (L' := [.own v3 31 2 x1.length (x1.flatMap GWindow.enc)]) (K' := [(6, v3), (7, .int .i64 0)]) [true] rfl ⟨rfl, rfl, trivial⟩
      refine then_n ?_
      refine wp_ret ?_
      obtain rfl := Option.some.inj h
      exact f_ret2 S Tryd.results10 rfl rfl ⟨_, rfl, (own_retT S (i := 0) rfl rfl)⟩
theorem tumbref2_in_ok (w : World) (p_n : Int) (p_low : Int) (p_high : Int) (r : Bool) (h : tumbref2_in p_n p_low p_high = r) :
    Calls Tryd.prog 35 [.int .i64 p_n, .int .i64 p_low, .int .i64 p_high].toArray w (Ret w [] fun τ v w' => v = .bool r) := by
  refine f_enter [] [] Tryd.func35 rfl Tryd.ntmps35 rfl (by simp) (by simp [fps]) (by simp [fps]) fun a S => ?_
  unfold tumbref2_in at h
  replace S := S.nf (L' := []) (K' := [(0, .int .i64 p_n), (1, .int .i64 p_low), (2, .int .i64 p_high)]) [] rfl ⟨rfl, rfl, rfl, trivial⟩
  refine f_seq ?_
  refine f_region ?_
  refine lv S (rn_assign rfl) rfl ?_; clear S; intro a S
  refine l_done ?_
  replace S := S.nf (L' := []) (K' := [(0, .int .i64 p_n), (1, .int .i64 p_low), (2, .int .i64 p_high)]) [] rfl ⟨rfl, rfl, rfl, trivial⟩
  refine then_n ?_
  refine f_seq ?_
  refine f_region ?_
  refine lv S (rn_move (S.tm rfl)) rfl ?_; clear S; intro a S
  refine lv S (rn_move (S.tm rfl)) rfl ?_; clear S; intro a S
  refine lv S (rn_leq (S.tm rfl) (S.tm rfl)) rfl ?_; clear S; intro a S
  refine lv S (rn_move (S.tm rfl)) rfl ?_; clear S; intro a S
  refine f_cutm 4 (fun a w' => Keep [] w w' ∧ Sx w [] nov [] [(14, .bool ((decide (p_low ≤ p_n)) && (decide (p_n ≤ p_high))))] 15 a w') ?_ ?_
  · rcases Bool.eq_false_or_eq_true (decide (p_low ≤ p_n)) with hb1 | hb1
    · refine l_want S rfl rfl rfl hb1 ?_
      refine lv S (rn_move (S.tm rfl)) rfl ?_; clear S; intro a S
      refine l_want S rfl rfl rfl hb1 ?_
      refine lv S (rn_move (S.tm rfl)) rfl ?_; clear S; intro a S
      refine l_want S rfl rfl rfl hb1 ?_
      refine lv S (rn_leq (S.tm rfl) (S.tm rfl)) rfl ?_; clear S; intro a S
      refine lv S (rn_and_t hb1 (S.tm rfl) (S.tm rfl)) rfl ?_; clear S; intro a S
      refine l_done ?_
      refine then_n ?_
      exact ⟨Keep.refl _ _, S.nf [] rfl ⟨rfl, trivial⟩⟩
    · refine l_skip S rfl rfl rfl (by rw [hb1]; rfl) rfl ?_ rfl; clear S; intro a S
      refine l_skip S rfl rfl rfl (by rw [hb1]; rfl) rfl ?_ rfl; clear S; intro a S
      refine l_skip S rfl rfl rfl (by rw [hb1]; rfl) rfl ?_ rfl; clear S; intro a S
      refine lv S (rn_and_f (decide (p_n ≤ p_high)) hb1 (S.tm rfl) rfl) rfl ?_; clear S; intro a S
      refine l_done ?_
      refine then_n ?_
      exact ⟨Keep.refl _ _, S.nf [] rfl ⟨rfl, trivial⟩⟩
  clear S; rintro a w1 ⟨hk1, S⟩
  refine lv S (rn_assign (S.tm rfl)) rfl ?_; clear S; intro a S
  refine l_done ?_
  replace S := S.nf (L' := []) (K' := [(6, .bool ((decide (p_low ≤ p_n)) && (decide (p_n ≤ p_high))))]) [] rfl ⟨rfl, trivial⟩
  refine then_n ?_
  refine wp_ret ?_
  subst h
  exact f_ret S Tryd.results35 rfl rfl
theorem strings_IndexByte_ok (w : World) (s : ByteArray) (c : Int) (r : Int) (h : strings_IndexByte s c = r) : Calls Tryd.prog 45 [.string s, .int .u8 c].toArray w (Ret w [] fun _ v _ => v = .int .i64 r) := by
  subst h
  exact ret_of_same (Any.strings_IndexByte Tryd.lays137 s c w)
theorem tumbref2_only_ok (w : World) (p_s : ByteArray) (p_some : ByteArray) (r : Bool) (h : tumbref2_only p_s p_some = some r) :
    Calls Tryd.prog 41 [.string p_s, .string p_some].toArray w (Ret w [] fun τ v w' => v = .bool r) := by
  refine f_enter [] [] Tryd.func41 rfl Tryd.ntmps41 rfl (by simp) (by simp [fps]) (by simp [fps]) fun a S => ?_
  unfold tumbref2_only at h
  replace S := S.nf (L' := []) (K' := [(0, .string p_s), (1, .string p_some)]) [] rfl ⟨rfl, rfl, trivial⟩
  refine f_seq ?_
  refine f_region ?_
  refine lv S (rn_assign rfl) rfl ?_; clear S; intro a S
  refine l_done ?_
  replace S := S.nf (L' := []) (K' := [(0, .string p_s), (1, .string p_some)]) [] rfl ⟨rfl, rfl, trivial⟩
  refine then_n ?_
  refine f_seq ?_
  refine f_seq ?_
  refine f_region ?_
  refine lv S (rn_move (S.tm rfl)) rfl ?_; clear S; intro a S
  refine lv S (rn_len_str Tryd.underlying9 (S.tm rfl)) rfl ?_; clear S; intro a S
  refine lv S (rn_move rfl) rfl ?_; clear S; intro a S
  refine l_done ?_
  replace S := S.nf (L' := []) (K' := [(0, .string p_s), (1, .string p_some), (7, .int .i64 (p_s.size : Int)), (8, .int .i64 0)]) [] rfl ⟨rfl, rfl, rfl, rfl, trivial⟩
  refine then_n ?_
  obtain ⟨j1, hj1, h⟩ := joinE h
  refine f_join (fun a w' => j1 = some r ∧ Sx w [] nov [] [] 18 a w') ?_ ?_
  · refine wp_block ?_
    refine f_loop (fun (m1 : Nat) a w' => ∃ x1 : Int, tumbref2_only_l1 p_s p_some j1 m1 x1 = some r ∧ Sx w [] nov [] [(0, .string p_s), (1, .string p_some), (7, .int .i64 (p_s.size : Int)), (8, .int .i64 x1)] 18 a w') id (((p_s.size : Int) - 0).toNat + 2) ⟨0, h, S.nf [] rfl ⟨rfl, rfl, rfl, rfl, trivial⟩⟩ ?_
    clear S h; rintro m1 a w1 ⟨x1, h, S⟩
    cases m1 with
    | zero => rw [tumbref2_only_l1.eq_1] at h; cases h
    | succ m1 =>
      rw [tumbref2_only_l1.eq_2] at h
      refine f_seq ?_
      refine f_region ?_
      refine lv S (rn_lss (S.tm rfl) (S.tm rfl)) rfl ?_; clear S; intro a S
      refine l_done ?_
      replace S := S.nf (L' := []) (K' := [(0, .string p_s), (1, .string p_some), (7, .int .i64 (p_s.size : Int)), (8, .int .i64 x1), (9, .bool (decide (x1 < (p_s.size : Int))))]) [] rfl ⟨rfl, rfl, rfl, rfl, rfl, trivial⟩
      refine then_n ?_
      refine f_seq ?_
      refine f_cond (S.tm rfl) (fun hb1 => ?_) (fun hb1 => ?_)
      · replace h := iteT h hb1
        refine wp_skip ?_
        refine then_n ?_
        refine f_seq ?_
        refine wp_block ?_
        refine f_seq ?_
        refine f_region ?_
        refine lv S (rn_move (S.tm rfl)) rfl ?_; clear S; intro a S
        refine lv S (rn_assign (S.tm rfl)) rfl ?_; clear S; intro a S
        refine l_done ?_
        replace S := S.nf (L' := []) (K' := [(0, .string p_s), (1, .string p_some), (5, .int .i64 x1), (7, .int .i64 (p_s.size : Int)), (8, .int .i64 x1)]) [] rfl ⟨rfl, rfl, rfl, rfl, rfl, trivial⟩
        refine then_n ?_
        refine f_seq ?_
        refine f_region ?_
        refine lv S (rn_move (S.tm rfl)) rfl ?_; clear S; intro a S
        refine lv S (rn_move (S.tm rfl)) rfl ?_; clear S; intro a S
        refine lv S (rn_move (S.tm rfl)) rfl ?_; clear S; intro a S
        obtain ⟨hc1, h⟩ := chkE h
        refine lv S (rn_sindexT Tryd.underlying9 (S.tm rfl) (S.tm rfl) hc1) rfl ?_; clear S; intro a S
        refine l_enter S (fun _ => run_call (vs := [.string p_some, .int .u8 (sbyte p_s x1)]) ⟨(S.tm rfl), (S.tm rfl), trivial⟩ Tryd.call45) (strings_IndexByte_ok _ p_some (sbyte p_s x1) _ rfl) rfl ?_; clear S; intro v1 a w3 hv1 hk1 hn1 S
        subst hv1
        refine lv S (rn_lss (S.tm rfl) rfl) rfl ?_; clear S; intro a S
        refine l_done ?_
        replace S := S.nf (L' := []) (K' := [(0, .string p_s), (1, .string p_some), (7, .int .i64 (p_s.size : Int)), (8, .int .i64 x1), (16, .bool (decide ((strings_IndexByte p_some (sbyte p_s x1)) < 0)))]) [] rfl ⟨rfl, rfl, rfl, rfl, rfl, trivial⟩
        refine then_n ?_
        refine f_cond (S.tm rfl) (fun hb2 => ?_) (fun hb2 => ?_)
        · replace h := iteT h hb2
          refine f_seq ?_
          refine f_region ?_
          refine lv S (rn_assign rfl) rfl ?_; clear S; intro a S
          refine l_done ?_
          replace S := S.nf (L' := []) (K' := [(4, .bool false)]) [] rfl ⟨rfl, trivial⟩
          refine then_n ?_
          refine wp_ret ?_
          refine blk_r ?_
          refine then_r ?_
          refine then_r ?_
          refine blk_r ?_
          refine then_r ?_
          refine then_r ?_
          obtain rfl := Option.some.inj h
          exact f_ret S Tryd.results41 rfl rfl
        · replace h := iteF h hb2
          refine wp_skip ?_
          refine blk_n ?_
          refine then_n ?_
          refine f_region ?_
          refine lv S (rn_add (S.tm rfl) rfl) rfl ?_; clear S; intro a S
          refine lv S (rn_move (S.tm rfl)) rfl ?_; clear S; intro a S
          refine l_done ?_
          replace S := S.nf (L' := []) (K' := [(0, .string p_s), (1, .string p_some), (7, .int .i64 (p_s.size : Int)), (8, .int .i64 (W (x1 + 1)))]) [] rfl ⟨rfl, rfl, rfl, rfl, trivial⟩
          refine then_n ?_
          exact ⟨m1, ⟨W (x1 + 1), h, S.nf [] rfl ⟨rfl, rfl, rfl, rfl, trivial⟩⟩, Nat.lt_succ_self _⟩
      · replace h := iteF h hb1
        refine wp_exit ?_
        refine then_x ?_
        refine then_x ?_
        refine x_same ?_
        refine then_n ?_
        exact ⟨h, S.nf [] rfl trivial⟩
  clear S h; rintro a w2 ⟨h, S⟩; rw [hj1] at h; clear hj1 j1
  refine then_n ?_
  refine f_seq ?_
  refine f_region ?_
  refine lv S (rn_assign rfl) rfl ?_; clear S; intro a S
  refine l_done ?_
  replace S := S.nf (L' := []) (K' := [(4, .bool true)]) [] rfl ⟨rfl, trivial⟩
  refine then_n ?_
  refine wp_ret ?_
  obtain rfl := Option.some.inj h
  exact f_ret S Tryd.results41 rfl rfl
theorem tumbref2_Key_ok (w : World) (p_s : ByteArray) (r : Bool) (h : tumbref2_Key p_s = some r) :
    Calls Tryd.prog 33 [.string p_s].toArray w (Ret w [] fun τ v w' => v = .bool r) := by
  refine f_enter [] [] Tryd.func33 rfl Tryd.ntmps33 rfl (by simp) (by simp [fps]) (by simp [fps]) fun a S => ?_
  unfold tumbref2_Key at h
  replace S := S.nf (L' := []) (K' := [(0, .string p_s)]) [] rfl ⟨rfl, trivial⟩
  refine f_seq ?_
  refine f_region ?_
  refine lv S (rn_assign rfl) rfl ?_; clear S; intro a S
  refine l_done ?_
  replace S := S.nf (L' := []) (K' := [(0, .string p_s)]) [] rfl ⟨rfl, trivial⟩
  refine then_n ?_
  refine f_seq ?_
  refine f_region ?_
  refine lv S (rn_move (S.tm rfl)) rfl ?_; clear S; intro a S
  refine lv S (rn_len_str Tryd.underlying9 (S.tm rfl)) rfl ?_; clear S; intro a S
  refine l_enter S (fun _ => run_call (vs := [.int .i64 (p_s.size : Int), .int .i64 1, .int .i64 40]) ⟨(S.tm rfl), rfl, rfl, trivial⟩ Tryd.call35) (tumbref2_in_ok _ (p_s.size : Int) 1 40 _ rfl) rfl ?_; clear S; intro v1 a w1 hv1 hk1 hn1 S
  subst hv1
  refine lv S (rn_move (S.tm rfl)) rfl ?_; clear S; intro a S
  obtain ⟨j1, hj1, h⟩ := joinE h
  refine f_cutm 4 (fun a w' => ∃ c1, j1 c1 = some r ∧ Keep [] w1 w' ∧ Sx w [] nov [] [(0, .string p_s), (10, .bool c1)] 15 a w') ?_ ?_
  · rcases Bool.eq_false_or_eq_true (tumbref2_in (p_s.size : Int) 1 40) with hb1 | hb1
    · replace h := iteT h hb1
      refine l_want S rfl rfl rfl hb1 ?_
      refine lv S (rn_move (S.tm rfl)) rfl ?_; clear S; intro a S
      refine l_want S rfl rfl rfl hb1 ?_
      obtain ⟨hc1, h⟩ := chkE h
      refine lv S (rn_scutTh Tryd.underlying9 (S.tm rfl) rfl hc1) rfl ?_; clear S; intro a S
      refine l_want S rfl rfl rfl hb1 ?_
      obtain ⟨r1, hr1, h⟩ := bindE h
      refine l_enter S (fun _ => run_call (vs := [.string (scut p_s 0 1), .string k_abcdefghijklmnopqrstuvwx_2]) ⟨(S.tm rfl), rfl, trivial⟩ Tryd.call41) (tumbref2_only_ok _ (scut p_s 0 1) k_abcdefghijklmnopqrstuvwx_2 _ hr1) rfl ?_; clear S; intro v2 a w3 hv2 hk2 hn2 S
      subst hv2
      refine lv S (rn_and_t hb1 (S.tm rfl) (S.tm rfl)) rfl ?_; clear S; intro a S
      refine l_done ?_
      refine then_n ?_
      exact ⟨_, h, hk2, S.nf [] rfl ⟨rfl, rfl, trivial⟩⟩
    · replace h := iteF h hb1
      refine l_skip S rfl rfl rfl (by rw [hb1]; rfl) rfl ?_ rfl; clear S; intro a S
      refine l_skip S rfl rfl rfl (by rw [hb1]; rfl) rfl ?_ rfl; clear S; intro a S
      refine l_skip S rfl rfl rfl (by rw [hb1]; rfl) rfl ?_ rfl; clear S; intro a S
      refine lv S (rn_and_f true hb1 (S.tm rfl) rfl) rfl ?_; clear S; intro a S
      refine l_done ?_
      refine then_n ?_
      exact ⟨_, h, Keep.refl _ _, S.nf [] rfl ⟨rfl, rfl, trivial⟩⟩
  clear S h; rintro a w2 ⟨c1, h, hk3, S⟩; rw [hj1] at h; clear hj1 j1
  refine lv S (rn_move (S.tm rfl)) rfl ?_; clear S; intro a S
  obtain ⟨j2, hj2, h⟩ := joinE h
  refine f_cutm 3 (fun a w' => ∃ c2, j2 c2 = some r ∧ Keep [] w2 w' ∧ Sx w [] nov [] [(14, .bool c2)] 15 a w') ?_ ?_
  · rcases Bool.eq_false_or_eq_true c1 with hb2 | hb2
    · replace h := iteT h hb2
      refine l_want S rfl rfl rfl hb2 ?_
      refine lv S (rn_move (S.tm rfl)) rfl ?_; clear S; intro a S
      refine l_want S rfl rfl rfl hb2 ?_
      obtain ⟨r2, hr2, h⟩ := bindE h
      refine l_enter S (fun _ => run_call (vs := [.string p_s, .string k_abcdefghijklmnopqrstuvwx]) ⟨(S.tm rfl), rfl, trivial⟩ Tryd.call41) (tumbref2_only_ok _ p_s k_abcdefghijklmnopqrstuvwx _ hr2) rfl ?_; clear S; intro v3 a w5 hv3 hk4 hn3 S
      subst hv3
      refine lv S (rn_and_t hb2 (S.tm rfl) (S.tm rfl)) rfl ?_; clear S; intro a S
      refine l_done ?_
      refine then_n ?_
      exact ⟨_, h, hk4, S.nf [] rfl ⟨rfl, trivial⟩⟩
    · replace h := iteF h hb2
      refine l_skip S rfl rfl rfl (by rw [hb2]; rfl) rfl ?_ rfl; clear S; intro a S
      refine l_skip S rfl rfl rfl (by rw [hb2]; rfl) rfl ?_ rfl; clear S; intro a S
      refine lv S (rn_and_f true hb2 (S.tm rfl) rfl) rfl ?_; clear S; intro a S
      refine l_done ?_
      refine then_n ?_
      exact ⟨_, h, Keep.refl _ _, S.nf [] rfl ⟨rfl, trivial⟩⟩
  clear S h; rintro a w4 ⟨c2, h, hk5, S⟩; rw [hj2] at h; clear hj2 j2
  refine lv S (rn_assign (S.tm rfl)) rfl ?_; clear S; intro a S
  refine l_done ?_
  replace S := S.nf (L' := []) (K' := [(2, .bool c2)]) [] rfl ⟨rfl, trivial⟩
  refine then_n ?_
  refine wp_ret ?_
  obtain rfl := Option.some.inj h
  exact f_ret S Tryd.results33 rfl rfl
theorem tumbref2_ItemAt_c1_ok (w : World) (p_x : GItem) (b_p_a1 : Nat) (p_a1 : ByteArray) (hb_b_p_a1 : view w [] b_p_a1 = some (.cells [.string p_a1].toArray 9 (0, 0))) (r : Bool) (h : tumbref2_ItemAt_c1 p_x p_a1 = r) :
    Calls Tryd.prog 43 [.agg (GItem.enc p_x).toArray, .pointer (some ⟨b_p_a1, 0, none⟩)].toArray w (Ret w [] fun τ v w' => v = .bool r) := by
  refine f_enter [] [] Tryd.func43 rfl Tryd.ntmps43 rfl (by simp) (by simp [fps]) (by simp [fps]) fun a S => ?_
  unfold tumbref2_ItemAt_c1 at h
  replace S := S.nf (L' := []) (K' := [(0, .agg (GItem.enc p_x).toArray), (1, .pointer (some ⟨b_p_a1, 0, none⟩))]) [] rfl ⟨rfl, rfl, trivial⟩
  refine f_seq ?_
  refine f_region ?_
  refine l_box S (S.tm rfl) (cs := [.string p_x.Key, .int .i64 p_x.Heats, .int .i64 p_x.Long, .int .i64 p_x.Gap, .int .i64 p_x.Break]) rfl rfl ?_; clear S; intro a w1 b1 hz1 hk1 S
  refine lv S (rn_assign rfl) rfl ?_; clear S; intro a S
  refine l_done ?_
  replace S := S.nf (L' := [.blk b1 [.string p_x.Key, .int .i64 p_x.Heats, .int .i64 p_x.Long, .int .i64 p_x.Gap, .int .i64 p_x.Break] 60]) (K' := [(1, .pointer (some ⟨b_p_a1, 0, none⟩)), (2, .pointer (some ⟨b1, 0, none⟩))]) [true] rfl ⟨rfl, rfl, trivial⟩
  refine then_n ?_
  refine f_seq ?_
  refine f_region ?_
  refine lv S (rn_fld fa_60_0 (S.tm rfl)) rfl ?_; clear S; intro a S
  refine lv S (rn_load Tryd.isAgg9 (S.tm rfl) (S.cell (i := 0) rfl rfl)) rfl ?_; clear S; intro a S
  refine lv S (rn_ld Tryd.isAgg9 (off := 0) (o := 0) (S.tm rfl) ((mem_blk hb_b_p_a1).at S.emb0) rfl) rfl ?_; clear S; intro a S
  refine lv S (rn_seql (S.tm rfl) (S.tm rfl)) rfl ?_; clear S; intro a S
  refine lv S (rn_assign (S.tm rfl)) rfl ?_; clear S; intro a S
  refine l_done ?_
  replace S := S.nf (L' := []) (K' := [(3, .bool (decide (p_x.Key = p_a1)))]) [false] rfl ⟨rfl, trivial⟩
  refine then_n ?_
  refine wp_ret ?_
  subst h
  exact f_ret S Tryd.results43 rfl rfl
theorem slices_IndexFunc_Item_tumbref2_ItemAt_c1_ok (w : World) (v_p_s : Value) (p_s : List GItem) (hs_p_s : Slc (view w []) 5 v_p_s (p_s.map GItem.enc)) (b_p_f_0 : Nat) (p_f_0 : ByteArray) (hb_b_p_f_0 : view w [] b_p_f_0 = some (.cells [.string p_f_0].toArray 9 (0, 0))) (r : Int) (h : slices_IndexFunc_Item_tumbref2_ItemAt_c1 p_s p_f_0 = r) :
    Calls Tryd.prog 42 [v_p_s, .func (.func 43) #[] #[.pointer (some ⟨b_p_f_0, 0, none⟩)]].toArray w (Ret w [] fun τ v w' => v = .int .i64 r) := by
  refine f_enter [] [] Tryd.func42 rfl Tryd.ntmps42 rfl (by simp) (by simp [fps]) (by simp [fps]) fun a S => ?_
  unfold slices_IndexFunc_Item_tumbref2_ItemAt_c1 at h
  replace S := S.nf (L' := []) (K' := [(0, v_p_s), (1, .func (.func 43) #[] #[.pointer (some ⟨b_p_f_0, 0, none⟩)])]) [] rfl ⟨rfl, rfl, trivial⟩
  refine f_seq ?_
  refine f_region ?_
  refine lv S (rn_assign rfl) rfl ?_; clear S; intro a S
  refine l_done ?_
  replace S := S.nf (L' := []) (K' := [(0, v_p_s), (1, .func (.func 43) #[] #[.pointer (some ⟨b_p_f_0, 0, none⟩)])]) [] rfl ⟨rfl, rfl, trivial⟩
  refine then_n ?_
  refine f_seq ?_
  refine f_seq ?_
  refine f_region ?_
  refine lv S (rn_move (S.tm rfl)) rfl ?_; clear S; intro a S
  refine lv S (rn_lenT sl_26 (S.tm rfl) (slc_len hs_p_s)) rfl ?_; clear S; intro a S
  refine lv S (rn_move rfl) rfl ?_; clear S; intro a S
  refine l_done ?_
  replace S := S.nf (L' := []) (K' := [(0, v_p_s), (1, .func (.func 43) #[] #[.pointer (some ⟨b_p_f_0, 0, none⟩)]), (7, .int .i64 (p_s.length : Int)), (8, .int .i64 0)]) [] rfl ⟨rfl, rfl, rfl, rfl, trivial⟩
  refine then_n ?_
  obtain ⟨j1, hj1, h⟩ := joinE h
  refine f_join (fun a w' => j1 = r ∧ Sx w [] nov [] [] 19 a w') ?_ ?_
  · refine wp_block ?_
    refine f_loop (fun (ys1 : List GItem) a w' => ∃ i1 : Nat, (∃ dn, p_s = dn ++ ys1 ∧ dn.length = i1) ∧ slices_IndexFunc_Item_tumbref2_ItemAt_c1_l1 p_f_0 j1 ys1 i1 = r ∧ Sx w [] nov [] [(0, v_p_s), (1, .func (.func 43) #[] #[.pointer (some ⟨b_p_f_0, 0, none⟩)]), (7, .int .i64 (p_s.length : Int)), (8, .int .i64 (i1 : Int))] 19 a w') List.length p_s ⟨0, ⟨[], rfl, rfl⟩, h, S.nf [] rfl ⟨rfl, rfl, rfl, rfl, trivial⟩⟩ ?_
    clear S h; rintro ys1 a w1 ⟨i1, ⟨dn, hd1, hi1⟩, h, S⟩
    cases ys1 with
    | nil =>
      rw [slices_IndexFunc_Item_tumbref2_ItemAt_c1_l1.eq_1] at h
      refine f_seq ?_
      refine f_region ?_
      refine lv S (rn_lss (S.tm rfl) (S.tm rfl)) rfl ?_; clear S; intro a S
      refine l_done ?_
      replace S := S.nf (L' := []) (K' := [(0, v_p_s), (1, .func (.func 43) #[] #[.pointer (some ⟨b_p_f_0, 0, none⟩)]), (7, .int .i64 (p_s.length : Int)), (8, .int .i64 (i1 : Int)), (9, .bool (decide ((i1 : Int) < (p_s.length : Int))))]) [] rfl ⟨rfl, rfl, rfl, rfl, rfl, trivial⟩
      refine then_n ?_
      refine f_seq ?_
      refine wp_cond_false ((S.tm rfl).trans (congrArg Value.bool (rng_nil hd1 hi1))) ?_
      refine wp_exit ?_
      refine then_x ?_
      refine then_x ?_
      refine x_same ?_
      refine then_n ?_
      exact ⟨h, S.nf [] rfl trivial⟩
    | cons y1 ys1 =>
      rw [slices_IndexFunc_Item_tumbref2_ItemAt_c1_l1.eq_2] at h
      refine f_seq ?_
      refine f_region ?_
      refine lv S (rn_lss (S.tm rfl) (S.tm rfl)) rfl ?_; clear S; intro a S
      refine l_done ?_
      replace S := S.nf (L' := []) (K' := [(0, v_p_s), (1, .func (.func 43) #[] #[.pointer (some ⟨b_p_f_0, 0, none⟩)]), (7, .int .i64 (p_s.length : Int)), (8, .int .i64 (i1 : Int)), (9, .bool (decide ((i1 : Int) < (p_s.length : Int))))]) [] rfl ⟨rfl, rfl, rfl, rfl, rfl, trivial⟩
      refine then_n ?_
      refine f_seq ?_
      refine wp_cond_true ((S.tm rfl).trans (congrArg Value.bool (rng_cons hd1 hi1))) ?_
      refine wp_skip ?_
      refine then_n ?_
      refine f_seq ?_
      refine wp_block ?_
      refine f_seq ?_
      refine f_region ?_
      refine lv S (rn_move (S.tm rfl)) rfl ?_; clear S; intro a S
      refine lv S (rn_assign (S.tm rfl)) rfl ?_; clear S; intro a S
      refine l_done ?_
      replace S := S.nf (L' := []) (K' := [(0, v_p_s), (1, .func (.func 43) #[] #[.pointer (some ⟨b_p_f_0, 0, none⟩)]), (5, .int .i64 (i1 : Int)), (7, .int .i64 (p_s.length : Int)), (8, .int .i64 (i1 : Int))]) [] rfl ⟨rfl, rfl, rfl, rfl, rfl, trivial⟩
      refine then_n ?_
      refine f_seq ?_
      refine f_region ?_
      refine lv S (rn_move (S.tm rfl)) rfl ?_; clear S; intro a S
      refine lv S (rn_move (S.tm rfl)) rfl ?_; clear S; intro a S
      refine lv S (rn_move (S.tm rfl)) rfl ?_; clear S; intro a S
      obtain ⟨b1, o1, hm1, hr1⟩ := rn_indexT (a := a) (x := .tmp 12) (y := .tmp 13) (ty := 0) sl_26 hs_p_s (get_mid hd1 hi1) rfl (S.tm rfl) (S.tm rfl)
      refine lv S (hr1 _) rfl ?_; clear S; intro a S
      clear hr1
      refine lv S (rn_ldA Tryd.isAgg60 Tryd.sizeOf60 (off := o1) (o := 0) (part := [.string y1.Key, .int .i64 y1.Heats, .int .i64 y1.Long, .int .i64 y1.Gap, .int .i64 y1.Break]) rfl rfl (S.tm rfl) (hm1.at S.emb0)) rfl ?_; clear S; intro a S
      refine l_enter S (fun _ => run_callV (cap := [.pointer (some ⟨b_p_f_0, 0, none⟩)]) (S.tm rfl) (vs := [.agg (GItem.enc y1).toArray]) ⟨(S.tm rfl), trivial⟩ Tryd.call43) (tumbref2_ItemAt_c1_ok _ y1 b_p_f_0 p_f_0 (S.le_arg nil_sub _ _ hb_b_p_f_0) _ rfl) rfl ?_; clear S; intro v1 a w3 hv1 hk1 hn1 S
      subst hv1
      refine l_done ?_
      replace S := S.nf (L' := []) (K' := [(0, v_p_s), (1, .func (.func 43) #[] #[.pointer (some ⟨b_p_f_0, 0, none⟩)]), (5, .int .i64 (i1 : Int)), (7, .int .i64 (p_s.length : Int)), (8, .int .i64 (i1 : Int)), (16, .bool (tumbref2_ItemAt_c1 y1 p_f_0))]) [] rfl ⟨rfl, rfl, rfl, rfl, rfl, rfl, trivial⟩
      refine then_n ?_
      refine f_cond (S.tm rfl) (fun hb1 => ?_) (fun hb1 => ?_)
      · replace h := iteT h hb1
        refine f_seq ?_
        refine f_region ?_
        refine lv S (rn_move (S.tm rfl)) rfl ?_; clear S; intro a S
        refine lv S (rn_assign (S.tm rfl)) rfl ?_; clear S; intro a S
        refine l_done ?_
        replace S := S.nf (L' := []) (K' := [(4, .int .i64 (i1 : Int))]) [] rfl ⟨rfl, trivial⟩
        refine then_n ?_
        refine wp_ret ?_
        refine blk_r ?_
        refine then_r ?_
        refine then_r ?_
        refine blk_r ?_
        refine then_r ?_
        refine then_r ?_
        subst h
        exact f_ret S Tryd.results42 rfl rfl
      · replace h := iteF h hb1
        refine wp_skip ?_
        refine blk_n ?_
        refine then_n ?_
        refine f_region ?_
        refine lv S (rn_add (S.tm rfl) rfl) rfl ?_; clear S; intro a S
        refine lv S (rn_move (S.tm rfl)) rfl ?_; clear S; intro a S
        refine l_done ?_
        replace S := S.nf (L' := []) (K' := [(0, v_p_s), (1, .func (.func 43) #[] #[.pointer (some ⟨b_p_f_0, 0, none⟩)]), (7, .int .i64 (p_s.length : Int)), (8, .int .i64 (W ((i1 : Int) + 1)))]) [] rfl ⟨rfl, rfl, rfl, rfl, trivial⟩
        refine then_n ?_
        exact ⟨ys1, ⟨i1 + 1, ⟨_, (hd1).trans (List.append_cons _ _ _), by simp [hi1]⟩, h, S.nf [] rfl ⟨rfl, rfl, rfl, (congrArg (fun z => some (Value.int .i64 z)) (rng_next hd1 hi1 (slc_max hs_p_s))), trivial⟩⟩, Nat.lt_succ_self _⟩
  clear S h; rintro a w2 ⟨h, S⟩; rw [hj1] at h; clear hj1 j1
  refine then_n ?_
  refine f_seq ?_
  refine f_region ?_
  refine lv S (rn_assign rfl) rfl ?_; clear S; intro a S
  refine l_done ?_
  replace S := S.nf (L' := []) (K' := [(4, .int .i64 (-1))]) [] rfl ⟨rfl, trivial⟩
  refine then_n ?_
  refine wp_ret ?_
  subst h
  exact f_ret S Tryd.results42 rfl rfl
theorem tumbref2_ItemAt_ok (w : World) (v_p_l : Value) (p_l : List GItem) (hs_p_l : Slc (view w []) 5 v_p_l (p_l.map GItem.enc)) (p_key : ByteArray) (r : Int) (h : tumbref2_ItemAt p_l p_key = r) :
    Calls Tryd.prog 34 [v_p_l, .string p_key].toArray w (Ret w [] fun τ v w' => v = .int .i64 r) := by
  refine f_enter [] [] Tryd.func34 rfl Tryd.ntmps34 rfl (by simp) (by simp [fps]) (by simp [fps]) fun a S => ?_
  unfold tumbref2_ItemAt at h
  replace S := S.nf (L' := []) (K' := [(0, v_p_l), (1, .string p_key)]) [] rfl ⟨rfl, rfl, trivial⟩
  refine f_seq ?_
  refine f_region ?_
  refine l_box S (S.tm rfl) (cs := [.string p_key]) rfl rfl ?_; clear S; intro a w1 b1 hz1 hk1 S
  refine lv S (rn_assign rfl) rfl ?_; clear S; intro a S
  refine l_done ?_
  replace S := S.nf (L' := [.blk b1 [.string p_key] 9]) (K' := [(0, v_p_l), (3, .pointer (some ⟨b1, 0, none⟩))]) [true] rfl ⟨rfl, rfl, trivial⟩
  refine then_n ?_
  refine f_seq ?_
  refine f_region ?_
  refine lv S (rn_move (S.tm rfl)) rfl ?_; clear S; intro a S
  refine lv S (rn_makeFunc (us := #[]) (xs := [].toArray) (ys := [.tmp 3].toArray) (by simp) (evA ⟨(S.tm rfl), trivial⟩ (vs := [.pointer (some ⟨b1, 0, none⟩)]))) rfl ?_; clear S; intro a S
  refine l_enter S (fun _ => run_call (vs := [v_p_l, .func (.func 43) #[] #[.pointer (some ⟨b1, 0, none⟩)]]) ⟨(S.tm rfl), (S.tm rfl), trivial⟩ Tryd.call42) (slices_IndexFunc_Item_tumbref2_ItemAt_c1_ok _ v_p_l p_l (hs_p_l.mono (S.le_arg nil_sub)) b1 p_key (S.blk_view (i := 0) rfl ((ne_nil (e' := .blk b1 [.string p_key] 9)) _ rfl)) _ rfl) rfl ?_; clear S; intro v1 a w2 hv1 hk2 hn1 S
  subst hv1
  refine lv S (rn_assign (S.tm rfl)) rfl ?_; clear S; intro a S
  refine l_done ?_
  replace S := S.nf (L' := []) (K' := [(4, .int .i64 (slices_IndexFunc_Item_tumbref2_ItemAt_c1 p_l p_key))]) [false] rfl ⟨rfl, trivial⟩
  refine then_n ?_
  refine wp_ret ?_
  subst h
  exact f_ret S Tryd.results34 rfl rfl
theorem tumbref2_ItemsFault_ok (w : World) (v_p_l : Value) (p_l : List GItem) (hs_p_l : Slc (view w []) 5 v_p_l (p_l.map GItem.enc)) (r : Int) (h : tumbref2_ItemsFault p_l = some r) :
    Calls Tryd.prog 11 [v_p_l].toArray w (Ret w [] fun τ v w' => v = .int .i64 r) := by
  refine f_enter [] [] Tryd.func11 rfl Tryd.ntmps11 rfl (by simp) (by simp [fps]) (by simp [fps]) fun a S => ?_
  unfold tumbref2_ItemsFault at h
  replace S := S.nf (L' := []) (K' := [(0, v_p_l)]) [] rfl ⟨rfl, trivial⟩
  refine f_seq ?_
  refine f_region ?_
  refine lv S (rn_assign rfl) rfl ?_; clear S; intro a S
  refine l_done ?_
  replace S := S.nf (L' := []) (K' := [(0, v_p_l)]) [] rfl ⟨rfl, trivial⟩
  refine then_n ?_
  refine f_seq ?_
  refine f_seq ?_
  refine f_region ?_
  refine lv S (rn_move (S.tm rfl)) rfl ?_; clear S; intro a S
  refine lv S (rn_lenT sl_26 (S.tm rfl) (slc_len hs_p_l)) rfl ?_; clear S; intro a S
  refine lv S (rn_gtr (S.tm rfl) rfl) rfl ?_; clear S; intro a S
  refine l_done ?_
  replace S := S.nf (L' := []) (K' := [(0, v_p_l), (7, .bool (decide (100 < (p_l.length : Int))))]) [] rfl ⟨rfl, rfl, trivial⟩
  refine then_n ?_
  refine f_cond (S.tm rfl) (fun hb1 => ?_) (fun hb1 => ?_)
  · replace h := iteT h hb1
    refine f_seq ?_
    refine f_region ?_
    refine lv S (rn_assign rfl) rfl ?_; clear S; intro a S
    refine l_done ?_
    replace S := S.nf (L' := []) (K' := [(2, .int .i64 2)]) [] rfl ⟨rfl, trivial⟩
    refine then_n ?_
    refine wp_ret ?_
    refine then_r ?_
    obtain rfl := Option.some.inj h
    exact f_ret S Tryd.results11 rfl rfl
  · replace h := iteF h hb1
    refine wp_skip ?_
    refine then_n ?_
    refine f_seq ?_
    refine f_seq ?_
    refine f_region ?_
    refine lv S (rn_move (S.tm rfl)) rfl ?_; clear S; intro a S
    refine lv S (rn_lenT sl_26 (S.tm rfl) (slc_len hs_p_l)) rfl ?_; clear S; intro a S
    refine lv S (rn_move rfl) rfl ?_; clear S; intro a S
    refine l_done ?_
    replace S := S.nf (L' := []) (K' := [(0, v_p_l), (8, v_p_l), (9, .int .i64 (p_l.length : Int)), (10, .int .i64 0)]) [] rfl ⟨rfl, rfl, rfl, rfl, trivial⟩
    refine then_n ?_
    obtain ⟨j1, hj1, h⟩ := joinE h
    refine f_join (fun a w' => j1 = some r ∧ Sx w [] nov [] [] 52 a w') ?_ ?_
    · refine wp_block ?_
      refine f_loop (fun (ys1 : List GItem) a w' => ∃ i1 : Nat, (∃ dn, p_l = dn ++ ys1 ∧ dn.length = i1) ∧ tumbref2_ItemsFault_l1 p_l j1 ys1 i1 = some r ∧ Sx w [] nov [] [(0, v_p_l), (8, v_p_l), (9, .int .i64 (p_l.length : Int)), (10, .int .i64 (i1 : Int))] 52 a w') List.length p_l ⟨0, ⟨[], rfl, rfl⟩, h, S.nf [] rfl ⟨rfl, rfl, rfl, rfl, trivial⟩⟩ ?_
      clear S h; rintro ys1 a w1 ⟨i1, ⟨dn, hd1, hi1⟩, h, S⟩
      cases ys1 with
      | nil =>
        rw [tumbref2_ItemsFault_l1.eq_1] at h
        refine f_seq ?_
        refine f_region ?_
        refine lv S (rn_lss (S.tm rfl) (S.tm rfl)) rfl ?_; clear S; intro a S
        refine l_done ?_
        replace S := S.nf (L' := []) (K' := [(0, v_p_l), (8, v_p_l), (9, .int .i64 (p_l.length : Int)), (10, .int .i64 (i1 : Int)), (11, .bool (decide ((i1 : Int) < (p_l.length : Int))))]) [] rfl ⟨rfl, rfl, rfl, rfl, rfl, trivial⟩
        refine then_n ?_
        refine f_seq ?_
        refine wp_cond_false ((S.tm rfl).trans (congrArg Value.bool (rng_nil hd1 hi1))) ?_
        refine wp_exit ?_
        refine then_x ?_
        refine then_x ?_
        refine x_same ?_
        refine then_n ?_
        exact ⟨h, S.nf [] rfl trivial⟩
      | cons y1 ys1 =>
        rw [tumbref2_ItemsFault_l1.eq_2] at h
        refine f_seq ?_
        refine f_region ?_
        refine lv S (rn_lss (S.tm rfl) (S.tm rfl)) rfl ?_; clear S; intro a S
        refine l_done ?_
        replace S := S.nf (L' := []) (K' := [(0, v_p_l), (8, v_p_l), (9, .int .i64 (p_l.length : Int)), (10, .int .i64 (i1 : Int)), (11, .bool (decide ((i1 : Int) < (p_l.length : Int))))]) [] rfl ⟨rfl, rfl, rfl, rfl, rfl, trivial⟩
        refine then_n ?_
        refine f_seq ?_
        refine wp_cond_true ((S.tm rfl).trans (congrArg Value.bool (rng_cons hd1 hi1))) ?_
        refine wp_skip ?_
        refine then_n ?_
        refine f_seq ?_
        refine wp_block ?_
        refine f_seq ?_
        refine f_region ?_
        refine lv S (rn_move (S.tm rfl)) rfl ?_; clear S; intro a S
        obtain ⟨b1, o1, hm1, hr1⟩ := rn_indexT (a := a) (x := .tmp 8) (y := .tmp 10) (ty := 0) sl_26 hs_p_l (get_mid hd1 hi1) rfl (S.tm rfl) (S.tm rfl)
        refine lv S (hr1 _) rfl ?_; clear S; intro a S
        clear hr1
        refine lv S (rn_ldA Tryd.isAgg60 Tryd.sizeOf60 (off := o1) (o := 0) (part := [.string y1.Key, .int .i64 y1.Heats, .int .i64 y1.Long, .int .i64 y1.Gap, .int .i64 y1.Break]) rfl rfl (S.tm rfl) (hm1.at S.emb0)) rfl ?_; clear S; intro a S
        refine l_alloc S Tryd.zeroValue60 (cs := [.string k_empty, .int .i64 0, .int .i64 0, .int .i64 0, .int .i64 0]) rfl rfl ?_; clear S; intro a w3 b2 hz1 hk1 S
        refine lv S (rn_assign (S.tm rfl)) rfl ?_; clear S; intro a S
        refine l_store S (S.tm rfl) (S.tm rfl) (i := 0) (off := 0) rfl Tryd.sizeOf60 (vs := [.string y1.Key, .int .i64 y1.Heats, .int .i64 y1.Long, .int .i64 y1.Gap, .int .i64 y1.Break]) rfl rfl rfl rfl ?_; clear S; intro w4 hk2 S
        refine l_done ?_
        replace S := S.nf (L' := [.blk b2 [.string y1.Key, .int .i64 y1.Heats, .int .i64 y1.Long, .int .i64 y1.Gap, .int .i64 y1.Break] 60]) (K' := [(0, v_p_l), (3, .int .i64 (i1 : Int)), (4, .pointer (some ⟨b2, 0, none⟩)), (8, v_p_l), (9, .int .i64 (p_l.length : Int)), (10, .int .i64 (i1 : Int))]) [true] rfl ⟨rfl, rfl, rfl, rfl, rfl, rfl, trivial⟩
        refine then_n ?_
        refine wp_block ?_
        refine f_seq ?_
        refine f_region ?_
        refine lv S (rn_fld fa_60_0 (S.tm rfl)) rfl ?_; clear S; intro a S
        refine lv S (rn_load Tryd.isAgg9 (S.tm rfl) (S.cell (i := 0) rfl rfl)) rfl ?_; clear S; intro a S
        obtain ⟨r1, hr2, h⟩ := bindE h
        refine l_enter S (fun _ => run_call (vs := [.string y1.Key]) ⟨(S.tm rfl), trivial⟩ Tryd.call33) (tumbref2_Key_ok _ y1.Key _ hr2) rfl ?_; clear S; intro v1 a w5 hv1 hk3 hn1 S
        subst hv1
        refine lv S (rn_not (S.tm rfl)) rfl ?_; clear S; intro a S
        refine lv S (rn_assign (S.tm rfl)) rfl ?_; clear S; intro a S
        refine l_done ?_
        replace S := S.nf (L' := [.blk b2 [.string y1.Key, .int .i64 y1.Heats, .int .i64 y1.Long, .int .i64 y1.Gap, .int .i64 y1.Break] 60]) (K' := [(0, v_p_l), (3, .int .i64 (i1 : Int)), (4, .pointer (some ⟨b2, 0, none⟩)), (8, v_p_l), (9, .int .i64 (p_l.length : Int)), (10, .int .i64 (i1 : Int)), (15, .bool (!r1))]) [true] rfl ⟨rfl, rfl, rfl, rfl, rfl, rfl, rfl, trivial⟩
        refine then_n ?_
        refine f_cond (S.tm rfl) (fun hb2 => ?_) (fun hb2 => ?_)
        · replace h := iteT h hb2
          refine f_seq ?_
          refine f_region ?_
          refine lv S (rn_assign rfl) rfl ?_; clear S; intro a S
          refine l_done ?_
          replace S := S.nf (L' := []) (K' := [(2, .int .i64 5)]) [false] rfl ⟨rfl, trivial⟩
          refine then_n ?_
          refine wp_ret ?_
          refine blk_r ?_
          refine blk_r ?_
          refine then_r ?_
          refine then_r ?_
          refine blk_r ?_
          refine then_r ?_
          refine then_r ?_
          obtain rfl := Option.some.inj h
          exact f_ret S Tryd.results11 rfl rfl
        · replace h := iteF h hb2
          refine f_seq ?_
          obtain ⟨hc1, h⟩ := chkE h
          refine d_region ([]) Tryd.mixed S rfl (by kernel_rfl) ?_; clear S; intro w7 hk5 hsel S
          refine d_quiet 0 S hsel rfl (by kernel_rfl) (by kernel_rfl) rfl (fun _ hw => (rn_move (S.tm rfl))) ?_; clear S; intro a S
          refine d_quiet 1 S hsel rfl (by kernel_rfl) (by kernel_rfl) rfl (fun _ hw => (rn_move (S.tm rfl))) ?_; clear S; intro a S
          obtain ⟨v4, hs2, hr4⟩ := rn_cutTh (a := a) (x := .tmp 21) (y' := .tmp 22) (ty := 26) sl_26 hs_p_l (S.tm rfl) (S.tm rfl) hc1
          refine d_quiet 2 S hsel rfl (by kernel_rfl) (by kernel_rfl) rfl (fun _ hw => (hr4 _)) ?_; clear S; intro a S
          clear hr4
          refine d_quiet 3 S hsel rfl (by kernel_rfl) (by kernel_rfl) rfl (fun _ hw => (rn_fld fa_60_0 (S.tm rfl))) ?_; clear S; intro a S
          refine d_quiet 4 S hsel rfl (by kernel_rfl) (by kernel_rfl) rfl (fun _ hw => (rn_ld Tryd.isAgg9 (off := 0) (o := 0) (S.tm rfl) ((S.blk_mem (i := 0) (cells := [.string y1.Key, .int .i64 y1.Heats, .int .i64 y1.Long, .int .i64 y1.Gap, .int .i64 y1.Break]) (b := b2) (T := 60) rfl (ne_nil (e' := .blk b2 [.string y1.Key, .int .i64 y1.Heats, .int .i64 y1.Long, .int .i64 y1.Gap, .int .i64 y1.Break] 60))).kept hw) rfl)) ?_; clear S; intro a S
          refine d_loud1 5 (by kernel_rfl) rfl ?_
          refine l_enter S (fun _ => run_call (vs := [v4, .string y1.Key]) ⟨(S.tm rfl), (S.tm rfl), trivial⟩ Tryd.call34) (tumbref2_ItemAt_ok _ v4 (cut p_l 0 (i1 : Int)) (hs2.mono (S.le_arg nil_sub)) y1.Key _ rfl) rfl ?_; clear S; intro v5 a w8 hv3 hk6 hn3 S
          subst hv3
          refine l_done ?_
          refine d_next hk6 ?_
          refine d_quiet 6 S hsel rfl (by kernel_rfl) (by kernel_rfl) rfl (fun _ hw => (rn_geq (S.tm rfl) rfl)) ?_; clear S; intro a S
          refine d_quiet 7 S hsel rfl (by kernel_rfl) (by kernel_rfl) rfl (fun _ hw => (rn_assign (S.tm rfl))) ?_; clear S; intro a S
          refine d_end (by kernel_rfl) ?_
          clear hsel
          replace S := S.nf (L' := [.blk b2 [.string y1.Key, .int .i64 y1.Heats, .int .i64 y1.Long, .int .i64 y1.Gap, .int .i64 y1.Break] 60]) (K' := [(0, v_p_l), (4, .pointer (some ⟨b2, 0, none⟩)), (8, v_p_l), (9, .int .i64 (p_l.length : Int)), (10, .int .i64 (i1 : Int)), (20, .bool (decide (0 ≤ (tumbref2_ItemAt (cut p_l 0 (i1 : Int)) y1.Key))))]) [true] rfl ⟨rfl, rfl, rfl, rfl, rfl, rfl, trivial⟩
          refine then_n ?_
          refine f_cond (S.tm rfl) (fun hb3 => ?_) (fun hb3 => ?_)
          · replace h := iteT h hb3
            refine f_seq ?_
            refine f_region ?_
            refine lv S (rn_assign rfl) rfl ?_; clear S; intro a S
            refine l_done ?_
            replace S := S.nf (L' := []) (K' := [(2, .int .i64 6)]) [false] rfl ⟨rfl, trivial⟩
            refine then_n ?_
            refine wp_ret ?_
            refine blk_r ?_
            refine blk_r ?_
            refine then_r ?_
            refine then_r ?_
            refine blk_r ?_
            refine then_r ?_
            refine then_r ?_
            obtain rfl := Option.some.inj h
            exact f_ret S Tryd.results11 rfl rfl
          · replace h := iteF h hb3
            refine f_seq ?_
            refine f_region ?_
            refine lv S (rn_fld fa_60_1 (S.tm rfl)) rfl ?_; clear S; intro a S
            refine lv S (rn_load Tryd.isAgg3 (S.tm rfl) (S.cell (i := 0) rfl rfl)) rfl ?_; clear S; intro a S
            refine l_enter S (fun _ => run_call (vs := [.int .i64 y1.Heats, .int .i64 1, .int .i64 60]) ⟨(S.tm rfl), rfl, rfl, trivial⟩ Tryd.call35) (tumbref2_in_ok _ y1.Heats 1 60 _ rfl) rfl ?_; clear S; intro v6 a w9 hv4 hk7 hn4 S
            subst hv4
            refine lv S (rn_not (S.tm rfl)) rfl ?_; clear S; intro a S
            refine lv S (rn_move (S.tm rfl)) rfl ?_; clear S; intro a S
            refine f_cutm 5 (fun a w' => Keep [] w9 w' ∧ Sx w [] nov [.blk b2 [.string y1.Key, .int .i64 y1.Heats, .int .i64 y1.Long, .int .i64 y1.Gap, .int .i64 y1.Break] 60] [(0, v_p_l), (4, .pointer (some ⟨b2, 0, none⟩)), (8, v_p_l), (9, .int .i64 (p_l.length : Int)), (10, .int .i64 (i1 : Int)), (38, .bool ((!(tumbref2_in y1.Heats 1 60)) || (!(tumbref2_in y1.Long 1 3600000))))] 52 a w') ?_ ?_
            · rcases Bool.eq_false_or_eq_true (!(tumbref2_in y1.Heats 1 60)) with hb4 | hb4
              · refine l_skip S rfl rfl rfl (by rw [hb4]; rfl) rfl ?_ rfl; clear S; intro a S
                refine l_skip S rfl rfl rfl (by rw [hb4]; rfl) rfl ?_ rfl; clear S; intro a S
                refine l_skip S rfl rfl rfl (by rw [hb4]; rfl) rfl ?_ rfl; clear S; intro a S
                refine l_skip S rfl rfl rfl (by rw [hb4]; rfl) rfl ?_ rfl; clear S; intro a S
                refine lv S (rn_or_t (!(tumbref2_in y1.Long 1 3600000)) hb4 (S.tm rfl) rfl) rfl ?_; clear S; intro a S
                refine l_done ?_
                refine then_n ?_
                exact ⟨Keep.refl _ _, S.nf [true] rfl ⟨rfl, rfl, rfl, rfl, rfl, rfl, trivial⟩⟩
              · refine l_want S rfl rfl rfl hb4 ?_
                refine lv S (rn_fld fa_60_2 (S.tm rfl)) rfl ?_; clear S; intro a S
                refine l_want S rfl rfl rfl hb4 ?_
                refine lv S (rn_load Tryd.isAgg3 (S.tm rfl) (S.cell (i := 0) rfl rfl)) rfl ?_; clear S; intro a S
                refine l_want S rfl rfl rfl hb4 ?_
                refine l_enter S (fun _ => run_call (vs := [.int .i64 y1.Long, .int .i64 1, .int .i64 3600000]) ⟨(S.tm rfl), rfl, rfl, trivial⟩ Tryd.call35) (tumbref2_in_ok _ y1.Long 1 3600000 _ rfl) rfl ?_; clear S; intro v7 a w11 hv5 hk8 hn5 S
                subst hv5
                refine l_want S rfl rfl rfl hb4 ?_
                refine lv S (rn_not (S.tm rfl)) rfl ?_; clear S; intro a S
                refine lv S (rn_or_f hb4 (S.tm rfl) (S.tm rfl)) rfl ?_; clear S; intro a S
                refine l_done ?_
                refine then_n ?_
                exact ⟨hk8, S.nf [true] rfl ⟨rfl, rfl, rfl, rfl, rfl, rfl, trivial⟩⟩
            clear S; rintro a w10 ⟨hk9, S⟩
            refine lv S (rn_move (S.tm rfl)) rfl ?_; clear S; intro a S
            refine f_cutm 5 (fun a w' => Keep [] w10 w' ∧ Sx w [] nov [.blk b2 [.string y1.Key, .int .i64 y1.Heats, .int .i64 y1.Long, .int .i64 y1.Gap, .int .i64 y1.Break] 60] [(0, v_p_l), (4, .pointer (some ⟨b2, 0, none⟩)), (8, v_p_l), (9, .int .i64 (p_l.length : Int)), (10, .int .i64 (i1 : Int)), (44, .bool (((!(tumbref2_in y1.Heats 1 60)) || (!(tumbref2_in y1.Long 1 3600000))) || (!(tumbref2_in y1.Gap 0 3600000))))] 52 a w') ?_ ?_
            · rcases Bool.eq_false_or_eq_true ((!(tumbref2_in y1.Heats 1 60)) || (!(tumbref2_in y1.Long 1 3600000))) with hb5 | hb5
              · refine l_skip S rfl rfl rfl (by rw [hb5]; rfl) rfl ?_ rfl; clear S; intro a S
                refine l_skip S rfl rfl rfl (by rw [hb5]; rfl) rfl ?_ rfl; clear S; intro a S
                refine l_skip S rfl rfl rfl (by rw [hb5]; rfl) rfl ?_ rfl; clear S; intro a S
                refine l_skip S rfl rfl rfl (by rw [hb5]; rfl) rfl ?_ rfl; clear S; intro a S
                refine lv S (rn_or_t (!(tumbref2_in y1.Gap 0 3600000)) hb5 (S.tm rfl) rfl) rfl ?_; clear S; intro a S
                refine l_done ?_
                refine then_n ?_
                exact ⟨Keep.refl _ _, S.nf [true] rfl ⟨rfl, rfl, rfl, rfl, rfl, rfl, trivial⟩⟩
              · refine l_want S rfl rfl rfl hb5 ?_
                refine lv S (rn_fld fa_60_3 (S.tm rfl)) rfl ?_; clear S; intro a S
                refine l_want S rfl rfl rfl hb5 ?_
                refine lv S (rn_load Tryd.isAgg3 (S.tm rfl) (S.cell (i := 0) rfl rfl)) rfl ?_; clear S; intro a S
                refine l_want S rfl rfl rfl hb5 ?_
                refine l_enter S (fun _ => run_call (vs := [.int .i64 y1.Gap, .int .i64 0, .int .i64 3600000]) ⟨(S.tm rfl), rfl, rfl, trivial⟩ Tryd.call35) (tumbref2_in_ok _ y1.Gap 0 3600000 _ rfl) rfl ?_; clear S; intro v8 a w13 hv6 hk10 hn6 S
                subst hv6
                refine l_want S rfl rfl rfl hb5 ?_
                refine lv S (rn_not (S.tm rfl)) rfl ?_; clear S; intro a S
                refine lv S (rn_or_f hb5 (S.tm rfl) (S.tm rfl)) rfl ?_; clear S; intro a S
                refine l_done ?_
                refine then_n ?_
                exact ⟨hk10, S.nf [true] rfl ⟨rfl, rfl, rfl, rfl, rfl, rfl, trivial⟩⟩
            clear S; rintro a w12 ⟨hk11, S⟩
            refine lv S (rn_move (S.tm rfl)) rfl ?_; clear S; intro a S
            refine f_cutm 5 (fun a w' => Keep [] w12 w' ∧ Sx w [] nov [.blk b2 [.string y1.Key, .int .i64 y1.Heats, .int .i64 y1.Long, .int .i64 y1.Gap, .int .i64 y1.Break] 60] [(0, v_p_l), (8, v_p_l), (9, .int .i64 (p_l.length : Int)), (10, .int .i64 (i1 : Int)), (50, .bool ((((!(tumbref2_in y1.Heats 1 60)) || (!(tumbref2_in y1.Long 1 3600000))) || (!(tumbref2_in y1.Gap 0 3600000))) || (!(tumbref2_in y1.Break 0 3600000))))] 52 a w') ?_ ?_
            · rcases Bool.eq_false_or_eq_true (((!(tumbref2_in y1.Heats 1 60)) || (!(tumbref2_in y1.Long 1 3600000))) || (!(tumbref2_in y1.Gap 0 3600000))) with hb6 | hb6
              · refine l_skip S rfl rfl rfl (by rw [hb6]; rfl) rfl ?_ rfl; clear S; intro a S
                refine l_skip S rfl rfl rfl (by rw [hb6]; rfl) rfl ?_ rfl; clear S; intro a S
                refine l_skip S rfl rfl rfl (by rw [hb6]; rfl) rfl ?_ rfl; clear S; intro a S
                refine l_skip S rfl rfl rfl (by rw [hb6]; rfl) rfl ?_ rfl; clear S; intro a S
                refine lv S (rn_or_t (!(tumbref2_in y1.Break 0 3600000)) hb6 (S.tm rfl) rfl) rfl ?_; clear S; intro a S
                refine l_done ?_
                refine then_n ?_
                exact ⟨Keep.refl _ _, S.nf [true] rfl ⟨rfl, rfl, rfl, rfl, rfl, trivial⟩⟩
              · refine l_want S rfl rfl rfl hb6 ?_
                refine lv S (rn_fld fa_60_4 (S.tm rfl)) rfl ?_; clear S; intro a S
                refine l_want S rfl rfl rfl hb6 ?_
                refine lv S (rn_load Tryd.isAgg3 (S.tm rfl) (S.cell (i := 0) rfl rfl)) rfl ?_; clear S; intro a S
                refine l_want S rfl rfl rfl hb6 ?_
                refine l_enter S (fun _ => run_call (vs := [.int .i64 y1.Break, .int .i64 0, .int .i64 3600000]) ⟨(S.tm rfl), rfl, rfl, trivial⟩ Tryd.call35) (tumbref2_in_ok _ y1.Break 0 3600000 _ rfl) rfl ?_; clear S; intro v9 a w15 hv7 hk12 hn7 S
                subst hv7
                refine l_want S rfl rfl rfl hb6 ?_
                refine lv S (rn_not (S.tm rfl)) rfl ?_; clear S; intro a S
                refine lv S (rn_or_f hb6 (S.tm rfl) (S.tm rfl)) rfl ?_; clear S; intro a S
                refine l_done ?_
                refine then_n ?_
                exact ⟨hk12, S.nf [true] rfl ⟨rfl, rfl, rfl, rfl, rfl, trivial⟩⟩
            clear S; rintro a w14 ⟨hk13, S⟩
            refine lv S (rn_assign (S.tm rfl)) rfl ?_; clear S; intro a S
            refine l_done ?_
            replace S := S.nf (L' := []) (K' := [(0, v_p_l), (8, v_p_l), (9, .int .i64 (p_l.length : Int)), (10, .int .i64 (i1 : Int)), (28, .bool ((((!(tumbref2_in y1.Heats 1 60)) || (!(tumbref2_in y1.Long 1 3600000))) || (!(tumbref2_in y1.Gap 0 3600000))) || (!(tumbref2_in y1.Break 0 3600000))))]) [false] rfl ⟨rfl, rfl, rfl, rfl, rfl, trivial⟩
            refine then_n ?_
            refine f_cond (S.tm rfl) (fun hb7 => ?_) (fun hb7 => ?_)
            · replace h := iteT h hb7
              refine f_seq ?_
              refine f_region ?_
              refine lv S (rn_assign rfl) rfl ?_; clear S; intro a S
              refine l_done ?_
              replace S := S.nf (L' := []) (K' := [(2, .int .i64 1)]) [] rfl ⟨rfl, trivial⟩
              refine then_n ?_
              refine wp_ret ?_
              refine blk_r ?_
              refine blk_r ?_
              refine then_r ?_
              refine then_r ?_
              refine blk_r ?_
              refine then_r ?_
              refine then_r ?_
              obtain rfl := Option.some.inj h
              exact f_ret S Tryd.results11 rfl rfl
            · replace h := iteF h hb7
              refine wp_skip ?_
              refine blk_n ?_
              refine blk_n ?_
              refine then_n ?_
              refine f_region ?_
              refine lv S (rn_add (S.tm rfl) rfl) rfl ?_; clear S; intro a S
              refine lv S (rn_move (S.tm rfl)) rfl ?_; clear S; intro a S
              refine l_done ?_
              replace S := S.nf (L' := []) (K' := [(0, v_p_l), (8, v_p_l), (9, .int .i64 (p_l.length : Int)), (10, .int .i64 (W ((i1 : Int) + 1)))]) [] rfl ⟨rfl, rfl, rfl, rfl, trivial⟩
              refine then_n ?_
              exact ⟨ys1, ⟨i1 + 1, ⟨_, (hd1).trans (List.append_cons _ _ _), by simp [hi1]⟩, h, S.nf [] rfl ⟨rfl, rfl, rfl, (congrArg (fun z => some (Value.int .i64 z)) (rng_next hd1 hi1 (slc_max hs_p_l))), trivial⟩⟩, Nat.lt_succ_self _⟩
    clear S h; rintro a w2 ⟨h, S⟩; rw [hj1] at h; clear hj1 j1
    refine then_n ?_
    refine f_seq ?_
    refine f_region ?_
    refine lv S (rn_assign rfl) rfl ?_; clear S; intro a S
    refine l_done ?_
    replace S := S.nf (L' := []) (K' := [(2, .int .i64 0)]) [] rfl ⟨rfl, trivial⟩
    refine then_n ?_
    refine wp_ret ?_
    obtain rfl := Option.some.inj h
    exact f_ret S Tryd.results11 rfl rfl
theorem tumbref2_Moment_ok (w : World) (p_at : Int) (r : Bool) (h : tumbref2_Moment p_at = r) :
    Calls Tryd.prog 36 [.int .i64 p_at].toArray w (Ret w [] fun τ v w' => v = .bool r) := by
  refine f_enter [] [] Tryd.func36 rfl Tryd.ntmps36 rfl (by simp) (by simp [fps]) (by simp [fps]) fun a S => ?_
  unfold tumbref2_Moment at h
  replace S := S.nf (L' := []) (K' := [(0, .int .i64 p_at)]) [] rfl ⟨rfl, trivial⟩
  refine f_seq ?_
  refine f_region ?_
  refine lv S (rn_assign rfl) rfl ?_; clear S; intro a S
  refine l_done ?_
  replace S := S.nf (L' := []) (K' := [(0, .int .i64 p_at)]) [] rfl ⟨rfl, trivial⟩
  refine then_n ?_
  refine f_seq ?_
  refine f_region ?_
  refine lv S (rn_move (S.tm rfl)) rfl ?_; clear S; intro a S
  refine l_enter S (fun _ => run_call (vs := [.int .i64 p_at, .int .i64 0, .int .i64 345686399999]) ⟨(S.tm rfl), rfl, rfl, trivial⟩ Tryd.call35) (tumbref2_in_ok _ p_at 0 345686399999 _ rfl) rfl ?_; clear S; intro v1 a w1 hv1 hk1 hn1 S
  subst hv1
  refine lv S (rn_assign (S.tm rfl)) rfl ?_; clear S; intro a S
  refine l_done ?_
  replace S := S.nf (L' := []) (K' := [(2, .bool (tumbref2_in p_at 0 345686399999))]) [] rfl ⟨rfl, trivial⟩
  refine then_n ?_
  refine wp_ret ?_
  subst h
  exact f_ret S Tryd.results36 rfl rfl
theorem tumbref2_SlotsOf_ok (w : World) (v_p_l : Value) (p_l : List GItem) (hs_p_l : Slc (view w []) 5 v_p_l (p_l.map GItem.enc)) (p_from : Int) (r : (List GSlot)) (h : tumbref2_SlotsOf p_l p_from = some r) :
    Calls Tryd.prog 16 [v_p_l, .int .i64 p_from].toArray w (Ret w [] fun τ v w' => OwnV τ 53 4 v r.length (r.flatMap GSlot.enc)) := by
  refine f_enter [] [] Tryd.func16 rfl Tryd.ntmps16 rfl (by simp) (by simp [fps]) (by simp [fps]) fun a S => ?_
  unfold tumbref2_SlotsOf at h
  replace S := S.nf (L' := []) (K' := [(0, v_p_l), (1, .int .i64 p_from)]) [] rfl ⟨rfl, rfl, trivial⟩
  refine f_seq ?_
  refine f_region ?_
  refine lv S (rn_assign rfl) rfl ?_; clear S; intro a S
  refine l_done ?_
  replace S := S.nf (L' := []) (K' := [(0, v_p_l), (1, .int .i64 p_from)]) [] rfl ⟨rfl, rfl, trivial⟩
  refine then_n ?_
  refine f_seq ?_
  refine f_region ?_
  refine lv S (rn_assign rfl) rfl ?_; clear S; intro a S
  replace S := S.nil 53 4
  refine l_done ?_
  replace S := S.nf (L' := [.own (.slice none 0 0) 53 4 ([] : List GSlot).length (([] : List GSlot).flatMap GSlot.enc)]) (K' := [(0, v_p_l), (1, .int .i64 p_from), (5, (.slice none 0 0))]) [true] rfl ⟨rfl, rfl, rfl, trivial⟩
  refine then_n ?_
  refine f_seq ?_
  refine f_seq ?_
  refine f_region ?_
  refine lv S (rn_move (S.tm rfl)) rfl ?_; clear S; intro a S
  refine lv S (rn_lenT sl_26 (S.tm rfl) (slc_len hs_p_l)) rfl ?_; clear S; intro a S
  refine lv S (rn_move rfl) rfl ?_; clear S; intro a S
  refine l_done ?_
  replace S := S.nf (L' := [.own (.slice none 0 0) 53 4 ([] : List GSlot).length (([] : List GSlot).flatMap GSlot.enc)]) (K' := [(0, v_p_l), (1, .int .i64 p_from), (5, (.slice none 0 0)), (11, v_p_l), (12, .int .i64 (p_l.length : Int)), (13, .int .i64 0)]) [true] rfl ⟨rfl, rfl, rfl, rfl, rfl, rfl, trivial⟩
  refine then_n ?_
  obtain ⟨j1, hj1, h⟩ := joinE h
  refine f_join (fun a w' => ∃ x1 : List GSlot, ∃ v1 : Value, j1 x1 = some r ∧ Sx w [] nov [.own v1 53 4 x1.length (x1.flatMap GSlot.enc)] [(5, v1)] 70 a w') ?_ ?_
  · refine wp_block ?_
    refine f_loop (fun (ys1 : List GItem) a w' => ∃ i1 : Nat, ∃ x1 : List GSlot, ∃ v1 : Value, (∃ dn, p_l = dn ++ ys1 ∧ dn.length = i1) ∧ tumbref2_SlotsOf_l1 p_l p_from j1 ys1 i1 x1 = some r ∧ Sx w [] nov [.own v1 53 4 x1.length (x1.flatMap GSlot.enc)] [(0, v_p_l), (1, .int .i64 p_from), (5, v1), (11, v_p_l), (12, .int .i64 (p_l.length : Int)), (13, .int .i64 (i1 : Int))] 70 a w') List.length p_l ⟨0, ([] : List GSlot), (.slice none 0 0), ⟨[], rfl, rfl⟩, h, S.nf [true] rfl ⟨rfl, rfl, rfl, rfl, rfl, rfl, trivial⟩⟩ ?_
    clear S h; rintro ys1 a w1 ⟨i1, x1, v1, ⟨dn, hd1, hi1⟩, h, S⟩
    cases ys1 with
    | nil =>
      rw [tumbref2_SlotsOf_l1.eq_1] at h
      refine f_seq ?_
      refine f_region ?_
      refine lv S (rn_lss (S.tm rfl) (S.tm rfl)) rfl ?_; clear S; intro a S
      refine l_done ?_
      replace S := S.nf (L' := [.own v1 53 4 x1.length (x1.flatMap GSlot.enc)]) (K' := [(0, v_p_l), (1, .int .i64 p_from), (5, v1), (11, v_p_l), (12, .int .i64 (p_l.length : Int)), (13, .int .i64 (i1 : Int)), (14, .bool (decide ((i1 : Int) < (p_l.length : Int))))]) [true] rfl ⟨rfl, rfl, rfl, rfl, rfl, rfl, rfl, trivial⟩
      refine then_n ?_
      refine f_seq ?_
      refine wp_cond_false ((S.tm rfl).trans (congrArg Value.bool (rng_nil hd1 hi1))) ?_
      refine wp_exit ?_
      refine then_x ?_
      refine then_x ?_
      refine x_same ?_
      refine then_n ?_
      exact ⟨x1, v1, h, S.nf [true] rfl ⟨rfl, trivial⟩⟩
    | cons y1 ys1 =>
      rw [tumbref2_SlotsOf_l1.eq_2] at h
      refine f_seq ?_
      refine f_region ?_
      refine lv S (rn_lss (S.tm rfl) (S.tm rfl)) rfl ?_; clear S; intro a S
      refine l_done ?_
      replace S := S.nf (L' := [.own v1 53 4 x1.length (x1.flatMap GSlot.enc)]) (K' := [(0, v_p_l), (1, .int .i64 p_from), (5, v1), (11, v_p_l), (12, .int .i64 (p_l.length : Int)), (13, .int .i64 (i1 : Int)), (14, .bool (decide ((i1 : Int) < (p_l.length : Int))))]) [true] rfl ⟨rfl, rfl, rfl, rfl, rfl, rfl, rfl, trivial⟩
      refine then_n ?_
      refine f_seq ?_
      refine wp_cond_true ((S.tm rfl).trans (congrArg Value.bool (rng_cons hd1 hi1))) ?_
      refine wp_skip ?_
      refine then_n ?_
      refine f_seq ?_
      refine wp_block ?_
      refine f_seq ?_
      refine f_region ?_
      refine lv S (rn_move (S.tm rfl)) rfl ?_; clear S; intro a S
      obtain ⟨b1, o1, hm1, hr1⟩ := rn_indexT (a := a) (x := .tmp 11) (y := .tmp 13) (ty := 0) sl_26 hs_p_l (get_mid hd1 hi1) rfl (S.tm rfl) (S.tm rfl)
      refine lv S (hr1 _) rfl ?_; clear S; intro a S
      clear hr1
      refine lv S (rn_ldA Tryd.isAgg60 Tryd.sizeOf60 (off := o1) (o := 0) (part := [.string y1.Key, .int .i64 y1.Heats, .int .i64 y1.Long, .int .i64 y1.Gap, .int .i64 y1.Break]) rfl rfl (S.tm rfl) (hm1.at S.emb0)) rfl ?_; clear S; intro a S
      refine l_alloc S Tryd.zeroValue60 (cs := [.string k_empty, .int .i64 0, .int .i64 0, .int .i64 0, .int .i64 0]) rfl rfl ?_; clear S; intro a w3 b2 hz1 hk1 S
      refine lv S (rn_assign (S.tm rfl)) rfl ?_; clear S; intro a S
      refine l_store S (S.tm rfl) (S.tm rfl) (i := 0) (off := 0) rfl Tryd.sizeOf60 (vs := [.string y1.Key, .int .i64 y1.Heats, .int .i64 y1.Long, .int .i64 y1.Gap, .int .i64 y1.Break]) rfl rfl rfl rfl ?_; clear S; intro w4 hk2 S
      refine l_done ?_
      replace S := S.nf (L' := [.blk b2 [.string y1.Key, .int .i64 y1.Heats, .int .i64 y1.Long, .int .i64 y1.Gap, .int .i64 y1.Break] 60, .own v1 53 4 x1.length (x1.flatMap GSlot.enc)]) (K' := [(0, v_p_l), (1, .int .i64 p_from), (5, v1), (6, .int .i64 (i1 : Int)), (7, .pointer (some ⟨b2, 0, none⟩)), (11, v_p_l), (12, .int .i64 (p_l.length : Int)), (13, .int .i64 (i1 : Int))]) [true, true] rfl ⟨rfl, rfl, rfl, rfl, rfl, rfl, rfl, rfl, trivial⟩
      refine then_n ?_
      refine f_seq ?_
      refine f_region ?_
      refine lv S (rn_assign rfl) rfl ?_; clear S; intro a S
      refine l_done ?_
      replace S := S.nf (L' := [.blk b2 [.string y1.Key, .int .i64 y1.Heats, .int .i64 y1.Long, .int .i64 y1.Gap, .int .i64 y1.Break] 60, .own v1 53 4 x1.length (x1.flatMap GSlot.enc)]) (K' := [(0, v_p_l), (1, .int .i64 p_from), (5, v1), (6, .int .i64 (i1 : Int)), (7, .pointer (some ⟨b2, 0, none⟩)), (8, .int .i64 1), (11, v_p_l), (12, .int .i64 (p_l.length : Int)), (13, .int .i64 (i1 : Int))]) [true, true] rfl ⟨rfl, rfl, rfl, rfl, rfl, rfl, rfl, rfl, rfl, trivial⟩
      refine then_n ?_
      obtain ⟨j2, hj2, h⟩ := joinE h
      refine f_join (fun a w' => ∃ x2 : List GSlot, ∃ v2 : Value, j2 x2 = some r ∧ Sx w [] nov [.blk b2 [.string y1.Key, .int .i64 y1.Heats, .int .i64 y1.Long, .int .i64 y1.Gap, .int .i64 y1.Break] 60, .own v2 53 4 x2.length (x2.flatMap GSlot.enc)] [(0, v_p_l), (1, .int .i64 p_from), (5, v2), (11, v_p_l), (12, .int .i64 (p_l.length : Int)), (13, .int .i64 (i1 : Int))] 70 a w') ?_ ?_
      · refine wp_block ?_
        refine f_loop (fun (m1 : Nat) a w' => ∃ x2 : List GSlot, ∃ x3 : Int, ∃ v2 : Value, tumbref2_SlotsOf_l2 y1 i1 p_l p_from j2 m1 x2 x3 = some r ∧ Sx w [] nov [.blk b2 [.string y1.Key, .int .i64 y1.Heats, .int .i64 y1.Long, .int .i64 y1.Gap, .int .i64 y1.Break] 60, .own v2 53 4 x2.length (x2.flatMap GSlot.enc)] [(0, v_p_l), (1, .int .i64 p_from), (5, v2), (6, .int .i64 (i1 : Int)), (7, .pointer (some ⟨b2, 0, none⟩)), (8, .int .i64 x3), (11, v_p_l), (12, .int .i64 (p_l.length : Int)), (13, .int .i64 (i1 : Int))] 70 a w') id ((y1.Heats - 1).toNat + 2) ⟨x1, 1, v1, h, S.nf [true, true] rfl ⟨rfl, rfl, rfl, rfl, rfl, rfl, rfl, rfl, rfl, trivial⟩⟩ ?_
        clear S h; rintro m1 a w5 ⟨x2, x3, v2, h, S⟩
        cases m1 with
        | zero => rw [tumbref2_SlotsOf_l2.eq_1] at h; cases h
        | succ m1 =>
          rw [tumbref2_SlotsOf_l2.eq_2] at h
          refine f_seq ?_
          refine f_seq ?_
          refine f_region ?_
          refine lv S (rn_move (S.tm rfl)) rfl ?_; clear S; intro a S
          refine lv S (rn_fld fa_60_1 (S.tm rfl)) rfl ?_; clear S; intro a S
          refine lv S (rn_load Tryd.isAgg3 (S.tm rfl) (S.cell (i := 0) rfl rfl)) rfl ?_; clear S; intro a S
          refine lv S (rn_leq (S.tm rfl) (S.tm rfl)) rfl ?_; clear S; intro a S
          refine l_done ?_
          replace S := S.nf (L' := [.blk b2 [.string y1.Key, .int .i64 y1.Heats, .int .i64 y1.Long, .int .i64 y1.Gap, .int .i64 y1.Break] 60, .own v2 53 4 x2.length (x2.flatMap GSlot.enc)]) (K' := [(0, v_p_l), (1, .int .i64 p_from), (5, v2), (6, .int .i64 (i1 : Int)), (7, .pointer (some ⟨b2, 0, none⟩)), (8, .int .i64 x3), (11, v_p_l), (12, .int .i64 (p_l.length : Int)), (13, .int .i64 (i1 : Int)), (21, .bool (decide (x3 ≤ y1.Heats)))]) [true, true] rfl ⟨rfl, rfl, rfl, rfl, rfl, rfl, rfl, rfl, rfl, rfl, trivial⟩
          refine then_n ?_
          refine f_cond (S.tm rfl) (fun hb1 => ?_) (fun hb1 => ?_)
          · replace h := iteT h hb1
            refine wp_skip ?_
            refine then_n ?_
            refine f_seq ?_
            refine wp_block ?_
            refine f_seq ?_
            refine f_region ?_
            refine lv S (rn_move (S.tm rfl)) rfl ?_; clear S; intro a S
            refine lv S (rn_assign (S.tm rfl)) rfl ?_; clear S; intro a S
            refine l_done ?_
            replace S := S.nf (L' := [.blk b2 [.string y1.Key, .int .i64 y1.Heats, .int .i64 y1.Long, .int .i64 y1.Gap, .int .i64 y1.Break] 60, .own v2 53 4 x2.length (x2.flatMap GSlot.enc)]) (K' := [(0, v_p_l), (1, .int .i64 p_from), (5, v2), (6, .int .i64 (i1 : Int)), (7, .pointer (some ⟨b2, 0, none⟩)), (8, .int .i64 x3), (9, .int .i64 p_from), (11, v_p_l), (12, .int .i64 (p_l.length : Int)), (13, .int .i64 (i1 : Int))]) [true, true] rfl ⟨rfl, rfl, rfl, rfl, rfl, rfl, rfl, rfl, rfl, rfl, trivial⟩
            refine then_n ?_
            refine f_seq ?_
            refine f_seq ?_
            refine f_region ?_
            refine lv S (rn_move (S.tm rfl)) rfl ?_; clear S; intro a S
            refine lv S (rn_lenT sl_32 (S.tm rfl) (own_len (S.own_at (i := 1) rfl))) rfl ?_; clear S; intro a S
            refine lv S (rn_assign (S.tm rfl)) rfl ?_; clear S; intro a S
            refine l_done ?_
            replace S := S.nf (L' := [.blk b2 [.string y1.Key, .int .i64 y1.Heats, .int .i64 y1.Long, .int .i64 y1.Gap, .int .i64 y1.Break] 60, .own v2 53 4 x2.length (x2.flatMap GSlot.enc)]) (K' := [(0, v_p_l), (1, .int .i64 p_from), (5, v2), (6, .int .i64 (i1 : Int)), (7, .pointer (some ⟨b2, 0, none⟩)), (8, .int .i64 x3), (9, .int .i64 p_from), (10, .int .i64 (x2.length : Int)), (11, v_p_l), (12, .int .i64 (p_l.length : Int)), (13, .int .i64 (i1 : Int))]) [true, true] rfl ⟨rfl, rfl, rfl, rfl, rfl, rfl, rfl, rfl, rfl, rfl, rfl, trivial⟩
            refine then_n ?_
            refine f_seq ?_
            refine f_region ?_
            refine lv S (rn_move (S.tm rfl)) rfl ?_; clear S; intro a S
            refine lv S (rn_gtr (S.tm rfl) rfl) rfl ?_; clear S; intro a S
            refine l_done ?_
            replace S := S.nf (L' := [.blk b2 [.string y1.Key, .int .i64 y1.Heats, .int .i64 y1.Long, .int .i64 y1.Gap, .int .i64 y1.Break] 60, .own v2 53 4 x2.length (x2.flatMap GSlot.enc)]) (K' := [(0, v_p_l), (1, .int .i64 p_from), (5, v2), (6, .int .i64 (i1 : Int)), (7, .pointer (some ⟨b2, 0, none⟩)), (8, .int .i64 x3), (9, .int .i64 p_from), (10, .int .i64 (x2.length : Int)), (11, v_p_l), (12, .int .i64 (p_l.length : Int)), (13, .int .i64 (i1 : Int)), (28, .bool (decide (0 < (x2.length : Int))))]) [true, true] rfl ⟨rfl, rfl, rfl, rfl, rfl, rfl, rfl, rfl, rfl, rfl, rfl, rfl, trivial⟩
            refine then_n ?_
            obtain ⟨j3, hj3, h⟩ := joinE h
            refine f_join (fun a w' => ∃ x4 : Int, j3 x4 = some r ∧ Sx w [] nov [.blk b2 [.string y1.Key, .int .i64 y1.Heats, .int .i64 y1.Long, .int .i64 y1.Gap, .int .i64 y1.Break] 60, .own v2 53 4 x2.length (x2.flatMap GSlot.enc)] [(0, v_p_l), (1, .int .i64 p_from), (5, v2), (6, .int .i64 (i1 : Int)), (7, .pointer (some ⟨b2, 0, none⟩)), (8, .int .i64 x3), (9, .int .i64 x4), (11, v_p_l), (12, .int .i64 (p_l.length : Int)), (13, .int .i64 (i1 : Int))] 70 a w') ?_ ?_
            · refine f_cond (S.tm rfl) (fun hb2 => ?_) (fun hb2 => ?_)
              · replace h := iteT h hb2
                refine f_seq ?_
                obtain ⟨hc1, h⟩ := chkE h
                refine d_region ([]) Tryd.mixed S rfl (by kernel_rfl) ?_; clear S; intro w8 hk3 hsel S
                refine d_quiet 0 S hsel rfl (by kernel_rfl) (by kernel_rfl) rfl (fun _ hw => (rn_move (S.tm rfl))) ?_; clear S; intro a S
                refine d_quiet 1 S hsel rfl (by kernel_rfl) (by kernel_rfl) rfl (fun _ hw => (rn_move (S.tm rfl))) ?_; clear S; intro a S
                refine d_quiet 2 S hsel rfl (by kernel_rfl) (by kernel_rfl) rfl (fun _ hw => (rn_sub (S.tm rfl) rfl)) ?_; clear S; intro a S
                obtain ⟨b4, hg2, hr3⟩ := rn_indexS (a := a) (x := .tmp 29) (y := .tmp 31) (ty := 0) sl_32 GSlot.enc_ok S (i := 1) rfl (inB_get hc1).1 (inB_get hc1).2 (S.tm rfl) (S.tm rfl)
                refine d_quiet 3 S hsel rfl (by kernel_rfl) (by kernel_rfl) rfl (fun _ hw => (hr3 _)) ?_; clear S; intro a S
                clear hr3
                refine d_quiet 4 S hsel rfl (by kernel_rfl) (by kernel_rfl) rfl (fun _ hw => (rn_fld fa_53_2 (S.tm rfl))) ?_; clear S; intro a S
                refine d_quiet 5 S hsel rfl (by kernel_rfl) (by kernel_rfl) rfl (fun _ hw => (rn_fld fa_31_1 (S.tm rfl))) ?_; clear S; intro a S
                refine d_quiet 6 S hsel rfl (by kernel_rfl) (by kernel_rfl) rfl (fun _ hw => (rn_ld Tryd.isAgg3 (off := ((W ((x2.length : Int) - 1)).toNat) * 4) (o := 3) (S.tm rfl) ((own_mem GSlot.enc_ok S (i := 1) rfl hg2 (inB_get hc1).1 (ne_nil (e' := .own v2 53 4 x2.length (x2.flatMap GSlot.enc)))).kept hw) rfl)) ?_; clear S; intro a S
                refine d_quiet 7 S hsel rfl (by kernel_rfl) (by kernel_rfl) rfl (fun _ hw => (rn_fld fa_60_3 (S.tm rfl))) ?_; clear S; intro a S
                refine d_quiet 8 S hsel rfl (by kernel_rfl) (by kernel_rfl) rfl (fun _ hw => (rn_ld Tryd.isAgg3 (off := 0) (o := 3) (S.tm rfl) ((S.blk_mem (i := 0) (cells := [.string y1.Key, .int .i64 y1.Heats, .int .i64 y1.Long, .int .i64 y1.Gap, .int .i64 y1.Break]) (b := b2) (T := 60) rfl (ne_nil (e' := .blk b2 [.string y1.Key, .int .i64 y1.Heats, .int .i64 y1.Long, .int .i64 y1.Gap, .int .i64 y1.Break] 60))).kept hw) rfl)) ?_; clear S; intro a S
                refine d_quiet 9 S hsel rfl (by kernel_rfl) (by kernel_rfl) rfl (fun _ hw => (rn_add (S.tm rfl) (S.tm rfl))) ?_; clear S; intro a S
                refine d_quiet 10 S hsel rfl (by kernel_rfl) (by kernel_rfl) rfl (fun _ hw => (rn_assign (S.tm rfl))) ?_; clear S; intro a S
                refine d_end (by kernel_rfl) ?_
                clear hsel
                replace S := S.nf (L' := [.blk b2 [.string y1.Key, .int .i64 y1.Heats, .int .i64 y1.Long, .int .i64 y1.Gap, .int .i64 y1.Break] 60, .own v2 53 4 x2.length (x2.flatMap GSlot.enc)]) (K' := [(0, v_p_l), (1, .int .i64 p_from), (5, v2), (6, .int .i64 (i1 : Int)), (7, .pointer (some ⟨b2, 0, none⟩)), (8, .int .i64 x3), (9, .int .i64 (W ((((nth x2 (W ((x2.length : Int) - 1))).Time).To) + y1.Gap))), (10, .int .i64 (x2.length : Int)), (11, v_p_l), (12, .int .i64 (p_l.length : Int)), (13, .int .i64 (i1 : Int))]) [true, true] rfl ⟨rfl, rfl, rfl, rfl, rfl, rfl, rfl, rfl, rfl, rfl, rfl, trivial⟩
                refine then_n ?_
                refine f_seq ?_
                refine f_region ?_
                refine lv S (rn_move (S.tm rfl)) rfl ?_; clear S; intro a S
                refine lv S (rn_eql (S.tm rfl) rfl) rfl ?_; clear S; intro a S
                refine l_done ?_
                replace S := S.nf (L' := [.blk b2 [.string y1.Key, .int .i64 y1.Heats, .int .i64 y1.Long, .int .i64 y1.Gap, .int .i64 y1.Break] 60, .own v2 53 4 x2.length (x2.flatMap GSlot.enc)]) (K' := [(0, v_p_l), (1, .int .i64 p_from), (5, v2), (6, .int .i64 (i1 : Int)), (7, .pointer (some ⟨b2, 0, none⟩)), (8, .int .i64 x3), (9, .int .i64 (W ((((nth x2 (W ((x2.length : Int) - 1))).Time).To) + y1.Gap))), (10, .int .i64 (x2.length : Int)), (11, v_p_l), (12, .int .i64 (p_l.length : Int)), (13, .int .i64 (i1 : Int)), (40, .bool (decide (x3 = 1)))]) [true, true] rfl ⟨rfl, rfl, rfl, rfl, rfl, rfl, rfl, rfl, rfl, rfl, rfl, rfl, trivial⟩
                refine then_n ?_
                obtain ⟨j4, hj4, h⟩ := joinE h
                refine f_join (fun a w' => ∃ x5 : Int, j4 x5 = some r ∧ Sx w [] nov [.blk b2 [.string y1.Key, .int .i64 y1.Heats, .int .i64 y1.Long, .int .i64 y1.Gap, .int .i64 y1.Break] 60, .own v2 53 4 x2.length (x2.flatMap GSlot.enc)] [(0, v_p_l), (1, .int .i64 p_from), (5, v2), (6, .int .i64 (i1 : Int)), (7, .pointer (some ⟨b2, 0, none⟩)), (8, .int .i64 x3), (9, .int .i64 x5), (11, v_p_l), (12, .int .i64 (p_l.length : Int)), (13, .int .i64 (i1 : Int))] 70 a w') ?_ ?_
                · refine f_cond (S.tm rfl) (fun hb3 => ?_) (fun hb3 => ?_)
                  · replace h := iteT h hb3
                    obtain ⟨hc2, h⟩ := chkE h
                    obtain ⟨hc3, h⟩ := chkE h
                    refine d_region ([]) Tryd.mixed S rfl (by kernel_rfl) ?_; clear S; intro w10 hk4 hsel S
                    refine d_quiet 0 S hsel rfl (by kernel_rfl) (by kernel_rfl) rfl (fun _ hw => (rn_move (S.tm rfl))) ?_; clear S; intro a S
                    refine d_quiet 1 S hsel rfl (by kernel_rfl) (by kernel_rfl) rfl (fun _ hw => (rn_move (S.tm rfl))) ?_; clear S; intro a S
                    refine d_quiet 2 S hsel rfl (by kernel_rfl) (by kernel_rfl) rfl (fun _ hw => (rn_sub (S.tm rfl) rfl)) ?_; clear S; intro a S
                    obtain ⟨b7, hg4, hr6⟩ := rn_indexS (a := a) (x := .tmp 41) (y := .tmp 43) (ty := 0) sl_32 GSlot.enc_ok S (i := 1) rfl (inB_get hc2).1 (inB_get hc2).2 (S.tm rfl) (S.tm rfl)
                    refine d_quiet 3 S hsel rfl (by kernel_rfl) (by kernel_rfl) rfl (fun _ hw => (hr6 _)) ?_; clear S; intro a S
                    clear hr6
                    refine d_quiet 4 S hsel rfl (by kernel_rfl) (by kernel_rfl) rfl (fun _ hw => (rn_fld fa_53_2 (S.tm rfl))) ?_; clear S; intro a S
                    refine d_quiet 5 S hsel rfl (by kernel_rfl) (by kernel_rfl) rfl (fun _ hw => (rn_fld fa_31_1 (S.tm rfl))) ?_; clear S; intro a S
                    refine d_quiet 6 S hsel rfl (by kernel_rfl) (by kernel_rfl) rfl (fun _ hw => (rn_ld Tryd.isAgg3 (off := ((W ((x2.length : Int) - 1)).toNat) * 4) (o := 3) (S.tm rfl) ((own_mem GSlot.enc_ok S (i := 1) rfl hg4 (inB_get hc2).1 (ne_nil (e' := .own v2 53 4 x2.length (x2.flatMap GSlot.enc)))).kept hw) rfl)) ?_; clear S; intro a S
                    refine d_quiet 7 S hsel rfl (by kernel_rfl) (by kernel_rfl) rfl (fun _ hw => (rn_move (S.tm rfl))) ?_; clear S; intro a S
                    refine d_quiet 8 S hsel rfl (by kernel_rfl) (by kernel_rfl) rfl (fun _ hw => (rn_move (S.tm rfl))) ?_; clear S; intro a S
                    refine d_quiet 9 S hsel rfl (by kernel_rfl) (by kernel_rfl) rfl (fun _ hw => (rn_sub (S.tm rfl) rfl)) ?_; clear S; intro a S
                    obtain ⟨b8, o7, hm7, hr7⟩ := rn_indexT (a := a) (x := .tmp 48) (y := .tmp 50) (ty := 0) sl_26 (hs_p_l.mono (S.le_arg nil_sub)) (inB_get hc3).1 (inB_get hc3).2 (S.tm rfl) (S.tm rfl)
                    refine d_quiet 10 S hsel rfl (by kernel_rfl) (by kernel_rfl) rfl (fun _ hw => hr7 _) ?_; clear S; intro a S
                    clear hr7
                    refine d_quiet 11 S hsel rfl (by kernel_rfl) (by kernel_rfl) rfl (fun _ hw => (rn_fld fa_60_4 (S.tm rfl))) ?_; clear S; intro a S
                    refine d_quiet 12 S hsel rfl (by kernel_rfl) (by kernel_rfl) rfl (fun _ hw => (rn_ld Tryd.isAgg3 (off := o7) (o := 4) (S.tm rfl) (hm7.kept hw) rfl)) ?_; clear S; intro a S
                    refine d_quiet 13 S hsel rfl (by kernel_rfl) (by kernel_rfl) rfl (fun _ hw => (rn_add (S.tm rfl) (S.tm rfl))) ?_; clear S; intro a S
                    refine d_quiet 14 S hsel rfl (by kernel_rfl) (by kernel_rfl) rfl (fun _ hw => (rn_assign (S.tm rfl))) ?_; clear S; intro a S
                    refine d_end (by kernel_rfl) ?_
                    clear hsel
                    replace S := S.nf (L' := [.blk b2 [.string y1.Key, .int .i64 y1.Heats, .int .i64 y1.Long, .int .i64 y1.Gap, .int .i64 y1.Break] 60, .own v2 53 4 x2.length (x2.flatMap GSlot.enc)]) (K' := [(0, v_p_l), (1, .int .i64 p_from), (5, v2), (6, .int .i64 (i1 : Int)), (7, .pointer (some ⟨b2, 0, none⟩)), (8, .int .i64 x3), (9, .int .i64 (W ((((nth x2 (W ((x2.length : Int) - 1))).Time).To) + ((nth p_l (W ((i1 : Int) - 1))).Break)))), (11, v_p_l), (12, .int .i64 (p_l.length : Int)), (13, .int .i64 (i1 : Int))]) [true, true] rfl ⟨rfl, rfl, rfl, rfl, rfl, rfl, rfl, rfl, rfl, rfl, trivial⟩
                    refine then_n ?_
                    exact ⟨W ((((nth x2 (W ((x2.length : Int) - 1))).Time).To) + ((nth p_l (W ((i1 : Int) - 1))).Break)), h, S.nf [true, true] rfl ⟨rfl, rfl, rfl, rfl, rfl, rfl, rfl, rfl, rfl, rfl, trivial⟩⟩
                  · replace h := iteF h hb3
                    refine wp_skip ?_
                    refine then_n ?_
                    exact ⟨W ((((nth x2 (W ((x2.length : Int) - 1))).Time).To) + y1.Gap), h, S.nf [true, true] rfl ⟨rfl, rfl, rfl, rfl, rfl, rfl, rfl, rfl, rfl, rfl, trivial⟩⟩
                clear S h; rintro a w9 ⟨x5, h, S⟩; rw [hj4] at h; clear hj4 j4
                refine then_n ?_
                exact ⟨x5, h, S.nf [true, true] rfl ⟨rfl, rfl, rfl, rfl, rfl, rfl, rfl, rfl, rfl, rfl, trivial⟩⟩
              · replace h := iteF h hb2
                refine wp_skip ?_
                refine then_n ?_
                exact ⟨p_from, h, S.nf [true, true] rfl ⟨rfl, rfl, rfl, rfl, rfl, rfl, rfl, rfl, rfl, rfl, trivial⟩⟩
            clear S h; rintro a w7 ⟨x4, h, S⟩; rw [hj3] at h; clear hj3 j3
            refine then_n ?_
            refine f_region ?_
            refine lv S (rn_move (S.tm rfl)) rfl ?_; clear S; intro a S
            refine lv S (rn_fld fa_60_0 (S.tm rfl)) rfl ?_; clear S; intro a S
            refine lv S (rn_load Tryd.isAgg9 (S.tm rfl) (S.cell (i := 0) rfl rfl)) rfl ?_; clear S; intro a S
            refine lv S (rn_move (S.tm rfl)) rfl ?_; clear S; intro a S
            refine lv S (rn_move (S.tm rfl)) rfl ?_; clear S; intro a S
            refine lv S (rn_move (S.tm rfl)) rfl ?_; clear S; intro a S
            refine lv S (rn_fld fa_60_2 (S.tm rfl)) rfl ?_; clear S; intro a S
            refine lv S (rn_load Tryd.isAgg3 (S.tm rfl) (S.cell (i := 0) rfl rfl)) rfl ?_; clear S; intro a S
            refine lv S (rn_add (S.tm rfl) (S.tm rfl)) rfl ?_; clear S; intro a S
            refine lv S (rn_bld bt_31 (pv := [(0, .int .i64 x4), (1, .int .i64 (W (x4 + y1.Long)))]) ⟨rfl, (S.tm rfl), rfl, (S.tm rfl), trivial⟩ (cs := [.int .i64 x4, .int .i64 (W (x4 + y1.Long))]) (by kernel_rfl)) rfl ?_; clear S; intro a S
            refine lv S (rn_bld bt_53 (pv := [(0, .string y1.Key), (1, .int .i64 x3), (2, .agg #[.int .i64 x4, .int .i64 (W (x4 + y1.Long))])]) ⟨rfl, (S.tm rfl), rfl, (S.tm rfl), rfl, (S.tm rfl), trivial⟩ (cs := [.string y1.Key, .int .i64 x3, .int .i64 x4, .int .i64 (W (x4 + y1.Long))]) (by kernel_rfl)) rfl ?_; clear S; intro a S
            refine l_buildSlice S Tryd.underlying32 Tryd.sizeOf53 Tryd.zeroValue53 rfl rfl (pv := [(0, .agg #[.string y1.Key, .int .i64 x3, .int .i64 x4, .int .i64 (W (x4 + y1.Long))])]) ⟨rfl, (S.tm rfl), trivial⟩ (cs := [.string y1.Key, .int .i64 x3, .int .i64 x4, .int .i64 (W (x4 + y1.Long))]) (by kernel_rfl) rfl ?_; clear S; intro a w11 b9 hz2 hk5 S
            obtain ⟨hc4, h⟩ := chkE h
            refine l_appendT sl_32 GSlot.enc_ok S (S.tm rfl) (i := 2) rfl (S.tm rfl) (j := 0) rfl (ys := [(GSlot.mk y1.Key x3 (GWindow.mk x4 (W (x4 + y1.Long))))]) rfl rfl rfl rfl (by have := room_lt hc4; omega) rfl ?_; clear S; intro v3 a w12 hk6 S
            refine lv S (rn_assign (S.tm rfl)) rfl ?_; clear S; intro a S
            refine l_done ?_
            replace S := S.nf (L' := [.blk b2 [.string y1.Key, .int .i64 y1.Heats, .int .i64 y1.Long, .int .i64 y1.Gap, .int .i64 y1.Break] 60, .own v3 53 4 (x2 ++ [(GSlot.mk y1.Key x3 (GWindow.mk x4 (W (x4 + y1.Long))))]).length ((x2 ++ [(GSlot.mk y1.Key x3 (GWindow.mk x4 (W (x4 + y1.Long))))]).flatMap GSlot.enc)]) (K' := [(0, v_p_l), (1, .int .i64 p_from), (5, v3), (6, .int .i64 (i1 : Int)), (7, .pointer (some ⟨b2, 0, none⟩)), (8, .int .i64 x3), (11, v_p_l), (12, .int .i64 (p_l.length : Int)), (13, .int .i64 (i1 : Int))]) [false, true, true] rfl ⟨rfl, rfl, rfl, rfl, rfl, rfl, rfl, rfl, rfl, trivial⟩
            refine blk_n ?_
            refine then_n ?_
            refine f_region ?_
            refine lv S (rn_move (S.tm rfl)) rfl ?_; clear S; intro a S
            refine lv S (rn_add (S.tm rfl) rfl) rfl ?_; clear S; intro a S
            refine lv S (rn_assign (S.tm rfl)) rfl ?_; clear S; intro a S
            refine l_done ?_
            replace S := S.nf (L' := [.blk b2 [.string y1.Key, .int .i64 y1.Heats, .int .i64 y1.Long, .int .i64 y1.Gap, .int .i64 y1.Break] 60, .own v3 53 4 (x2 ++ [(GSlot.mk y1.Key x3 (GWindow.mk x4 (W (x4 + y1.Long))))]).length ((x2 ++ [(GSlot.mk y1.Key x3 (GWindow.mk x4 (W (x4 + y1.Long))))]).flatMap GSlot.enc)]) (K' := [(0, v_p_l), (1, .int .i64 p_from), (5, v3), (6, .int .i64 (i1 : Int)), (7, .pointer (some ⟨b2, 0, none⟩)), (8, .int .i64 (W (x3 + 1))), (11, v_p_l), (12, .int .i64 (p_l.length : Int)), (13, .int .i64 (i1 : Int))]) [true, true] rfl ⟨rfl, rfl, rfl, rfl, rfl, rfl, rfl, rfl, rfl, trivial⟩
            refine then_n ?_
            exact ⟨m1, ⟨(x2 ++ [(GSlot.mk y1.Key x3 (GWindow.mk x4 (W (x4 + y1.Long))))]), W (x3 + 1), v3, h, S.nf [true, true] rfl ⟨rfl, rfl, rfl, rfl, rfl, rfl, rfl, rfl, rfl, trivial⟩⟩, Nat.lt_succ_self _⟩
          · replace h := iteF h hb1
            refine wp_exit ?_
            refine then_x ?_
            refine then_x ?_
            refine x_same ?_
            refine then_n ?_
            exact ⟨x2, v2, h, S.nf [true, true] rfl ⟨rfl, rfl, rfl, rfl, rfl, rfl, trivial⟩⟩
      clear S h; rintro a w6 ⟨x2, v2, h, S⟩; rw [hj2] at h; clear hj2 j2
      refine blk_n ?_
      refine then_n ?_
      refine f_region ?_
      refine lv S (rn_add (S.tm rfl) rfl) rfl ?_; clear S; intro a S
      refine lv S (rn_move (S.tm rfl)) rfl ?_; clear S; intro a S
      refine l_done ?_
      replace S := S.nf (L' := [.own v2 53 4 x2.length (x2.flatMap GSlot.enc)]) (K' := [(0, v_p_l), (1, .int .i64 p_from), (5, v2), (11, v_p_l), (12, .int .i64 (p_l.length : Int)), (13, .int .i64 (W ((i1 : Int) + 1)))]) [false, true] rfl ⟨rfl, rfl, rfl, rfl, rfl, rfl, trivial⟩
      refine then_n ?_
      exact ⟨ys1, ⟨i1 + 1, x2, v2, ⟨_, (hd1).trans (List.append_cons _ _ _), by simp [hi1]⟩, h, S.nf [true] rfl ⟨rfl, rfl, rfl, rfl, rfl, (congrArg (fun z => some (Value.int .i64 z)) (rng_next hd1 hi1 (slc_max hs_p_l))), trivial⟩⟩, Nat.lt_succ_self _⟩
  clear S h; rintro a w2 ⟨x1, v1, h, S⟩; rw [hj1] at h; clear hj1 j1
  refine then_n ?_
  refine f_seq ?_
  refine f_region ?_
  refine lv S (rn_move (S.tm rfl)) rfl ?_; clear S; intro a S
  refine lv S (rn_assign (S.tm rfl)) rfl ?_; clear S; intro a S
  refine l_done ?_
  replace S := S.nf (L' := [.own v1 53 4 x1.length (x1.flatMap GSlot.enc)]) (K' := [(4, v1)]) [true] rfl ⟨rfl, trivial⟩
  refine then_n ?_
  refine wp_ret ?_
  obtain rfl := Option.some.inj h
  exact f_ret S Tryd.results16 rfl (own_retT S (i := 0) rfl rfl)
theorem tumbref2_EndOf_ok (w : World) (v_p_l : Value) (p_l : List GItem) (hs_p_l : Slc (view w []) 5 v_p_l (p_l.map GItem.enc)) (p_from : Int) (r : Int) (h : tumbref2_EndOf p_l p_from = some r) :
    Calls Tryd.prog 17 [v_p_l, .int .i64 p_from].toArray w (Ret w [] fun τ v w' => v = .int .i64 r) := by
  refine f_enter [] [] Tryd.func17 rfl Tryd.ntmps17 rfl (by simp) (by simp [fps]) (by simp [fps]) fun a S => ?_
  unfold tumbref2_EndOf at h
  replace S := S.nf (L' := []) (K' := [(0, v_p_l), (1, .int .i64 p_from)]) [] rfl ⟨rfl, rfl, trivial⟩
  refine f_seq ?_
  refine f_region ?_
  refine lv S (rn_assign rfl) rfl ?_; clear S; intro a S
  refine l_done ?_
  replace S := S.nf (L' := []) (K' := [(0, v_p_l), (1, .int .i64 p_from)]) [] rfl ⟨rfl, rfl, trivial⟩
  refine then_n ?_
  refine f_seq ?_
  refine f_seq ?_
  refine f_region ?_
  refine lv S (rn_move (S.tm rfl)) rfl ?_; clear S; intro a S
  refine lv S (rn_move (S.tm rfl)) rfl ?_; clear S; intro a S
  obtain ⟨r1, hr1, h⟩ := bindE h
  have hz1 := S.keep.size
  refine l_enter S (fun _ => run_call (vs := [v_p_l, .int .i64 p_from]) ⟨(S.tm rfl), (S.tm rfl), trivial⟩ Tryd.call16) (tumbref2_SlotsOf_ok _ v_p_l p_l (hs_p_l.mono (S.le_arg nil_sub)) p_from _ hr1) rfl ?_; clear S; intro v1 a w1 hv1 hk1 hn1 S
  obtain ⟨φ1, hl1, hm1, S⟩ := S.see' hn1 hz1
  have hs1 := hv1.mono hm1
  refine lv S (rn_lenT sl_32 (S.tm rfl) (slc_len (ownV_slcT GSlot.enc_ok hs1))) rfl ?_; clear S; intro a S
  refine lv S (rn_move rfl) rfl ?_; clear S; intro a S
  refine l_done ?_
  replace S := S.nf (L' := []) (K' := [(1, .int .i64 p_from), (9, v1), (10, .int .i64 (r1.length : Int)), (11, .int .i64 0)]) [] rfl ⟨rfl, rfl, rfl, rfl, trivial⟩
  refine then_n ?_
  obtain ⟨j1, hj1, h⟩ := joinE h
  refine f_join (fun a w' => ∃ x1 : Int, j1 x1 = some r ∧ Sx w [] φ1 [] [(1, .int .i64 x1)] 20 a w') ?_ ?_
  · refine wp_block ?_
    refine f_loop (fun (ys1 : List GSlot) a w' => ∃ i1 : Nat, ∃ x1 : Int, (∃ dn, r1 = dn ++ ys1 ∧ dn.length = i1) ∧ tumbref2_EndOf_l1 j1 ys1 i1 x1 = some r ∧ Sx w [] φ1 [] [(1, .int .i64 x1), (9, v1), (10, .int .i64 (r1.length : Int)), (11, .int .i64 (i1 : Int))] 20 a w') List.length r1 ⟨0, p_from, ⟨[], rfl, rfl⟩, h, S.nf [] rfl ⟨rfl, rfl, rfl, rfl, trivial⟩⟩ ?_
    clear S h; rintro ys1 a w2 ⟨i1, x1, ⟨dn, hd1, hi1⟩, h, S⟩
    cases ys1 with
    | nil =>
      rw [tumbref2_EndOf_l1.eq_1] at h
      refine f_seq ?_
      refine f_region ?_
      refine lv S (rn_lss (S.tm rfl) (S.tm rfl)) rfl ?_; clear S; intro a S
      refine l_done ?_
      replace S := S.nf (L' := []) (K' := [(1, .int .i64 x1), (9, v1), (10, .int .i64 (r1.length : Int)), (11, .int .i64 (i1 : Int)), (12, .bool (decide ((i1 : Int) < (r1.length : Int))))]) [] rfl ⟨rfl, rfl, rfl, rfl, rfl, trivial⟩
      refine then_n ?_
      refine f_seq ?_
      refine wp_cond_false ((S.tm rfl).trans (congrArg Value.bool (rng_nil hd1 hi1))) ?_
      refine wp_exit ?_
      refine then_x ?_
      refine then_x ?_
      refine x_same ?_
      refine then_n ?_
      exact ⟨x1, h, S.nf [] rfl ⟨rfl, trivial⟩⟩
    | cons y1 ys1 =>
      rw [tumbref2_EndOf_l1.eq_2] at h
      refine f_seq ?_
      refine f_region ?_
      refine lv S (rn_lss (S.tm rfl) (S.tm rfl)) rfl ?_; clear S; intro a S
      refine l_done ?_
      replace S := S.nf (L' := []) (K' := [(1, .int .i64 x1), (9, v1), (10, .int .i64 (r1.length : Int)), (11, .int .i64 (i1 : Int)), (12, .bool (decide ((i1 : Int) < (r1.length : Int))))]) [] rfl ⟨rfl, rfl, rfl, rfl, rfl, trivial⟩
      refine then_n ?_
      refine f_seq ?_
      refine wp_cond_true ((S.tm rfl).trans (congrArg Value.bool (rng_cons hd1 hi1))) ?_
      refine wp_skip ?_
      refine then_n ?_
      refine f_seq ?_
      refine wp_block ?_
      refine f_seq ?_
      refine f_region ?_
      obtain ⟨b1, o1, hm2, hr2⟩ := rn_indexT (a := a) (x := .tmp 9) (y := .tmp 11) (ty := 0) sl_32 (ownV_slcT GSlot.enc_ok hs1) (get_mid hd1 hi1) rfl (S.tm rfl) (S.tm rfl)
      refine lv S (hr2 _) rfl ?_; clear S; intro a S
      clear hr2
      refine lv S (rn_ldA Tryd.isAgg53 Tryd.sizeOf53 (off := o1) (o := 0) (part := [.string y1.Item, .int .i64 y1.Heat, .int .i64 y1.Time.From, .int .i64 y1.Time.To]) rfl rfl (S.tm rfl) (hm2.at S.emb)) rfl ?_; clear S; intro a S
      refine l_alloc S Tryd.zeroValue53 (cs := [.string k_empty, .int .i64 0, .int .i64 0, .int .i64 0]) rfl rfl ?_; clear S; intro a w4 b2 hz2 hk2 S
      refine l_store S (S.tm rfl) (S.tm rfl) (i := 0) (off := 0) rfl Tryd.sizeOf53 (vs := [.string y1.Item, .int .i64 y1.Heat, .int .i64 y1.Time.From, .int .i64 y1.Time.To]) rfl rfl rfl rfl ?_; clear S; intro w5 hk3 S
      refine l_done ?_
      replace S := S.nf (L' := [.blk b2 [.string y1.Item, .int .i64 y1.Heat, .int .i64 y1.Time.From, .int .i64 y1.Time.To] 53]) (K' := [(6, .pointer (some ⟨b2, 0, none⟩)), (9, v1), (10, .int .i64 (r1.length : Int)), (11, .int .i64 (i1 : Int))]) [true] rfl ⟨rfl, rfl, rfl, rfl, trivial⟩
      refine then_n ?_
      refine f_region ?_
      refine lv S (rn_fld fa_53_2 (S.tm rfl)) rfl ?_; clear S; intro a S
      refine lv S (rn_fld fa_31_1 (S.tm rfl)) rfl ?_; clear S; intro a S
      refine lv S (rn_load Tryd.isAgg3 (S.tm rfl) (S.cell (i := 0) rfl rfl)) rfl ?_; clear S; intro a S
      refine lv S (rn_assign (S.tm rfl)) rfl ?_; clear S; intro a S
      refine l_done ?_
      replace S := S.nf (L' := []) (K' := [(1, .int .i64 y1.Time.To), (9, v1), (10, .int .i64 (r1.length : Int)), (11, .int .i64 (i1 : Int))]) [false] rfl ⟨rfl, rfl, rfl, rfl, trivial⟩
      refine blk_n ?_
      refine then_n ?_
      refine f_region ?_
      refine lv S (rn_add (S.tm rfl) rfl) rfl ?_; clear S; intro a S
      refine lv S (rn_move (S.tm rfl)) rfl ?_; clear S; intro a S
      refine l_done ?_
      replace S := S.nf (L' := []) (K' := [(1, .int .i64 y1.Time.To), (9, v1), (10, .int .i64 (r1.length : Int)), (11, .int .i64 (W ((i1 : Int) + 1)))]) [] rfl ⟨rfl, rfl, rfl, rfl, trivial⟩
      refine then_n ?_
      exact ⟨ys1, ⟨i1 + 1, y1.Time.To, ⟨_, (hd1).trans (List.append_cons _ _ _), by simp [hi1]⟩, h, S.nf [] rfl ⟨rfl, rfl, rfl, (congrArg (fun z => some (Value.int .i64 z)) (rng_next hd1 hi1 (slc_max (ownV_slcT GSlot.enc_ok hs1)))), trivial⟩⟩, Nat.lt_succ_self _⟩
  clear S h; rintro a w3 ⟨x1, h, S⟩; rw [hj1] at h; clear hj1 j1
  refine then_n ?_
  refine f_seq ?_
  refine f_region ?_
  refine lv S (rn_move (S.tm rfl)) rfl ?_; clear S; intro a S
  refine lv S (rn_assign (S.tm rfl)) rfl ?_; clear S; intro a S
  refine l_done ?_
  replace S := S.nf (L' := []) (K' := [(4, .int .i64 x1)]) [] rfl ⟨rfl, trivial⟩
  refine then_n ?_
  refine wp_ret ?_
  obtain rfl := Option.some.inj h
  exact f_ret S Tryd.results17 rfl rfl
theorem tumbref2_FromFault_ok (w : World) (v_p_l : Value) (p_l : List GItem) (hs_p_l : Slc (view w []) 5 v_p_l (p_l.map GItem.enc)) (p_from : Int) (r : Int) (h : tumbref2_FromFault p_l p_from = some r) :
    Calls Tryd.prog 12 [v_p_l, .int .i64 p_from].toArray w (Ret w [] fun τ v w' => v = .int .i64 r) := by
  refine f_enter [] [] Tryd.func12 rfl Tryd.ntmps12 rfl (by simp) (by simp [fps]) (by simp [fps]) fun a S => ?_
  unfold tumbref2_FromFault at h
  replace S := S.nf (L' := []) (K' := [(0, v_p_l), (1, .int .i64 p_from)]) [] rfl ⟨rfl, rfl, trivial⟩
  refine f_seq ?_
  refine f_region ?_
  refine lv S (rn_assign rfl) rfl ?_; clear S; intro a S
  refine l_done ?_
  replace S := S.nf (L' := []) (K' := [(0, v_p_l), (1, .int .i64 p_from)]) [] rfl ⟨rfl, rfl, trivial⟩
  refine then_n ?_
  refine f_seq ?_
  refine f_seq ?_
  refine f_region ?_
  refine lv S (rn_move (S.tm rfl)) rfl ?_; clear S; intro a S
  refine l_enter S (fun _ => run_call (vs := [.int .i64 p_from]) ⟨(S.tm rfl), trivial⟩ Tryd.call36) (tumbref2_Moment_ok _ p_from _ rfl) rfl ?_; clear S; intro v1 a w1 hv1 hk1 hn1 S
  subst hv1
  refine lv S (rn_not (S.tm rfl)) rfl ?_; clear S; intro a S
  refine lv S (rn_move (S.tm rfl)) rfl ?_; clear S; intro a S
  obtain ⟨j1, hj1, h⟩ := joinE h
  refine f_cutm 5 (fun a w' => ∃ c1, j1 c1 = some r ∧ Keep [] w1 w' ∧ Sx w [] nov [] [(13, .bool c1)] 14 a w') ?_ ?_
  · rcases Bool.eq_false_or_eq_true (!(tumbref2_Moment p_from)) with hb1 | hb1
    · replace h := iteT h hb1
      refine l_skip S rfl rfl rfl (by rw [hb1]; rfl) rfl ?_ rfl; clear S; intro a S
      refine l_skip S rfl rfl rfl (by rw [hb1]; rfl) rfl ?_ rfl; clear S; intro a S
      refine l_skip S rfl rfl rfl (by rw [hb1]; rfl) rfl ?_ rfl; clear S; intro a S
      refine l_skip S rfl rfl rfl (by rw [hb1]; rfl) rfl ?_ rfl; clear S; intro a S
      refine lv S (rn_or_t true hb1 (S.tm rfl) rfl) rfl ?_; clear S; intro a S
      refine l_done ?_
      refine then_n ?_
      exact ⟨_, h, Keep.refl _ _, S.nf [] rfl ⟨rfl, trivial⟩⟩
    · replace h := iteF h hb1
      refine l_want S rfl rfl rfl hb1 ?_
      refine lv S (rn_move (S.tm rfl)) rfl ?_; clear S; intro a S
      refine l_want S rfl rfl rfl hb1 ?_
      refine lv S (rn_move (S.tm rfl)) rfl ?_; clear S; intro a S
      refine l_want S rfl rfl rfl hb1 ?_
      obtain ⟨r1, hr1, h⟩ := bindE h
      refine l_enter S (fun _ => run_call (vs := [v_p_l, .int .i64 p_from]) ⟨(S.tm rfl), (S.tm rfl), trivial⟩ Tryd.call17) (tumbref2_EndOf_ok _ v_p_l p_l (hs_p_l.mono (S.le_arg nil_sub)) p_from _ hr1) rfl ?_; clear S; intro v2 a w3 hv2 hk2 hn2 S
      subst hv2
      refine l_want S rfl rfl rfl hb1 ?_
      refine lv S (rn_gtr (S.tm rfl) rfl) rfl ?_; clear S; intro a S
      refine lv S (rn_or_f hb1 (S.tm rfl) (S.tm rfl)) rfl ?_; clear S; intro a S
      refine l_done ?_
      refine then_n ?_
      exact ⟨_, h, hk2, S.nf [] rfl ⟨rfl, trivial⟩⟩
  clear S h; rintro a w2 ⟨c1, h, hk3, S⟩; rw [hj1] at h; clear hj1 j1
  refine l_done ?_
  replace S := S.nf (L' := []) (K' := [(13, .bool c1)]) [] rfl ⟨rfl, trivial⟩
  refine then_n ?_
  refine f_cond (S.tm rfl) (fun hb2 => ?_) (fun hb2 => ?_)
  · replace h := iteT h hb2
    refine f_seq ?_
    refine f_region ?_
    refine lv S (rn_assign rfl) rfl ?_; clear S; intro a S
    refine l_done ?_
    replace S := S.nf (L' := []) (K' := [(4, .int .i64 1)]) [] rfl ⟨rfl, trivial⟩
    refine then_n ?_
    refine wp_ret ?_
    refine then_r ?_
    obtain rfl := Option.some.inj h
    exact f_ret S Tryd.results12 rfl rfl
  · replace h := iteF h hb2
    refine wp_skip ?_
    refine then_n ?_
    refine f_seq ?_
    refine f_region ?_
    refine lv S (rn_assign rfl) rfl ?_; clear S; intro a S
    refine l_done ?_
    replace S := S.nf (L' := []) (K' := [(4, .int .i64 0)]) [] rfl ⟨rfl, trivial⟩
    refine then_n ?_
    refine wp_ret ?_
    obtain rfl := Option.some.inj h
    exact f_ret S Tryd.results12 rfl rfl
end Go.Proofs.YtfejddpblajggaaDoor
