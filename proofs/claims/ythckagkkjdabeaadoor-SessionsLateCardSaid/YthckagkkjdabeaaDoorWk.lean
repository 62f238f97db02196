/- Each Go function computes its plain twin, by program. -/
import Derived.Test.YthckagkkjdabeaaDoorWk2
namespace Go.Proofs.YthckagkkjdabeaaDoor
open Go
theorem tumblaw2_SessionsLate_ok (w : World) (v_p_l : Value) (p_l : List Int) (hs_p_l : Slc (view w []) 1 v_p_l (p_l.map eInt)) (r : Bool) (h : tumblaw2_SessionsLate p_l = some r) :
    Calls Tryd.prog 3 [v_p_l].toArray w (Ret w [] fun τ v w' => v = .bool r) := by
  refine f_enter [] [] Tryd.func3 rfl Tryd.ntmps3 rfl (by simp) (by simp [fps]) (by simp [fps]) fun a S => ?_
  unfold tumblaw2_SessionsLate at h
  replace S := S.nf (L' := []) (K' := [(0, v_p_l)]) [] rfl ⟨rfl, trivial⟩
  refine f_seq ?_
  refine f_region ?_
  refine lv S (rn_assign rfl) rfl ?_; clear S; intro a S
  refine l_done ?_
  replace S := S.nf (L' := []) (K' := [(0, v_p_l)]) [] rfl ⟨rfl, trivial⟩
  refine then_n ?_
  refine f_seq ?_
  refine f_region ?_
  refine lv S (rn_move (S.tm rfl)) rfl ?_; clear S; intro a S
  refine lv S (rn_bld bt_25 (pv := [(0, v_p_l)]) ⟨rfl, (S.tm rfl), trivial⟩ (cs := [v_p_l, .int .i64 0]) (by obtain ⟨_, _, hv⟩ := (slc_len hs_p_l); rw [hv]; clear hv; kernel_rfl)) rfl ?_; clear S; intro a S
  refine l_box S (S.tm rfl) (cs := [v_p_l, .int .i64 0]) rfl rfl ?_; clear S; intro a w1 b1 hz1 hk1 S
  refine lv S (rn_assign (S.tm rfl)) rfl ?_; clear S; intro a S
  refine l_done ?_
  replace S := S.nf (L' := [.blk b1 [v_p_l, .int .i64 0] 25]) (K' := [(3, .pointer (some ⟨b1, 0, none⟩))]) [true] rfl ⟨rfl, trivial⟩
  refine then_n ?_
  refine f_seq ?_
  refine f_region ?_
  refine lv S (rn_move (S.tm rfl)) rfl ?_; clear S; intro a S
  obtain ⟨r1, hr1, h⟩ := bindE h
  have hz2 := S.keep.size
  refine l_enter1 0 S (b := b1) rfl rfl (fun _ => .blk b1 [v_p_l, .int .i64 r1.2] 25) (fun _ => run_call (vs := [.pointer (some ⟨b1, 0, none⟩), .int .i64 4]) ⟨(S.tm rfl), rfl, trivial⟩ Tryd.call4) (Stream_Items_ok _ b1 v_p_l p_l (hs_p_l.mono (S.le_arg (fp_sub (i := 0) (e := .blk b1 [v_p_l, .int .i64 0] 25) rfl))) 0 (S.holds _ (List.mem_of_getElem? (i := 0) rfl)) 4 _ hr1) rfl (fun _ _ _ h => ⟨h.1, fun _ hc => by cases hc; rfl⟩) ?_; clear S; intro v1 a w2 hv1 hk2 hn1 S
  replace hv1 := hv1.2
  obtain ⟨φ1, hl1, hm1, S⟩ := S.see' hn1 hz2
  have hs1 := hv1.mono hm1
  refine lv S (rn_move (S.tm rfl)) rfl ?_; clear S; intro a S
  obtain ⟨r2, hr2, h⟩ := bindE h
  refine l_enter1 0 S (b := b1) rfl rfl (fun _ => .blk b1 [v_p_l, .int .i64 r2.2] 25) (fun _ => run_call (vs := [.pointer (some ⟨b1, 0, none⟩)]) ⟨(S.tm rfl), trivial⟩ Tryd.call5) (Stream_SessionStart_ok _ b1 v_p_l p_l (hs_p_l.mono (S.le_arg (fp_sub (i := 0) (e := .blk b1 [v_p_l, .int .i64 r1.2] 25) rfl))) r1.2 (S.holds _ (List.mem_of_getElem? (i := 0) rfl)) _ hr2) rfl (fun _ _ _ h => ⟨h.1, fun _ hc => by cases hc; rfl⟩) ?_; clear S; intro v2 a w3 hv2 hk3 hn2 S
  replace hv2 := hv2.2
  subst hv2
  refine lv S (rn_move (S.tm rfl)) rfl ?_; clear S; intro a S
  refine l_buildSlice S Tryd.underlying22 Tryd.sizeOf3 Tryd.zeroValue3 rfl rfl (pv := [(0, .int .i64 0), (1, .int .i64 50), (2, .int .i64 150), (3, .int .i64 400), (4, .int .i64 2000), (5, .int .i64 (-1))]) ⟨rfl, rfl, rfl, rfl, rfl, rfl, rfl, rfl, rfl, rfl, rfl, rfl, trivial⟩ (cs := [.int .i64 0, .int .i64 50, .int .i64 150, .int .i64 400, .int .i64 2000, .int .i64 (-1)]) (by kernel_rfl) rfl ?_; clear S; intro a w4 b2 hz3 hk4 S
  obtain ⟨r3, hr3, h⟩ := bindE h
  refine l_enter1 1 S (b := b1) rfl rfl (fun _ => .blk b1 [v_p_l, .int .i64 r3.2] 25) (fun _ => run_call (vs := [.pointer (some ⟨b1, 0, none⟩), .slice (some ⟨b2, 0, none⟩) 6 6]) ⟨(S.tm rfl), (S.tm rfl), trivial⟩ Tryd.call6) (Stream_Pick_ok _ b1 v_p_l p_l (hs_p_l.mono (S.le_arg (fp_sub (i := 1) (e := .blk b1 [v_p_l, .int .i64 r2.2] 25) rfl))) r2.2 (S.holds _ (List.mem_of_getElem? (i := 1) rfl)) (.slice (some ⟨b2, 0, none⟩) 6 6) [0, 50, 150, 400, 2000, (-1)] (lit_slcT enc_int S (i := 0) rfl rfl rfl rfl ((ne_fp (i := 1) (j := 0) (e := .blk b1 [v_p_l, .int .i64 r2.2] 25) (e' := .blk b2 [.int .i64 0, .int .i64 50, .int .i64 150, .int .i64 400, .int .i64 2000, .int .i64 (-1)] 3) S rfl rfl rfl) _ rfl)) _ hr3) rfl (fun _ _ _ h => ⟨h.1, fun _ hc => by cases hc; rfl⟩) ?_; clear S; intro v3 a w5 hv3 hk5 hn3 S
  replace hv3 := hv3.2
  subst hv3
  refine lv S (rn_assign (S.tm rfl)) rfl ?_; clear S; intro a S
  refine lv S (rn_assign (S.tm rfl)) rfl ?_; clear S; intro a S
  refine lv S (rn_assign (S.tm rfl)) rfl ?_; clear S; intro a S
  refine l_done ?_
  replace S := S.nf (L' := [.blk b1 [v_p_l, .int .i64 r3.2] 25]) (K' := [(3, .pointer (some ⟨b1, 0, none⟩)), (4, v1), (5, .int .i64 r2.1), (6, .int .i64 r3.1)]) [false, true] rfl ⟨rfl, rfl, rfl, rfl, trivial⟩
  refine then_n ?_
  refine f_seq ?_
  refine f_region ?_
  refine lv S (rn_move (S.tm rfl)) rfl ?_; clear S; intro a S
  refine lv S (rn_move (S.tm rfl)) rfl ?_; clear S; intro a S
  obtain ⟨r4, hr4, h⟩ := bindE h
  have hz4 := S.keep.size
  refine l_enter1 0 S (b := b1) rfl rfl (fun _ => .blk b1 [v_p_l, .int .i64 r4.2] 25) (fun _ => run_call (vs := [.pointer (some ⟨b1, 0, none⟩), v1]) ⟨(S.tm rfl), (S.tm rfl), trivial⟩ Tryd.call7) (Stream_Helds_ok _ b1 v_p_l p_l (hs_p_l.mono (S.le_arg (fp_sub (i := 0) (e := .blk b1 [v_p_l, .int .i64 r3.2] 25) rfl))) r3.2 (S.holds _ (List.mem_of_getElem? (i := 0) rfl)) v1 r1.1 (((ownV_slcT GItem.enc_ok hs1)).mono (S.le_new (fp_sub (i := 0) (e := .blk b1 [v_p_l, .int .i64 r3.2] 25) rfl))) _ hr4) rfl (fun _ _ _ h => ⟨h.1, fun _ hc => by cases hc; rfl⟩) ?_; clear S; intro v4 a w6 hv4 hk6 hn4 S
  replace hv4 := hv4.2
  obtain ⟨φ2, hl2, hm2, S⟩ := S.see' hn4 hz4
  have hs2 := hv4.mono hm2
  refine lv S (rn_assign (S.tm rfl)) rfl ?_; clear S; intro a S
  refine l_done ?_
  replace S := S.nf (L' := []) (K' := [(4, v1), (5, .int .i64 r2.1), (6, .int .i64 r3.1), (7, v4)]) [false] rfl ⟨rfl, rfl, rfl, rfl, trivial⟩
  refine then_n ?_
  refine f_seq ?_
  refine f_region ?_
  refine lv S (rn_move (S.tm rfl)) rfl ?_; clear S; intro a S
  refine lv S (rn_move (S.tm rfl)) rfl ?_; clear S; intro a S
  refine lv S (rn_move (S.tm rfl)) rfl ?_; clear S; intro a S
  obtain ⟨r5, hr5, h⟩ := bindE h
  have hz5 := S.keep.size
  refine l_enter S (fun _ => run_call (vs := [v1, .int .i64 r2.1, v4]) ⟨(S.tm rfl), (S.tm rfl), (S.tm rfl), trivial⟩ Tryd.call8) (session_Live_ok _ v1 r1.1 (((ownV_slcT GItem.enc_ok hs1).mono hl2).mono (S.le_new nil_sub)) r2.1 v4 r4.1 (((ownV_slcT GHeld.enc_ok hs2)).mono (S.le_new nil_sub)) _ hr5) rfl ?_; clear S; intro v5 a w7 hv5 hk7 hn5 S
  obtain ⟨u3, rfl, ho3⟩ := hv5
  obtain ⟨φ3, hl3, hm3, S⟩ := S.see' hn5 hz5
  have hs3 := ho3.mono hm3
  refine lv S (rn_move (S.tm rfl)) rfl ?_; clear S; intro a S
  refine lv S (rn_extract (S.tm rfl) rfl) rfl ?_; clear S; intro a S
  refine lv S (rn_extract (S.tm rfl) rfl) rfl ?_; clear S; intro a S
  refine lv S (rn_assign (S.tm rfl)) rfl ?_; clear S; intro a S
  refine lv S (rn_assign (S.tm rfl)) rfl ?_; clear S; intro a S
  refine l_done ?_
  replace S := S.nf (L' := []) (K' := [(4, v1), (5, .int .i64 r2.1), (6, .int .i64 r3.1), (7, v4), (8, u3), (9, .int .i64 r5.2)]) [] rfl ⟨rfl, rfl, rfl, rfl, rfl, rfl, trivial⟩
  refine then_n ?_
  refine f_seq ?_
  refine f_region ?_
  refine lv S (rn_move (S.tm rfl)) rfl ?_; clear S; intro a S
  refine lv S (rn_move (S.tm rfl)) rfl ?_; clear S; intro a S
  refine lv S (rn_move (S.tm rfl)) rfl ?_; clear S; intro a S
  obtain ⟨r6, hr6, h⟩ := bindE h
  refine l_enter S (fun _ => run_call (vs := [v1, .int .i64 r2.1, v4]) ⟨(S.tm rfl), (S.tm rfl), (S.tm rfl), trivial⟩ Tryd.call9) (session_Behind_ok _ v1 r1.1 (((ownV_slcT GItem.enc_ok hs1).mono (View.le_trans hl2 hl3)).mono (S.le_new nil_sub)) r2.1 v4 r4.1 (((ownV_slcT GHeld.enc_ok hs2).mono hl3).mono (S.le_new nil_sub)) _ hr6) rfl ?_; clear S; intro v6 a w8 hv6 hk8 hn6 S
  subst hv6
  refine lv S (rn_move (S.tm rfl)) rfl ?_; clear S; intro a S
  refine lv S (rn_extract (S.tm rfl) rfl) rfl ?_; clear S; intro a S
  refine lv S (rn_extract (S.tm rfl) rfl) rfl ?_; clear S; intro a S
  refine lv S (rn_assign (S.tm rfl)) rfl ?_; clear S; intro a S
  refine lv S (rn_assign (S.tm rfl)) rfl ?_; clear S; intro a S
  refine l_done ?_
  replace S := S.nf (L' := []) (K' := [(4, v1), (5, .int .i64 r2.1), (6, .int .i64 r3.1), (7, v4), (8, u3), (9, .int .i64 r5.2), (10, .int .i64 r6.1), (11, .int .i64 r6.2)]) [] rfl ⟨rfl, rfl, rfl, rfl, rfl, rfl, rfl, rfl, trivial⟩
  refine then_n ?_
  refine f_seq ?_
  refine f_region ?_
  refine lv S (rn_move (S.tm rfl)) rfl ?_; clear S; intro a S
  refine lv S (rn_move (S.tm rfl)) rfl ?_; clear S; intro a S
  refine lv S (rn_move (S.tm rfl)) rfl ?_; clear S; intro a S
  refine lv S (rn_move (S.tm rfl)) rfl ?_; clear S; intro a S
  obtain ⟨r7, hr7, h⟩ := bindE h
  refine l_enter S (fun _ => run_call (vs := [v1, .int .i64 r2.1, v4, .int .i64 r3.1]) ⟨(S.tm rfl), (S.tm rfl), (S.tm rfl), (S.tm rfl), trivial⟩ Tryd.call10) (session_Now_ok _ v1 r1.1 (((ownV_slcT GItem.enc_ok hs1).mono (View.le_trans hl2 hl3)).mono (S.le_new nil_sub)) r2.1 v4 r4.1 (((ownV_slcT GHeld.enc_ok hs2).mono hl3).mono (S.le_new nil_sub)) r3.1 _ hr7) rfl ?_; clear S; intro v7 a w9 hv7 hk9 hn7 S
  subst hv7
  refine lv S (rn_move (S.tm rfl)) rfl ?_; clear S; intro a S
  refine lv S (rn_extract (S.tm rfl) rfl) rfl ?_; clear S; intro a S
  refine lv S (rn_extract (S.tm rfl) rfl) rfl ?_; clear S; intro a S
  refine lv S (rn_extract (S.tm rfl) rfl) rfl ?_; clear S; intro a S
  refine l_alloc S Tryd.zeroValue41 (cs := [.string k_empty, .int .i64 0, .int .i64 0, .int .i64 0]) rfl rfl ?_; clear S; intro a w10 b3 hz6 hk10 S
  refine l_store S (S.tm rfl) (S.tm rfl) (i := 0) (off := 0) rfl Tryd.sizeOf41 (vs := [.string r7.1.Item, .int .i64 r7.1.Heat, .int .i64 r7.1.Time.From, .int .i64 r7.1.Time.To]) rfl rfl rfl rfl ?_; clear S; intro w11 hk11 S
  refine lv S (rn_assign (S.tm rfl)) rfl ?_; clear S; intro a S
  refine lv S (rn_assign (S.tm rfl)) rfl ?_; clear S; intro a S
  refine l_done ?_
  replace S := S.nf (L' := [.blk b3 [.string r7.1.Item, .int .i64 r7.1.Heat, .int .i64 r7.1.Time.From, .int .i64 r7.1.Time.To] 41]) (K' := [(4, v1), (5, .int .i64 r2.1), (6, .int .i64 r3.1), (7, v4), (8, u3), (9, .int .i64 r5.2), (10, .int .i64 r6.1), (11, .int .i64 r6.2), (12, .pointer (some ⟨b3, 0, none⟩)), (13, .bool r7.2.1), (14, .int .i64 r7.2.2)]) [true] rfl ⟨rfl, rfl, rfl, rfl, rfl, rfl, rfl, rfl, rfl, rfl, rfl, trivial⟩
  refine then_n ?_
  refine f_seq ?_
  refine f_region ?_
  refine lv S (rn_move (S.tm rfl)) rfl ?_; clear S; intro a S
  refine lv S (rn_move (S.tm rfl)) rfl ?_; clear S; intro a S
  refine lv S (rn_move (S.tm rfl)) rfl ?_; clear S; intro a S
  obtain ⟨r8, hr8, h⟩ := bindE h
  refine l_enter S (fun _ => run_call (vs := [v1, .int .i64 r2.1, v4]) ⟨(S.tm rfl), (S.tm rfl), (S.tm rfl), trivial⟩ Tryd.call11) (tumbref2_LiveFault_ok _ v1 r1.1 (((ownV_slcT GItem.enc_ok hs1).mono (View.le_trans hl2 hl3)).mono (S.le_new nil_sub)) r2.1 v4 r4.1 (((ownV_slcT GHeld.enc_ok hs2).mono hl3).mono (S.le_new nil_sub)) _ hr8) rfl ?_; clear S; intro v8 a w12 hv8 hk12 hn8 S
  subst hv8
  refine lv S (rn_assign (S.tm rfl)) rfl ?_; clear S; intro a S
  refine l_done ?_
  replace S := S.nf (L' := [.blk b3 [.string r7.1.Item, .int .i64 r7.1.Heat, .int .i64 r7.1.Time.From, .int .i64 r7.1.Time.To] 41]) (K' := [(4, v1), (5, .int .i64 r2.1), (6, .int .i64 r3.1), (7, v4), (8, u3), (9, .int .i64 r5.2), (10, .int .i64 r6.1), (11, .int .i64 r6.2), (12, .pointer (some ⟨b3, 0, none⟩)), (13, .bool r7.2.1), (14, .int .i64 r7.2.2), (15, .int .i64 r8)]) [true] rfl ⟨rfl, rfl, rfl, rfl, rfl, rfl, rfl, rfl, rfl, rfl, rfl, rfl, trivial⟩
  refine then_n ?_
  refine f_seq ?_
  refine f_region ?_
  refine lv S (rn_move (S.tm rfl)) rfl ?_; clear S; intro a S
  refine lv S (rn_move (S.tm rfl)) rfl ?_; clear S; intro a S
  refine l_enter S (fun _ => run_call (vs := [.int .i64 r3.1]) ⟨(S.tm rfl), trivial⟩ Tryd.call13) (tumblaw2_momentFault_ok _ r3.1 _ rfl) rfl ?_; clear S; intro v9 a w13 hv9 hk13 hn9 S
  subst hv9
  refine l_buildSlice S Tryd.underlying68 Tryd.sizeOf33 Tryd.zeroValue33 rfl rfl (pv := [(0, .int .i64 r8), (1, .int .i64 (tumblaw2_momentFault r3.1))]) ⟨rfl, (S.tm rfl), rfl, (S.tm rfl), trivial⟩ (cs := [.int .i64 r8, .int .i64 (tumblaw2_momentFault r3.1)]) (by kernel_rfl) rfl ?_; clear S; intro a w14 b4 hz7 hk14 S
  refine l_enter S (fun _ => run_call (vs := [.slice (some ⟨b4, 0, none⟩) 2 2]) ⟨(S.tm rfl), trivial⟩ Tryd.call12) (tumblaw2_errs_ok _ (.slice (some ⟨b4, 0, none⟩) 2 2) [r8, (tumblaw2_momentFault r3.1)] (lit_slcT enc_int S (i := 0) rfl rfl rfl rfl ((ne_nil (e' := .blk b4 [.int .i64 r8, .int .i64 (tumblaw2_momentFault r3.1)] 33)) _ rfl)) _ rfl) rfl ?_; clear S; intro v10 a w15 hv10 hk15 hn10 S
  subst hv10
  refine lv S (rn_assign (S.tm rfl)) rfl ?_; clear S; intro a S
  refine l_done ?_
  replace S := S.nf (L' := [.blk b3 [.string r7.1.Item, .int .i64 r7.1.Heat, .int .i64 r7.1.Time.From, .int .i64 r7.1.Time.To] 41]) (K' := [(4, v1), (5, .int .i64 r2.1), (6, .int .i64 r3.1), (7, v4), (8, u3), (9, .int .i64 r5.2), (10, .int .i64 r6.1), (11, .int .i64 r6.2), (12, .pointer (some ⟨b3, 0, none⟩)), (13, .bool r7.2.1), (14, .int .i64 r7.2.2), (15, .int .i64 r8), (16, .int .i64 (tumblaw2_errs [r8, (tumblaw2_momentFault r3.1)]))]) [false, true] rfl ⟨rfl, rfl, rfl, rfl, rfl, rfl, rfl, rfl, rfl, rfl, rfl, rfl, rfl, trivial⟩
  refine then_n ?_
  refine f_seq ?_
  refine f_region ?_
  refine lv S (rn_assign rfl) rfl ?_; clear S; intro a S
  refine l_done ?_
  replace S := S.nf (L' := [.blk b3 [.string r7.1.Item, .int .i64 r7.1.Heat, .int .i64 r7.1.Time.From, .int .i64 r7.1.Time.To] 41]) (K' := [(4, v1), (5, .int .i64 r2.1), (6, .int .i64 r3.1), (7, v4), (8, u3), (9, .int .i64 r5.2), (10, .int .i64 r6.1), (11, .int .i64 r6.2), (12, .pointer (some ⟨b3, 0, none⟩)), (13, .bool r7.2.1), (14, .int .i64 r7.2.2), (15, .int .i64 r8), (16, .int .i64 (tumblaw2_errs [r8, (tumblaw2_momentFault r3.1)])), (17, .slice none 0 0)]) [true] rfl ⟨rfl, rfl, rfl, rfl, rfl, rfl, rfl, rfl, rfl, rfl, rfl, rfl, rfl, rfl, trivial⟩
  refine then_n ?_
  refine f_seq ?_
  refine f_region ?_
  refine lv S (rn_bld bt_41 (pv := []) trivial (cs := [.string k_empty, .int .i64 0, .int .i64 0, .int .i64 0]) (by kernel_rfl)) rfl ?_; clear S; intro a S
  refine l_alloc S Tryd.zeroValue41 (cs := [.string k_empty, .int .i64 0, .int .i64 0, .int .i64 0]) rfl rfl ?_; clear S; intro a w16 b5 hz8 hk16 S
  refine lv S (rn_assign rfl) rfl ?_; clear S; intro a S
  refine l_store S (S.tm rfl) (S.tm rfl) (i := 0) (off := 0) rfl Tryd.sizeOf41 (vs := [.string k_empty, .int .i64 0, .int .i64 0, .int .i64 0]) rfl rfl rfl rfl ?_; clear S; intro w17 hk17 S
  refine lv S (rn_assign rfl) rfl ?_; clear S; intro a S
  refine l_done ?_
  replace S := S.nf (L' := [.blk b5 [.string k_empty, .int .i64 0, .int .i64 0, .int .i64 0] 41, .blk b3 [.string r7.1.Item, .int .i64 r7.1.Heat, .int .i64 r7.1.Time.From, .int .i64 r7.1.Time.To] 41]) (K' := [(4, v1), (5, .int .i64 r2.1), (6, .int .i64 r3.1), (7, v4), (8, u3), (9, .int .i64 r5.2), (10, .int .i64 r6.1), (11, .int .i64 r6.2), (12, .pointer (some ⟨b3, 0, none⟩)), (13, .bool r7.2.1), (14, .int .i64 r7.2.2), (15, .int .i64 r8), (16, .int .i64 (tumblaw2_errs [r8, (tumblaw2_momentFault r3.1)])), (17, .slice none 0 0), (18, .int .i64 0), (19, .pointer (some ⟨b5, 0, none⟩)), (20, .bool false)]) [true, true] rfl ⟨rfl, rfl, rfl, rfl, rfl, rfl, rfl, rfl, rfl, rfl, rfl, rfl, rfl, rfl, rfl, rfl, rfl, trivial⟩
  refine then_n ?_
  refine f_seq ?_
  refine f_seq ?_
  refine f_region ?_
  refine lv S (rn_move (S.tm rfl)) rfl ?_; clear S; intro a S
  refine lv S (rn_eql (S.tm rfl) rfl) rfl ?_; clear S; intro a S
  refine l_done ?_
  replace S := S.nf (L' := [.blk b5 [.string k_empty, .int .i64 0, .int .i64 0, .int .i64 0] 41, .blk b3 [.string r7.1.Item, .int .i64 r7.1.Heat, .int .i64 r7.1.Time.From, .int .i64 r7.1.Time.To] 41]) (K' := [(4, v1), (5, .int .i64 r2.1), (6, .int .i64 r3.1), (7, v4), (8, u3), (9, .int .i64 r5.2), (10, .int .i64 r6.1), (11, .int .i64 r6.2), (12, .pointer (some ⟨b3, 0, none⟩)), (13, .bool r7.2.1), (14, .int .i64 r7.2.2), (15, .int .i64 r8), (16, .int .i64 (tumblaw2_errs [r8, (tumblaw2_momentFault r3.1)])), (17, .slice none 0 0), (18, .int .i64 0), (19, .pointer (some ⟨b5, 0, none⟩)), (20, .bool false), (68, .bool (decide (r8 = 0)))]) [true, true] rfl ⟨rfl, rfl, rfl, rfl, rfl, rfl, rfl, rfl, rfl, rfl, rfl, rfl, rfl, rfl, rfl, rfl, rfl, rfl, trivial⟩
  refine then_n ?_
  obtain ⟨j1, hj1, h⟩ := joinE h
  refine f_join (fun a w' => ∃ x1 : List GSlot, ∃ x2 : Int, ∃ φ4 : View, ∃ v11 : Value, j1 x1 x2 = some r ∧ View.le φ3 φ4 ∧ OwnV φ4 41 4 v11 x1.length (x1.flatMap GSlot.enc) ∧ Sx w [] φ4 [.blk b5 [.string k_empty, .int .i64 0, .int .i64 0, .int .i64 0] 41, .blk b3 [.string r7.1.Item, .int .i64 r7.1.Heat, .int .i64 r7.1.Time.From, .int .i64 r7.1.Time.To] 41] [(4, v1), (5, .int .i64 r2.1), (6, .int .i64 r3.1), (7, v4), (8, u3), (9, .int .i64 r5.2), (10, .int .i64 r6.1), (11, .int .i64 r6.2), (12, .pointer (some ⟨b3, 0, none⟩)), (13, .bool r7.2.1), (14, .int .i64 r7.2.2), (15, .int .i64 r8), (16, .int .i64 (tumblaw2_errs [r8, (tumblaw2_momentFault r3.1)])), (17, v11), (18, .int .i64 x2), (19, .pointer (some ⟨b5, 0, none⟩)), (20, .bool false)] 132 a w') ?_ ?_
  · refine f_cond (S.tm rfl) (fun hb1 => ?_) (fun hb1 => ?_)
    · replace h := iteT h hb1
      refine f_region ?_
      refine lv S (rn_move (S.tm rfl)) rfl ?_; clear S; intro a S
      refine lv S (rn_move (S.tm rfl)) rfl ?_; clear S; intro a S
      refine lv S (rn_move (S.tm rfl)) rfl ?_; clear S; intro a S
      obtain ⟨r9, hr9, h⟩ := bindE h
      have hz9 := S.keep.size
      refine l_enter S (fun _ => run_call (vs := [v1, .int .i64 r2.1, v4]) ⟨(S.tm rfl), (S.tm rfl), (S.tm rfl), trivial⟩ Tryd.call14) (tumbref2_LiveOf_ok _ v1 r1.1 (((ownV_slcT GItem.enc_ok hs1).mono (View.le_trans hl2 hl3)).mono (S.le_new nil_sub)) r2.1 v4 r4.1 (((ownV_slcT GHeld.enc_ok hs2).mono hl3).mono (S.le_new nil_sub)) _ hr9) rfl ?_; clear S; intro v12 a w19 hv11 hk18 hn11 S
      obtain ⟨φ5, hl5, hm4, S⟩ := S.see' hn11 hz9
      have hs5 := hv11.mono hm4
      refine lv S (rn_move (S.tm rfl)) rfl ?_; clear S; intro a S
      refine lv S (rn_move (S.tm rfl)) rfl ?_; clear S; intro a S
      refine lv S (rn_move (S.tm rfl)) rfl ?_; clear S; intro a S
      obtain ⟨r10, hr10, h⟩ := bindE h
      refine l_enter S (fun _ => run_call (vs := [v1, .int .i64 r2.1, v4]) ⟨(S.tm rfl), (S.tm rfl), (S.tm rfl), trivial⟩ Tryd.call15) (tumbref2_BehindOf_ok _ v1 r1.1 (((ownV_slcT GItem.enc_ok hs1).mono (View.le_trans (View.le_trans hl2 hl3) hl5)).mono (S.le_new nil_sub)) r2.1 v4 r4.1 (((ownV_slcT GHeld.enc_ok hs2).mono (View.le_trans hl3 hl5)).mono (S.le_new nil_sub)) _ hr10) rfl ?_; clear S; intro v13 a w20 hv12 hk19 hn12 S
      subst hv12
      refine lv S (rn_assign (S.tm rfl)) rfl ?_; clear S; intro a S
      refine lv S (rn_assign (S.tm rfl)) rfl ?_; clear S; intro a S
      refine l_done ?_
      replace S := S.nf (L' := [.blk b5 [.string k_empty, .int .i64 0, .int .i64 0, .int .i64 0] 41, .blk b3 [.string r7.1.Item, .int .i64 r7.1.Heat, .int .i64 r7.1.Time.From, .int .i64 r7.1.Time.To] 41]) (K' := [(4, v1), (5, .int .i64 r2.1), (6, .int .i64 r3.1), (7, v4), (8, u3), (9, .int .i64 r5.2), (10, .int .i64 r6.1), (11, .int .i64 r6.2), (12, .pointer (some ⟨b3, 0, none⟩)), (13, .bool r7.2.1), (14, .int .i64 r7.2.2), (15, .int .i64 r8), (16, .int .i64 (tumblaw2_errs [r8, (tumblaw2_momentFault r3.1)])), (17, v12), (18, .int .i64 r10), (19, .pointer (some ⟨b5, 0, none⟩)), (20, .bool false)]) [true, true] rfl ⟨rfl, rfl, rfl, rfl, rfl, rfl, rfl, rfl, rfl, rfl, rfl, rfl, rfl, rfl, rfl, rfl, rfl, trivial⟩
      refine then_n ?_
      exact ⟨r9, r10, φ5, v12, h, hl5, hs5, S.nf [true, true] rfl ⟨rfl, rfl, rfl, rfl, rfl, rfl, rfl, rfl, rfl, rfl, rfl, rfl, rfl, rfl, rfl, rfl, rfl, trivial⟩⟩
    · replace h := iteF h hb1
      refine wp_skip ?_
      refine then_n ?_
      exact ⟨([] : List GSlot), 0, φ3, .slice none 0 0, h, (View.le_refl _), (ownV_nil _ _ _), S.nf [true, true] rfl ⟨rfl, rfl, rfl, rfl, rfl, rfl, rfl, rfl, rfl, rfl, rfl, rfl, rfl, rfl, rfl, rfl, rfl, trivial⟩⟩
  clear S h; rintro a w18 ⟨x1, x2, φ4, v11, h, hl4, hs4, S⟩; rw [hj1] at h; clear hj1 j1
  refine then_n ?_
  refine f_seq ?_
  refine f_seq ?_
  refine f_region ?_
  refine lv S (rn_move (S.tm rfl)) rfl ?_; clear S; intro a S
  refine lv S (rn_eql (S.tm rfl) rfl) rfl ?_; clear S; intro a S
  refine l_done ?_
  replace S := S.nf (L' := [.blk b5 [.string k_empty, .int .i64 0, .int .i64 0, .int .i64 0] 41, .blk b3 [.string r7.1.Item, .int .i64 r7.1.Heat, .int .i64 r7.1.Time.From, .int .i64 r7.1.Time.To] 41]) (K' := [(4, v1), (5, .int .i64 r2.1), (6, .int .i64 r3.1), (7, v4), (8, u3), (9, .int .i64 r5.2), (10, .int .i64 r6.1), (11, .int .i64 r6.2), (12, .pointer (some ⟨b3, 0, none⟩)), (13, .bool r7.2.1), (14, .int .i64 r7.2.2), (15, .int .i64 r8), (16, .int .i64 (tumblaw2_errs [r8, (tumblaw2_momentFault r3.1)])), (17, v11), (18, .int .i64 x2), (19, .pointer (some ⟨b5, 0, none⟩)), (20, .bool false), (78, .bool (decide ((tumblaw2_errs [r8, (tumblaw2_momentFault r3.1)]) = 0)))]) [true, true] rfl ⟨rfl, rfl, rfl, rfl, rfl, rfl, rfl, rfl, rfl, rfl, rfl, rfl, rfl, rfl, rfl, rfl, rfl, rfl, trivial⟩
  refine then_n ?_
  obtain ⟨j2, hj2, h⟩ := joinE h
  refine f_join (fun a w' => ∃ x3 : ByteArray, ∃ x4 : Int, ∃ x5 : Int, ∃ x6 : Int, ∃ x7 : Bool, j2 x3 x4 x5 x6 x7 = some r ∧ Sx w [] φ4 [.blk b5 [.string x3, .int .i64 x4, .int .i64 x5, .int .i64 x6] 41, .blk b3 [.string r7.1.Item, .int .i64 r7.1.Heat, .int .i64 r7.1.Time.From, .int .i64 r7.1.Time.To] 41] [(4, v1), (7, v4), (8, u3), (9, .int .i64 r5.2), (10, .int .i64 r6.1), (11, .int .i64 r6.2), (12, .pointer (some ⟨b3, 0, none⟩)), (13, .bool r7.2.1), (14, .int .i64 r7.2.2), (15, .int .i64 r8), (16, .int .i64 (tumblaw2_errs [r8, (tumblaw2_momentFault r3.1)])), (17, v11), (18, .int .i64 x2), (19, .pointer (some ⟨b5, 0, none⟩)), (20, .bool x7)] 132 a w') ?_ ?_
  · refine f_cond (S.tm rfl) (fun hb2 => ?_) (fun hb2 => ?_)
    · replace h := iteT h hb2
      refine f_region ?_
      refine lv S (rn_move (S.tm rfl)) rfl ?_; clear S; intro a S
      refine lv S (rn_move (S.tm rfl)) rfl ?_; clear S; intro a S
      refine lv S (rn_move (S.tm rfl)) rfl ?_; clear S; intro a S
      refine lv S (rn_move (S.tm rfl)) rfl ?_; clear S; intro a S
      obtain ⟨r11, hr11, h⟩ := bindE h
      refine l_enter S (fun _ => run_call (vs := [v1, .int .i64 r2.1, v4, .int .i64 r3.1]) ⟨(S.tm rfl), (S.tm rfl), (S.tm rfl), (S.tm rfl), trivial⟩ Tryd.call16) (tumbref2_NowOf_ok _ v1 r1.1 (((ownV_slcT GItem.enc_ok hs1).mono (View.le_trans (View.le_trans hl2 hl3) hl4)).mono (S.le_new nil_sub)) r2.1 v4 r4.1 (((ownV_slcT GHeld.enc_ok hs2).mono (View.le_trans hl3 hl4)).mono (S.le_new nil_sub)) r3.1 _ hr11) rfl ?_; clear S; intro v14 a w22 hv13 hk20 hn13 S
      subst hv13
      refine lv S (rn_move (S.tm rfl)) rfl ?_; clear S; intro a S
      refine lv S (rn_extract (S.tm rfl) rfl) rfl ?_; clear S; intro a S
      refine lv S (rn_extract (S.tm rfl) rfl) rfl ?_; clear S; intro a S
      refine l_store S (S.tm rfl) (S.tm rfl) (i := 0) (off := 0) rfl Tryd.sizeOf41 (vs := [.string r11.1.Item, .int .i64 r11.1.Heat, .int .i64 r11.1.Time.From, .int .i64 r11.1.Time.To]) rfl rfl rfl rfl ?_; clear S; intro w23 hk21 S
      refine lv S (rn_assign (S.tm rfl)) rfl ?_; clear S; intro a S
      refine l_done ?_
      replace S := S.nf (L' := [.blk b5 [.string r11.1.Item, .int .i64 r11.1.Heat, .int .i64 r11.1.Time.From, .int .i64 r11.1.Time.To] 41, .blk b3 [.string r7.1.Item, .int .i64 r7.1.Heat, .int .i64 r7.1.Time.From, .int .i64 r7.1.Time.To] 41]) (K' := [(4, v1), (7, v4), (8, u3), (9, .int .i64 r5.2), (10, .int .i64 r6.1), (11, .int .i64 r6.2), (12, .pointer (some ⟨b3, 0, none⟩)), (13, .bool r7.2.1), (14, .int .i64 r7.2.2), (15, .int .i64 r8), (16, .int .i64 (tumblaw2_errs [r8, (tumblaw2_momentFault r3.1)])), (17, v11), (18, .int .i64 x2), (19, .pointer (some ⟨b5, 0, none⟩)), (20, .bool r11.2)]) [true, true] rfl ⟨rfl, rfl, rfl, rfl, rfl, rfl, rfl, rfl, rfl, rfl, rfl, rfl, rfl, rfl, rfl, trivial⟩
      refine then_n ?_
      exact ⟨r11.1.Item, r11.1.Heat, r11.1.Time.From, r11.1.Time.To, r11.2, h, S.nf [true, true] rfl ⟨rfl, rfl, rfl, rfl, rfl, rfl, rfl, rfl, rfl, rfl, rfl, rfl, rfl, rfl, rfl, trivial⟩⟩
    · replace h := iteF h hb2
      refine wp_skip ?_
      refine then_n ?_
      exact ⟨k_empty, 0, 0, 0, false, h, S.nf [true, true] rfl ⟨rfl, rfl, rfl, rfl, rfl, rfl, rfl, rfl, rfl, rfl, rfl, rfl, rfl, rfl, rfl, trivial⟩⟩
  clear S h; rintro a w21 ⟨x3, x4, x5, x6, x7, h, S⟩; rw [hj2] at h; clear hj2 j2
  refine then_n ?_
  refine f_seq ?_
  refine f_region ?_
  refine lv S (rn_move (S.tm rfl)) rfl ?_; clear S; intro a S
  refine lv S (rn_move (S.tm rfl)) rfl ?_; clear S; intro a S
  obtain ⟨r12, hr12, h⟩ := bindE h
  refine l_enter S (fun _ => run_call (vs := [v1, v4]) ⟨(S.tm rfl), (S.tm rfl), trivial⟩ Tryd.call17) (session_CheckHeld_ok _ v1 r1.1 (((ownV_slcT GItem.enc_ok hs1).mono (View.le_trans (View.le_trans hl2 hl3) hl4)).mono (S.le_new nil_sub)) v4 r4.1 (((ownV_slcT GHeld.enc_ok hs2).mono (View.le_trans hl3 hl4)).mono (S.le_new nil_sub)) _ hr12) rfl ?_; clear S; intro v15 a w24 hv14 hk22 hn14 S
  subst hv14
  refine lv S (rn_move (S.tm rfl)) rfl ?_; clear S; intro a S
  refine lv S (rn_move (S.tm rfl)) rfl ?_; clear S; intro a S
  obtain ⟨r13, hr13, h⟩ := bindE h
  refine l_enter S (fun _ => run_call (vs := [v1, v4]) ⟨(S.tm rfl), (S.tm rfl), trivial⟩ Tryd.call18) (tumbref2_HeldFault_ok _ v1 r1.1 (((ownV_slcT GItem.enc_ok hs1).mono (View.le_trans (View.le_trans hl2 hl3) hl4)).mono (S.le_new nil_sub)) v4 r4.1 (((ownV_slcT GHeld.enc_ok hs2).mono (View.le_trans hl3 hl4)).mono (S.le_new nil_sub)) _ hr13) rfl ?_; clear S; intro v16 a w25 hv15 hk23 hn15 S
  subst hv15
  refine lv S (rn_eql (S.tm rfl) (S.tm rfl)) rfl ?_; clear S; intro a S
  refine lv S (rn_move (S.tm rfl)) rfl ?_; clear S; intro a S
  refine f_cutm 4 (fun a w' => Keep [] w25 w' ∧ Sx w [] φ4 [.blk b5 [.string x3, .int .i64 x4, .int .i64 x5, .int .i64 x6] 41, .blk b3 [.string r7.1.Item, .int .i64 r7.1.Heat, .int .i64 r7.1.Time.From, .int .i64 r7.1.Time.To] 41] [(8, u3), (10, .int .i64 r6.1), (11, .int .i64 r6.2), (12, .pointer (some ⟨b3, 0, none⟩)), (13, .bool r7.2.1), (14, .int .i64 r7.2.2), (15, .int .i64 r8), (16, .int .i64 (tumblaw2_errs [r8, (tumblaw2_momentFault r3.1)])), (17, v11), (18, .int .i64 x2), (19, .pointer (some ⟨b5, 0, none⟩)), (20, .bool x7), (98, .bool ((decide (r12 = r13)) && (decide (r5.2 = r8))))] 132 a w') ?_ ?_
  · rcases Bool.eq_false_or_eq_true (decide (r12 = r13)) with hb3 | hb3
    · refine l_want S rfl rfl rfl hb3 ?_
      refine lv S (rn_move (S.tm rfl)) rfl ?_; clear S; intro a S
      refine l_want S rfl rfl rfl hb3 ?_
      refine lv S (rn_move (S.tm rfl)) rfl ?_; clear S; intro a S
      refine l_want S rfl rfl rfl hb3 ?_
      refine lv S (rn_eql (S.tm rfl) (S.tm rfl)) rfl ?_; clear S; intro a S
      refine lv S (rn_and_t hb3 (S.tm rfl) (S.tm rfl)) rfl ?_; clear S; intro a S
      refine l_done ?_
      refine then_n ?_
      exact ⟨Keep.refl _ _, S.nf [true, true] rfl ⟨rfl, rfl, rfl, rfl, rfl, rfl, rfl, rfl, rfl, rfl, rfl, rfl, rfl, trivial⟩⟩
    · refine l_skip S rfl rfl rfl (neq_f hb3) rfl ?_ rfl; clear S; intro a S
      refine l_skip S rfl rfl rfl (neq_f hb3) rfl ?_ rfl; clear S; intro a S
      refine l_skip S rfl rfl rfl (neq_f hb3) rfl ?_ rfl; clear S; intro a S
      refine lv S (rn_and_f (decide (r5.2 = r8)) hb3 (S.tm rfl) rfl) rfl ?_; clear S; intro a S
      refine l_done ?_
      refine then_n ?_
      exact ⟨Keep.refl _ _, S.nf [true, true] rfl ⟨rfl, rfl, rfl, rfl, rfl, rfl, rfl, rfl, rfl, rfl, rfl, rfl, rfl, trivial⟩⟩
  clear S; rintro a w26 ⟨hk24, S⟩
  refine lv S (rn_move (S.tm rfl)) rfl ?_; clear S; intro a S
  obtain ⟨j3, hj3, h⟩ := joinE h
  refine f_cutm 4 (fun a w' => ∃ c1, j3 c1 = some r ∧ Keep [] w26 w' ∧ Sx w [] φ4 [.blk b5 [.string x3, .int .i64 x4, .int .i64 x5, .int .i64 x6] 41, .blk b3 [.string r7.1.Item, .int .i64 r7.1.Heat, .int .i64 r7.1.Time.From, .int .i64 r7.1.Time.To] 41] [(10, .int .i64 r6.1), (11, .int .i64 r6.2), (12, .pointer (some ⟨b3, 0, none⟩)), (13, .bool r7.2.1), (14, .int .i64 r7.2.2), (15, .int .i64 r8), (16, .int .i64 (tumblaw2_errs [r8, (tumblaw2_momentFault r3.1)])), (18, .int .i64 x2), (19, .pointer (some ⟨b5, 0, none⟩)), (20, .bool x7), (103, .bool c1)] 132 a w') ?_ ?_
  · rcases Bool.eq_false_or_eq_true ((decide (r12 = r13)) && (decide (r5.2 = r8))) with hb4 | hb4
    · replace h := iteT h hb4
      refine l_want S rfl rfl rfl hb4 ?_
      refine lv S (rn_move (S.tm rfl)) rfl ?_; clear S; intro a S
      refine l_want S rfl rfl rfl hb4 ?_
      refine lv S (rn_move (S.tm rfl)) rfl ?_; clear S; intro a S
      refine l_want S rfl rfl rfl hb4 ?_
      obtain ⟨r14, hr14, h⟩ := bindE h
      refine l_enter S (fun _ => run_call (vs := [u3, v11]) ⟨(S.tm rfl), (S.tm rfl), trivial⟩ Tryd.call19) (slices_Equal_Slot_ok _ u3 r5.1 (((ownV_slcT GSlot.enc_ok hs3).mono hl4).mono (S.le_new nil_sub)) v11 x1 (((ownV_slcT GSlot.enc_ok hs4)).mono (S.le_new nil_sub)) _ hr14) rfl ?_; clear S; intro v17 a w28 hv16 hk25 hn16 S
      subst hv16
      refine lv S (rn_and_t hb4 (S.tm rfl) (S.tm rfl)) rfl ?_; clear S; intro a S
      refine l_done ?_
      refine then_n ?_
      exact ⟨_, h, hk25, S.nf [true, true] rfl ⟨rfl, rfl, rfl, rfl, rfl, rfl, rfl, rfl, rfl, rfl, rfl, trivial⟩⟩
    · replace h := iteF h hb4
      refine l_skip S rfl rfl rfl (neq_f hb4) rfl ?_ rfl; clear S; intro a S
      refine l_skip S rfl rfl rfl (neq_f hb4) rfl ?_ rfl; clear S; intro a S
      refine l_skip S rfl rfl rfl (neq_f hb4) rfl ?_ rfl; clear S; intro a S
      refine lv S (rn_and_f true hb4 (S.tm rfl) rfl) rfl ?_; clear S; intro a S
      refine l_done ?_
      refine then_n ?_
      exact ⟨_, h, Keep.refl _ _, S.nf [true, true] rfl ⟨rfl, rfl, rfl, rfl, rfl, rfl, rfl, rfl, rfl, rfl, rfl, trivial⟩⟩
  clear S h; rintro a w27 ⟨c1, h, hk26, S⟩; rw [hj3] at h; clear hj3 j3
  refine lv S (rn_move (S.tm rfl)) rfl ?_; clear S; intro a S
  refine f_cutm 4 (fun a w' => Keep [] w27 w' ∧ Sx w [] φ4 [.blk b5 [.string x3, .int .i64 x4, .int .i64 x5, .int .i64 x6] 41, .blk b3 [.string r7.1.Item, .int .i64 r7.1.Heat, .int .i64 r7.1.Time.From, .int .i64 r7.1.Time.To] 41] [(10, .int .i64 r6.1), (12, .pointer (some ⟨b3, 0, none⟩)), (13, .bool r7.2.1), (14, .int .i64 r7.2.2), (16, .int .i64 (tumblaw2_errs [r8, (tumblaw2_momentFault r3.1)])), (18, .int .i64 x2), (19, .pointer (some ⟨b5, 0, none⟩)), (20, .bool x7), (108, .bool (c1 && (decide (r6.2 = r8))))] 132 a w') ?_ ?_
  · rcases Bool.eq_false_or_eq_true c1 with hb5 | hb5
    · refine l_want S rfl rfl rfl hb5 ?_
      refine lv S (rn_move (S.tm rfl)) rfl ?_; clear S; intro a S
      refine l_want S rfl rfl rfl hb5 ?_
      refine lv S (rn_move (S.tm rfl)) rfl ?_; clear S; intro a S
      refine l_want S rfl rfl rfl hb5 ?_
      refine lv S (rn_eql (S.tm rfl) (S.tm rfl)) rfl ?_; clear S; intro a S
      refine lv S (rn_and_t hb5 (S.tm rfl) (S.tm rfl)) rfl ?_; clear S; intro a S
      refine l_done ?_
      refine then_n ?_
      exact ⟨Keep.refl _ _, S.nf [true, true] rfl ⟨rfl, rfl, rfl, rfl, rfl, rfl, rfl, rfl, rfl, trivial⟩⟩
    · refine l_skip S rfl rfl rfl (neq_f hb5) rfl ?_ rfl; clear S; intro a S
      refine l_skip S rfl rfl rfl (neq_f hb5) rfl ?_ rfl; clear S; intro a S
      refine l_skip S rfl rfl rfl (neq_f hb5) rfl ?_ rfl; clear S; intro a S
      refine lv S (rn_and_f (decide (r6.2 = r8)) hb5 (S.tm rfl) rfl) rfl ?_; clear S; intro a S
      refine l_done ?_
      refine then_n ?_
      exact ⟨Keep.refl _ _, S.nf [true, true] rfl ⟨rfl, rfl, rfl, rfl, rfl, rfl, rfl, rfl, rfl, trivial⟩⟩
  clear S; rintro a w29 ⟨hk27, S⟩
  refine lv S (rn_move (S.tm rfl)) rfl ?_; clear S; intro a S
  refine f_cutm 4 (fun a w' => Keep [] w29 w' ∧ Sx w [] φ4 [.blk b5 [.string x3, .int .i64 x4, .int .i64 x5, .int .i64 x6] 41, .blk b3 [.string r7.1.Item, .int .i64 r7.1.Heat, .int .i64 r7.1.Time.From, .int .i64 r7.1.Time.To] 41] [(12, .pointer (some ⟨b3, 0, none⟩)), (13, .bool r7.2.1), (14, .int .i64 r7.2.2), (16, .int .i64 (tumblaw2_errs [r8, (tumblaw2_momentFault r3.1)])), (19, .pointer (some ⟨b5, 0, none⟩)), (20, .bool x7), (113, .bool ((c1 && (decide (r6.2 = r8))) && (decide (r6.1 = x2))))] 132 a w') ?_ ?_
  · rcases Bool.eq_false_or_eq_true (c1 && (decide (r6.2 = r8))) with hb6 | hb6
    · refine l_want S rfl rfl rfl hb6 ?_
      refine lv S (rn_move (S.tm rfl)) rfl ?_; clear S; intro a S
      refine l_want S rfl rfl rfl hb6 ?_
      refine lv S (rn_move (S.tm rfl)) rfl ?_; clear S; intro a S
      refine l_want S rfl rfl rfl hb6 ?_
      refine lv S (rn_eql (S.tm rfl) (S.tm rfl)) rfl ?_; clear S; intro a S
      refine lv S (rn_and_t hb6 (S.tm rfl) (S.tm rfl)) rfl ?_; clear S; intro a S
      refine l_done ?_
      refine then_n ?_
      exact ⟨Keep.refl _ _, S.nf [true, true] rfl ⟨rfl, rfl, rfl, rfl, rfl, rfl, rfl, trivial⟩⟩
    · refine l_skip S rfl rfl rfl (neq_f hb6) rfl ?_ rfl; clear S; intro a S
      refine l_skip S rfl rfl rfl (neq_f hb6) rfl ?_ rfl; clear S; intro a S
      refine l_skip S rfl rfl rfl (neq_f hb6) rfl ?_ rfl; clear S; intro a S
      refine lv S (rn_and_f (decide (r6.1 = x2)) hb6 (S.tm rfl) rfl) rfl ?_; clear S; intro a S
      refine l_done ?_
      refine then_n ?_
      exact ⟨Keep.refl _ _, S.nf [true, true] rfl ⟨rfl, rfl, rfl, rfl, rfl, rfl, rfl, trivial⟩⟩
  clear S; rintro a w30 ⟨hk28, S⟩
  refine lv S (rn_move (S.tm rfl)) rfl ?_; clear S; intro a S
  refine f_cutm 4 (fun a w' => Keep [] w30 w' ∧ Sx w [] φ4 [.blk b5 [.string x3, .int .i64 x4, .int .i64 x5, .int .i64 x6] 41, .blk b3 [.string r7.1.Item, .int .i64 r7.1.Heat, .int .i64 r7.1.Time.From, .int .i64 r7.1.Time.To] 41] [(12, .pointer (some ⟨b3, 0, none⟩)), (13, .bool r7.2.1), (19, .pointer (some ⟨b5, 0, none⟩)), (20, .bool x7), (118, .bool (((c1 && (decide (r6.2 = r8))) && (decide (r6.1 = x2))) && (decide (r7.2.2 = (tumblaw2_errs [r8, (tumblaw2_momentFault r3.1)])))))] 132 a w') ?_ ?_
  · rcases Bool.eq_false_or_eq_true ((c1 && (decide (r6.2 = r8))) && (decide (r6.1 = x2))) with hb7 | hb7
    · refine l_want S rfl rfl rfl hb7 ?_
      refine lv S (rn_move (S.tm rfl)) rfl ?_; clear S; intro a S
      refine l_want S rfl rfl rfl hb7 ?_
      refine lv S (rn_move (S.tm rfl)) rfl ?_; clear S; intro a S
      refine l_want S rfl rfl rfl hb7 ?_
      refine lv S (rn_eql (S.tm rfl) (S.tm rfl)) rfl ?_; clear S; intro a S
      refine lv S (rn_and_t hb7 (S.tm rfl) (S.tm rfl)) rfl ?_; clear S; intro a S
      refine l_done ?_
      refine then_n ?_
      exact ⟨Keep.refl _ _, S.nf [true, true] rfl ⟨rfl, rfl, rfl, rfl, rfl, trivial⟩⟩
    · refine l_skip S rfl rfl rfl (neq_f hb7) rfl ?_ rfl; clear S; intro a S
      refine l_skip S rfl rfl rfl (neq_f hb7) rfl ?_ rfl; clear S; intro a S
      refine l_skip S rfl rfl rfl (neq_f hb7) rfl ?_ rfl; clear S; intro a S
      refine lv S (rn_and_f (decide (r7.2.2 = (tumblaw2_errs [r8, (tumblaw2_momentFault r3.1)]))) hb7 (S.tm rfl) rfl) rfl ?_; clear S; intro a S
      refine l_done ?_
      refine then_n ?_
      exact ⟨Keep.refl _ _, S.nf [true, true] rfl ⟨rfl, rfl, rfl, rfl, rfl, trivial⟩⟩
  clear S; rintro a w31 ⟨hk29, S⟩
  refine lv S (rn_move (S.tm rfl)) rfl ?_; clear S; intro a S
  refine f_cutm 4 (fun a w' => Keep [] w31 w' ∧ Sx w [] φ4 [.blk b5 [.string x3, .int .i64 x4, .int .i64 x5, .int .i64 x6] 41, .blk b3 [.string r7.1.Item, .int .i64 r7.1.Heat, .int .i64 r7.1.Time.From, .int .i64 r7.1.Time.To] 41] [(13, .bool r7.2.1), (20, .bool x7), (123, .bool ((((c1 && (decide (r6.2 = r8))) && (decide (r6.1 = x2))) && (decide (r7.2.2 = (tumblaw2_errs [r8, (tumblaw2_momentFault r3.1)])))) && (decide (r7.1 = (GSlot.mk x3 x4 (GWindow.mk x5 x6))))))] 132 a w') ?_ ?_
  · rcases Bool.eq_false_or_eq_true (((c1 && (decide (r6.2 = r8))) && (decide (r6.1 = x2))) && (decide (r7.2.2 = (tumblaw2_errs [r8, (tumblaw2_momentFault r3.1)])))) with hb8 | hb8
    · refine l_want S rfl rfl rfl hb8 ?_
      refine lv S (rn_ldA Tryd.isAgg41 Tryd.sizeOf41 (off := 0) (o := 0) (part := [.string r7.1.Item, .int .i64 r7.1.Heat, .int .i64 r7.1.Time.From, .int .i64 r7.1.Time.To]) rfl rfl (S.tm rfl) (S.cellsAt (i := 1) rfl)) rfl ?_; clear S; intro a S
      refine l_want S rfl rfl rfl hb8 ?_
      refine lv S (rn_ldA Tryd.isAgg41 Tryd.sizeOf41 (off := 0) (o := 0) (part := [.string x3, .int .i64 x4, .int .i64 x5, .int .i64 x6]) rfl rfl (S.tm rfl) (S.cellsAt (i := 0) rfl)) rfl ?_; clear S; intro a S
      refine l_want S rfl rfl rfl hb8 ?_
      refine lv S (rn_eql_41 (m := r7.1) (n := (GSlot.mk x3 x4 (GWindow.mk x5 x6))) (S.tm rfl) (S.tm rfl)) rfl ?_; clear S; intro a S
      refine lv S (rn_and_t hb8 (S.tm rfl) (S.tm rfl)) rfl ?_; clear S; intro a S
      refine l_done ?_
      refine then_n ?_
      exact ⟨Keep.refl _ _, S.nf [true, true] rfl ⟨rfl, rfl, rfl, trivial⟩⟩
    · refine l_skip S rfl rfl rfl (neq_f hb8) rfl ?_ rfl; clear S; intro a S
      refine l_skip S rfl rfl rfl (neq_f hb8) rfl ?_ rfl; clear S; intro a S
      refine l_skip S rfl rfl rfl (neq_f hb8) rfl ?_ rfl; clear S; intro a S
      refine lv S (rn_and_f (decide (r7.1 = (GSlot.mk x3 x4 (GWindow.mk x5 x6)))) hb8 (S.tm rfl) rfl) rfl ?_; clear S; intro a S
      refine l_done ?_
      refine then_n ?_
      exact ⟨Keep.refl _ _, S.nf [true, true] rfl ⟨rfl, rfl, rfl, trivial⟩⟩
  clear S; rintro a w32 ⟨hk30, S⟩
  refine lv S (rn_move (S.tm rfl)) rfl ?_; clear S; intro a S
  refine f_cutm 4 (fun a w' => Keep [] w32 w' ∧ Sx w [] φ4 [.blk b5 [.string x3, .int .i64 x4, .int .i64 x5, .int .i64 x6] 41, .blk b3 [.string r7.1.Item, .int .i64 r7.1.Heat, .int .i64 r7.1.Time.From, .int .i64 r7.1.Time.To] 41] [(128, .bool (((((c1 && (decide (r6.2 = r8))) && (decide (r6.1 = x2))) && (decide (r7.2.2 = (tumblaw2_errs [r8, (tumblaw2_momentFault r3.1)])))) && (decide (r7.1 = (GSlot.mk x3 x4 (GWindow.mk x5 x6))))) && (decide (r7.2.1 = x7))))] 132 a w') ?_ ?_
  · rcases Bool.eq_false_or_eq_true ((((c1 && (decide (r6.2 = r8))) && (decide (r6.1 = x2))) && (decide (r7.2.2 = (tumblaw2_errs [r8, (tumblaw2_momentFault r3.1)])))) && (decide (r7.1 = (GSlot.mk x3 x4 (GWindow.mk x5 x6))))) with hb9 | hb9
    · refine l_want S rfl rfl rfl hb9 ?_
      refine lv S (rn_move (S.tm rfl)) rfl ?_; clear S; intro a S
      refine l_want S rfl rfl rfl hb9 ?_
      refine lv S (rn_move (S.tm rfl)) rfl ?_; clear S; intro a S
      refine l_want S rfl rfl rfl hb9 ?_
      refine lv S (rn_beql Tryd.underlying4 (S.tm rfl) (S.tm rfl)) rfl ?_; clear S; intro a S
      refine lv S (rn_and_t hb9 (S.tm rfl) (S.tm rfl)) rfl ?_; clear S; intro a S
      refine l_done ?_
      refine then_n ?_
      exact ⟨Keep.refl _ _, S.nf [true, true] rfl ⟨rfl, trivial⟩⟩
    · refine l_skip S rfl rfl rfl (neq_f hb9) rfl ?_ rfl; clear S; intro a S
      refine l_skip S rfl rfl rfl (neq_f hb9) rfl ?_ rfl; clear S; intro a S
      refine l_skip S rfl rfl rfl (neq_f hb9) rfl ?_ rfl; clear S; intro a S
      refine lv S (rn_and_f (decide (r7.2.1 = x7)) hb9 (S.tm rfl) rfl) rfl ?_; clear S; intro a S
      refine l_done ?_
      refine then_n ?_
      exact ⟨Keep.refl _ _, S.nf [true, true] rfl ⟨rfl, trivial⟩⟩
  clear S; rintro a w33 ⟨hk31, S⟩
  refine lv S (rn_move (S.tm rfl)) rfl ?_; clear S; intro a S
  obtain ⟨j4, hj4, h⟩ := joinE h
  refine f_cutm 2 (fun a w' => ∃ c2, j4 c2 = some r ∧ Keep [] w33 w' ∧ Sx w [] φ4 [.blk b5 [.string x3, .int .i64 x4, .int .i64 x5, .int .i64 x6] 41, .blk b3 [.string r7.1.Item, .int .i64 r7.1.Heat, .int .i64 r7.1.Time.From, .int .i64 r7.1.Time.To] 41] [(131, .bool c2)] 132 a w') ?_ ?_
  · rcases Bool.eq_false_or_eq_true (((((c1 && (decide (r6.2 = r8))) && (decide (r6.1 = x2))) && (decide (r7.2.2 = (tumblaw2_errs [r8, (tumblaw2_momentFault r3.1)])))) && (decide (r7.1 = (GSlot.mk x3 x4 (GWindow.mk x5 x6))))) && (decide (r7.2.1 = x7))) with hb10 | hb10
    · replace h := iteT h hb10
      refine l_want S rfl rfl rfl hb10 ?_
      obtain ⟨r15, hr15, h⟩ := bindE h
      refine l_enter S (fun _ => run_call (vs := []) trivial Tryd.call20) (tumblaw2_timed_ok _ _ hr15) rfl ?_; clear S; intro v18 a w35 hv17 hk32 hn17 S
      subst hv17
      refine lv S (rn_and_t hb10 (S.tm rfl) (S.tm rfl)) rfl ?_; clear S; intro a S
      refine l_done ?_
      refine then_n ?_
      exact ⟨_, h, hk32, S.nf [true, true] rfl ⟨rfl, trivial⟩⟩
    · replace h := iteF h hb10
      refine l_skip S rfl rfl rfl (neq_f hb10) rfl ?_ rfl; clear S; intro a S
      refine lv S (rn_and_f true hb10 (S.tm rfl) rfl) rfl ?_; clear S; intro a S
      refine l_done ?_
      refine then_n ?_
      exact ⟨_, h, Keep.refl _ _, S.nf [true, true] rfl ⟨rfl, trivial⟩⟩
  clear S h; rintro a w34 ⟨c2, h, hk33, S⟩; rw [hj4] at h; clear hj4 j4
  refine lv S (rn_assign (S.tm rfl)) rfl ?_; clear S; intro a S
  refine l_done ?_
  replace S := S.nf (L' := []) (K' := [(2, .bool c2)]) [false, false] rfl ⟨rfl, trivial⟩
  refine then_n ?_
  refine wp_ret ?_
  obtain rfl := Option.some.inj h
  exact f_ret S Tryd.results3 rfl rfl
end Go.Proofs.YthckagkkjdabeaaDoor
