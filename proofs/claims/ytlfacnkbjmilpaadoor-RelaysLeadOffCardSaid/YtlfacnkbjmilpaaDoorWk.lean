/- Each Go function computes its plain twin, by program. -/
import Derived.Test.YtlfacnkbjmilpaaDoorWk1
namespace Go.Proofs.YtlfacnkbjmilpaaDoor
open Go
theorem tumblaw2_recorded_ok (w : World) (r : Bool) (h : tumblaw2_recorded = some r) :
    Calls Tryd.prog 12 [].toArray w (Ret w [] fun _ v _ => v = .bool r) := by
 refine f_enter [] [] Tryd.func12 rfl Tryd.ntmps12 rfl (by simp) (by simp [fps]) (by simp [fps]) fun a S => ?_
 unfold tumblaw2_recorded at h
 replace S := S.nk [] [] [] rfl trivial
 refine f_seq ?_
 refine f_region ?_
 refine lv S (rn_assign rfl) rfl ?_; clear S; intro a S
 refine l_done ?_
 replace S := S.nk [] [] [] rfl trivial
 refine then_n ?_
 refine f_seq ?_
 refine f_region ?_
 refine lv S (rn_bld bt_47 (pv := [(0, .string k_k), (1, .string k_r), (4, .int .i64 9)]) ⟨rfl, rfl, rfl, rfl, rfl, rfl, trivial⟩ (cs := [.string k_k, .string k_r, .slice none 0 0, .int .i64 0, .int .i64 9]) (by kernel_rfl)) rfl ?_; clear S; intro a S
 refine l_buildSlice S Tryd.underlying48 Tryd.sizeOf47 Tryd.zeroValue47 rfl rfl (pv := [(0, .agg #[.string k_k, .string k_r, .slice none 0 0, .int .i64 0, .int .i64 9])]) ⟨rfl, (S.tm rfl), trivial⟩ (cs := [.string k_k, .string k_r, .slice none 0 0, .int .i64 0, .int .i64 9]) (by kernel_rfl) rfl ?_; clear S; intro a w1 b1 hz1 hk1 S
 refine lv S (rn_bld bt_50 (pv := [(1, .int .i64 1), (2, .string k_i), (3, .string k_a), (5, .string k_r), (7, .int .i64 5)]) ⟨rfl, rfl, rfl, rfl, rfl, rfl, rfl, rfl, rfl, rfl, trivial⟩ (cs := [.int .i64 0, .int .i64 1, .string k_i, .string k_a, .string k_empty, .string k_r, .int .i64 0, .int .i64 5]) (by kernel_rfl)) rfl ?_; clear S; intro a S
 obtain ⟨r1, hr1, h⟩ := bindE h
 have hz2 := S.keep.size
 refine l_enter S (fun _ => run_call (vs := [.slice (some ⟨b1, 0, none⟩) 1 1, .agg (GStep.enc (GStep.mk 0 1 k_i k_a k_empty k_r 0 5)).toArray]) ⟨(S.tm rfl), (S.tm rfl), trivial⟩ Tryd.call18) (record_For_ok _ (.slice (some ⟨b1, 0, none⟩) 1 1) [(GKind.mk k_k k_r () 0 9)] (lit_slcT GKind.enc_ok S (i := 0) rfl rfl rfl rfl ((ne_nil (e' := .blk b1 [.string k_k, .string k_r, .slice none 0 0, .int .i64 0, .int .i64 9] 47)) _ rfl)) (GStep.mk 0 1 k_i k_a k_empty k_r 0 5) _ hr1) rfl ?_; clear S; intro v1 a w2 hv1 hk2 hn1 S
 obtain ⟨u1, rfl, ho1⟩ := hv1
 obtain ⟨φ1, hl1, hm1, S⟩ := S.see' hn1 hz2
 have hs1 := ho1.mono hm1
 refine lv S (rn_move (S.tm rfl)) rfl ?_; clear S; intro a S
 refine lv S (rn_extract (S.tm rfl) rfl) rfl ?_; clear S; intro a S
 refine lv S (rn_extract (S.tm rfl) rfl) rfl ?_; clear S; intro a S
 refine lv S (rn_assign (S.tm rfl)) rfl ?_; clear S; intro a S
 refine lv S (rn_assign (S.tm rfl)) rfl ?_; clear S; intro a S
 refine l_done ?_
 replace S := S.nk [] [(1, u1), (2, .int .i64 r1.2)] [false] rfl ⟨rfl, rfl, trivial⟩
 refine then_n ?_
 refine f_seq ?_
 refine f_region ?_
 refine lv S (rn_move (S.tm rfl)) rfl ?_; clear S; intro a S
 refine lv S (rn_eql (S.tm rfl) rfl) rfl ?_; clear S; intro a S
 refine lv S (rn_move (S.tm rfl)) rfl ?_; clear S; intro a S
 obtain ⟨j1, hj1, h⟩ := joinE h
 refine f_cutm 4 (fun a w' => ∃ c1, j1 c1 = some r ∧ Keep [] w2 w' ∧ Sx w [] φ1 [] [(16, .bool c1)] 17 a w') ?_ ?_
 ·rcases Bool.eq_false_or_eq_true (decide (r1.2 = 0)) with hb1 | hb1
  ·replace h := iteT h hb1
   refine l_want S rfl rfl rfl hb1 ?_
   refine lv S (rn_move (S.tm rfl)) rfl ?_; clear S; intro a S
   refine l_want S rfl rfl rfl hb1 ?_
   refine l_buildSlice S Tryd.underlying43 Tryd.sizeOf9 Tryd.zeroValue9 rfl rfl (pv := [(0, .string k_k)]) ⟨rfl, rfl, trivial⟩ (cs := [.string k_k]) (by kernel_rfl) rfl ?_; clear S; intro a w4 b2 hz3 hk3 S
   refine l_want S rfl rfl rfl hb1 ?_
   obtain ⟨r2, hr2, h⟩ := bindE h
   refine l_enter S (fun _ => run_call (vs := [u1, .slice (some ⟨b2, 0, none⟩) 1 1]) ⟨(S.tm rfl), (S.tm rfl), trivial⟩ Tryd.call19) (slices_Equal_string_ok _ u1 r1.1 (((ownV_slcT enc_str hs1)).mono (S.le_new nil_sub)) (.slice (some ⟨b2, 0, none⟩) 1 1) [k_k] (lit_slcT enc_str S (i := 0) rfl rfl rfl rfl ((ne_nil (e' := .blk b2 [.string k_k] 9)) _ rfl)) _ hr2) rfl ?_; clear S; intro v2 a w5 hv2 hk4 hn2 S
   subst hv2
   refine lv S (rn_and_t hb1 (S.tm rfl) (S.tm rfl)) rfl ?_; clear S; intro a S
   refine l_done ?_
   refine then_n ?_
   exact ⟨_, h, (hk3).trans hk4, S.nf [false] rfl ⟨rfl, trivial⟩⟩
  ·replace h := iteF h hb1
   refine l_skip S rfl rfl rfl (neq_f hb1) rfl ?_ rfl; clear S; intro a S
   refine l_skip S rfl rfl rfl (neq_f hb1) rfl ?_ rfl; clear S; intro a S
   refine l_skip S rfl rfl rfl (neq_f hb1) rfl ?_ rfl; clear S; intro a S
   refine lv S (rn_and_f true hb1 (S.tm rfl) rfl) rfl ?_; clear S; intro a S
   refine l_done ?_
   refine then_n ?_
   exact ⟨_, h, Keep.refl _ _, S.nf [] rfl ⟨rfl, trivial⟩⟩
 clear S h; rintro a w3 ⟨c1, h, hk5, S⟩; rw [hj1] at h; clear hj1 j1
 refine lv S (rn_assign (S.tm rfl)) rfl ?_; clear S; intro a S
 refine l_done ?_
 replace S := S.nk [] [(0, .bool c1)] [] rfl ⟨rfl, trivial⟩
 refine then_n ?_
 refine wp_ret ?_
 obtain rfl := Option.some.inj h
 exact f_ret S Tryd.results12 rfl rfl
set_option maxRecDepth 20000 in
theorem tumblaw2_RelaysLeadOff_ok (w : World) (v_p_l : Value) (p_l : List Int) (hs_p_l : Slc (view w []) 1 v_p_l (p_l.map eInt)) (r : Bool) (h : tumblaw2_RelaysLeadOff p_l = some r) :
    Calls Tryd.prog 3 [v_p_l].toArray w (Ret w [] fun _ v _ => v = .bool r) := by
 refine f_enter [] [] Tryd.func3 rfl Tryd.ntmps3 rfl (by simp) (by simp [fps]) (by simp [fps]) fun a S => ?_
 unfold tumblaw2_RelaysLeadOff at h
 replace S := S.nk [] [(0, v_p_l)] [] rfl ⟨rfl, trivial⟩
 refine f_seq ?_
 refine f_region ?_
 refine lv S (rn_assign rfl) rfl ?_; clear S; intro a S
 refine l_done ?_
 replace S := S.nk [] [(0, v_p_l)] [] rfl ⟨rfl, trivial⟩
 refine then_n ?_
 refine f_seq ?_
 refine f_region ?_
 refine lv S (rn_move (S.tm rfl)) rfl ?_; clear S; intro a S
 refine lv S (rn_bld bt_25 (pv := [(0, v_p_l)]) ⟨rfl, (S.tm rfl), trivial⟩ (cs := [v_p_l, .int .i64 0]) (by obtain ⟨_, _, hv⟩ := (slc_len hs_p_l); rw [hv]; clear hv; kernel_rfl)) rfl ?_; clear S; intro a S
 refine l_box S (S.tm rfl) (cs := [v_p_l, .int .i64 0]) rfl rfl ?_; clear S; intro a w1 b1 hz1 hk1 S
 refine lv S (rn_assign (S.tm rfl)) rfl ?_; clear S; intro a S
 refine l_done ?_
 replace S := S.nk [.blk b1 [v_p_l, .int .i64 0] 25] [(3, .pointer (some ⟨b1, 0, none⟩))] [true] rfl ⟨rfl, trivial⟩
 refine then_n ?_
 refine f_seq ?_
 refine f_region ?_
 refine lv S (rn_move (S.tm rfl)) rfl ?_; clear S; intro a S
 obtain ⟨r1, hr1, h⟩ := bindE h
 refine l_enter1 0 S (b := b1) rfl rfl (fun _ => .blk b1 [v_p_l, .int .i64 r1.2] 25) (fun _ => run_call (vs := [.pointer (some ⟨b1, 0, none⟩), .string k_ra]) ⟨(S.tm rfl), rfl, trivial⟩ Tryd.call4) (Stream_MeetRace_ok _ b1 v_p_l p_l (hs_p_l.mono (S.le_arg (fp_sub (i := 0) (e := .blk b1 [v_p_l, .int .i64 0] 25) rfl))) 0 (S.holds _ (List.mem_of_getElem? (i := 0) rfl)) k_ra _ hr1) rfl (fun _ _ _ h => ⟨h.1, fun _ hc => by cases hc; rfl⟩) ?_; clear S; intro v1 a w2 hv1 hk2 hn1 S
 replace hv1 := hv1.2
 subst hv1
 refine l_alloc S Tryd.zeroValue27 (cs := [.string k_empty, .int .i64 0, .int .i64 0, .int .i64 0, .int .i64 0, .int .i64 0, .int .i64 0, .int .i64 0]) rfl rfl ?_; clear S; intro a w3 b2 hz2 hk3 S
 refine l_store S (S.tm rfl) (S.tm rfl) (i := 0) (off := 0) rfl Tryd.sizeOf27 (vs := [.string r1.1.Key, .int .i64 r1.1.Metres, .int .i64 r1.1.Stroke, .int .i64 r1.1.Course, .int .i64 r1.1.Legs, .int .i64 r1.1.Sex, .int .i64 r1.1.Young, .int .i64 r1.1.Old]) rfl rfl rfl rfl ?_; clear S; intro w4 hk4 S
 refine l_done ?_
 replace S := S.nk [.blk b2 [.string r1.1.Key, .int .i64 r1.1.Metres, .int .i64 r1.1.Stroke, .int .i64 r1.1.Course, .int .i64 r1.1.Legs, .int .i64 r1.1.Sex, .int .i64 r1.1.Young, .int .i64 r1.1.Old] 27, .blk b1 [v_p_l, .int .i64 r1.2] 25] [(3, .pointer (some ⟨b1, 0, none⟩)), (4, .pointer (some ⟨b2, 0, none⟩))] [true, true] rfl ⟨rfl, rfl, trivial⟩
 refine then_n ?_
 refine f_seq ?_
 refine f_seq ?_
 refine f_region ?_
 refine lv S (rn_move (S.tm rfl)) rfl ?_; clear S; intro a S
 obtain ⟨r2, hr2, h⟩ := bindE h
 refine l_enter1 1 S (b := b1) rfl rfl (fun _ => .blk b1 [v_p_l, .int .i64 r2.2] 25) (fun _ => run_call (vs := [.pointer (some ⟨b1, 0, none⟩), .int .i64 2]) ⟨(S.tm rfl), rfl, trivial⟩ Tryd.call5) (Stream_Flip_ok _ b1 v_p_l p_l (hs_p_l.mono (S.le_arg (fp_sub (i := 1) (e := .blk b1 [v_p_l, .int .i64 r1.2] 25) rfl))) r1.2 (S.holds _ (List.mem_of_getElem? (i := 1) rfl)) 2 _ hr2) rfl (fun _ _ _ h => ⟨h.1, fun _ hc => by cases hc; rfl⟩) ?_; clear S; intro v2 a w5 hv2 hk5 hn2 S
 replace hv2 := hv2.2
 subst hv2
 refine l_done ?_
 replace S := S.nk [.blk b2 [.string r1.1.Key, .int .i64 r1.1.Metres, .int .i64 r1.1.Stroke, .int .i64 r1.1.Course, .int .i64 r1.1.Legs, .int .i64 r1.1.Sex, .int .i64 r1.1.Young, .int .i64 r1.1.Old] 27, .blk b1 [v_p_l, .int .i64 r2.2] 25] [(3, .pointer (some ⟨b1, 0, none⟩)), (4, .pointer (some ⟨b2, 0, none⟩)), (20, .bool r2.1)] [true, true] rfl ⟨rfl, rfl, rfl, trivial⟩
 refine then_n ?_
 obtain ⟨j1, hj1, h⟩ := joinE h
 refine f_join (fun a w' => ∃ x1 : Int, j1 x1 = some r ∧ Sx w [] nov [.blk b2 [.string r1.1.Key, .int .i64 r1.1.Metres, .int .i64 r1.1.Stroke, .int .i64 r1.1.Course, .int .i64 x1, .int .i64 r1.1.Sex, .int .i64 r1.1.Young, .int .i64 r1.1.Old] 27, .blk b1 [v_p_l, .int .i64 r2.2] 25] [(3, .pointer (some ⟨b1, 0, none⟩)), (4, .pointer (some ⟨b2, 0, none⟩))] 107 a w') ?_ ?_
 ·refine f_cond (S.tm rfl) (fun hb1 => ?_) (fun hb1 => ?_)
  ·replace h := iteT h hb1
   refine f_region ?_
   refine lv S (rn_fld fa_27_4 (S.tm rfl)) rfl ?_; clear S; intro a S
   refine l_store S (S.tm rfl) rfl (i := 0) (off := 4) rfl Tryd.sizeOf3 (vs := [.int .i64 4]) rfl rfl rfl rfl ?_; clear S; intro w7 hk6 S
   refine l_done ?_
   replace S := S.nk [.blk b2 [.string r1.1.Key, .int .i64 r1.1.Metres, .int .i64 r1.1.Stroke, .int .i64 r1.1.Course, .int .i64 4, .int .i64 r1.1.Sex, .int .i64 r1.1.Young, .int .i64 r1.1.Old] 27, .blk b1 [v_p_l, .int .i64 r2.2] 25] [(3, .pointer (some ⟨b1, 0, none⟩)), (4, .pointer (some ⟨b2, 0, none⟩))] [true, true] rfl ⟨rfl, rfl, trivial⟩
   refine then_n ?_
   exact ⟨4, h, S.nf [true, true] rfl ⟨rfl, rfl, trivial⟩⟩
  ·replace h := iteF h hb1
   refine wp_skip ?_
   refine then_n ?_
   exact ⟨r1.1.Legs, h, S.nf [true, true] rfl ⟨rfl, rfl, trivial⟩⟩
 clear S h; rintro a w6 ⟨x1, h, S⟩; rw [hj1] at h; clear hj1 j1
 refine then_n ?_
 refine f_seq ?_
 refine f_seq ?_
 refine f_region ?_
 refine lv S (rn_move (S.tm rfl)) rfl ?_; clear S; intro a S
 obtain ⟨r3, hr3, h⟩ := bindE h
 refine l_enter1 1 S (b := b1) rfl rfl (fun _ => .blk b1 [v_p_l, .int .i64 r3.2] 25) (fun _ => run_call (vs := [.pointer (some ⟨b1, 0, none⟩), .int .i64 15]) ⟨(S.tm rfl), rfl, trivial⟩ Tryd.call5) (Stream_Flip_ok _ b1 v_p_l p_l (hs_p_l.mono (S.le_arg (fp_sub (i := 1) (e := .blk b1 [v_p_l, .int .i64 r2.2] 25) rfl))) r2.2 (S.holds _ (List.mem_of_getElem? (i := 1) rfl)) 15 _ hr3) rfl (fun _ _ _ h => ⟨h.1, fun _ hc => by cases hc; rfl⟩) ?_; clear S; intro v3 a w8 hv3 hk7 hn3 S
 replace hv3 := hv3.2
 subst hv3
 refine l_done ?_
 replace S := S.nk [.blk b2 [.string r1.1.Key, .int .i64 r1.1.Metres, .int .i64 r1.1.Stroke, .int .i64 r1.1.Course, .int .i64 x1, .int .i64 r1.1.Sex, .int .i64 r1.1.Young, .int .i64 r1.1.Old] 27, .blk b1 [v_p_l, .int .i64 r3.2] 25] [(3, .pointer (some ⟨b1, 0, none⟩)), (4, .pointer (some ⟨b2, 0, none⟩)), (23, .bool r3.1)] [true, true] rfl ⟨rfl, rfl, rfl, trivial⟩
 refine then_n ?_
 obtain ⟨j2, hj2, h⟩ := joinE h
 refine f_join (fun a w' => ∃ x2 : Int, j2 x2 = some r ∧ Sx w [] nov [.blk b2 [.string r1.1.Key, .int .i64 r1.1.Metres, .int .i64 r1.1.Stroke, .int .i64 x2, .int .i64 x1, .int .i64 r1.1.Sex, .int .i64 r1.1.Young, .int .i64 r1.1.Old] 27, .blk b1 [v_p_l, .int .i64 r3.2] 25] [(3, .pointer (some ⟨b1, 0, none⟩)), (4, .pointer (some ⟨b2, 0, none⟩))] 107 a w') ?_ ?_
 ·refine f_cond (S.tm rfl) (fun hb2 => ?_) (fun hb2 => ?_)
  ·replace h := iteT h hb2
   refine f_region ?_
   refine lv S (rn_fld fa_27_3 (S.tm rfl)) rfl ?_; clear S; intro a S
   refine l_store S (S.tm rfl) rfl (i := 0) (off := 3) rfl Tryd.sizeOf3 (vs := [.int .i64 33]) rfl rfl rfl rfl ?_; clear S; intro w10 hk8 S
   refine l_done ?_
   replace S := S.nk [.blk b2 [.string r1.1.Key, .int .i64 r1.1.Metres, .int .i64 r1.1.Stroke, .int .i64 33, .int .i64 x1, .int .i64 r1.1.Sex, .int .i64 r1.1.Young, .int .i64 r1.1.Old] 27, .blk b1 [v_p_l, .int .i64 r3.2] 25] [(3, .pointer (some ⟨b1, 0, none⟩)), (4, .pointer (some ⟨b2, 0, none⟩))] [true, true] rfl ⟨rfl, rfl, trivial⟩
   refine then_n ?_
   exact ⟨33, h, S.nf [true, true] rfl ⟨rfl, rfl, trivial⟩⟩
  ·replace h := iteF h hb2
   refine wp_skip ?_
   refine then_n ?_
   exact ⟨r1.1.Course, h, S.nf [true, true] rfl ⟨rfl, rfl, trivial⟩⟩
 clear S h; rintro a w9 ⟨x2, h, S⟩; rw [hj2] at h; clear hj2 j2
 refine then_n ?_
 refine f_seq ?_
 refine f_region ?_
 refine lv S (rn_assign rfl) rfl ?_; clear S; intro a S
 replace S := S.nil 3 1
 refine l_done ?_
 replace S := S.nk [.own (.slice none 0 0) 3 1 ([] : List Int).length (([] : List Int).flatMap eInt), .blk b2 [.string r1.1.Key, .int .i64 r1.1.Metres, .int .i64 r1.1.Stroke, .int .i64 x2, .int .i64 x1, .int .i64 r1.1.Sex, .int .i64 r1.1.Young, .int .i64 r1.1.Old] 27, .blk b1 [v_p_l, .int .i64 r3.2] 25] [(3, .pointer (some ⟨b1, 0, none⟩)), (4, .pointer (some ⟨b2, 0, none⟩)), (5, (.slice none 0 0))] [true, true, true] rfl ⟨rfl, rfl, rfl, trivial⟩
 refine then_n ?_
 refine f_seq ?_
 refine f_region ?_
 refine lv S (rn_assign rfl) rfl ?_; clear S; intro a S
 refine l_done ?_
 replace S := S.nk [.own (.slice none 0 0) 3 1 ([] : List Int).length (([] : List Int).flatMap eInt), .blk b2 [.string r1.1.Key, .int .i64 r1.1.Metres, .int .i64 r1.1.Stroke, .int .i64 x2, .int .i64 x1, .int .i64 r1.1.Sex, .int .i64 r1.1.Young, .int .i64 r1.1.Old] 27, .blk b1 [v_p_l, .int .i64 r3.2] 25] [(3, .pointer (some ⟨b1, 0, none⟩)), (4, .pointer (some ⟨b2, 0, none⟩)), (5, (.slice none 0 0)), (6, .int .i64 0)] [true, true, true] rfl ⟨rfl, rfl, rfl, rfl, trivial⟩
 refine then_n ?_
 refine f_seq ?_
 refine f_seq ?_
 refine f_region ?_
 refine lv S (rn_fld fa_27_1 (S.tm rfl)) rfl ?_; clear S; intro a S
 refine lv S (rn_load Tryd.isAgg3 (S.tm rfl) (S.cell (i := 1) rfl rfl)) rfl ?_; clear S; intro a S
 refine lv S (rn_quo (S.tm rfl) rfl (by decide)) rfl ?_; clear S; intro a S
 refine lv S (rn_fld fa_27_4 (S.tm rfl)) rfl ?_; clear S; intro a S
 refine lv S (rn_load Tryd.isAgg3 (S.tm rfl) (S.cell (i := 1) rfl rfl)) rfl ?_; clear S; intro a S
 refine lv S (rn_mul (S.tm rfl) (S.tm rfl)) rfl ?_; clear S; intro a S
 refine lv S (rn_fld fa_27_3 (S.tm rfl)) rfl ?_; clear S; intro a S
 refine lv S (rn_load Tryd.isAgg3 (S.tm rfl) (S.cell (i := 1) rfl rfl)) rfl ?_; clear S; intro a S
 refine lv S (rn_max2 (S.tm rfl) rfl) rfl ?_; clear S; intro a S
 refine lv S (rn_quo (S.tm rfl) rfl (by decide)) rfl ?_; clear S; intro a S
 obtain ⟨hc1, h⟩ := chkE h
 refine lv S (rn_quo (S.tm rfl) (S.tm rfl) (ne0_of hc1)) rfl ?_; clear S; intro a S
 refine lv S (rn_max2 rfl (S.tm rfl)) rfl ?_; clear S; intro a S
 refine lv S (rn_move rfl) rfl ?_; clear S; intro a S
 refine l_done ?_
 replace S := S.nk [.own (.slice none 0 0) 3 1 ([] : List Int).length (([] : List Int).flatMap eInt), .blk b2 [.string r1.1.Key, .int .i64 r1.1.Metres, .int .i64 r1.1.Stroke, .int .i64 x2, .int .i64 x1, .int .i64 r1.1.Sex, .int .i64 r1.1.Young, .int .i64 r1.1.Old] 27, .blk b1 [v_p_l, .int .i64 r3.2] 25] [(3, .pointer (some ⟨b1, 0, none⟩)), (4, .pointer (some ⟨b2, 0, none⟩)), (5, (.slice none 0 0)), (6, .int .i64 0), (36, .int .i64 (imax 1 (W (Int.tdiv (W ((W (Int.tdiv r1.1.Metres 25)) * x1)) (W (Int.tdiv (imax x2 25) 25)))))), (37, .int .i64 0)] [true, true, true] rfl ⟨rfl, rfl, rfl, rfl, rfl, rfl, trivial⟩
 refine then_n ?_
 obtain ⟨j3, hj3, h⟩ := joinE h
 refine f_join (fun a w' => ∃ x3 : List Int, ∃ x4 : Int, ∃ v4 : Value, j3 x3 x4 = some r ∧ Sx w [] nov [.own v4 3 1 x3.length (x3.flatMap eInt), .blk b2 [.string r1.1.Key, .int .i64 r1.1.Metres, .int .i64 r1.1.Stroke, .int .i64 x2, .int .i64 x1, .int .i64 r1.1.Sex, .int .i64 r1.1.Young, .int .i64 r1.1.Old] 27, .blk b1 [v_p_l, .int .i64 x4] 25] [(3, .pointer (some ⟨b1, 0, none⟩)), (4, .pointer (some ⟨b2, 0, none⟩)), (5, v4)] 107 a w') ?_ ?_
 ·refine wp_block ?_
  refine f_loop (fun (m1 : Nat) a w' => ∃ x3 : List Int, ∃ x4 : Int, ∃ x5 : Int, ∃ x6 : Int, ∃ v4 : Value, tumblaw2_RelaysLeadOff_l1 r1 x1 x2 p_l j3 m1 x3 x4 x5 x6 = some r ∧ Sx w [] nov [.own v4 3 1 x3.length (x3.flatMap eInt), .blk b2 [.string r1.1.Key, .int .i64 r1.1.Metres, .int .i64 r1.1.Stroke, .int .i64 x2, .int .i64 x1, .int .i64 r1.1.Sex, .int .i64 r1.1.Young, .int .i64 r1.1.Old] 27, .blk b1 [v_p_l, .int .i64 x4] 25] [(3, .pointer (some ⟨b1, 0, none⟩)), (4, .pointer (some ⟨b2, 0, none⟩)), (5, v4), (6, .int .i64 x5), (36, .int .i64 (imax 1 (W (Int.tdiv (W ((W (Int.tdiv r1.1.Metres 25)) * x1)) (W (Int.tdiv (imax x2 25) 25)))))), (37, .int .i64 x6)] 107 a w') id (((imax 1 (W (Int.tdiv (W ((W (Int.tdiv r1.1.Metres 25)) * x1)) (W (Int.tdiv (imax x2 25) 25))))) - 0).toNat + 2) ⟨([] : List Int), r3.2, 0, 0, (.slice none 0 0), h, S.nf [true, true, true] rfl ⟨rfl, rfl, rfl, rfl, rfl, rfl, trivial⟩⟩ ?_
  clear S h; rintro m1 a w11 ⟨x3, x4, x5, x6, v4, h, S⟩
  cases m1 with
  | zero => rw [tumblaw2_RelaysLeadOff_l1.eq_1] at h; cases h
  | succ m1 =>
   rw [tumblaw2_RelaysLeadOff_l1.eq_2] at h
   refine f_seq ?_
   refine f_region ?_
   refine lv S (rn_lss (S.tm rfl) (S.tm rfl)) rfl ?_; clear S; intro a S
   refine l_done ?_
   replace S := S.nk [.own v4 3 1 x3.length (x3.flatMap eInt), .blk b2 [.string r1.1.Key, .int .i64 r1.1.Metres, .int .i64 r1.1.Stroke, .int .i64 x2, .int .i64 x1, .int .i64 r1.1.Sex, .int .i64 r1.1.Young, .int .i64 r1.1.Old] 27, .blk b1 [v_p_l, .int .i64 x4] 25] [(3, .pointer (some ⟨b1, 0, none⟩)), (4, .pointer (some ⟨b2, 0, none⟩)), (5, v4), (6, .int .i64 x5), (36, .int .i64 (imax 1 (W (Int.tdiv (W ((W (Int.tdiv r1.1.Metres 25)) * x1)) (W (Int.tdiv (imax x2 25) 25)))))), (37, .int .i64 x6), (38, .bool (decide (x6 < (imax 1 (W (Int.tdiv (W ((W (Int.tdiv r1.1.Metres 25)) * x1)) (W (Int.tdiv (imax x2 25) 25))))))))] [true, true, true] rfl ⟨rfl, rfl, rfl, rfl, rfl, rfl, rfl, trivial⟩
   refine then_n ?_
   refine f_seq ?_
   refine f_cond (S.tm rfl) (fun hb3 => ?_) (fun hb3 => ?_)
   ·replace h := iteT h hb3
    refine wp_skip ?_
    refine then_n ?_
    refine f_seq ?_
    refine wp_block ?_
    refine f_seq ?_
    refine f_region ?_
    refine lv S (rn_move (S.tm rfl)) rfl ?_; clear S; intro a S
    refine lv S (rn_move (S.tm rfl)) rfl ?_; clear S; intro a S
    refine l_buildSlice S Tryd.underlying22 Tryd.sizeOf3 Tryd.zeroValue3 rfl rfl (pv := [(0, .int .i64 1500), (1, .int .i64 1600), (2, .int .i64 2000)]) ⟨rfl, rfl, rfl, rfl, rfl, rfl, trivial⟩ (cs := [.int .i64 1500, .int .i64 1600, .int .i64 2000]) (by kernel_rfl) rfl ?_; clear S; intro a w13 b3 hz3 hk9 S
    obtain ⟨r4, hr4, h⟩ := bindE h
    refine l_enter1 3 S (b := b1) rfl rfl (fun _ => .blk b1 [v_p_l, .int .i64 r4.2] 25) (fun _ => run_call (vs := [.pointer (some ⟨b1, 0, none⟩), .slice (some ⟨b3, 0, none⟩) 3 3]) ⟨(S.tm rfl), (S.tm rfl), trivial⟩ Tryd.call6) (Stream_Pick_ok _ b1 v_p_l p_l (hs_p_l.mono (S.le_arg (fp_sub (i := 3) (e := .blk b1 [v_p_l, .int .i64 x4] 25) rfl))) x4 (S.holds _ (List.mem_of_getElem? (i := 3) rfl)) (.slice (some ⟨b3, 0, none⟩) 3 3) [1500, 1600, 2000] (lit_slcT enc_int S (i := 0) rfl rfl rfl rfl ((ne_fp (i := 3) (j := 0) (e := .blk b1 [v_p_l, .int .i64 x4] 25) (e' := .blk b3 [.int .i64 1500, .int .i64 1600, .int .i64 2000] 3) S rfl rfl rfl) _ rfl)) _ hr4) rfl (fun _ _ _ h => ⟨h.1, fun _ hc => by cases hc; rfl⟩) ?_; clear S; intro v5 a w14 hv4 hk10 hn4 S
    replace hv4 := hv4.2
    subst hv4
    refine lv S (rn_add (S.tm rfl) (S.tm rfl)) rfl ?_; clear S; intro a S
    refine lv S (rn_assign (S.tm rfl)) rfl ?_; clear S; intro a S
    refine l_done ?_
    replace S := S.nk [.own v4 3 1 x3.length (x3.flatMap eInt), .blk b2 [.string r1.1.Key, .int .i64 r1.1.Metres, .int .i64 r1.1.Stroke, .int .i64 x2, .int .i64 x1, .int .i64 r1.1.Sex, .int .i64 r1.1.Young, .int .i64 r1.1.Old] 27, .blk b1 [v_p_l, .int .i64 r4.2] 25] [(3, .pointer (some ⟨b1, 0, none⟩)), (4, .pointer (some ⟨b2, 0, none⟩)), (5, v4), (6, .int .i64 (W (x5 + r4.1))), (36, .int .i64 (imax 1 (W (Int.tdiv (W ((W (Int.tdiv r1.1.Metres 25)) * x1)) (W (Int.tdiv (imax x2 25) 25)))))), (37, .int .i64 x6)] [false, true, true, true] rfl ⟨rfl, rfl, rfl, rfl, rfl, rfl, trivial⟩
    refine then_n ?_
    refine f_seq ?_
    refine f_region ?_
    refine lv S (rn_move (S.tm rfl)) rfl ?_; clear S; intro a S
    refine lv S (rn_assign (S.tm rfl)) rfl ?_; clear S; intro a S
    refine l_done ?_
    replace S := S.nk [.own v4 3 1 x3.length (x3.flatMap eInt), .blk b2 [.string r1.1.Key, .int .i64 r1.1.Metres, .int .i64 r1.1.Stroke, .int .i64 x2, .int .i64 x1, .int .i64 r1.1.Sex, .int .i64 r1.1.Young, .int .i64 r1.1.Old] 27, .blk b1 [v_p_l, .int .i64 r4.2] 25] [(3, .pointer (some ⟨b1, 0, none⟩)), (4, .pointer (some ⟨b2, 0, none⟩)), (5, v4), (6, .int .i64 (W (x5 + r4.1))), (7, .int .i64 (W (x5 + r4.1))), (36, .int .i64 (imax 1 (W (Int.tdiv (W ((W (Int.tdiv r1.1.Metres 25)) * x1)) (W (Int.tdiv (imax x2 25) 25)))))), (37, .int .i64 x6)] [true, true, true] rfl ⟨rfl, rfl, rfl, rfl, rfl, rfl, rfl, trivial⟩
    refine then_n ?_
    refine f_seq ?_
    refine f_seq ?_
    refine f_region ?_
    refine lv S (rn_move (S.tm rfl)) rfl ?_; clear S; intro a S
    obtain ⟨r5, hr5, h⟩ := bindE h
    refine l_enter1 2 S (b := b1) rfl rfl (fun _ => .blk b1 [v_p_l, .int .i64 r5.2] 25) (fun _ => run_call (vs := [.pointer (some ⟨b1, 0, none⟩), .int .i64 12]) ⟨(S.tm rfl), rfl, trivial⟩ Tryd.call5) (Stream_Flip_ok _ b1 v_p_l p_l (hs_p_l.mono (S.le_arg (fp_sub (i := 2) (e := .blk b1 [v_p_l, .int .i64 r4.2] 25) rfl))) r4.2 (S.holds _ (List.mem_of_getElem? (i := 2) rfl)) 12 _ hr5) rfl (fun _ _ _ h => ⟨h.1, fun _ hc => by cases hc; rfl⟩) ?_; clear S; intro v6 a w15 hv5 hk11 hn5 S
    replace hv5 := hv5.2
    subst hv5
    refine l_done ?_
    replace S := S.nk [.own v4 3 1 x3.length (x3.flatMap eInt), .blk b2 [.string r1.1.Key, .int .i64 r1.1.Metres, .int .i64 r1.1.Stroke, .int .i64 x2, .int .i64 x1, .int .i64 r1.1.Sex, .int .i64 r1.1.Young, .int .i64 r1.1.Old] 27, .blk b1 [v_p_l, .int .i64 r5.2] 25] [(3, .pointer (some ⟨b1, 0, none⟩)), (4, .pointer (some ⟨b2, 0, none⟩)), (5, v4), (6, .int .i64 (W (x5 + r4.1))), (7, .int .i64 (W (x5 + r4.1))), (36, .int .i64 (imax 1 (W (Int.tdiv (W ((W (Int.tdiv r1.1.Metres 25)) * x1)) (W (Int.tdiv (imax x2 25) 25)))))), (37, .int .i64 x6), (46, .bool r5.1)] [true, true, true] rfl ⟨rfl, rfl, rfl, rfl, rfl, rfl, rfl, rfl, trivial⟩
    refine then_n ?_
    obtain ⟨j4, hj4, h⟩ := joinE h
    refine f_join (fun a w' => ∃ x7 : Int, j4 x7 = some r ∧ Sx w [] nov [.own v4 3 1 x3.length (x3.flatMap eInt), .blk b2 [.string r1.1.Key, .int .i64 r1.1.Metres, .int .i64 r1.1.Stroke, .int .i64 x2, .int .i64 x1, .int .i64 r1.1.Sex, .int .i64 r1.1.Young, .int .i64 r1.1.Old] 27, .blk b1 [v_p_l, .int .i64 r5.2] 25] [(3, .pointer (some ⟨b1, 0, none⟩)), (4, .pointer (some ⟨b2, 0, none⟩)), (5, v4), (6, .int .i64 (W (x5 + r4.1))), (7, .int .i64 x7), (36, .int .i64 (imax 1 (W (Int.tdiv (W ((W (Int.tdiv r1.1.Metres 25)) * x1)) (W (Int.tdiv (imax x2 25) 25)))))), (37, .int .i64 x6)] 107 a w') ?_ ?_
    ·refine f_cond (S.tm rfl) (fun hb4 => ?_) (fun hb4 => ?_)
     ·replace h := iteT h hb4
      refine f_region ?_
      refine lv S (rn_assign rfl) rfl ?_; clear S; intro a S
      refine l_done ?_
      replace S := S.nk [.own v4 3 1 x3.length (x3.flatMap eInt), .blk b2 [.string r1.1.Key, .int .i64 r1.1.Metres, .int .i64 r1.1.Stroke, .int .i64 x2, .int .i64 x1, .int .i64 r1.1.Sex, .int .i64 r1.1.Young, .int .i64 r1.1.Old] 27, .blk b1 [v_p_l, .int .i64 r5.2] 25] [(3, .pointer (some ⟨b1, 0, none⟩)), (4, .pointer (some ⟨b2, 0, none⟩)), (5, v4), (6, .int .i64 (W (x5 + r4.1))), (7, .int .i64 0), (36, .int .i64 (imax 1 (W (Int.tdiv (W ((W (Int.tdiv r1.1.Metres 25)) * x1)) (W (Int.tdiv (imax x2 25) 25)))))), (37, .int .i64 x6)] [true, true, true] rfl ⟨rfl, rfl, rfl, rfl, rfl, rfl, rfl, trivial⟩
      refine then_n ?_
      exact ⟨0, h, S.nf [true, true, true] rfl ⟨rfl, rfl, rfl, rfl, rfl, rfl, rfl, trivial⟩⟩
     ·replace h := iteF h hb4
      refine wp_skip ?_
      refine then_n ?_
      exact ⟨W (x5 + r4.1), h, S.nf [true, true, true] rfl ⟨rfl, rfl, rfl, rfl, rfl, rfl, rfl, trivial⟩⟩
    clear S h; rintro a w16 ⟨x7, h, S⟩; rw [hj4] at h; clear hj4 j4
    refine then_n ?_
    refine f_region ?_
    refine lv S (rn_move (S.tm rfl)) rfl ?_; clear S; intro a S
    refine lv S (rn_move (S.tm rfl)) rfl ?_; clear S; intro a S
    refine l_buildSlice S Tryd.underlying22 Tryd.sizeOf3 Tryd.zeroValue3 rfl rfl (pv := [(0, .int .i64 x7)]) ⟨rfl, (S.tm rfl), trivial⟩ (cs := [.int .i64 x7]) (by kernel_rfl) rfl ?_; clear S; intro a w17 b4 hz4 hk12 S
    obtain ⟨hc2, h⟩ := chkE h
    refine l_appendT sl_22 enc_int S (S.tm rfl) (i := 1) rfl (S.tm rfl) (j := 0) rfl (ys := [x7]) rfl rfl rfl rfl (by have := room_lt hc2; omega) rfl ?_; clear S; intro v7 a w18 hk13 S
    refine lv S (rn_assign (S.tm rfl)) rfl ?_; clear S; intro a S
    refine l_done ?_
    replace S := S.nk [.own v7 3 1 (x3 ++ [x7]).length ((x3 ++ [x7]).flatMap eInt), .blk b2 [.string r1.1.Key, .int .i64 r1.1.Metres, .int .i64 r1.1.Stroke, .int .i64 x2, .int .i64 x1, .int .i64 r1.1.Sex, .int .i64 r1.1.Young, .int .i64 r1.1.Old] 27, .blk b1 [v_p_l, .int .i64 r5.2] 25] [(3, .pointer (some ⟨b1, 0, none⟩)), (4, .pointer (some ⟨b2, 0, none⟩)), (5, v7), (6, .int .i64 (W (x5 + r4.1))), (36, .int .i64 (imax 1 (W (Int.tdiv (W ((W (Int.tdiv r1.1.Metres 25)) * x1)) (W (Int.tdiv (imax x2 25) 25)))))), (37, .int .i64 x6)] [false, true, true, true] rfl ⟨rfl, rfl, rfl, rfl, rfl, rfl, trivial⟩
    refine blk_n ?_
    refine then_n ?_
    refine f_region ?_
    refine lv S (rn_add (S.tm rfl) rfl) rfl ?_; clear S; intro a S
    refine lv S (rn_move (S.tm rfl)) rfl ?_; clear S; intro a S
    refine l_done ?_
    replace S := S.nk [.own v7 3 1 (x3 ++ [x7]).length ((x3 ++ [x7]).flatMap eInt), .blk b2 [.string r1.1.Key, .int .i64 r1.1.Metres, .int .i64 r1.1.Stroke, .int .i64 x2, .int .i64 x1, .int .i64 r1.1.Sex, .int .i64 r1.1.Young, .int .i64 r1.1.Old] 27, .blk b1 [v_p_l, .int .i64 r5.2] 25] [(3, .pointer (some ⟨b1, 0, none⟩)), (4, .pointer (some ⟨b2, 0, none⟩)), (5, v7), (6, .int .i64 (W (x5 + r4.1))), (36, .int .i64 (imax 1 (W (Int.tdiv (W ((W (Int.tdiv r1.1.Metres 25)) * x1)) (W (Int.tdiv (imax x2 25) 25)))))), (37, .int .i64 (W (x6 + 1)))] [true, true, true] rfl ⟨rfl, rfl, rfl, rfl, rfl, rfl, trivial⟩
    refine then_n ?_
    exact ⟨m1, ⟨(x3 ++ [x7]), r5.2, W (x5 + r4.1), W (x6 + 1), v7, h, S.nf [true, true, true] rfl ⟨rfl, rfl, rfl, rfl, rfl, rfl, trivial⟩⟩, Nat.lt_succ_self _⟩
   ·replace h := iteF h hb3
    refine wp_exit ?_
    refine then_x ?_
    refine then_x ?_
    refine x_same ?_
    refine then_n ?_
    exact ⟨x3, x4, v4, h, S.nf [true, true, true] rfl ⟨rfl, rfl, rfl, trivial⟩⟩
 clear S h; rintro a w12 ⟨x3, x4, v4, h, S⟩; rw [hj3] at h; clear hj3 j3
 refine then_n ?_
 refine f_seq ?_
 refine f_seq ?_
 refine f_region ?_
 refine lv S (rn_move (S.tm rfl)) rfl ?_; clear S; intro a S
 obtain ⟨r6, hr6, h⟩ := bindE h
 refine l_enter1 2 S (b := b1) rfl rfl (fun _ => .blk b1 [v_p_l, .int .i64 r6.2] 25) (fun _ => run_call (vs := [.pointer (some ⟨b1, 0, none⟩), .int .i64 12]) ⟨(S.tm rfl), rfl, trivial⟩ Tryd.call5) (Stream_Flip_ok _ b1 v_p_l p_l (hs_p_l.mono (S.le_arg (fp_sub (i := 2) (e := .blk b1 [v_p_l, .int .i64 x4] 25) rfl))) x4 (S.holds _ (List.mem_of_getElem? (i := 2) rfl)) 12 _ hr6) rfl (fun _ _ _ h => ⟨h.1, fun _ hc => by cases hc; rfl⟩) ?_; clear S; intro v8 a w19 hv6 hk14 hn6 S
 replace hv6 := hv6.2
 subst hv6
 refine l_done ?_
 replace S := S.nk [.own v4 3 1 x3.length (x3.flatMap eInt), .blk b2 [.string r1.1.Key, .int .i64 r1.1.Metres, .int .i64 r1.1.Stroke, .int .i64 x2, .int .i64 x1, .int .i64 r1.1.Sex, .int .i64 r1.1.Young, .int .i64 r1.1.Old] 27, .blk b1 [v_p_l, .int .i64 r6.2] 25] [(3, .pointer (some ⟨b1, 0, none⟩)), (4, .pointer (some ⟨b2, 0, none⟩)), (5, v4), (53, .bool r6.1)] [true, true, true] rfl ⟨rfl, rfl, rfl, rfl, trivial⟩
 refine then_n ?_
 obtain ⟨j5, hj5, h⟩ := joinE h
 refine f_join (fun a w' => ∃ x8 : List Int, ∃ v9 : Value, j5 x8 = some r ∧ Sx w [] nov [.own v9 3 1 x8.length (x8.flatMap eInt), .blk b2 [.string r1.1.Key, .int .i64 r1.1.Metres, .int .i64 r1.1.Stroke, .int .i64 x2, .int .i64 x1, .int .i64 r1.1.Sex, .int .i64 r1.1.Young, .int .i64 r1.1.Old] 27] [(4, .pointer (some ⟨b2, 0, none⟩)), (5, v9)] 107 a w') ?_ ?_
 ·refine f_cond (S.tm rfl) (fun hb5 => ?_) (fun hb5 => ?_)
  ·replace h := iteT h hb5
   refine f_region ?_
   refine lv S (rn_move (S.tm rfl)) rfl ?_; clear S; intro a S
   refine lv S (rn_move (S.tm rfl)) rfl ?_; clear S; intro a S
   obtain ⟨r7, hr7, h⟩ := bindE h
   refine l_enter1 2 S (b := b1) rfl rfl (fun _ => .blk b1 [v_p_l, .int .i64 r7.2] 25) (fun _ => run_call (vs := [.pointer (some ⟨b1, 0, none⟩), .int .i64 0, .int .i64 5000]) ⟨(S.tm rfl), rfl, rfl, trivial⟩ Tryd.call7) (Stream_Odd_ok _ b1 v_p_l p_l (hs_p_l.mono (S.le_arg (fp_sub (i := 2) (e := .blk b1 [v_p_l, .int .i64 r6.2] 25) rfl))) r6.2 (S.holds _ (List.mem_of_getElem? (i := 2) rfl)) 0 5000 _ hr7) rfl (fun _ _ _ h => ⟨h.1, fun _ hc => by cases hc; rfl⟩) ?_; clear S; intro v10 a w21 hv7 hk15 hn7 S
   replace hv7 := hv7.2
   subst hv7
   refine l_buildSlice S Tryd.underlying22 Tryd.sizeOf3 Tryd.zeroValue3 rfl rfl (pv := [(0, .int .i64 r7.1)]) ⟨rfl, (S.tm rfl), trivial⟩ (cs := [.int .i64 r7.1]) (by kernel_rfl) rfl ?_; clear S; intro a w22 b5 hz5 hk16 S
   obtain ⟨hc3, h⟩ := chkE h
   refine l_appendT sl_22 enc_int S (S.tm rfl) (i := 1) rfl (S.tm rfl) (j := 0) rfl (ys := [r7.1]) rfl rfl rfl rfl (by have := room_lt hc3; omega) rfl ?_; clear S; intro v11 a w23 hk17 S
   refine lv S (rn_assign (S.tm rfl)) rfl ?_; clear S; intro a S
   refine l_done ?_
   replace S := S.nk [.own v11 3 1 (x3 ++ [r7.1]).length ((x3 ++ [r7.1]).flatMap eInt), .blk b2 [.string r1.1.Key, .int .i64 r1.1.Metres, .int .i64 r1.1.Stroke, .int .i64 x2, .int .i64 x1, .int .i64 r1.1.Sex, .int .i64 r1.1.Young, .int .i64 r1.1.Old] 27] [(4, .pointer (some ⟨b2, 0, none⟩)), (5, v11)] [false, true, true, false] rfl ⟨rfl, rfl, trivial⟩
   refine then_n ?_
   exact ⟨(x3 ++ [r7.1]), v11, h, S.nf [true, true] rfl ⟨rfl, rfl, trivial⟩⟩
  ·replace h := iteF h hb5
   refine wp_skip ?_
   refine then_n ?_
   exact ⟨x3, v4, h, S.nf [true, true, false] rfl ⟨rfl, rfl, trivial⟩⟩
 clear S h; rintro a w20 ⟨x8, v9, h, S⟩; rw [hj5] at h; clear hj5 j5
 refine then_n ?_
 refine f_seq ?_
 refine f_region ?_
 refine lv S (rn_ldA Tryd.isAgg27 Tryd.sizeOf27 (off := 0) (o := 0) (part := [.string r1.1.Key, .int .i64 r1.1.Metres, .int .i64 r1.1.Stroke, .int .i64 x2, .int .i64 x1, .int .i64 r1.1.Sex, .int .i64 r1.1.Young, .int .i64 r1.1.Old]) rfl rfl (S.tm rfl) (S.cellsAt (i := 1) rfl)) rfl ?_; clear S; intro a S
 refine lv S (rn_move (S.tm rfl)) rfl ?_; clear S; intro a S
 obtain ⟨r8, hr8, h⟩ := bindE h
 refine l_enter S (fun _ => run_call (vs := [.agg (GRace.enc (GRace.mk r1.1.Key r1.1.Metres r1.1.Stroke x2 x1 r1.1.Sex r1.1.Young r1.1.Old)).toArray, v9]) ⟨(S.tm rfl), (S.tm rfl), trivial⟩ Tryd.call8) (record_LeadOff_ok _ (GRace.mk r1.1.Key r1.1.Metres r1.1.Stroke x2 x1 r1.1.Sex r1.1.Young r1.1.Old) v9 x8 (own_slcT enc_int S (i := 0) rfl (ne_nil (e' := .own v9 3 1 x8.length (x8.flatMap eInt)))) _ hr8) rfl ?_; clear S; intro v12 a w24 hv8 hk18 hn8 S
 subst hv8
 refine lv S (rn_move (S.tm rfl)) rfl ?_; clear S; intro a S
 refine lv S (rn_extract (S.tm rfl) rfl) rfl ?_; clear S; intro a S
 refine lv S (rn_extract (S.tm rfl) rfl) rfl ?_; clear S; intro a S
 refine lv S (rn_extract (S.tm rfl) rfl) rfl ?_; clear S; intro a S
 refine lv S (rn_assign (S.tm rfl)) rfl ?_; clear S; intro a S
 refine lv S (rn_assign (S.tm rfl)) rfl ?_; clear S; intro a S
 refine lv S (rn_assign (S.tm rfl)) rfl ?_; clear S; intro a S
 refine l_done ?_
 replace S := S.nk [.own v9 3 1 x8.length (x8.flatMap eInt), .blk b2 [.string r1.1.Key, .int .i64 r1.1.Metres, .int .i64 r1.1.Stroke, .int .i64 x2, .int .i64 x1, .int .i64 r1.1.Sex, .int .i64 r1.1.Young, .int .i64 r1.1.Old] 27] [(4, .pointer (some ⟨b2, 0, none⟩)), (5, v9), (8, .int .i64 r8.1), (9, .bool r8.2.1), (10, .int .i64 r8.2.2)] [true, true] rfl ⟨rfl, rfl, rfl, rfl, rfl, trivial⟩
 refine then_n ?_
 refine f_seq ?_
 refine f_region ?_
 refine lv S (rn_ldA Tryd.isAgg27 Tryd.sizeOf27 (off := 0) (o := 0) (part := [.string r1.1.Key, .int .i64 r1.1.Metres, .int .i64 r1.1.Stroke, .int .i64 x2, .int .i64 x1, .int .i64 r1.1.Sex, .int .i64 r1.1.Young, .int .i64 r1.1.Old]) rfl rfl (S.tm rfl) (S.cellsAt (i := 1) rfl)) rfl ?_; clear S; intro a S
 obtain ⟨r9, hr9, h⟩ := bindE h
 refine l_enter S (fun _ => run_call (vs := [.agg (GRace.enc (GRace.mk r1.1.Key r1.1.Metres r1.1.Stroke x2 x1 r1.1.Sex r1.1.Young r1.1.Old)).toArray]) ⟨(S.tm rfl), trivial⟩ Tryd.call9) (tumbref1_RaceFault_ok _ (GRace.mk r1.1.Key r1.1.Metres r1.1.Stroke x2 x1 r1.1.Sex r1.1.Young r1.1.Old) _ hr9) rfl ?_; clear S; intro v13 a w25 hv9 hk19 hn9 S
 subst hv9
 refine lv S (rn_assign (S.tm rfl)) rfl ?_; clear S; intro a S
 refine l_done ?_
 replace S := S.nk [.own v9 3 1 x8.length (x8.flatMap eInt), .blk b2 [.string r1.1.Key, .int .i64 r1.1.Metres, .int .i64 r1.1.Stroke, .int .i64 x2, .int .i64 x1, .int .i64 r1.1.Sex, .int .i64 r1.1.Young, .int .i64 r1.1.Old] 27] [(4, .pointer (some ⟨b2, 0, none⟩)), (5, v9), (8, .int .i64 r8.1), (9, .bool r8.2.1), (10, .int .i64 r8.2.2), (11, .int .i64 r9)] [true, true] rfl ⟨rfl, rfl, rfl, rfl, rfl, rfl, trivial⟩
 refine then_n ?_
 refine f_seq ?_
 refine f_seq ?_
 refine f_region ?_
 refine lv S (rn_move (S.tm rfl)) rfl ?_; clear S; intro a S
 refine lv S (rn_eql (S.tm rfl) rfl) rfl ?_; clear S; intro a S
 refine l_done ?_
 replace S := S.nk [.own v9 3 1 x8.length (x8.flatMap eInt), .blk b2 [.string r1.1.Key, .int .i64 r1.1.Metres, .int .i64 r1.1.Stroke, .int .i64 x2, .int .i64 x1, .int .i64 r1.1.Sex, .int .i64 r1.1.Young, .int .i64 r1.1.Old] 27] [(4, .pointer (some ⟨b2, 0, none⟩)), (5, v9), (8, .int .i64 r8.1), (9, .bool r8.2.1), (10, .int .i64 r8.2.2), (11, .int .i64 r9), (69, .bool (decide (r9 = 0)))] [true, true] rfl ⟨rfl, rfl, rfl, rfl, rfl, rfl, rfl, trivial⟩
 refine then_n ?_
 obtain ⟨j6, hj6, h⟩ := joinE h
 refine f_join (fun a w' => ∃ x9 : Int, j6 x9 = some r ∧ Sx w [] nov [.own v9 3 1 x8.length (x8.flatMap eInt), .blk b2 [.string r1.1.Key, .int .i64 r1.1.Metres, .int .i64 r1.1.Stroke, .int .i64 x2, .int .i64 x1, .int .i64 r1.1.Sex, .int .i64 r1.1.Young, .int .i64 r1.1.Old] 27] [(4, .pointer (some ⟨b2, 0, none⟩)), (5, v9), (8, .int .i64 r8.1), (9, .bool r8.2.1), (10, .int .i64 r8.2.2), (11, .int .i64 x9)] 107 a w') ?_ ?_
 ·refine f_cond (S.tm rfl) (fun hb6 => ?_) (fun hb6 => ?_)
  ·replace h := iteT h hb6
   refine f_region ?_
   refine lv S (rn_ldA Tryd.isAgg27 Tryd.sizeOf27 (off := 0) (o := 0) (part := [.string r1.1.Key, .int .i64 r1.1.Metres, .int .i64 r1.1.Stroke, .int .i64 x2, .int .i64 x1, .int .i64 r1.1.Sex, .int .i64 r1.1.Young, .int .i64 r1.1.Old]) rfl rfl (S.tm rfl) (S.cellsAt (i := 1) rfl)) rfl ?_; clear S; intro a S
   refine lv S (rn_move (S.tm rfl)) rfl ?_; clear S; intro a S
   obtain ⟨r10, hr10, h⟩ := bindE h
   refine l_enter S (fun _ => run_call (vs := [.agg (GRace.enc (GRace.mk r1.1.Key r1.1.Metres r1.1.Stroke x2 x1 r1.1.Sex r1.1.Young r1.1.Old)).toArray, v9]) ⟨(S.tm rfl), (S.tm rfl), trivial⟩ Tryd.call10) (tumbref1_SplitsFault_ok _ (GRace.mk r1.1.Key r1.1.Metres r1.1.Stroke x2 x1 r1.1.Sex r1.1.Young r1.1.Old) v9 x8 (own_slcT enc_int S (i := 0) rfl (ne_nil (e' := .own v9 3 1 x8.length (x8.flatMap eInt)))) _ hr10) rfl ?_; clear S; intro v14 a w27 hv10 hk20 hn10 S
   subst hv10
   refine lv S (rn_assign (S.tm rfl)) rfl ?_; clear S; intro a S
   refine l_done ?_
   replace S := S.nk [.own v9 3 1 x8.length (x8.flatMap eInt), .blk b2 [.string r1.1.Key, .int .i64 r1.1.Metres, .int .i64 r1.1.Stroke, .int .i64 x2, .int .i64 x1, .int .i64 r1.1.Sex, .int .i64 r1.1.Young, .int .i64 r1.1.Old] 27] [(4, .pointer (some ⟨b2, 0, none⟩)), (5, v9), (8, .int .i64 r8.1), (9, .bool r8.2.1), (10, .int .i64 r8.2.2), (11, .int .i64 r10)] [true, true] rfl ⟨rfl, rfl, rfl, rfl, rfl, rfl, trivial⟩
   refine then_n ?_
   exact ⟨r10, h, S.nf [true, true] rfl ⟨rfl, rfl, rfl, rfl, rfl, rfl, trivial⟩⟩
  ·replace h := iteF h hb6
   refine wp_skip ?_
   refine then_n ?_
   exact ⟨r9, h, S.nf [true, true] rfl ⟨rfl, rfl, rfl, rfl, rfl, rfl, trivial⟩⟩
 clear S h; rintro a w26 ⟨x9, h, S⟩; rw [hj6] at h; clear hj6 j6
 refine then_n ?_
 refine f_seq ?_
 refine f_region ?_
 refine lv S (rn_assign rfl) rfl ?_; clear S; intro a S
 refine lv S (rn_assign rfl) rfl ?_; clear S; intro a S
 refine l_done ?_
 replace S := S.nk [.own v9 3 1 x8.length (x8.flatMap eInt), .blk b2 [.string r1.1.Key, .int .i64 r1.1.Metres, .int .i64 r1.1.Stroke, .int .i64 x2, .int .i64 x1, .int .i64 r1.1.Sex, .int .i64 r1.1.Young, .int .i64 r1.1.Old] 27] [(4, .pointer (some ⟨b2, 0, none⟩)), (5, v9), (8, .int .i64 r8.1), (9, .bool r8.2.1), (10, .int .i64 r8.2.2), (11, .int .i64 x9), (12, .int .i64 0), (13, .bool false)] [true, true] rfl ⟨rfl, rfl, rfl, rfl, rfl, rfl, rfl, rfl, trivial⟩
 refine then_n ?_
 refine f_seq ?_
 refine f_seq ?_
 refine f_region ?_
 refine lv S (rn_move (S.tm rfl)) rfl ?_; clear S; intro a S
 refine lv S (rn_eql (S.tm rfl) rfl) rfl ?_; clear S; intro a S
 refine lv S (rn_move (S.tm rfl)) rfl ?_; clear S; intro a S
 refine f_cutm 4 (fun a w' => Keep [] w26 w' ∧ Sx w [] nov [.own v9 3 1 x8.length (x8.flatMap eInt), .blk b2 [.string r1.1.Key, .int .i64 r1.1.Metres, .int .i64 r1.1.Stroke, .int .i64 x2, .int .i64 x1, .int .i64 r1.1.Sex, .int .i64 r1.1.Young, .int .i64 r1.1.Old] 27] [(4, .pointer (some ⟨b2, 0, none⟩)), (5, v9), (8, .int .i64 r8.1), (9, .bool r8.2.1), (10, .int .i64 r8.2.2), (11, .int .i64 x9), (12, .int .i64 0), (13, .bool false), (79, .bool ((decide (x9 = 0)) && (decide (1 < x1))))] 107 a w') ?_ ?_
 ·rcases Bool.eq_false_or_eq_true (decide (x9 = 0)) with hb7 | hb7
  ·refine l_want S rfl rfl rfl hb7 ?_
   refine lv S (rn_fld fa_27_4 (S.tm rfl)) rfl ?_; clear S; intro a S
   refine l_want S rfl rfl rfl hb7 ?_
   refine lv S (rn_load Tryd.isAgg3 (S.tm rfl) (S.cell (i := 1) rfl rfl)) rfl ?_; clear S; intro a S
   refine l_want S rfl rfl rfl hb7 ?_
   refine lv S (rn_gtr (S.tm rfl) rfl) rfl ?_; clear S; intro a S
   refine lv S (rn_and_t hb7 (S.tm rfl) (S.tm rfl)) rfl ?_; clear S; intro a S
   refine l_done ?_
   refine then_n ?_
   exact ⟨Keep.refl _ _, S.nf [true, true] rfl ⟨rfl, rfl, rfl, rfl, rfl, rfl, rfl, rfl, rfl, trivial⟩⟩
  ·refine l_skip S rfl rfl rfl (neq_f hb7) rfl ?_ rfl; clear S; intro a S
   refine l_skip S rfl rfl rfl (neq_f hb7) rfl ?_ rfl; clear S; intro a S
   refine l_skip S rfl rfl rfl (neq_f hb7) rfl ?_ rfl; clear S; intro a S
   refine lv S (rn_and_f (decide (1 < x1)) hb7 (S.tm rfl) rfl) rfl ?_; clear S; intro a S
   refine l_done ?_
   refine then_n ?_
   exact ⟨Keep.refl _ _, S.nf [true, true] rfl ⟨rfl, rfl, rfl, rfl, rfl, rfl, rfl, rfl, rfl, trivial⟩⟩
 clear S; rintro a w28 ⟨hk21, S⟩
 refine l_done ?_
 replace S := S.nk [.own v9 3 1 x8.length (x8.flatMap eInt), .blk b2 [.string r1.1.Key, .int .i64 r1.1.Metres, .int .i64 r1.1.Stroke, .int .i64 x2, .int .i64 x1, .int .i64 r1.1.Sex, .int .i64 r1.1.Young, .int .i64 r1.1.Old] 27] [(4, .pointer (some ⟨b2, 0, none⟩)), (5, v9), (8, .int .i64 r8.1), (9, .bool r8.2.1), (10, .int .i64 r8.2.2), (11, .int .i64 x9), (12, .int .i64 0), (13, .bool false), (79, .bool ((decide (x9 = 0)) && (decide (1 < x1))))] [true, true] rfl ⟨rfl, rfl, rfl, rfl, rfl, rfl, rfl, rfl, rfl, trivial⟩
 refine then_n ?_
 obtain ⟨j7, hj7, h⟩ := joinE h
 refine f_join (fun a w' => ∃ x10 : Int, ∃ x11 : Bool, j7 x10 x11 = some r ∧ Sx w [] nov [] [(8, .int .i64 r8.1), (9, .bool r8.2.1), (10, .int .i64 r8.2.2), (11, .int .i64 x9), (12, .int .i64 x10), (13, .bool x11)] 107 a w') ?_ ?_
 ·refine f_cond (S.tm rfl) (fun hb8 => ?_) (fun hb8 => ?_)
  ·replace h := iteT h hb8
   refine f_seq ?_
   obtain ⟨r11, hr11, h⟩ := bindE h
   refine d_region [] ([]) Tryd.mixed S rfl (by kernel_rfl) ?_; clear S; intro w31 hk23 hsel S
   refine d_quiet 0 S hsel rfl rfl rfl (by kernel_rfl) (by kernel_rfl) rfl (fun _ hw => (rn_move (S.tm rfl))) ?_; clear S; intro a S
   refine d_quiet 1 S hsel rfl rfl rfl (by kernel_rfl) (by kernel_rfl) rfl (fun _ hw => (rn_ldA Tryd.isAgg27 Tryd.sizeOf27 (off := 0) (o := 0) (part := [.string r1.1.Key, .int .i64 r1.1.Metres, .int .i64 r1.1.Stroke, .int .i64 x2, .int .i64 x1, .int .i64 r1.1.Sex, .int .i64 r1.1.Young, .int .i64 r1.1.Old]) rfl rfl (S.tm rfl) ((S.blk_mem (i := 1) (cells := [.string r1.1.Key, .int .i64 r1.1.Metres, .int .i64 r1.1.Stroke, .int .i64 x2, .int .i64 x1, .int .i64 r1.1.Sex, .int .i64 r1.1.Young, .int .i64 r1.1.Old]) (b := b2) (T := 27) rfl (ne_nil (e' := .blk b2 [.string r1.1.Key, .int .i64 r1.1.Metres, .int .i64 r1.1.Stroke, .int .i64 x2, .int .i64 x1, .int .i64 r1.1.Sex, .int .i64 r1.1.Young, .int .i64 r1.1.Old] 27))).kept hw))) ?_; clear S; intro a S
   refine d_quiet 3 S hsel rfl rfl rfl (by kernel_rfl) (by kernel_rfl) rfl (fun _ hw => (rn_fld fa_27_4 (S.tm rfl))) ?_; clear S; intro a S
   refine d_quiet 4 S hsel rfl rfl rfl (by kernel_rfl) (by kernel_rfl) rfl (fun _ hw => (rn_ld Tryd.isAgg3 (off := 0) (o := 4) (S.tm rfl) ((S.blk_mem (i := 1) (cells := [.string r1.1.Key, .int .i64 r1.1.Metres, .int .i64 r1.1.Stroke, .int .i64 x2, .int .i64 x1, .int .i64 r1.1.Sex, .int .i64 r1.1.Young, .int .i64 r1.1.Old]) (b := b2) (T := 27) rfl (ne_nil (e' := .blk b2 [.string r1.1.Key, .int .i64 r1.1.Metres, .int .i64 r1.1.Stroke, .int .i64 x2, .int .i64 x1, .int .i64 r1.1.Sex, .int .i64 r1.1.Young, .int .i64 r1.1.Old] 27))).kept hw) rfl)) ?_; clear S; intro a S
   refine d_loud1 2 (by kernel_rfl) rfl ?_
   refine l_enter S (fun _ => run_call (vs := [.agg (GRace.enc (GRace.mk r1.1.Key r1.1.Metres r1.1.Stroke x2 x1 r1.1.Sex r1.1.Young r1.1.Old)).toArray]) ⟨(S.tm rfl), trivial⟩ Tryd.call11) (tumbref1_LengthsOf_ok _ (GRace.mk r1.1.Key r1.1.Metres r1.1.Stroke x2 x1 r1.1.Sex r1.1.Young r1.1.Old) _ hr11) rfl ?_; clear S; intro v16 a w32 hv12 hk24 hn12 S
   subst hv12
   refine l_done ?_
   refine d_next hk24 ?_
   refine d_rest [5, 6, 7, 8, 9] hsel (by kernel_rfl) rfl ?_
   clear hsel
   obtain ⟨hc4, h⟩ := chkE h
   refine s_lv S rfl (rn_quo (S.tm rfl) (S.tm rfl) (ne0_of hc4)) rfl ?_; clear S; intro a S
   refine s_lv S rfl (rn_sub (S.tm rfl) rfl) rfl ?_; clear S; intro a S
   obtain ⟨hc5, h⟩ := chkE h
   obtain ⟨b6, hg1, hr12⟩ := rn_indexS (a := a) (x := .tmp 80) (y := .tmp 86) (ty := 0) sl_22 enc_int S (i := 0) rfl (inB_get hc5).1 (inB_get hc5).2 (S.tm rfl) (S.tm rfl)
   refine s_lv S rfl (hr12 _) rfl ?_; clear S; intro a S
   clear hr12
   refine s_lv S rfl (rn_ld Tryd.isAgg3 (off := ((W ((W (Int.tdiv r11 x1)) - 1)).toNat) * 1) (o := 0) (S.tm rfl) (own_cells enc_int S (i := 0) rfl hg1 (inB_get hc5).1) rfl) rfl ?_; clear S; intro a S
   refine s_lv S rfl (rn_assign (S.tm rfl)) rfl ?_; clear S; intro a S
   refine s_done ?_
   replace S := S.nk [] [(8, .int .i64 r8.1), (9, .bool r8.2.1), (10, .int .i64 r8.2.2), (11, .int .i64 x9), (12, .int .i64 (nth x8 (W ((W (Int.tdiv r11 x1)) - 1))))] [false, false] rfl ⟨rfl, rfl, rfl, rfl, rfl, trivial⟩
   refine then_n ?_
   refine f_region ?_
   refine lv S (rn_move (S.tm rfl)) rfl ?_; clear S; intro a S
   refine lv S (rn_gtr (S.tm rfl) rfl) rfl ?_; clear S; intro a S
   refine lv S (rn_assign (S.tm rfl)) rfl ?_; clear S; intro a S
   refine l_done ?_
   replace S := S.nk [] [(8, .int .i64 r8.1), (9, .bool r8.2.1), (10, .int .i64 r8.2.2), (11, .int .i64 x9), (12, .int .i64 (nth x8 (W ((W (Int.tdiv r11 x1)) - 1)))), (13, .bool (decide (0 < (nth x8 (W ((W (Int.tdiv r11 x1)) - 1))))))] [] rfl ⟨rfl, rfl, rfl, rfl, rfl, rfl, trivial⟩
   refine then_n ?_
   exact ⟨(nth x8 (W ((W (Int.tdiv r11 x1)) - 1))), decide (0 < (nth x8 (W ((W (Int.tdiv r11 x1)) - 1)))), h, S.nf [] rfl ⟨rfl, rfl, rfl, rfl, rfl, rfl, trivial⟩⟩
  ·replace h := iteF h hb8
   refine wp_skip ?_
   refine then_n ?_
   exact ⟨0, false, h, S.nf [false, false] rfl ⟨rfl, rfl, rfl, rfl, rfl, rfl, trivial⟩⟩
 clear S h; rintro a w29 ⟨x10, x11, h, S⟩; rw [hj7] at h; clear hj7 j7
 refine then_n ?_
 refine f_seq ?_
 refine f_region ?_
 refine lv S (rn_move (S.tm rfl)) rfl ?_; clear S; intro a S
 refine lv S (rn_move (S.tm rfl)) rfl ?_; clear S; intro a S
 refine lv S (rn_eql (S.tm rfl) (S.tm rfl)) rfl ?_; clear S; intro a S
 refine lv S (rn_move (S.tm rfl)) rfl ?_; clear S; intro a S
 refine f_cutm 4 (fun a w' => Keep [] w29 w' ∧ Sx w [] nov [] [(9, .bool r8.2.1), (13, .bool x11), (98, .bool ((decide (r8.2.2 = x9)) && (decide (r8.1 = x10))))] 107 a w') ?_ ?_
 ·rcases Bool.eq_false_or_eq_true (decide (r8.2.2 = x9)) with hb9 | hb9
  ·refine l_want S rfl rfl rfl hb9 ?_
   refine lv S (rn_move (S.tm rfl)) rfl ?_; clear S; intro a S
   refine l_want S rfl rfl rfl hb9 ?_
   refine lv S (rn_move (S.tm rfl)) rfl ?_; clear S; intro a S
   refine l_want S rfl rfl rfl hb9 ?_
   refine lv S (rn_eql (S.tm rfl) (S.tm rfl)) rfl ?_; clear S; intro a S
   refine lv S (rn_and_t hb9 (S.tm rfl) (S.tm rfl)) rfl ?_; clear S; intro a S
   refine l_done ?_
   refine then_n ?_
   exact ⟨Keep.refl _ _, S.nf [] rfl ⟨rfl, rfl, rfl, trivial⟩⟩
  ·refine l_skip S rfl rfl rfl (neq_f hb9) rfl ?_ rfl; clear S; intro a S
   refine l_skip S rfl rfl rfl (neq_f hb9) rfl ?_ rfl; clear S; intro a S
   refine l_skip S rfl rfl rfl (neq_f hb9) rfl ?_ rfl; clear S; intro a S
   refine lv S (rn_and_f (decide (r8.1 = x10)) hb9 (S.tm rfl) rfl) rfl ?_; clear S; intro a S
   refine l_done ?_
   refine then_n ?_
   exact ⟨Keep.refl _ _, S.nf [] rfl ⟨rfl, rfl, rfl, trivial⟩⟩
 clear S; rintro a w33 ⟨hk25, S⟩
 refine lv S (rn_move (S.tm rfl)) rfl ?_; clear S; intro a S
 refine f_cutm 4 (fun a w' => Keep [] w33 w' ∧ Sx w [] nov [] [(103, .bool (((decide (r8.2.2 = x9)) && (decide (r8.1 = x10))) && (decide (r8.2.1 = x11))))] 107 a w') ?_ ?_
 ·rcases Bool.eq_false_or_eq_true ((decide (r8.2.2 = x9)) && (decide (r8.1 = x10))) with hb10 | hb10
  ·refine l_want S rfl rfl rfl hb10 ?_
   refine lv S (rn_move (S.tm rfl)) rfl ?_; clear S; intro a S
   refine l_want S rfl rfl rfl hb10 ?_
   refine lv S (rn_move (S.tm rfl)) rfl ?_; clear S; intro a S
   refine l_want S rfl rfl rfl hb10 ?_
   refine lv S (rn_beql Tryd.underlying4 (S.tm rfl) (S.tm rfl)) rfl ?_; clear S; intro a S
   refine lv S (rn_and_t hb10 (S.tm rfl) (S.tm rfl)) rfl ?_; clear S; intro a S
   refine l_done ?_
   refine then_n ?_
   exact ⟨Keep.refl _ _, S.nf [] rfl ⟨rfl, trivial⟩⟩
  ·refine l_skip S rfl rfl rfl (neq_f hb10) rfl ?_ rfl; clear S; intro a S
   refine l_skip S rfl rfl rfl (neq_f hb10) rfl ?_ rfl; clear S; intro a S
   refine l_skip S rfl rfl rfl (neq_f hb10) rfl ?_ rfl; clear S; intro a S
   refine lv S (rn_and_f (decide (r8.2.1 = x11)) hb10 (S.tm rfl) rfl) rfl ?_; clear S; intro a S
   refine l_done ?_
   refine then_n ?_
   exact ⟨Keep.refl _ _, S.nf [] rfl ⟨rfl, trivial⟩⟩
 clear S; rintro a w34 ⟨hk26, S⟩
 refine lv S (rn_move (S.tm rfl)) rfl ?_; clear S; intro a S
 obtain ⟨j8, hj8, h⟩ := joinE h
 refine f_cutm 2 (fun a w' => ∃ c1, j8 c1 = some r ∧ Keep [] w34 w' ∧ Sx w [] nov [] [(106, .bool c1)] 107 a w') ?_ ?_
 ·rcases Bool.eq_false_or_eq_true (((decide (r8.2.2 = x9)) && (decide (r8.1 = x10))) && (decide (r8.2.1 = x11))) with hb11 | hb11
  ·replace h := iteT h hb11
   refine l_want S rfl rfl rfl hb11 ?_
   obtain ⟨r12, hr13, h⟩ := bindE h
   refine l_enter S (fun _ => run_call (vs := []) trivial Tryd.call12) (tumblaw2_recorded_ok _ _ hr13) rfl ?_; clear S; intro v17 a w36 hv13 hk27 hn13 S
   subst hv13
   refine lv S (rn_and_t hb11 (S.tm rfl) (S.tm rfl)) rfl ?_; clear S; intro a S
   refine l_done ?_
   refine then_n ?_
   exact ⟨_, h, hk27, S.nf [] rfl ⟨rfl, trivial⟩⟩
  ·replace h := iteF h hb11
   refine l_skip S rfl rfl rfl (neq_f hb11) rfl ?_ rfl; clear S; intro a S
   refine lv S (rn_and_f true hb11 (S.tm rfl) rfl) rfl ?_; clear S; intro a S
   refine l_done ?_
   refine then_n ?_
   exact ⟨_, h, Keep.refl _ _, S.nf [] rfl ⟨rfl, trivial⟩⟩
 clear S h; rintro a w35 ⟨c1, h, hk28, S⟩; rw [hj8] at h; clear hj8 j8
 refine lv S (rn_assign (S.tm rfl)) rfl ?_; clear S; intro a S
 refine l_done ?_
 replace S := S.nk [] [(2, .bool c1)] [] rfl ⟨rfl, trivial⟩
 refine then_n ?_
 refine wp_ret ?_
 obtain rfl := Option.some.inj h
 exact f_ret S Tryd.results3 rfl rfl
end Go.Proofs.YtlfacnkbjmilpaaDoor
