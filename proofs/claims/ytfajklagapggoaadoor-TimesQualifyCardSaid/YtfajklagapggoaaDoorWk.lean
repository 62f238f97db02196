/- Each Go function computes its plain twin, by program. -/
import Derived.Test.YtfajklagapggoaaDoorWk1
namespace Go.Proofs.YtfajklagapggoaaDoor
open Go
theorem tumbref2_StandardsFault_ok (w : World) (v_p_l : Value) (p_l : List GStandard) (hs_p_l : Slc (view w []) 4 v_p_l (p_l.map GStandard.enc)) (r : Int) (h : tumbref2_StandardsFault p_l = some r) :
    Calls Tryd.prog 15 [v_p_l].toArray w (Ret w [] fun _ v _ => v = .int .i64 r) := by
 refine f_enter [] [] Tryd.func15 rfl Tryd.ntmps15 rfl (by simp) (by simp [fps]) (by simp [fps]) fun a S => ?_
 unfold tumbref2_StandardsFault at h
 replace S := S.nk [] [(0, v_p_l)] [] rfl ⟨rfl, trivial⟩
 refine f_seq ?_
 refine f_region ?_
 refine lv S (rn_assign rfl) rfl ?_; clear S; intro a S
 refine l_done ?_
 replace S := S.nk [] [(0, v_p_l)] [] rfl ⟨rfl, trivial⟩
 refine then_n ?_
 refine f_seq ?_
 refine f_seq ?_
 refine f_region ?_
 refine lv S (rn_move (S.tm rfl)) rfl ?_; clear S; intro a S
 refine lv S (rn_lenT sl_29 (S.tm rfl) (slc_len hs_p_l)) rfl ?_; clear S; intro a S
 refine lv S (rn_gtr (S.tm rfl) rfl) rfl ?_; clear S; intro a S
 refine l_done ?_
 replace S := S.nk [] [(0, v_p_l), (8, .bool (decide (200 < (p_l.length : Int))))] [] rfl ⟨rfl, rfl, trivial⟩
 refine then_n ?_
 refine f_cond (S.tm rfl) (fun hb1 => ?_) (fun hb1 => ?_)
 ·replace h := iteT h hb1
  refine f_seq ?_
  refine f_region ?_
  refine lv S (rn_assign rfl) rfl ?_; clear S; intro a S
  refine l_done ?_
  replace S := S.nk [] [(2, .int .i64 2)] [] rfl ⟨rfl, trivial⟩
  refine then_n ?_
  refine wp_ret ?_
  refine then_r ?_
  obtain rfl := Option.some.inj h
  exact f_ret S Tryd.results15 rfl rfl
 ·replace h := iteF h hb1
  refine wp_skip ?_
  refine then_n ?_
  refine f_seq ?_
  refine f_region ?_
  refine lv S (rn_assign rfl) rfl ?_; clear S; intro a S
  refine l_done ?_
  replace S := S.nk [] [(0, v_p_l), (3, .string k_empty)] [] rfl ⟨rfl, rfl, trivial⟩
  refine then_n ?_
  refine f_seq ?_
  refine f_seq ?_
  refine f_region ?_
  refine lv S (rn_move (S.tm rfl)) rfl ?_; clear S; intro a S
  refine lv S (rn_lenT sl_29 (S.tm rfl) (slc_len hs_p_l)) rfl ?_; clear S; intro a S
  refine lv S (rn_move rfl) rfl ?_; clear S; intro a S
  refine l_done ?_
  replace S := S.nk [] [(3, .string k_empty), (9, v_p_l), (10, .int .i64 (p_l.length : Int)), (11, .int .i64 0)] [] rfl ⟨rfl, rfl, rfl, rfl, trivial⟩
  refine then_n ?_
  obtain ⟨j1, hj1, h⟩ := joinE h
  refine f_join (fun a w' => j1 = some r ∧ Sx w [] nov [] [] 46 a w') ?_ ?_
  ·refine wp_block ?_
   refine f_loop (fun (ys1 : List GStandard) a w' => ∃ i1 : Nat, ∃ x1 : ByteArray, (∃ dn, p_l = dn ++ ys1 ∧ dn.length = i1) ∧ tumbref2_StandardsFault_l1 j1 ys1 i1 x1 = some r ∧ Sx w [] nov [] [(3, .string x1), (9, v_p_l), (10, .int .i64 (p_l.length : Int)), (11, .int .i64 (i1 : Int))] 46 a w') List.length p_l ⟨0, k_empty, ⟨[], rfl, rfl⟩, h, S.nf [] rfl ⟨rfl, rfl, rfl, rfl, trivial⟩⟩ ?_
   clear S h; rintro ys1 a w1 ⟨i1, x1, ⟨dn, hd1, hi1⟩, h, S⟩
   cases ys1 with
   | nil =>
    rw [tumbref2_StandardsFault_l1.eq_1] at h
    refine f_seq ?_
    refine f_region ?_
    refine lv S (rn_lss (S.tm rfl) (S.tm rfl)) rfl ?_; clear S; intro a S
    refine l_done ?_
    replace S := S.nk [] [(3, .string x1), (9, v_p_l), (10, .int .i64 (p_l.length : Int)), (11, .int .i64 (i1 : Int)), (12, .bool (decide ((i1 : Int) < (p_l.length : Int))))] [] rfl ⟨rfl, rfl, rfl, rfl, rfl, trivial⟩
    refine then_n ?_
    refine f_seq ?_
    refine wp_cond_false ((S.tm rfl).trans (congrArg Value.bool (rng_nil hd1 hi1))) ?_
    refine wp_exit ?_
    refine then_x ?_
    refine then_x ?_
    refine x_same ?_
    refine then_n ?_
    exact ⟨h, S.nf [] rfl trivial⟩
   | cons y1 ys1 =>
    rw [tumbref2_StandardsFault_l1.eq_2] at h
    refine f_seq ?_
    refine f_region ?_
    refine lv S (rn_lss (S.tm rfl) (S.tm rfl)) rfl ?_; clear S; intro a S
    refine l_done ?_
    replace S := S.nk [] [(3, .string x1), (9, v_p_l), (10, .int .i64 (p_l.length : Int)), (11, .int .i64 (i1 : Int)), (12, .bool (decide ((i1 : Int) < (p_l.length : Int))))] [] rfl ⟨rfl, rfl, rfl, rfl, rfl, trivial⟩
    refine then_n ?_
    refine f_seq ?_
    refine wp_cond_true ((S.tm rfl).trans (congrArg Value.bool (rng_cons hd1 hi1))) ?_
    refine wp_skip ?_
    refine then_n ?_
    refine f_seq ?_
    refine wp_block ?_
    refine f_seq ?_
    refine f_region ?_
    obtain ⟨b1, o1, hm1, hr1⟩ := rn_indexT (a := a) (x := .tmp 9) (y := .tmp 11) (ty := 0) sl_29 hs_p_l (get_mid hd1 hi1) rfl (S.tm rfl) (S.tm rfl)
    refine lv S (hr1 _) rfl ?_; clear S; intro a S
    clear hr1
    refine lv S (rn_ldA Tryd.isAgg54 Tryd.sizeOf54 (off := o1) (o := 0) (part := [.string y1.Race, .int .i64 y1.Time, .int .i64 y1.From, .int .i64 y1.To]) rfl rfl (S.tm rfl) (hm1.at S.emb0)) rfl ?_; clear S; intro a S
    refine l_alloc S Tryd.zeroValue54 (cs := [.string k_empty, .int .i64 0, .int .i64 0, .int .i64 0]) rfl rfl ?_; clear S; intro a w3 b2 hz1 hk1 S
    refine l_store S (S.tm rfl) (S.tm rfl) (i := 0) (off := 0) rfl Tryd.sizeOf54 (vs := [.string y1.Race, .int .i64 y1.Time, .int .i64 y1.From, .int .i64 y1.To]) rfl rfl rfl rfl ?_; clear S; intro w4 hk2 S
    refine l_done ?_
    replace S := S.nk [.blk b2 [.string y1.Race, .int .i64 y1.Time, .int .i64 y1.From, .int .i64 y1.To] 54] [(3, .string x1), (5, .pointer (some ⟨b2, 0, none⟩)), (9, v_p_l), (10, .int .i64 (p_l.length : Int)), (11, .int .i64 (i1 : Int))] [true] rfl ⟨rfl, rfl, rfl, rfl, rfl, trivial⟩
    refine then_n ?_
    refine f_seq ?_
    refine wp_block ?_
    refine f_seq ?_
    refine f_region ?_
    refine lv S (rn_fld fa_54_0 (S.tm rfl)) rfl ?_; clear S; intro a S
    refine lv S (rn_load Tryd.isAgg9 (S.tm rfl) (S.cell (i := 0) rfl rfl)) rfl ?_; clear S; intro a S
    obtain ⟨r1, hr2, h⟩ := bindE h
    refine l_enter S (fun _ => run_call (vs := [.string y1.Race]) ⟨(S.tm rfl), trivial⟩ Tryd.call27) (tumbref2_Key_ok _ y1.Race _ hr2) rfl ?_; clear S; intro v1 a w5 hv1 hk3 hn1 S
    subst hv1
    refine lv S (rn_not (S.tm rfl)) rfl ?_; clear S; intro a S
    refine lv S (rn_assign (S.tm rfl)) rfl ?_; clear S; intro a S
    refine l_done ?_
    replace S := S.nk [.blk b2 [.string y1.Race, .int .i64 y1.Time, .int .i64 y1.From, .int .i64 y1.To] 54] [(3, .string x1), (5, .pointer (some ⟨b2, 0, none⟩)), (9, v_p_l), (10, .int .i64 (p_l.length : Int)), (11, .int .i64 (i1 : Int)), (15, .bool (!r1))] [true] rfl ⟨rfl, rfl, rfl, rfl, rfl, rfl, trivial⟩
    refine then_n ?_
    refine f_cond (S.tm rfl) (fun hb2 => ?_) (fun hb2 => ?_)
    ·replace h := iteT h hb2
     refine f_seq ?_
     refine f_region ?_
     refine lv S (rn_assign rfl) rfl ?_; clear S; intro a S
     refine l_done ?_
     replace S := S.nk [] [(2, .int .i64 5)] [false] rfl ⟨rfl, trivial⟩
     refine then_n ?_
     refine wp_ret ?_
     refine blk_r ?_
     refine then_r ?_
     refine blk_r ?_
     refine then_r ?_
     refine then_r ?_
     refine blk_r ?_
     refine then_r ?_
     refine then_r ?_
     obtain rfl := Option.some.inj h
     exact f_ret S Tryd.results15 rfl rfl
    ·replace h := iteF h hb2
     refine f_seq ?_
     refine f_region ?_
     refine lv S (rn_fld fa_54_1 (S.tm rfl)) rfl ?_; clear S; intro a S
     refine lv S (rn_load Tryd.isAgg3 (S.tm rfl) (S.cell (i := 0) rfl rfl)) rfl ?_; clear S; intro a S
     refine l_enter S (fun _ => run_call (vs := [.int .i64 y1.Time, .int .i64 1, .int .i64 360000]) ⟨(S.tm rfl), rfl, rfl, trivial⟩ Tryd.call29) (tumbref2_in_ok _ y1.Time 1 360000 _ rfl) rfl ?_; clear S; intro v2 a w6 hv2 hk4 hn2 S
     subst hv2
     refine lv S (rn_not (S.tm rfl)) rfl ?_; clear S; intro a S
     refine lv S (rn_move (S.tm rfl)) rfl ?_; clear S; intro a S
     refine f_cutm 7 (fun a w' => Keep [] w6 w' ∧ Sx w [] nov [.blk b2 [.string y1.Race, .int .i64 y1.Time, .int .i64 y1.From, .int .i64 y1.To] 54] [(3, .string x1), (5, .pointer (some ⟨b2, 0, none⟩)), (9, v_p_l), (10, .int .i64 (p_l.length : Int)), (11, .int .i64 (i1 : Int)), (32, .bool ((!(tumbref2_in y1.Time 1 360000)) || (!(tumbref2_in y1.From (-40000) y1.To))))] 46 a w') ?_ ?_
     ·rcases Bool.eq_false_or_eq_true (!(tumbref2_in y1.Time 1 360000)) with hb3 | hb3
      ·refine l_skip S rfl rfl rfl (neq_t hb3) rfl ?_ rfl; clear S; intro a S
       refine l_skip S rfl rfl rfl (neq_t hb3) rfl ?_ rfl; clear S; intro a S
       refine l_skip S rfl rfl rfl (neq_t hb3) rfl ?_ rfl; clear S; intro a S
       refine l_skip S rfl rfl rfl (neq_t hb3) rfl ?_ rfl; clear S; intro a S
       refine l_skip S rfl rfl rfl (neq_t hb3) rfl ?_ rfl; clear S; intro a S
       refine l_skip S rfl rfl rfl (neq_t hb3) rfl ?_ rfl; clear S; intro a S
       refine lv S (rn_or_t (!(tumbref2_in y1.From (-40000) y1.To)) hb3 (S.tm rfl) rfl) rfl ?_; clear S; intro a S
       refine l_done ?_
       refine then_n ?_
       exact ⟨Keep.refl _ _, S.nf [true] rfl ⟨rfl, rfl, rfl, rfl, rfl, rfl, trivial⟩⟩
      ·refine l_want S rfl rfl rfl hb3 ?_
       refine lv S (rn_fld fa_54_2 (S.tm rfl)) rfl ?_; clear S; intro a S
       refine l_want S rfl rfl rfl hb3 ?_
       refine lv S (rn_load Tryd.isAgg3 (S.tm rfl) (S.cell (i := 0) rfl rfl)) rfl ?_; clear S; intro a S
       refine l_want S rfl rfl rfl hb3 ?_
       refine lv S (rn_fld fa_54_3 (S.tm rfl)) rfl ?_; clear S; intro a S
       refine l_want S rfl rfl rfl hb3 ?_
       refine lv S (rn_load Tryd.isAgg3 (S.tm rfl) (S.cell (i := 0) rfl rfl)) rfl ?_; clear S; intro a S
       refine l_want S rfl rfl rfl hb3 ?_
       refine l_enter S (fun _ => run_call (vs := [.int .i64 y1.From, .int .i64 (-40000), .int .i64 y1.To]) ⟨(S.tm rfl), rfl, (S.tm rfl), trivial⟩ Tryd.call29) (tumbref2_in_ok _ y1.From (-40000) y1.To _ rfl) rfl ?_; clear S; intro v3 a w8 hv3 hk5 hn3 S
       subst hv3
       refine l_want S rfl rfl rfl hb3 ?_
       refine lv S (rn_not (S.tm rfl)) rfl ?_; clear S; intro a S
       refine lv S (rn_or_f hb3 (S.tm rfl) (S.tm rfl)) rfl ?_; clear S; intro a S
       refine l_done ?_
       refine then_n ?_
       exact ⟨hk5, S.nf [true] rfl ⟨rfl, rfl, rfl, rfl, rfl, rfl, trivial⟩⟩
     clear S; rintro a w7 ⟨hk6, S⟩
     refine lv S (rn_move (S.tm rfl)) rfl ?_; clear S; intro a S
     refine f_cutm 4 (fun a w' => Keep [] w7 w' ∧ Sx w [] nov [.blk b2 [.string y1.Race, .int .i64 y1.Time, .int .i64 y1.From, .int .i64 y1.To] 54] [(3, .string x1), (5, .pointer (some ⟨b2, 0, none⟩)), (9, v_p_l), (10, .int .i64 (p_l.length : Int)), (11, .int .i64 (i1 : Int)), (37, .bool (((!(tumbref2_in y1.Time 1 360000)) || (!(tumbref2_in y1.From (-40000) y1.To))) || (decide (4000 < y1.To))))] 46 a w') ?_ ?_
     ·rcases Bool.eq_false_or_eq_true ((!(tumbref2_in y1.Time 1 360000)) || (!(tumbref2_in y1.From (-40000) y1.To))) with hb4 | hb4
      ·refine l_skip S rfl rfl rfl (neq_t hb4) rfl ?_ rfl; clear S; intro a S
       refine l_skip S rfl rfl rfl (neq_t hb4) rfl ?_ rfl; clear S; intro a S
       refine l_skip S rfl rfl rfl (neq_t hb4) rfl ?_ rfl; clear S; intro a S
       refine lv S (rn_or_t (decide (4000 < y1.To)) hb4 (S.tm rfl) rfl) rfl ?_; clear S; intro a S
       refine l_done ?_
       refine then_n ?_
       exact ⟨Keep.refl _ _, S.nf [true] rfl ⟨rfl, rfl, rfl, rfl, rfl, rfl, trivial⟩⟩
      ·refine l_want S rfl rfl rfl hb4 ?_
       refine lv S (rn_fld fa_54_3 (S.tm rfl)) rfl ?_; clear S; intro a S
       refine l_want S rfl rfl rfl hb4 ?_
       refine lv S (rn_load Tryd.isAgg3 (S.tm rfl) (S.cell (i := 0) rfl rfl)) rfl ?_; clear S; intro a S
       refine l_want S rfl rfl rfl hb4 ?_
       refine lv S (rn_gtr (S.tm rfl) rfl) rfl ?_; clear S; intro a S
       refine lv S (rn_or_f hb4 (S.tm rfl) (S.tm rfl)) rfl ?_; clear S; intro a S
       refine l_done ?_
       refine then_n ?_
       exact ⟨Keep.refl _ _, S.nf [true] rfl ⟨rfl, rfl, rfl, rfl, rfl, rfl, trivial⟩⟩
     clear S; rintro a w9 ⟨hk7, S⟩
     refine lv S (rn_assign (S.tm rfl)) rfl ?_; clear S; intro a S
     refine l_done ?_
     replace S := S.nk [.blk b2 [.string y1.Race, .int .i64 y1.Time, .int .i64 y1.From, .int .i64 y1.To] 54] [(3, .string x1), (5, .pointer (some ⟨b2, 0, none⟩)), (9, v_p_l), (10, .int .i64 (p_l.length : Int)), (11, .int .i64 (i1 : Int)), (20, .bool (((!(tumbref2_in y1.Time 1 360000)) || (!(tumbref2_in y1.From (-40000) y1.To))) || (decide (4000 < y1.To))))] [true] rfl ⟨rfl, rfl, rfl, rfl, rfl, rfl, trivial⟩
     refine then_n ?_
     refine f_cond (S.tm rfl) (fun hb5 => ?_) (fun hb5 => ?_)
     ·replace h := iteT h hb5
      refine f_seq ?_
      refine f_region ?_
      refine lv S (rn_assign rfl) rfl ?_; clear S; intro a S
      refine l_done ?_
      replace S := S.nk [] [(2, .int .i64 1)] [false] rfl ⟨rfl, trivial⟩
      refine then_n ?_
      refine wp_ret ?_
      refine blk_r ?_
      refine then_r ?_
      refine blk_r ?_
      refine then_r ?_
      refine then_r ?_
      refine blk_r ?_
      refine then_r ?_
      refine then_r ?_
      obtain rfl := Option.some.inj h
      exact f_ret S Tryd.results15 rfl rfl
     ·replace h := iteF h hb5
      refine f_seq ?_
      refine f_region ?_
      refine lv S (rn_fld fa_54_0 (S.tm rfl)) rfl ?_; clear S; intro a S
      refine lv S (rn_load Tryd.isAgg9 (S.tm rfl) (S.cell (i := 0) rfl rfl)) rfl ?_; clear S; intro a S
      refine lv S (rn_move (S.tm rfl)) rfl ?_; clear S; intro a S
      refine lv S (rn_slss (S.tm rfl) (S.tm rfl)) rfl ?_; clear S; intro a S
      refine lv S (rn_assign (S.tm rfl)) rfl ?_; clear S; intro a S
      refine l_done ?_
      replace S := S.nk [.blk b2 [.string y1.Race, .int .i64 y1.Time, .int .i64 y1.From, .int .i64 y1.To] 54] [(5, .pointer (some ⟨b2, 0, none⟩)), (9, v_p_l), (10, .int .i64 (p_l.length : Int)), (11, .int .i64 (i1 : Int)), (38, .bool (Sless y1.Race x1))] [true] rfl ⟨rfl, rfl, rfl, rfl, rfl, trivial⟩
      refine then_n ?_
      refine f_cond (S.tm rfl) (fun hb6 => ?_) (fun hb6 => ?_)
      ·replace h := iteT h hb6
       refine f_seq ?_
       refine f_region ?_
       refine lv S (rn_assign rfl) rfl ?_; clear S; intro a S
       refine l_done ?_
       replace S := S.nk [] [(2, .int .i64 7)] [false] rfl ⟨rfl, trivial⟩
       refine then_n ?_
       refine wp_ret ?_
       refine blk_r ?_
       refine then_r ?_
       refine blk_r ?_
       refine then_r ?_
       refine then_r ?_
       refine blk_r ?_
       refine then_r ?_
       refine then_r ?_
       obtain rfl := Option.some.inj h
       exact f_ret S Tryd.results15 rfl rfl
      ·replace h := iteF h hb6
       refine wp_skip ?_
       refine blk_n ?_
       refine then_n ?_
       refine f_region ?_
       refine lv S (rn_fld fa_54_0 (S.tm rfl)) rfl ?_; clear S; intro a S
       refine lv S (rn_load Tryd.isAgg9 (S.tm rfl) (S.cell (i := 0) rfl rfl)) rfl ?_; clear S; intro a S
       refine lv S (rn_assign (S.tm rfl)) rfl ?_; clear S; intro a S
       refine l_done ?_
       replace S := S.nk [] [(3, .string y1.Race), (9, v_p_l), (10, .int .i64 (p_l.length : Int)), (11, .int .i64 (i1 : Int))] [false] rfl ⟨rfl, rfl, rfl, rfl, trivial⟩
       refine blk_n ?_
       refine then_n ?_
       refine f_region ?_
       refine lv S (rn_add (S.tm rfl) rfl) rfl ?_; clear S; intro a S
       refine lv S (rn_move (S.tm rfl)) rfl ?_; clear S; intro a S
       refine l_done ?_
       replace S := S.nk [] [(3, .string y1.Race), (9, v_p_l), (10, .int .i64 (p_l.length : Int)), (11, .int .i64 (W ((i1 : Int) + 1)))] [] rfl ⟨rfl, rfl, rfl, rfl, trivial⟩
       refine then_n ?_
       exact ⟨ys1, ⟨i1 + 1, y1.Race, ⟨_, (hd1).trans (List.append_cons _ _ _), by simp [hi1]⟩, h, S.nf [] rfl ⟨rfl, rfl, rfl, (congrArg (fun z => some (Value.int .i64 z)) (rng_next hd1 hi1 (slc_max hs_p_l))), trivial⟩⟩, Nat.lt_succ_self _⟩
  clear S h; rintro a w2 ⟨h, S⟩; rw [hj1] at h; clear hj1 j1
  refine then_n ?_
  refine f_seq ?_
  refine f_region ?_
  refine lv S (rn_assign rfl) rfl ?_; clear S; intro a S
  refine l_done ?_
  replace S := S.nk [] [(2, .int .i64 0)] [] rfl ⟨rfl, trivial⟩
  refine then_n ?_
  refine wp_ret ?_
  obtain rfl := Option.some.inj h
  exact f_ret S Tryd.results15 rfl rfl
theorem slices_Clone_Mark_ok (w : World) (v_p_s : Value) (p_s : List GMark) (hs_p_s : Slc (view w []) 4 v_p_s (p_s.map GMark.enc)) (r : (List GMark)) (h : slices_Clone_Mark p_s = some r) :
    Calls Tryd.prog 31 [v_p_s].toArray w (Ret w [] fun τ v _ => OwnV τ 34 4 v r.length (r.flatMap GMark.enc)) := by
 refine f_enter [] [] Tryd.func31 rfl Tryd.ntmps31 rfl (by simp) (by simp [fps]) (by simp [fps]) fun a S => ?_
 unfold slices_Clone_Mark at h
 replace S := S.nk [] [(0, v_p_s)] [] rfl ⟨rfl, trivial⟩
 refine f_seq ?_
 refine f_region ?_
 refine lv S (rn_assign rfl) rfl ?_; clear S; intro a S
 refine l_done ?_
 replace S := S.nk [] [(0, v_p_s)] [] rfl ⟨rfl, trivial⟩
 refine then_n ?_
 refine f_seq ?_
 refine f_seq ?_
 refine f_region ?_
 refine lv S (rn_move (S.tm rfl)) rfl ?_; clear S; intro a S
 refine lv S (rn_nileq Tryd.underlying26 (slc_len hs_p_s) (S.tm rfl) rfl) rfl ?_; clear S; intro a S
 refine l_done ?_
 replace S := S.nk [] [(0, v_p_s), (4, .bool (nilB v_p_s))] [] rfl ⟨rfl, rfl, trivial⟩
 refine then_n ?_
 refine f_cond (S.tm rfl) (fun hb1 => ?_) (fun hb1 => ?_)
 ·have hx1 := slc_nilB hs_p_s hb1
  subst hx1
  replace h : some ([] : List GMark) = some r := h
  refine f_seq ?_
  refine f_region ?_
  refine lv S (rn_assign rfl) rfl ?_; clear S; intro a S
  refine l_done ?_
  replace S := S.nk [] [(2, .slice none 0 0)] [] rfl ⟨rfl, trivial⟩
  refine then_n ?_
  refine wp_ret ?_
  refine then_r ?_
  obtain rfl := Option.some.inj h
  exact f_ret S Tryd.results31 rfl (ownV_nil _ _ _)
 ·refine wp_skip ?_
  refine then_n ?_
  refine f_seq ?_
  refine f_region ?_
  refine l_buildSlice0 S Tryd.underlying26 Tryd.sizeOf34 rfl ?_; clear S; intro a w1 b1 hz1 hk1 S
  refine lv S (rn_move (S.tm rfl)) rfl ?_; clear S; intro a S
  replace S := S.litOwn (i := 0) (xs := ([] : List GMark)) rfl GMark.enc_ok rfl rfl rfl
  replace S := S.nk [.own (.slice (some ⟨b1, 0, none⟩) 0 0) 34 4 (([] : List GMark) : List GMark).length ((([] : List GMark) : List GMark).flatMap GMark.enc)] [(0, v_p_s), (4, .bool (nilB v_p_s)), (5, (.slice (some ⟨b1, 0, none⟩) 0 0)), (6, v_p_s)] [] rfl ⟨rfl, rfl, rfl, rfl, trivial⟩
  obtain ⟨hc1, h⟩ := chkE h
  refine l_appendS (Y := []) sl_26 GMark.enc_ok S (S.tm rfl) (i := 0) rfl (S.tm rfl) (hs_p_s.mono (S.le_arg (fun _ h => by cases h))) rfl rfl (by have := room_lt hc1; omega) rfl ?_; clear S; intro v1 a w2 hk2 S
  refine lv S (rn_assign (S.tm rfl)) rfl ?_; clear S; intro a S
  refine l_done ?_
  replace S := S.nk [.own v1 34 4 ((([] : List GMark) : List GMark) ++ p_s).length (((([] : List GMark) : List GMark) ++ p_s).flatMap GMark.enc)] [(2, v1)] [true] rfl ⟨rfl, trivial⟩
  refine then_n ?_
  refine wp_ret ?_
  obtain rfl := Option.some.inj h
  exact f_ret S Tryd.results31 rfl (own_retT S (i := 0) rfl rfl)
theorem tumbref2_BestMark_c1_ok (w : World) (p_m : GMark) (b_p_a1 : Nat) (p_a1 : ByteArray) (hb_b_p_a1 : view w [] b_p_a1 = some (.cells [.string p_a1].toArray 9 (0, 0))) (b_p_a2 : Nat) (p_a2 : ByteArray) (hb_b_p_a2 : view w [] b_p_a2 = some (.cells [.string p_a2].toArray 9 (0, 0))) (b_p_a3 : Nat) (p_a3 : Int) (hb_b_p_a3 : view w [] b_p_a3 = some (.cells [.int .i64 p_a3].toArray 3 (0, 0))) (b_p_a4 : Nat) (p_a4 : Int) (hb_b_p_a4 : view w [] b_p_a4 = some (.cells [.int .i64 p_a4].toArray 3 (0, 0))) (r : Bool) (h : tumbref2_BestMark_c1 p_m p_a1 p_a2 p_a3 p_a4 = r) :
    Calls Tryd.prog 32 [.agg (GMark.enc p_m).toArray, .pointer (some ⟨b_p_a1, 0, none⟩), .pointer (some ⟨b_p_a2, 0, none⟩), .pointer (some ⟨b_p_a3, 0, none⟩), .pointer (some ⟨b_p_a4, 0, none⟩)].toArray w (Ret w [] fun _ v _ => v = .bool r) := by
 refine f_enter [] [] Tryd.func32 rfl Tryd.ntmps32 rfl (by simp) (by simp [fps]) (by simp [fps]) fun a S => ?_
 unfold tumbref2_BestMark_c1 at h
 replace S := S.nk [] [(0, .agg (GMark.enc p_m).toArray), (1, .pointer (some ⟨b_p_a1, 0, none⟩)), (2, .pointer (some ⟨b_p_a2, 0, none⟩)), (3, .pointer (some ⟨b_p_a3, 0, none⟩)), (4, .pointer (some ⟨b_p_a4, 0, none⟩))] [] rfl ⟨rfl, rfl, rfl, rfl, rfl, trivial⟩
 refine f_seq ?_
 refine f_region ?_
 refine l_box S (S.tm rfl) (cs := [.string p_m.Who, .string p_m.Race, .int .i64 p_m.Day, .int .i64 p_m.Time]) rfl rfl ?_; clear S; intro a w1 b1 hz1 hk1 S
 refine lv S (rn_assign rfl) rfl ?_; clear S; intro a S
 refine l_done ?_
 replace S := S.nk [.blk b1 [.string p_m.Who, .string p_m.Race, .int .i64 p_m.Day, .int .i64 p_m.Time] 34] [(1, .pointer (some ⟨b_p_a1, 0, none⟩)), (2, .pointer (some ⟨b_p_a2, 0, none⟩)), (3, .pointer (some ⟨b_p_a3, 0, none⟩)), (4, .pointer (some ⟨b_p_a4, 0, none⟩)), (5, .pointer (some ⟨b1, 0, none⟩))] [true] rfl ⟨rfl, rfl, rfl, rfl, rfl, trivial⟩
 refine then_n ?_
 refine f_seq ?_
 refine f_region ?_
 refine lv S (rn_fld fa_34_1 (S.tm rfl)) rfl ?_; clear S; intro a S
 refine lv S (rn_load Tryd.isAgg9 (S.tm rfl) (S.cell (i := 0) rfl rfl)) rfl ?_; clear S; intro a S
 refine lv S (rn_ld Tryd.isAgg9 (off := 0) (o := 0) (S.tm rfl) ((mem_blk hb_b_p_a1).at S.emb0) rfl) rfl ?_; clear S; intro a S
 refine lv S (rn_sneq (S.tm rfl) (S.tm rfl)) rfl ?_; clear S; intro a S
 refine lv S (rn_move (S.tm rfl)) rfl ?_; clear S; intro a S
 refine f_cutm 5 (fun a w' => Keep [] w1 w' ∧ Sx w [] nov [.blk b1 [.string p_m.Who, .string p_m.Race, .int .i64 p_m.Day, .int .i64 p_m.Time] 34] [(3, .pointer (some ⟨b_p_a3, 0, none⟩)), (4, .pointer (some ⟨b_p_a4, 0, none⟩)), (5, .pointer (some ⟨b1, 0, none⟩)), (16, .bool ((!decide (p_m.Race = p_a1)) || (!decide (p_m.Who = p_a2))))] 25 a w') ?_ ?_
 ·rcases Bool.eq_false_or_eq_true (!decide (p_m.Race = p_a1)) with hb1 | hb1
  ·refine l_skip S rfl rfl rfl (neq_t hb1) rfl ?_ rfl; clear S; intro a S
   refine l_skip S rfl rfl rfl (neq_t hb1) rfl ?_ rfl; clear S; intro a S
   refine l_skip S rfl rfl rfl (neq_t hb1) rfl ?_ rfl; clear S; intro a S
   refine l_skip S rfl rfl rfl (neq_t hb1) rfl ?_ rfl; clear S; intro a S
   refine lv S (rn_or_t (!decide (p_m.Who = p_a2)) hb1 (S.tm rfl) rfl) rfl ?_; clear S; intro a S
   refine l_done ?_
   refine then_n ?_
   exact ⟨Keep.refl _ _, S.nf [true] rfl ⟨rfl, rfl, rfl, rfl, trivial⟩⟩
  ·refine l_want S rfl rfl rfl hb1 ?_
   refine lv S (rn_fld fa_34_0 (S.tm rfl)) rfl ?_; clear S; intro a S
   refine l_want S rfl rfl rfl hb1 ?_
   refine lv S (rn_load Tryd.isAgg9 (S.tm rfl) (S.cell (i := 0) rfl rfl)) rfl ?_; clear S; intro a S
   refine l_want S rfl rfl rfl hb1 ?_
   refine lv S (rn_ld Tryd.isAgg9 (off := 0) (o := 0) (S.tm rfl) ((mem_blk hb_b_p_a2).at S.emb0) rfl) rfl ?_; clear S; intro a S
   refine l_want S rfl rfl rfl hb1 ?_
   refine lv S (rn_sneq (S.tm rfl) (S.tm rfl)) rfl ?_; clear S; intro a S
   refine lv S (rn_or_f hb1 (S.tm rfl) (S.tm rfl)) rfl ?_; clear S; intro a S
   refine l_done ?_
   refine then_n ?_
   exact ⟨Keep.refl _ _, S.nf [true] rfl ⟨rfl, rfl, rfl, rfl, trivial⟩⟩
 clear S; rintro a w2 ⟨hk2, S⟩
 refine lv S (rn_move (S.tm rfl)) rfl ?_; clear S; intro a S
 refine f_cutm 7 (fun a w' => Keep [] w2 w' ∧ Sx w [] nov [.blk b1 [.string p_m.Who, .string p_m.Race, .int .i64 p_m.Day, .int .i64 p_m.Time] 34] [(24, .bool (((!decide (p_m.Race = p_a1)) || (!decide (p_m.Who = p_a2))) || (!(tumbref2_in p_m.Day p_a3 p_a4))))] 25 a w') ?_ ?_
 ·rcases Bool.eq_false_or_eq_true ((!decide (p_m.Race = p_a1)) || (!decide (p_m.Who = p_a2))) with hb2 | hb2
  ·refine l_skip S rfl rfl rfl (neq_t hb2) rfl ?_ rfl; clear S; intro a S
   refine l_skip S rfl rfl rfl (neq_t hb2) rfl ?_ rfl; clear S; intro a S
   refine l_skip S rfl rfl rfl (neq_t hb2) rfl ?_ rfl; clear S; intro a S
   refine l_skip S rfl rfl rfl (neq_t hb2) rfl ?_ rfl; clear S; intro a S
   refine l_skip S rfl rfl rfl (neq_t hb2) rfl ?_ rfl; clear S; intro a S
   refine l_skip S rfl rfl rfl (neq_t hb2) rfl ?_ rfl; clear S; intro a S
   refine lv S (rn_or_t (!(tumbref2_in p_m.Day p_a3 p_a4)) hb2 (S.tm rfl) rfl) rfl ?_; clear S; intro a S
   refine l_done ?_
   refine then_n ?_
   exact ⟨Keep.refl _ _, S.nf [true] rfl ⟨rfl, trivial⟩⟩
  ·refine l_want S rfl rfl rfl hb2 ?_
   refine lv S (rn_fld fa_34_2 (S.tm rfl)) rfl ?_; clear S; intro a S
   refine l_want S rfl rfl rfl hb2 ?_
   refine lv S (rn_load Tryd.isAgg3 (S.tm rfl) (S.cell (i := 0) rfl rfl)) rfl ?_; clear S; intro a S
   refine l_want S rfl rfl rfl hb2 ?_
   refine lv S (rn_ld Tryd.isAgg3 (off := 0) (o := 0) (S.tm rfl) ((mem_blk hb_b_p_a3).at S.emb0) rfl) rfl ?_; clear S; intro a S
   refine l_want S rfl rfl rfl hb2 ?_
   refine lv S (rn_ld Tryd.isAgg3 (off := 0) (o := 0) (S.tm rfl) ((mem_blk hb_b_p_a4).at S.emb0) rfl) rfl ?_; clear S; intro a S
   refine l_want S rfl rfl rfl hb2 ?_
   refine l_enter S (fun _ => run_call (vs := [.int .i64 p_m.Day, .int .i64 p_a3, .int .i64 p_a4]) ⟨(S.tm rfl), (S.tm rfl), (S.tm rfl), trivial⟩ Tryd.call29) (tumbref2_in_ok _ p_m.Day p_a3 p_a4 _ rfl) rfl ?_; clear S; intro v1 a w4 hv1 hk3 hn1 S
   subst hv1
   refine l_want S rfl rfl rfl hb2 ?_
   refine lv S (rn_not (S.tm rfl)) rfl ?_; clear S; intro a S
   refine lv S (rn_or_f hb2 (S.tm rfl) (S.tm rfl)) rfl ?_; clear S; intro a S
   refine l_done ?_
   refine then_n ?_
   exact ⟨hk3, S.nf [true] rfl ⟨rfl, trivial⟩⟩
 clear S; rintro a w3 ⟨hk4, S⟩
 refine lv S (rn_assign (S.tm rfl)) rfl ?_; clear S; intro a S
 refine l_done ?_
 replace S := S.nk [] [(6, .bool (((!decide (p_m.Race = p_a1)) || (!decide (p_m.Who = p_a2))) || (!(tumbref2_in p_m.Day p_a3 p_a4))))] [false] rfl ⟨rfl, trivial⟩
 refine then_n ?_
 refine wp_ret ?_
 subst h
 exact f_ret S Tryd.results32 rfl rfl
theorem slices_IndexFunc_Mark_tumbref2_BestMark_c1_ok (w : World) (v_p_s : Value) (p_s : List GMark) (hs_p_s : Slc (view w []) 4 v_p_s (p_s.map GMark.enc)) (b_p_f_0 : Nat) (p_f_0 : ByteArray) (hb_b_p_f_0 : view w [] b_p_f_0 = some (.cells [.string p_f_0].toArray 9 (0, 0))) (b_p_f_1 : Nat) (p_f_1 : ByteArray) (hb_b_p_f_1 : view w [] b_p_f_1 = some (.cells [.string p_f_1].toArray 9 (0, 0))) (b_p_f_2 : Nat) (p_f_2 : Int) (hb_b_p_f_2 : view w [] b_p_f_2 = some (.cells [.int .i64 p_f_2].toArray 3 (0, 0))) (b_p_f_3 : Nat) (p_f_3 : Int) (hb_b_p_f_3 : view w [] b_p_f_3 = some (.cells [.int .i64 p_f_3].toArray 3 (0, 0))) (r : Int) (h : slices_IndexFunc_Mark_tumbref2_BestMark_c1 p_s p_f_0 p_f_1 p_f_2 p_f_3 = r) :
    Calls Tryd.prog 44 [v_p_s, .func (.func 32) #[] #[.pointer (some ⟨b_p_f_0, 0, none⟩), .pointer (some ⟨b_p_f_1, 0, none⟩), .pointer (some ⟨b_p_f_2, 0, none⟩), .pointer (some ⟨b_p_f_3, 0, none⟩)]].toArray w (Ret w [] fun _ v _ => v = .int .i64 r) := by
 refine f_enter [] [] Tryd.func44 rfl Tryd.ntmps44 rfl (by simp) (by simp [fps]) (by simp [fps]) fun a S => ?_
 unfold slices_IndexFunc_Mark_tumbref2_BestMark_c1 at h
 replace S := S.nk [] [(0, v_p_s), (1, .func (.func 32) #[] #[.pointer (some ⟨b_p_f_0, 0, none⟩), .pointer (some ⟨b_p_f_1, 0, none⟩), .pointer (some ⟨b_p_f_2, 0, none⟩), .pointer (some ⟨b_p_f_3, 0, none⟩)])] [] rfl ⟨rfl, rfl, trivial⟩
 refine f_seq ?_
 refine f_region ?_
 refine lv S (rn_assign rfl) rfl ?_; clear S; intro a S
 refine l_done ?_
 replace S := S.nk [] [(0, v_p_s), (1, .func (.func 32) #[] #[.pointer (some ⟨b_p_f_0, 0, none⟩), .pointer (some ⟨b_p_f_1, 0, none⟩), .pointer (some ⟨b_p_f_2, 0, none⟩), .pointer (some ⟨b_p_f_3, 0, none⟩)])] [] rfl ⟨rfl, rfl, trivial⟩
 refine then_n ?_
 refine f_seq ?_
 refine f_seq ?_
 refine f_region ?_
 refine lv S (rn_move (S.tm rfl)) rfl ?_; clear S; intro a S
 refine lv S (rn_lenT sl_26 (S.tm rfl) (slc_len hs_p_s)) rfl ?_; clear S; intro a S
 refine lv S (rn_move rfl) rfl ?_; clear S; intro a S
 refine l_done ?_
 replace S := S.nk [] [(0, v_p_s), (1, .func (.func 32) #[] #[.pointer (some ⟨b_p_f_0, 0, none⟩), .pointer (some ⟨b_p_f_1, 0, none⟩), .pointer (some ⟨b_p_f_2, 0, none⟩), .pointer (some ⟨b_p_f_3, 0, none⟩)]), (7, .int .i64 (p_s.length : Int)), (8, .int .i64 0)] [] rfl ⟨rfl, rfl, rfl, rfl, trivial⟩
 refine then_n ?_
 obtain ⟨j1, hj1, h⟩ := joinE h
 refine f_join (fun a w' => j1 = r ∧ Sx w [] nov [] [] 19 a w') ?_ ?_
 ·refine wp_block ?_
  refine f_loop (fun (ys1 : List GMark) a w' => ∃ i1 : Nat, (∃ dn, p_s = dn ++ ys1 ∧ dn.length = i1) ∧ slices_IndexFunc_Mark_tumbref2_BestMark_c1_l1 p_f_0 p_f_1 p_f_2 p_f_3 j1 ys1 i1 = r ∧ Sx w [] nov [] [(0, v_p_s), (1, .func (.func 32) #[] #[.pointer (some ⟨b_p_f_0, 0, none⟩), .pointer (some ⟨b_p_f_1, 0, none⟩), .pointer (some ⟨b_p_f_2, 0, none⟩), .pointer (some ⟨b_p_f_3, 0, none⟩)]), (7, .int .i64 (p_s.length : Int)), (8, .int .i64 (i1 : Int))] 19 a w') List.length p_s ⟨0, ⟨[], rfl, rfl⟩, h, S.nf [] rfl ⟨rfl, rfl, rfl, rfl, trivial⟩⟩ ?_
  clear S h; rintro ys1 a w1 ⟨i1, ⟨dn, hd1, hi1⟩, h, S⟩
  cases ys1 with
  | nil =>
   rw [slices_IndexFunc_Mark_tumbref2_BestMark_c1_l1.eq_1] at h
   refine f_seq ?_
   refine f_region ?_
   refine lv S (rn_lss (S.tm rfl) (S.tm rfl)) rfl ?_; clear S; intro a S
   refine l_done ?_
   replace S := S.nk [] [(0, v_p_s), (1, .func (.func 32) #[] #[.pointer (some ⟨b_p_f_0, 0, none⟩), .pointer (some ⟨b_p_f_1, 0, none⟩), .pointer (some ⟨b_p_f_2, 0, none⟩), .pointer (some ⟨b_p_f_3, 0, none⟩)]), (7, .int .i64 (p_s.length : Int)), (8, .int .i64 (i1 : Int)), (9, .bool (decide ((i1 : Int) < (p_s.length : Int))))] [] rfl ⟨rfl, rfl, rfl, rfl, rfl, trivial⟩
   refine then_n ?_
   refine f_seq ?_
   refine wp_cond_false ((S.tm rfl).trans (congrArg Value.bool (rng_nil hd1 hi1))) ?_
   refine wp_exit ?_
   refine then_x ?_
   refine then_x ?_
   refine x_same ?_
   refine then_n ?_
   exact ⟨h, S.nf [] rfl trivial⟩
  | cons y1 ys1 =>
   rw [slices_IndexFunc_Mark_tumbref2_BestMark_c1_l1.eq_2] at h
   refine f_seq ?_
   refine f_region ?_
   refine lv S (rn_lss (S.tm rfl) (S.tm rfl)) rfl ?_; clear S; intro a S
   refine l_done ?_
   replace S := S.nk [] [(0, v_p_s), (1, .func (.func 32) #[] #[.pointer (some ⟨b_p_f_0, 0, none⟩), .pointer (some ⟨b_p_f_1, 0, none⟩), .pointer (some ⟨b_p_f_2, 0, none⟩), .pointer (some ⟨b_p_f_3, 0, none⟩)]), (7, .int .i64 (p_s.length : Int)), (8, .int .i64 (i1 : Int)), (9, .bool (decide ((i1 : Int) < (p_s.length : Int))))] [] rfl ⟨rfl, rfl, rfl, rfl, rfl, trivial⟩
   refine then_n ?_
   refine f_seq ?_
   refine wp_cond_true ((S.tm rfl).trans (congrArg Value.bool (rng_cons hd1 hi1))) ?_
   refine wp_skip ?_
   refine then_n ?_
   refine f_seq ?_
   refine wp_block ?_
   refine f_seq ?_
   refine f_region ?_
   refine lv S (rn_move (S.tm rfl)) rfl ?_; clear S; intro a S
   refine lv S (rn_assign (S.tm rfl)) rfl ?_; clear S; intro a S
   refine l_done ?_
   replace S := S.nk [] [(0, v_p_s), (1, .func (.func 32) #[] #[.pointer (some ⟨b_p_f_0, 0, none⟩), .pointer (some ⟨b_p_f_1, 0, none⟩), .pointer (some ⟨b_p_f_2, 0, none⟩), .pointer (some ⟨b_p_f_3, 0, none⟩)]), (5, .int .i64 (i1 : Int)), (7, .int .i64 (p_s.length : Int)), (8, .int .i64 (i1 : Int))] [] rfl ⟨rfl, rfl, rfl, rfl, rfl, trivial⟩
   refine then_n ?_
   refine f_seq ?_
   refine f_region ?_
   refine lv S (rn_move (S.tm rfl)) rfl ?_; clear S; intro a S
   refine lv S (rn_move (S.tm rfl)) rfl ?_; clear S; intro a S
   refine lv S (rn_move (S.tm rfl)) rfl ?_; clear S; intro a S
   obtain ⟨b1, o1, hm1, hr1⟩ := rn_indexT (a := a) (x := .tmp 12) (y := .tmp 13) (ty := 0) sl_26 hs_p_s (get_mid hd1 hi1) rfl (S.tm rfl) (S.tm rfl)
   refine lv S (hr1 _) rfl ?_; clear S; intro a S
   clear hr1
   refine lv S (rn_ldA Tryd.isAgg34 Tryd.sizeOf34 (off := o1) (o := 0) (part := [.string y1.Who, .string y1.Race, .int .i64 y1.Day, .int .i64 y1.Time]) rfl rfl (S.tm rfl) (hm1.at S.emb0)) rfl ?_; clear S; intro a S
   refine l_enter S (fun _ => run_callV (cap := [.pointer (some ⟨b_p_f_0, 0, none⟩), .pointer (some ⟨b_p_f_1, 0, none⟩), .pointer (some ⟨b_p_f_2, 0, none⟩), .pointer (some ⟨b_p_f_3, 0, none⟩)]) (S.tm rfl) (vs := [.agg (GMark.enc y1).toArray]) ⟨(S.tm rfl), trivial⟩ Tryd.call32) (tumbref2_BestMark_c1_ok _ y1 b_p_f_0 p_f_0 (S.le_arg nil_sub _ _ hb_b_p_f_0) b_p_f_1 p_f_1 (S.le_arg nil_sub _ _ hb_b_p_f_1) b_p_f_2 p_f_2 (S.le_arg nil_sub _ _ hb_b_p_f_2) b_p_f_3 p_f_3 (S.le_arg nil_sub _ _ hb_b_p_f_3) _ rfl) rfl ?_; clear S; intro v1 a w3 hv1 hk1 hn1 S
   subst hv1
   refine l_done ?_
   replace S := S.nk [] [(0, v_p_s), (1, .func (.func 32) #[] #[.pointer (some ⟨b_p_f_0, 0, none⟩), .pointer (some ⟨b_p_f_1, 0, none⟩), .pointer (some ⟨b_p_f_2, 0, none⟩), .pointer (some ⟨b_p_f_3, 0, none⟩)]), (5, .int .i64 (i1 : Int)), (7, .int .i64 (p_s.length : Int)), (8, .int .i64 (i1 : Int)), (16, .bool (tumbref2_BestMark_c1 y1 p_f_0 p_f_1 p_f_2 p_f_3))] [] rfl ⟨rfl, rfl, rfl, rfl, rfl, rfl, trivial⟩
   refine then_n ?_
   refine f_cond (S.tm rfl) (fun hb1 => ?_) (fun hb1 => ?_)
   ·replace h := iteT h hb1
    refine f_seq ?_
    refine f_region ?_
    refine lv S (rn_move (S.tm rfl)) rfl ?_; clear S; intro a S
    refine lv S (rn_assign (S.tm rfl)) rfl ?_; clear S; intro a S
    refine l_done ?_
    replace S := S.nk [] [(4, .int .i64 (i1 : Int))] [] rfl ⟨rfl, trivial⟩
    refine then_n ?_
    refine wp_ret ?_
    refine blk_r ?_
    refine then_r ?_
    refine then_r ?_
    refine blk_r ?_
    refine then_r ?_
    refine then_r ?_
    subst h
    exact f_ret S Tryd.results44 rfl rfl
   ·replace h := iteF h hb1
    refine wp_skip ?_
    refine blk_n ?_
    refine then_n ?_
    refine f_region ?_
    refine lv S (rn_add (S.tm rfl) rfl) rfl ?_; clear S; intro a S
    refine lv S (rn_move (S.tm rfl)) rfl ?_; clear S; intro a S
    refine l_done ?_
    replace S := S.nk [] [(0, v_p_s), (1, .func (.func 32) #[] #[.pointer (some ⟨b_p_f_0, 0, none⟩), .pointer (some ⟨b_p_f_1, 0, none⟩), .pointer (some ⟨b_p_f_2, 0, none⟩), .pointer (some ⟨b_p_f_3, 0, none⟩)]), (7, .int .i64 (p_s.length : Int)), (8, .int .i64 (W ((i1 : Int) + 1)))] [] rfl ⟨rfl, rfl, rfl, rfl, trivial⟩
    refine then_n ?_
    exact ⟨ys1, ⟨i1 + 1, ⟨_, (hd1).trans (List.append_cons _ _ _), by simp [hi1]⟩, h, S.nf [] rfl ⟨rfl, rfl, rfl, (congrArg (fun z => some (Value.int .i64 z)) (rng_next hd1 hi1 (slc_max hs_p_s))), trivial⟩⟩, Nat.lt_succ_self _⟩
 clear S h; rintro a w2 ⟨h, S⟩; rw [hj1] at h; clear hj1 j1
 refine then_n ?_
 refine f_seq ?_
 refine f_region ?_
 refine lv S (rn_assign rfl) rfl ?_; clear S; intro a S
 refine l_done ?_
 replace S := S.nk [] [(4, .int .i64 (-1))] [] rfl ⟨rfl, trivial⟩
 refine then_n ?_
 refine wp_ret ?_
 subst h
 exact f_ret S Tryd.results44 rfl rfl
theorem slices_DeleteFunc_Mark_tumbref2_BestMark_c1_ok (w : World) (v_p_s : Value) (p_s : List GMark) (hb_p_s : (LEnt.own v_p_s 34 4 p_s.length (p_s.flatMap GMark.enc)).holds w) (b_p_del_0 : Nat) (p_del_0 : ByteArray) (hb_b_p_del_0 : view w (v_p_s.ownBlock.toList) b_p_del_0 = some (.cells [.string p_del_0].toArray 9 (0, 0))) (b_p_del_1 : Nat) (p_del_1 : ByteArray) (hb_b_p_del_1 : view w (v_p_s.ownBlock.toList) b_p_del_1 = some (.cells [.string p_del_1].toArray 9 (0, 0))) (b_p_del_2 : Nat) (p_del_2 : Int) (hb_b_p_del_2 : view w (v_p_s.ownBlock.toList) b_p_del_2 = some (.cells [.int .i64 p_del_2].toArray 3 (0, 0))) (b_p_del_3 : Nat) (p_del_3 : Int) (hb_b_p_del_3 : view w (v_p_s.ownBlock.toList) b_p_del_3 = some (.cells [.int .i64 p_del_3].toArray 3 (0, 0))) (r : (List GMark)) (h : slices_DeleteFunc_Mark_tumbref2_BestMark_c1 p_s p_del_0 p_del_1 p_del_2 p_del_3 = some r) :
    Calls Tryd.prog 30 [v_p_s, .func (.func 32) #[] #[.pointer (some ⟨b_p_del_0, 0, none⟩), .pointer (some ⟨b_p_del_1, 0, none⟩), .pointer (some ⟨b_p_del_2, 0, none⟩), .pointer (some ⟨b_p_del_3, 0, none⟩)]].toArray w (Ret w (v_p_s.ownBlock.toList) fun _ v w' => (LEnt.own v 34 4 r.length (r.flatMap GMark.enc)).holds w' ∧ ∀ c, v.ownBlock = some c → v_p_s.ownBlock = some c) := by
 refine f_enter (v_p_s.ownBlock.toList) [.own v_p_s 34 4 p_s.length (p_s.flatMap GMark.enc)] Tryd.func30 rfl Tryd.ntmps30 rfl (fun e he => by simp only [List.mem_singleton] at he; subst he; exact hb_p_s) (fps_one_nodup _) (fps_one_sub _) fun a S => ?_
 unfold slices_DeleteFunc_Mark_tumbref2_BestMark_c1 at h
 replace S := S.nk [.own v_p_s 34 4 p_s.length (p_s.flatMap GMark.enc)] [(0, v_p_s), (1, .func (.func 32) #[] #[.pointer (some ⟨b_p_del_0, 0, none⟩), .pointer (some ⟨b_p_del_1, 0, none⟩), .pointer (some ⟨b_p_del_2, 0, none⟩), .pointer (some ⟨b_p_del_3, 0, none⟩)])] [true] rfl ⟨rfl, rfl, trivial⟩
 refine f_seq ?_
 refine f_region ?_
 refine lv S (rn_assign rfl) rfl ?_; clear S; intro a S
 refine l_done ?_
 replace S := S.nk [.own v_p_s 34 4 p_s.length (p_s.flatMap GMark.enc)] [(0, v_p_s), (1, .func (.func 32) #[] #[.pointer (some ⟨b_p_del_0, 0, none⟩), .pointer (some ⟨b_p_del_1, 0, none⟩), .pointer (some ⟨b_p_del_2, 0, none⟩), .pointer (some ⟨b_p_del_3, 0, none⟩)])] [true] rfl ⟨rfl, rfl, trivial⟩
 refine then_n ?_
 refine f_seq ?_
 refine f_region ?_
 refine lv S (rn_move (S.tm rfl)) rfl ?_; clear S; intro a S
 refine lv S (rn_move (S.tm rfl)) rfl ?_; clear S; intro a S
 refine l_enter S (fun _ => run_call (vs := [v_p_s, .func (.func 32) #[] #[.pointer (some ⟨b_p_del_0, 0, none⟩), .pointer (some ⟨b_p_del_1, 0, none⟩), .pointer (some ⟨b_p_del_2, 0, none⟩), .pointer (some ⟨b_p_del_3, 0, none⟩)]]) ⟨(S.tm rfl), (S.tm rfl), trivial⟩ Tryd.call44) (slices_IndexFunc_Mark_tumbref2_BestMark_c1_ok _ v_p_s p_s (own_slcT GMark.enc_ok S (i := 0) rfl (ne_nil (e' := .own v_p_s 34 4 p_s.length (p_s.flatMap GMark.enc)))) b_p_del_0 p_del_0 (S.le_arg nil_sub _ _ hb_b_p_del_0) b_p_del_1 p_del_1 (S.le_arg nil_sub _ _ hb_b_p_del_1) b_p_del_2 p_del_2 (S.le_arg nil_sub _ _ hb_b_p_del_2) b_p_del_3 p_del_3 (S.le_arg nil_sub _ _ hb_b_p_del_3) _ rfl) rfl ?_; clear S; intro v1 a w1 hv1 hk1 hn1 S
 subst hv1
 refine lv S (rn_assign (S.tm rfl)) rfl ?_; clear S; intro a S
 refine l_done ?_
 replace S := S.nk [.own v_p_s 34 4 p_s.length (p_s.flatMap GMark.enc)] [(0, v_p_s), (1, .func (.func 32) #[] #[.pointer (some ⟨b_p_del_0, 0, none⟩), .pointer (some ⟨b_p_del_1, 0, none⟩), .pointer (some ⟨b_p_del_2, 0, none⟩), .pointer (some ⟨b_p_del_3, 0, none⟩)]), (5, .int .i64 (slices_IndexFunc_Mark_tumbref2_BestMark_c1 p_s p_del_0 p_del_1 p_del_2 p_del_3))] [true] rfl ⟨rfl, rfl, rfl, trivial⟩
 refine then_n ?_
 refine f_seq ?_
 refine f_seq ?_
 refine f_region ?_
 refine lv S (rn_move (S.tm rfl)) rfl ?_; clear S; intro a S
 refine lv S (rn_eql (S.tm rfl) rfl) rfl ?_; clear S; intro a S
 refine l_done ?_
 replace S := S.nk [.own v_p_s 34 4 p_s.length (p_s.flatMap GMark.enc)] [(0, v_p_s), (1, .func (.func 32) #[] #[.pointer (some ⟨b_p_del_0, 0, none⟩), .pointer (some ⟨b_p_del_1, 0, none⟩), .pointer (some ⟨b_p_del_2, 0, none⟩), .pointer (some ⟨b_p_del_3, 0, none⟩)]), (5, .int .i64 (slices_IndexFunc_Mark_tumbref2_BestMark_c1 p_s p_del_0 p_del_1 p_del_2 p_del_3)), (12, .bool (decide ((slices_IndexFunc_Mark_tumbref2_BestMark_c1 p_s p_del_0 p_del_1 p_del_2 p_del_3) = (-1))))] [true] rfl ⟨rfl, rfl, rfl, rfl, trivial⟩
 refine then_n ?_
 refine f_cond (S.tm rfl) (fun hb1 => ?_) (fun hb1 => ?_)
 ·replace h := iteT h hb1
  refine f_seq ?_
  refine f_region ?_
  refine lv S (rn_move (S.tm rfl)) rfl ?_; clear S; intro a S
  refine lv S (rn_assign (S.tm rfl)) rfl ?_; clear S; intro a S
  refine l_done ?_
  replace S := S.nk [.own v_p_s 34 4 p_s.length (p_s.flatMap GMark.enc)] [(4, v_p_s)] [true] rfl ⟨rfl, trivial⟩
  refine then_n ?_
  refine wp_ret ?_
  refine then_r ?_
  obtain rfl := Option.some.inj h
  exact f_ret S Tryd.results30 rfl ⟨(S.holds _ (List.mem_of_getElem? (i := 0) rfl)), (fun _ h => h)⟩
 ·replace h := iteF h hb1
  refine wp_skip ?_
  refine then_n ?_
  refine f_seq ?_
  refine f_seq ?_
  refine f_region ?_
  refine lv S (rn_move (S.tm rfl)) rfl ?_; clear S; intro a S
  refine lv S (rn_add (S.tm rfl) rfl) rfl ?_; clear S; intro a S
  refine lv S (rn_assign (S.tm rfl)) rfl ?_; clear S; intro a S
  refine l_done ?_
  replace S := S.nk [.own v_p_s 34 4 p_s.length (p_s.flatMap GMark.enc)] [(0, v_p_s), (1, .func (.func 32) #[] #[.pointer (some ⟨b_p_del_0, 0, none⟩), .pointer (some ⟨b_p_del_1, 0, none⟩), .pointer (some ⟨b_p_del_2, 0, none⟩), .pointer (some ⟨b_p_del_3, 0, none⟩)]), (5, .int .i64 (slices_IndexFunc_Mark_tumbref2_BestMark_c1 p_s p_del_0 p_del_1 p_del_2 p_del_3)), (6, .int .i64 (W ((slices_IndexFunc_Mark_tumbref2_BestMark_c1 p_s p_del_0 p_del_1 p_del_2 p_del_3) + 1)))] [true] rfl ⟨rfl, rfl, rfl, rfl, trivial⟩
  refine then_n ?_
  obtain ⟨j1, hj1, h⟩ := joinE h
  refine f_join (fun a w' => ∃ x1 : List GMark, ∃ x2 : Int, j1 x1 x2 = some r ∧ Sx w (v_p_s.ownBlock.toList) nov [.own v_p_s 34 4 x1.length (x1.flatMap GMark.enc)] [(0, v_p_s), (5, .int .i64 x2)] 42 a w') ?_ ?_
  ·refine wp_block ?_
   refine f_loop (fun (m1 : Nat) a w' => ∃ x1 : List GMark, ∃ x2 : Int, ∃ x3 : Int, slices_DeleteFunc_Mark_tumbref2_BestMark_c1_l1 p_del_0 p_del_1 p_del_2 p_del_3 j1 m1 x1 x2 x3 = some r ∧ Sx w (v_p_s.ownBlock.toList) nov [.own v_p_s 34 4 x1.length (x1.flatMap GMark.enc)] [(0, v_p_s), (1, .func (.func 32) #[] #[.pointer (some ⟨b_p_del_0, 0, none⟩), .pointer (some ⟨b_p_del_1, 0, none⟩), .pointer (some ⟨b_p_del_2, 0, none⟩), .pointer (some ⟨b_p_del_3, 0, none⟩)]), (5, .int .i64 x2), (6, .int .i64 x3)] 42 a w') id (((p_s.length : Int) - (W ((slices_IndexFunc_Mark_tumbref2_BestMark_c1 p_s p_del_0 p_del_1 p_del_2 p_del_3) + 1))).toNat + 2) ⟨p_s, (slices_IndexFunc_Mark_tumbref2_BestMark_c1 p_s p_del_0 p_del_1 p_del_2 p_del_3), W ((slices_IndexFunc_Mark_tumbref2_BestMark_c1 p_s p_del_0 p_del_1 p_del_2 p_del_3) + 1), h, S.nf [true] rfl ⟨rfl, rfl, rfl, rfl, trivial⟩⟩ ?_
   clear S h; rintro m1 a w2 ⟨x1, x2, x3, h, S⟩
   cases m1 with
   | zero => rw [slices_DeleteFunc_Mark_tumbref2_BestMark_c1_l1.eq_1] at h; cases h
   | succ m1 =>
    rw [slices_DeleteFunc_Mark_tumbref2_BestMark_c1_l1.eq_2] at h
    refine f_seq ?_
    refine f_seq ?_
    refine f_region ?_
    refine lv S (rn_move (S.tm rfl)) rfl ?_; clear S; intro a S
    refine lv S (rn_move (S.tm rfl)) rfl ?_; clear S; intro a S
    refine lv S (rn_lenT sl_26 (S.tm rfl) (own_len (S.own_at (i := 0) rfl))) rfl ?_; clear S; intro a S
    refine lv S (rn_lss (S.tm rfl) (S.tm rfl)) rfl ?_; clear S; intro a S
    refine l_done ?_
    replace S := S.nk [.own v_p_s 34 4 x1.length (x1.flatMap GMark.enc)] [(0, v_p_s), (1, .func (.func 32) #[] #[.pointer (some ⟨b_p_del_0, 0, none⟩), .pointer (some ⟨b_p_del_1, 0, none⟩), .pointer (some ⟨b_p_del_2, 0, none⟩), .pointer (some ⟨b_p_del_3, 0, none⟩)]), (5, .int .i64 x2), (6, .int .i64 x3), (19, .bool (decide (x3 < (x1.length : Int))))] [true] rfl ⟨rfl, rfl, rfl, rfl, rfl, trivial⟩
    refine then_n ?_
    refine f_cond (S.tm rfl) (fun hb2 => ?_) (fun hb2 => ?_)
    ·replace h := iteT h hb2
     refine wp_skip ?_
     refine then_n ?_
     refine f_seq ?_
     obtain ⟨j2, hj2, h⟩ := joinE h
     refine f_join (fun a w' => ∃ x4 : List GMark, ∃ x5 : Int, j2 x4 x5 = some r ∧ Sx w (v_p_s.ownBlock.toList) nov [.own v_p_s 34 4 x4.length (x4.flatMap GMark.enc)] [(0, v_p_s), (1, .func (.func 32) #[] #[.pointer (some ⟨b_p_del_0, 0, none⟩), .pointer (some ⟨b_p_del_1, 0, none⟩), .pointer (some ⟨b_p_del_2, 0, none⟩), .pointer (some ⟨b_p_del_3, 0, none⟩)]), (5, .int .i64 x5), (6, .int .i64 x3)] 42 a w') ?_ ?_
     ·refine wp_block ?_
      refine f_seq ?_
      refine f_region ?_
      refine lv S (rn_move (S.tm rfl)) rfl ?_; clear S; intro a S
      refine lv S (rn_move (S.tm rfl)) rfl ?_; clear S; intro a S
      obtain ⟨hc1, h⟩ := chkE h
      obtain ⟨b1, hg1, hr1⟩ := rn_indexS (a := a) (x := .tmp 22) (y := .tmp 23) (ty := 0) sl_26 GMark.enc_ok S (i := 0) rfl (inB_get hc1).1 (inB_get hc1).2 (S.tm rfl) (S.tm rfl)
      refine lv S (hr1 _) rfl ?_; clear S; intro a S
      clear hr1
      refine lv S (rn_ldA Tryd.isAgg34 Tryd.sizeOf34 (off := x3.toNat * 4) (o := 0) (part := [.string ((nth x1 x3).Who), .string ((nth x1 x3).Race), .int .i64 ((nth x1 x3).Day), .int .i64 ((nth x1 x3).Time)]) rfl rfl (S.tm rfl) (own_cells GMark.enc_ok S (i := 0) rfl hg1 (inB_get hc1).1)) rfl ?_; clear S; intro a S
      refine l_alloc S Tryd.zeroValue34 (cs := [.string k_empty, .string k_empty, .int .i64 0, .int .i64 0]) rfl rfl ?_; clear S; intro a w5 b2 hz1 hk2 S
      refine l_store S (S.tm rfl) (S.tm rfl) (i := 0) (off := 0) rfl Tryd.sizeOf34 (vs := [.string ((nth x1 x3).Who), .string ((nth x1 x3).Race), .int .i64 ((nth x1 x3).Day), .int .i64 ((nth x1 x3).Time)]) rfl rfl rfl rfl ?_; clear S; intro w6 hk3 S
      refine l_done ?_
      replace S := S.nk [.blk b2 [.string ((nth x1 x3).Who), .string ((nth x1 x3).Race), .int .i64 ((nth x1 x3).Day), .int .i64 ((nth x1 x3).Time)] 34, .own v_p_s 34 4 x1.length (x1.flatMap GMark.enc)] [(0, v_p_s), (1, .func (.func 32) #[] #[.pointer (some ⟨b_p_del_0, 0, none⟩), .pointer (some ⟨b_p_del_1, 0, none⟩), .pointer (some ⟨b_p_del_2, 0, none⟩), .pointer (some ⟨b_p_del_3, 0, none⟩)]), (5, .int .i64 x2), (6, .int .i64 x3), (7, .pointer (some ⟨b2, 0, none⟩))] [true, true] rfl ⟨rfl, rfl, rfl, rfl, rfl, trivial⟩
      refine then_n ?_
      refine f_seq ?_
      refine f_region ?_
      refine lv S (rn_move (S.tm rfl)) rfl ?_; clear S; intro a S
      refine lv S (rn_ldA Tryd.isAgg34 Tryd.sizeOf34 (off := 0) (o := 0) (part := [.string ((nth x1 x3).Who), .string ((nth x1 x3).Race), .int .i64 ((nth x1 x3).Day), .int .i64 ((nth x1 x3).Time)]) rfl rfl (S.tm rfl) (S.cellsAt (i := 0) rfl)) rfl ?_; clear S; intro a S
      refine l_enter S (fun _ => run_callV (cap := [.pointer (some ⟨b_p_del_0, 0, none⟩), .pointer (some ⟨b_p_del_1, 0, none⟩), .pointer (some ⟨b_p_del_2, 0, none⟩), .pointer (some ⟨b_p_del_3, 0, none⟩)]) (S.tm rfl) (vs := [.agg (GMark.enc (nth x1 x3)).toArray]) ⟨(S.tm rfl), trivial⟩ Tryd.call32) (tumbref2_BestMark_c1_ok _ (nth x1 x3) b_p_del_0 p_del_0 (S.le_arg nil_sub _ _ hb_b_p_del_0) b_p_del_1 p_del_1 (S.le_arg nil_sub _ _ hb_b_p_del_1) b_p_del_2 p_del_2 (S.le_arg nil_sub _ _ hb_b_p_del_2) b_p_del_3 p_del_3 (S.le_arg nil_sub _ _ hb_b_p_del_3) _ rfl) rfl ?_; clear S; intro v2 a w7 hv2 hk4 hn2 S
      subst hv2
      refine lv S (rn_not (S.tm rfl)) rfl ?_; clear S; intro a S
      refine l_done ?_
      replace S := S.nk [.blk b2 [.string ((nth x1 x3).Who), .string ((nth x1 x3).Race), .int .i64 ((nth x1 x3).Day), .int .i64 ((nth x1 x3).Time)] 34, .own v_p_s 34 4 x1.length (x1.flatMap GMark.enc)] [(0, v_p_s), (1, .func (.func 32) #[] #[.pointer (some ⟨b_p_del_0, 0, none⟩), .pointer (some ⟨b_p_del_1, 0, none⟩), .pointer (some ⟨b_p_del_2, 0, none⟩), .pointer (some ⟨b_p_del_3, 0, none⟩)]), (5, .int .i64 x2), (6, .int .i64 x3), (7, .pointer (some ⟨b2, 0, none⟩)), (29, .bool (!(tumbref2_BestMark_c1 (nth x1 x3) p_del_0 p_del_1 p_del_2 p_del_3)))] [true, true] rfl ⟨rfl, rfl, rfl, rfl, rfl, rfl, trivial⟩
      refine then_n ?_
      obtain ⟨j3, hj3, h⟩ := joinE h
      refine f_join (fun a w' => ∃ x6 : List GMark, ∃ x7 : Int, j3 x6 x7 = some r ∧ Sx w (v_p_s.ownBlock.toList) nov [.own v_p_s 34 4 x6.length (x6.flatMap GMark.enc)] [(0, v_p_s), (1, .func (.func 32) #[] #[.pointer (some ⟨b_p_del_0, 0, none⟩), .pointer (some ⟨b_p_del_1, 0, none⟩), .pointer (some ⟨b_p_del_2, 0, none⟩), .pointer (some ⟨b_p_del_3, 0, none⟩)]), (5, .int .i64 x7), (6, .int .i64 x3)] 42 a w') ?_ ?_
      ·refine f_cond (S.tm rfl) (fun hb3 => ?_) (fun hb3 => ?_)
       ·replace h := iteT h hb3
        refine f_seq ?_
        refine f_region ?_
        refine lv S (rn_move (S.tm rfl)) rfl ?_; clear S; intro a S
        refine lv S (rn_move (S.tm rfl)) rfl ?_; clear S; intro a S
        refine lv S (rn_ldA Tryd.isAgg34 Tryd.sizeOf34 (off := 0) (o := 0) (part := [.string ((nth x1 x3).Who), .string ((nth x1 x3).Race), .int .i64 ((nth x1 x3).Day), .int .i64 ((nth x1 x3).Time)]) rfl rfl (S.tm rfl) (S.cellsAt (i := 0) rfl)) rfl ?_; clear S; intro a S
        obtain ⟨hc2, h⟩ := chkE h
        obtain ⟨b3, hg2, hr2⟩ := rn_indexS (a := a) (x := .tmp 30) (y := .tmp 31) (ty := 0) sl_26 GMark.enc_ok S (i := 1) rfl (inB_get hc2).1 (inB_get hc2).2 (S.tm rfl) (S.tm rfl)
        refine lv S (hr2 _) rfl ?_; clear S; intro a S
        clear hr2
        refine l_storeO (c := 0) (j := x2.toNat) (nth x1 x3) GMark.enc_ok S (S.tm rfl) (S.tm rfl) (i := 1) rfl hg2 (inB_get hc2).1 Tryd.sizeOf34 (vs := [.string ((nth x1 x3).Who), .string ((nth x1 x3).Race), .int .i64 ((nth x1 x3).Day), .int .i64 ((nth x1 x3).Time)]) rfl rfl rfl rfl rfl ?_; clear S; intro w10 hk6 S
        refine l_done ?_
        replace S := S.nk [.own v_p_s 34 4 (x1.set x2.toNat (nth x1 x3)).length ((x1.set x2.toNat (nth x1 x3)).flatMap GMark.enc)] [(0, v_p_s), (1, .func (.func 32) #[] #[.pointer (some ⟨b_p_del_0, 0, none⟩), .pointer (some ⟨b_p_del_1, 0, none⟩), .pointer (some ⟨b_p_del_2, 0, none⟩), .pointer (some ⟨b_p_del_3, 0, none⟩)]), (5, .int .i64 x2), (6, .int .i64 x3)] [false, true] rfl ⟨rfl, rfl, rfl, rfl, trivial⟩
        refine then_n ?_
        refine f_region ?_
        refine lv S (rn_move (S.tm rfl)) rfl ?_; clear S; intro a S
        refine lv S (rn_add (S.tm rfl) rfl) rfl ?_; clear S; intro a S
        refine lv S (rn_assign (S.tm rfl)) rfl ?_; clear S; intro a S
        refine l_done ?_
        replace S := S.nk [.own v_p_s 34 4 (x1.set x2.toNat (nth x1 x3)).length ((x1.set x2.toNat (nth x1 x3)).flatMap GMark.enc)] [(0, v_p_s), (1, .func (.func 32) #[] #[.pointer (some ⟨b_p_del_0, 0, none⟩), .pointer (some ⟨b_p_del_1, 0, none⟩), .pointer (some ⟨b_p_del_2, 0, none⟩), .pointer (some ⟨b_p_del_3, 0, none⟩)]), (5, .int .i64 (W (x2 + 1))), (6, .int .i64 x3)] [true] rfl ⟨rfl, rfl, rfl, rfl, trivial⟩
        refine then_n ?_
        exact ⟨(x1.set x2.toNat (nth x1 x3)), W (x2 + 1), h, S.nf [true] rfl ⟨rfl, rfl, rfl, rfl, trivial⟩⟩
       ·replace h := iteF h hb3
        refine wp_skip ?_
        refine then_n ?_
        exact ⟨x1, x2, h, S.nf [false, true] rfl ⟨rfl, rfl, rfl, rfl, trivial⟩⟩
      clear S h; rintro a w8 ⟨x6, x7, h, S⟩; rw [hj3] at h; clear hj3 j3
      refine blk_n ?_
      refine then_n ?_
      exact ⟨x6, x7, h, S.nf [true] rfl ⟨rfl, rfl, rfl, rfl, trivial⟩⟩
     clear S h; rintro a w4 ⟨x4, x5, h, S⟩; rw [hj2] at h; clear hj2 j2
     refine then_n ?_
     refine f_region ?_
     refine lv S (rn_move (S.tm rfl)) rfl ?_; clear S; intro a S
     refine lv S (rn_add (S.tm rfl) rfl) rfl ?_; clear S; intro a S
     refine lv S (rn_assign (S.tm rfl)) rfl ?_; clear S; intro a S
     refine l_done ?_
     replace S := S.nk [.own v_p_s 34 4 x4.length (x4.flatMap GMark.enc)] [(0, v_p_s), (1, .func (.func 32) #[] #[.pointer (some ⟨b_p_del_0, 0, none⟩), .pointer (some ⟨b_p_del_1, 0, none⟩), .pointer (some ⟨b_p_del_2, 0, none⟩), .pointer (some ⟨b_p_del_3, 0, none⟩)]), (5, .int .i64 x5), (6, .int .i64 (W (x3 + 1)))] [true] rfl ⟨rfl, rfl, rfl, rfl, trivial⟩
     refine then_n ?_
     exact ⟨m1, ⟨x4, x5, W (x3 + 1), h, S.nf [true] rfl ⟨rfl, rfl, rfl, rfl, trivial⟩⟩, Nat.lt_succ_self _⟩
    ·replace h := iteF h hb2
     refine wp_exit ?_
     refine then_x ?_
     refine then_x ?_
     refine x_same ?_
     refine then_n ?_
     exact ⟨x1, x2, h, S.nf [true] rfl ⟨rfl, rfl, trivial⟩⟩
  clear S h; rintro a w3 ⟨x1, x2, h, S⟩; rw [hj1] at h; clear hj1 j1
  refine then_n ?_
  refine f_seq ?_
  refine f_region ?_
  refine lv S (rn_move (S.tm rfl)) rfl ?_; clear S; intro a S
  refine lv S (rn_move (S.tm rfl)) rfl ?_; clear S; intro a S
  obtain ⟨hc3, h⟩ := chkE h
  obtain ⟨u1, hu1, hr3⟩ := rn_subl (a := a) (x := .tmp 36) (y := .tmp 37) (ty := 26) sl_26 S (i := 0) rfl (S.tm rfl) (S.tm rfl) hc3
  refine lv S (hr3 _) rfl ?_; clear S; intro a S
  clear hr3
  refine l_clear (zl := x2) (zh := (x1.length : Int)) (z := (GMark.mk k_empty k_empty 0 0)) sl_26 rfl GMark.enc_ok S (i := 0) rfl hu1 (S.tm rfl) Tryd.zeroValue34 rfl ?_; clear S; intro w11 hk7 S
  refine l_done ?_
  replace S := S.nk [.own v_p_s 34 4 (clr x1 x2 (x1.length : Int) (GMark.mk k_empty k_empty 0 0)).length ((clr x1 x2 (x1.length : Int) (GMark.mk k_empty k_empty 0 0)).flatMap GMark.enc)] [(0, v_p_s), (5, .int .i64 x2)] [true] rfl ⟨rfl, rfl, trivial⟩
  refine then_n ?_
  refine f_seq ?_
  refine f_region ?_
  refine lv S (rn_move (S.tm rfl)) rfl ?_; clear S; intro a S
  refine lv S (rn_move (S.tm rfl)) rfl ?_; clear S; intro a S
  obtain ⟨hc4, h⟩ := chkE h
  obtain ⟨u2, hu2, hr4⟩ := rn_subh (a := a) (x := .tmp 39) (y' := .tmp 40) (ty := 26) sl_26 S (i := 0) rfl (S.tm rfl) (S.tm rfl) hc4
  refine lv S (hr4 _) rfl ?_; clear S; intro a S
  clear hr4
  refine lv S (rn_assign (S.tm rfl)) rfl ?_; clear S; intro a S
  refine l_done ?_
  replace S := S.nk [.own v_p_s 34 4 (clr x1 x2 (x1.length : Int) (GMark.mk k_empty k_empty 0 0)).length ((clr x1 x2 (x1.length : Int) (GMark.mk k_empty k_empty 0 0)).flatMap GMark.enc)] [(4, u2)] [true] rfl ⟨rfl, trivial⟩
  refine then_n ?_
  refine wp_ret ?_
  obtain ⟨S, hz2⟩ := S.ownCut (zh := x2) GMark.enc_ok (i := 0) rfl hu2
  obtain rfl := Option.some.inj h
  exact f_ret S Tryd.results30 rfl ⟨(S.holds _ (List.mem_of_getElem? (i := 0) rfl)), hz2⟩
theorem slices_Compare_int_ok (w : World) (v_p_s1 : Value) (p_s1 : List Int) (hs_p_s1 : Slc (view w []) 1 v_p_s1 (p_s1.map eInt)) (v_p_s2 : Value) (p_s2 : List Int) (hs_p_s2 : Slc (view w []) 1 v_p_s2 (p_s2.map eInt)) (r : Int) (h : slices_Compare_int p_s1 p_s2 = some r) :
    Calls Tryd.prog 35 [v_p_s1, v_p_s2].toArray w (Ret w [] fun _ v _ => v = .int .i64 r) := by
 refine f_enter [] [] Tryd.func35 rfl Tryd.ntmps35 rfl (by simp) (by simp [fps]) (by simp [fps]) fun a S => ?_
 unfold slices_Compare_int at h
 replace S := S.nk [] [(0, v_p_s1), (1, v_p_s2)] [] rfl ⟨rfl, rfl, trivial⟩
 refine f_seq ?_
 refine f_region ?_
 refine lv S (rn_assign rfl) rfl ?_; clear S; intro a S
 refine l_done ?_
 replace S := S.nk [] [(0, v_p_s1), (1, v_p_s2)] [] rfl ⟨rfl, rfl, trivial⟩
 refine then_n ?_
 refine f_seq ?_
 refine f_seq ?_
 refine f_region ?_
 refine lv S (rn_move (S.tm rfl)) rfl ?_; clear S; intro a S
 refine lv S (rn_lenT sl_22 (S.tm rfl) (slc_len hs_p_s1)) rfl ?_; clear S; intro a S
 refine lv S (rn_move rfl) rfl ?_; clear S; intro a S
 refine l_done ?_
 replace S := S.nk [] [(0, v_p_s1), (1, v_p_s2), (9, v_p_s1), (10, .int .i64 (p_s1.length : Int)), (11, .int .i64 0)] [] rfl ⟨rfl, rfl, rfl, rfl, rfl, trivial⟩
 refine then_n ?_
 obtain ⟨j1, hj1, h⟩ := joinE h
 refine f_join (fun a w' => j1 = some r ∧ Sx w [] nov [] [(0, v_p_s1), (1, v_p_s2)] 36 a w') ?_ ?_
 ·refine wp_block ?_
  refine f_loop (fun (ys1 : List Int) a w' => ∃ i1 : Nat, (∃ dn, p_s1 = dn ++ ys1 ∧ dn.length = i1) ∧ slices_Compare_int_l1 p_s2 j1 ys1 i1 = some r ∧ Sx w [] nov [] [(0, v_p_s1), (1, v_p_s2), (9, v_p_s1), (10, .int .i64 (p_s1.length : Int)), (11, .int .i64 (i1 : Int))] 36 a w') List.length p_s1 ⟨0, ⟨[], rfl, rfl⟩, h, S.nf [] rfl ⟨rfl, rfl, rfl, rfl, rfl, trivial⟩⟩ ?_
  clear S h; rintro ys1 a w1 ⟨i1, ⟨dn, hd1, hi1⟩, h, S⟩
  cases ys1 with
  | nil =>
   rw [slices_Compare_int_l1.eq_1] at h
   refine f_seq ?_
   refine f_region ?_
   refine lv S (rn_lss (S.tm rfl) (S.tm rfl)) rfl ?_; clear S; intro a S
   refine l_done ?_
   replace S := S.nk [] [(0, v_p_s1), (1, v_p_s2), (9, v_p_s1), (10, .int .i64 (p_s1.length : Int)), (11, .int .i64 (i1 : Int)), (12, .bool (decide ((i1 : Int) < (p_s1.length : Int))))] [] rfl ⟨rfl, rfl, rfl, rfl, rfl, rfl, trivial⟩
   refine then_n ?_
   refine f_seq ?_
   refine wp_cond_false ((S.tm rfl).trans (congrArg Value.bool (rng_nil hd1 hi1))) ?_
   refine wp_exit ?_
   refine then_x ?_
   refine then_x ?_
   refine x_same ?_
   refine then_n ?_
   exact ⟨h, S.nf [] rfl ⟨rfl, rfl, trivial⟩⟩
  | cons y1 ys1 =>
   rw [slices_Compare_int_l1.eq_2] at h
   refine f_seq ?_
   refine f_region ?_
   refine lv S (rn_lss (S.tm rfl) (S.tm rfl)) rfl ?_; clear S; intro a S
   refine l_done ?_
   replace S := S.nk [] [(0, v_p_s1), (1, v_p_s2), (9, v_p_s1), (10, .int .i64 (p_s1.length : Int)), (11, .int .i64 (i1 : Int)), (12, .bool (decide ((i1 : Int) < (p_s1.length : Int))))] [] rfl ⟨rfl, rfl, rfl, rfl, rfl, rfl, trivial⟩
   refine then_n ?_
   refine f_seq ?_
   refine wp_cond_true ((S.tm rfl).trans (congrArg Value.bool (rng_cons hd1 hi1))) ?_
   refine wp_skip ?_
   refine then_n ?_
   refine f_seq ?_
   refine wp_block ?_
   refine f_seq ?_
   refine f_region ?_
   refine lv S (rn_move (S.tm rfl)) rfl ?_; clear S; intro a S
   obtain ⟨b1, o1, hm1, hr1⟩ := rn_indexT (a := a) (x := .tmp 9) (y := .tmp 11) (ty := 0) sl_22 hs_p_s1 (get_mid hd1 hi1) rfl (S.tm rfl) (S.tm rfl)
   refine lv S (hr1 _) rfl ?_; clear S; intro a S
   clear hr1
   refine lv S (rn_ld Tryd.isAgg3 (off := o1) (o := 0) (S.tm rfl) (hm1.at S.emb0) rfl) rfl ?_; clear S; intro a S
   refine lv S (rn_assign (S.tm rfl)) rfl ?_; clear S; intro a S
   refine lv S (rn_assign (S.tm rfl)) rfl ?_; clear S; intro a S
   refine l_done ?_
   replace S := S.nk [] [(0, v_p_s1), (1, v_p_s2), (5, .int .i64 (i1 : Int)), (6, .int .i64 y1), (9, v_p_s1), (10, .int .i64 (p_s1.length : Int)), (11, .int .i64 (i1 : Int))] [] rfl ⟨rfl, rfl, rfl, rfl, rfl, rfl, rfl, trivial⟩
   refine then_n ?_
   refine f_seq ?_
   refine f_seq ?_
   refine f_region ?_
   refine lv S (rn_move (S.tm rfl)) rfl ?_; clear S; intro a S
   refine lv S (rn_move (S.tm rfl)) rfl ?_; clear S; intro a S
   refine lv S (rn_lenT sl_22 (S.tm rfl) (slc_len hs_p_s2)) rfl ?_; clear S; intro a S
   refine lv S (rn_geq (S.tm rfl) (S.tm rfl)) rfl ?_; clear S; intro a S
   refine l_done ?_
   replace S := S.nk [] [(0, v_p_s1), (1, v_p_s2), (5, .int .i64 (i1 : Int)), (6, .int .i64 y1), (9, v_p_s1), (10, .int .i64 (p_s1.length : Int)), (11, .int .i64 (i1 : Int)), (19, .bool (decide ((p_s2.length : Int) ≤ (i1 : Int))))] [] rfl ⟨rfl, rfl, rfl, rfl, rfl, rfl, rfl, rfl, trivial⟩
   refine then_n ?_
   refine f_cond (S.tm rfl) (fun hb1 => ?_) (fun hb1 => ?_)
   ·replace h := iteT h hb1
    refine f_seq ?_
    refine f_region ?_
    refine lv S (rn_assign rfl) rfl ?_; clear S; intro a S
    refine l_done ?_
    replace S := S.nk [] [(4, .int .i64 1)] [] rfl ⟨rfl, trivial⟩
    refine then_n ?_
    refine wp_ret ?_
    refine then_r ?_
    refine blk_r ?_
    refine then_r ?_
    refine then_r ?_
    refine blk_r ?_
    refine then_r ?_
    refine then_r ?_
    obtain rfl := Option.some.inj h
    exact f_ret S Tryd.results35 rfl rfl
   ·replace h := iteF h hb1
    refine wp_skip ?_
    refine then_n ?_
    refine f_seq ?_
    refine f_region ?_
    refine lv S (rn_move (S.tm rfl)) rfl ?_; clear S; intro a S
    refine lv S (rn_move (S.tm rfl)) rfl ?_; clear S; intro a S
    obtain ⟨hc1, h⟩ := chkE h
    obtain ⟨b2, o2, hm2, hr2⟩ := rn_indexT (a := a) (x := .tmp 20) (y := .tmp 21) (ty := 0) sl_22 hs_p_s2 (inB_get hc1).1 (inB_get hc1).2 (S.tm rfl) (S.tm rfl)
    refine lv S (hr2 _) rfl ?_; clear S; intro a S
    clear hr2
    refine lv S (rn_ld Tryd.isAgg3 (off := o2) (o := 0) (S.tm rfl) (hm2.at S.emb0) rfl) rfl ?_; clear S; intro a S
    refine lv S (rn_assign (S.tm rfl)) rfl ?_; clear S; intro a S
    refine l_done ?_
    replace S := S.nk [] [(0, v_p_s1), (1, v_p_s2), (6, .int .i64 y1), (7, .int .i64 (nth p_s2 (i1 : Int))), (9, v_p_s1), (10, .int .i64 (p_s1.length : Int)), (11, .int .i64 (i1 : Int))] [] rfl ⟨rfl, rfl, rfl, rfl, rfl, rfl, rfl, trivial⟩
    refine then_n ?_
    refine f_seq ?_
    refine f_region ?_
    refine lv S (rn_move (S.tm rfl)) rfl ?_; clear S; intro a S
    refine lv S (rn_move (S.tm rfl)) rfl ?_; clear S; intro a S
    refine l_enter S (fun _ => run_call (vs := [.int .i64 y1, .int .i64 (nth p_s2 (i1 : Int))]) ⟨(S.tm rfl), (S.tm rfl), trivial⟩ Tryd.call42) (cmp_Compare_int_ok _ y1 (nth p_s2 (i1 : Int)) _ rfl) rfl ?_; clear S; intro v1 a w3 hv1 hk1 hn1 S
    subst hv1
    refine lv S (rn_assign (S.tm rfl)) rfl ?_; clear S; intro a S
    refine l_done ?_
    replace S := S.nk [] [(0, v_p_s1), (1, v_p_s2), (8, .int .i64 (cmp_Compare_int y1 (nth p_s2 (i1 : Int)))), (9, v_p_s1), (10, .int .i64 (p_s1.length : Int)), (11, .int .i64 (i1 : Int))] [] rfl ⟨rfl, rfl, rfl, rfl, rfl, rfl, trivial⟩
    refine then_n ?_
    refine f_seq ?_
    refine f_region ?_
    refine lv S (rn_move (S.tm rfl)) rfl ?_; clear S; intro a S
    refine lv S (rn_neq (S.tm rfl) rfl) rfl ?_; clear S; intro a S
    refine l_done ?_
    replace S := S.nk [] [(0, v_p_s1), (1, v_p_s2), (8, .int .i64 (cmp_Compare_int y1 (nth p_s2 (i1 : Int)))), (9, v_p_s1), (10, .int .i64 (p_s1.length : Int)), (11, .int .i64 (i1 : Int)), (28, .bool (!decide ((cmp_Compare_int y1 (nth p_s2 (i1 : Int))) = 0)))] [] rfl ⟨rfl, rfl, rfl, rfl, rfl, rfl, rfl, trivial⟩
    refine then_n ?_
    refine f_cond (S.tm rfl) (fun hb2 => ?_) (fun hb2 => ?_)
    ·replace h := iteT h hb2
     refine f_seq ?_
     refine f_region ?_
     refine lv S (rn_move (S.tm rfl)) rfl ?_; clear S; intro a S
     refine lv S (rn_assign (S.tm rfl)) rfl ?_; clear S; intro a S
     refine l_done ?_
     replace S := S.nk [] [(4, .int .i64 (cmp_Compare_int y1 (nth p_s2 (i1 : Int))))] [] rfl ⟨rfl, trivial⟩
     refine then_n ?_
     refine wp_ret ?_
     refine blk_r ?_
     refine then_r ?_
     refine then_r ?_
     refine blk_r ?_
     refine then_r ?_
     refine then_r ?_
     obtain rfl := Option.some.inj h
     exact f_ret S Tryd.results35 rfl rfl
    ·replace h := iteF h hb2
     refine wp_skip ?_
     refine blk_n ?_
     refine then_n ?_
     refine f_region ?_
     refine lv S (rn_add (S.tm rfl) rfl) rfl ?_; clear S; intro a S
     refine lv S (rn_move (S.tm rfl)) rfl ?_; clear S; intro a S
     refine l_done ?_
     replace S := S.nk [] [(0, v_p_s1), (1, v_p_s2), (9, v_p_s1), (10, .int .i64 (p_s1.length : Int)), (11, .int .i64 (W ((i1 : Int) + 1)))] [] rfl ⟨rfl, rfl, rfl, rfl, rfl, trivial⟩
     refine then_n ?_
     exact ⟨ys1, ⟨i1 + 1, ⟨_, (hd1).trans (List.append_cons _ _ _), by simp [hi1]⟩, h, S.nf [] rfl ⟨rfl, rfl, rfl, rfl, (congrArg (fun z => some (Value.int .i64 z)) (rng_next hd1 hi1 (slc_max hs_p_s1))), trivial⟩⟩, Nat.lt_succ_self _⟩
 clear S h; rintro a w2 ⟨h, S⟩; rw [hj1] at h; clear hj1 j1
 refine then_n ?_
 refine f_seq ?_
 refine f_seq ?_
 refine f_region ?_
 refine lv S (rn_move (S.tm rfl)) rfl ?_; clear S; intro a S
 refine lv S (rn_lenT sl_22 (S.tm rfl) (slc_len hs_p_s1)) rfl ?_; clear S; intro a S
 refine lv S (rn_move (S.tm rfl)) rfl ?_; clear S; intro a S
 refine lv S (rn_lenT sl_22 (S.tm rfl) (slc_len hs_p_s2)) rfl ?_; clear S; intro a S
 refine lv S (rn_lss (S.tm rfl) (S.tm rfl)) rfl ?_; clear S; intro a S
 refine l_done ?_
 replace S := S.nk [] [(35, .bool (decide ((p_s1.length : Int) < (p_s2.length : Int))))] [] rfl ⟨rfl, trivial⟩
 refine then_n ?_
 refine f_cond (S.tm rfl) (fun hb3 => ?_) (fun hb3 => ?_)
 ·replace h := iteT h hb3
  refine f_seq ?_
  refine f_region ?_
  refine lv S (rn_assign rfl) rfl ?_; clear S; intro a S
  refine l_done ?_
  replace S := S.nk [] [(4, .int .i64 (-1))] [] rfl ⟨rfl, trivial⟩
  refine then_n ?_
  refine wp_ret ?_
  refine then_r ?_
  obtain rfl := Option.some.inj h
  exact f_ret S Tryd.results35 rfl rfl
 ·replace h := iteF h hb3
  refine wp_skip ?_
  refine then_n ?_
  refine f_seq ?_
  refine f_region ?_
  refine lv S (rn_assign rfl) rfl ?_; clear S; intro a S
  refine l_done ?_
  replace S := S.nk [] [(4, .int .i64 0)] [] rfl ⟨rfl, trivial⟩
  refine then_n ?_
  refine wp_ret ?_
  obtain rfl := Option.some.inj h
  exact f_ret S Tryd.results35 rfl rfl
theorem tumbref2_BestMark_c2_ok (w : World) (p_a : GMark) (p_b : GMark) (r : Int) (h : tumbref2_BestMark_c2 p_a p_b = some r) :
    Calls Tryd.prog 34 [.agg (GMark.enc p_a).toArray, .agg (GMark.enc p_b).toArray].toArray w (Ret w [] fun _ v _ => v = .int .i64 r) := by
 refine f_enter [] [] Tryd.func34 rfl Tryd.ntmps34 rfl (by simp) (by simp [fps]) (by simp [fps]) fun a S => ?_
 unfold tumbref2_BestMark_c2 at h
 replace S := S.nk [] [(0, .agg (GMark.enc p_a).toArray), (1, .agg (GMark.enc p_b).toArray)] [] rfl ⟨rfl, rfl, trivial⟩
 refine f_seq ?_
 refine f_region ?_
 refine l_box S (S.tm rfl) (cs := [.string p_a.Who, .string p_a.Race, .int .i64 p_a.Day, .int .i64 p_a.Time]) rfl rfl ?_; clear S; intro a w1 b1 hz1 hk1 S
 refine l_box S (S.tm rfl) (cs := [.string p_b.Who, .string p_b.Race, .int .i64 p_b.Day, .int .i64 p_b.Time]) rfl rfl ?_; clear S; intro a w2 b2 hz2 hk2 S
 refine lv S (rn_assign rfl) rfl ?_; clear S; intro a S
 refine l_done ?_
 replace S := S.nk [.blk b2 [.string p_b.Who, .string p_b.Race, .int .i64 p_b.Day, .int .i64 p_b.Time] 34, .blk b1 [.string p_a.Who, .string p_a.Race, .int .i64 p_a.Day, .int .i64 p_a.Time] 34] [(2, .pointer (some ⟨b1, 0, none⟩)), (3, .pointer (some ⟨b2, 0, none⟩))] [true, true] rfl ⟨rfl, rfl, trivial⟩
 refine then_n ?_
 refine f_seq ?_
 refine f_region ?_
 refine lv S (rn_fld fa_34_3 (S.tm rfl)) rfl ?_; clear S; intro a S
 refine lv S (rn_load Tryd.isAgg3 (S.tm rfl) (S.cell (i := 1) rfl rfl)) rfl ?_; clear S; intro a S
 refine lv S (rn_fld fa_34_2 (S.tm rfl)) rfl ?_; clear S; intro a S
 refine lv S (rn_load Tryd.isAgg3 (S.tm rfl) (S.cell (i := 1) rfl rfl)) rfl ?_; clear S; intro a S
 refine l_buildSlice S Tryd.underlying22 Tryd.sizeOf3 Tryd.zeroValue3 rfl rfl (pv := [(0, .int .i64 p_a.Time), (1, .int .i64 p_a.Day)]) ⟨rfl, (S.tm rfl), rfl, (S.tm rfl), trivial⟩ (cs := [.int .i64 p_a.Time, .int .i64 p_a.Day]) (by kernel_rfl) rfl ?_; clear S; intro a w3 b3 hz3 hk3 S
 refine lv S (rn_fld fa_34_3 (S.tm rfl)) rfl ?_; clear S; intro a S
 refine lv S (rn_load Tryd.isAgg3 (S.tm rfl) (S.cell (i := 1) rfl rfl)) rfl ?_; clear S; intro a S
 refine lv S (rn_fld fa_34_2 (S.tm rfl)) rfl ?_; clear S; intro a S
 refine lv S (rn_load Tryd.isAgg3 (S.tm rfl) (S.cell (i := 1) rfl rfl)) rfl ?_; clear S; intro a S
 refine l_buildSlice S Tryd.underlying22 Tryd.sizeOf3 Tryd.zeroValue3 rfl rfl (pv := [(0, .int .i64 p_b.Time), (1, .int .i64 p_b.Day)]) ⟨rfl, (S.tm rfl), rfl, (S.tm rfl), trivial⟩ (cs := [.int .i64 p_b.Time, .int .i64 p_b.Day]) (by kernel_rfl) rfl ?_; clear S; intro a w4 b4 hz4 hk4 S
 obtain ⟨r1, hr1, h⟩ := bindE h
 refine l_enter S (fun _ => run_call (vs := [.slice (some ⟨b3, 0, none⟩) 2 2, .slice (some ⟨b4, 0, none⟩) 2 2]) ⟨(S.tm rfl), (S.tm rfl), trivial⟩ Tryd.call35) (slices_Compare_int_ok _ (.slice (some ⟨b3, 0, none⟩) 2 2) [p_a.Time, p_a.Day] (lit_slcT enc_int S (i := 1) rfl rfl rfl rfl ((ne_nil (e' := .blk b3 [.int .i64 p_a.Time, .int .i64 p_a.Day] 3)) _ rfl)) (.slice (some ⟨b4, 0, none⟩) 2 2) [p_b.Time, p_b.Day] (lit_slcT enc_int S (i := 0) rfl rfl rfl rfl ((ne_nil (e' := .blk b4 [.int .i64 p_b.Time, .int .i64 p_b.Day] 3)) _ rfl)) _ hr1) rfl ?_; clear S; intro v1 a w5 hv1 hk5 hn1 S
 subst hv1
 refine lv S (rn_assign (S.tm rfl)) rfl ?_; clear S; intro a S
 refine l_done ?_
 replace S := S.nk [] [(4, .int .i64 r1)] [false, false, false, false] rfl ⟨rfl, trivial⟩
 refine then_n ?_
 refine wp_ret ?_
 obtain rfl := Option.some.inj h
 exact f_ret S Tryd.results34 rfl rfl
set_option maxRecDepth 20000 in
theorem slices_insertionSortCmpFunc_Mark_tumbref2_BestMark_c2_ok (w : World) (v_p_data : Value) (p_data : List GMark) (hb_p_data : (LEnt.own v_p_data 34 4 p_data.length (p_data.flatMap GMark.enc)).holds w) (p_a : Int) (p_b : Int) (r : (List GMark)) (h : slices_insertionSortCmpFunc_Mark_tumbref2_BestMark_c2 p_data p_a p_b = some r) :
    Calls Tryd.prog 57 [v_p_data, .int .i64 p_a, .int .i64 p_b, .func (.func 34) #[] #[]].toArray w (Ret w (v_p_data.ownBlock.toList) fun _ v w' => (LEnt.own v_p_data 34 4 r.length (r.flatMap GMark.enc)).holds w' ∧ v = .tuple #[]) := by
 refine f_enter (v_p_data.ownBlock.toList) [.own v_p_data 34 4 p_data.length (p_data.flatMap GMark.enc)] Tryd.func57 rfl Tryd.ntmps57 rfl (fun e he => by simp only [List.mem_singleton] at he; subst he; exact hb_p_data) (fps_one_nodup _) (fps_one_sub _) fun a S => ?_
 unfold slices_insertionSortCmpFunc_Mark_tumbref2_BestMark_c2 at h
 replace S := S.nk [.own v_p_data 34 4 p_data.length (p_data.flatMap GMark.enc)] [(0, v_p_data), (1, .int .i64 p_a), (2, .int .i64 p_b), (3, .func (.func 34) #[] #[])] [true] rfl ⟨rfl, rfl, rfl, rfl, trivial⟩
 refine f_seq ?_
 refine f_region ?_
 refine lv S (rn_move (S.tm rfl)) rfl ?_; clear S; intro a S
 refine lv S (rn_add (S.tm rfl) rfl) rfl ?_; clear S; intro a S
 refine lv S (rn_assign (S.tm rfl)) rfl ?_; clear S; intro a S
 refine l_done ?_
 replace S := S.nk [.own v_p_data 34 4 p_data.length (p_data.flatMap GMark.enc)] [(0, v_p_data), (1, .int .i64 p_a), (2, .int .i64 p_b), (3, .func (.func 34) #[] #[]), (8, .int .i64 (W (p_a + 1)))] [true] rfl ⟨rfl, rfl, rfl, rfl, rfl, trivial⟩
 refine then_n ?_
 obtain ⟨j1, hj1, h⟩ := joinE h
 refine f_join (fun a w' => ∃ x1 : List GMark, j1 x1 = some r ∧ Sx w (v_p_data.ownBlock.toList) nov [.own v_p_data 34 4 x1.length (x1.flatMap GMark.enc)] [] 53 a w') ?_ ?_
 ·refine wp_block ?_
  refine f_loop (fun (m1 : Nat) a w' => ∃ x1 : List GMark, ∃ x2 : Int, slices_insertionSortCmpFunc_Mark_tumbref2_BestMark_c2_l1 p_b p_a j1 m1 x1 x2 = some r ∧ Sx w (v_p_data.ownBlock.toList) nov [.own v_p_data 34 4 x1.length (x1.flatMap GMark.enc)] [(0, v_p_data), (1, .int .i64 p_a), (2, .int .i64 p_b), (3, .func (.func 34) #[] #[]), (8, .int .i64 x2)] 53 a w') id ((p_b - (W (p_a + 1))).toNat + 2) ⟨p_data, W (p_a + 1), h, S.nf [true] rfl ⟨rfl, rfl, rfl, rfl, rfl, trivial⟩⟩ ?_
  clear S h; rintro m1 a w1 ⟨x1, x2, h, S⟩
  cases m1 with
  | zero => rw [slices_insertionSortCmpFunc_Mark_tumbref2_BestMark_c2_l1.eq_1] at h; cases h
  | succ m1 =>
   rw [slices_insertionSortCmpFunc_Mark_tumbref2_BestMark_c2_l1.eq_2] at h
   refine f_seq ?_
   refine f_seq ?_
   refine f_region ?_
   refine lv S (rn_move (S.tm rfl)) rfl ?_; clear S; intro a S
   refine lv S (rn_move (S.tm rfl)) rfl ?_; clear S; intro a S
   refine lv S (rn_lss (S.tm rfl) (S.tm rfl)) rfl ?_; clear S; intro a S
   refine l_done ?_
   replace S := S.nk [.own v_p_data 34 4 x1.length (x1.flatMap GMark.enc)] [(0, v_p_data), (1, .int .i64 p_a), (2, .int .i64 p_b), (3, .func (.func 34) #[] #[]), (8, .int .i64 x2), (14, .bool (decide (x2 < p_b)))] [true] rfl ⟨rfl, rfl, rfl, rfl, rfl, rfl, trivial⟩
   refine then_n ?_
   refine f_cond (S.tm rfl) (fun hb1 => ?_) (fun hb1 => ?_)
   ·replace h := iteT h hb1
    refine wp_skip ?_
    refine then_n ?_
    refine f_seq ?_
    refine wp_block ?_
    refine f_seq ?_
    refine f_region ?_
    refine lv S (rn_move (S.tm rfl)) rfl ?_; clear S; intro a S
    refine lv S (rn_assign (S.tm rfl)) rfl ?_; clear S; intro a S
    refine l_done ?_
    replace S := S.nk [.own v_p_data 34 4 x1.length (x1.flatMap GMark.enc)] [(0, v_p_data), (1, .int .i64 p_a), (2, .int .i64 p_b), (3, .func (.func 34) #[] #[]), (8, .int .i64 x2), (9, .int .i64 x2)] [true] rfl ⟨rfl, rfl, rfl, rfl, rfl, rfl, trivial⟩
    refine then_n ?_
    obtain ⟨j2, hj2, h⟩ := joinE h
    refine f_join (fun a w' => ∃ x3 : List GMark, j2 x3 = some r ∧ Sx w (v_p_data.ownBlock.toList) nov [.own v_p_data 34 4 x3.length (x3.flatMap GMark.enc)] [(0, v_p_data), (1, .int .i64 p_a), (2, .int .i64 p_b), (3, .func (.func 34) #[] #[]), (8, .int .i64 x2)] 53 a w') ?_ ?_
    ·refine wp_block ?_
     refine f_loop (fun (m2 : Nat) a w' => ∃ x3 : List GMark, ∃ x4 : Int, slices_insertionSortCmpFunc_Mark_tumbref2_BestMark_c2_l2 p_a j2 m2 x3 x4 = some r ∧ Sx w (v_p_data.ownBlock.toList) nov [.own v_p_data 34 4 x3.length (x3.flatMap GMark.enc)] [(0, v_p_data), (1, .int .i64 p_a), (2, .int .i64 p_b), (3, .func (.func 34) #[] #[]), (8, .int .i64 x2), (9, .int .i64 x4)] 53 a w') id ((x2 - p_a).toNat + 2) ⟨x1, x2, h, S.nf [true] rfl ⟨rfl, rfl, rfl, rfl, rfl, rfl, trivial⟩⟩ ?_
     clear S h; rintro m2 a w3 ⟨x3, x4, h, S⟩
     cases m2 with
     | zero => rw [slices_insertionSortCmpFunc_Mark_tumbref2_BestMark_c2_l2.eq_1] at h; cases h
     | succ m2 =>
      rw [slices_insertionSortCmpFunc_Mark_tumbref2_BestMark_c2_l2.eq_2] at h
      refine f_seq ?_
      refine f_seq ?_
      obtain ⟨j3, hj3, h⟩ := joinE h
      refine f_join (fun a w' => ∃ x5 : Bool, j3 x5 = some r ∧ Sx w (v_p_data.ownBlock.toList) nov [.own v_p_data 34 4 x3.length (x3.flatMap GMark.enc)] [(0, v_p_data), (1, .int .i64 p_a), (2, .int .i64 p_b), (3, .func (.func 34) #[] #[]), (8, .int .i64 x2), (9, .int .i64 x4), (34, .bool x5)] 53 a w') ?_ ?_
      ·rcases Bool.eq_false_or_eq_true (decide (p_a < x4)) with hb2 | hb2
       ·replace h := iteT h hb2
        obtain ⟨hc1, h⟩ := chkE h
        obtain ⟨hc2, h⟩ := chkE h
        obtain ⟨r1, hr3, h⟩ := bindE h
        refine d_region [] ([]) Tryd.mixed S rfl (by kernel_rfl) ?_; clear S; intro w7 hk2 hsel S
        refine d_quiet 0 S hsel rfl rfl rfl (by kernel_rfl) (by kernel_rfl) rfl (fun _ hw => (rn_move (S.tm rfl))) ?_; clear S; intro a S
        refine d_quiet 1 S hsel rfl rfl rfl (by kernel_rfl) (by kernel_rfl) rfl (fun _ hw => (rn_move (S.tm rfl))) ?_; clear S; intro a S
        refine d_quiet 2 S hsel rfl rfl rfl (by kernel_rfl) (by kernel_rfl) rfl (fun _ hw => (rn_gtr (S.tm rfl) (S.tm rfl))) ?_; clear S; intro a S
        refine d_quiet 3 S hsel rfl rfl rfl (by kernel_rfl) (by kernel_rfl) rfl (fun _ hw => (rn_move (S.tm rfl))) ?_; clear S; intro a S
        refine d_quiet_g 4 S hsel rfl rfl rfl rfl hb2 rfl rfl (by kernel_rfl) (by kernel_rfl) rfl (fun _ hw => (rn_move (S.tm rfl))) ?_; clear S; intro a S
        refine d_quiet_g 5 S hsel rfl rfl rfl rfl hb2 rfl rfl (by kernel_rfl) (by kernel_rfl) rfl (fun _ hw => (rn_move (S.tm rfl))) ?_; clear S; intro a S
        refine d_quiet_g 6 S hsel rfl rfl rfl rfl hb2 rfl rfl (by kernel_rfl) (by kernel_rfl) rfl (fun _ hw => (rn_move (S.tm rfl))) ?_; clear S; intro a S
        obtain ⟨b3, hg3, hr4⟩ := rn_indexS (a := a) (x := .tmp 23) (y := .tmp 24) (ty := 0) sl_26 GMark.enc_ok S (i := 0) rfl (inB_get hc1).1 (inB_get hc1).2 (S.tm rfl) (S.tm rfl)
        refine d_quiet_g 7 S hsel rfl rfl rfl rfl hb2 rfl rfl (by kernel_rfl) (by kernel_rfl) rfl (fun _ hw => (hr4 _)) ?_; clear S; intro a S
        clear hr4
        refine d_quiet_g 8 S hsel rfl rfl rfl rfl hb2 rfl rfl (by kernel_rfl) (by kernel_rfl) rfl (fun _ hw => (rn_ldA Tryd.isAgg34 Tryd.sizeOf34 (off := x4.toNat * 4) (o := 0) (part := [.string ((nth x3 x4).Who), .string ((nth x3 x4).Race), .int .i64 ((nth x3 x4).Day), .int .i64 ((nth x3 x4).Time)]) rfl rfl (S.tm rfl) ((own_mem GMark.enc_ok S (i := 0) rfl hg3 (inB_get hc1).1 (ne_nil (e' := .own v_p_data 34 4 x3.length (x3.flatMap GMark.enc)))).kept hw))) ?_; clear S; intro a S
        refine d_quiet_g 9 S hsel rfl rfl rfl rfl hb2 rfl rfl (by kernel_rfl) (by kernel_rfl) rfl (fun _ hw => (rn_move (S.tm rfl))) ?_; clear S; intro a S
        refine d_quiet_g 10 S hsel rfl rfl rfl rfl hb2 rfl rfl (by kernel_rfl) (by kernel_rfl) rfl (fun _ hw => (rn_move (S.tm rfl))) ?_; clear S; intro a S
        refine d_quiet_g 11 S hsel rfl rfl rfl rfl hb2 rfl rfl (by kernel_rfl) (by kernel_rfl) rfl (fun _ hw => (rn_sub (S.tm rfl) rfl)) ?_; clear S; intro a S
        obtain ⟨b4, hg4, hr5⟩ := rn_indexS (a := a) (x := .tmp 27) (y := .tmp 29) (ty := 0) sl_26 GMark.enc_ok S (i := 0) rfl (inB_get hc2).1 (inB_get hc2).2 (S.tm rfl) (S.tm rfl)
        refine d_quiet_g 12 S hsel rfl rfl rfl rfl hb2 rfl rfl (by kernel_rfl) (by kernel_rfl) rfl (fun _ hw => (hr5 _)) ?_; clear S; intro a S
        clear hr5
        refine d_quiet_g 13 S hsel rfl rfl rfl rfl hb2 rfl rfl (by kernel_rfl) (by kernel_rfl) rfl (fun _ hw => (rn_ldA Tryd.isAgg34 Tryd.sizeOf34 (off := ((W (x4 - 1)).toNat) * 4) (o := 0) (part := [.string ((nth x3 (W (x4 - 1))).Who), .string ((nth x3 (W (x4 - 1))).Race), .int .i64 ((nth x3 (W (x4 - 1))).Day), .int .i64 ((nth x3 (W (x4 - 1))).Time)]) rfl rfl (S.tm rfl) ((own_mem GMark.enc_ok S (i := 0) rfl hg4 (inB_get hc2).1 (ne_nil (e' := .own v_p_data 34 4 x3.length (x3.flatMap GMark.enc)))).kept hw))) ?_; clear S; intro a S
        refine d_loud1 14 (by kernel_rfl) rfl ?_
        refine l_want S rfl rfl rfl hb2 ?_
        refine l_enter S (fun _ => run_callV (cap := []) (S.tm rfl) (vs := [.agg (GMark.enc (nth x3 x4)).toArray, .agg (GMark.enc (nth x3 (W (x4 - 1)))).toArray]) ⟨(S.tm rfl), (S.tm rfl), trivial⟩ Tryd.call34) (tumbref2_BestMark_c2_ok _ (nth x3 x4) (nth x3 (W (x4 - 1))) _ hr3) rfl ?_; clear S; intro v2 a w8 hv2 hk3 hn2 S
        subst hv2
        refine l_done ?_
        refine d_next hk3 ?_
        refine d_rest [15, 16] hsel (by kernel_rfl) rfl ?_
        clear hsel
        refine s_want S rfl rfl rfl rfl hb2 ?_
        refine s_lv0 S (rn_lss (S.tm rfl) rfl) rfl ?_; clear S; intro a S
        refine s_lv S rfl (rn_pick_b hb2 (S.tm rfl) (S.tm rfl)) rfl ?_; clear S; intro a S
        refine s_done ?_
        replace S := S.nk [.own v_p_data 34 4 x3.length (x3.flatMap GMark.enc)] [(0, v_p_data), (1, .int .i64 p_a), (2, .int .i64 p_b), (3, .func (.func 34) #[] #[]), (8, .int .i64 x2), (9, .int .i64 x4), (22, .func (.func 34) #[] #[]), (23, v_p_data), (24, .int .i64 x4), (25, .pointer (some ⟨b3, x4.toNat * 4, none⟩)), (26, .agg #[.string ((nth x3 x4).Who), .string ((nth x3 x4).Race), .int .i64 ((nth x3 x4).Day), .int .i64 ((nth x3 x4).Time)]), (27, v_p_data), (28, .int .i64 x4), (29, .int .i64 (W (x4 - 1))), (30, .pointer (some ⟨b4, ((W (x4 - 1)).toNat) * 4, none⟩)), (31, .agg #[.string ((nth x3 (W (x4 - 1))).Who), .string ((nth x3 (W (x4 - 1))).Race), .int .i64 ((nth x3 (W (x4 - 1))).Day), .int .i64 ((nth x3 (W (x4 - 1))).Time)]), (32, .int .i64 r1), (33, .bool (decide (r1 < 0))), (34, .bool (decide (r1 < 0)))] [true] rfl ⟨rfl, rfl, rfl, rfl, rfl, rfl, rfl, rfl, rfl, rfl, rfl, rfl, rfl, rfl, rfl, rfl, rfl, rfl, rfl, trivial⟩
        refine then_n ?_
        exact ⟨decide (r1 < 0), h, S.nf [true] rfl ⟨rfl, rfl, rfl, rfl, rfl, rfl, rfl, trivial⟩⟩
       ·replace h := iteF h hb2
        refine d_region [] ([]) Tryd.mixed S rfl (by kernel_rfl) ?_; clear S; intro w9 hk4 hsel S
        refine d_rest [0, 1, 2, 3, 4, 5, 6, 7, 8, 9, 10, 11, 12, 13, 14, 15, 16] hsel (by kernel_rfl) rfl ?_
        clear hsel
        refine s_lv S rfl (rn_move (S.tm rfl)) rfl ?_; clear S; intro a S
        refine s_lv S rfl (rn_move (S.tm rfl)) rfl ?_; clear S; intro a S
        refine s_lv S rfl (rn_gtr (S.tm rfl) (S.tm rfl)) rfl ?_; clear S; intro a S
        refine s_lv S rfl (rn_move (S.tm rfl)) rfl ?_; clear S; intro a S
        refine s_skip S rfl rfl rfl rfl (neq_f hb2) rfl ?_ rfl; clear S; intro a S
        refine s_skip S rfl rfl rfl rfl (neq_f hb2) rfl ?_ rfl; clear S; intro a S
        refine s_skip S rfl rfl rfl rfl (neq_f hb2) rfl ?_ rfl; clear S; intro a S
        refine s_skip S rfl rfl rfl rfl (neq_f hb2) rfl ?_ rfl; clear S; intro a S
        refine s_skip S rfl rfl rfl rfl (neq_f hb2) rfl ?_ rfl; clear S; intro a S
        refine s_skip S rfl rfl rfl rfl (neq_f hb2) rfl ?_ rfl; clear S; intro a S
        refine s_skip S rfl rfl rfl rfl (neq_f hb2) rfl ?_ rfl; clear S; intro a S
        refine s_skip S rfl rfl rfl rfl (neq_f hb2) rfl ?_ rfl; clear S; intro a S
        refine s_skip S rfl rfl rfl rfl (neq_f hb2) rfl ?_ rfl; clear S; intro a S
        refine s_skip S rfl rfl rfl rfl (neq_f hb2) rfl ?_ rfl; clear S; intro a S
        refine s_skip S rfl rfl rfl rfl (neq_f hb2) rfl ?_ rfl; clear S; intro a S
        refine s_skip S rfl rfl rfl rfl (neq_f hb2) rfl ?_ rfl; clear S; intro a S
        refine s_lv S rfl (rn_pick_c hb2 (S.tm rfl) rfl) rfl ?_; clear S; intro a S
        refine s_done ?_
        replace S := S.nk [.own v_p_data 34 4 x3.length (x3.flatMap GMark.enc)] [(0, v_p_data), (1, .int .i64 p_a), (2, .int .i64 p_b), (3, .func (.func 34) #[] #[]), (8, .int .i64 x2), (9, .int .i64 x4), (34, .bool false)] [true] rfl ⟨rfl, rfl, rfl, rfl, rfl, rfl, rfl, trivial⟩
        refine then_n ?_
        exact ⟨false, h, S.nf [true] rfl ⟨rfl, rfl, rfl, rfl, rfl, rfl, rfl, trivial⟩⟩
      clear S h; rintro a w5 ⟨x5, h, S⟩; rw [hj3] at h; clear hj3 j3
      refine then_n ?_
      refine f_cond (S.tm rfl) (fun hb3 => ?_) (fun hb3 => ?_)
      ·replace h := iteT h hb3
       refine wp_skip ?_
       refine then_n ?_
       refine f_seq ?_
       refine wp_block ?_
       obtain ⟨hc3, h⟩ := chkE h
       obtain ⟨hc4, h⟩ := chkE h
       obtain ⟨hc5, h⟩ := chkE h
       obtain ⟨hc6, h⟩ := chkE h
       refine d_region [15, 17] ([]) Tryd.mixed S rfl (by kernel_rfl) ?_; clear S; intro w14 hk9 hsel S
       refine d_pure 0 S hsel rfl rfl (by kernel_rfl) (by kernel_rfl) rfl (fun _ => (rn_move (S.tm rfl))) ?_; clear S; intro a S
       refine d_pure 1 S hsel rfl rfl (by kernel_rfl) (by kernel_rfl) rfl (fun _ => (rn_move (S.tm rfl))) ?_; clear S; intro a S
       refine d_pure 2 S hsel rfl rfl (by kernel_rfl) (by kernel_rfl) rfl (fun _ => (rn_move (S.tm rfl))) ?_; clear S; intro a S
       refine d_pure 3 S hsel rfl rfl (by kernel_rfl) (by kernel_rfl) rfl (fun _ => (rn_move (S.tm rfl))) ?_; clear S; intro a S
       refine d_pure 4 S hsel rfl rfl (by kernel_rfl) (by kernel_rfl) rfl (fun _ => (rn_sub (S.tm rfl) rfl)) ?_; clear S; intro a S
       refine d_pure 5 S hsel rfl rfl (by kernel_rfl) (by kernel_rfl) rfl (fun _ => (rn_move (S.tm rfl))) ?_; clear S; intro a S
       refine d_pure 6 S hsel rfl rfl (by kernel_rfl) (by kernel_rfl) rfl (fun _ => (rn_move (S.tm rfl))) ?_; clear S; intro a S
       refine d_pure 7 S hsel rfl rfl (by kernel_rfl) (by kernel_rfl) rfl (fun _ => (rn_sub (S.tm rfl) rfl)) ?_; clear S; intro a S
       obtain ⟨b9, hg9, hr10⟩ := rn_indexS (a := a) (x := .tmp 42) (y := .tmp 44) (ty := 0) sl_26 GMark.enc_ok S (i := 0) rfl (inB_get hc3).1 (inB_get hc3).2 (S.tm rfl) (S.tm rfl)
       refine d_pure 8 S hsel rfl rfl (by kernel_rfl) (by kernel_rfl) rfl (fun _ => (hr10 _)) ?_; clear S; intro a S
       clear hr10
       refine d_quiet 9 S hsel rfl (by kernel_rfl) (by kernel_rfl) (by kernel_rfl) (by kernel_rfl) rfl (fun _ hw => (rn_ldA Tryd.isAgg34 Tryd.sizeOf34 (off := ((W (x4 - 1)).toNat) * 4) (o := 0) (part := [.string ((nth x3 (W (x4 - 1))).Who), .string ((nth x3 (W (x4 - 1))).Race), .int .i64 ((nth x3 (W (x4 - 1))).Day), .int .i64 ((nth x3 (W (x4 - 1))).Time)]) rfl rfl (S.tm rfl) ((own_mem GMark.enc_ok S (i := 0) rfl hg9 (inB_get hc3).1 (ne_nil (e' := .own v_p_data 34 4 x3.length (x3.flatMap GMark.enc)))).kept hw))) ?_; clear S; intro a S
       refine d_pure 10 S hsel rfl rfl (by kernel_rfl) (by kernel_rfl) rfl (fun _ => (rn_move (S.tm rfl))) ?_; clear S; intro a S
       refine d_pure 11 S hsel rfl rfl (by kernel_rfl) (by kernel_rfl) rfl (fun _ => (rn_move (S.tm rfl))) ?_; clear S; intro a S
       obtain ⟨b10, hg10, hr11⟩ := rn_indexS (a := a) (x := .tmp 47) (y := .tmp 48) (ty := 0) sl_26 GMark.enc_ok S (i := 0) rfl (inB_get hc4).1 (inB_get hc4).2 (S.tm rfl) (S.tm rfl)
       refine d_pure 12 S hsel rfl rfl (by kernel_rfl) (by kernel_rfl) rfl (fun _ => (hr11 _)) ?_; clear S; intro a S
       clear hr11
       refine d_quiet 13 S hsel rfl (by kernel_rfl) (by kernel_rfl) (by kernel_rfl) (by kernel_rfl) rfl (fun _ hw => (rn_ldA Tryd.isAgg34 Tryd.sizeOf34 (off := x4.toNat * 4) (o := 0) (part := [.string ((nth x3 x4).Who), .string ((nth x3 x4).Race), .int .i64 ((nth x3 x4).Day), .int .i64 ((nth x3 x4).Time)]) rfl rfl (S.tm rfl) ((own_mem GMark.enc_ok S (i := 0) rfl hg10 (inB_get hc4).1 (ne_nil (e' := .own v_p_data 34 4 x3.length (x3.flatMap GMark.enc)))).kept hw))) ?_; clear S; intro a S
       obtain ⟨b11, hg11, hr12⟩ := rn_indexS (a := a) (x := .tmp 37) (y := .tmp 38) (ty := 0) sl_26 GMark.enc_ok S (i := 0) rfl (inB_get hc5).1 (inB_get hc5).2 (S.tm rfl) (S.tm rfl)
       refine d_pure 14 S hsel rfl rfl (by kernel_rfl) (by kernel_rfl) rfl (fun _ => (hr12 _)) ?_; clear S; intro a S
       clear hr12
       refine d_loudB 15 (v_p_data.ownBlock.toList) rfl (by kernel_rfl) rfl ?_
       refine l_storeO (c := 0) (j := x4.toNat) (nth x3 (W (x4 - 1))) GMark.enc_ok S (S.tm rfl) (S.tm rfl) (i := 0) rfl hg11 (inB_get hc5).1 Tryd.sizeOf34 (vs := [.string ((nth x3 (W (x4 - 1))).Who), .string ((nth x3 (W (x4 - 1))).Race), .int .i64 ((nth x3 (W (x4 - 1))).Day), .int .i64 ((nth x3 (W (x4 - 1))).Time)]) rfl rfl rfl rfl rfl ?_; clear S; intro w16 hk11 S
       refine l_done ?_
       refine d_nextB ?_
       obtain ⟨b12, hg12, hr13⟩ := rn_indexS (a := a) (x := .tmp 39) (y := .tmp 41) (ty := 0) sl_26 GMark.enc_ok S (i := 0) rfl (inB_get hc6).1 (inB_get hc6).2 (S.tm rfl) (S.tm rfl)
       refine d_quiet 16 S hsel rfl rfl rfl (by kernel_rfl) (by kernel_rfl) rfl (fun _ hw => (hr13 _)) ?_; clear S; intro a S
       clear hr13
       refine d_loud1 17 (by kernel_rfl) rfl ?_
       refine l_storeO (c := 0) (j := (W (x4 - 1)).toNat) (nth x3 x4) GMark.enc_ok S (S.tm rfl) (S.tm rfl) (i := 0) rfl hg12 (inB_get hc6).1 Tryd.sizeOf34 (vs := [.string ((nth x3 x4).Who), .string ((nth x3 x4).Race), .int .i64 ((nth x3 x4).Day), .int .i64 ((nth x3 x4).Time)]) rfl rfl rfl rfl rfl ?_; clear S; intro w18 hk13 S
       refine l_done ?_
       refine d_next hk13 ?_
       refine d_end (by kernel_rfl) ?_
       clear hsel
       replace S := S.nk [.own v_p_data 34 4 ((x3.set x4.toNat (nth x3 (W (x4 - 1)))).set ((W (x4 - 1)).toNat) (nth x3 x4)).length (((x3.set x4.toNat (nth x3 (W (x4 - 1)))).set ((W (x4 - 1)).toNat) (nth x3 x4)).flatMap GMark.enc)] [(0, v_p_data), (1, .int .i64 p_a), (2, .int .i64 p_b), (3, .func (.func 34) #[] #[]), (8, .int .i64 x2), (9, .int .i64 x4)] [true] rfl ⟨rfl, rfl, rfl, rfl, rfl, rfl, trivial⟩
       refine blk_n ?_
       refine then_n ?_
       refine f_region ?_
       refine lv S (rn_move (S.tm rfl)) rfl ?_; clear S; intro a S
       refine lv S (rn_sub (S.tm rfl) rfl) rfl ?_; clear S; intro a S
       refine lv S (rn_assign (S.tm rfl)) rfl ?_; clear S; intro a S
       refine l_done ?_
       replace S := S.nk [.own v_p_data 34 4 ((x3.set x4.toNat (nth x3 (W (x4 - 1)))).set ((W (x4 - 1)).toNat) (nth x3 x4)).length (((x3.set x4.toNat (nth x3 (W (x4 - 1)))).set ((W (x4 - 1)).toNat) (nth x3 x4)).flatMap GMark.enc)] [(0, v_p_data), (1, .int .i64 p_a), (2, .int .i64 p_b), (3, .func (.func 34) #[] #[]), (8, .int .i64 x2), (9, .int .i64 (W (x4 - 1)))] [true] rfl ⟨rfl, rfl, rfl, rfl, rfl, rfl, trivial⟩
       refine then_n ?_
       exact ⟨m2, ⟨((x3.set x4.toNat (nth x3 (W (x4 - 1)))).set ((W (x4 - 1)).toNat) (nth x3 x4)), W (x4 - 1), h, S.nf [true] rfl ⟨rfl, rfl, rfl, rfl, rfl, rfl, trivial⟩⟩, Nat.lt_succ_self _⟩
      ·replace h := iteF h hb3
       refine wp_exit ?_
       refine then_x ?_
       refine then_x ?_
       refine x_same ?_
       refine then_n ?_
       exact ⟨x3, h, S.nf [true] rfl ⟨rfl, rfl, rfl, rfl, rfl, trivial⟩⟩
    clear S h; rintro a w4 ⟨x3, h, S⟩; rw [hj2] at h; clear hj2 j2
    refine blk_n ?_
    refine then_n ?_
    refine f_region ?_
    refine lv S (rn_move (S.tm rfl)) rfl ?_; clear S; intro a S
    refine lv S (rn_add (S.tm rfl) rfl) rfl ?_; clear S; intro a S
    refine lv S (rn_assign (S.tm rfl)) rfl ?_; clear S; intro a S
    refine l_done ?_
    replace S := S.nk [.own v_p_data 34 4 x3.length (x3.flatMap GMark.enc)] [(0, v_p_data), (1, .int .i64 p_a), (2, .int .i64 p_b), (3, .func (.func 34) #[] #[]), (8, .int .i64 (W (x2 + 1)))] [true] rfl ⟨rfl, rfl, rfl, rfl, rfl, trivial⟩
    refine then_n ?_
    exact ⟨m1, ⟨x3, W (x2 + 1), h, S.nf [true] rfl ⟨rfl, rfl, rfl, rfl, rfl, trivial⟩⟩, Nat.lt_succ_self _⟩
   ·replace h := iteF h hb1
    refine wp_exit ?_
    refine then_x ?_
    refine then_x ?_
    refine x_same ?_
    refine then_n ?_
    exact ⟨x1, h, S.nf [true] rfl trivial⟩
 clear S h; rintro a w2 ⟨x1, h, S⟩; rw [hj1] at h; clear hj1 j1
 obtain rfl := Option.some.inj h
 exact f_ret0 S Tryd.results57 ⟨(S.holds _ (List.mem_of_getElem? (i := 0) rfl)), rfl⟩
theorem slices_stableCmpFunc_Mark_tumbref2_BestMark_c2_ok (w : World) (v_p_data : Value) (p_data : List GMark) (hb_p_data : (LEnt.own v_p_data 34 4 p_data.length (p_data.flatMap GMark.enc)).holds w) (p_n : Int) (r : (List GMark)) (h : slices_stableCmpFunc_Mark_tumbref2_BestMark_c2 p_data p_n = some r) :
    Calls Tryd.prog 45 [v_p_data, .int .i64 p_n, .func (.func 34) #[] #[]].toArray w (Ret w (v_p_data.ownBlock.toList) fun _ v w' => (LEnt.own v_p_data 34 4 r.length (r.flatMap GMark.enc)).holds w' ∧ v = .tuple #[]) := by
 refine f_enter (v_p_data.ownBlock.toList) [.own v_p_data 34 4 p_data.length (p_data.flatMap GMark.enc)] Tryd.func45 rfl Tryd.ntmps45 rfl (fun e he => by simp only [List.mem_singleton] at he; subst he; exact hb_p_data) (fps_one_nodup _) (fps_one_sub _) fun a S => ?_
 unfold slices_stableCmpFunc_Mark_tumbref2_BestMark_c2 at h
 replace S := S.nk [.own v_p_data 34 4 p_data.length (p_data.flatMap GMark.enc)] [(0, v_p_data), (1, .int .i64 p_n), (2, .func (.func 34) #[] #[])] [true] rfl ⟨rfl, rfl, rfl, trivial⟩
 refine f_seq ?_
 refine f_region ?_
 refine lv S (rn_assign rfl) rfl ?_; clear S; intro a S
 refine l_done ?_
 replace S := S.nk [.own v_p_data 34 4 p_data.length (p_data.flatMap GMark.enc)] [(0, v_p_data), (1, .int .i64 p_n), (2, .func (.func 34) #[] #[]), (6, .int .i64 20)] [true] rfl ⟨rfl, rfl, rfl, rfl, trivial⟩
 refine then_n ?_
 refine f_seq ?_
 refine f_region ?_
 refine lv S (rn_move (S.tm rfl)) rfl ?_; clear S; intro a S
 refine lv S (rn_assign rfl) rfl ?_; clear S; intro a S
 refine lv S (rn_assign (S.tm rfl)) rfl ?_; clear S; intro a S
 refine l_done ?_
 replace S := S.nk [.own v_p_data 34 4 p_data.length (p_data.flatMap GMark.enc)] [(0, v_p_data), (1, .int .i64 p_n), (2, .func (.func 34) #[] #[]), (6, .int .i64 20), (7, .int .i64 0), (8, .int .i64 20)] [true] rfl ⟨rfl, rfl, rfl, rfl, rfl, rfl, trivial⟩
 refine then_n ?_
 refine f_seq ?_
 obtain ⟨j1, hj1, h⟩ := joinE h
 refine f_join (fun a w' => ∃ x1 : List GMark, ∃ x2 : Int, j1 x1 x2 = some r ∧ Sx w (v_p_data.ownBlock.toList) nov [.own v_p_data 34 4 x1.length (x1.flatMap GMark.enc)] [(0, v_p_data), (1, .int .i64 p_n), (2, .func (.func 34) #[] #[]), (6, .int .i64 20), (7, .int .i64 x2)] 63 a w') ?_ ?_
 ·refine wp_block ?_
  refine f_loop (fun (m1 : Nat) a w' => ∃ x1 : List GMark, ∃ x2 : Int, ∃ x3 : Int, slices_stableCmpFunc_Mark_tumbref2_BestMark_c2_l1 p_n j1 m1 x1 x2 x3 = some r ∧ Sx w (v_p_data.ownBlock.toList) nov [.own v_p_data 34 4 x1.length (x1.flatMap GMark.enc)] [(0, v_p_data), (1, .int .i64 p_n), (2, .func (.func 34) #[] #[]), (6, .int .i64 20), (7, .int .i64 x2), (8, .int .i64 x3)] 63 a w') id ((p_n - 20).toNat + 2) ⟨p_data, 0, 20, h, S.nf [true] rfl ⟨rfl, rfl, rfl, rfl, rfl, rfl, trivial⟩⟩ ?_
  clear S h; rintro m1 a w1 ⟨x1, x2, x3, h, S⟩
  cases m1 with
  | zero => rw [slices_stableCmpFunc_Mark_tumbref2_BestMark_c2_l1.eq_1] at h; cases h
  | succ m1 =>
   rw [slices_stableCmpFunc_Mark_tumbref2_BestMark_c2_l1.eq_2] at h
   refine f_seq ?_
   refine f_seq ?_
   refine f_region ?_
   refine lv S (rn_move (S.tm rfl)) rfl ?_; clear S; intro a S
   refine lv S (rn_move (S.tm rfl)) rfl ?_; clear S; intro a S
   refine lv S (rn_leq (S.tm rfl) (S.tm rfl)) rfl ?_; clear S; intro a S
   refine l_done ?_
   replace S := S.nk [.own v_p_data 34 4 x1.length (x1.flatMap GMark.enc)] [(0, v_p_data), (1, .int .i64 p_n), (2, .func (.func 34) #[] #[]), (6, .int .i64 20), (7, .int .i64 x2), (8, .int .i64 x3), (13, .bool (decide (x3 ≤ p_n)))] [true] rfl ⟨rfl, rfl, rfl, rfl, rfl, rfl, rfl, trivial⟩
   refine then_n ?_
   refine f_cond (S.tm rfl) (fun hb1 => ?_) (fun hb1 => ?_)
   ·replace h := iteT h hb1
    refine wp_skip ?_
    refine then_n ?_
    refine wp_block ?_
    refine f_seq ?_
    refine f_region ?_
    refine lv S (rn_move (S.tm rfl)) rfl ?_; clear S; intro a S
    refine lv S (rn_move (S.tm rfl)) rfl ?_; clear S; intro a S
    refine lv S (rn_move (S.tm rfl)) rfl ?_; clear S; intro a S
    refine lv S (rn_move (S.tm rfl)) rfl ?_; clear S; intro a S
    obtain ⟨r1, hr1, h⟩ := bindE h
    refine l_enterO 0 S rfl (fun _ => .own v_p_data 34 4 r1.length (r1.flatMap GMark.enc)) (fun _ => run_call (vs := [v_p_data, .int .i64 x2, .int .i64 x3, .func (.func 34) #[] #[]]) ⟨(S.tm rfl), (S.tm rfl), (S.tm rfl), (S.tm rfl), trivial⟩ Tryd.call57) (slices_insertionSortCmpFunc_Mark_tumbref2_BestMark_c2_ok _ v_p_data x1 (S.holds _ (List.mem_of_getElem? (i := 0) rfl)) x2 x3 _ hr1) rfl (fun _ _ _ h => ⟨h.1, fun _ hc => hc⟩) ?_; clear S; intro v1 a w3 hv1 hk1 hn1 S
    replace hv1 := hv1.2
    subst hv1
    refine l_done ?_
    replace S := S.nk [.own v_p_data 34 4 r1.length (r1.flatMap GMark.enc)] [(0, v_p_data), (1, .int .i64 p_n), (2, .func (.func 34) #[] #[]), (6, .int .i64 20), (8, .int .i64 x3)] [true] rfl ⟨rfl, rfl, rfl, rfl, rfl, trivial⟩
    refine then_n ?_
    refine f_seq ?_
    refine f_region ?_
    refine lv S (rn_move (S.tm rfl)) rfl ?_; clear S; intro a S
    refine lv S (rn_assign (S.tm rfl)) rfl ?_; clear S; intro a S
    refine l_done ?_
    replace S := S.nk [.own v_p_data 34 4 r1.length (r1.flatMap GMark.enc)] [(0, v_p_data), (1, .int .i64 p_n), (2, .func (.func 34) #[] #[]), (6, .int .i64 20), (7, .int .i64 x3), (8, .int .i64 x3)] [true] rfl ⟨rfl, rfl, rfl, rfl, rfl, rfl, trivial⟩
    refine then_n ?_
    refine f_region ?_
    refine lv S (rn_move (S.tm rfl)) rfl ?_; clear S; intro a S
    refine lv S (rn_move (S.tm rfl)) rfl ?_; clear S; intro a S
    refine lv S (rn_add (S.tm rfl) (S.tm rfl)) rfl ?_; clear S; intro a S
    refine lv S (rn_assign (S.tm rfl)) rfl ?_; clear S; intro a S
    refine l_done ?_
    replace S := S.nk [.own v_p_data 34 4 r1.length (r1.flatMap GMark.enc)] [(0, v_p_data), (1, .int .i64 p_n), (2, .func (.func 34) #[] #[]), (6, .int .i64 20), (7, .int .i64 x3), (8, .int .i64 (W (x3 + 20)))] [true] rfl ⟨rfl, rfl, rfl, rfl, rfl, rfl, trivial⟩
    refine blk_n ?_
    refine then_n ?_
    exact ⟨m1, ⟨r1, x3, W (x3 + 20), h, S.nf [true] rfl ⟨rfl, rfl, rfl, rfl, rfl, rfl, trivial⟩⟩, Nat.lt_succ_self _⟩
   ·replace h := iteF h hb1
    refine wp_exit ?_
    refine then_x ?_
    refine then_x ?_
    refine x_same ?_
    refine then_n ?_
    exact ⟨x1, x2, h, S.nf [true] rfl ⟨rfl, rfl, rfl, rfl, rfl, trivial⟩⟩
 clear S h; rintro a w2 ⟨x1, x2, h, S⟩; rw [hj1] at h; clear hj1 j1
 refine then_n ?_
 refine f_seq ?_
 refine f_region ?_
 refine lv S (rn_move (S.tm rfl)) rfl ?_; clear S; intro a S
 refine lv S (rn_move (S.tm rfl)) rfl ?_; clear S; intro a S
 refine lv S (rn_move (S.tm rfl)) rfl ?_; clear S; intro a S
 refine lv S (rn_move (S.tm rfl)) rfl ?_; clear S; intro a S
 obtain ⟨r2, hr2, h⟩ := bindE h
 refine l_enterO 0 S rfl (fun _ => .own v_p_data 34 4 r2.length (r2.flatMap GMark.enc)) (fun _ => run_call (vs := [v_p_data, .int .i64 x2, .int .i64 p_n, .func (.func 34) #[] #[]]) ⟨(S.tm rfl), (S.tm rfl), (S.tm rfl), (S.tm rfl), trivial⟩ Tryd.call57) (slices_insertionSortCmpFunc_Mark_tumbref2_BestMark_c2_ok _ v_p_data x1 (S.holds _ (List.mem_of_getElem? (i := 0) rfl)) x2 p_n _ hr2) rfl (fun _ _ _ h => ⟨h.1, fun _ hc => hc⟩) ?_; clear S; intro v2 a w4 hv2 hk2 hn2 S
 replace hv2 := hv2.2
 subst hv2
 refine l_done ?_
 replace S := S.nk [.own v_p_data 34 4 r2.length (r2.flatMap GMark.enc)] [(1, .int .i64 p_n), (6, .int .i64 20)] [true] rfl ⟨rfl, rfl, trivial⟩
 refine then_n ?_
 obtain ⟨j2, hj2, h⟩ := joinE h
 refine f_join (fun a w' => j2 = some r ∧ Sx w (v_p_data.ownBlock.toList) nov [.own v_p_data 34 4 r2.length (r2.flatMap GMark.enc)] [] 63 a w') ?_ ?_
 ·refine wp_block ?_
  refine f_loop (fun (m2 : Nat) a w' => ∃ x4 : Int, slices_stableCmpFunc_Mark_tumbref2_BestMark_c2_l2 p_n j2 m2 x4 = some r ∧ Sx w (v_p_data.ownBlock.toList) nov [.own v_p_data 34 4 r2.length (r2.flatMap GMark.enc)] [(1, .int .i64 p_n), (6, .int .i64 x4)] 63 a w') id ((p_n - 20).toNat + 2) ⟨20, h, S.nf [true] rfl ⟨rfl, rfl, trivial⟩⟩ ?_
  clear S h; rintro m2 a w5 ⟨x4, h, S⟩
  cases m2 with
  | zero => rw [slices_stableCmpFunc_Mark_tumbref2_BestMark_c2_l2.eq_1] at h; cases h
  | succ m2 =>
   rw [slices_stableCmpFunc_Mark_tumbref2_BestMark_c2_l2.eq_2] at h
   refine f_seq ?_
   refine f_seq ?_
   refine f_region ?_
   refine lv S (rn_move (S.tm rfl)) rfl ?_; clear S; intro a S
   refine lv S (rn_move (S.tm rfl)) rfl ?_; clear S; intro a S
   refine lv S (rn_lss (S.tm rfl) (S.tm rfl)) rfl ?_; clear S; intro a S
   refine l_done ?_
   replace S := S.nk [.own v_p_data 34 4 r2.length (r2.flatMap GMark.enc)] [(1, .int .i64 p_n), (6, .int .i64 x4), (30, .bool (decide (x4 < p_n)))] [true] rfl ⟨rfl, rfl, rfl, trivial⟩
   refine then_n ?_
   refine f_cond (S.tm rfl) (fun hb2 => ?_) (fun hb2 => ?_)
   ·replace h := iteT h hb2
    refine wp_skip ?_
    refine then_n ?_
    refine wp_block ?_
    refine f_seq ?_
    refine f_region ?_
    refine lv S (rn_move (S.tm rfl)) rfl ?_; clear S; intro a S
    refine lv S (rn_mul rfl (S.tm rfl)) rfl ?_; clear S; intro a S
    refine lv S (rn_assign rfl) rfl ?_; clear S; intro a S
    refine lv S (rn_assign (S.tm rfl)) rfl ?_; clear S; intro a S
    refine l_done ?_
    replace S := S.nk [.own v_p_data 34 4 r2.length (r2.flatMap GMark.enc)] [(1, .int .i64 p_n), (6, .int .i64 x4), (7, .int .i64 0), (8, .int .i64 (W (2 * x4)))] [true] rfl ⟨rfl, rfl, rfl, rfl, trivial⟩
    refine then_n ?_
    refine f_seq ?_
    obtain ⟨j3, hj3, h⟩ := joinE h
    refine f_join (fun a w' => ∃ x5 : Int, j3 x5 = some r ∧ Sx w (v_p_data.ownBlock.toList) nov [.own v_p_data 34 4 r2.length (r2.flatMap GMark.enc)] [(1, .int .i64 p_n), (6, .int .i64 x4), (7, .int .i64 x5)] 63 a w') ?_ ?_
    ·refine wp_block ?_
     refine f_loop (fun (m3 : Nat) a w' => ∃ x5 : Int, ∃ x6 : Int, slices_stableCmpFunc_Mark_tumbref2_BestMark_c2_l3 p_n j3 m3 x5 x6 = some r ∧ Sx w (v_p_data.ownBlock.toList) nov [.own v_p_data 34 4 r2.length (r2.flatMap GMark.enc)] [(1, .int .i64 p_n), (6, .int .i64 x4), (7, .int .i64 x5), (8, .int .i64 x6)] 63 a w') id ((p_n - (W (2 * x4))).toNat + 2) ⟨0, W (2 * x4), h, S.nf [true] rfl ⟨rfl, rfl, rfl, rfl, trivial⟩⟩ ?_
     clear S h; rintro m3 a w7 ⟨x5, x6, h, S⟩
     cases m3 with
     | zero => rw [slices_stableCmpFunc_Mark_tumbref2_BestMark_c2_l3.eq_1] at h; cases h
     | succ m3 =>
      rw [slices_stableCmpFunc_Mark_tumbref2_BestMark_c2_l3.eq_2] at h
      refine f_seq ?_
      refine f_seq ?_
      refine f_region ?_
      refine lv S (rn_move (S.tm rfl)) rfl ?_; clear S; intro a S
      refine lv S (rn_move (S.tm rfl)) rfl ?_; clear S; intro a S
      refine lv S (rn_leq (S.tm rfl) (S.tm rfl)) rfl ?_; clear S; intro a S
      refine l_done ?_
      replace S := S.nk [.own v_p_data 34 4 r2.length (r2.flatMap GMark.enc)] [(1, .int .i64 p_n), (6, .int .i64 x4), (7, .int .i64 x5), (35, .bool (decide (x6 ≤ p_n)))] [true] rfl ⟨rfl, rfl, rfl, rfl, trivial⟩
      refine then_n ?_
      refine f_cond (S.tm rfl) (fun hb3 => ?_) (fun hb3 => ?_)
      ·replace h := iteT h hb3
       refine wp_skip ?_
       refine then_n ?_
       refine wp_block ?_
       refine f_seq ?_
       cases h
      ·replace h := iteF h hb3
       refine wp_exit ?_
       refine then_x ?_
       refine then_x ?_
       refine x_same ?_
       refine then_n ?_
       exact ⟨x5, h, S.nf [true] rfl ⟨rfl, rfl, rfl, trivial⟩⟩
    clear S h; rintro a w8 ⟨x5, h, S⟩; rw [hj3] at h; clear hj3 j3
    refine then_n ?_
    refine f_seq ?_
    refine f_seq ?_
    refine f_region ?_
    refine lv S (rn_move (S.tm rfl)) rfl ?_; clear S; intro a S
    refine lv S (rn_move (S.tm rfl)) rfl ?_; clear S; intro a S
    refine lv S (rn_add (S.tm rfl) (S.tm rfl)) rfl ?_; clear S; intro a S
    refine lv S (rn_assign (S.tm rfl)) rfl ?_; clear S; intro a S
    refine l_done ?_
    replace S := S.nk [.own v_p_data 34 4 r2.length (r2.flatMap GMark.enc)] [(1, .int .i64 p_n), (6, .int .i64 x4), (9, .int .i64 (W (x5 + x4)))] [true] rfl ⟨rfl, rfl, rfl, trivial⟩
    refine then_n ?_
    refine f_seq ?_
    refine f_region ?_
    refine lv S (rn_move (S.tm rfl)) rfl ?_; clear S; intro a S
    refine lv S (rn_move (S.tm rfl)) rfl ?_; clear S; intro a S
    refine lv S (rn_lss (S.tm rfl) (S.tm rfl)) rfl ?_; clear S; intro a S
    refine l_done ?_
    replace S := S.nk [.own v_p_data 34 4 r2.length (r2.flatMap GMark.enc)] [(1, .int .i64 p_n), (6, .int .i64 x4), (54, .bool (decide ((W (x5 + x4)) < p_n)))] [true] rfl ⟨rfl, rfl, rfl, trivial⟩
    refine then_n ?_
    refine f_cond (S.tm rfl) (fun hb4 => ?_) (fun hb4 => ?_)
    ·replace h := iteT h hb4
     cases h
    ·replace h := iteF h hb4
     refine wp_skip ?_
     refine then_n ?_
     refine f_region ?_
     refine lv S (rn_move (S.tm rfl)) rfl ?_; clear S; intro a S
     refine lv S (rn_mul (S.tm rfl) rfl) rfl ?_; clear S; intro a S
     refine lv S (rn_assign (S.tm rfl)) rfl ?_; clear S; intro a S
     refine l_done ?_
     replace S := S.nk [.own v_p_data 34 4 r2.length (r2.flatMap GMark.enc)] [(1, .int .i64 p_n), (6, .int .i64 (W (x4 * 2)))] [true] rfl ⟨rfl, rfl, trivial⟩
     refine blk_n ?_
     refine then_n ?_
     exact ⟨m2, ⟨W (x4 * 2), h, S.nf [true] rfl ⟨rfl, rfl, trivial⟩⟩, Nat.lt_succ_self _⟩
   ·replace h := iteF h hb2
    refine wp_exit ?_
    refine then_x ?_
    refine then_x ?_
    refine x_same ?_
    refine then_n ?_
    exact ⟨h, S.nf [true] rfl trivial⟩
 clear S h; rintro a w6 ⟨h, S⟩; rw [hj2] at h; clear hj2 j2
 obtain rfl := Option.some.inj h
 exact f_ret0 S Tryd.results45 ⟨(S.holds _ (List.mem_of_getElem? (i := 0) rfl)), rfl⟩
theorem slices_SortStableFunc_Mark_tumbref2_BestMark_c2_ok (w : World) (v_p_x : Value) (p_x : List GMark) (hb_p_x : (LEnt.own v_p_x 34 4 p_x.length (p_x.flatMap GMark.enc)).holds w) (r : (List GMark)) (h : slices_SortStableFunc_Mark_tumbref2_BestMark_c2 p_x = some r) :
    Calls Tryd.prog 33 [v_p_x, .func (.func 34) #[] #[]].toArray w (Ret w (v_p_x.ownBlock.toList) fun _ v w' => (LEnt.own v_p_x 34 4 r.length (r.flatMap GMark.enc)).holds w' ∧ v = .tuple #[]) := by
 refine f_enter (v_p_x.ownBlock.toList) [.own v_p_x 34 4 p_x.length (p_x.flatMap GMark.enc)] Tryd.func33 rfl Tryd.ntmps33 rfl (fun e he => by simp only [List.mem_singleton] at he; subst he; exact hb_p_x) (fps_one_nodup _) (fps_one_sub _) fun a S => ?_
 unfold slices_SortStableFunc_Mark_tumbref2_BestMark_c2 at h
 replace S := S.nk [.own v_p_x 34 4 p_x.length (p_x.flatMap GMark.enc)] [(0, v_p_x), (1, .func (.func 34) #[] #[])] [true] rfl ⟨rfl, rfl, trivial⟩
 refine f_region ?_
 refine lv S (rn_move (S.tm rfl)) rfl ?_; clear S; intro a S
 refine lv S (rn_move (S.tm rfl)) rfl ?_; clear S; intro a S
 refine lv S (rn_lenT sl_26 (S.tm rfl) (own_len (S.own_at (i := 0) rfl))) rfl ?_; clear S; intro a S
 refine lv S (rn_move (S.tm rfl)) rfl ?_; clear S; intro a S
 obtain ⟨r1, hr1, h⟩ := bindE h
 refine l_enterO 0 S rfl (fun _ => .own v_p_x 34 4 r1.length (r1.flatMap GMark.enc)) (fun _ => run_call (vs := [v_p_x, .int .i64 (p_x.length : Int), .func (.func 34) #[] #[]]) ⟨(S.tm rfl), (S.tm rfl), (S.tm rfl), trivial⟩ Tryd.call45) (slices_stableCmpFunc_Mark_tumbref2_BestMark_c2_ok _ v_p_x p_x (S.holds _ (List.mem_of_getElem? (i := 0) rfl)) (p_x.length : Int) _ hr1) rfl (fun _ _ _ h => ⟨h.1, fun _ hc => hc⟩) ?_; clear S; intro v1 a w1 hv1 hk1 hn1 S
 replace hv1 := hv1.2
 subst hv1
 refine l_done ?_
 replace S := S.nk [.own v_p_x 34 4 r1.length (r1.flatMap GMark.enc)] [] [true] rfl trivial
 obtain rfl := Option.some.inj h
 exact f_ret0 S Tryd.results33 ⟨(S.holds _ (List.mem_of_getElem? (i := 0) rfl)), rfl⟩
theorem tumbref2_BestMark_ok (w : World) (v_p_l : Value) (p_l : List GMark) (hs_p_l : Slc (view w []) 4 v_p_l (p_l.map GMark.enc)) (p_race : ByteArray) (p_who : ByteArray) (p_from : Int) (p_to : Int) (r : GMark × Bool) (h : tumbref2_BestMark p_l p_race p_who p_from p_to = some r) :
    Calls Tryd.prog 16 [v_p_l, .string p_race, .string p_who, .int .i64 p_from, .int .i64 p_to].toArray w (Ret w [] fun _ v _ => v = .tuple #[.agg (GMark.enc r.1).toArray, .bool r.2]) := by
 refine f_enter [] [] Tryd.func16 rfl Tryd.ntmps16 rfl (by simp) (by simp [fps]) (by simp [fps]) fun a S => ?_
 unfold tumbref2_BestMark at h
 replace S := S.nk [] [(0, v_p_l), (1, .string p_race), (2, .string p_who), (3, .int .i64 p_from), (4, .int .i64 p_to)] [] rfl ⟨rfl, rfl, rfl, rfl, rfl, trivial⟩
 refine f_seq ?_
 refine f_region ?_
 refine l_box S (S.tm rfl) (cs := [.string p_race]) rfl rfl ?_; clear S; intro a w1 b1 hz1 hk1 S
 refine l_box S (S.tm rfl) (cs := [.string p_who]) rfl rfl ?_; clear S; intro a w2 b2 hz2 hk2 S
 refine l_box S (S.tm rfl) (cs := [.int .i64 p_from]) rfl rfl ?_; clear S; intro a w3 b3 hz3 hk3 S
 refine l_box S (S.tm rfl) (cs := [.int .i64 p_to]) rfl rfl ?_; clear S; intro a w4 b4 hz4 hk4 S
 refine l_alloc S Tryd.zeroValue34 (cs := [.string k_empty, .string k_empty, .int .i64 0, .int .i64 0]) rfl rfl ?_; clear S; intro a w5 b5 hz5 hk5 S
 refine lv S (rn_assign rfl) rfl ?_; clear S; intro a S
 refine l_done ?_
 replace S := S.nk [.blk b5 [.string k_empty, .string k_empty, .int .i64 0, .int .i64 0] 34, .blk b4 [.int .i64 p_to] 3, .blk b3 [.int .i64 p_from] 3, .blk b2 [.string p_who] 9, .blk b1 [.string p_race] 9] [(0, v_p_l), (6, .pointer (some ⟨b1, 0, none⟩)), (7, .pointer (some ⟨b2, 0, none⟩)), (8, .pointer (some ⟨b3, 0, none⟩)), (9, .pointer (some ⟨b4, 0, none⟩)), (10, .pointer (some ⟨b5, 0, none⟩))] [true, true, true, true, true] rfl ⟨rfl, rfl, rfl, rfl, rfl, rfl, trivial⟩
 refine then_n ?_
 refine f_seq ?_
 refine f_region ?_
 refine lv S (rn_move (S.tm rfl)) rfl ?_; clear S; intro a S
 obtain ⟨r1, hr1, h⟩ := bindE h
 have hz6 := S.keep.size
 refine l_enter S (fun _ => run_call (vs := [v_p_l]) ⟨(S.tm rfl), trivial⟩ Tryd.call31) (slices_Clone_Mark_ok _ v_p_l p_l (hs_p_l.mono (S.le_arg nil_sub)) _ hr1) rfl ?_; clear S; intro v1 a w6 hv1 hk6 hn1 S
 replace S := S.take hn1 hz6 hv1
 refine lv S (rn_makeFunc (us := #[]) (xs := [].toArray) (ys := [.tmp 6, .tmp 7, .tmp 8, .tmp 9].toArray) (by simp) (evA ⟨(S.tm rfl), (S.tm rfl), (S.tm rfl), (S.tm rfl), trivial⟩ (vs := [.pointer (some ⟨b1, 0, none⟩), .pointer (some ⟨b2, 0, none⟩), .pointer (some ⟨b3, 0, none⟩), .pointer (some ⟨b4, 0, none⟩)]))) rfl ?_; clear S; intro a S
 obtain ⟨r2, hr2, h⟩ := bindE h
 have hz7 := S.keep.size
 refine l_enterO 0 S rfl (fun v2 => .own v2 34 4 r2.length (r2.flatMap GMark.enc)) (fun _ => run_call (vs := [v1, .func (.func 32) #[] #[.pointer (some ⟨b1, 0, none⟩), .pointer (some ⟨b2, 0, none⟩), .pointer (some ⟨b3, 0, none⟩), .pointer (some ⟨b4, 0, none⟩)]]) ⟨(S.tm rfl), (S.tm rfl), trivial⟩ Tryd.call30) (slices_DeleteFunc_Mark_tumbref2_BestMark_c1_ok _ v1 r1 (S.holds _ (List.mem_of_getElem? (i := 0) rfl)) b1 p_race (S.blk_view (i := 5) rfl ((ne_fp (i := 0) (j := 5) (e := .own v1 34 4 r1.length (r1.flatMap GMark.enc)) (e' := .blk b1 [.string p_race] 9) S rfl rfl rfl) _ rfl)) b2 p_who (S.blk_view (i := 4) rfl ((ne_fp (i := 0) (j := 4) (e := .own v1 34 4 r1.length (r1.flatMap GMark.enc)) (e' := .blk b2 [.string p_who] 9) S rfl rfl rfl) _ rfl)) b3 p_from (S.blk_view (i := 3) rfl ((ne_fp (i := 0) (j := 3) (e := .own v1 34 4 r1.length (r1.flatMap GMark.enc)) (e' := .blk b3 [.int .i64 p_from] 3) S rfl rfl rfl) _ rfl)) b4 p_to (S.blk_view (i := 2) rfl ((ne_fp (i := 0) (j := 2) (e := .own v1 34 4 r1.length (r1.flatMap GMark.enc)) (e' := .blk b4 [.int .i64 p_to] 3) S rfl rfl rfl) _ rfl)) _ hr2) rfl (fun _ _ _ h => h) ?_; clear S; intro v2 a w7 hv2 hk7 hn2 S
 clear hv2
 refine lv S (rn_assign (S.tm rfl)) rfl ?_; clear S; intro a S
 refine l_done ?_
 replace S := S.nk [.own v2 34 4 r2.length (r2.flatMap GMark.enc), .blk b5 [.string k_empty, .string k_empty, .int .i64 0, .int .i64 0] 34] [(0, v2), (10, .pointer (some ⟨b5, 0, none⟩))] [true, true, false, false, false, false] rfl ⟨rfl, rfl, trivial⟩
 refine then_n ?_
 refine f_seq ?_
 refine f_seq ?_
 refine f_region ?_
 refine lv S (rn_move (S.tm rfl)) rfl ?_; clear S; intro a S
 refine lv S (rn_lenT sl_26 (S.tm rfl) (own_len (S.own_at (i := 0) rfl))) rfl ?_; clear S; intro a S
 refine lv S (rn_eql (S.tm rfl) rfl) rfl ?_; clear S; intro a S
 refine l_done ?_
 replace S := S.nk [.own v2 34 4 r2.length (r2.flatMap GMark.enc), .blk b5 [.string k_empty, .string k_empty, .int .i64 0, .int .i64 0] 34] [(0, v2), (10, .pointer (some ⟨b5, 0, none⟩)), (18, .bool (decide ((r2.length : Int) = 0)))] [true, true] rfl ⟨rfl, rfl, rfl, trivial⟩
 refine then_n ?_
 refine f_cond (S.tm rfl) (fun hb1 => ?_) (fun hb1 => ?_)
 ·replace h := iteT h hb1
  refine f_seq ?_
  refine f_region ?_
  refine lv S (rn_bld bt_34 (pv := []) trivial (cs := [.string k_empty, .string k_empty, .int .i64 0, .int .i64 0]) (by kernel_rfl)) rfl ?_; clear S; intro a S
  refine l_store S (S.tm rfl) (S.tm rfl) (i := 1) (off := 0) rfl Tryd.sizeOf34 (vs := [.string k_empty, .string k_empty, .int .i64 0, .int .i64 0]) rfl rfl rfl rfl ?_; clear S; intro w8 hk8 S
  refine lv S (rn_assign rfl) rfl ?_; clear S; intro a S
  refine l_done ?_
  replace S := S.nk [.blk b5 [.string k_empty, .string k_empty, .int .i64 0, .int .i64 0] 34] [(10, .pointer (some ⟨b5, 0, none⟩)), (11, .bool false)] [false, true] rfl ⟨rfl, rfl, trivial⟩
  refine then_n ?_
  refine wp_ret ?_
  refine then_r ?_
  obtain rfl := Option.some.inj h
  exact f_retG S (rs := [.cell 10 34, .tmp 11]) (vs := [.agg #[.string k_empty, .string k_empty, .int .i64 0, .int .i64 0], .bool false]) Tryd.results16 ⟨(res_cell (off := 0) S rfl Tryd.isAgg34 Tryd.sizeOf34 rfl (S.cellsAt (i := 0) rfl)), (res_tmp S rfl), trivial⟩ rfl rfl
 ·replace h := iteF h hb1
  refine wp_skip ?_
  refine then_n ?_
  refine f_seq ?_
  refine f_region ?_
  refine lv S (rn_move (S.tm rfl)) rfl ?_; clear S; intro a S
  obtain ⟨r3, hr3, h⟩ := bindE h
  refine l_enterO 0 S rfl (fun _ => .own v2 34 4 r3.length (r3.flatMap GMark.enc)) (fun _ => run_call (vs := [v2, .func (.func 34) #[] #[]]) ⟨(S.tm rfl), rfl, trivial⟩ Tryd.call33) (slices_SortStableFunc_Mark_tumbref2_BestMark_c2_ok _ v2 r2 (S.holds _ (List.mem_of_getElem? (i := 0) rfl)) _ hr3) rfl (fun _ _ _ h => ⟨h.1, fun _ hc => hc⟩) ?_; clear S; intro v3 a w9 hv3 hk9 hn3 S
  replace hv3 := hv3.2
  subst hv3
  refine l_done ?_
  replace S := S.nk [.own v2 34 4 r3.length (r3.flatMap GMark.enc), .blk b5 [.string k_empty, .string k_empty, .int .i64 0, .int .i64 0] 34] [(0, v2), (10, .pointer (some ⟨b5, 0, none⟩))] [true, true] rfl ⟨rfl, rfl, trivial⟩
  refine then_n ?_
  refine f_seq ?_
  refine f_region ?_
  refine lv S (rn_move (S.tm rfl)) rfl ?_; clear S; intro a S
  obtain ⟨hc1, h⟩ := chkE h
  obtain ⟨b6, hg1, hr4⟩ := rn_indexS (a := a) (x := .tmp 22) (y := .const (.int .i64 0)) (ty := 0) sl_26 GMark.enc_ok S (i := 0) rfl (inB_get hc1).1 (inB_get hc1).2 (S.tm rfl) rfl
  refine lv S (hr4 _) rfl ?_; clear S; intro a S
  clear hr4
  refine lv S (rn_ldA Tryd.isAgg34 Tryd.sizeOf34 (off := ((0 : Int).toNat) * 4) (o := 0) (part := [.string ((nth r3 0).Who), .string ((nth r3 0).Race), .int .i64 ((nth r3 0).Day), .int .i64 ((nth r3 0).Time)]) rfl rfl (S.tm rfl) (own_cells GMark.enc_ok S (i := 0) rfl hg1 (inB_get hc1).1)) rfl ?_; clear S; intro a S
  refine l_store S (S.tm rfl) (S.tm rfl) (i := 1) (off := 0) rfl Tryd.sizeOf34 (vs := [.string ((nth r3 0).Who), .string ((nth r3 0).Race), .int .i64 ((nth r3 0).Day), .int .i64 ((nth r3 0).Time)]) rfl rfl rfl rfl ?_; clear S; intro w10 hk10 S
  refine lv S (rn_assign rfl) rfl ?_; clear S; intro a S
  refine l_done ?_
  replace S := S.nk [.blk b5 [.string ((nth r3 0).Who), .string ((nth r3 0).Race), .int .i64 ((nth r3 0).Day), .int .i64 ((nth r3 0).Time)] 34] [(10, .pointer (some ⟨b5, 0, none⟩)), (11, .bool true)] [false, true] rfl ⟨rfl, rfl, trivial⟩
  refine then_n ?_
  refine wp_ret ?_
  obtain rfl := Option.some.inj h
  exact f_retG S (rs := [.cell 10 34, .tmp 11]) (vs := [.agg #[.string ((nth r3 0).Who), .string ((nth r3 0).Race), .int .i64 ((nth r3 0).Day), .int .i64 ((nth r3 0).Time)], .bool true]) Tryd.results16 ⟨(res_cell (off := 0) S rfl Tryd.isAgg34 Tryd.sizeOf34 rfl (S.cellsAt (i := 0) rfl)), (res_tmp S rfl), trivial⟩ rfl rfl
theorem tumbref2_QualifiedOf_ok (w : World) (v_p_l : Value) (p_l : List GStandard) (hs_p_l : Slc (view w []) 4 v_p_l (p_l.map GStandard.enc)) (v_p_m : Value) (p_m : List GMark) (hs_p_m : Slc (view w []) 4 v_p_m (p_m.map GMark.enc)) (p_race : ByteArray) (p_who : ByteArray) (r : Bool) (h : tumbref2_QualifiedOf p_l p_m p_race p_who = some r) :
    Calls Tryd.prog 19 [v_p_l, v_p_m, .string p_race, .string p_who].toArray w (Ret w [] fun _ v _ => v = .bool r) := by
 refine f_enter [] [] Tryd.func19 rfl Tryd.ntmps19 rfl (by simp) (by simp [fps]) (by simp [fps]) fun a S => ?_
 unfold tumbref2_QualifiedOf at h
 replace S := S.nk [] [(0, v_p_l), (1, v_p_m), (2, .string p_race), (3, .string p_who)] [] rfl ⟨rfl, rfl, rfl, rfl, trivial⟩
 refine f_seq ?_
 refine f_region ?_
 refine lv S (rn_assign rfl) rfl ?_; clear S; intro a S
 refine l_done ?_
 replace S := S.nk [] [(0, v_p_l), (1, v_p_m), (2, .string p_race), (3, .string p_who)] [] rfl ⟨rfl, rfl, rfl, rfl, trivial⟩
 refine then_n ?_
 refine f_seq ?_
 refine f_region ?_
 refine lv S (rn_assign rfl) rfl ?_; clear S; intro a S
 refine l_done ?_
 replace S := S.nk [] [(0, v_p_l), (1, v_p_m), (2, .string p_race), (3, .string p_who), (9, .bool true)] [] rfl ⟨rfl, rfl, rfl, rfl, rfl, trivial⟩
 refine then_n ?_
 refine f_seq ?_
 refine f_seq ?_
 refine f_region ?_
 refine lv S (rn_move (S.tm rfl)) rfl ?_; clear S; intro a S
 refine lv S (rn_lenT sl_29 (S.tm rfl) (slc_len hs_p_l)) rfl ?_; clear S; intro a S
 refine lv S (rn_move rfl) rfl ?_; clear S; intro a S
 refine l_done ?_
 replace S := S.nk [] [(1, v_p_m), (2, .string p_race), (3, .string p_who), (9, .bool true), (14, v_p_l), (15, .int .i64 (p_l.length : Int)), (16, .int .i64 0)] [] rfl ⟨rfl, rfl, rfl, rfl, rfl, rfl, rfl, trivial⟩
 refine then_n ?_
 obtain ⟨j1, hj1, h⟩ := joinE h
 refine f_join (fun a w' => ∃ x1 : Bool, j1 x1 = some r ∧ Sx w [] nov [] [(9, .bool x1)] 45 a w') ?_ ?_
 ·refine wp_block ?_
  refine f_loop (fun (ys1 : List GStandard) a w' => ∃ i1 : Nat, ∃ x1 : Bool, (∃ dn, p_l = dn ++ ys1 ∧ dn.length = i1) ∧ tumbref2_QualifiedOf_l1 p_race p_m p_who j1 ys1 i1 x1 = some r ∧ Sx w [] nov [] [(1, v_p_m), (2, .string p_race), (3, .string p_who), (9, .bool x1), (14, v_p_l), (15, .int .i64 (p_l.length : Int)), (16, .int .i64 (i1 : Int))] 45 a w') List.length p_l ⟨0, true, ⟨[], rfl, rfl⟩, h, S.nf [] rfl ⟨rfl, rfl, rfl, rfl, rfl, rfl, rfl, trivial⟩⟩ ?_
  clear S h; rintro ys1 a w1 ⟨i1, x1, ⟨dn, hd1, hi1⟩, h, S⟩
  cases ys1 with
  | nil =>
   rw [tumbref2_QualifiedOf_l1.eq_1] at h
   refine f_seq ?_
   refine f_region ?_
   refine lv S (rn_lss (S.tm rfl) (S.tm rfl)) rfl ?_; clear S; intro a S
   refine l_done ?_
   replace S := S.nk [] [(1, v_p_m), (2, .string p_race), (3, .string p_who), (9, .bool x1), (14, v_p_l), (15, .int .i64 (p_l.length : Int)), (16, .int .i64 (i1 : Int)), (17, .bool (decide ((i1 : Int) < (p_l.length : Int))))] [] rfl ⟨rfl, rfl, rfl, rfl, rfl, rfl, rfl, rfl, trivial⟩
   refine then_n ?_
   refine f_seq ?_
   refine wp_cond_false ((S.tm rfl).trans (congrArg Value.bool (rng_nil hd1 hi1))) ?_
   refine wp_exit ?_
   refine then_x ?_
   refine then_x ?_
   refine x_same ?_
   refine then_n ?_
   exact ⟨x1, h, S.nf [] rfl ⟨rfl, trivial⟩⟩
  | cons y1 ys1 =>
   rw [tumbref2_QualifiedOf_l1.eq_2] at h
   refine f_seq ?_
   refine f_region ?_
   refine lv S (rn_lss (S.tm rfl) (S.tm rfl)) rfl ?_; clear S; intro a S
   refine l_done ?_
   replace S := S.nk [] [(1, v_p_m), (2, .string p_race), (3, .string p_who), (9, .bool x1), (14, v_p_l), (15, .int .i64 (p_l.length : Int)), (16, .int .i64 (i1 : Int)), (17, .bool (decide ((i1 : Int) < (p_l.length : Int))))] [] rfl ⟨rfl, rfl, rfl, rfl, rfl, rfl, rfl, rfl, trivial⟩
   refine then_n ?_
   refine f_seq ?_
   refine wp_cond_true ((S.tm rfl).trans (congrArg Value.bool (rng_cons hd1 hi1))) ?_
   refine wp_skip ?_
   refine then_n ?_
   refine f_seq ?_
   obtain ⟨j2, hj2, h⟩ := joinE h
   refine f_join (fun a w' => ∃ x2 : Bool, j2 x2 = some r ∧ Sx w [] nov [] [(1, v_p_m), (2, .string p_race), (3, .string p_who), (9, .bool x2), (14, v_p_l), (15, .int .i64 (p_l.length : Int)), (16, .int .i64 (i1 : Int))] 45 a w') ?_ ?_
   ·refine wp_block ?_
    refine f_seq ?_
    refine f_region ?_
    obtain ⟨b1, o1, hm1, hr1⟩ := rn_indexT (a := a) (x := .tmp 14) (y := .tmp 16) (ty := 0) sl_29 hs_p_l (get_mid hd1 hi1) rfl (S.tm rfl) (S.tm rfl)
    refine lv S (hr1 _) rfl ?_; clear S; intro a S
    clear hr1
    refine lv S (rn_ldA Tryd.isAgg54 Tryd.sizeOf54 (off := o1) (o := 0) (part := [.string y1.Race, .int .i64 y1.Time, .int .i64 y1.From, .int .i64 y1.To]) rfl rfl (S.tm rfl) (hm1.at S.emb0)) rfl ?_; clear S; intro a S
    refine l_alloc S Tryd.zeroValue54 (cs := [.string k_empty, .int .i64 0, .int .i64 0, .int .i64 0]) rfl rfl ?_; clear S; intro a w4 b2 hz1 hk1 S
    refine l_store S (S.tm rfl) (S.tm rfl) (i := 0) (off := 0) rfl Tryd.sizeOf54 (vs := [.string y1.Race, .int .i64 y1.Time, .int .i64 y1.From, .int .i64 y1.To]) rfl rfl rfl rfl ?_; clear S; intro w5 hk2 S
    refine l_done ?_
    replace S := S.nk [.blk b2 [.string y1.Race, .int .i64 y1.Time, .int .i64 y1.From, .int .i64 y1.To] 54] [(1, v_p_m), (2, .string p_race), (3, .string p_who), (9, .bool x1), (11, .pointer (some ⟨b2, 0, none⟩)), (14, v_p_l), (15, .int .i64 (p_l.length : Int)), (16, .int .i64 (i1 : Int))] [true] rfl ⟨rfl, rfl, rfl, rfl, rfl, rfl, rfl, rfl, trivial⟩
    refine then_n ?_
    refine f_seq ?_
    refine f_seq ?_
    refine f_region ?_
    refine lv S (rn_fld fa_54_0 (S.tm rfl)) rfl ?_; clear S; intro a S
    refine lv S (rn_load Tryd.isAgg9 (S.tm rfl) (S.cell (i := 0) rfl rfl)) rfl ?_; clear S; intro a S
    refine lv S (rn_move (S.tm rfl)) rfl ?_; clear S; intro a S
    refine lv S (rn_sneq (S.tm rfl) (S.tm rfl)) rfl ?_; clear S; intro a S
    refine l_done ?_
    replace S := S.nk [.blk b2 [.string y1.Race, .int .i64 y1.Time, .int .i64 y1.From, .int .i64 y1.To] 54] [(1, v_p_m), (2, .string p_race), (3, .string p_who), (9, .bool x1), (11, .pointer (some ⟨b2, 0, none⟩)), (14, v_p_l), (15, .int .i64 (p_l.length : Int)), (16, .int .i64 (i1 : Int)), (23, .bool (!decide (y1.Race = p_race)))] [true] rfl ⟨rfl, rfl, rfl, rfl, rfl, rfl, rfl, rfl, rfl, trivial⟩
    refine then_n ?_
    refine f_cond (S.tm rfl) (fun hb1 => ?_) (fun hb1 => ?_)
    ·replace h := iteT h hb1
     refine wp_exit ?_
     refine then_x ?_
     refine x_same ?_
     refine then_n ?_
     exact ⟨x1, h, S.nf [false] rfl ⟨rfl, rfl, rfl, rfl, rfl, rfl, rfl, trivial⟩⟩
    ·replace h := iteF h hb1
     refine wp_skip ?_
     refine then_n ?_
     refine f_seq ?_
     refine f_region ?_
     refine lv S (rn_assign rfl) rfl ?_; clear S; intro a S
     refine l_done ?_
     replace S := S.nk [.blk b2 [.string y1.Race, .int .i64 y1.Time, .int .i64 y1.From, .int .i64 y1.To] 54] [(1, v_p_m), (2, .string p_race), (3, .string p_who), (9, .bool false), (11, .pointer (some ⟨b2, 0, none⟩)), (14, v_p_l), (15, .int .i64 (p_l.length : Int)), (16, .int .i64 (i1 : Int))] [true] rfl ⟨rfl, rfl, rfl, rfl, rfl, rfl, rfl, rfl, trivial⟩
     refine then_n ?_
     refine f_seq ?_
     refine f_region ?_
     refine lv S (rn_move (S.tm rfl)) rfl ?_; clear S; intro a S
     refine lv S (rn_move (S.tm rfl)) rfl ?_; clear S; intro a S
     refine lv S (rn_move (S.tm rfl)) rfl ?_; clear S; intro a S
     refine lv S (rn_fld fa_54_2 (S.tm rfl)) rfl ?_; clear S; intro a S
     refine lv S (rn_load Tryd.isAgg3 (S.tm rfl) (S.cell (i := 0) rfl rfl)) rfl ?_; clear S; intro a S
     refine lv S (rn_fld fa_54_3 (S.tm rfl)) rfl ?_; clear S; intro a S
     refine lv S (rn_load Tryd.isAgg3 (S.tm rfl) (S.cell (i := 0) rfl rfl)) rfl ?_; clear S; intro a S
     obtain ⟨r1, hr2, h⟩ := bindE h
     refine l_enter S (fun _ => run_call (vs := [v_p_m, .string p_race, .string p_who, .int .i64 y1.From, .int .i64 y1.To]) ⟨(S.tm rfl), (S.tm rfl), (S.tm rfl), (S.tm rfl), (S.tm rfl), trivial⟩ Tryd.call16) (tumbref2_BestMark_ok _ v_p_m p_m (hs_p_m.mono (S.le_arg nil_sub)) p_race p_who y1.From y1.To _ hr2) rfl ?_; clear S; intro v1 a w6 hv1 hk3 hn1 S
     subst hv1
     refine lv S (rn_move (S.tm rfl)) rfl ?_; clear S; intro a S
     refine lv S (rn_extract (S.tm rfl) rfl) rfl ?_; clear S; intro a S
     refine lv S (rn_extract (S.tm rfl) rfl) rfl ?_; clear S; intro a S
     refine l_alloc S Tryd.zeroValue34 (cs := [.string k_empty, .string k_empty, .int .i64 0, .int .i64 0]) rfl rfl ?_; clear S; intro a w7 b3 hz2 hk4 S
     refine l_store S (S.tm rfl) (S.tm rfl) (i := 0) (off := 0) rfl Tryd.sizeOf34 (vs := [.string r1.1.Who, .string r1.1.Race, .int .i64 r1.1.Day, .int .i64 r1.1.Time]) rfl rfl rfl rfl ?_; clear S; intro w8 hk5 S
     refine lv S (rn_assign (S.tm rfl)) rfl ?_; clear S; intro a S
     refine l_done ?_
     replace S := S.nk [.blk b3 [.string r1.1.Who, .string r1.1.Race, .int .i64 r1.1.Day, .int .i64 r1.1.Time] 34, .blk b2 [.string y1.Race, .int .i64 y1.Time, .int .i64 y1.From, .int .i64 y1.To] 54] [(1, v_p_m), (2, .string p_race), (3, .string p_who), (9, .bool false), (11, .pointer (some ⟨b2, 0, none⟩)), (12, .pointer (some ⟨b3, 0, none⟩)), (13, .bool r1.2), (14, v_p_l), (15, .int .i64 (p_l.length : Int)), (16, .int .i64 (i1 : Int))] [true, true] rfl ⟨rfl, rfl, rfl, rfl, rfl, rfl, rfl, rfl, rfl, rfl, trivial⟩
     refine then_n ?_
     refine f_seq ?_
     refine f_region ?_
     refine lv S (rn_move (S.tm rfl)) rfl ?_; clear S; intro a S
     refine lv S (rn_move (S.tm rfl)) rfl ?_; clear S; intro a S
     refine f_cutm 6 (fun a w' => Keep [] w8 w' ∧ Sx w [] nov [.blk b3 [.string r1.1.Who, .string r1.1.Race, .int .i64 r1.1.Day, .int .i64 r1.1.Time] 34, .blk b2 [.string y1.Race, .int .i64 y1.Time, .int .i64 y1.From, .int .i64 y1.To] 54] [(1, v_p_m), (2, .string p_race), (3, .string p_who), (9, .bool false), (14, v_p_l), (15, .int .i64 (p_l.length : Int)), (16, .int .i64 (i1 : Int)), (42, .bool (r1.2 && (decide (r1.1.Time ≤ y1.Time))))] 45 a w') ?_ ?_
     ·rcases Bool.eq_false_or_eq_true r1.2 with hb2 | hb2
      ·refine l_want S rfl rfl rfl hb2 ?_
       refine lv S (rn_fld fa_34_3 (S.tm rfl)) rfl ?_; clear S; intro a S
       refine l_want S rfl rfl rfl hb2 ?_
       refine lv S (rn_load Tryd.isAgg3 (S.tm rfl) (S.cell (i := 0) rfl rfl)) rfl ?_; clear S; intro a S
       refine l_want S rfl rfl rfl hb2 ?_
       refine lv S (rn_fld fa_54_1 (S.tm rfl)) rfl ?_; clear S; intro a S
       refine l_want S rfl rfl rfl hb2 ?_
       refine lv S (rn_load Tryd.isAgg3 (S.tm rfl) (S.cell (i := 1) rfl rfl)) rfl ?_; clear S; intro a S
       refine l_want S rfl rfl rfl hb2 ?_
       refine lv S (rn_leq (S.tm rfl) (S.tm rfl)) rfl ?_; clear S; intro a S
       refine lv S (rn_and_t hb2 (S.tm rfl) (S.tm rfl)) rfl ?_; clear S; intro a S
       refine l_done ?_
       refine then_n ?_
       exact ⟨Keep.refl _ _, S.nf [true, true] rfl ⟨rfl, rfl, rfl, rfl, rfl, rfl, rfl, rfl, trivial⟩⟩
      ·refine l_skip S rfl rfl rfl (neq_f hb2) rfl ?_ rfl; clear S; intro a S
       refine l_skip S rfl rfl rfl (neq_f hb2) rfl ?_ rfl; clear S; intro a S
       refine l_skip S rfl rfl rfl (neq_f hb2) rfl ?_ rfl; clear S; intro a S
       refine l_skip S rfl rfl rfl (neq_f hb2) rfl ?_ rfl; clear S; intro a S
       refine l_skip S rfl rfl rfl (neq_f hb2) rfl ?_ rfl; clear S; intro a S
       refine lv S (rn_and_f (decide (r1.1.Time ≤ y1.Time)) hb2 (S.tm rfl) rfl) rfl ?_; clear S; intro a S
       refine l_done ?_
       refine then_n ?_
       exact ⟨Keep.refl _ _, S.nf [true, true] rfl ⟨rfl, rfl, rfl, rfl, rfl, rfl, rfl, rfl, trivial⟩⟩
     clear S; rintro a w9 ⟨hk6, S⟩
     refine l_done ?_
     replace S := S.nk [] [(1, v_p_m), (2, .string p_race), (3, .string p_who), (9, .bool false), (14, v_p_l), (15, .int .i64 (p_l.length : Int)), (16, .int .i64 (i1 : Int)), (42, .bool (r1.2 && (decide (r1.1.Time ≤ y1.Time))))] [false, false] rfl ⟨rfl, rfl, rfl, rfl, rfl, rfl, rfl, rfl, trivial⟩
     refine then_n ?_
     refine f_cond (S.tm rfl) (fun hb3 => ?_) (fun hb3 => ?_)
     ·replace h := iteT h hb3
      refine f_seq ?_
      refine f_region ?_
      refine lv S (rn_assign rfl) rfl ?_; clear S; intro a S
      refine l_done ?_
      replace S := S.nk [] [(8, .bool true)] [] rfl ⟨rfl, trivial⟩
      refine then_n ?_
      refine wp_ret ?_
      refine blk_r ?_
      refine then_r ?_
      refine then_r ?_
      refine then_r ?_
      refine blk_r ?_
      refine then_r ?_
      refine then_r ?_
      obtain rfl := Option.some.inj h
      exact f_ret S Tryd.results19 rfl rfl
     ·replace h := iteF h hb3
      refine wp_skip ?_
      refine blk_n ?_
      refine then_n ?_
      exact ⟨false, h, S.nf [] rfl ⟨rfl, rfl, rfl, rfl, rfl, rfl, rfl, trivial⟩⟩
   clear S h; rintro a w3 ⟨x2, h, S⟩; rw [hj2] at h; clear hj2 j2
   refine then_n ?_
   refine f_region ?_
   refine lv S (rn_add (S.tm rfl) rfl) rfl ?_; clear S; intro a S
   refine lv S (rn_move (S.tm rfl)) rfl ?_; clear S; intro a S
   refine l_done ?_
   replace S := S.nk [] [(1, v_p_m), (2, .string p_race), (3, .string p_who), (9, .bool x2), (14, v_p_l), (15, .int .i64 (p_l.length : Int)), (16, .int .i64 (W ((i1 : Int) + 1)))] [] rfl ⟨rfl, rfl, rfl, rfl, rfl, rfl, rfl, trivial⟩
   refine then_n ?_
   exact ⟨ys1, ⟨i1 + 1, x2, ⟨_, (hd1).trans (List.append_cons _ _ _), by simp [hi1]⟩, h, S.nf [] rfl ⟨rfl, rfl, rfl, rfl, rfl, rfl, (congrArg (fun z => some (Value.int .i64 z)) (rng_next hd1 hi1 (slc_max hs_p_l))), trivial⟩⟩, Nat.lt_succ_self _⟩
 clear S h; rintro a w2 ⟨x1, h, S⟩; rw [hj1] at h; clear hj1 j1
 refine then_n ?_
 refine f_seq ?_
 refine f_region ?_
 refine lv S (rn_move (S.tm rfl)) rfl ?_; clear S; intro a S
 refine lv S (rn_assign (S.tm rfl)) rfl ?_; clear S; intro a S
 refine l_done ?_
 replace S := S.nk [] [(8, .bool x1)] [] rfl ⟨rfl, trivial⟩
 refine then_n ?_
 refine wp_ret ?_
 obtain rfl := Option.some.inj h
 exact f_ret S Tryd.results19 rfl rfl
theorem swimmer_leap_ok (w : World) (p_year : Int) (r : Bool) (h : swimmer_leap p_year = r) :
    Calls Tryd.prog 59 [.int .i64 p_year].toArray w (Ret w [] fun _ v _ => v = .bool r) := by
 refine f_enter [] [] Tryd.func59 rfl Tryd.ntmps59 rfl (by simp) (by simp [fps]) (by simp [fps]) fun a S => ?_
 unfold swimmer_leap at h
 replace S := S.nk [] [(0, .int .i64 p_year)] [] rfl ⟨rfl, trivial⟩
 refine f_seq ?_
 refine f_region ?_
 refine lv S (rn_assign rfl) rfl ?_; clear S; intro a S
 refine l_done ?_
 replace S := S.nk [] [(0, .int .i64 p_year)] [] rfl ⟨rfl, trivial⟩
 refine then_n ?_
 refine f_seq ?_
 refine f_region ?_
 refine lv S (rn_move (S.tm rfl)) rfl ?_; clear S; intro a S
 refine lv S (rn_rem (S.tm rfl) rfl (by decide)) rfl ?_; clear S; intro a S
 refine lv S (rn_eql (S.tm rfl) rfl) rfl ?_; clear S; intro a S
 refine lv S (rn_move (S.tm rfl)) rfl ?_; clear S; intro a S
 refine f_cutm 9 (fun a w' => Keep [] w w' ∧ Sx w [] nov [] [(15, .bool ((decide ((Int.tmod p_year 4) = 0)) && ((!decide ((Int.tmod p_year 100) = 0)) || (decide ((Int.tmod p_year 400) = 0)))))] 16 a w') ?_ ?_
 ·rcases Bool.eq_false_or_eq_true (decide ((Int.tmod p_year 4) = 0)) with hb1 | hb1
  ·refine l_want S rfl rfl rfl hb1 ?_
   refine lv S (rn_move (S.tm rfl)) rfl ?_; clear S; intro a S
   refine l_want S rfl rfl rfl hb1 ?_
   refine lv S (rn_rem (S.tm rfl) rfl (by decide)) rfl ?_; clear S; intro a S
   refine l_want S rfl rfl rfl hb1 ?_
   refine lv S (rn_neq (S.tm rfl) rfl) rfl ?_; clear S; intro a S
   refine l_want S rfl rfl rfl hb1 ?_
   refine lv S (rn_move (S.tm rfl)) rfl ?_; clear S; intro a S
   refine f_cutm 4 (fun a w' => Keep [] w w' ∧ Sx w [] nov [] [(6, .bool (decide ((Int.tmod p_year 4) = 0))), (14, .bool ((!decide ((Int.tmod p_year 100) = 0)) || (decide ((Int.tmod p_year 400) = 0))))] 16 a w') ?_ ?_
   ·rcases Bool.eq_false_or_eq_true (!decide ((Int.tmod p_year 100) = 0)) with hb2 | hb2
    ·refine l_skip S rfl rfl rfl (neq_t hb2) rfl ?_ rfl; clear S; intro a S
     refine l_skip S rfl rfl rfl (neq_t hb2) rfl ?_ rfl; clear S; intro a S
     refine l_skip S rfl rfl rfl (neq_t hb2) rfl ?_ rfl; clear S; intro a S
     refine l_want S rfl rfl rfl hb1 ?_
     refine lv S (rn_or_t (decide ((Int.tmod p_year 400) = 0)) hb2 (S.tm rfl) rfl) rfl ?_; clear S; intro a S
     refine l_done ?_
     refine then_n ?_
     exact ⟨Keep.refl _ _, S.nf [] rfl ⟨rfl, rfl, trivial⟩⟩
    ·refine l_want S rfl rfl rfl hb2 ?_
     refine lv S (rn_move (S.tm rfl)) rfl ?_; clear S; intro a S
     refine l_want S rfl rfl rfl hb2 ?_
     refine lv S (rn_rem (S.tm rfl) rfl (by decide)) rfl ?_; clear S; intro a S
     refine l_want S rfl rfl rfl hb2 ?_
     refine lv S (rn_eql (S.tm rfl) rfl) rfl ?_; clear S; intro a S
     refine l_want S rfl rfl rfl hb1 ?_
     refine lv S (rn_or_f hb2 (S.tm rfl) (S.tm rfl)) rfl ?_; clear S; intro a S
     refine l_done ?_
     refine then_n ?_
     exact ⟨Keep.refl _ _, S.nf [] rfl ⟨rfl, rfl, trivial⟩⟩
   clear S; rintro a w2 ⟨hk1, S⟩
   refine lv S (rn_and_t hb1 (S.tm rfl) (S.tm rfl)) rfl ?_; clear S; intro a S
   refine l_done ?_
   refine then_n ?_
   exact ⟨hk1, S.nf [] rfl ⟨rfl, trivial⟩⟩
  ·refine l_skip S rfl rfl rfl (neq_f hb1) rfl ?_ rfl; clear S; intro a S
   refine l_skip S rfl rfl rfl (neq_f hb1) rfl ?_ rfl; clear S; intro a S
   refine l_skip S rfl rfl rfl (neq_f hb1) rfl ?_ rfl; clear S; intro a S
   refine l_skip S rfl rfl rfl (neq_f hb1) rfl ?_ rfl; clear S; intro a S
   refine l_skipU S rfl rfl rfl rfl ?_; clear S; intro a S
   refine l_skipU S rfl rfl rfl rfl ?_; clear S; intro a S
   refine l_skipU S rfl rfl rfl rfl ?_; clear S; intro a S
   refine l_skip S rfl rfl rfl (neq_f hb1) rfl ?_ rfl; clear S; intro a S
   refine lv S (rn_and_f ((!decide ((Int.tmod p_year 100) = 0)) || (decide ((Int.tmod p_year 400) = 0))) hb1 (S.tm rfl) rfl) rfl ?_; clear S; intro a S
   refine l_done ?_
   refine then_n ?_
   exact ⟨Keep.refl _ _, S.nf [] rfl ⟨rfl, trivial⟩⟩
 clear S; rintro a w1 ⟨hk2, S⟩
 refine lv S (rn_assign (S.tm rfl)) rfl ?_; clear S; intro a S
 refine l_done ?_
 replace S := S.nk [] [(2, .bool ((decide ((Int.tmod p_year 4) = 0)) && ((!decide ((Int.tmod p_year 100) = 0)) || (decide ((Int.tmod p_year 400) = 0)))))] [] rfl ⟨rfl, trivial⟩
 refine then_n ?_
 refine wp_ret ?_
 subst h
 exact f_ret S Tryd.results59 rfl rfl
theorem swimmer_long_ok (w : World) (p_year : Int) (p_month : Int) (r : Int) (h : swimmer_long p_year p_month = r) :
    Calls Tryd.prog 46 [.int .i64 p_year, .int .i64 p_month].toArray w (Ret w [] fun _ v _ => v = .int .i64 r) := by
 refine f_enter [] [] Tryd.func46 rfl Tryd.ntmps46 rfl (by simp) (by simp [fps]) (by simp [fps]) fun a S => ?_
 unfold swimmer_long at h
 replace S := S.nk [] [(0, .int .i64 p_year), (1, .int .i64 p_month)] [] rfl ⟨rfl, rfl, trivial⟩
 refine f_seq ?_
 refine f_region ?_
 refine lv S (rn_assign rfl) rfl ?_; clear S; intro a S
 refine l_done ?_
 replace S := S.nk [] [(0, .int .i64 p_year), (1, .int .i64 p_month)] [] rfl ⟨rfl, rfl, trivial⟩
 refine then_n ?_
 refine f_seq ?_
 refine f_seq ?_
 refine f_region ?_
 refine lv S (rn_move (S.tm rfl)) rfl ?_; clear S; intro a S
 refine l_done ?_
 replace S := S.nk [] [(0, .int .i64 p_year), (5, .int .i64 p_month)] [] rfl ⟨rfl, rfl, trivial⟩
 refine then_n ?_
 refine wp_block ?_
 refine f_seq ?_
 refine f_region ?_
 refine lv S (rn_eql (S.tm rfl) rfl) rfl ?_; clear S; intro a S
 refine lv S (rn_assign (S.tm rfl)) rfl ?_; clear S; intro a S
 refine l_done ?_
 replace S := S.nk [] [(0, .int .i64 p_year), (5, .int .i64 p_month), (6, .bool (decide (p_month = 2)))] [] rfl ⟨rfl, rfl, rfl, trivial⟩
 refine then_n ?_
 refine f_cond (S.tm rfl) (fun hb1 => ?_) (fun hb1 => ?_)
 ·replace h := iteT h hb1
  refine f_seq ?_
  refine f_seq ?_
  refine f_region ?_
  refine lv S (rn_move (S.tm rfl)) rfl ?_; clear S; intro a S
  refine l_enter S (fun _ => run_call (vs := [.int .i64 p_year]) ⟨(S.tm rfl), trivial⟩ Tryd.call59) (swimmer_leap_ok _ p_year _ rfl) rfl ?_; clear S; intro v1 a w1 hv1 hk1 hn1 S
  subst hv1
  refine l_done ?_
  replace S := S.nk [] [(9, .bool (swimmer_leap p_year))] [] rfl ⟨rfl, trivial⟩
  refine then_n ?_
  refine f_cond (S.tm rfl) (fun hb2 => ?_) (fun hb2 => ?_)
  ·replace h := iteT h hb2
   refine f_seq ?_
   refine f_region ?_
   refine lv S (rn_assign rfl) rfl ?_; clear S; intro a S
   refine l_done ?_
   replace S := S.nk [] [(4, .int .i64 29)] [] rfl ⟨rfl, trivial⟩
   refine then_n ?_
   refine wp_ret ?_
   refine then_r ?_
   refine blk_r ?_
   refine then_r ?_
   subst h
   exact f_ret S Tryd.results46 rfl rfl
  ·replace h := iteF h hb2
   refine wp_skip ?_
   refine then_n ?_
   refine f_seq ?_
   refine f_region ?_
   refine lv S (rn_assign rfl) rfl ?_; clear S; intro a S
   refine l_done ?_
   replace S := S.nk [] [(4, .int .i64 28)] [] rfl ⟨rfl, trivial⟩
   refine then_n ?_
   refine wp_ret ?_
   refine blk_r ?_
   refine then_r ?_
   subst h
   exact f_ret S Tryd.results46 rfl rfl
 ·replace h := iteF h hb1
  refine f_seq ?_
  refine f_seq ?_
  refine f_region ?_
  refine lv S (rn_eql (S.tm rfl) rfl) rfl ?_; clear S; intro a S
  refine lv S (rn_assign (S.tm rfl)) rfl ?_; clear S; intro a S
  refine l_done ?_
  replace S := S.nk [] [(5, .int .i64 p_month), (10, .bool (decide (p_month = 4)))] [] rfl ⟨rfl, rfl, trivial⟩
  refine then_n ?_
  obtain ⟨j1, hj1, h⟩ := joinE h
  refine f_join (fun a w' => ∃ x1 : Bool, j1 x1 = r ∧ Sx w [] nov [] [(10, .bool x1)] 15 a w') ?_ ?_
  ·refine f_cond (S.tm rfl) (fun hb3 => ?_) (fun hb3 => ?_)
   ·replace h := iteT h hb3
    refine wp_skip ?_
    refine then_n ?_
    exact ⟨decide (p_month = 4), h, S.nf [] rfl ⟨rfl, trivial⟩⟩
   ·replace h := iteF h hb3
    refine f_seq ?_
    refine f_region ?_
    refine lv S (rn_eql (S.tm rfl) rfl) rfl ?_; clear S; intro a S
    refine lv S (rn_assign (S.tm rfl)) rfl ?_; clear S; intro a S
    refine l_done ?_
    replace S := S.nk [] [(5, .int .i64 p_month), (10, .bool (decide (p_month = 6)))] [] rfl ⟨rfl, rfl, trivial⟩
    refine then_n ?_
    obtain ⟨j2, hj2, h⟩ := joinE h
    refine f_join (fun a w' => ∃ x2 : Bool, j2 x2 = r ∧ Sx w [] nov [] [(10, .bool x2)] 15 a w') ?_ ?_
    ·refine f_cond (S.tm rfl) (fun hb4 => ?_) (fun hb4 => ?_)
     ·replace h := iteT h hb4
      refine wp_skip ?_
      refine then_n ?_
      exact ⟨decide (p_month = 6), h, S.nf [] rfl ⟨rfl, trivial⟩⟩
     ·replace h := iteF h hb4
      refine f_seq ?_
      refine f_region ?_
      refine lv S (rn_eql (S.tm rfl) rfl) rfl ?_; clear S; intro a S
      refine lv S (rn_assign (S.tm rfl)) rfl ?_; clear S; intro a S
      refine l_done ?_
      replace S := S.nk [] [(5, .int .i64 p_month), (10, .bool (decide (p_month = 9)))] [] rfl ⟨rfl, rfl, trivial⟩
      refine then_n ?_
      obtain ⟨j3, hj3, h⟩ := joinE h
      refine f_join (fun a w' => ∃ x3 : Bool, j3 x3 = r ∧ Sx w [] nov [] [(10, .bool x3)] 15 a w') ?_ ?_
      ·refine f_cond (S.tm rfl) (fun hb5 => ?_) (fun hb5 => ?_)
       ·replace h := iteT h hb5
        refine wp_skip ?_
        refine then_n ?_
        exact ⟨decide (p_month = 9), h, S.nf [] rfl ⟨rfl, trivial⟩⟩
       ·replace h := iteF h hb5
        refine f_region ?_
        refine lv S (rn_eql (S.tm rfl) rfl) rfl ?_; clear S; intro a S
        refine lv S (rn_assign (S.tm rfl)) rfl ?_; clear S; intro a S
        refine l_done ?_
        replace S := S.nk [] [(10, .bool (decide (p_month = 11)))] [] rfl ⟨rfl, trivial⟩
        refine then_n ?_
        exact ⟨decide (p_month = 11), h, S.nf [] rfl ⟨rfl, trivial⟩⟩
      clear S h; rintro a w4 ⟨x3, h, S⟩; rw [hj3] at h; clear hj3 j3
      refine then_n ?_
      exact ⟨x3, h, S.nf [] rfl ⟨rfl, trivial⟩⟩
    clear S h; rintro a w3 ⟨x2, h, S⟩; rw [hj2] at h; clear hj2 j2
    refine then_n ?_
    exact ⟨x2, h, S.nf [] rfl ⟨rfl, trivial⟩⟩
  clear S h; rintro a w2 ⟨x1, h, S⟩; rw [hj1] at h; clear hj1 j1
  refine then_n ?_
  refine f_cond (S.tm rfl) (fun hb6 => ?_) (fun hb6 => ?_)
  ·replace h := iteT h hb6
   refine f_seq ?_
   refine f_region ?_
   refine lv S (rn_assign rfl) rfl ?_; clear S; intro a S
   refine l_done ?_
   replace S := S.nk [] [(4, .int .i64 30)] [] rfl ⟨rfl, trivial⟩
   refine then_n ?_
   refine wp_ret ?_
   refine blk_r ?_
   refine then_r ?_
   subst h
   exact f_ret S Tryd.results46 rfl rfl
  ·replace h := iteF h hb6
   refine wp_skip ?_
   refine blk_n ?_
   refine then_n ?_
   refine f_seq ?_
   refine f_region ?_
   refine lv S (rn_assign rfl) rfl ?_; clear S; intro a S
   refine l_done ?_
   replace S := S.nk [] [(4, .int .i64 31)] [] rfl ⟨rfl, trivial⟩
   refine then_n ?_
   refine wp_ret ?_
   subst h
   exact f_ret S Tryd.results46 rfl rfl
theorem swimmer_yearLong_ok (w : World) (p_year : Int) (r : Int) (h : swimmer_yearLong p_year = r) :
    Calls Tryd.prog 47 [.int .i64 p_year].toArray w (Ret w [] fun _ v _ => v = .int .i64 r) := by
 refine f_enter [] [] Tryd.func47 rfl Tryd.ntmps47 rfl (by simp) (by simp [fps]) (by simp [fps]) fun a S => ?_
 unfold swimmer_yearLong at h
 replace S := S.nk [] [(0, .int .i64 p_year)] [] rfl ⟨rfl, trivial⟩
 refine f_seq ?_
 refine f_region ?_
 refine lv S (rn_assign rfl) rfl ?_; clear S; intro a S
 refine l_done ?_
 replace S := S.nk [] [(0, .int .i64 p_year)] [] rfl ⟨rfl, trivial⟩
 refine then_n ?_
 refine f_seq ?_
 refine f_seq ?_
 refine f_region ?_
 refine lv S (rn_move (S.tm rfl)) rfl ?_; clear S; intro a S
 refine l_enter S (fun _ => run_call (vs := [.int .i64 p_year]) ⟨(S.tm rfl), trivial⟩ Tryd.call59) (swimmer_leap_ok _ p_year _ rfl) rfl ?_; clear S; intro v1 a w1 hv1 hk1 hn1 S
 subst hv1
 refine l_done ?_
 replace S := S.nk [] [(4, .bool (swimmer_leap p_year))] [] rfl ⟨rfl, trivial⟩
 refine then_n ?_
 refine f_cond (S.tm rfl) (fun hb1 => ?_) (fun hb1 => ?_)
 ·replace h := iteT h hb1
  refine f_seq ?_
  refine f_region ?_
  refine lv S (rn_assign rfl) rfl ?_; clear S; intro a S
  refine l_done ?_
  replace S := S.nk [] [(2, .int .i64 366)] [] rfl ⟨rfl, trivial⟩
  refine then_n ?_
  refine wp_ret ?_
  refine then_r ?_
  subst h
  exact f_ret S Tryd.results47 rfl rfl
 ·replace h := iteF h hb1
  refine wp_skip ?_
  refine then_n ?_
  refine f_seq ?_
  refine f_region ?_
  refine lv S (rn_assign rfl) rfl ?_; clear S; intro a S
  refine l_done ?_
  replace S := S.nk [] [(2, .int .i64 365)] [] rfl ⟨rfl, trivial⟩
  refine then_n ?_
  refine wp_ret ?_
  subst h
  exact f_ret S Tryd.results47 rfl rfl
set_option maxRecDepth 20000 in
theorem swimmer_DayOf_ok (w : World) (p_d : GDate) (r : Int × Int) (h : swimmer_DayOf p_d = some r) :
    Calls Tryd.prog 38 [.agg (GDate.enc p_d).toArray].toArray w (Ret w [] fun _ v _ => v = .tuple #[.int .i64 r.1, .int .i64 r.2]) := by
 refine f_enter [] [] Tryd.func38 rfl Tryd.ntmps38 rfl (by simp) (by simp [fps]) (by simp [fps]) fun a S => ?_
 unfold swimmer_DayOf at h
 replace S := S.nk [] [(0, .agg (GDate.enc p_d).toArray)] [] rfl ⟨rfl, trivial⟩
 refine f_seq ?_
 refine f_region ?_
 refine l_box S (S.tm rfl) (cs := [.int .i64 p_d.Year, .int .i64 p_d.Month, .int .i64 p_d.Day]) rfl rfl ?_; clear S; intro a w1 b1 hz1 hk1 S
 refine lv S (rn_assign rfl) rfl ?_; clear S; intro a S
 refine lv S (rn_assign rfl) rfl ?_; clear S; intro a S
 refine l_done ?_
 replace S := S.nk [.blk b1 [.int .i64 p_d.Year, .int .i64 p_d.Month, .int .i64 p_d.Day] 67] [(1, .pointer (some ⟨b1, 0, none⟩))] [true] rfl ⟨rfl, trivial⟩
 refine then_n ?_
 refine f_seq ?_
 refine f_seq ?_
 obtain ⟨j1, hj1, h⟩ := joinE h
 refine f_join (fun a w' => ∃ x1 : Bool, j1 x1 = some r ∧ Sx w [] nov [.blk b1 [.int .i64 p_d.Year, .int .i64 p_d.Month, .int .i64 p_d.Day] 67] [(1, .pointer (some ⟨b1, 0, none⟩)), (28, .bool x1)] 68 a w') ?_ ?_
 ·rcases Bool.eq_false_or_eq_true (!(words_Within p_d.Year 1900 2100)) with hb1 | hb1
  ·replace h := iteT h hb1
   rcases Bool.eq_false_or_eq_true true with hb2 | hb2
   ·replace h := iteT h hb2
    refine d_region [] ([]) Tryd.mixed S rfl (by kernel_rfl) ?_; clear S; intro w6 hk5 hsel S
    refine d_quiet 0 S hsel rfl rfl rfl (by kernel_rfl) (by kernel_rfl) rfl (fun _ hw => (rn_fld fa_67_0 (S.tm rfl))) ?_; clear S; intro a S
    refine d_quiet 1 S hsel rfl rfl rfl (by kernel_rfl) (by kernel_rfl) rfl (fun _ hw => (rn_ld Tryd.isAgg3 (off := 0) (o := 0) (S.tm rfl) ((S.blk_mem (i := 0) (cells := [.int .i64 p_d.Year, .int .i64 p_d.Month, .int .i64 p_d.Day]) (b := b1) (T := 67) rfl (ne_nil (e' := .blk b1 [.int .i64 p_d.Year, .int .i64 p_d.Month, .int .i64 p_d.Day] 67))).kept hw) rfl)) ?_; clear S; intro a S
    refine d_loud1 2 (by kernel_rfl) rfl ?_
    refine l_enter S (fun _ => run_call (vs := [.int .i64 p_d.Year, .int .i64 1900, .int .i64 2100]) ⟨(S.tm rfl), rfl, rfl, trivial⟩ Tryd.call25) (words_Within_ok _ p_d.Year 1900 2100 _ rfl) rfl ?_; clear S; intro v4 a w7 hv4 hk6 hn4 S
    subst hv4
    refine l_done ?_
    refine d_next hk6 ?_
    refine d_rest [3, 4, 5, 6, 7, 8, 9, 10, 11, 12, 13, 14, 15, 16, 17, 18, 19, 20] hsel (by kernel_rfl) rfl ?_
    clear hsel
    refine s_lv S rfl (rn_not (S.tm rfl)) rfl ?_; clear S; intro a S
    refine s_lv S rfl (rn_move (S.tm rfl)) rfl ?_; clear S; intro a S
    refine s_skip S rfl rfl rfl rfl (neq_t hb1) rfl ?_ rfl; clear S; intro a S
    refine s_skip S rfl rfl rfl rfl (neq_t hb1) rfl ?_ rfl; clear S; intro a S
    refine s_skip S rfl rfl rfl rfl (neq_t hb1) rfl ?_ rfl; clear S; intro a S
    refine s_skip S rfl rfl rfl rfl (neq_t hb1) rfl ?_ rfl; clear S; intro a S
    refine s_lv S rfl (rn_pick_b hb1 (S.tm rfl) rfl) rfl ?_; clear S; intro a S
    refine s_lv S rfl (rn_move (S.tm rfl)) rfl ?_; clear S; intro a S
    refine s_skip S rfl rfl rfl rfl (neq_t hb2) rfl ?_ rfl; clear S; intro a S
    refine s_skip S rfl rfl rfl rfl (neq_t hb2) rfl ?_ rfl; clear S; intro a S
    refine s_skip S rfl rfl rfl rfl (neq_t hb2) rfl ?_ rfl; clear S; intro a S
    refine s_skip S rfl rfl rfl rfl (neq_t hb2) rfl ?_ rfl; clear S; intro a S
    refine s_skip S rfl rfl rfl rfl (neq_t hb2) rfl ?_ rfl; clear S; intro a S
    refine s_skip S rfl rfl rfl rfl (neq_t hb2) rfl ?_ rfl; clear S; intro a S
    refine s_skip S rfl rfl rfl rfl (neq_t hb2) rfl ?_ rfl; clear S; intro a S
    refine s_skip S rfl rfl rfl rfl (neq_t hb2) rfl ?_ rfl; clear S; intro a S
    refine s_skip S rfl rfl rfl rfl (neq_t hb2) rfl ?_ rfl; clear S; intro a S
    refine s_lv S rfl (rn_pick_b hb2 (S.tm rfl) rfl) rfl ?_; clear S; intro a S
    refine s_done ?_
    replace S := S.nk [.blk b1 [.int .i64 p_d.Year, .int .i64 p_d.Month, .int .i64 p_d.Day] 67] [(1, .pointer (some ⟨b1, 0, none⟩)), (28, .bool true)] [true] rfl ⟨rfl, rfl, trivial⟩
    refine then_n ?_
    exact ⟨true, h, S.nf [true] rfl ⟨rfl, rfl, trivial⟩⟩
   ·replace h := iteF h hb2
    refine d_region [] ([]) Tryd.mixed S rfl (by kernel_rfl) ?_; clear S; intro w11 hk10 hsel S
    refine d_quiet 0 S hsel rfl rfl rfl (by kernel_rfl) (by kernel_rfl) rfl (fun _ hw => (rn_fld fa_67_0 (S.tm rfl))) ?_; clear S; intro a S
    refine d_quiet 1 S hsel rfl rfl rfl (by kernel_rfl) (by kernel_rfl) rfl (fun _ hw => (rn_ld Tryd.isAgg3 (off := 0) (o := 0) (S.tm rfl) ((S.blk_mem (i := 0) (cells := [.int .i64 p_d.Year, .int .i64 p_d.Month, .int .i64 p_d.Day]) (b := b1) (T := 67) rfl (ne_nil (e' := .blk b1 [.int .i64 p_d.Year, .int .i64 p_d.Month, .int .i64 p_d.Day] 67))).kept hw) rfl)) ?_; clear S; intro a S
    refine d_loud1 2 (by kernel_rfl) rfl ?_
    refine l_enter S (fun _ => run_call (vs := [.int .i64 p_d.Year, .int .i64 1900, .int .i64 2100]) ⟨(S.tm rfl), rfl, rfl, trivial⟩ Tryd.call25) (words_Within_ok _ p_d.Year 1900 2100 _ rfl) rfl ?_; clear S; intro v8 a w12 hv8 hk11 hn8 S
    subst hv8
    refine l_done ?_
    refine d_next hk11 ?_
    refine d_quiet 3 S hsel rfl rfl rfl (by kernel_rfl) (by kernel_rfl) rfl (fun _ hw => (rn_not (S.tm rfl))) ?_; clear S; intro a S
    refine d_quiet 4 S hsel rfl rfl rfl (by kernel_rfl) (by kernel_rfl) rfl (fun _ hw => (rn_move (S.tm rfl))) ?_; clear S; intro a S
    refine d_skip 5 S hsel rfl rfl rfl rfl (neq_t hb1) rfl (by kernel_rfl) (by kernel_rfl) rfl ?_; clear S; intro a S
    refine d_skip 6 S hsel rfl rfl rfl rfl (neq_t hb1) rfl (by kernel_rfl) (by kernel_rfl) rfl ?_; clear S; intro a S
    refine d_skip 7 S hsel rfl rfl rfl rfl (neq_t hb1) rfl (by kernel_rfl) (by kernel_rfl) rfl ?_; clear S; intro a S
    refine d_skip 8 S hsel rfl rfl rfl rfl (neq_t hb1) rfl (by kernel_rfl) (by kernel_rfl) rfl ?_; clear S; intro a S
    refine d_quiet 9 S hsel rfl rfl rfl (by kernel_rfl) (by kernel_rfl) rfl (fun _ hw => (rn_pick_b hb1 (S.tm rfl) rfl)) ?_; clear S; intro a S
    refine d_quiet 10 S hsel rfl rfl rfl (by kernel_rfl) (by kernel_rfl) rfl (fun _ hw => (rn_move (S.tm rfl))) ?_; clear S; intro a S
    refine d_quiet_g 11 S hsel rfl rfl rfl rfl hb2 rfl rfl (by kernel_rfl) (by kernel_rfl) rfl (fun _ hw => (rn_fld fa_67_2 (S.tm rfl))) ?_; clear S; intro a S
    refine d_quiet_g 12 S hsel rfl rfl rfl rfl hb2 rfl rfl (by kernel_rfl) (by kernel_rfl) rfl (fun _ hw => (rn_ld Tryd.isAgg3 (off := 0) (o := 2) (S.tm rfl) ((S.blk_mem (i := 0) (cells := [.int .i64 p_d.Year, .int .i64 p_d.Month, .int .i64 p_d.Day]) (b := b1) (T := 67) rfl (ne_nil (e' := .blk b1 [.int .i64 p_d.Year, .int .i64 p_d.Month, .int .i64 p_d.Day] 67))).kept hw) rfl)) ?_; clear S; intro a S
    refine d_quiet_g 13 S hsel rfl rfl rfl rfl hb2 rfl rfl (by kernel_rfl) (by kernel_rfl) rfl (fun _ hw => (rn_fld fa_67_0 (S.tm rfl))) ?_; clear S; intro a S
    refine d_quiet_g 14 S hsel rfl rfl rfl rfl hb2 rfl rfl (by kernel_rfl) (by kernel_rfl) rfl (fun _ hw => (rn_ld Tryd.isAgg3 (off := 0) (o := 0) (S.tm rfl) ((S.blk_mem (i := 0) (cells := [.int .i64 p_d.Year, .int .i64 p_d.Month, .int .i64 p_d.Day]) (b := b1) (T := 67) rfl (ne_nil (e' := .blk b1 [.int .i64 p_d.Year, .int .i64 p_d.Month, .int .i64 p_d.Day] 67))).kept hw) rfl)) ?_; clear S; intro a S
    refine d_quiet_g 15 S hsel rfl rfl rfl rfl hb2 rfl rfl (by kernel_rfl) (by kernel_rfl) rfl (fun _ hw => (rn_fld fa_67_1 (S.tm rfl))) ?_; clear S; intro a S
    refine d_quiet_g 16 S hsel rfl rfl rfl rfl hb2 rfl rfl (by kernel_rfl) (by kernel_rfl) rfl (fun _ hw => (rn_ld Tryd.isAgg3 (off := 0) (o := 1) (S.tm rfl) ((S.blk_mem (i := 0) (cells := [.int .i64 p_d.Year, .int .i64 p_d.Month, .int .i64 p_d.Day]) (b := b1) (T := 67) rfl (ne_nil (e' := .blk b1 [.int .i64 p_d.Year, .int .i64 p_d.Month, .int .i64 p_d.Day] 67))).kept hw) rfl)) ?_; clear S; intro a S
    refine d_loud1 17 (by kernel_rfl) rfl ?_
    refine l_want S rfl rfl rfl hb2 ?_
    refine l_enter S (fun _ => run_call (vs := [.int .i64 p_d.Year, .int .i64 p_d.Month]) ⟨(S.tm rfl), (S.tm rfl), trivial⟩ Tryd.call46) (swimmer_long_ok _ p_d.Year p_d.Month _ rfl) rfl ?_; clear S; intro v9 a w13 hv9 hk12 hn9 S
    subst hv9
    refine l_done ?_
    refine d_next hk12 ?_
    refine d_loud1 18 (by kernel_rfl) rfl ?_
    refine l_want S rfl rfl rfl hb2 ?_
    refine l_enter S (fun _ => run_call (vs := [.int .i64 p_d.Day, .int .i64 1, .int .i64 (swimmer_long p_d.Year p_d.Month)]) ⟨(S.tm rfl), rfl, (S.tm rfl), trivial⟩ Tryd.call25) (words_Within_ok _ p_d.Day 1 (swimmer_long p_d.Year p_d.Month) _ rfl) rfl ?_; clear S; intro v10 a w14 hv10 hk13 hn10 S
    subst hv10
    refine l_done ?_
    refine d_next hk13 ?_
    refine d_rest [19, 20] hsel (by kernel_rfl) rfl ?_
    clear hsel
    refine s_want S rfl rfl rfl rfl hb2 ?_
    refine s_lv0 S (rn_not (S.tm rfl)) rfl ?_; clear S; intro a S
    refine s_lv S rfl (rn_pick_c hb2 (S.tm rfl) (S.tm rfl)) rfl ?_; clear S; intro a S
    refine s_done ?_
    replace S := S.nk [.blk b1 [.int .i64 p_d.Year, .int .i64 p_d.Month, .int .i64 p_d.Day] 67] [(1, .pointer (some ⟨b1, 0, none⟩)), (28, .bool (!(words_Within p_d.Day 1 (swimmer_long p_d.Year p_d.Month))))] [true] rfl ⟨rfl, rfl, trivial⟩
    refine then_n ?_
    exact ⟨!(words_Within p_d.Day 1 (swimmer_long p_d.Year p_d.Month)), h, S.nf [true] rfl ⟨rfl, rfl, trivial⟩⟩
  ·replace h := iteF h hb1
   rcases Bool.eq_false_or_eq_true (!(words_Within p_d.Month 1 12)) with hb3 | hb3
   ·replace h := iteT h hb3
    refine d_region [] ([]) Tryd.mixed S rfl (by kernel_rfl) ?_; clear S; intro w19 hk18 hsel S
    refine d_quiet 0 S hsel rfl rfl rfl (by kernel_rfl) (by kernel_rfl) rfl (fun _ hw => (rn_fld fa_67_0 (S.tm rfl))) ?_; clear S; intro a S
    refine d_quiet 1 S hsel rfl rfl rfl (by kernel_rfl) (by kernel_rfl) rfl (fun _ hw => (rn_ld Tryd.isAgg3 (off := 0) (o := 0) (S.tm rfl) ((S.blk_mem (i := 0) (cells := [.int .i64 p_d.Year, .int .i64 p_d.Month, .int .i64 p_d.Day]) (b := b1) (T := 67) rfl (ne_nil (e' := .blk b1 [.int .i64 p_d.Year, .int .i64 p_d.Month, .int .i64 p_d.Day] 67))).kept hw) rfl)) ?_; clear S; intro a S
    refine d_loud1 2 (by kernel_rfl) rfl ?_
    refine l_enter S (fun _ => run_call (vs := [.int .i64 p_d.Year, .int .i64 1900, .int .i64 2100]) ⟨(S.tm rfl), rfl, rfl, trivial⟩ Tryd.call25) (words_Within_ok _ p_d.Year 1900 2100 _ rfl) rfl ?_; clear S; intro v15 a w20 hv15 hk19 hn15 S
    subst hv15
    refine l_done ?_
    refine d_next hk19 ?_
    refine d_quiet 3 S hsel rfl rfl rfl (by kernel_rfl) (by kernel_rfl) rfl (fun _ hw => (rn_not (S.tm rfl))) ?_; clear S; intro a S
    refine d_quiet 4 S hsel rfl rfl rfl (by kernel_rfl) (by kernel_rfl) rfl (fun _ hw => (rn_move (S.tm rfl))) ?_; clear S; intro a S
    refine d_quiet_g 5 S hsel rfl rfl rfl rfl hb1 rfl rfl (by kernel_rfl) (by kernel_rfl) rfl (fun _ hw => (rn_fld fa_67_1 (S.tm rfl))) ?_; clear S; intro a S
    refine d_quiet_g 6 S hsel rfl rfl rfl rfl hb1 rfl rfl (by kernel_rfl) (by kernel_rfl) rfl (fun _ hw => (rn_ld Tryd.isAgg3 (off := 0) (o := 1) (S.tm rfl) ((S.blk_mem (i := 0) (cells := [.int .i64 p_d.Year, .int .i64 p_d.Month, .int .i64 p_d.Day]) (b := b1) (T := 67) rfl (ne_nil (e' := .blk b1 [.int .i64 p_d.Year, .int .i64 p_d.Month, .int .i64 p_d.Day] 67))).kept hw) rfl)) ?_; clear S; intro a S
    refine d_loud1 7 (by kernel_rfl) rfl ?_
    refine l_want S rfl rfl rfl hb1 ?_
    refine l_enter S (fun _ => run_call (vs := [.int .i64 p_d.Month, .int .i64 1, .int .i64 12]) ⟨(S.tm rfl), rfl, rfl, trivial⟩ Tryd.call25) (words_Within_ok _ p_d.Month 1 12 _ rfl) rfl ?_; clear S; intro v16 a w21 hv16 hk20 hn16 S
    subst hv16
    refine l_done ?_
    refine d_next hk20 ?_
    refine d_rest [8, 9, 10, 11, 12, 13, 14, 15, 16, 17, 18, 19, 20] hsel (by kernel_rfl) rfl ?_
    clear hsel
    refine s_want S rfl rfl rfl rfl hb1 ?_
    refine s_lv0 S (rn_not (S.tm rfl)) rfl ?_; clear S; intro a S
    refine s_lv S rfl (rn_pick_c hb1 (S.tm rfl) (S.tm rfl)) rfl ?_; clear S; intro a S
    refine s_lv S rfl (rn_move (S.tm rfl)) rfl ?_; clear S; intro a S
    refine s_skip S rfl rfl rfl rfl (neq_t hb3) rfl ?_ rfl; clear S; intro a S
    refine s_skip S rfl rfl rfl rfl (neq_t hb3) rfl ?_ rfl; clear S; intro a S
    refine s_skip S rfl rfl rfl rfl (neq_t hb3) rfl ?_ rfl; clear S; intro a S
    refine s_skip S rfl rfl rfl rfl (neq_t hb3) rfl ?_ rfl; clear S; intro a S
    refine s_skip S rfl rfl rfl rfl (neq_t hb3) rfl ?_ rfl; clear S; intro a S
    refine s_skip S rfl rfl rfl rfl (neq_t hb3) rfl ?_ rfl; clear S; intro a S
    refine s_skip S rfl rfl rfl rfl (neq_t hb3) rfl ?_ rfl; clear S; intro a S
    refine s_skip S rfl rfl rfl rfl (neq_t hb3) rfl ?_ rfl; clear S; intro a S
    refine s_skip S rfl rfl rfl rfl (neq_t hb3) rfl ?_ rfl; clear S; intro a S
    refine s_lv S rfl (rn_pick_b hb3 (S.tm rfl) rfl) rfl ?_; clear S; intro a S
    refine s_done ?_
    replace S := S.nk [.blk b1 [.int .i64 p_d.Year, .int .i64 p_d.Month, .int .i64 p_d.Day] 67] [(1, .pointer (some ⟨b1, 0, none⟩)), (28, .bool true)] [true] rfl ⟨rfl, rfl, trivial⟩
    refine then_n ?_
    exact ⟨true, h, S.nf [true] rfl ⟨rfl, rfl, trivial⟩⟩
   ·replace h := iteF h hb3
    refine d_region [] ([]) Tryd.mixed S rfl (by kernel_rfl) ?_; clear S; intro w26 hk25 hsel S
    refine d_quiet 0 S hsel rfl rfl rfl (by kernel_rfl) (by kernel_rfl) rfl (fun _ hw => (rn_fld fa_67_0 (S.tm rfl))) ?_; clear S; intro a S
    refine d_quiet 1 S hsel rfl rfl rfl (by kernel_rfl) (by kernel_rfl) rfl (fun _ hw => (rn_ld Tryd.isAgg3 (off := 0) (o := 0) (S.tm rfl) ((S.blk_mem (i := 0) (cells := [.int .i64 p_d.Year, .int .i64 p_d.Month, .int .i64 p_d.Day]) (b := b1) (T := 67) rfl (ne_nil (e' := .blk b1 [.int .i64 p_d.Year, .int .i64 p_d.Month, .int .i64 p_d.Day] 67))).kept hw) rfl)) ?_; clear S; intro a S
    refine d_loud1 2 (by kernel_rfl) rfl ?_
    refine l_enter S (fun _ => run_call (vs := [.int .i64 p_d.Year, .int .i64 1900, .int .i64 2100]) ⟨(S.tm rfl), rfl, rfl, trivial⟩ Tryd.call25) (words_Within_ok _ p_d.Year 1900 2100 _ rfl) rfl ?_; clear S; intro v21 a w27 hv21 hk26 hn21 S
    subst hv21
    refine l_done ?_
    refine d_next hk26 ?_
    refine d_quiet 3 S hsel rfl rfl rfl (by kernel_rfl) (by kernel_rfl) rfl (fun _ hw => (rn_not (S.tm rfl))) ?_; clear S; intro a S
    refine d_quiet 4 S hsel rfl rfl rfl (by kernel_rfl) (by kernel_rfl) rfl (fun _ hw => (rn_move (S.tm rfl))) ?_; clear S; intro a S
    refine d_quiet_g 5 S hsel rfl rfl rfl rfl hb1 rfl rfl (by kernel_rfl) (by kernel_rfl) rfl (fun _ hw => (rn_fld fa_67_1 (S.tm rfl))) ?_; clear S; intro a S
    refine d_quiet_g 6 S hsel rfl rfl rfl rfl hb1 rfl rfl (by kernel_rfl) (by kernel_rfl) rfl (fun _ hw => (rn_ld Tryd.isAgg3 (off := 0) (o := 1) (S.tm rfl) ((S.blk_mem (i := 0) (cells := [.int .i64 p_d.Year, .int .i64 p_d.Month, .int .i64 p_d.Day]) (b := b1) (T := 67) rfl (ne_nil (e' := .blk b1 [.int .i64 p_d.Year, .int .i64 p_d.Month, .int .i64 p_d.Day] 67))).kept hw) rfl)) ?_; clear S; intro a S
    refine d_loud1 7 (by kernel_rfl) rfl ?_
    refine l_want S rfl rfl rfl hb1 ?_
    refine l_enter S (fun _ => run_call (vs := [.int .i64 p_d.Month, .int .i64 1, .int .i64 12]) ⟨(S.tm rfl), rfl, rfl, trivial⟩ Tryd.call25) (words_Within_ok _ p_d.Month 1 12 _ rfl) rfl ?_; clear S; intro v22 a w28 hv22 hk27 hn22 S
    subst hv22
    refine l_done ?_
    refine d_next hk27 ?_
    refine d_quiet_g 8 S hsel rfl rfl rfl rfl hb1 rfl rfl (by kernel_rfl) (by kernel_rfl) rfl (fun _ hw => (rn_not (S.tm rfl))) ?_; clear S; intro a S
    refine d_quiet 9 S hsel rfl rfl rfl (by kernel_rfl) (by kernel_rfl) rfl (fun _ hw => (rn_pick_c hb1 (S.tm rfl) (S.tm rfl))) ?_; clear S; intro a S
    refine d_quiet 10 S hsel rfl rfl rfl (by kernel_rfl) (by kernel_rfl) rfl (fun _ hw => (rn_move (S.tm rfl))) ?_; clear S; intro a S
    refine d_quiet_g 11 S hsel rfl rfl rfl rfl hb3 rfl rfl (by kernel_rfl) (by kernel_rfl) rfl (fun _ hw => (rn_fld fa_67_2 (S.tm rfl))) ?_; clear S; intro a S
    refine d_quiet_g 12 S hsel rfl rfl rfl rfl hb3 rfl rfl (by kernel_rfl) (by kernel_rfl) rfl (fun _ hw => (rn_ld Tryd.isAgg3 (off := 0) (o := 2) (S.tm rfl) ((S.blk_mem (i := 0) (cells := [.int .i64 p_d.Year, .int .i64 p_d.Month, .int .i64 p_d.Day]) (b := b1) (T := 67) rfl (ne_nil (e' := .blk b1 [.int .i64 p_d.Year, .int .i64 p_d.Month, .int .i64 p_d.Day] 67))).kept hw) rfl)) ?_; clear S; intro a S
    refine d_quiet_g 13 S hsel rfl rfl rfl rfl hb3 rfl rfl (by kernel_rfl) (by kernel_rfl) rfl (fun _ hw => (rn_fld fa_67_0 (S.tm rfl))) ?_; clear S; intro a S
    refine d_quiet_g 14 S hsel rfl rfl rfl rfl hb3 rfl rfl (by kernel_rfl) (by kernel_rfl) rfl (fun _ hw => (rn_ld Tryd.isAgg3 (off := 0) (o := 0) (S.tm rfl) ((S.blk_mem (i := 0) (cells := [.int .i64 p_d.Year, .int .i64 p_d.Month, .int .i64 p_d.Day]) (b := b1) (T := 67) rfl (ne_nil (e' := .blk b1 [.int .i64 p_d.Year, .int .i64 p_d.Month, .int .i64 p_d.Day] 67))).kept hw) rfl)) ?_; clear S; intro a S
    refine d_quiet_g 15 S hsel rfl rfl rfl rfl hb3 rfl rfl (by kernel_rfl) (by kernel_rfl) rfl (fun _ hw => (rn_fld fa_67_1 (S.tm rfl))) ?_; clear S; intro a S
    refine d_quiet_g 16 S hsel rfl rfl rfl rfl hb3 rfl rfl (by kernel_rfl) (by kernel_rfl) rfl (fun _ hw => (rn_ld Tryd.isAgg3 (off := 0) (o := 1) (S.tm rfl) ((S.blk_mem (i := 0) (cells := [.int .i64 p_d.Year, .int .i64 p_d.Month, .int .i64 p_d.Day]) (b := b1) (T := 67) rfl (ne_nil (e' := .blk b1 [.int .i64 p_d.Year, .int .i64 p_d.Month, .int .i64 p_d.Day] 67))).kept hw) rfl)) ?_; clear S; intro a S
    refine d_loud1 17 (by kernel_rfl) rfl ?_
    refine l_want S rfl rfl rfl hb3 ?_
    refine l_enter S (fun _ => run_call (vs := [.int .i64 p_d.Year, .int .i64 p_d.Month]) ⟨(S.tm rfl), (S.tm rfl), trivial⟩ Tryd.call46) (swimmer_long_ok _ p_d.Year p_d.Month _ rfl) rfl ?_; clear S; intro v23 a w29 hv23 hk28 hn23 S
    subst hv23
    refine l_done ?_
    refine d_next hk28 ?_
    refine d_loud1 18 (by kernel_rfl) rfl ?_
    refine l_want S rfl rfl rfl hb3 ?_
    refine l_enter S (fun _ => run_call (vs := [.int .i64 p_d.Day, .int .i64 1, .int .i64 (swimmer_long p_d.Year p_d.Month)]) ⟨(S.tm rfl), rfl, (S.tm rfl), trivial⟩ Tryd.call25) (words_Within_ok _ p_d.Day 1 (swimmer_long p_d.Year p_d.Month) _ rfl) rfl ?_; clear S; intro v24 a w30 hv24 hk29 hn24 S
    subst hv24
    refine l_done ?_
    refine d_next hk29 ?_
    refine d_rest [19, 20] hsel (by kernel_rfl) rfl ?_
    clear hsel
    refine s_want S rfl rfl rfl rfl hb3 ?_
    refine s_lv0 S (rn_not (S.tm rfl)) rfl ?_; clear S; intro a S
    refine s_lv S rfl (rn_pick_c hb3 (S.tm rfl) (S.tm rfl)) rfl ?_; clear S; intro a S
    refine s_done ?_
    replace S := S.nk [.blk b1 [.int .i64 p_d.Year, .int .i64 p_d.Month, .int .i64 p_d.Day] 67] [(1, .pointer (some ⟨b1, 0, none⟩)), (28, .bool (!(words_Within p_d.Day 1 (swimmer_long p_d.Year p_d.Month))))] [true] rfl ⟨rfl, rfl, trivial⟩
    refine then_n ?_
    exact ⟨!(words_Within p_d.Day 1 (swimmer_long p_d.Year p_d.Month)), h, S.nf [true] rfl ⟨rfl, rfl, trivial⟩⟩
 clear S h; rintro a w2 ⟨x1, h, S⟩; rw [hj1] at h; clear hj1 j1
 refine then_n ?_
 refine f_cond (S.tm rfl) (fun hb4 => ?_) (fun hb4 => ?_)
 ·replace h := iteT h hb4
  refine f_seq ?_
  refine f_region ?_
  refine lv S (rn_assign rfl) rfl ?_; clear S; intro a S
  refine lv S (rn_assign rfl) rfl ?_; clear S; intro a S
  refine l_done ?_
  replace S := S.nk [] [(2, .int .i64 0), (3, .int .i64 1)] [false] rfl ⟨rfl, rfl, trivial⟩
  refine then_n ?_
  refine wp_ret ?_
  refine then_r ?_
  obtain rfl := Option.some.inj h
  exact f_ret2 S Tryd.results38 rfl rfl rfl
 ·replace h := iteF h hb4
  refine wp_skip ?_
  refine then_n ?_
  refine f_seq ?_
  refine f_region ?_
  refine lv S (rn_fld fa_67_2 (S.tm rfl)) rfl ?_; clear S; intro a S
  refine lv S (rn_load Tryd.isAgg3 (S.tm rfl) (S.cell (i := 0) rfl rfl)) rfl ?_; clear S; intro a S
  refine lv S (rn_sub (S.tm rfl) rfl) rfl ?_; clear S; intro a S
  refine lv S (rn_assign (S.tm rfl)) rfl ?_; clear S; intro a S
  refine l_done ?_
  replace S := S.nk [.blk b1 [.int .i64 p_d.Year, .int .i64 p_d.Month, .int .i64 p_d.Day] 67] [(1, .pointer (some ⟨b1, 0, none⟩)), (4, .int .i64 (W (p_d.Day - 1)))] [true] rfl ⟨rfl, rfl, trivial⟩
  refine then_n ?_
  refine f_seq ?_
  refine f_seq ?_
  refine f_region ?_
  refine lv S (rn_assign rfl) rfl ?_; clear S; intro a S
  refine l_done ?_
  replace S := S.nk [.blk b1 [.int .i64 p_d.Year, .int .i64 p_d.Month, .int .i64 p_d.Day] 67] [(1, .pointer (some ⟨b1, 0, none⟩)), (4, .int .i64 (W (p_d.Day - 1))), (5, .int .i64 1)] [true] rfl ⟨rfl, rfl, rfl, trivial⟩
  refine then_n ?_
  obtain ⟨j2, hj2, h⟩ := joinE h
  refine f_join (fun a w' => ∃ x2 : Int, j2 x2 = some r ∧ Sx w [] nov [.blk b1 [.int .i64 p_d.Year, .int .i64 p_d.Month, .int .i64 p_d.Day] 67] [(1, .pointer (some ⟨b1, 0, none⟩)), (4, .int .i64 x2)] 68 a w') ?_ ?_
  ·refine wp_block ?_
   refine f_loop (fun (m1 : Nat) a w' => ∃ x2 : Int, ∃ x3 : Int, swimmer_DayOf_l1 p_d j2 m1 x2 x3 = some r ∧ Sx w [] nov [.blk b1 [.int .i64 p_d.Year, .int .i64 p_d.Month, .int .i64 p_d.Day] 67] [(1, .pointer (some ⟨b1, 0, none⟩)), (4, .int .i64 x2), (5, .int .i64 x3)] 68 a w') id ((p_d.Month - 1).toNat + 2) ⟨W (p_d.Day - 1), 1, h, S.nf [true] rfl ⟨rfl, rfl, rfl, trivial⟩⟩ ?_
   clear S h; rintro m1 a w31 ⟨x2, x3, h, S⟩
   cases m1 with
   | zero => rw [swimmer_DayOf_l1.eq_1] at h; cases h
   | succ m1 =>
    rw [swimmer_DayOf_l1.eq_2] at h
    refine f_seq ?_
    refine f_seq ?_
    refine f_region ?_
    refine lv S (rn_move (S.tm rfl)) rfl ?_; clear S; intro a S
    refine lv S (rn_fld fa_67_1 (S.tm rfl)) rfl ?_; clear S; intro a S
    refine lv S (rn_load Tryd.isAgg3 (S.tm rfl) (S.cell (i := 0) rfl rfl)) rfl ?_; clear S; intro a S
    refine lv S (rn_lss (S.tm rfl) (S.tm rfl)) rfl ?_; clear S; intro a S
    refine l_done ?_
    replace S := S.nk [.blk b1 [.int .i64 p_d.Year, .int .i64 p_d.Month, .int .i64 p_d.Day] 67] [(1, .pointer (some ⟨b1, 0, none⟩)), (4, .int .i64 x2), (5, .int .i64 x3), (35, .bool (decide (x3 < p_d.Month)))] [true] rfl ⟨rfl, rfl, rfl, rfl, trivial⟩
    refine then_n ?_
    refine f_cond (S.tm rfl) (fun hb5 => ?_) (fun hb5 => ?_)
    ·replace h := iteT h hb5
     refine wp_skip ?_
     refine then_n ?_
     refine f_seq ?_
     refine wp_block ?_
     refine f_region ?_
     refine lv S (rn_move (S.tm rfl)) rfl ?_; clear S; intro a S
     refine lv S (rn_fld fa_67_0 (S.tm rfl)) rfl ?_; clear S; intro a S
     refine lv S (rn_load Tryd.isAgg3 (S.tm rfl) (S.cell (i := 0) rfl rfl)) rfl ?_; clear S; intro a S
     refine lv S (rn_move (S.tm rfl)) rfl ?_; clear S; intro a S
     refine l_enter S (fun _ => run_call (vs := [.int .i64 p_d.Year, .int .i64 x3]) ⟨(S.tm rfl), (S.tm rfl), trivial⟩ Tryd.call46) (swimmer_long_ok _ p_d.Year x3 _ rfl) rfl ?_; clear S; intro v25 a w33 hv25 hk30 hn25 S
     subst hv25
     refine lv S (rn_add (S.tm rfl) (S.tm rfl)) rfl ?_; clear S; intro a S
     refine lv S (rn_assign (S.tm rfl)) rfl ?_; clear S; intro a S
     refine l_done ?_
     replace S := S.nk [.blk b1 [.int .i64 p_d.Year, .int .i64 p_d.Month, .int .i64 p_d.Day] 67] [(1, .pointer (some ⟨b1, 0, none⟩)), (4, .int .i64 (W (x2 + (swimmer_long p_d.Year x3)))), (5, .int .i64 x3)] [true] rfl ⟨rfl, rfl, rfl, trivial⟩
     refine blk_n ?_
     refine then_n ?_
     refine f_region ?_
     refine lv S (rn_move (S.tm rfl)) rfl ?_; clear S; intro a S
     refine lv S (rn_add (S.tm rfl) rfl) rfl ?_; clear S; intro a S
     refine lv S (rn_assign (S.tm rfl)) rfl ?_; clear S; intro a S
     refine l_done ?_
     replace S := S.nk [.blk b1 [.int .i64 p_d.Year, .int .i64 p_d.Month, .int .i64 p_d.Day] 67] [(1, .pointer (some ⟨b1, 0, none⟩)), (4, .int .i64 (W (x2 + (swimmer_long p_d.Year x3)))), (5, .int .i64 (W (x3 + 1)))] [true] rfl ⟨rfl, rfl, rfl, trivial⟩
     refine then_n ?_
     exact ⟨m1, ⟨W (x2 + (swimmer_long p_d.Year x3)), W (x3 + 1), h, S.nf [true] rfl ⟨rfl, rfl, rfl, trivial⟩⟩, Nat.lt_succ_self _⟩
    ·replace h := iteF h hb5
     refine wp_exit ?_
     refine then_x ?_
     refine then_x ?_
     refine x_same ?_
     refine then_n ?_
     exact ⟨x2, h, S.nf [true] rfl ⟨rfl, rfl, trivial⟩⟩
  clear S h; rintro a w32 ⟨x2, h, S⟩; rw [hj2] at h; clear hj2 j2
  refine then_n ?_
  refine f_seq ?_
  refine f_seq ?_
  refine f_region ?_
  refine lv S (rn_assign rfl) rfl ?_; clear S; intro a S
  refine l_done ?_
  replace S := S.nk [.blk b1 [.int .i64 p_d.Year, .int .i64 p_d.Month, .int .i64 p_d.Day] 67] [(1, .pointer (some ⟨b1, 0, none⟩)), (4, .int .i64 x2), (6, .int .i64 2024)] [true] rfl ⟨rfl, rfl, rfl, trivial⟩
  refine then_n ?_
  obtain ⟨j3, hj3, h⟩ := joinE h
  refine f_join (fun a w' => ∃ x4 : Int, j3 x4 = some r ∧ Sx w [] nov [.blk b1 [.int .i64 p_d.Year, .int .i64 p_d.Month, .int .i64 p_d.Day] 67] [(1, .pointer (some ⟨b1, 0, none⟩)), (4, .int .i64 x4)] 68 a w') ?_ ?_
  ·refine wp_block ?_
   refine f_loop (fun (m2 : Nat) a w' => ∃ x4 : Int, ∃ x5 : Int, swimmer_DayOf_l2 p_d j3 m2 x4 x5 = some r ∧ Sx w [] nov [.blk b1 [.int .i64 p_d.Year, .int .i64 p_d.Month, .int .i64 p_d.Day] 67] [(1, .pointer (some ⟨b1, 0, none⟩)), (4, .int .i64 x4), (6, .int .i64 x5)] 68 a w') id ((p_d.Year - 2024).toNat + 2) ⟨x2, 2024, h, S.nf [true] rfl ⟨rfl, rfl, rfl, trivial⟩⟩ ?_
   clear S h; rintro m2 a w34 ⟨x4, x5, h, S⟩
   cases m2 with
   | zero => rw [swimmer_DayOf_l2.eq_1] at h; cases h
   | succ m2 =>
    rw [swimmer_DayOf_l2.eq_2] at h
    refine f_seq ?_
    refine f_seq ?_
    refine f_region ?_
    refine lv S (rn_move (S.tm rfl)) rfl ?_; clear S; intro a S
    refine lv S (rn_fld fa_67_0 (S.tm rfl)) rfl ?_; clear S; intro a S
    refine lv S (rn_load Tryd.isAgg3 (S.tm rfl) (S.cell (i := 0) rfl rfl)) rfl ?_; clear S; intro a S
    refine lv S (rn_lss (S.tm rfl) (S.tm rfl)) rfl ?_; clear S; intro a S
    refine l_done ?_
    replace S := S.nk [.blk b1 [.int .i64 p_d.Year, .int .i64 p_d.Month, .int .i64 p_d.Day] 67] [(1, .pointer (some ⟨b1, 0, none⟩)), (4, .int .i64 x4), (6, .int .i64 x5), (47, .bool (decide (x5 < p_d.Year)))] [true] rfl ⟨rfl, rfl, rfl, rfl, trivial⟩
    refine then_n ?_
    refine f_cond (S.tm rfl) (fun hb6 => ?_) (fun hb6 => ?_)
    ·replace h := iteT h hb6
     refine wp_skip ?_
     refine then_n ?_
     refine f_seq ?_
     refine wp_block ?_
     refine f_region ?_
     refine lv S (rn_move (S.tm rfl)) rfl ?_; clear S; intro a S
     refine lv S (rn_move (S.tm rfl)) rfl ?_; clear S; intro a S
     refine l_enter S (fun _ => run_call (vs := [.int .i64 x5]) ⟨(S.tm rfl), trivial⟩ Tryd.call47) (swimmer_yearLong_ok _ x5 _ rfl) rfl ?_; clear S; intro v26 a w36 hv26 hk31 hn26 S
     subst hv26
     refine lv S (rn_add (S.tm rfl) (S.tm rfl)) rfl ?_; clear S; intro a S
     refine lv S (rn_assign (S.tm rfl)) rfl ?_; clear S; intro a S
     refine l_done ?_
     replace S := S.nk [.blk b1 [.int .i64 p_d.Year, .int .i64 p_d.Month, .int .i64 p_d.Day] 67] [(1, .pointer (some ⟨b1, 0, none⟩)), (4, .int .i64 (W (x4 + (swimmer_yearLong x5)))), (6, .int .i64 x5)] [true] rfl ⟨rfl, rfl, rfl, trivial⟩
     refine blk_n ?_
     refine then_n ?_
     refine f_region ?_
     refine lv S (rn_move (S.tm rfl)) rfl ?_; clear S; intro a S
     refine lv S (rn_add (S.tm rfl) rfl) rfl ?_; clear S; intro a S
     refine lv S (rn_assign (S.tm rfl)) rfl ?_; clear S; intro a S
     refine l_done ?_
     replace S := S.nk [.blk b1 [.int .i64 p_d.Year, .int .i64 p_d.Month, .int .i64 p_d.Day] 67] [(1, .pointer (some ⟨b1, 0, none⟩)), (4, .int .i64 (W (x4 + (swimmer_yearLong x5)))), (6, .int .i64 (W (x5 + 1)))] [true] rfl ⟨rfl, rfl, rfl, trivial⟩
     refine then_n ?_
     exact ⟨m2, ⟨W (x4 + (swimmer_yearLong x5)), W (x5 + 1), h, S.nf [true] rfl ⟨rfl, rfl, rfl, trivial⟩⟩, Nat.lt_succ_self _⟩
    ·replace h := iteF h hb6
     refine wp_exit ?_
     refine then_x ?_
     refine then_x ?_
     refine x_same ?_
     refine then_n ?_
     exact ⟨x4, h, S.nf [true] rfl ⟨rfl, rfl, trivial⟩⟩
  clear S h; rintro a w35 ⟨x4, h, S⟩; rw [hj3] at h; clear hj3 j3
  refine then_n ?_
  refine f_seq ?_
  refine f_seq ?_
  refine f_region ?_
  refine lv S (rn_fld fa_67_0 (S.tm rfl)) rfl ?_; clear S; intro a S
  refine lv S (rn_load Tryd.isAgg3 (S.tm rfl) (S.cell (i := 0) rfl rfl)) rfl ?_; clear S; intro a S
  refine lv S (rn_assign (S.tm rfl)) rfl ?_; clear S; intro a S
  refine l_done ?_
  replace S := S.nk [] [(4, .int .i64 x4), (7, .int .i64 p_d.Year)] [false] rfl ⟨rfl, rfl, trivial⟩
  refine then_n ?_
  obtain ⟨j4, hj4, h⟩ := joinE h
  refine f_join (fun a w' => ∃ x6 : Int, j4 x6 = some r ∧ Sx w [] nov [] [(4, .int .i64 x6)] 68 a w') ?_ ?_
  ·refine wp_block ?_
   refine f_loop (fun (m3 : Nat) a w' => ∃ x6 : Int, ∃ x7 : Int, swimmer_DayOf_l3 j4 m3 x6 x7 = some r ∧ Sx w [] nov [] [(4, .int .i64 x6), (7, .int .i64 x7)] 68 a w') id ((2024 - p_d.Year).toNat + 2) ⟨x4, p_d.Year, h, S.nf [] rfl ⟨rfl, rfl, trivial⟩⟩ ?_
   clear S h; rintro m3 a w37 ⟨x6, x7, h, S⟩
   cases m3 with
   | zero => rw [swimmer_DayOf_l3.eq_1] at h; cases h
   | succ m3 =>
    rw [swimmer_DayOf_l3.eq_2] at h
    refine f_seq ?_
    refine f_seq ?_
    refine f_region ?_
    refine lv S (rn_move (S.tm rfl)) rfl ?_; clear S; intro a S
    refine lv S (rn_lss (S.tm rfl) rfl) rfl ?_; clear S; intro a S
    refine l_done ?_
    replace S := S.nk [] [(4, .int .i64 x6), (7, .int .i64 x7), (57, .bool (decide (x7 < 2024)))] [] rfl ⟨rfl, rfl, rfl, trivial⟩
    refine then_n ?_
    refine f_cond (S.tm rfl) (fun hb7 => ?_) (fun hb7 => ?_)
    ·replace h := iteT h hb7
     refine wp_skip ?_
     refine then_n ?_
     refine f_seq ?_
     refine wp_block ?_
     refine f_region ?_
     refine lv S (rn_move (S.tm rfl)) rfl ?_; clear S; intro a S
     refine lv S (rn_move (S.tm rfl)) rfl ?_; clear S; intro a S
     refine l_enter S (fun _ => run_call (vs := [.int .i64 x7]) ⟨(S.tm rfl), trivial⟩ Tryd.call47) (swimmer_yearLong_ok _ x7 _ rfl) rfl ?_; clear S; intro v27 a w39 hv27 hk32 hn27 S
     subst hv27
     refine lv S (rn_sub (S.tm rfl) (S.tm rfl)) rfl ?_; clear S; intro a S
     refine lv S (rn_assign (S.tm rfl)) rfl ?_; clear S; intro a S
     refine l_done ?_
     replace S := S.nk [] [(4, .int .i64 (W (x6 - (swimmer_yearLong x7)))), (7, .int .i64 x7)] [] rfl ⟨rfl, rfl, trivial⟩
     refine blk_n ?_
     refine then_n ?_
     refine f_region ?_
     refine lv S (rn_move (S.tm rfl)) rfl ?_; clear S; intro a S
     refine lv S (rn_add (S.tm rfl) rfl) rfl ?_; clear S; intro a S
     refine lv S (rn_assign (S.tm rfl)) rfl ?_; clear S; intro a S
     refine l_done ?_
     replace S := S.nk [] [(4, .int .i64 (W (x6 - (swimmer_yearLong x7)))), (7, .int .i64 (W (x7 + 1)))] [] rfl ⟨rfl, rfl, trivial⟩
     refine then_n ?_
     exact ⟨m3, ⟨W (x6 - (swimmer_yearLong x7)), W (x7 + 1), h, S.nf [] rfl ⟨rfl, rfl, trivial⟩⟩, Nat.lt_succ_self _⟩
    ·replace h := iteF h hb7
     refine wp_exit ?_
     refine then_x ?_
     refine then_x ?_
     refine x_same ?_
     refine then_n ?_
     exact ⟨x6, h, S.nf [] rfl ⟨rfl, trivial⟩⟩
  clear S h; rintro a w38 ⟨x6, h, S⟩; rw [hj4] at h; clear hj4 j4
  refine then_n ?_
  refine f_seq ?_
  refine f_seq ?_
  refine f_region ?_
  refine lv S (rn_move (S.tm rfl)) rfl ?_; clear S; intro a S
  refine l_enter S (fun _ => run_call (vs := [.int .i64 x6]) ⟨(S.tm rfl), trivial⟩ Tryd.call36) (swimmer_isDay_ok _ x6 _ rfl) rfl ?_; clear S; intro v28 a w40 hv28 hk33 hn28 S
  subst hv28
  refine lv S (rn_not (S.tm rfl)) rfl ?_; clear S; intro a S
  refine l_done ?_
  replace S := S.nk [] [(4, .int .i64 x6), (66, .bool (!(swimmer_isDay x6)))] [] rfl ⟨rfl, rfl, trivial⟩
  refine then_n ?_
  refine f_cond (S.tm rfl) (fun hb8 => ?_) (fun hb8 => ?_)
  ·replace h := iteT h hb8
   refine f_seq ?_
   refine f_region ?_
   refine lv S (rn_assign rfl) rfl ?_; clear S; intro a S
   refine lv S (rn_assign rfl) rfl ?_; clear S; intro a S
   refine l_done ?_
   replace S := S.nk [] [(2, .int .i64 0), (3, .int .i64 1)] [] rfl ⟨rfl, rfl, trivial⟩
   refine then_n ?_
   refine wp_ret ?_
   refine then_r ?_
   obtain rfl := Option.some.inj h
   exact f_ret2 S Tryd.results38 rfl rfl rfl
  ·replace h := iteF h hb8
   refine wp_skip ?_
   refine then_n ?_
   refine f_seq ?_
   refine f_region ?_
   refine lv S (rn_move (S.tm rfl)) rfl ?_; clear S; intro a S
   refine lv S (rn_assign (S.tm rfl)) rfl ?_; clear S; intro a S
   refine lv S (rn_assign rfl) rfl ?_; clear S; intro a S
   refine l_done ?_
   replace S := S.nk [] [(2, .int .i64 x6), (3, .int .i64 0)] [] rfl ⟨rfl, rfl, trivial⟩
   refine then_n ?_
   refine wp_ret ?_
   obtain rfl := Option.some.inj h
   exact f_ret2 S Tryd.results38 rfl rfl rfl
theorem tumblaw2_dated_ok (w : World) (r : Bool) (h : tumblaw2_dated = some r) :
    Calls Tryd.prog 20 [].toArray w (Ret w [] fun _ v _ => v = .bool r) := by
 refine f_enter [] [] Tryd.func20 rfl Tryd.ntmps20 rfl (by simp) (by simp [fps]) (by simp [fps]) fun a S => ?_
 unfold tumblaw2_dated at h
 replace S := S.nk [] [] [] rfl trivial
 refine f_seq ?_
 refine f_region ?_
 refine lv S (rn_assign rfl) rfl ?_; clear S; intro a S
 refine l_done ?_
 replace S := S.nk [] [] [] rfl trivial
 refine then_n ?_
 refine f_seq ?_
 refine f_region ?_
 refine lv S (rn_bld bt_67 (pv := [(0, .int .i64 2024), (1, .int .i64 3), (2, .int .i64 1)]) ⟨rfl, rfl, rfl, rfl, rfl, rfl, trivial⟩ (cs := [.int .i64 2024, .int .i64 3, .int .i64 1]) (by kernel_rfl)) rfl ?_; clear S; intro a S
 obtain ⟨r1, hr1, h⟩ := bindE h
 refine l_enter S (fun _ => run_call (vs := [.agg (GDate.enc (GDate.mk 2024 3 1)).toArray]) ⟨(S.tm rfl), trivial⟩ Tryd.call38) (swimmer_DayOf_ok _ (GDate.mk 2024 3 1) _ hr1) rfl ?_; clear S; intro v1 a w1 hv1 hk1 hn1 S
 subst hv1
 refine lv S (rn_move (S.tm rfl)) rfl ?_; clear S; intro a S
 refine lv S (rn_extract (S.tm rfl) rfl) rfl ?_; clear S; intro a S
 refine lv S (rn_extract (S.tm rfl) rfl) rfl ?_; clear S; intro a S
 refine lv S (rn_assign (S.tm rfl)) rfl ?_; clear S; intro a S
 refine lv S (rn_assign (S.tm rfl)) rfl ?_; clear S; intro a S
 refine l_done ?_
 replace S := S.nk [] [(1, .int .i64 r1.1), (2, .int .i64 r1.2)] [] rfl ⟨rfl, rfl, trivial⟩
 refine then_n ?_
 refine f_seq ?_
 refine f_region ?_
 refine lv S (rn_move (S.tm rfl)) rfl ?_; clear S; intro a S
 refine lv S (rn_eql (S.tm rfl) rfl) rfl ?_; clear S; intro a S
 refine lv S (rn_move (S.tm rfl)) rfl ?_; clear S; intro a S
 refine f_cutm 3 (fun a w' => Keep [] w1 w' ∧ Sx w [] nov [] [(13, .bool ((decide (r1.2 = 0)) && (decide (r1.1 = 60))))] 14 a w') ?_ ?_
 ·rcases Bool.eq_false_or_eq_true (decide (r1.2 = 0)) with hb1 | hb1
  ·refine l_want S rfl rfl rfl hb1 ?_
   refine lv S (rn_move (S.tm rfl)) rfl ?_; clear S; intro a S
   refine l_want S rfl rfl rfl hb1 ?_
   refine lv S (rn_eql (S.tm rfl) rfl) rfl ?_; clear S; intro a S
   refine lv S (rn_and_t hb1 (S.tm rfl) (S.tm rfl)) rfl ?_; clear S; intro a S
   refine l_done ?_
   refine then_n ?_
   exact ⟨Keep.refl _ _, S.nf [] rfl ⟨rfl, trivial⟩⟩
  ·refine l_skip S rfl rfl rfl (neq_f hb1) rfl ?_ rfl; clear S; intro a S
   refine l_skip S rfl rfl rfl (neq_f hb1) rfl ?_ rfl; clear S; intro a S
   refine lv S (rn_and_f (decide (r1.1 = 60)) hb1 (S.tm rfl) rfl) rfl ?_; clear S; intro a S
   refine l_done ?_
   refine then_n ?_
   exact ⟨Keep.refl _ _, S.nf [] rfl ⟨rfl, trivial⟩⟩
 clear S; rintro a w2 ⟨hk2, S⟩
 refine lv S (rn_assign (S.tm rfl)) rfl ?_; clear S; intro a S
 refine l_done ?_
 replace S := S.nk [] [(0, .bool ((decide (r1.2 = 0)) && (decide (r1.1 = 60))))] [] rfl ⟨rfl, trivial⟩
 refine then_n ?_
 refine wp_ret ?_
 obtain rfl := Option.some.inj h
 exact f_ret S Tryd.results20 rfl rfl
theorem tumblaw2_TimesQualify_ok (w : World) (v_p_l : Value) (p_l : List Int) (hs_p_l : Slc (view w []) 1 v_p_l (p_l.map eInt)) (r : Bool) (h : tumblaw2_TimesQualify p_l = some r) :
    Calls Tryd.prog 3 [v_p_l].toArray w (Ret w [] fun _ v _ => v = .bool r) := by
 refine f_enter [] [] Tryd.func3 rfl Tryd.ntmps3 rfl (by simp) (by simp [fps]) (by simp [fps]) fun a S => ?_
 unfold tumblaw2_TimesQualify at h
 replace S := S.nk [] [(0, v_p_l)] [] rfl ⟨rfl, trivial⟩
 refine f_seq ?_
 refine f_region ?_
 refine lv S (rn_assign rfl) rfl ?_; clear S; intro a S
 refine l_done ?_
 replace S := S.nk [] [(0, v_p_l)] [] rfl ⟨rfl, trivial⟩
 refine then_n ?_
 refine f_seq ?_
 refine f_region ?_
 refine lv S (rn_move (S.tm rfl)) rfl ?_; clear S; intro a S
 refine lv S (rn_bld bt_25 (pv := [(0, v_p_l)]) ⟨rfl, (S.tm rfl), trivial⟩ (cs := [v_p_l, .int .i64 0]) (by obtain ⟨_, _, hv⟩ := (slc_len hs_p_l); rw [hv]; clear hv; kernel_rfl)) rfl ?_; clear S; intro a S
 refine l_box S (S.tm rfl) (cs := [v_p_l, .int .i64 0]) rfl rfl ?_; clear S; intro a w1 b1 hz1 hk1 S
 refine lv S (rn_assign (S.tm rfl)) rfl ?_; clear S; intro a S
 refine l_done ?_
 replace S := S.nk [.blk b1 [v_p_l, .int .i64 0] 25] [(3, .pointer (some ⟨b1, 0, none⟩))] [true] rfl ⟨rfl, trivial⟩
 refine then_n ?_
 refine f_seq ?_
 refine f_region ?_
 refine lv S (rn_move (S.tm rfl)) rfl ?_; clear S; intro a S
 refine lv S (rn_move (S.tm rfl)) rfl ?_; clear S; intro a S
 obtain ⟨r1, hr1, h⟩ := bindE h
 refine l_enter1 0 S (b := b1) rfl rfl (fun _ => .blk b1 [v_p_l, .int .i64 r1.2] 25) (fun _ => run_call (vs := [.pointer (some ⟨b1, 0, none⟩), .int .i64 0, .int .i64 8]) ⟨(S.tm rfl), rfl, rfl, trivial⟩ Tryd.call5) (Stream_Range_ok _ b1 v_p_l p_l (hs_p_l.mono (S.le_arg (fp_sub (i := 0) (e := .blk b1 [v_p_l, .int .i64 0] 25) rfl))) 0 (S.holds _ (List.mem_of_getElem? (i := 0) rfl)) 0 8 _ hr1) rfl (fun _ _ _ h => ⟨h.1, fun _ hc => by cases hc; rfl⟩) ?_; clear S; intro v1 a w2 hv1 hk2 hn1 S
 replace hv1 := hv1.2
 subst hv1
 obtain ⟨r2, hr2, h⟩ := bindE h
 have hz2 := S.keep.size
 refine l_enter1 0 S (b := b1) rfl rfl (fun _ => .blk b1 [v_p_l, .int .i64 r2.2] 25) (fun _ => run_call (vs := [.pointer (some ⟨b1, 0, none⟩), .int .i64 r1.1]) ⟨(S.tm rfl), (S.tm rfl), trivial⟩ Tryd.call4) (Stream_Marks_ok _ b1 v_p_l p_l (hs_p_l.mono (S.le_arg (fp_sub (i := 0) (e := .blk b1 [v_p_l, .int .i64 r1.2] 25) rfl))) r1.2 (S.holds _ (List.mem_of_getElem? (i := 0) rfl)) r1.1 _ hr2) rfl (fun _ _ _ h => ⟨h.1, fun _ hc => by cases hc; rfl⟩) ?_; clear S; intro v2 a w3 hv2 hk3 hn2 S
 replace hv2 := hv2.2
 obtain ⟨φ1, hl1, hm1, S⟩ := S.see' hn2 hz2
 have hs1 := hv2.mono hm1
 refine lv S (rn_move (S.tm rfl)) rfl ?_; clear S; intro a S
 obtain ⟨r3, hr3, h⟩ := bindE h
 have hz3 := S.keep.size
 refine l_enter1 0 S (b := b1) rfl rfl (fun _ => .blk b1 [v_p_l, .int .i64 r3.2] 25) (fun _ => run_call (vs := [.pointer (some ⟨b1, 0, none⟩)]) ⟨(S.tm rfl), trivial⟩ Tryd.call6) (Stream_Standards_ok _ b1 v_p_l p_l (hs_p_l.mono (S.le_arg (fp_sub (i := 0) (e := .blk b1 [v_p_l, .int .i64 r2.2] 25) rfl))) r2.2 (S.holds _ (List.mem_of_getElem? (i := 0) rfl)) _ hr3) rfl (fun _ _ _ h => ⟨h.1, fun _ hc => by cases hc; rfl⟩) ?_; clear S; intro v3 a w4 hv3 hk4 hn3 S
 replace hv3 := hv3.2
 obtain ⟨φ2, hl2, hm2, S⟩ := S.see' hn3 hz3
 have hs2 := hv3.mono hm2
 refine lv S (rn_move (S.tm rfl)) rfl ?_; clear S; intro a S
 refine l_buildSlice S Tryd.underlying52 Tryd.sizeOf9 Tryd.zeroValue9 rfl rfl (pv := [(0, .string k_ra), (1, .string k_ra), (2, .string k_rb), (3, .string k_rz), (4, .string k_empty)]) ⟨rfl, rfl, rfl, rfl, rfl, rfl, rfl, rfl, rfl, rfl, trivial⟩ (cs := [.string k_ra, .string k_ra, .string k_rb, .string k_rz, .string k_empty]) (by kernel_rfl) rfl ?_; clear S; intro a w5 b2 hz4 hk5 S
 obtain ⟨r4, hr4, h⟩ := bindE h
 refine l_enter1 1 S (b := b1) rfl rfl (fun _ => .blk b1 [v_p_l, .int .i64 r4.2] 25) (fun _ => run_call (vs := [.pointer (some ⟨b1, 0, none⟩), .slice (some ⟨b2, 0, none⟩) 5 5]) ⟨(S.tm rfl), (S.tm rfl), trivial⟩ Tryd.call7) (Stream_Some_ok _ b1 v_p_l p_l (hs_p_l.mono (S.le_arg (fp_sub (i := 1) (e := .blk b1 [v_p_l, .int .i64 r3.2] 25) rfl))) r3.2 (S.holds _ (List.mem_of_getElem? (i := 1) rfl)) (.slice (some ⟨b2, 0, none⟩) 5 5) [k_ra, k_ra, k_rb, k_rz, k_empty] (lit_slcT enc_str S (i := 0) rfl rfl rfl rfl ((ne_fp (i := 1) (j := 0) (e := .blk b1 [v_p_l, .int .i64 r3.2] 25) (e' := .blk b2 [.string k_ra, .string k_ra, .string k_rb, .string k_rz, .string k_empty] 9) S rfl rfl rfl) _ rfl)) _ hr4) rfl (fun _ _ _ h => ⟨h.1, fun _ hc => by cases hc; rfl⟩) ?_; clear S; intro v4 a w6 hv4 hk6 hn4 S
 replace hv4 := hv4.2
 subst hv4
 refine lv S (rn_move (S.tm rfl)) rfl ?_; clear S; intro a S
 refine l_buildSlice S Tryd.underlying52 Tryd.sizeOf9 Tryd.zeroValue9 rfl rfl (pv := [(0, .string k_ann), (1, .string k_ann), (2, .string k_bea), (3, .string k_A)]) ⟨rfl, rfl, rfl, rfl, rfl, rfl, rfl, rfl, trivial⟩ (cs := [.string k_ann, .string k_ann, .string k_bea, .string k_A]) (by kernel_rfl) rfl ?_; clear S; intro a w7 b3 hz5 hk7 S
 obtain ⟨r5, hr5, h⟩ := bindE h
 refine l_enter1 2 S (b := b1) rfl rfl (fun _ => .blk b1 [v_p_l, .int .i64 r5.2] 25) (fun _ => run_call (vs := [.pointer (some ⟨b1, 0, none⟩), .slice (some ⟨b3, 0, none⟩) 4 4]) ⟨(S.tm rfl), (S.tm rfl), trivial⟩ Tryd.call7) (Stream_Some_ok _ b1 v_p_l p_l (hs_p_l.mono (S.le_arg (fp_sub (i := 2) (e := .blk b1 [v_p_l, .int .i64 r4.2] 25) rfl))) r4.2 (S.holds _ (List.mem_of_getElem? (i := 2) rfl)) (.slice (some ⟨b3, 0, none⟩) 4 4) [k_ann, k_ann, k_bea, k_A] (lit_slcT enc_str S (i := 0) rfl rfl rfl rfl ((ne_fp (i := 2) (j := 0) (e := .blk b1 [v_p_l, .int .i64 r4.2] 25) (e' := .blk b3 [.string k_ann, .string k_ann, .string k_bea, .string k_A] 9) S rfl rfl rfl) _ rfl)) _ hr5) rfl (fun _ _ _ h => ⟨h.1, fun _ hc => by cases hc; rfl⟩) ?_; clear S; intro v5 a w8 hv5 hk8 hn5 S
 replace hv5 := hv5.2
 subst hv5
 refine lv S (rn_assign (S.tm rfl)) rfl ?_; clear S; intro a S
 refine lv S (rn_assign (S.tm rfl)) rfl ?_; clear S; intro a S
 refine lv S (rn_assign (S.tm rfl)) rfl ?_; clear S; intro a S
 refine lv S (rn_assign (S.tm rfl)) rfl ?_; clear S; intro a S
 refine l_done ?_
 replace S := S.nk [.blk b1 [v_p_l, .int .i64 r5.2] 25] [(3, .pointer (some ⟨b1, 0, none⟩)), (4, v2), (5, v3), (6, .string r4.1), (7, .string r5.1)] [false, false, true] rfl ⟨rfl, rfl, rfl, rfl, rfl, trivial⟩
 refine then_n ?_
 refine f_seq ?_
 refine f_region ?_
 refine lv S (rn_move (S.tm rfl)) rfl ?_; clear S; intro a S
 refine l_buildSlice S Tryd.underlying22 Tryd.sizeOf3 Tryd.zeroValue3 rfl rfl (pv := [(0, .int .i64 0), (1, .int .i64 2), (2, .int .i64 5), (3, .int .i64 (-40001))]) ⟨rfl, rfl, rfl, rfl, rfl, rfl, rfl, rfl, trivial⟩ (cs := [.int .i64 0, .int .i64 2, .int .i64 5, .int .i64 (-40001)]) (by kernel_rfl) rfl ?_; clear S; intro a w9 b4 hz6 hk9 S
 obtain ⟨r6, hr6, h⟩ := bindE h
 refine l_enter1 1 S (b := b1) rfl rfl (fun _ => .blk b1 [v_p_l, .int .i64 r6.2] 25) (fun _ => run_call (vs := [.pointer (some ⟨b1, 0, none⟩), .slice (some ⟨b4, 0, none⟩) 4 4]) ⟨(S.tm rfl), (S.tm rfl), trivial⟩ Tryd.call8) (Stream_Pick_ok _ b1 v_p_l p_l (hs_p_l.mono (S.le_arg (fp_sub (i := 1) (e := .blk b1 [v_p_l, .int .i64 r5.2] 25) rfl))) r5.2 (S.holds _ (List.mem_of_getElem? (i := 1) rfl)) (.slice (some ⟨b4, 0, none⟩) 4 4) [0, 2, 5, (-40001)] (lit_slcT enc_int S (i := 0) rfl rfl rfl rfl ((ne_fp (i := 1) (j := 0) (e := .blk b1 [v_p_l, .int .i64 r5.2] 25) (e' := .blk b4 [.int .i64 0, .int .i64 2, .int .i64 5, .int .i64 (-40001)] 3) S rfl rfl rfl) _ rfl)) _ hr6) rfl (fun _ _ _ h => ⟨h.1, fun _ hc => by cases hc; rfl⟩) ?_; clear S; intro v6 a w10 hv6 hk10 hn6 S
 replace hv6 := hv6.2
 subst hv6
 refine lv S (rn_move (S.tm rfl)) rfl ?_; clear S; intro a S
 refine l_buildSlice S Tryd.underlying22 Tryd.sizeOf3 Tryd.zeroValue3 rfl rfl (pv := [(0, .int .i64 3), (1, .int .i64 9), (2, .int .i64 1), (3, .int .i64 4001)]) ⟨rfl, rfl, rfl, rfl, rfl, rfl, rfl, rfl, trivial⟩ (cs := [.int .i64 3, .int .i64 9, .int .i64 1, .int .i64 4001]) (by kernel_rfl) rfl ?_; clear S; intro a w11 b5 hz7 hk11 S
 obtain ⟨r7, hr7, h⟩ := bindE h
 refine l_enter1 2 S (b := b1) rfl rfl (fun _ => .blk b1 [v_p_l, .int .i64 r7.2] 25) (fun _ => run_call (vs := [.pointer (some ⟨b1, 0, none⟩), .slice (some ⟨b5, 0, none⟩) 4 4]) ⟨(S.tm rfl), (S.tm rfl), trivial⟩ Tryd.call8) (Stream_Pick_ok _ b1 v_p_l p_l (hs_p_l.mono (S.le_arg (fp_sub (i := 2) (e := .blk b1 [v_p_l, .int .i64 r6.2] 25) rfl))) r6.2 (S.holds _ (List.mem_of_getElem? (i := 2) rfl)) (.slice (some ⟨b5, 0, none⟩) 4 4) [3, 9, 1, 4001] (lit_slcT enc_int S (i := 0) rfl rfl rfl rfl ((ne_fp (i := 2) (j := 0) (e := .blk b1 [v_p_l, .int .i64 r6.2] 25) (e' := .blk b5 [.int .i64 3, .int .i64 9, .int .i64 1, .int .i64 4001] 3) S rfl rfl rfl) _ rfl)) _ hr7) rfl (fun _ _ _ h => ⟨h.1, fun _ hc => by cases hc; rfl⟩) ?_; clear S; intro v7 a w12 hv7 hk12 hn7 S
 replace hv7 := hv7.2
 subst hv7
 refine lv S (rn_assign (S.tm rfl)) rfl ?_; clear S; intro a S
 refine lv S (rn_assign (S.tm rfl)) rfl ?_; clear S; intro a S
 refine l_done ?_
 replace S := S.nk [] [(4, v2), (5, v3), (6, .string r4.1), (7, .string r5.1), (8, .int .i64 r6.1), (9, .int .i64 r7.1)] [false, false, false] rfl ⟨rfl, rfl, rfl, rfl, rfl, rfl, trivial⟩
 refine then_n ?_
 refine f_seq ?_
 refine f_region ?_
 refine lv S (rn_move (S.tm rfl)) rfl ?_; clear S; intro a S
 refine lv S (rn_move (S.tm rfl)) rfl ?_; clear S; intro a S
 refine lv S (rn_move (S.tm rfl)) rfl ?_; clear S; intro a S
 refine lv S (rn_move (S.tm rfl)) rfl ?_; clear S; intro a S
 refine lv S (rn_move (S.tm rfl)) rfl ?_; clear S; intro a S
 obtain ⟨r8, hr8, h⟩ := bindE h
 refine l_enter S (fun _ => run_call (vs := [v2, .string r4.1, .string r5.1, .int .i64 r6.1, .int .i64 r7.1]) ⟨(S.tm rfl), (S.tm rfl), (S.tm rfl), (S.tm rfl), (S.tm rfl), trivial⟩ Tryd.call9) (swimmer_Best_ok _ v2 r2.1 (((ownV_slcT GMark.enc_ok hs1).mono hl2).mono (S.le_new nil_sub)) r4.1 r5.1 r6.1 r7.1 _ hr8) rfl ?_; clear S; intro v8 a w13 hv8 hk13 hn8 S
 subst hv8
 refine lv S (rn_move (S.tm rfl)) rfl ?_; clear S; intro a S
 refine lv S (rn_extract (S.tm rfl) rfl) rfl ?_; clear S; intro a S
 refine lv S (rn_extract (S.tm rfl) rfl) rfl ?_; clear S; intro a S
 refine lv S (rn_extract (S.tm rfl) rfl) rfl ?_; clear S; intro a S
 refine l_alloc S Tryd.zeroValue34 (cs := [.string k_empty, .string k_empty, .int .i64 0, .int .i64 0]) rfl rfl ?_; clear S; intro a w14 b6 hz8 hk14 S
 refine l_store S (S.tm rfl) (S.tm rfl) (i := 0) (off := 0) rfl Tryd.sizeOf34 (vs := [.string r8.1.Who, .string r8.1.Race, .int .i64 r8.1.Day, .int .i64 r8.1.Time]) rfl rfl rfl rfl ?_; clear S; intro w15 hk15 S
 refine lv S (rn_assign (S.tm rfl)) rfl ?_; clear S; intro a S
 refine lv S (rn_assign (S.tm rfl)) rfl ?_; clear S; intro a S
 refine l_done ?_
 replace S := S.nk [.blk b6 [.string r8.1.Who, .string r8.1.Race, .int .i64 r8.1.Day, .int .i64 r8.1.Time] 34] [(4, v2), (5, v3), (6, .string r4.1), (7, .string r5.1), (8, .int .i64 r6.1), (9, .int .i64 r7.1), (10, .pointer (some ⟨b6, 0, none⟩)), (11, .bool r8.2.1), (12, .int .i64 r8.2.2)] [true] rfl ⟨rfl, rfl, rfl, rfl, rfl, rfl, rfl, rfl, rfl, trivial⟩
 refine then_n ?_
 refine f_seq ?_
 refine f_region ?_
 refine lv S (rn_move (S.tm rfl)) rfl ?_; clear S; intro a S
 refine lv S (rn_move (S.tm rfl)) rfl ?_; clear S; intro a S
 refine lv S (rn_move (S.tm rfl)) rfl ?_; clear S; intro a S
 refine lv S (rn_move (S.tm rfl)) rfl ?_; clear S; intro a S
 obtain ⟨r9, hr9, h⟩ := bindE h
 refine l_enter S (fun _ => run_call (vs := [v3, v2, .string r4.1, .string r5.1]) ⟨(S.tm rfl), (S.tm rfl), (S.tm rfl), (S.tm rfl), trivial⟩ Tryd.call10) (swimmer_Qualified_ok _ v3 r3.1 (((ownV_slcT GStandard.enc_ok hs2)).mono (S.le_new nil_sub)) v2 r2.1 (((ownV_slcT GMark.enc_ok hs1).mono hl2).mono (S.le_new nil_sub)) r4.1 r5.1 _ hr9) rfl ?_; clear S; intro v9 a w16 hv9 hk16 hn9 S
 subst hv9
 refine lv S (rn_move (S.tm rfl)) rfl ?_; clear S; intro a S
 refine lv S (rn_extract (S.tm rfl) rfl) rfl ?_; clear S; intro a S
 refine lv S (rn_extract (S.tm rfl) rfl) rfl ?_; clear S; intro a S
 refine lv S (rn_assign (S.tm rfl)) rfl ?_; clear S; intro a S
 refine lv S (rn_assign (S.tm rfl)) rfl ?_; clear S; intro a S
 refine l_done ?_
 replace S := S.nk [.blk b6 [.string r8.1.Who, .string r8.1.Race, .int .i64 r8.1.Day, .int .i64 r8.1.Time] 34] [(4, v2), (5, v3), (6, .string r4.1), (7, .string r5.1), (8, .int .i64 r6.1), (9, .int .i64 r7.1), (10, .pointer (some ⟨b6, 0, none⟩)), (11, .bool r8.2.1), (12, .int .i64 r8.2.2), (13, .bool r9.1), (14, .int .i64 r9.2)] [true] rfl ⟨rfl, rfl, rfl, rfl, rfl, rfl, rfl, rfl, rfl, rfl, rfl, trivial⟩
 refine then_n ?_
 refine f_seq ?_
 refine f_region ?_
 refine lv S (rn_move (S.tm rfl)) rfl ?_; clear S; intro a S
 obtain ⟨r10, hr10, h⟩ := bindE h
 refine l_enter S (fun _ => run_call (vs := [v2]) ⟨(S.tm rfl), trivial⟩ Tryd.call11) (tumbref2_MarksFault_ok _ v2 r2.1 (((ownV_slcT GMark.enc_ok hs1).mono hl2).mono (S.le_new nil_sub)) _ hr10) rfl ?_; clear S; intro v10 a w17 hv10 hk17 hn10 S
 subst hv10
 refine lv S (rn_assign (S.tm rfl)) rfl ?_; clear S; intro a S
 refine l_done ?_
 replace S := S.nk [.blk b6 [.string r8.1.Who, .string r8.1.Race, .int .i64 r8.1.Day, .int .i64 r8.1.Time] 34] [(4, v2), (5, v3), (6, .string r4.1), (7, .string r5.1), (8, .int .i64 r6.1), (9, .int .i64 r7.1), (10, .pointer (some ⟨b6, 0, none⟩)), (11, .bool r8.2.1), (12, .int .i64 r8.2.2), (13, .bool r9.1), (14, .int .i64 r9.2), (15, .int .i64 r10)] [true] rfl ⟨rfl, rfl, rfl, rfl, rfl, rfl, rfl, rfl, rfl, rfl, rfl, rfl, trivial⟩
 refine then_n ?_
 refine f_seq ?_
 refine f_region ?_
 refine lv S (rn_move (S.tm rfl)) rfl ?_; clear S; intro a S
 refine lv S (rn_move (S.tm rfl)) rfl ?_; clear S; intro a S
 obtain ⟨r11, hr11, h⟩ := bindE h
 refine l_enter S (fun _ => run_call (vs := [.string r4.1]) ⟨(S.tm rfl), trivial⟩ Tryd.call13) (tumblaw2_nameFault_ok _ r4.1 _ hr11) rfl ?_; clear S; intro v11 a w18 hv11 hk18 hn11 S
 subst hv11
 refine lv S (rn_move (S.tm rfl)) rfl ?_; clear S; intro a S
 obtain ⟨r12, hr12, h⟩ := bindE h
 refine l_enter S (fun _ => run_call (vs := [.string r5.1]) ⟨(S.tm rfl), trivial⟩ Tryd.call13) (tumblaw2_nameFault_ok _ r5.1 _ hr12) rfl ?_; clear S; intro v12 a w19 hv12 hk19 hn12 S
 subst hv12
 refine lv S (rn_move (S.tm rfl)) rfl ?_; clear S; intro a S
 refine lv S (rn_lss (S.tm rfl) rfl) rfl ?_; clear S; intro a S
 refine lv S (rn_move (S.tm rfl)) rfl ?_; clear S; intro a S
 refine f_cutm 4 (fun a w' => Keep [] w19 w' ∧ Sx w [] φ2 [.blk b6 [.string r8.1.Who, .string r8.1.Race, .int .i64 r8.1.Day, .int .i64 r8.1.Time] 34] [(4, v2), (5, v3), (6, .string r4.1), (7, .string r5.1), (8, .int .i64 r6.1), (9, .int .i64 r7.1), (10, .pointer (some ⟨b6, 0, none⟩)), (11, .bool r8.2.1), (12, .int .i64 r8.2.2), (13, .bool r9.1), (14, .int .i64 r9.2), (15, .int .i64 r10), (61, .int .i64 r10), (63, .int .i64 r11), (65, .int .i64 r12), (72, .bool ((decide (r6.1 < (-40000))) || (decide (r7.1 < r6.1))))] 148 a w') ?_ ?_
 ·rcases Bool.eq_false_or_eq_true (decide (r6.1 < (-40000))) with hb1 | hb1
  ·refine l_skip S rfl rfl rfl (neq_t hb1) rfl ?_ rfl; clear S; intro a S
   refine l_skip S rfl rfl rfl (neq_t hb1) rfl ?_ rfl; clear S; intro a S
   refine l_skip S rfl rfl rfl (neq_t hb1) rfl ?_ rfl; clear S; intro a S
   refine lv S (rn_or_t (decide (r7.1 < r6.1)) hb1 (S.tm rfl) rfl) rfl ?_; clear S; intro a S
   refine l_done ?_
   refine then_n ?_
   exact ⟨Keep.refl _ _, S.nf [true] rfl ⟨rfl, rfl, rfl, rfl, rfl, rfl, rfl, rfl, rfl, rfl, rfl, rfl, rfl, rfl, rfl, rfl, trivial⟩⟩
  ·refine l_want S rfl rfl rfl hb1 ?_
   refine lv S (rn_move (S.tm rfl)) rfl ?_; clear S; intro a S
   refine l_want S rfl rfl rfl hb1 ?_
   refine lv S (rn_move (S.tm rfl)) rfl ?_; clear S; intro a S
   refine l_want S rfl rfl rfl hb1 ?_
   refine lv S (rn_gtr (S.tm rfl) (S.tm rfl)) rfl ?_; clear S; intro a S
   refine lv S (rn_or_f hb1 (S.tm rfl) (S.tm rfl)) rfl ?_; clear S; intro a S
   refine l_done ?_
   refine then_n ?_
   exact ⟨Keep.refl _ _, S.nf [true] rfl ⟨rfl, rfl, rfl, rfl, rfl, rfl, rfl, rfl, rfl, rfl, rfl, rfl, rfl, rfl, rfl, rfl, trivial⟩⟩
 clear S; rintro a w20 ⟨hk20, S⟩
 refine lv S (rn_move (S.tm rfl)) rfl ?_; clear S; intro a S
 refine f_cutm 3 (fun a w' => Keep [] w20 w' ∧ Sx w [] φ2 [.blk b6 [.string r8.1.Who, .string r8.1.Race, .int .i64 r8.1.Day, .int .i64 r8.1.Time] 34] [(4, v2), (5, v3), (6, .string r4.1), (7, .string r5.1), (8, .int .i64 r6.1), (9, .int .i64 r7.1), (10, .pointer (some ⟨b6, 0, none⟩)), (11, .bool r8.2.1), (12, .int .i64 r8.2.2), (13, .bool r9.1), (14, .int .i64 r9.2), (15, .int .i64 r10), (61, .int .i64 r10), (63, .int .i64 r11), (65, .int .i64 r12), (76, .bool (((decide (r6.1 < (-40000))) || (decide (r7.1 < r6.1))) || (decide (4000 < r7.1))))] 148 a w') ?_ ?_
 ·rcases Bool.eq_false_or_eq_true ((decide (r6.1 < (-40000))) || (decide (r7.1 < r6.1))) with hb2 | hb2
  ·refine l_skip S rfl rfl rfl (neq_t hb2) rfl ?_ rfl; clear S; intro a S
   refine l_skip S rfl rfl rfl (neq_t hb2) rfl ?_ rfl; clear S; intro a S
   refine lv S (rn_or_t (decide (4000 < r7.1)) hb2 (S.tm rfl) rfl) rfl ?_; clear S; intro a S
   refine l_done ?_
   refine then_n ?_
   exact ⟨Keep.refl _ _, S.nf [true] rfl ⟨rfl, rfl, rfl, rfl, rfl, rfl, rfl, rfl, rfl, rfl, rfl, rfl, rfl, rfl, rfl, rfl, trivial⟩⟩
  ·refine l_want S rfl rfl rfl hb2 ?_
   refine lv S (rn_move (S.tm rfl)) rfl ?_; clear S; intro a S
   refine l_want S rfl rfl rfl hb2 ?_
   refine lv S (rn_gtr (S.tm rfl) rfl) rfl ?_; clear S; intro a S
   refine lv S (rn_or_f hb2 (S.tm rfl) (S.tm rfl)) rfl ?_; clear S; intro a S
   refine l_done ?_
   refine then_n ?_
   exact ⟨Keep.refl _ _, S.nf [true] rfl ⟨rfl, rfl, rfl, rfl, rfl, rfl, rfl, rfl, rfl, rfl, rfl, rfl, rfl, rfl, rfl, rfl, trivial⟩⟩
 clear S; rintro a w21 ⟨hk21, S⟩
 refine l_enter S (fun _ => run_call (vs := [.bool (((decide (r6.1 < (-40000))) || (decide (r7.1 < r6.1))) || (decide (4000 < r7.1))), .int .i64 1]) ⟨(S.tm rfl), rfl, trivial⟩ Tryd.call14) (tumblaw2_when_ok _ (((decide (r6.1 < (-40000))) || (decide (r7.1 < r6.1))) || (decide (4000 < r7.1))) 1 _ rfl) rfl ?_; clear S; intro v13 a w22 hv13 hk22 hn13 S
 subst hv13
 refine l_buildSlice S Tryd.underlying57 Tryd.sizeOf35 Tryd.zeroValue35 rfl rfl (pv := [(0, .int .i64 r10), (1, .int .i64 r11), (2, .int .i64 r12), (3, .int .i64 (tumblaw2_when (((decide (r6.1 < (-40000))) || (decide (r7.1 < r6.1))) || (decide (4000 < r7.1))) 1))]) ⟨rfl, (S.tm rfl), rfl, (S.tm rfl), rfl, (S.tm rfl), rfl, (S.tm rfl), trivial⟩ (cs := [.int .i64 r10, .int .i64 r11, .int .i64 r12, .int .i64 (tumblaw2_when (((decide (r6.1 < (-40000))) || (decide (r7.1 < r6.1))) || (decide (4000 < r7.1))) 1)]) (by kernel_rfl) rfl ?_; clear S; intro a w23 b7 hz9 hk23 S
 refine l_enter S (fun _ => run_call (vs := [.slice (some ⟨b7, 0, none⟩) 4 4]) ⟨(S.tm rfl), trivial⟩ Tryd.call12) (tumblaw2_errs_ok _ (.slice (some ⟨b7, 0, none⟩) 4 4) [r10, r11, r12, (tumblaw2_when (((decide (r6.1 < (-40000))) || (decide (r7.1 < r6.1))) || (decide (4000 < r7.1))) 1)] (lit_slcT enc_int S (i := 0) rfl rfl rfl rfl ((ne_nil (e' := .blk b7 [.int .i64 r10, .int .i64 r11, .int .i64 r12, .int .i64 (tumblaw2_when (((decide (r6.1 < (-40000))) || (decide (r7.1 < r6.1))) || (decide (4000 < r7.1))) 1)] 35)) _ rfl)) _ rfl) rfl ?_; clear S; intro v14 a w24 hv14 hk24 hn14 S
 subst hv14
 refine lv S (rn_assign (S.tm rfl)) rfl ?_; clear S; intro a S
 refine l_done ?_
 replace S := S.nk [.blk b6 [.string r8.1.Who, .string r8.1.Race, .int .i64 r8.1.Day, .int .i64 r8.1.Time] 34] [(4, v2), (5, v3), (6, .string r4.1), (7, .string r5.1), (8, .int .i64 r6.1), (9, .int .i64 r7.1), (10, .pointer (some ⟨b6, 0, none⟩)), (11, .bool r8.2.1), (12, .int .i64 r8.2.2), (13, .bool r9.1), (14, .int .i64 r9.2), (15, .int .i64 r10), (16, .int .i64 (tumblaw2_errs [r10, r11, r12, (tumblaw2_when (((decide (r6.1 < (-40000))) || (decide (r7.1 < r6.1))) || (decide (4000 < r7.1))) 1)]))] [false, true] rfl ⟨rfl, rfl, rfl, rfl, rfl, rfl, rfl, rfl, rfl, rfl, rfl, rfl, rfl, trivial⟩
 refine then_n ?_
 refine f_seq ?_
 refine f_region ?_
 refine lv S (rn_move (S.tm rfl)) rfl ?_; clear S; intro a S
 obtain ⟨r13, hr13, h⟩ := bindE h
 refine l_enter S (fun _ => run_call (vs := [v3]) ⟨(S.tm rfl), trivial⟩ Tryd.call15) (tumbref2_StandardsFault_ok _ v3 r3.1 (((ownV_slcT GStandard.enc_ok hs2)).mono (S.le_new nil_sub)) _ hr13) rfl ?_; clear S; intro v15 a w25 hv15 hk25 hn15 S
 subst hv15
 refine lv S (rn_move (S.tm rfl)) rfl ?_; clear S; intro a S
 refine lv S (rn_move (S.tm rfl)) rfl ?_; clear S; intro a S
 obtain ⟨r14, hr14, h⟩ := bindE h
 refine l_enter S (fun _ => run_call (vs := [.string r4.1]) ⟨(S.tm rfl), trivial⟩ Tryd.call13) (tumblaw2_nameFault_ok _ r4.1 _ hr14) rfl ?_; clear S; intro v16 a w26 hv16 hk26 hn16 S
 subst hv16
 refine lv S (rn_move (S.tm rfl)) rfl ?_; clear S; intro a S
 obtain ⟨r15, hr15, h⟩ := bindE h
 refine l_enter S (fun _ => run_call (vs := [.string r5.1]) ⟨(S.tm rfl), trivial⟩ Tryd.call13) (tumblaw2_nameFault_ok _ r5.1 _ hr15) rfl ?_; clear S; intro v17 a w27 hv17 hk27 hn17 S
 subst hv17
 refine l_buildSlice S Tryd.underlying57 Tryd.sizeOf35 Tryd.zeroValue35 rfl rfl (pv := [(0, .int .i64 r13), (1, .int .i64 r10), (2, .int .i64 r14), (3, .int .i64 r15)]) ⟨rfl, (S.tm rfl), rfl, (S.tm rfl), rfl, (S.tm rfl), rfl, (S.tm rfl), trivial⟩ (cs := [.int .i64 r13, .int .i64 r10, .int .i64 r14, .int .i64 r15]) (by kernel_rfl) rfl ?_; clear S; intro a w28 b8 hz10 hk28 S
 refine l_enter S (fun _ => run_call (vs := [.slice (some ⟨b8, 0, none⟩) 4 4]) ⟨(S.tm rfl), trivial⟩ Tryd.call12) (tumblaw2_errs_ok _ (.slice (some ⟨b8, 0, none⟩) 4 4) [r13, r10, r14, r15] (lit_slcT enc_int S (i := 0) rfl rfl rfl rfl ((ne_nil (e' := .blk b8 [.int .i64 r13, .int .i64 r10, .int .i64 r14, .int .i64 r15] 35)) _ rfl)) _ rfl) rfl ?_; clear S; intro v18 a w29 hv18 hk29 hn18 S
 subst hv18
 refine lv S (rn_assign (S.tm rfl)) rfl ?_; clear S; intro a S
 refine l_done ?_
 replace S := S.nk [.blk b6 [.string r8.1.Who, .string r8.1.Race, .int .i64 r8.1.Day, .int .i64 r8.1.Time] 34] [(4, v2), (5, v3), (6, .string r4.1), (7, .string r5.1), (8, .int .i64 r6.1), (9, .int .i64 r7.1), (10, .pointer (some ⟨b6, 0, none⟩)), (11, .bool r8.2.1), (12, .int .i64 r8.2.2), (13, .bool r9.1), (14, .int .i64 r9.2), (15, .int .i64 r10), (16, .int .i64 (tumblaw2_errs [r10, r11, r12, (tumblaw2_when (((decide (r6.1 < (-40000))) || (decide (r7.1 < r6.1))) || (decide (4000 < r7.1))) 1)])), (17, .int .i64 (tumblaw2_errs [r13, r10, r14, r15]))] [false, true] rfl ⟨rfl, rfl, rfl, rfl, rfl, rfl, rfl, rfl, rfl, rfl, rfl, rfl, rfl, rfl, trivial⟩
 refine then_n ?_
 refine f_seq ?_
 refine f_region ?_
 refine lv S (rn_bld bt_34 (pv := []) trivial (cs := [.string k_empty, .string k_empty, .int .i64 0, .int .i64 0]) (by kernel_rfl)) rfl ?_; clear S; intro a S
 refine l_alloc S Tryd.zeroValue34 (cs := [.string k_empty, .string k_empty, .int .i64 0, .int .i64 0]) rfl rfl ?_; clear S; intro a w30 b9 hz11 hk30 S
 refine l_store S (S.tm rfl) (S.tm rfl) (i := 0) (off := 0) rfl Tryd.sizeOf34 (vs := [.string k_empty, .string k_empty, .int .i64 0, .int .i64 0]) rfl rfl rfl rfl ?_; clear S; intro w31 hk31 S
 refine lv S (rn_assign rfl) rfl ?_; clear S; intro a S
 refine l_done ?_
 replace S := S.nk [.blk b9 [.string k_empty, .string k_empty, .int .i64 0, .int .i64 0] 34, .blk b6 [.string r8.1.Who, .string r8.1.Race, .int .i64 r8.1.Day, .int .i64 r8.1.Time] 34] [(4, v2), (5, v3), (6, .string r4.1), (7, .string r5.1), (8, .int .i64 r6.1), (9, .int .i64 r7.1), (10, .pointer (some ⟨b6, 0, none⟩)), (11, .bool r8.2.1), (12, .int .i64 r8.2.2), (13, .bool r9.1), (14, .int .i64 r9.2), (15, .int .i64 r10), (16, .int .i64 (tumblaw2_errs [r10, r11, r12, (tumblaw2_when (((decide (r6.1 < (-40000))) || (decide (r7.1 < r6.1))) || (decide (4000 < r7.1))) 1)])), (17, .int .i64 (tumblaw2_errs [r13, r10, r14, r15])), (18, .pointer (some ⟨b9, 0, none⟩)), (19, .bool false)] [true, true] rfl ⟨rfl, rfl, rfl, rfl, rfl, rfl, rfl, rfl, rfl, rfl, rfl, rfl, rfl, rfl, rfl, rfl, trivial⟩
 refine then_n ?_
 refine f_seq ?_
 refine f_seq ?_
 refine f_region ?_
 refine lv S (rn_move (S.tm rfl)) rfl ?_; clear S; intro a S
 refine lv S (rn_eql (S.tm rfl) rfl) rfl ?_; clear S; intro a S
 refine l_done ?_
 replace S := S.nk [.blk b9 [.string k_empty, .string k_empty, .int .i64 0, .int .i64 0] 34, .blk b6 [.string r8.1.Who, .string r8.1.Race, .int .i64 r8.1.Day, .int .i64 r8.1.Time] 34] [(4, v2), (5, v3), (6, .string r4.1), (7, .string r5.1), (8, .int .i64 r6.1), (9, .int .i64 r7.1), (10, .pointer (some ⟨b6, 0, none⟩)), (11, .bool r8.2.1), (12, .int .i64 r8.2.2), (13, .bool r9.1), (14, .int .i64 r9.2), (15, .int .i64 r10), (16, .int .i64 (tumblaw2_errs [r10, r11, r12, (tumblaw2_when (((decide (r6.1 < (-40000))) || (decide (r7.1 < r6.1))) || (decide (4000 < r7.1))) 1)])), (17, .int .i64 (tumblaw2_errs [r13, r10, r14, r15])), (18, .pointer (some ⟨b9, 0, none⟩)), (19, .bool false), (91, .bool (decide ((tumblaw2_errs [r10, r11, r12, (tumblaw2_when (((decide (r6.1 < (-40000))) || (decide (r7.1 < r6.1))) || (decide (4000 < r7.1))) 1)]) = 0)))] [true, true] rfl ⟨rfl, rfl, rfl, rfl, rfl, rfl, rfl, rfl, rfl, rfl, rfl, rfl, rfl, rfl, rfl, rfl, rfl, trivial⟩
 refine then_n ?_
 obtain ⟨j1, hj1, h⟩ := joinE h
 refine f_join (fun a w' => ∃ x1 : ByteArray, ∃ x2 : ByteArray, ∃ x3 : Int, ∃ x4 : Int, ∃ x5 : Bool, j1 x1 x2 x3 x4 x5 = some r ∧ Sx w [] φ2 [.blk b9 [.string x1, .string x2, .int .i64 x3, .int .i64 x4] 34, .blk b6 [.string r8.1.Who, .string r8.1.Race, .int .i64 r8.1.Day, .int .i64 r8.1.Time] 34] [(4, v2), (5, v3), (6, .string r4.1), (7, .string r5.1), (10, .pointer (some ⟨b6, 0, none⟩)), (11, .bool r8.2.1), (12, .int .i64 r8.2.2), (13, .bool r9.1), (14, .int .i64 r9.2), (15, .int .i64 r10), (16, .int .i64 (tumblaw2_errs [r10, r11, r12, (tumblaw2_when (((decide (r6.1 < (-40000))) || (decide (r7.1 < r6.1))) || (decide (4000 < r7.1))) 1)])), (17, .int .i64 (tumblaw2_errs [r13, r10, r14, r15])), (18, .pointer (some ⟨b9, 0, none⟩)), (19, .bool x5)] 148 a w') ?_ ?_
 ·refine f_cond (S.tm rfl) (fun hb3 => ?_) (fun hb3 => ?_)
  ·replace h := iteT h hb3
   refine f_region ?_
   refine lv S (rn_move (S.tm rfl)) rfl ?_; clear S; intro a S
   refine lv S (rn_move (S.tm rfl)) rfl ?_; clear S; intro a S
   refine lv S (rn_move (S.tm rfl)) rfl ?_; clear S; intro a S
   refine lv S (rn_move (S.tm rfl)) rfl ?_; clear S; intro a S
   refine lv S (rn_move (S.tm rfl)) rfl ?_; clear S; intro a S
   obtain ⟨r16, hr16, h⟩ := bindE h
   refine l_enter S (fun _ => run_call (vs := [v2, .string r4.1, .string r5.1, .int .i64 r6.1, .int .i64 r7.1]) ⟨(S.tm rfl), (S.tm rfl), (S.tm rfl), (S.tm rfl), (S.tm rfl), trivial⟩ Tryd.call16) (tumbref2_BestMark_ok _ v2 r2.1 (((ownV_slcT GMark.enc_ok hs1).mono hl2).mono (S.le_new nil_sub)) r4.1 r5.1 r6.1 r7.1 _ hr16) rfl ?_; clear S; intro v19 a w33 hv19 hk32 hn19 S
   subst hv19
   refine lv S (rn_move (S.tm rfl)) rfl ?_; clear S; intro a S
   refine lv S (rn_extract (S.tm rfl) rfl) rfl ?_; clear S; intro a S
   refine lv S (rn_extract (S.tm rfl) rfl) rfl ?_; clear S; intro a S
   refine l_store S (S.tm rfl) (S.tm rfl) (i := 0) (off := 0) rfl Tryd.sizeOf34 (vs := [.string r16.1.Who, .string r16.1.Race, .int .i64 r16.1.Day, .int .i64 r16.1.Time]) rfl rfl rfl rfl ?_; clear S; intro w34 hk33 S
   refine lv S (rn_assign (S.tm rfl)) rfl ?_; clear S; intro a S
   refine l_done ?_
   replace S := S.nk [.blk b9 [.string r16.1.Who, .string r16.1.Race, .int .i64 r16.1.Day, .int .i64 r16.1.Time] 34, .blk b6 [.string r8.1.Who, .string r8.1.Race, .int .i64 r8.1.Day, .int .i64 r8.1.Time] 34] [(4, v2), (5, v3), (6, .string r4.1), (7, .string r5.1), (10, .pointer (some ⟨b6, 0, none⟩)), (11, .bool r8.2.1), (12, .int .i64 r8.2.2), (13, .bool r9.1), (14, .int .i64 r9.2), (15, .int .i64 r10), (16, .int .i64 (tumblaw2_errs [r10, r11, r12, (tumblaw2_when (((decide (r6.1 < (-40000))) || (decide (r7.1 < r6.1))) || (decide (4000 < r7.1))) 1)])), (17, .int .i64 (tumblaw2_errs [r13, r10, r14, r15])), (18, .pointer (some ⟨b9, 0, none⟩)), (19, .bool r16.2)] [true, true] rfl ⟨rfl, rfl, rfl, rfl, rfl, rfl, rfl, rfl, rfl, rfl, rfl, rfl, rfl, rfl, trivial⟩
   refine then_n ?_
   exact ⟨r16.1.Who, r16.1.Race, r16.1.Day, r16.1.Time, r16.2, h, S.nf [true, true] rfl ⟨rfl, rfl, rfl, rfl, rfl, rfl, rfl, rfl, rfl, rfl, rfl, rfl, rfl, rfl, trivial⟩⟩
  ·replace h := iteF h hb3
   refine wp_skip ?_
   refine then_n ?_
   exact ⟨k_empty, k_empty, 0, 0, false, h, S.nf [true, true] rfl ⟨rfl, rfl, rfl, rfl, rfl, rfl, rfl, rfl, rfl, rfl, rfl, rfl, rfl, rfl, trivial⟩⟩
 clear S h; rintro a w32 ⟨x1, x2, x3, x4, x5, h, S⟩; rw [hj1] at h; clear hj1 j1
 refine then_n ?_
 refine f_seq ?_
 refine f_region ?_
 refine lv S (rn_move (S.tm rfl)) rfl ?_; clear S; intro a S
 obtain ⟨r17, hr17, h⟩ := bindE h
 refine l_enter S (fun _ => run_call (vs := [v2]) ⟨(S.tm rfl), trivial⟩ Tryd.call17) (swimmer_CheckMarks_ok _ v2 r2.1 (((ownV_slcT GMark.enc_ok hs1).mono hl2).mono (S.le_new nil_sub)) _ hr17) rfl ?_; clear S; intro v20 a w35 hv20 hk34 hn20 S
 subst hv20
 refine lv S (rn_move (S.tm rfl)) rfl ?_; clear S; intro a S
 refine lv S (rn_eql (S.tm rfl) (S.tm rfl)) rfl ?_; clear S; intro a S
 refine lv S (rn_move (S.tm rfl)) rfl ?_; clear S; intro a S
 obtain ⟨j2, hj2, h⟩ := joinE h
 refine f_cutm 6 (fun a w' => ∃ c1, j2 c1 = some r ∧ Keep [] w35 w' ∧ Sx w [] φ2 [.blk b9 [.string x1, .string x2, .int .i64 x3, .int .i64 x4] 34, .blk b6 [.string r8.1.Who, .string r8.1.Race, .int .i64 r8.1.Day, .int .i64 r8.1.Time] 34] [(4, v2), (5, v3), (6, .string r4.1), (7, .string r5.1), (10, .pointer (some ⟨b6, 0, none⟩)), (11, .bool r8.2.1), (12, .int .i64 r8.2.2), (13, .bool r9.1), (14, .int .i64 r9.2), (16, .int .i64 (tumblaw2_errs [r10, r11, r12, (tumblaw2_when (((decide (r6.1 < (-40000))) || (decide (r7.1 < r6.1))) || (decide (4000 < r7.1))) 1)])), (17, .int .i64 (tumblaw2_errs [r13, r10, r14, r15])), (18, .pointer (some ⟨b9, 0, none⟩)), (19, .bool x5), (111, .bool c1)] 148 a w') ?_ ?_
 ·rcases Bool.eq_false_or_eq_true (decide (r17 = r10)) with hb4 | hb4
  ·replace h := iteT h hb4
   refine l_want S rfl rfl rfl hb4 ?_
   refine lv S (rn_move (S.tm rfl)) rfl ?_; clear S; intro a S
   refine l_want S rfl rfl rfl hb4 ?_
   obtain ⟨r18, hr18, h⟩ := bindE h
   refine l_enter S (fun _ => run_call (vs := [v3]) ⟨(S.tm rfl), trivial⟩ Tryd.call18) (swimmer_CheckStandards_ok _ v3 r3.1 (((ownV_slcT GStandard.enc_ok hs2)).mono (S.le_new nil_sub)) _ hr18) rfl ?_; clear S; intro v21 a w37 hv21 hk35 hn21 S
   subst hv21
   refine l_want S rfl rfl rfl hb4 ?_
   refine lv S (rn_move (S.tm rfl)) rfl ?_; clear S; intro a S
   refine l_want S rfl rfl rfl hb4 ?_
   obtain ⟨r19, hr19, h⟩ := bindE h
   refine l_enter S (fun _ => run_call (vs := [v3]) ⟨(S.tm rfl), trivial⟩ Tryd.call15) (tumbref2_StandardsFault_ok _ v3 r3.1 (((ownV_slcT GStandard.enc_ok hs2)).mono (S.le_new nil_sub)) _ hr19) rfl ?_; clear S; intro v22 a w38 hv22 hk36 hn22 S
   subst hv22
   refine l_want S rfl rfl rfl hb4 ?_
   refine lv S (rn_eql (S.tm rfl) (S.tm rfl)) rfl ?_; clear S; intro a S
   refine lv S (rn_and_t hb4 (S.tm rfl) (S.tm rfl)) rfl ?_; clear S; intro a S
   refine l_done ?_
   refine then_n ?_
   exact ⟨_, h, (hk35).trans hk36, S.nf [true, true] rfl ⟨rfl, rfl, rfl, rfl, rfl, rfl, rfl, rfl, rfl, rfl, rfl, rfl, rfl, rfl, trivial⟩⟩
  ·replace h := iteF h hb4
   refine l_skip S rfl rfl rfl (neq_f hb4) rfl ?_ rfl; clear S; intro a S
   refine l_skip S rfl rfl rfl (neq_f hb4) rfl ?_ rfl; clear S; intro a S
   refine l_skip S rfl rfl rfl (neq_f hb4) rfl ?_ rfl; clear S; intro a S
   refine l_skip S rfl rfl rfl (neq_f hb4) rfl ?_ rfl; clear S; intro a S
   refine l_skip S rfl rfl rfl (neq_f hb4) rfl ?_ rfl; clear S; intro a S
   refine lv S (rn_and_f true hb4 (S.tm rfl) rfl) rfl ?_; clear S; intro a S
   refine l_done ?_
   refine then_n ?_
   exact ⟨_, h, Keep.refl _ _, S.nf [true, true] rfl ⟨rfl, rfl, rfl, rfl, rfl, rfl, rfl, rfl, rfl, rfl, rfl, rfl, rfl, rfl, trivial⟩⟩
 clear S h; rintro a w36 ⟨c1, h, hk37, S⟩; rw [hj2] at h; clear hj2 j2
 refine lv S (rn_move (S.tm rfl)) rfl ?_; clear S; intro a S
 refine f_cutm 4 (fun a w' => Keep [] w36 w' ∧ Sx w [] φ2 [.blk b9 [.string x1, .string x2, .int .i64 x3, .int .i64 x4] 34, .blk b6 [.string r8.1.Who, .string r8.1.Race, .int .i64 r8.1.Day, .int .i64 r8.1.Time] 34] [(4, v2), (5, v3), (6, .string r4.1), (7, .string r5.1), (10, .pointer (some ⟨b6, 0, none⟩)), (11, .bool r8.2.1), (13, .bool r9.1), (14, .int .i64 r9.2), (17, .int .i64 (tumblaw2_errs [r13, r10, r14, r15])), (18, .pointer (some ⟨b9, 0, none⟩)), (19, .bool x5), (116, .bool (c1 && (decide (r8.2.2 = (tumblaw2_errs [r10, r11, r12, (tumblaw2_when (((decide (r6.1 < (-40000))) || (decide (r7.1 < r6.1))) || (decide (4000 < r7.1))) 1)])))))] 148 a w') ?_ ?_
 ·rcases Bool.eq_false_or_eq_true c1 with hb5 | hb5
  ·refine l_want S rfl rfl rfl hb5 ?_
   refine lv S (rn_move (S.tm rfl)) rfl ?_; clear S; intro a S
   refine l_want S rfl rfl rfl hb5 ?_
   refine lv S (rn_move (S.tm rfl)) rfl ?_; clear S; intro a S
   refine l_want S rfl rfl rfl hb5 ?_
   refine lv S (rn_eql (S.tm rfl) (S.tm rfl)) rfl ?_; clear S; intro a S
   refine lv S (rn_and_t hb5 (S.tm rfl) (S.tm rfl)) rfl ?_; clear S; intro a S
   refine l_done ?_
   refine then_n ?_
   exact ⟨Keep.refl _ _, S.nf [true, true] rfl ⟨rfl, rfl, rfl, rfl, rfl, rfl, rfl, rfl, rfl, rfl, rfl, rfl, trivial⟩⟩
  ·refine l_skip S rfl rfl rfl (neq_f hb5) rfl ?_ rfl; clear S; intro a S
   refine l_skip S rfl rfl rfl (neq_f hb5) rfl ?_ rfl; clear S; intro a S
   refine l_skip S rfl rfl rfl (neq_f hb5) rfl ?_ rfl; clear S; intro a S
   refine lv S (rn_and_f (decide (r8.2.2 = (tumblaw2_errs [r10, r11, r12, (tumblaw2_when (((decide (r6.1 < (-40000))) || (decide (r7.1 < r6.1))) || (decide (4000 < r7.1))) 1)]))) hb5 (S.tm rfl) rfl) rfl ?_; clear S; intro a S
   refine l_done ?_
   refine then_n ?_
   exact ⟨Keep.refl _ _, S.nf [true, true] rfl ⟨rfl, rfl, rfl, rfl, rfl, rfl, rfl, rfl, rfl, rfl, rfl, rfl, trivial⟩⟩
 clear S; rintro a w39 ⟨hk38, S⟩
 refine lv S (rn_move (S.tm rfl)) rfl ?_; clear S; intro a S
 refine f_cutm 4 (fun a w' => Keep [] w39 w' ∧ Sx w [] φ2 [.blk b9 [.string x1, .string x2, .int .i64 x3, .int .i64 x4] 34, .blk b6 [.string r8.1.Who, .string r8.1.Race, .int .i64 r8.1.Day, .int .i64 r8.1.Time] 34] [(4, v2), (5, v3), (6, .string r4.1), (7, .string r5.1), (11, .bool r8.2.1), (13, .bool r9.1), (14, .int .i64 r9.2), (17, .int .i64 (tumblaw2_errs [r13, r10, r14, r15])), (19, .bool x5), (121, .bool ((c1 && (decide (r8.2.2 = (tumblaw2_errs [r10, r11, r12, (tumblaw2_when (((decide (r6.1 < (-40000))) || (decide (r7.1 < r6.1))) || (decide (4000 < r7.1))) 1)])))) && (decide (r8.1 = (GMark.mk x1 x2 x3 x4)))))] 148 a w') ?_ ?_
 ·rcases Bool.eq_false_or_eq_true (c1 && (decide (r8.2.2 = (tumblaw2_errs [r10, r11, r12, (tumblaw2_when (((decide (r6.1 < (-40000))) || (decide (r7.1 < r6.1))) || (decide (4000 < r7.1))) 1)])))) with hb6 | hb6
  ·refine l_want S rfl rfl rfl hb6 ?_
   refine lv S (rn_ldA Tryd.isAgg34 Tryd.sizeOf34 (off := 0) (o := 0) (part := [.string r8.1.Who, .string r8.1.Race, .int .i64 r8.1.Day, .int .i64 r8.1.Time]) rfl rfl (S.tm rfl) (S.cellsAt (i := 1) rfl)) rfl ?_; clear S; intro a S
   refine l_want S rfl rfl rfl hb6 ?_
   refine lv S (rn_ldA Tryd.isAgg34 Tryd.sizeOf34 (off := 0) (o := 0) (part := [.string x1, .string x2, .int .i64 x3, .int .i64 x4]) rfl rfl (S.tm rfl) (S.cellsAt (i := 0) rfl)) rfl ?_; clear S; intro a S
   refine l_want S rfl rfl rfl hb6 ?_
   refine lv S (rn_eql_34 (m := r8.1) (n := (GMark.mk x1 x2 x3 x4)) (S.tm rfl) (S.tm rfl)) rfl ?_; clear S; intro a S
   refine lv S (rn_and_t hb6 (S.tm rfl) (S.tm rfl)) rfl ?_; clear S; intro a S
   refine l_done ?_
   refine then_n ?_
   exact ⟨Keep.refl _ _, S.nf [true, true] rfl ⟨rfl, rfl, rfl, rfl, rfl, rfl, rfl, rfl, rfl, rfl, trivial⟩⟩
  ·refine l_skip S rfl rfl rfl (neq_f hb6) rfl ?_ rfl; clear S; intro a S
   refine l_skip S rfl rfl rfl (neq_f hb6) rfl ?_ rfl; clear S; intro a S
   refine l_skip S rfl rfl rfl (neq_f hb6) rfl ?_ rfl; clear S; intro a S
   refine lv S (rn_and_f (decide (r8.1 = (GMark.mk x1 x2 x3 x4))) hb6 (S.tm rfl) rfl) rfl ?_; clear S; intro a S
   refine l_done ?_
   refine then_n ?_
   exact ⟨Keep.refl _ _, S.nf [true, true] rfl ⟨rfl, rfl, rfl, rfl, rfl, rfl, rfl, rfl, rfl, rfl, trivial⟩⟩
 clear S; rintro a w40 ⟨hk39, S⟩
 refine lv S (rn_move (S.tm rfl)) rfl ?_; clear S; intro a S
 refine f_cutm 4 (fun a w' => Keep [] w40 w' ∧ Sx w [] φ2 [.blk b9 [.string x1, .string x2, .int .i64 x3, .int .i64 x4] 34, .blk b6 [.string r8.1.Who, .string r8.1.Race, .int .i64 r8.1.Day, .int .i64 r8.1.Time] 34] [(4, v2), (5, v3), (6, .string r4.1), (7, .string r5.1), (13, .bool r9.1), (14, .int .i64 r9.2), (17, .int .i64 (tumblaw2_errs [r13, r10, r14, r15])), (126, .bool (((c1 && (decide (r8.2.2 = (tumblaw2_errs [r10, r11, r12, (tumblaw2_when (((decide (r6.1 < (-40000))) || (decide (r7.1 < r6.1))) || (decide (4000 < r7.1))) 1)])))) && (decide (r8.1 = (GMark.mk x1 x2 x3 x4)))) && (decide (r8.2.1 = x5))))] 148 a w') ?_ ?_
 ·rcases Bool.eq_false_or_eq_true ((c1 && (decide (r8.2.2 = (tumblaw2_errs [r10, r11, r12, (tumblaw2_when (((decide (r6.1 < (-40000))) || (decide (r7.1 < r6.1))) || (decide (4000 < r7.1))) 1)])))) && (decide (r8.1 = (GMark.mk x1 x2 x3 x4)))) with hb7 | hb7
  ·refine l_want S rfl rfl rfl hb7 ?_
   refine lv S (rn_move (S.tm rfl)) rfl ?_; clear S; intro a S
   refine l_want S rfl rfl rfl hb7 ?_
   refine lv S (rn_move (S.tm rfl)) rfl ?_; clear S; intro a S
   refine l_want S rfl rfl rfl hb7 ?_
   refine lv S (rn_beql Tryd.underlying4 (S.tm rfl) (S.tm rfl)) rfl ?_; clear S; intro a S
   refine lv S (rn_and_t hb7 (S.tm rfl) (S.tm rfl)) rfl ?_; clear S; intro a S
   refine l_done ?_
   refine then_n ?_
   exact ⟨Keep.refl _ _, S.nf [true, true] rfl ⟨rfl, rfl, rfl, rfl, rfl, rfl, rfl, rfl, trivial⟩⟩
  ·refine l_skip S rfl rfl rfl (neq_f hb7) rfl ?_ rfl; clear S; intro a S
   refine l_skip S rfl rfl rfl (neq_f hb7) rfl ?_ rfl; clear S; intro a S
   refine l_skip S rfl rfl rfl (neq_f hb7) rfl ?_ rfl; clear S; intro a S
   refine lv S (rn_and_f (decide (r8.2.1 = x5)) hb7 (S.tm rfl) rfl) rfl ?_; clear S; intro a S
   refine l_done ?_
   refine then_n ?_
   exact ⟨Keep.refl _ _, S.nf [true, true] rfl ⟨rfl, rfl, rfl, rfl, rfl, rfl, rfl, rfl, trivial⟩⟩
 clear S; rintro a w41 ⟨hk40, S⟩
 refine lv S (rn_move (S.tm rfl)) rfl ?_; clear S; intro a S
 refine f_cutm 4 (fun a w' => Keep [] w41 w' ∧ Sx w [] φ2 [.blk b9 [.string x1, .string x2, .int .i64 x3, .int .i64 x4] 34, .blk b6 [.string r8.1.Who, .string r8.1.Race, .int .i64 r8.1.Day, .int .i64 r8.1.Time] 34] [(4, v2), (5, v3), (6, .string r4.1), (7, .string r5.1), (13, .bool r9.1), (17, .int .i64 (tumblaw2_errs [r13, r10, r14, r15])), (131, .bool ((((c1 && (decide (r8.2.2 = (tumblaw2_errs [r10, r11, r12, (tumblaw2_when (((decide (r6.1 < (-40000))) || (decide (r7.1 < r6.1))) || (decide (4000 < r7.1))) 1)])))) && (decide (r8.1 = (GMark.mk x1 x2 x3 x4)))) && (decide (r8.2.1 = x5))) && (decide (r9.2 = (tumblaw2_errs [r13, r10, r14, r15])))))] 148 a w') ?_ ?_
 ·rcases Bool.eq_false_or_eq_true (((c1 && (decide (r8.2.2 = (tumblaw2_errs [r10, r11, r12, (tumblaw2_when (((decide (r6.1 < (-40000))) || (decide (r7.1 < r6.1))) || (decide (4000 < r7.1))) 1)])))) && (decide (r8.1 = (GMark.mk x1 x2 x3 x4)))) && (decide (r8.2.1 = x5))) with hb8 | hb8
  ·refine l_want S rfl rfl rfl hb8 ?_
   refine lv S (rn_move (S.tm rfl)) rfl ?_; clear S; intro a S
   refine l_want S rfl rfl rfl hb8 ?_
   refine lv S (rn_move (S.tm rfl)) rfl ?_; clear S; intro a S
   refine l_want S rfl rfl rfl hb8 ?_
   refine lv S (rn_eql (S.tm rfl) (S.tm rfl)) rfl ?_; clear S; intro a S
   refine lv S (rn_and_t hb8 (S.tm rfl) (S.tm rfl)) rfl ?_; clear S; intro a S
   refine l_done ?_
   refine then_n ?_
   exact ⟨Keep.refl _ _, S.nf [true, true] rfl ⟨rfl, rfl, rfl, rfl, rfl, rfl, rfl, trivial⟩⟩
  ·refine l_skip S rfl rfl rfl (neq_f hb8) rfl ?_ rfl; clear S; intro a S
   refine l_skip S rfl rfl rfl (neq_f hb8) rfl ?_ rfl; clear S; intro a S
   refine l_skip S rfl rfl rfl (neq_f hb8) rfl ?_ rfl; clear S; intro a S
   refine lv S (rn_and_f (decide (r9.2 = (tumblaw2_errs [r13, r10, r14, r15]))) hb8 (S.tm rfl) rfl) rfl ?_; clear S; intro a S
   refine l_done ?_
   refine then_n ?_
   exact ⟨Keep.refl _ _, S.nf [true, true] rfl ⟨rfl, rfl, rfl, rfl, rfl, rfl, rfl, trivial⟩⟩
 clear S; rintro a w42 ⟨hk41, S⟩
 refine lv S (rn_move (S.tm rfl)) rfl ?_; clear S; intro a S
 obtain ⟨j3, hj3, h⟩ := joinE h
 refine f_cutm 12 (fun a w' => ∃ c2, j3 c2 = some r ∧ Keep [] w42 w' ∧ Sx w [] φ2 [.blk b9 [.string x1, .string x2, .int .i64 x3, .int .i64 x4] 34, .blk b6 [.string r8.1.Who, .string r8.1.Race, .int .i64 r8.1.Day, .int .i64 r8.1.Time] 34] [(144, .bool c2)] 148 a w') ?_ ?_
 ·rcases Bool.eq_false_or_eq_true ((((c1 && (decide (r8.2.2 = (tumblaw2_errs [r10, r11, r12, (tumblaw2_when (((decide (r6.1 < (-40000))) || (decide (r7.1 < r6.1))) || (decide (4000 < r7.1))) 1)])))) && (decide (r8.1 = (GMark.mk x1 x2 x3 x4)))) && (decide (r8.2.1 = x5))) && (decide (r9.2 = (tumblaw2_errs [r13, r10, r14, r15])))) with hb9 | hb9
  ·replace h := iteT h hb9
   refine l_want S rfl rfl rfl hb9 ?_
   refine lv S (rn_move (S.tm rfl)) rfl ?_; clear S; intro a S
   refine l_want S rfl rfl rfl hb9 ?_
   refine lv S (rn_move (S.tm rfl)) rfl ?_; clear S; intro a S
   refine l_want S rfl rfl rfl hb9 ?_
   refine lv S (rn_eql (S.tm rfl) rfl) rfl ?_; clear S; intro a S
   refine l_want S rfl rfl rfl hb9 ?_
   refine lv S (rn_move (S.tm rfl)) rfl ?_; clear S; intro a S
   obtain ⟨j4, hj4, h⟩ := joinE h
   refine f_cutm 6 (fun a w' => ∃ c3, j4 c3 = some r ∧ Keep [] w42 w' ∧ Sx w [] φ2 [.blk b9 [.string x1, .string x2, .int .i64 x3, .int .i64 x4] 34, .blk b6 [.string r8.1.Who, .string r8.1.Race, .int .i64 r8.1.Day, .int .i64 r8.1.Time] 34] [(132, .bool ((((c1 && (decide (r8.2.2 = (tumblaw2_errs [r10, r11, r12, (tumblaw2_when (((decide (r6.1 < (-40000))) || (decide (r7.1 < r6.1))) || (decide (4000 < r7.1))) 1)])))) && (decide (r8.1 = (GMark.mk x1 x2 x3 x4)))) && (decide (r8.2.1 = x5))) && (decide (r9.2 = (tumblaw2_errs [r13, r10, r14, r15]))))), (133, .bool r9.1), (142, .bool c3)] 148 a w') ?_ ?_
   ·rcases Bool.eq_false_or_eq_true (decide ((tumblaw2_errs [r13, r10, r14, r15]) = 0)) with hb10 | hb10
    ·replace h := iteT h hb10
     refine l_want S rfl rfl rfl hb10 ?_
     refine lv S (rn_move (S.tm rfl)) rfl ?_; clear S; intro a S
     refine l_want S rfl rfl rfl hb10 ?_
     refine lv S (rn_move (S.tm rfl)) rfl ?_; clear S; intro a S
     refine l_want S rfl rfl rfl hb10 ?_
     refine lv S (rn_move (S.tm rfl)) rfl ?_; clear S; intro a S
     refine l_want S rfl rfl rfl hb10 ?_
     refine lv S (rn_move (S.tm rfl)) rfl ?_; clear S; intro a S
     refine l_want S rfl rfl rfl hb10 ?_
     obtain ⟨r20, hr20, h⟩ := bindE h
     refine l_enter S (fun _ => run_call (vs := [v3, v2, .string r4.1, .string r5.1]) ⟨(S.tm rfl), (S.tm rfl), (S.tm rfl), (S.tm rfl), trivial⟩ Tryd.call19) (tumbref2_QualifiedOf_ok _ v3 r3.1 (((ownV_slcT GStandard.enc_ok hs2)).mono (S.le_new nil_sub)) v2 r2.1 (((ownV_slcT GMark.enc_ok hs1).mono hl2).mono (S.le_new nil_sub)) r4.1 r5.1 _ hr20) rfl ?_; clear S; intro v23 a w45 hv23 hk42 hn23 S
     subst hv23
     refine l_want S rfl rfl rfl hb9 ?_
     refine lv S (rn_and_t hb10 (S.tm rfl) (S.tm rfl)) rfl ?_; clear S; intro a S
     refine l_done ?_
     refine then_n ?_
     exact ⟨_, h, hk42, S.nf [true, true] rfl ⟨rfl, rfl, rfl, trivial⟩⟩
    ·replace h := iteF h hb10
     refine l_skip S rfl rfl rfl (neq_f hb10) rfl ?_ rfl; clear S; intro a S
     refine l_skip S rfl rfl rfl (neq_f hb10) rfl ?_ rfl; clear S; intro a S
     refine l_skip S rfl rfl rfl (neq_f hb10) rfl ?_ rfl; clear S; intro a S
     refine l_skip S rfl rfl rfl (neq_f hb10) rfl ?_ rfl; clear S; intro a S
     refine l_skip S rfl rfl rfl (neq_f hb10) rfl ?_ rfl; clear S; intro a S
     refine l_want S rfl rfl rfl hb9 ?_
     refine lv S (rn_and_f true hb10 (S.tm rfl) rfl) rfl ?_; clear S; intro a S
     refine l_done ?_
     refine then_n ?_
     exact ⟨_, h, Keep.refl _ _, S.nf [true, true] rfl ⟨rfl, rfl, rfl, trivial⟩⟩
   clear S h; rintro a w44 ⟨c3, h, hk43, S⟩; rw [hj4] at h; clear hj4 j4
   refine l_want S rfl rfl rfl hb9 ?_
   refine lv S (rn_beql Tryd.underlying4 (S.tm rfl) (S.tm rfl)) rfl ?_; clear S; intro a S
   refine lv S (rn_and_t hb9 (S.tm rfl) (S.tm rfl)) rfl ?_; clear S; intro a S
   refine l_done ?_
   refine then_n ?_
   exact ⟨_, h, hk43, S.nf [true, true] rfl ⟨rfl, trivial⟩⟩
  ·replace h := iteF h hb9
   refine l_skip S rfl rfl rfl (neq_f hb9) rfl ?_ rfl; clear S; intro a S
   refine l_skip S rfl rfl rfl (neq_f hb9) rfl ?_ rfl; clear S; intro a S
   refine l_skip S rfl rfl rfl (neq_f hb9) rfl ?_ rfl; clear S; intro a S
   refine l_skip S rfl rfl rfl (neq_f hb9) rfl ?_ rfl; clear S; intro a S
   refine l_skipU S rfl rfl rfl rfl ?_; clear S; intro a S
   refine l_skipU S rfl rfl rfl rfl ?_; clear S; intro a S
   refine l_skipU S rfl rfl rfl rfl ?_; clear S; intro a S
   refine l_skipU S rfl rfl rfl rfl ?_; clear S; intro a S
   refine l_skipU S rfl rfl rfl rfl ?_; clear S; intro a S
   refine l_skip S rfl rfl rfl (neq_f hb9) rfl ?_ rfl; clear S; intro a S
   refine l_skip S rfl rfl rfl (neq_f hb9) rfl ?_ rfl; clear S; intro a S
   refine lv S (rn_and_f true hb9 (S.tm rfl) rfl) rfl ?_; clear S; intro a S
   refine l_done ?_
   refine then_n ?_
   exact ⟨_, h, Keep.refl _ _, S.nf [true, true] rfl ⟨rfl, trivial⟩⟩
 clear S h; rintro a w43 ⟨c2, h, hk44, S⟩; rw [hj3] at h; clear hj3 j3
 refine lv S (rn_move (S.tm rfl)) rfl ?_; clear S; intro a S
 obtain ⟨j5, hj5, h⟩ := joinE h
 refine f_cutm 2 (fun a w' => ∃ c4, j5 c4 = some r ∧ Keep [] w43 w' ∧ Sx w [] φ2 [.blk b9 [.string x1, .string x2, .int .i64 x3, .int .i64 x4] 34, .blk b6 [.string r8.1.Who, .string r8.1.Race, .int .i64 r8.1.Day, .int .i64 r8.1.Time] 34] [(147, .bool c4)] 148 a w') ?_ ?_
 ·rcases Bool.eq_false_or_eq_true c2 with hb11 | hb11
  ·replace h := iteT h hb11
   refine l_want S rfl rfl rfl hb11 ?_
   obtain ⟨r21, hr21, h⟩ := bindE h
   refine l_enter S (fun _ => run_call (vs := []) trivial Tryd.call20) (tumblaw2_dated_ok _ _ hr21) rfl ?_; clear S; intro v24 a w47 hv24 hk45 hn24 S
   subst hv24
   refine lv S (rn_and_t hb11 (S.tm rfl) (S.tm rfl)) rfl ?_; clear S; intro a S
   refine l_done ?_
   refine then_n ?_
   exact ⟨_, h, hk45, S.nf [true, true] rfl ⟨rfl, trivial⟩⟩
  ·replace h := iteF h hb11
   refine l_skip S rfl rfl rfl (neq_f hb11) rfl ?_ rfl; clear S; intro a S
   refine lv S (rn_and_f true hb11 (S.tm rfl) rfl) rfl ?_; clear S; intro a S
   refine l_done ?_
   refine then_n ?_
   exact ⟨_, h, Keep.refl _ _, S.nf [true, true] rfl ⟨rfl, trivial⟩⟩
 clear S h; rintro a w46 ⟨c4, h, hk46, S⟩; rw [hj5] at h; clear hj5 j5
 refine lv S (rn_assign (S.tm rfl)) rfl ?_; clear S; intro a S
 refine l_done ?_
 replace S := S.nk [] [(2, .bool c4)] [false, false] rfl ⟨rfl, trivial⟩
 refine then_n ?_
 refine wp_ret ?_
 obtain rfl := Option.some.inj h
 exact f_ret S Tryd.results3 rfl rfl
end Go.Proofs.YtfajklagapggoaaDoor
