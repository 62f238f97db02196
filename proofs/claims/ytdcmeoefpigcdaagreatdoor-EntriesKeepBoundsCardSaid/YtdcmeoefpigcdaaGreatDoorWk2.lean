/- Each Go function computes its plain twin, by program. -/
import Derived.Test.YtdcmeoefpigcdaaGreatDoorWk1
namespace Go.Proofs.YtdcmeoefpigcdaaGreatDoor
open Go
theorem session_begin_ok (w : World) (v_p_l : Value) (p_l : List GItem) (hs_p_l : Slc (view w []) 5 v_p_l (p_l.map GItem.enc)) (p_from : Int) (r : (List GSlot) × Int) (h : session_begin p_l p_from = some r) :
    Calls Tryz.prog 66 [v_p_l, .int .i64 p_from].toArray w (Ret w [] fun τ v _ => ∃ u1 : Value, v = .tuple #[u1, .int .i64 r.2] ∧ OwnV τ 121 4 u1 r.1.length (r.1.flatMap GSlot.enc)) := by
 refine f_enter [] [] Tryz.func66 rfl Tryz.ntmps66 rfl (by simp) (by simp [fps]) (by simp [fps]) fun a S => ?_
 unfold session_begin at h
 replace S := S.nk [] [(0, v_p_l), (1, .int .i64 p_from)] [] rfl ⟨rfl, rfl, trivial⟩
 refine f_seq ?_
 refine f_region ?_
 refine lv S (rn_assign rfl) rfl ?_; clear S; intro a S
 refine lv S (rn_assign rfl) rfl ?_; clear S; intro a S
 refine l_done ?_
 replace S := S.nk [] [(0, v_p_l), (1, .int .i64 p_from)] [] rfl ⟨rfl, rfl, trivial⟩
 refine then_n ?_
 refine f_seq ?_
 refine f_seq ?_
 refine f_region ?_
 refine lv S (rn_move (S.tm rfl)) rfl ?_; clear S; intro a S
 refine l_enter S (fun _ => run_call (vs := [.int .i64 p_from]) ⟨(S.tm rfl), trivial⟩ Tryz.call79) (words_IsMoment_ok _ p_from _ rfl) rfl ?_; clear S; intro v1 a w1 hv1 hk1 hn1 S
 subst hv1
 refine lv S (rn_not (S.tm rfl)) rfl ?_; clear S; intro a S
 refine l_done ?_
 replace S := S.nk [] [(0, v_p_l), (1, .int .i64 p_from), (9, .bool (!(words_IsMoment p_from)))] [] rfl ⟨rfl, rfl, rfl, trivial⟩
 refine then_n ?_
 refine f_cond (S.tm rfl) (fun hb1 => ?_) (fun hb1 => ?_)
 ·replace h := iteT h hb1
  refine f_seq ?_
  refine f_region ?_
  refine lv S (rn_assign rfl) rfl ?_; clear S; intro a S
  refine lv S (rn_assign rfl) rfl ?_; clear S; intro a S
  refine l_done ?_
  replace S := S.nk [] [(4, .slice none 0 0), (5, .int .i64 1)] [] rfl ⟨rfl, rfl, trivial⟩
  refine then_n ?_
  refine wp_ret ?_
  refine then_r ?_
  obtain rfl := Option.some.inj h
  exact f_ret2 S Tryz.results66 rfl rfl ⟨_, rfl, (ownV_nil _ _ _)⟩
 ·replace h := iteF h hb1
  refine wp_skip ?_
  refine then_n ?_
  refine f_seq ?_
  refine f_region ?_
  refine lv S (rn_move (S.tm rfl)) rfl ?_; clear S; intro a S
  refine lv S (rn_move (S.tm rfl)) rfl ?_; clear S; intro a S
  obtain ⟨r1, hr1, h⟩ := bindE h
  have hz1 := S.keep.size
  refine l_enter S (fun _ => run_call (vs := [v_p_l, .int .i64 p_from]) ⟨(S.tm rfl), (S.tm rfl), trivial⟩ Tryz.call80) (session_timetable_ok _ v_p_l p_l (hs_p_l.mono (S.le_arg nil_sub)) p_from _ hr1) rfl ?_; clear S; intro v2 a w2 hv2 hk2 hn2 S
  obtain ⟨φ1, hl1, hm1, S⟩ := S.see' hn2 hz1
  have hs1 := hv2.mono hm1
  refine lv S (rn_assign (S.tm rfl)) rfl ?_; clear S; intro a S
  refine l_done ?_
  replace S := S.nk [] [(1, .int .i64 p_from), (6, v2)] [] rfl ⟨rfl, rfl, trivial⟩
  refine then_n ?_
  refine f_seq ?_
  refine f_seq ?_
  refine f_region ?_
  refine lv S (rn_move (S.tm rfl)) rfl ?_; clear S; intro a S
  refine lv S (rn_move (S.tm rfl)) rfl ?_; clear S; intro a S
  obtain ⟨r2, hr2, h⟩ := bindE h
  refine l_enter S (fun _ => run_call (vs := [v2, .int .i64 p_from]) ⟨(S.tm rfl), (S.tm rfl), trivial⟩ Tryz.call45) (session_end_ok _ v2 r1 (((ownV_slcT GSlot.enc_ok hs1)).mono (S.le_new nil_sub)) p_from _ hr2) rfl ?_; clear S; intro v3 a w3 hv3 hk3 hn3 S
  subst hv3
  refine lv S (rn_gtr (S.tm rfl) rfl) rfl ?_; clear S; intro a S
  refine l_done ?_
  replace S := S.nk [] [(6, v2), (16, .bool (decide (345686400000 < r2)))] [] rfl ⟨rfl, rfl, trivial⟩
  refine then_n ?_
  refine f_cond (S.tm rfl) (fun hb2 => ?_) (fun hb2 => ?_)
  ·replace h := iteT h hb2
   refine f_seq ?_
   refine f_region ?_
   refine lv S (rn_assign rfl) rfl ?_; clear S; intro a S
   refine lv S (rn_assign rfl) rfl ?_; clear S; intro a S
   refine l_done ?_
   replace S := S.nk [] [(4, .slice none 0 0), (5, .int .i64 1)] [] rfl ⟨rfl, rfl, trivial⟩
   refine then_n ?_
   refine wp_ret ?_
   refine then_r ?_
   obtain rfl := Option.some.inj h
   exact f_ret2 S Tryz.results66 rfl rfl ⟨_, rfl, (ownV_nil _ _ _)⟩
  ·replace h := iteF h hb2
   refine wp_skip ?_
   refine then_n ?_
   refine f_seq ?_
   refine f_region ?_
   refine lv S (rn_move (S.tm rfl)) rfl ?_; clear S; intro a S
   refine lv S (rn_assign (S.tm rfl)) rfl ?_; clear S; intro a S
   refine lv S (rn_assign rfl) rfl ?_; clear S; intro a S
   refine l_done ?_
   replace S := S.nk [] [(4, v2), (5, .int .i64 0)] [] rfl ⟨rfl, rfl, trivial⟩
   refine then_n ?_
   refine wp_ret ?_
   obtain rfl := Option.some.inj h
   exact f_ret2 S Tryz.results66 rfl rfl ⟨_, rfl, ((hs1).mono S.le_newer)⟩
theorem session_Timetable_ok (w : World) (v_p_l : Value) (p_l : List GItem) (hs_p_l : Slc (view w []) 5 v_p_l (p_l.map GItem.enc)) (p_from : Int) (r : (List GSlot) × Int) (h : session_Timetable p_l p_from = some r) :
    Calls Tryz.prog 44 [v_p_l, .int .i64 p_from].toArray w (Ret w [] fun τ v _ => ∃ u1 : Value, v = .tuple #[u1, .int .i64 r.2] ∧ OwnV τ 121 4 u1 r.1.length (r.1.flatMap GSlot.enc)) := by
 refine f_enter [] [] Tryz.func44 rfl Tryz.ntmps44 rfl (by simp) (by simp [fps]) (by simp [fps]) fun a S => ?_
 unfold session_Timetable at h
 replace S := S.nk [] [(0, v_p_l), (1, .int .i64 p_from)] [] rfl ⟨rfl, rfl, trivial⟩
 refine f_seq ?_
 refine f_region ?_
 refine lv S (rn_assign rfl) rfl ?_; clear S; intro a S
 refine lv S (rn_assign rfl) rfl ?_; clear S; intro a S
 refine l_done ?_
 replace S := S.nk [] [(0, v_p_l), (1, .int .i64 p_from)] [] rfl ⟨rfl, rfl, trivial⟩
 refine then_n ?_
 refine f_seq ?_
 refine f_seq ?_
 refine f_region ?_
 refine lv S (rn_move (S.tm rfl)) rfl ?_; clear S; intro a S
 obtain ⟨r1, hr1, h⟩ := bindE h
 refine l_enter S (fun _ => run_call (vs := [v_p_l]) ⟨(S.tm rfl), trivial⟩ Tryz.call65) (session_CheckItems_ok _ v_p_l p_l (hs_p_l.mono (S.le_arg nil_sub)) _ hr1) rfl ?_; clear S; intro v1 a w1 hv1 hk1 hn1 S
 subst hv1
 refine lv S (rn_assign (S.tm rfl)) rfl ?_; clear S; intro a S
 refine l_done ?_
 replace S := S.nk [] [(0, v_p_l), (1, .int .i64 p_from), (6, .int .i64 r1)] [] rfl ⟨rfl, rfl, rfl, trivial⟩
 refine then_n ?_
 refine f_seq ?_
 refine f_region ?_
 refine lv S (rn_move (S.tm rfl)) rfl ?_; clear S; intro a S
 refine lv S (rn_neq (S.tm rfl) rfl) rfl ?_; clear S; intro a S
 refine l_done ?_
 replace S := S.nk [] [(0, v_p_l), (1, .int .i64 p_from), (6, .int .i64 r1), (10, .bool (!decide (r1 = 0)))] [] rfl ⟨rfl, rfl, rfl, rfl, trivial⟩
 refine then_n ?_
 refine f_cond (S.tm rfl) (fun hb1 => ?_) (fun hb1 => ?_)
 ·replace h := iteT h hb1
  refine f_seq ?_
  refine f_region ?_
  refine lv S (rn_move (S.tm rfl)) rfl ?_; clear S; intro a S
  refine lv S (rn_assign rfl) rfl ?_; clear S; intro a S
  refine lv S (rn_assign (S.tm rfl)) rfl ?_; clear S; intro a S
  refine l_done ?_
  replace S := S.nk [] [(4, .slice none 0 0), (5, .int .i64 r1)] [] rfl ⟨rfl, rfl, trivial⟩
  refine then_n ?_
  refine wp_ret ?_
  refine then_r ?_
  obtain rfl := Option.some.inj h
  exact f_ret2 S Tryz.results44 rfl rfl ⟨_, rfl, (ownV_nil _ _ _)⟩
 ·replace h := iteF h hb1
  refine wp_skip ?_
  refine then_n ?_
  refine f_seq ?_
  refine f_region ?_
  refine lv S (rn_move (S.tm rfl)) rfl ?_; clear S; intro a S
  refine lv S (rn_move (S.tm rfl)) rfl ?_; clear S; intro a S
  obtain ⟨r2, hr2, h⟩ := bindE h
  have hz1 := S.keep.size
  refine l_enter S (fun _ => run_call (vs := [v_p_l, .int .i64 p_from]) ⟨(S.tm rfl), (S.tm rfl), trivial⟩ Tryz.call66) (session_begin_ok _ v_p_l p_l (hs_p_l.mono (S.le_arg nil_sub)) p_from _ hr2) rfl ?_; clear S; intro v2 a w2 hv2 hk2 hn2 S
  obtain ⟨u1, rfl, ho1⟩ := hv2
  obtain ⟨φ1, hl1, hm1, S⟩ := S.see' hn2 hz1
  have hs1 := ho1.mono hm1
  refine lv S (rn_extract (S.tm rfl) rfl) rfl ?_; clear S; intro a S
  refine lv S (rn_extract (S.tm rfl) rfl) rfl ?_; clear S; intro a S
  refine lv S (rn_assign (S.tm rfl)) rfl ?_; clear S; intro a S
  refine lv S (rn_assign (S.tm rfl)) rfl ?_; clear S; intro a S
  refine l_done ?_
  replace S := S.nk [] [(4, u1), (5, .int .i64 r2.2)] [] rfl ⟨rfl, rfl, trivial⟩
  refine then_n ?_
  refine wp_ret ?_
  obtain rfl := Option.some.inj h
  exact f_ret2 S Tryz.results44 rfl rfl ⟨_, rfl, ((hs1).mono S.le_newer)⟩
theorem session_Ends_ok (w : World) (v_p_l : Value) (p_l : List GItem) (hs_p_l : Slc (view w []) 5 v_p_l (p_l.map GItem.enc)) (p_from : Int) (r : Int × Int) (h : session_Ends p_l p_from = some r) :
    Calls Tryz.prog 27 [v_p_l, .int .i64 p_from].toArray w (Ret w [] fun _ v _ => v = .tuple #[.int .i64 r.1, .int .i64 r.2]) := by
 refine f_enter [] [] Tryz.func27 rfl Tryz.ntmps27 rfl (by simp) (by simp [fps]) (by simp [fps]) fun a S => ?_
 unfold session_Ends at h
 replace S := S.nk [] [(0, v_p_l), (1, .int .i64 p_from)] [] rfl ⟨rfl, rfl, trivial⟩
 refine f_seq ?_
 refine f_region ?_
 refine lv S (rn_assign rfl) rfl ?_; clear S; intro a S
 refine lv S (rn_assign rfl) rfl ?_; clear S; intro a S
 refine l_done ?_
 replace S := S.nk [] [(0, v_p_l), (1, .int .i64 p_from)] [] rfl ⟨rfl, rfl, trivial⟩
 refine then_n ?_
 refine f_seq ?_
 refine f_region ?_
 refine lv S (rn_move (S.tm rfl)) rfl ?_; clear S; intro a S
 refine lv S (rn_move (S.tm rfl)) rfl ?_; clear S; intro a S
 obtain ⟨r1, hr1, h⟩ := bindE h
 have hz1 := S.keep.size
 refine l_enter S (fun _ => run_call (vs := [v_p_l, .int .i64 p_from]) ⟨(S.tm rfl), (S.tm rfl), trivial⟩ Tryz.call44) (session_Timetable_ok _ v_p_l p_l (hs_p_l.mono (S.le_arg nil_sub)) p_from _ hr1) rfl ?_; clear S; intro v1 a w1 hv1 hk1 hn1 S
 obtain ⟨u1, rfl, ho1⟩ := hv1
 obtain ⟨φ1, hl1, hm1, S⟩ := S.see' hn1 hz1
 have hs1 := ho1.mono hm1
 refine lv S (rn_move (S.tm rfl)) rfl ?_; clear S; intro a S
 refine lv S (rn_extract (S.tm rfl) rfl) rfl ?_; clear S; intro a S
 refine lv S (rn_extract (S.tm rfl) rfl) rfl ?_; clear S; intro a S
 refine lv S (rn_assign (S.tm rfl)) rfl ?_; clear S; intro a S
 refine lv S (rn_assign (S.tm rfl)) rfl ?_; clear S; intro a S
 refine l_done ?_
 replace S := S.nk [] [(1, .int .i64 p_from), (6, u1), (7, .int .i64 r1.2)] [] rfl ⟨rfl, rfl, rfl, trivial⟩
 refine then_n ?_
 refine f_seq ?_
 refine f_seq ?_
 refine f_region ?_
 refine lv S (rn_move (S.tm rfl)) rfl ?_; clear S; intro a S
 refine lv S (rn_neq (S.tm rfl) rfl) rfl ?_; clear S; intro a S
 refine l_done ?_
 replace S := S.nk [] [(1, .int .i64 p_from), (6, u1), (7, .int .i64 r1.2), (15, .bool (!decide (r1.2 = 0)))] [] rfl ⟨rfl, rfl, rfl, rfl, trivial⟩
 refine then_n ?_
 refine f_cond (S.tm rfl) (fun hb1 => ?_) (fun hb1 => ?_)
 ·replace h := iteT h hb1
  refine f_seq ?_
  refine f_region ?_
  refine lv S (rn_move (S.tm rfl)) rfl ?_; clear S; intro a S
  refine lv S (rn_assign rfl) rfl ?_; clear S; intro a S
  refine lv S (rn_assign (S.tm rfl)) rfl ?_; clear S; intro a S
  refine l_done ?_
  replace S := S.nk [] [(4, .int .i64 0), (5, .int .i64 r1.2)] [] rfl ⟨rfl, rfl, trivial⟩
  refine then_n ?_
  refine wp_ret ?_
  refine then_r ?_
  obtain rfl := Option.some.inj h
  exact f_ret2 S Tryz.results27 rfl rfl rfl
 ·replace h := iteF h hb1
  refine wp_skip ?_
  refine then_n ?_
  refine f_seq ?_
  refine f_region ?_
  refine lv S (rn_move (S.tm rfl)) rfl ?_; clear S; intro a S
  refine lv S (rn_move (S.tm rfl)) rfl ?_; clear S; intro a S
  obtain ⟨r2, hr2, h⟩ := bindE h
  refine l_enter S (fun _ => run_call (vs := [u1, .int .i64 p_from]) ⟨(S.tm rfl), (S.tm rfl), trivial⟩ Tryz.call45) (session_end_ok _ u1 r1.1 (((ownV_slcT GSlot.enc_ok hs1)).mono (S.le_new nil_sub)) p_from _ hr2) rfl ?_; clear S; intro v2 a w2 hv2 hk2 hn2 S
  subst hv2
  refine lv S (rn_assign (S.tm rfl)) rfl ?_; clear S; intro a S
  refine lv S (rn_assign rfl) rfl ?_; clear S; intro a S
  refine l_done ?_
  replace S := S.nk [] [(4, .int .i64 r2), (5, .int .i64 0)] [] rfl ⟨rfl, rfl, trivial⟩
  refine then_n ?_
  refine wp_ret ?_
  obtain rfl := Option.some.inj h
  exact f_ret2 S Tryz.results27 rfl rfl rfl
theorem timing_IsTime_ok (w : World) (p_n : Int) (r : Bool) (h : timing_IsTime p_n = r) :
    Calls Tryz.prog 48 [.int .i64 p_n].toArray w (Ret w [] fun _ v _ => v = .bool r) := by
 refine f_enter [] [] Tryz.func48 rfl Tryz.ntmps48 rfl (by simp) (by simp [fps]) (by simp [fps]) fun a S => ?_
 unfold timing_IsTime at h
 replace S := S.nk [] [(0, .int .i64 p_n)] [] rfl ⟨rfl, trivial⟩
 refine f_seq ?_
 refine f_region ?_
 refine lv S (rn_assign rfl) rfl ?_; clear S; intro a S
 refine l_done ?_
 replace S := S.nk [] [(0, .int .i64 p_n)] [] rfl ⟨rfl, trivial⟩
 refine then_n ?_
 refine f_seq ?_
 refine f_region ?_
 refine lv S (rn_move (S.tm rfl)) rfl ?_; clear S; intro a S
 refine l_enter S (fun _ => run_call (vs := [.int .i64 p_n, .int .i64 1, .int .i64 360000]) ⟨(S.tm rfl), rfl, rfl, trivial⟩ Tryz.call40) (words_Within_ok _ p_n 1 360000 _ rfl) rfl ?_; clear S; intro v1 a w1 hv1 hk1 hn1 S
 subst hv1
 refine lv S (rn_assign (S.tm rfl)) rfl ?_; clear S; intro a S
 refine l_done ?_
 replace S := S.nk [] [(2, .bool (words_Within p_n 1 360000))] [] rfl ⟨rfl, trivial⟩
 refine then_n ?_
 refine wp_ret ?_
 subst h
 exact f_ret S Tryz.results48 rfl rfl
set_option maxRecDepth 20000 in
theorem points_CheckBase_ok (w : World) (v_p_l : Value) (p_l : List GBase) (hs_p_l : Slc (view w []) 2 v_p_l (p_l.map GBase.enc)) (r : Int) (h : points_CheckBase p_l = some r) :
    Calls Tryz.prog 46 [v_p_l].toArray w (Ret w [] fun _ v _ => v = .int .i64 r) := by
 refine f_enter [] [] Tryz.func46 rfl Tryz.ntmps46 rfl (by simp) (by simp [fps]) (by simp [fps]) fun a S => ?_
 unfold points_CheckBase at h
 replace S := S.nk [] [(0, v_p_l)] [] rfl ⟨rfl, trivial⟩
 refine f_seq ?_
 refine f_region ?_
 refine lv S (rn_assign rfl) rfl ?_; clear S; intro a S
 refine l_done ?_
 replace S := S.nk [] [(0, v_p_l)] [] rfl ⟨rfl, trivial⟩
 refine then_n ?_
 refine f_seq ?_
 refine f_seq ?_
 refine f_region ?_
 refine lv S (rn_move (S.tm rfl)) rfl ?_; clear S; intro a S
 refine lv S (rn_lenT sl_75 (S.tm rfl) (slc_len hs_p_l)) rfl ?_; clear S; intro a S
 refine lv S (rn_gtr (S.tm rfl) rfl) rfl ?_; clear S; intro a S
 refine l_done ?_
 replace S := S.nk [] [(0, v_p_l), (7, .bool (decide (500 < (p_l.length : Int))))] [] rfl ⟨rfl, rfl, trivial⟩
 refine then_n ?_
 refine f_cond (S.tm rfl) (fun hb1 => ?_) (fun hb1 => ?_)
 ·replace h := iteT h hb1
  refine f_seq ?_
  refine f_region ?_
  refine lv S (rn_assign rfl) rfl ?_; clear S; intro a S
  refine l_done ?_
  replace S := S.nk [] [(2, .int .i64 2)] [] rfl ⟨rfl, trivial⟩
  refine then_n ?_
  refine wp_ret ?_
  refine then_r ?_
  obtain rfl := Option.some.inj h
  exact f_ret S Tryz.results46 rfl rfl
 ·replace h := iteF h hb1
  refine wp_skip ?_
  refine then_n ?_
  refine f_seq ?_
  refine f_seq ?_
  refine f_region ?_
  refine lv S (rn_move (S.tm rfl)) rfl ?_; clear S; intro a S
  refine lv S (rn_lenT sl_75 (S.tm rfl) (slc_len hs_p_l)) rfl ?_; clear S; intro a S
  refine lv S (rn_move rfl) rfl ?_; clear S; intro a S
  refine l_done ?_
  replace S := S.nk [] [(0, v_p_l), (8, v_p_l), (9, .int .i64 (p_l.length : Int)), (10, .int .i64 0)] [] rfl ⟨rfl, rfl, rfl, rfl, trivial⟩
  refine then_n ?_
  obtain ⟨j1, hj1, h⟩ := joinE h
  refine f_join (fun a w' => j1 = some r ∧ Sx w [] nov [] [] 40 a w') ?_ ?_
  ·refine wp_block ?_
   refine f_loop (fun (ys1 : List GBase) a w' => ∃ i1 : Nat, (∃ dn, p_l = dn ++ ys1 ∧ dn.length = i1) ∧ points_CheckBase_l1 p_l j1 ys1 i1 = some r ∧ Sx w [] nov [] [(0, v_p_l), (8, v_p_l), (9, .int .i64 (p_l.length : Int)), (10, .int .i64 (i1 : Int))] 40 a w') List.length p_l ⟨0, ⟨[], rfl, rfl⟩, h, S.nf [] rfl ⟨rfl, rfl, rfl, rfl, trivial⟩⟩ ?_
   clear S h; rintro ys1 a w1 ⟨i1, ⟨dn, hd1, hi1⟩, h, S⟩
   cases ys1 with
   | nil =>
    rw [points_CheckBase_l1.eq_1] at h
    refine f_seq ?_
    refine f_region ?_
    refine lv S (rn_lss (S.tm rfl) (S.tm rfl)) rfl ?_; clear S; intro a S
    refine l_done ?_
    replace S := S.nk [] [(0, v_p_l), (8, v_p_l), (9, .int .i64 (p_l.length : Int)), (10, .int .i64 (i1 : Int)), (11, .bool (decide ((i1 : Int) < (p_l.length : Int))))] [] rfl ⟨rfl, rfl, rfl, rfl, rfl, trivial⟩
    refine then_n ?_
    refine f_seq ?_
    refine wp_cond_false ((S.tm rfl).trans (congrArg Value.bool (rng_nil hd1 hi1))) ?_
    refine wp_exit ?_
    refine then_x ?_
    refine then_x ?_
    refine x_same ?_
    refine then_n ?_
    exact ⟨h, S.nf [] rfl trivial⟩
   | cons y1 ys1 =>
    rw [points_CheckBase_l1.eq_2] at h
    refine f_seq ?_
    refine f_region ?_
    refine lv S (rn_lss (S.tm rfl) (S.tm rfl)) rfl ?_; clear S; intro a S
    refine l_done ?_
    replace S := S.nk [] [(0, v_p_l), (8, v_p_l), (9, .int .i64 (p_l.length : Int)), (10, .int .i64 (i1 : Int)), (11, .bool (decide ((i1 : Int) < (p_l.length : Int))))] [] rfl ⟨rfl, rfl, rfl, rfl, rfl, trivial⟩
    refine then_n ?_
    refine f_seq ?_
    refine wp_cond_true ((S.tm rfl).trans (congrArg Value.bool (rng_cons hd1 hi1))) ?_
    refine wp_skip ?_
    refine then_n ?_
    refine f_seq ?_
    refine wp_block ?_
    refine f_seq ?_
    refine f_region ?_
    refine lv S (rn_move (S.tm rfl)) rfl ?_; clear S; intro a S
    obtain ⟨b1, o1, hm1, hr1⟩ := rn_indexT (a := a) (x := .tmp 8) (y := .tmp 10) (ty := 0) sl_75 hs_p_l (get_mid hd1 hi1) rfl (S.tm rfl) (S.tm rfl)
    refine lv S (hr1 _) rfl ?_; clear S; intro a S
    clear hr1
    refine lv S (rn_ldA Tryz.isAgg74 Tryz.sizeOf74 (off := o1) (o := 0) (part := [.string y1.Race, .int .i64 y1.Time]) rfl rfl (S.tm rfl) (hm1.at S.emb0)) rfl ?_; clear S; intro a S
    refine l_alloc S Tryz.zeroValue74 (cs := [.string k_empty, .int .i64 0]) rfl rfl ?_; clear S; intro a w3 b2 hz1 hk1 S
    refine lv S (rn_assign (S.tm rfl)) rfl ?_; clear S; intro a S
    refine l_store S (S.tm rfl) (S.tm rfl) (i := 0) (off := 0) rfl Tryz.sizeOf74 (vs := [.string y1.Race, .int .i64 y1.Time]) rfl rfl rfl rfl ?_; clear S; intro w4 hk2 S
    refine l_done ?_
    replace S := S.nk [.blk b2 [.string y1.Race, .int .i64 y1.Time] 74] [(0, v_p_l), (3, .int .i64 (i1 : Int)), (4, .pointer (some ⟨b2, 0, none⟩)), (8, v_p_l), (9, .int .i64 (p_l.length : Int)), (10, .int .i64 (i1 : Int))] [true] rfl ⟨rfl, rfl, rfl, rfl, rfl, rfl, trivial⟩
    refine then_n ?_
    refine wp_block ?_
    refine f_seq ?_
    refine f_region ?_
    refine lv S (rn_fld fa_74_0 (S.tm rfl)) rfl ?_; clear S; intro a S
    refine lv S (rn_load Tryz.isAgg9 (S.tm rfl) (S.cell (i := 0) rfl rfl)) rfl ?_; clear S; intro a S
    obtain ⟨r1, hr2, h⟩ := bindE h
    refine l_enter S (fun _ => run_call (vs := [.string y1.Race]) ⟨(S.tm rfl), trivial⟩ Tryz.call57) (words_IsKey_ok _ y1.Race _ hr2) rfl ?_; clear S; intro v1 a w5 hv1 hk3 hn1 S
    subst hv1
    refine lv S (rn_not (S.tm rfl)) rfl ?_; clear S; intro a S
    refine lv S (rn_assign (S.tm rfl)) rfl ?_; clear S; intro a S
    refine l_done ?_
    replace S := S.nk [.blk b2 [.string y1.Race, .int .i64 y1.Time] 74] [(0, v_p_l), (3, .int .i64 (i1 : Int)), (4, .pointer (some ⟨b2, 0, none⟩)), (8, v_p_l), (9, .int .i64 (p_l.length : Int)), (10, .int .i64 (i1 : Int)), (15, .bool (!r1))] [true] rfl ⟨rfl, rfl, rfl, rfl, rfl, rfl, rfl, trivial⟩
    refine then_n ?_
    refine f_cond (S.tm rfl) (fun hb2 => ?_) (fun hb2 => ?_)
    ·replace h := iteT h hb2
     refine f_seq ?_
     refine f_region ?_
     refine lv S (rn_assign rfl) rfl ?_; clear S; intro a S
     refine l_done ?_
     replace S := S.nk [] [(2, .int .i64 5)] [false] rfl ⟨rfl, trivial⟩
     refine then_n ?_
     refine wp_ret ?_
     refine blk_r ?_
     refine blk_r ?_
     refine then_r ?_
     refine then_r ?_
     refine blk_r ?_
     refine then_r ?_
     refine then_r ?_
     obtain rfl := Option.some.inj h
     exact f_ret S Tryz.results46 rfl rfl
    ·replace h := iteF h hb2
     refine f_seq ?_
     refine d_region [] ([]) Tryz.mixed S rfl (by kernel_rfl) ?_; clear S; intro w6 hk4 hsel S
     refine d_rest [0, 1, 2, 3, 4, 5, 6, 7, 8, 9, 10, 11, 12, 13] hsel (by kernel_rfl) rfl ?_
     clear hsel
     refine s_lv S rfl (rn_move (S.tm rfl)) rfl ?_; clear S; intro a S
     refine s_lv S rfl (rn_gtr (S.tm rfl) rfl) rfl ?_; clear S; intro a S
     refine s_lv S rfl (rn_move (S.tm rfl)) rfl ?_; clear S; intro a S
     obtain ⟨j2, hj2, h⟩ := joinE h
     refine s_cutm 10 (fun a w' => ∃ c1, j2 c1 = some r ∧ Keep [] w6 w' ∧ Sx w [] nov [.blk b2 [.string y1.Race, .int .i64 y1.Time] 74] [(0, v_p_l), (4, .pointer (some ⟨b2, 0, none⟩)), (8, v_p_l), (9, .int .i64 (p_l.length : Int)), (10, .int .i64 (i1 : Int)), (33, .bool c1)] 40 a w') ?_ ?_
     ·rcases Bool.eq_false_or_eq_true (decide (0 < (i1 : Int))) with hb3 | hb3
      ·replace h := iteT h hb3
       refine s_want S rfl rfl rfl rfl hb3 ?_
       refine s_lv0 S (rn_fld fa_74_0 (S.tm rfl)) rfl ?_; clear S; intro a S
       refine s_want S rfl rfl rfl rfl hb3 ?_
       refine s_lv0 S (rn_load Tryz.isAgg9 (S.tm rfl) (S.cell (i := 0) rfl rfl)) rfl ?_; clear S; intro a S
       refine s_want S rfl rfl rfl rfl hb3 ?_
       refine s_lv0 S (rn_move (S.tm rfl)) rfl ?_; clear S; intro a S
       refine s_want S rfl rfl rfl rfl hb3 ?_
       refine s_lv0 S (rn_move (S.tm rfl)) rfl ?_; clear S; intro a S
       refine s_want S rfl rfl rfl rfl hb3 ?_
       refine s_lv0 S (rn_sub (S.tm rfl) rfl) rfl ?_; clear S; intro a S
       refine s_want S rfl rfl rfl rfl hb3 ?_
       obtain ⟨hc1, h⟩ := chkE h
       obtain ⟨b3, o2, hm2, hr3⟩ := rn_indexT (a := a) (x := .tmp 26) (y := .tmp 28) (ty := 0) sl_75 hs_p_l (inB_get hc1).1 (inB_get hc1).2 (S.tm rfl) (S.tm rfl)
       refine s_lv0 S (hr3 _) rfl ?_; clear S; intro a S
       clear hr3
       refine s_want S rfl rfl rfl rfl hb3 ?_
       refine s_lv0 S (rn_fld fa_74_0 (S.tm rfl)) rfl ?_; clear S; intro a S
       refine s_want S rfl rfl rfl rfl hb3 ?_
       refine s_lv0 S (rn_ld Tryz.isAgg9 (off := o2) (o := 0) (S.tm rfl) (hm2.at S.emb0) rfl) rfl ?_; clear S; intro a S
       refine s_want S rfl rfl rfl rfl hb3 ?_
       refine s_lv0 S (rn_sleq (S.tm rfl) (S.tm rfl)) rfl ?_; clear S; intro a S
       refine s_lv S rfl (rn_and_t hb3 (S.tm rfl) (S.tm rfl)) rfl ?_; clear S; intro a S
       refine s_done ?_
       exact ⟨_, h, Keep.refl _ _, S.nf [true] rfl ⟨rfl, rfl, rfl, rfl, rfl, rfl, trivial⟩⟩
      ·replace h := iteF h hb3
       refine s_skip S rfl rfl rfl rfl (neq_f hb3) rfl ?_ rfl; clear S; intro a S
       refine s_skip S rfl rfl rfl rfl (neq_f hb3) rfl ?_ rfl; clear S; intro a S
       refine s_skip S rfl rfl rfl rfl (neq_f hb3) rfl ?_ rfl; clear S; intro a S
       refine s_skip S rfl rfl rfl rfl (neq_f hb3) rfl ?_ rfl; clear S; intro a S
       refine s_skip S rfl rfl rfl rfl (neq_f hb3) rfl ?_ rfl; clear S; intro a S
       refine s_skip S rfl rfl rfl rfl (neq_f hb3) rfl ?_ rfl; clear S; intro a S
       refine s_skip S rfl rfl rfl rfl (neq_f hb3) rfl ?_ rfl; clear S; intro a S
       refine s_skip S rfl rfl rfl rfl (neq_f hb3) rfl ?_ rfl; clear S; intro a S
       refine s_skip S rfl rfl rfl rfl (neq_f hb3) rfl ?_ rfl; clear S; intro a S
       refine s_lv S rfl (rn_and_f true hb3 (S.tm rfl) rfl) rfl ?_; clear S; intro a S
       refine s_done ?_
       exact ⟨_, h, Keep.refl _ _, S.nf [true] rfl ⟨rfl, rfl, rfl, rfl, rfl, rfl, trivial⟩⟩
     clear S h; rintro a w7 ⟨c1, h, hk5, S⟩; rw [hj2] at h; clear hj2 j2
     refine s_lv S rfl (rn_assign (S.tm rfl)) rfl ?_; clear S; intro a S
     refine s_done ?_
     replace S := S.nk [.blk b2 [.string y1.Race, .int .i64 y1.Time] 74] [(0, v_p_l), (4, .pointer (some ⟨b2, 0, none⟩)), (8, v_p_l), (9, .int .i64 (p_l.length : Int)), (10, .int .i64 (i1 : Int)), (20, .bool c1)] [true] rfl ⟨rfl, rfl, rfl, rfl, rfl, rfl, trivial⟩
     refine then_n ?_
     refine f_cond (S.tm rfl) (fun hb4 => ?_) (fun hb4 => ?_)
     ·replace h := iteT h hb4
      refine f_seq ?_
      refine f_region ?_
      refine lv S (rn_assign rfl) rfl ?_; clear S; intro a S
      refine l_done ?_
      replace S := S.nk [] [(2, .int .i64 7)] [false] rfl ⟨rfl, trivial⟩
      refine then_n ?_
      refine wp_ret ?_
      refine blk_r ?_
      refine blk_r ?_
      refine then_r ?_
      refine then_r ?_
      refine blk_r ?_
      refine then_r ?_
      refine then_r ?_
      obtain rfl := Option.some.inj h
      exact f_ret S Tryz.results46 rfl rfl
     ·replace h := iteF h hb4
      refine f_seq ?_
      refine f_region ?_
      refine lv S (rn_fld fa_74_1 (S.tm rfl)) rfl ?_; clear S; intro a S
      refine lv S (rn_load Tryz.isAgg3 (S.tm rfl) (S.cell (i := 0) rfl rfl)) rfl ?_; clear S; intro a S
      refine l_enter S (fun _ => run_call (vs := [.int .i64 y1.Time]) ⟨(S.tm rfl), trivial⟩ Tryz.call48) (timing_IsTime_ok _ y1.Time _ rfl) rfl ?_; clear S; intro v2 a w8 hv2 hk6 hn2 S
      subst hv2
      refine lv S (rn_not (S.tm rfl)) rfl ?_; clear S; intro a S
      refine lv S (rn_assign (S.tm rfl)) rfl ?_; clear S; intro a S
      refine l_done ?_
      replace S := S.nk [] [(0, v_p_l), (8, v_p_l), (9, .int .i64 (p_l.length : Int)), (10, .int .i64 (i1 : Int)), (34, .bool (!(timing_IsTime y1.Time)))] [false] rfl ⟨rfl, rfl, rfl, rfl, rfl, trivial⟩
      refine then_n ?_
      refine f_cond (S.tm rfl) (fun hb5 => ?_) (fun hb5 => ?_)
      ·replace h := iteT h hb5
       refine f_seq ?_
       refine f_region ?_
       refine lv S (rn_assign rfl) rfl ?_; clear S; intro a S
       refine l_done ?_
       replace S := S.nk [] [(2, .int .i64 1)] [] rfl ⟨rfl, trivial⟩
       refine then_n ?_
       refine wp_ret ?_
       refine blk_r ?_
       refine blk_r ?_
       refine then_r ?_
       refine then_r ?_
       refine blk_r ?_
       refine then_r ?_
       refine then_r ?_
       obtain rfl := Option.some.inj h
       exact f_ret S Tryz.results46 rfl rfl
      ·replace h := iteF h hb5
       refine wp_skip ?_
       refine blk_n ?_
       refine blk_n ?_
       refine then_n ?_
       refine f_region ?_
       refine lv S (rn_add (S.tm rfl) rfl) rfl ?_; clear S; intro a S
       refine lv S (rn_move (S.tm rfl)) rfl ?_; clear S; intro a S
       refine l_done ?_
       replace S := S.nk [] [(0, v_p_l), (8, v_p_l), (9, .int .i64 (p_l.length : Int)), (10, .int .i64 (W ((i1 : Int) + 1)))] [] rfl ⟨rfl, rfl, rfl, rfl, trivial⟩
       refine then_n ?_
       exact ⟨ys1, ⟨i1 + 1, ⟨_, (hd1).trans (List.append_cons _ _ _), by simp [hi1]⟩, h, S.nf [] rfl ⟨rfl, rfl, rfl, (congrArg (fun z => some (Value.int .i64 z)) (rng_next hd1 hi1 (slc_max hs_p_l))), trivial⟩⟩, Nat.lt_succ_self _⟩
  clear S h; rintro a w2 ⟨h, S⟩; rw [hj1] at h; clear hj1 j1
  refine then_n ?_
  refine f_seq ?_
  refine f_region ?_
  refine lv S (rn_assign rfl) rfl ?_; clear S; intro a S
  refine l_done ?_
  replace S := S.nk [] [(2, .int .i64 0)] [] rfl ⟨rfl, trivial⟩
  refine then_n ?_
  refine wp_ret ?_
  obtain rfl := Option.some.inj h
  exact f_ret S Tryz.results46 rfl rfl
theorem points_baseOf_ok (w : World) (v_p_l : Value) (p_l : List GBase) (hs_p_l : Slc (view w []) 2 v_p_l (p_l.map GBase.enc)) (p_race : ByteArray) (r : Int) (h : points_baseOf p_l p_race = r) :
    Calls Tryz.prog 47 [v_p_l, .string p_race].toArray w (Ret w [] fun _ v _ => v = .int .i64 r) := by
 refine f_enter [] [] Tryz.func47 rfl Tryz.ntmps47 rfl (by simp) (by simp [fps]) (by simp [fps]) fun a S => ?_
 unfold points_baseOf at h
 replace S := S.nk [] [(0, v_p_l), (1, .string p_race)] [] rfl ⟨rfl, rfl, trivial⟩
 refine f_seq ?_
 refine f_region ?_
 refine lv S (rn_assign rfl) rfl ?_; clear S; intro a S
 refine l_done ?_
 replace S := S.nk [] [(0, v_p_l), (1, .string p_race)] [] rfl ⟨rfl, rfl, trivial⟩
 refine then_n ?_
 refine f_seq ?_
 refine f_seq ?_
 refine f_region ?_
 refine lv S (rn_move (S.tm rfl)) rfl ?_; clear S; intro a S
 refine lv S (rn_lenT sl_75 (S.tm rfl) (slc_len hs_p_l)) rfl ?_; clear S; intro a S
 refine lv S (rn_move rfl) rfl ?_; clear S; intro a S
 refine l_done ?_
 replace S := S.nk [] [(1, .string p_race), (7, v_p_l), (8, .int .i64 (p_l.length : Int)), (9, .int .i64 0)] [] rfl ⟨rfl, rfl, rfl, rfl, trivial⟩
 refine then_n ?_
 obtain ⟨j1, hj1, h⟩ := joinE h
 refine f_join (fun a w' => j1 = r ∧ Sx w [] nov [] [] 20 a w') ?_ ?_
 ·refine wp_block ?_
  refine f_loop (fun (ys1 : List GBase) a w' => ∃ i1 : Nat, (∃ dn, p_l = dn ++ ys1 ∧ dn.length = i1) ∧ points_baseOf_l1 p_race j1 ys1 i1 = r ∧ Sx w [] nov [] [(1, .string p_race), (7, v_p_l), (8, .int .i64 (p_l.length : Int)), (9, .int .i64 (i1 : Int))] 20 a w') List.length p_l ⟨0, ⟨[], rfl, rfl⟩, h, S.nf [] rfl ⟨rfl, rfl, rfl, rfl, trivial⟩⟩ ?_
  clear S h; rintro ys1 a w1 ⟨i1, ⟨dn, hd1, hi1⟩, h, S⟩
  cases ys1 with
  | nil =>
   rw [points_baseOf_l1.eq_1] at h
   refine f_seq ?_
   refine f_region ?_
   refine lv S (rn_lss (S.tm rfl) (S.tm rfl)) rfl ?_; clear S; intro a S
   refine l_done ?_
   replace S := S.nk [] [(1, .string p_race), (7, v_p_l), (8, .int .i64 (p_l.length : Int)), (9, .int .i64 (i1 : Int)), (10, .bool (decide ((i1 : Int) < (p_l.length : Int))))] [] rfl ⟨rfl, rfl, rfl, rfl, rfl, trivial⟩
   refine then_n ?_
   refine f_seq ?_
   refine wp_cond_false ((S.tm rfl).trans (congrArg Value.bool (rng_nil hd1 hi1))) ?_
   refine wp_exit ?_
   refine then_x ?_
   refine then_x ?_
   refine x_same ?_
   refine then_n ?_
   exact ⟨h, S.nf [] rfl trivial⟩
  | cons y1 ys1 =>
   rw [points_baseOf_l1.eq_2] at h
   refine f_seq ?_
   refine f_region ?_
   refine lv S (rn_lss (S.tm rfl) (S.tm rfl)) rfl ?_; clear S; intro a S
   refine l_done ?_
   replace S := S.nk [] [(1, .string p_race), (7, v_p_l), (8, .int .i64 (p_l.length : Int)), (9, .int .i64 (i1 : Int)), (10, .bool (decide ((i1 : Int) < (p_l.length : Int))))] [] rfl ⟨rfl, rfl, rfl, rfl, rfl, trivial⟩
   refine then_n ?_
   refine f_seq ?_
   refine wp_cond_true ((S.tm rfl).trans (congrArg Value.bool (rng_cons hd1 hi1))) ?_
   refine wp_skip ?_
   refine then_n ?_
   refine f_seq ?_
   refine wp_block ?_
   refine f_seq ?_
   refine f_region ?_
   obtain ⟨b1, o1, hm1, hr1⟩ := rn_indexT (a := a) (x := .tmp 7) (y := .tmp 9) (ty := 0) sl_75 hs_p_l (get_mid hd1 hi1) rfl (S.tm rfl) (S.tm rfl)
   refine lv S (hr1 _) rfl ?_; clear S; intro a S
   clear hr1
   refine lv S (rn_ldA Tryz.isAgg74 Tryz.sizeOf74 (off := o1) (o := 0) (part := [.string y1.Race, .int .i64 y1.Time]) rfl rfl (S.tm rfl) (hm1.at S.emb0)) rfl ?_; clear S; intro a S
   refine l_alloc S Tryz.zeroValue74 (cs := [.string k_empty, .int .i64 0]) rfl rfl ?_; clear S; intro a w3 b2 hz1 hk1 S
   refine l_store S (S.tm rfl) (S.tm rfl) (i := 0) (off := 0) rfl Tryz.sizeOf74 (vs := [.string y1.Race, .int .i64 y1.Time]) rfl rfl rfl rfl ?_; clear S; intro w4 hk2 S
   refine l_done ?_
   replace S := S.nk [.blk b2 [.string y1.Race, .int .i64 y1.Time] 74] [(1, .string p_race), (6, .pointer (some ⟨b2, 0, none⟩)), (7, v_p_l), (8, .int .i64 (p_l.length : Int)), (9, .int .i64 (i1 : Int))] [true] rfl ⟨rfl, rfl, rfl, rfl, rfl, trivial⟩
   refine then_n ?_
   refine f_seq ?_
   refine f_region ?_
   refine lv S (rn_fld fa_74_0 (S.tm rfl)) rfl ?_; clear S; intro a S
   refine lv S (rn_load Tryz.isAgg9 (S.tm rfl) (S.cell (i := 0) rfl rfl)) rfl ?_; clear S; intro a S
   refine lv S (rn_move (S.tm rfl)) rfl ?_; clear S; intro a S
   refine lv S (rn_seql (S.tm rfl) (S.tm rfl)) rfl ?_; clear S; intro a S
   refine l_done ?_
   replace S := S.nk [.blk b2 [.string y1.Race, .int .i64 y1.Time] 74] [(1, .string p_race), (6, .pointer (some ⟨b2, 0, none⟩)), (7, v_p_l), (8, .int .i64 (p_l.length : Int)), (9, .int .i64 (i1 : Int)), (16, .bool (decide (y1.Race = p_race)))] [true] rfl ⟨rfl, rfl, rfl, rfl, rfl, rfl, trivial⟩
   refine then_n ?_
   refine f_cond (S.tm rfl) (fun hb1 => ?_) (fun hb1 => ?_)
   ·replace h := iteT h hb1
    refine f_seq ?_
    refine f_region ?_
    refine lv S (rn_fld fa_74_1 (S.tm rfl)) rfl ?_; clear S; intro a S
    refine lv S (rn_load Tryz.isAgg3 (S.tm rfl) (S.cell (i := 0) rfl rfl)) rfl ?_; clear S; intro a S
    refine lv S (rn_assign (S.tm rfl)) rfl ?_; clear S; intro a S
    refine l_done ?_
    replace S := S.nk [] [(4, .int .i64 y1.Time)] [false] rfl ⟨rfl, trivial⟩
    refine then_n ?_
    refine wp_ret ?_
    refine blk_r ?_
    refine then_r ?_
    refine then_r ?_
    refine blk_r ?_
    refine then_r ?_
    refine then_r ?_
    subst h
    exact f_ret S Tryz.results47 rfl rfl
   ·replace h := iteF h hb1
    refine wp_skip ?_
    refine blk_n ?_
    refine then_n ?_
    refine f_region ?_
    refine lv S (rn_add (S.tm rfl) rfl) rfl ?_; clear S; intro a S
    refine lv S (rn_move (S.tm rfl)) rfl ?_; clear S; intro a S
    refine l_done ?_
    replace S := S.nk [] [(1, .string p_race), (7, v_p_l), (8, .int .i64 (p_l.length : Int)), (9, .int .i64 (W ((i1 : Int) + 1)))] [false] rfl ⟨rfl, rfl, rfl, rfl, trivial⟩
    refine then_n ?_
    exact ⟨ys1, ⟨i1 + 1, ⟨_, (hd1).trans (List.append_cons _ _ _), by simp [hi1]⟩, h, S.nf [] rfl ⟨rfl, rfl, rfl, (congrArg (fun z => some (Value.int .i64 z)) (rng_next hd1 hi1 (slc_max hs_p_l))), trivial⟩⟩, Nat.lt_succ_self _⟩
 clear S h; rintro a w2 ⟨h, S⟩; rw [hj1] at h; clear hj1 j1
 refine then_n ?_
 refine f_seq ?_
 refine f_region ?_
 refine lv S (rn_assign rfl) rfl ?_; clear S; intro a S
 refine l_done ?_
 replace S := S.nk [] [(4, .int .i64 0)] [] rfl ⟨rfl, trivial⟩
 refine then_n ?_
 refine wp_ret ?_
 subst h
 exact f_ret S Tryz.results47 rfl rfl
theorem bits_Mul64_ok (w : World) (p_x : Int) (p_y : Int) (r : Int × Int) (h : bits_Mul64 p_x p_y = r) :
    Calls Tryz.prog 67 [.int .u64 p_x, .int .u64 p_y].toArray w (Ret w [] fun _ v _ => v = .tuple #[.int .u64 r.1, .int .u64 r.2]) := by
 refine f_enter [] [] Tryz.func67 rfl Tryz.ntmps67 rfl (by simp) (by simp [fps]) (by simp [fps]) fun a S => ?_
 unfold bits_Mul64 at h
 replace S := S.nk [] [(0, .int .u64 p_x), (1, .int .u64 p_y)] [] rfl ⟨rfl, rfl, trivial⟩
 refine f_seq ?_
 refine f_region ?_
 refine lv S (rn_assign rfl) rfl ?_; clear S; intro a S
 refine lv S (rn_assign rfl) rfl ?_; clear S; intro a S
 refine l_done ?_
 replace S := S.nk [] [(0, .int .u64 p_x), (1, .int .u64 p_y)] [] rfl ⟨rfl, rfl, trivial⟩
 refine then_n ?_
 refine f_seq ?_
 refine f_region ?_
 refine lv S (rn_move (S.tm rfl)) rfl ?_; clear S; intro a S
 refine lv S (rn_and_ (S.tm rfl) rfl) rfl ?_; clear S; intro a S
 refine lv S (rn_assign (S.tm rfl)) rfl ?_; clear S; intro a S
 refine l_done ?_
 replace S := S.nk [] [(0, .int .u64 p_x), (1, .int .u64 p_y), (6, .int .u64 (bitAnd .u64 p_x 4294967295))] [] rfl ⟨rfl, rfl, rfl, trivial⟩
 refine then_n ?_
 refine f_seq ?_
 refine f_region ?_
 refine lv S (rn_move (S.tm rfl)) rfl ?_; clear S; intro a S
 refine lv S (rn_shr (S.tm rfl) rfl (by decide)) rfl ?_; clear S; intro a S
 refine lv S (rn_assign (S.tm rfl)) rfl ?_; clear S; intro a S
 refine l_done ?_
 replace S := S.nk [] [(0, .int .u64 p_x), (1, .int .u64 p_y), (6, .int .u64 (bitAnd .u64 p_x 4294967295)), (7, .int .u64 (bitShr .u64 p_x 32))] [] rfl ⟨rfl, rfl, rfl, rfl, trivial⟩
 refine then_n ?_
 refine f_seq ?_
 refine f_region ?_
 refine lv S (rn_move (S.tm rfl)) rfl ?_; clear S; intro a S
 refine lv S (rn_and_ (S.tm rfl) rfl) rfl ?_; clear S; intro a S
 refine lv S (rn_assign (S.tm rfl)) rfl ?_; clear S; intro a S
 refine l_done ?_
 replace S := S.nk [] [(0, .int .u64 p_x), (1, .int .u64 p_y), (6, .int .u64 (bitAnd .u64 p_x 4294967295)), (7, .int .u64 (bitShr .u64 p_x 32)), (8, .int .u64 (bitAnd .u64 p_y 4294967295))] [] rfl ⟨rfl, rfl, rfl, rfl, rfl, trivial⟩
 refine then_n ?_
 refine f_seq ?_
 refine f_region ?_
 refine lv S (rn_move (S.tm rfl)) rfl ?_; clear S; intro a S
 refine lv S (rn_shr (S.tm rfl) rfl (by decide)) rfl ?_; clear S; intro a S
 refine lv S (rn_assign (S.tm rfl)) rfl ?_; clear S; intro a S
 refine l_done ?_
 replace S := S.nk [] [(0, .int .u64 p_x), (1, .int .u64 p_y), (6, .int .u64 (bitAnd .u64 p_x 4294967295)), (7, .int .u64 (bitShr .u64 p_x 32)), (8, .int .u64 (bitAnd .u64 p_y 4294967295)), (9, .int .u64 (bitShr .u64 p_y 32))] [] rfl ⟨rfl, rfl, rfl, rfl, rfl, rfl, trivial⟩
 refine then_n ?_
 refine f_seq ?_
 refine f_region ?_
 refine lv S (rn_move (S.tm rfl)) rfl ?_; clear S; intro a S
 refine lv S (rn_move (S.tm rfl)) rfl ?_; clear S; intro a S
 refine lv S (rn_mulk (S.tm rfl) (S.tm rfl)) rfl ?_; clear S; intro a S
 refine lv S (rn_assign (S.tm rfl)) rfl ?_; clear S; intro a S
 refine l_done ?_
 replace S := S.nk [] [(0, .int .u64 p_x), (1, .int .u64 p_y), (6, .int .u64 (bitAnd .u64 p_x 4294967295)), (7, .int .u64 (bitShr .u64 p_x 32)), (8, .int .u64 (bitAnd .u64 p_y 4294967295)), (9, .int .u64 (bitShr .u64 p_y 32)), (10, .int .u64 (IntKind.wrap .u64 ((bitAnd .u64 p_x 4294967295) * (bitAnd .u64 p_y 4294967295))))] [] rfl ⟨rfl, rfl, rfl, rfl, rfl, rfl, rfl, trivial⟩
 refine then_n ?_
 refine f_seq ?_
 refine f_region ?_
 refine lv S (rn_move (S.tm rfl)) rfl ?_; clear S; intro a S
 refine lv S (rn_move (S.tm rfl)) rfl ?_; clear S; intro a S
 refine lv S (rn_mulk (S.tm rfl) (S.tm rfl)) rfl ?_; clear S; intro a S
 refine lv S (rn_move (S.tm rfl)) rfl ?_; clear S; intro a S
 refine lv S (rn_shr (S.tm rfl) rfl (by decide)) rfl ?_; clear S; intro a S
 refine lv S (rn_addk (S.tm rfl) (S.tm rfl)) rfl ?_; clear S; intro a S
 refine lv S (rn_assign (S.tm rfl)) rfl ?_; clear S; intro a S
 refine l_done ?_
 replace S := S.nk [] [(0, .int .u64 p_x), (1, .int .u64 p_y), (6, .int .u64 (bitAnd .u64 p_x 4294967295)), (7, .int .u64 (bitShr .u64 p_x 32)), (9, .int .u64 (bitShr .u64 p_y 32)), (11, .int .u64 (IntKind.wrap .u64 ((IntKind.wrap .u64 ((bitShr .u64 p_x 32) * (bitAnd .u64 p_y 4294967295))) + (bitShr .u64 (IntKind.wrap .u64 ((bitAnd .u64 p_x 4294967295) * (bitAnd .u64 p_y 4294967295))) 32))))] [] rfl ⟨rfl, rfl, rfl, rfl, rfl, rfl, trivial⟩
 refine then_n ?_
 refine f_seq ?_
 refine f_region ?_
 refine lv S (rn_move (S.tm rfl)) rfl ?_; clear S; intro a S
 refine lv S (rn_and_ (S.tm rfl) rfl) rfl ?_; clear S; intro a S
 refine lv S (rn_assign (S.tm rfl)) rfl ?_; clear S; intro a S
 refine l_done ?_
 replace S := S.nk [] [(0, .int .u64 p_x), (1, .int .u64 p_y), (6, .int .u64 (bitAnd .u64 p_x 4294967295)), (7, .int .u64 (bitShr .u64 p_x 32)), (9, .int .u64 (bitShr .u64 p_y 32)), (11, .int .u64 (IntKind.wrap .u64 ((IntKind.wrap .u64 ((bitShr .u64 p_x 32) * (bitAnd .u64 p_y 4294967295))) + (bitShr .u64 (IntKind.wrap .u64 ((bitAnd .u64 p_x 4294967295) * (bitAnd .u64 p_y 4294967295))) 32)))), (12, .int .u64 (bitAnd .u64 (IntKind.wrap .u64 ((IntKind.wrap .u64 ((bitShr .u64 p_x 32) * (bitAnd .u64 p_y 4294967295))) + (bitShr .u64 (IntKind.wrap .u64 ((bitAnd .u64 p_x 4294967295) * (bitAnd .u64 p_y 4294967295))) 32))) 4294967295))] [] rfl ⟨rfl, rfl, rfl, rfl, rfl, rfl, rfl, trivial⟩
 refine then_n ?_
 refine f_seq ?_
 refine f_region ?_
 refine lv S (rn_move (S.tm rfl)) rfl ?_; clear S; intro a S
 refine lv S (rn_shr (S.tm rfl) rfl (by decide)) rfl ?_; clear S; intro a S
 refine lv S (rn_assign (S.tm rfl)) rfl ?_; clear S; intro a S
 refine l_done ?_
 replace S := S.nk [] [(0, .int .u64 p_x), (1, .int .u64 p_y), (6, .int .u64 (bitAnd .u64 p_x 4294967295)), (7, .int .u64 (bitShr .u64 p_x 32)), (9, .int .u64 (bitShr .u64 p_y 32)), (12, .int .u64 (bitAnd .u64 (IntKind.wrap .u64 ((IntKind.wrap .u64 ((bitShr .u64 p_x 32) * (bitAnd .u64 p_y 4294967295))) + (bitShr .u64 (IntKind.wrap .u64 ((bitAnd .u64 p_x 4294967295) * (bitAnd .u64 p_y 4294967295))) 32))) 4294967295)), (13, .int .u64 (bitShr .u64 (IntKind.wrap .u64 ((IntKind.wrap .u64 ((bitShr .u64 p_x 32) * (bitAnd .u64 p_y 4294967295))) + (bitShr .u64 (IntKind.wrap .u64 ((bitAnd .u64 p_x 4294967295) * (bitAnd .u64 p_y 4294967295))) 32))) 32))] [] rfl ⟨rfl, rfl, rfl, rfl, rfl, rfl, rfl, trivial⟩
 refine then_n ?_
 refine f_seq ?_
 refine f_region ?_
 refine lv S (rn_move (S.tm rfl)) rfl ?_; clear S; intro a S
 refine lv S (rn_move (S.tm rfl)) rfl ?_; clear S; intro a S
 refine lv S (rn_move (S.tm rfl)) rfl ?_; clear S; intro a S
 refine lv S (rn_mulk (S.tm rfl) (S.tm rfl)) rfl ?_; clear S; intro a S
 refine lv S (rn_addk (S.tm rfl) (S.tm rfl)) rfl ?_; clear S; intro a S
 refine lv S (rn_assign (S.tm rfl)) rfl ?_; clear S; intro a S
 refine l_done ?_
 replace S := S.nk [] [(0, .int .u64 p_x), (1, .int .u64 p_y), (7, .int .u64 (bitShr .u64 p_x 32)), (9, .int .u64 (bitShr .u64 p_y 32)), (12, .int .u64 (IntKind.wrap .u64 ((bitAnd .u64 (IntKind.wrap .u64 ((IntKind.wrap .u64 ((bitShr .u64 p_x 32) * (bitAnd .u64 p_y 4294967295))) + (bitShr .u64 (IntKind.wrap .u64 ((bitAnd .u64 p_x 4294967295) * (bitAnd .u64 p_y 4294967295))) 32))) 4294967295) + (IntKind.wrap .u64 ((bitAnd .u64 p_x 4294967295) * (bitShr .u64 p_y 32)))))), (13, .int .u64 (bitShr .u64 (IntKind.wrap .u64 ((IntKind.wrap .u64 ((bitShr .u64 p_x 32) * (bitAnd .u64 p_y 4294967295))) + (bitShr .u64 (IntKind.wrap .u64 ((bitAnd .u64 p_x 4294967295) * (bitAnd .u64 p_y 4294967295))) 32))) 32))] [] rfl ⟨rfl, rfl, rfl, rfl, rfl, rfl, trivial⟩
 refine then_n ?_
 refine f_seq ?_
 refine f_region ?_
 refine lv S (rn_move (S.tm rfl)) rfl ?_; clear S; intro a S
 refine lv S (rn_move (S.tm rfl)) rfl ?_; clear S; intro a S
 refine lv S (rn_mulk (S.tm rfl) (S.tm rfl)) rfl ?_; clear S; intro a S
 refine lv S (rn_move (S.tm rfl)) rfl ?_; clear S; intro a S
 refine lv S (rn_addk (S.tm rfl) (S.tm rfl)) rfl ?_; clear S; intro a S
 refine lv S (rn_move (S.tm rfl)) rfl ?_; clear S; intro a S
 refine lv S (rn_shr (S.tm rfl) rfl (by decide)) rfl ?_; clear S; intro a S
 refine lv S (rn_addk (S.tm rfl) (S.tm rfl)) rfl ?_; clear S; intro a S
 refine lv S (rn_assign (S.tm rfl)) rfl ?_; clear S; intro a S
 refine l_done ?_
 replace S := S.nk [] [(0, .int .u64 p_x), (1, .int .u64 p_y), (4, .int .u64 (IntKind.wrap .u64 ((IntKind.wrap .u64 ((IntKind.wrap .u64 ((bitShr .u64 p_x 32) * (bitShr .u64 p_y 32))) + (bitShr .u64 (IntKind.wrap .u64 ((IntKind.wrap .u64 ((bitShr .u64 p_x 32) * (bitAnd .u64 p_y 4294967295))) + (bitShr .u64 (IntKind.wrap .u64 ((bitAnd .u64 p_x 4294967295) * (bitAnd .u64 p_y 4294967295))) 32))) 32))) + (bitShr .u64 (IntKind.wrap .u64 ((bitAnd .u64 (IntKind.wrap .u64 ((IntKind.wrap .u64 ((bitShr .u64 p_x 32) * (bitAnd .u64 p_y 4294967295))) + (bitShr .u64 (IntKind.wrap .u64 ((bitAnd .u64 p_x 4294967295) * (bitAnd .u64 p_y 4294967295))) 32))) 4294967295) + (IntKind.wrap .u64 ((bitAnd .u64 p_x 4294967295) * (bitShr .u64 p_y 32))))) 32))))] [] rfl ⟨rfl, rfl, rfl, trivial⟩
 refine then_n ?_
 refine f_seq ?_
 refine f_region ?_
 refine lv S (rn_move (S.tm rfl)) rfl ?_; clear S; intro a S
 refine lv S (rn_move (S.tm rfl)) rfl ?_; clear S; intro a S
 refine lv S (rn_mulk (S.tm rfl) (S.tm rfl)) rfl ?_; clear S; intro a S
 refine lv S (rn_assign (S.tm rfl)) rfl ?_; clear S; intro a S
 refine l_done ?_
 replace S := S.nk [] [(4, .int .u64 (IntKind.wrap .u64 ((IntKind.wrap .u64 ((IntKind.wrap .u64 ((bitShr .u64 p_x 32) * (bitShr .u64 p_y 32))) + (bitShr .u64 (IntKind.wrap .u64 ((IntKind.wrap .u64 ((bitShr .u64 p_x 32) * (bitAnd .u64 p_y 4294967295))) + (bitShr .u64 (IntKind.wrap .u64 ((bitAnd .u64 p_x 4294967295) * (bitAnd .u64 p_y 4294967295))) 32))) 32))) + (bitShr .u64 (IntKind.wrap .u64 ((bitAnd .u64 (IntKind.wrap .u64 ((IntKind.wrap .u64 ((bitShr .u64 p_x 32) * (bitAnd .u64 p_y 4294967295))) + (bitShr .u64 (IntKind.wrap .u64 ((bitAnd .u64 p_x 4294967295) * (bitAnd .u64 p_y 4294967295))) 32))) 4294967295) + (IntKind.wrap .u64 ((bitAnd .u64 p_x 4294967295) * (bitShr .u64 p_y 32))))) 32)))), (5, .int .u64 (IntKind.wrap .u64 (p_x * p_y)))] [] rfl ⟨rfl, rfl, trivial⟩
 refine then_n ?_
 refine wp_ret ?_
 subst h
 exact f_ret2 S Tryz.results67 rfl rfl rfl
set_option maxRecDepth 20000 in
theorem bits_Len64_ok (w : World) (p_x : Int) (r : Int) (h : bits_Len64 p_x = some r) :
    Calls Tryz.prog 93 [.int .u64 p_x].toArray w (Ret w [] fun _ v _ => v = .int .i64 r) := by
 refine f_enter [] [] Tryz.func93 rfl Tryz.ntmps93 rfl (by simp) (by simp [fps]) (by simp [fps]) fun a S => ?_
 unfold bits_Len64 at h
 replace S := S.nk [] [(0, .int .u64 p_x)] [] rfl ⟨rfl, trivial⟩
 refine f_seq ?_
 refine f_region ?_
 refine lv S (rn_assign rfl) rfl ?_; clear S; intro a S
 refine l_done ?_
 replace S := S.nk [] [(0, .int .u64 p_x), (2, .int .i64 0)] [] rfl ⟨rfl, rfl, trivial⟩
 refine then_n ?_
 refine f_seq ?_
 refine f_seq ?_
 refine f_region ?_
 refine lv S (rn_move (S.tm rfl)) rfl ?_; clear S; intro a S
 refine lv S (rn_geq (S.tm rfl) rfl) rfl ?_; clear S; intro a S
 refine l_done ?_
 replace S := S.nk [] [(0, .int .u64 p_x), (2, .int .i64 0), (4, .bool (decide (4294967296 ≤ p_x)))] [] rfl ⟨rfl, rfl, rfl, trivial⟩
 refine then_n ?_
 obtain ⟨j1, hj1, h⟩ := joinE h
 refine f_join (fun a w' => ∃ x1 : Int, ∃ x2 : Int, j1 x1 x2 = some r ∧ Sx w [] nov [] [(0, .int .u64 x1), (2, .int .i64 x2)] 25 a w') ?_ ?_
 ·refine f_cond (S.tm rfl) (fun hb1 => ?_) (fun hb1 => ?_)
  ·replace h := iteT h hb1
   refine f_seq ?_
   refine f_region ?_
   refine lv S (rn_move (S.tm rfl)) rfl ?_; clear S; intro a S
   refine lv S (rn_shr (S.tm rfl) rfl (by decide)) rfl ?_; clear S; intro a S
   refine lv S (rn_assign (S.tm rfl)) rfl ?_; clear S; intro a S
   refine l_done ?_
   replace S := S.nk [] [(0, .int .u64 (bitShr .u64 p_x 32))] [] rfl ⟨rfl, trivial⟩
   refine then_n ?_
   refine f_region ?_
   refine lv S (rn_assign rfl) rfl ?_; clear S; intro a S
   refine l_done ?_
   replace S := S.nk [] [(0, .int .u64 (bitShr .u64 p_x 32)), (2, .int .i64 32)] [] rfl ⟨rfl, rfl, trivial⟩
   refine then_n ?_
   exact ⟨bitShr .u64 p_x 32, 32, h, S.nf [] rfl ⟨rfl, rfl, trivial⟩⟩
  ·replace h := iteF h hb1
   refine wp_skip ?_
   refine then_n ?_
   exact ⟨p_x, 0, h, S.nf [] rfl ⟨rfl, rfl, trivial⟩⟩
 clear S h; rintro a w1 ⟨x1, x2, h, S⟩; rw [hj1] at h; clear hj1 j1
 refine then_n ?_
 refine f_seq ?_
 refine f_seq ?_
 refine f_region ?_
 refine lv S (rn_move (S.tm rfl)) rfl ?_; clear S; intro a S
 refine lv S (rn_geq (S.tm rfl) rfl) rfl ?_; clear S; intro a S
 refine l_done ?_
 replace S := S.nk [] [(0, .int .u64 x1), (2, .int .i64 x2), (8, .bool (decide (65536 ≤ x1)))] [] rfl ⟨rfl, rfl, rfl, trivial⟩
 refine then_n ?_
 obtain ⟨j2, hj2, h⟩ := joinE h
 refine f_join (fun a w' => ∃ x3 : Int, ∃ x4 : Int, j2 x3 x4 = some r ∧ Sx w [] nov [] [(0, .int .u64 x3), (2, .int .i64 x4)] 25 a w') ?_ ?_
 ·refine f_cond (S.tm rfl) (fun hb2 => ?_) (fun hb2 => ?_)
  ·replace h := iteT h hb2
   refine f_seq ?_
   refine f_region ?_
   refine lv S (rn_move (S.tm rfl)) rfl ?_; clear S; intro a S
   refine lv S (rn_shr (S.tm rfl) rfl (by decide)) rfl ?_; clear S; intro a S
   refine lv S (rn_assign (S.tm rfl)) rfl ?_; clear S; intro a S
   refine l_done ?_
   replace S := S.nk [] [(0, .int .u64 (bitShr .u64 x1 16)), (2, .int .i64 x2)] [] rfl ⟨rfl, rfl, trivial⟩
   refine then_n ?_
   refine f_region ?_
   refine lv S (rn_move (S.tm rfl)) rfl ?_; clear S; intro a S
   refine lv S (rn_add (S.tm rfl) rfl) rfl ?_; clear S; intro a S
   refine lv S (rn_assign (S.tm rfl)) rfl ?_; clear S; intro a S
   refine l_done ?_
   replace S := S.nk [] [(0, .int .u64 (bitShr .u64 x1 16)), (2, .int .i64 (W (x2 + 16)))] [] rfl ⟨rfl, rfl, trivial⟩
   refine then_n ?_
   exact ⟨bitShr .u64 x1 16, W (x2 + 16), h, S.nf [] rfl ⟨rfl, rfl, trivial⟩⟩
  ·replace h := iteF h hb2
   refine wp_skip ?_
   refine then_n ?_
   exact ⟨x1, x2, h, S.nf [] rfl ⟨rfl, rfl, trivial⟩⟩
 clear S h; rintro a w2 ⟨x3, x4, h, S⟩; rw [hj2] at h; clear hj2 j2
 refine then_n ?_
 refine f_seq ?_
 refine f_seq ?_
 refine f_region ?_
 refine lv S (rn_move (S.tm rfl)) rfl ?_; clear S; intro a S
 refine lv S (rn_geq (S.tm rfl) rfl) rfl ?_; clear S; intro a S
 refine l_done ?_
 replace S := S.nk [] [(0, .int .u64 x3), (2, .int .i64 x4), (14, .bool (decide (256 ≤ x3)))] [] rfl ⟨rfl, rfl, rfl, trivial⟩
 refine then_n ?_
 obtain ⟨j3, hj3, h⟩ := joinE h
 refine f_join (fun a w' => ∃ x5 : Int, ∃ x6 : Int, j3 x5 x6 = some r ∧ Sx w [] nov [] [(0, .int .u64 x5), (2, .int .i64 x6)] 25 a w') ?_ ?_
 ·refine f_cond (S.tm rfl) (fun hb3 => ?_) (fun hb3 => ?_)
  ·replace h := iteT h hb3
   refine f_seq ?_
   refine f_region ?_
   refine lv S (rn_move (S.tm rfl)) rfl ?_; clear S; intro a S
   refine lv S (rn_shr (S.tm rfl) rfl (by decide)) rfl ?_; clear S; intro a S
   refine lv S (rn_assign (S.tm rfl)) rfl ?_; clear S; intro a S
   refine l_done ?_
   replace S := S.nk [] [(0, .int .u64 (bitShr .u64 x3 8)), (2, .int .i64 x4)] [] rfl ⟨rfl, rfl, trivial⟩
   refine then_n ?_
   refine f_region ?_
   refine lv S (rn_move (S.tm rfl)) rfl ?_; clear S; intro a S
   refine lv S (rn_add (S.tm rfl) rfl) rfl ?_; clear S; intro a S
   refine lv S (rn_assign (S.tm rfl)) rfl ?_; clear S; intro a S
   refine l_done ?_
   replace S := S.nk [] [(0, .int .u64 (bitShr .u64 x3 8)), (2, .int .i64 (W (x4 + 8)))] [] rfl ⟨rfl, rfl, trivial⟩
   refine then_n ?_
   exact ⟨bitShr .u64 x3 8, W (x4 + 8), h, S.nf [] rfl ⟨rfl, rfl, trivial⟩⟩
  ·replace h := iteF h hb3
   refine wp_skip ?_
   refine then_n ?_
   exact ⟨x3, x4, h, S.nf [] rfl ⟨rfl, rfl, trivial⟩⟩
 clear S h; rintro a w3 ⟨x5, x6, h, S⟩; rw [hj3] at h; clear hj3 j3
 refine then_n ?_
 refine f_seq ?_
 refine f_region ?_
 refine lv S (rn_move (S.tm rfl)) rfl ?_; clear S; intro a S
 refine lv S (rn_move (S.tm rfl)) rfl ?_; clear S; intro a S
 refine lv S (rn_conv Tryz.underlying122 Tryz.underlying5 (S.tm rfl)) rfl ?_; clear S; intro a S
 obtain ⟨hc1, h⟩ := chkE h
 refine lv S (rn_sindexT Tryz.underlying9 rfl (S.tm rfl) hc1) rfl ?_; clear S; intro a S
 refine lv S (rn_conv Tryz.underlying5 Tryz.underlying3 (S.tm rfl)) rfl ?_; clear S; intro a S
 refine lv S (rn_add (S.tm rfl) (S.tm rfl)) rfl ?_; clear S; intro a S
 refine lv S (rn_assign (S.tm rfl)) rfl ?_; clear S; intro a S
 refine l_done ?_
 replace S := S.nk [] [(2, .int .i64 (W (x6 + (W (sbyte k__00_01_02_02_h633d86 (IntKind.wrap .u8 x5))))))] [] rfl ⟨rfl, trivial⟩
 refine then_n ?_
 refine wp_ret ?_
 obtain rfl := Option.some.inj h
 exact f_ret S Tryz.results93 rfl rfl
theorem bits_LeadingZeros64_ok (w : World) (p_x : Int) (r : Int) (h : bits_LeadingZeros64 p_x = some r) :
    Calls Tryz.prog 81 [.int .u64 p_x].toArray w (Ret w [] fun _ v _ => v = .int .i64 r) := by
 refine f_enter [] [] Tryz.func81 rfl Tryz.ntmps81 rfl (by simp) (by simp [fps]) (by simp [fps]) fun a S => ?_
 unfold bits_LeadingZeros64 at h
 replace S := S.nk [] [(0, .int .u64 p_x)] [] rfl ⟨rfl, trivial⟩
 refine f_seq ?_
 refine f_region ?_
 refine lv S (rn_assign rfl) rfl ?_; clear S; intro a S
 refine l_done ?_
 replace S := S.nk [] [(0, .int .u64 p_x)] [] rfl ⟨rfl, trivial⟩
 refine then_n ?_
 refine f_seq ?_
 refine f_region ?_
 refine lv S (rn_move (S.tm rfl)) rfl ?_; clear S; intro a S
 obtain ⟨r1, hr1, h⟩ := bindE h
 refine l_enter S (fun _ => run_call (vs := [.int .u64 p_x]) ⟨(S.tm rfl), trivial⟩ Tryz.call93) (bits_Len64_ok _ p_x _ hr1) rfl ?_; clear S; intro v1 a w1 hv1 hk1 hn1 S
 subst hv1
 refine lv S (rn_sub rfl (S.tm rfl)) rfl ?_; clear S; intro a S
 refine lv S (rn_assign (S.tm rfl)) rfl ?_; clear S; intro a S
 refine l_done ?_
 replace S := S.nk [] [(2, .int .i64 (W (64 - r1)))] [] rfl ⟨rfl, trivial⟩
 refine then_n ?_
 refine wp_ret ?_
 obtain rfl := Option.some.inj h
 exact f_ret S Tryz.results81 rfl rfl
set_option maxRecDepth 20000 in
theorem bits_Div64_ok (w : World) (p_hi : Int) (p_lo : Int) (p_y : Int) (r : Int × Int) (h : bits_Div64 p_hi p_lo p_y = some r) :
    Calls Tryz.prog 68 [.int .u64 p_hi, .int .u64 p_lo, .int .u64 p_y].toArray w (Ret w [] fun _ v _ => v = .tuple #[.int .u64 r.1, .int .u64 r.2]) := by
 refine f_enter [] [] Tryz.func68 rfl Tryz.ntmps68 rfl (by simp) (by simp [fps]) (by simp [fps]) fun a S => ?_
 unfold bits_Div64 at h
 replace S := S.nk [] [(0, .int .u64 p_hi), (1, .int .u64 p_lo), (2, .int .u64 p_y)] [] rfl ⟨rfl, rfl, rfl, trivial⟩
 refine f_seq ?_
 refine f_region ?_
 refine lv S (rn_assign rfl) rfl ?_; clear S; intro a S
 refine lv S (rn_assign rfl) rfl ?_; clear S; intro a S
 refine l_done ?_
 replace S := S.nk [] [(0, .int .u64 p_hi), (1, .int .u64 p_lo), (2, .int .u64 p_y)] [] rfl ⟨rfl, rfl, rfl, trivial⟩
 refine then_n ?_
 refine f_seq ?_
 refine f_seq ?_
 refine f_region ?_
 refine lv S (rn_move (S.tm rfl)) rfl ?_; clear S; intro a S
 refine lv S (rn_eql (S.tm rfl) rfl) rfl ?_; clear S; intro a S
 refine l_done ?_
 replace S := S.nk [] [(0, .int .u64 p_hi), (1, .int .u64 p_lo), (2, .int .u64 p_y), (20, .bool (decide (p_y = 0)))] [] rfl ⟨rfl, rfl, rfl, rfl, trivial⟩
 refine then_n ?_
 refine f_cond (S.tm rfl) (fun hb1 => ?_) (fun hb1 => ?_)
 ·replace h := iteT h hb1
  cases h
 ·replace h := iteF h hb1
  refine wp_skip ?_
  refine then_n ?_
  refine f_seq ?_
  refine f_seq ?_
  refine f_region ?_
  refine lv S (rn_move (S.tm rfl)) rfl ?_; clear S; intro a S
  refine lv S (rn_move (S.tm rfl)) rfl ?_; clear S; intro a S
  refine lv S (rn_leq (S.tm rfl) (S.tm rfl)) rfl ?_; clear S; intro a S
  refine l_done ?_
  replace S := S.nk [] [(0, .int .u64 p_hi), (1, .int .u64 p_lo), (2, .int .u64 p_y), (24, .bool (decide (p_y ≤ p_hi)))] [] rfl ⟨rfl, rfl, rfl, rfl, trivial⟩
  refine then_n ?_
  refine f_cond (S.tm rfl) (fun hb2 => ?_) (fun hb2 => ?_)
  ·replace h := iteT h hb2
   cases h
  ·replace h := iteF h hb2
   refine wp_skip ?_
   refine then_n ?_
   refine f_seq ?_
   refine f_seq ?_
   refine f_region ?_
   refine lv S (rn_move (S.tm rfl)) rfl ?_; clear S; intro a S
   refine lv S (rn_eql (S.tm rfl) rfl) rfl ?_; clear S; intro a S
   refine l_done ?_
   replace S := S.nk [] [(0, .int .u64 p_hi), (1, .int .u64 p_lo), (2, .int .u64 p_y), (27, .bool (decide (p_hi = 0)))] [] rfl ⟨rfl, rfl, rfl, rfl, trivial⟩
   refine then_n ?_
   refine f_cond (S.tm rfl) (fun hb3 => ?_) (fun hb3 => ?_)
   ·replace h := iteT h hb3
    refine f_seq ?_
    refine d_region [] ([]) Tryz.mixed S rfl (by kernel_rfl) ?_; clear S; intro w1 hk1 hsel S
    refine d_rest [0, 1, 2, 3, 4, 5, 6, 7] hsel (by kernel_rfl) rfl ?_
    clear hsel
    refine s_lv S rfl (rn_move (S.tm rfl)) rfl ?_; clear S; intro a S
    refine s_lv S rfl (rn_move (S.tm rfl)) rfl ?_; clear S; intro a S
    obtain ⟨hc1, h⟩ := chkE h
    refine s_lv S rfl (rn_quok (S.tm rfl) (S.tm rfl) (ne0_of hc1)) rfl ?_; clear S; intro a S
    refine s_lv S rfl (rn_move (S.tm rfl)) rfl ?_; clear S; intro a S
    refine s_lv S rfl (rn_move (S.tm rfl)) rfl ?_; clear S; intro a S
    obtain ⟨hc2, h⟩ := chkE h
    refine s_lv S rfl (rn_remk (S.tm rfl) (S.tm rfl) (ne0_of hc2)) rfl ?_; clear S; intro a S
    refine s_lv S rfl (rn_assign (S.tm rfl)) rfl ?_; clear S; intro a S
    refine s_lv S rfl (rn_assign (S.tm rfl)) rfl ?_; clear S; intro a S
    refine s_done ?_
    replace S := S.nk [] [(6, .int .u64 (IntKind.wrap .u64 (Int.tdiv p_lo p_y))), (7, .int .u64 (Int.tmod p_lo p_y))] [] rfl ⟨rfl, rfl, trivial⟩
    refine then_n ?_
    refine wp_ret ?_
    refine then_r ?_
    obtain rfl := Option.some.inj h
    exact f_ret2 S Tryz.results68 rfl rfl rfl
   ·replace h := iteF h hb3
    refine wp_skip ?_
    refine then_n ?_
    refine f_seq ?_
    refine f_region ?_
    refine lv S (rn_move (S.tm rfl)) rfl ?_; clear S; intro a S
    obtain ⟨r1, hr1, h⟩ := bindE h
    refine l_enter S (fun _ => run_call (vs := [.int .u64 p_y]) ⟨(S.tm rfl), trivial⟩ Tryz.call81) (bits_LeadingZeros64_ok _ p_y _ hr1) rfl ?_; clear S; intro v1 a w2 hv1 hk2 hn1 S
    subst hv1
    refine lv S (rn_conv Tryz.underlying3 Tryz.underlying133 (S.tm rfl)) rfl ?_; clear S; intro a S
    refine lv S (rn_assign (S.tm rfl)) rfl ?_; clear S; intro a S
    refine l_done ?_
    replace S := S.nk [] [(0, .int .u64 p_hi), (1, .int .u64 p_lo), (2, .int .u64 p_y), (8, .int .u64 (IntKind.wrap .u64 r1))] [] rfl ⟨rfl, rfl, rfl, rfl, trivial⟩
    refine then_n ?_
    refine f_seq ?_
    refine f_region ?_
    refine lv S (rn_move (S.tm rfl)) rfl ?_; clear S; intro a S
    refine lv S (rn_move (S.tm rfl)) rfl ?_; clear S; intro a S
    obtain ⟨hc3, h⟩ := chkE h
    refine lv S (rn_shl (S.tm rfl) (S.tm rfl) (of_decide_eq_true hc3)) rfl ?_; clear S; intro a S
    refine lv S (rn_assign (S.tm rfl)) rfl ?_; clear S; intro a S
    refine l_done ?_
    replace S := S.nk [] [(0, .int .u64 p_hi), (1, .int .u64 p_lo), (2, .int .u64 (bitShl .u64 p_y (IntKind.wrap .u64 r1))), (8, .int .u64 (IntKind.wrap .u64 r1))] [] rfl ⟨rfl, rfl, rfl, rfl, trivial⟩
    refine then_n ?_
    refine f_seq ?_
    refine f_region ?_
    refine lv S (rn_move (S.tm rfl)) rfl ?_; clear S; intro a S
    refine lv S (rn_shr (S.tm rfl) rfl (by decide)) rfl ?_; clear S; intro a S
    refine lv S (rn_assign (S.tm rfl)) rfl ?_; clear S; intro a S
    refine l_done ?_
    replace S := S.nk [] [(0, .int .u64 p_hi), (1, .int .u64 p_lo), (2, .int .u64 (bitShl .u64 p_y (IntKind.wrap .u64 r1))), (8, .int .u64 (IntKind.wrap .u64 r1)), (9, .int .u64 (bitShr .u64 (bitShl .u64 p_y (IntKind.wrap .u64 r1)) 32))] [] rfl ⟨rfl, rfl, rfl, rfl, rfl, trivial⟩
    refine then_n ?_
    refine f_seq ?_
    refine f_region ?_
    refine lv S (rn_move (S.tm rfl)) rfl ?_; clear S; intro a S
    refine lv S (rn_and_ (S.tm rfl) rfl) rfl ?_; clear S; intro a S
    refine lv S (rn_assign (S.tm rfl)) rfl ?_; clear S; intro a S
    refine l_done ?_
    replace S := S.nk [] [(0, .int .u64 p_hi), (1, .int .u64 p_lo), (2, .int .u64 (bitShl .u64 p_y (IntKind.wrap .u64 r1))), (8, .int .u64 (IntKind.wrap .u64 r1)), (9, .int .u64 (bitShr .u64 (bitShl .u64 p_y (IntKind.wrap .u64 r1)) 32)), (10, .int .u64 (bitAnd .u64 (bitShl .u64 p_y (IntKind.wrap .u64 r1)) 4294967295))] [] rfl ⟨rfl, rfl, rfl, rfl, rfl, rfl, trivial⟩
    refine then_n ?_
    refine f_seq ?_
    refine f_region ?_
    refine lv S (rn_move (S.tm rfl)) rfl ?_; clear S; intro a S
    refine lv S (rn_move (S.tm rfl)) rfl ?_; clear S; intro a S
    obtain ⟨hc4, h⟩ := chkE h
    refine lv S (rn_shl (S.tm rfl) (S.tm rfl) (of_decide_eq_true hc4)) rfl ?_; clear S; intro a S
    refine lv S (rn_move (S.tm rfl)) rfl ?_; clear S; intro a S
    refine lv S (rn_move (S.tm rfl)) rfl ?_; clear S; intro a S
    refine lv S (rn_subk rfl (S.tm rfl)) rfl ?_; clear S; intro a S
    obtain ⟨hc5, h⟩ := chkE h
    refine lv S (rn_shr (S.tm rfl) (S.tm rfl) (of_decide_eq_true hc5)) rfl ?_; clear S; intro a S
    refine lv S (rn_or_ (S.tm rfl) (S.tm rfl)) rfl ?_; clear S; intro a S
    refine lv S (rn_assign (S.tm rfl)) rfl ?_; clear S; intro a S
    refine l_done ?_
    replace S := S.nk [] [(1, .int .u64 p_lo), (2, .int .u64 (bitShl .u64 p_y (IntKind.wrap .u64 r1))), (8, .int .u64 (IntKind.wrap .u64 r1)), (9, .int .u64 (bitShr .u64 (bitShl .u64 p_y (IntKind.wrap .u64 r1)) 32)), (10, .int .u64 (bitAnd .u64 (bitShl .u64 p_y (IntKind.wrap .u64 r1)) 4294967295)), (11, .int .u64 (bitOr .u64 (bitShl .u64 p_hi (IntKind.wrap .u64 r1)) (bitShr .u64 p_lo (IntKind.wrap .u64 (64 - (IntKind.wrap .u64 r1))))))] [] rfl ⟨rfl, rfl, rfl, rfl, rfl, rfl, trivial⟩
    refine then_n ?_
    refine f_seq ?_
    refine f_region ?_
    refine lv S (rn_move (S.tm rfl)) rfl ?_; clear S; intro a S
    refine lv S (rn_move (S.tm rfl)) rfl ?_; clear S; intro a S
    obtain ⟨hc6, h⟩ := chkE h
    refine lv S (rn_shl (S.tm rfl) (S.tm rfl) (of_decide_eq_true hc6)) rfl ?_; clear S; intro a S
    refine lv S (rn_assign (S.tm rfl)) rfl ?_; clear S; intro a S
    refine l_done ?_
    replace S := S.nk [] [(2, .int .u64 (bitShl .u64 p_y (IntKind.wrap .u64 r1))), (8, .int .u64 (IntKind.wrap .u64 r1)), (9, .int .u64 (bitShr .u64 (bitShl .u64 p_y (IntKind.wrap .u64 r1)) 32)), (10, .int .u64 (bitAnd .u64 (bitShl .u64 p_y (IntKind.wrap .u64 r1)) 4294967295)), (11, .int .u64 (bitOr .u64 (bitShl .u64 p_hi (IntKind.wrap .u64 r1)) (bitShr .u64 p_lo (IntKind.wrap .u64 (64 - (IntKind.wrap .u64 r1)))))), (12, .int .u64 (bitShl .u64 p_lo (IntKind.wrap .u64 r1)))] [] rfl ⟨rfl, rfl, rfl, rfl, rfl, rfl, trivial⟩
    refine then_n ?_
    refine f_seq ?_
    refine f_region ?_
    refine lv S (rn_move (S.tm rfl)) rfl ?_; clear S; intro a S
    refine lv S (rn_shr (S.tm rfl) rfl (by decide)) rfl ?_; clear S; intro a S
    refine lv S (rn_assign (S.tm rfl)) rfl ?_; clear S; intro a S
    refine l_done ?_
    replace S := S.nk [] [(2, .int .u64 (bitShl .u64 p_y (IntKind.wrap .u64 r1))), (8, .int .u64 (IntKind.wrap .u64 r1)), (9, .int .u64 (bitShr .u64 (bitShl .u64 p_y (IntKind.wrap .u64 r1)) 32)), (10, .int .u64 (bitAnd .u64 (bitShl .u64 p_y (IntKind.wrap .u64 r1)) 4294967295)), (11, .int .u64 (bitOr .u64 (bitShl .u64 p_hi (IntKind.wrap .u64 r1)) (bitShr .u64 p_lo (IntKind.wrap .u64 (64 - (IntKind.wrap .u64 r1)))))), (12, .int .u64 (bitShl .u64 p_lo (IntKind.wrap .u64 r1))), (13, .int .u64 (bitShr .u64 (bitShl .u64 p_lo (IntKind.wrap .u64 r1)) 32))] [] rfl ⟨rfl, rfl, rfl, rfl, rfl, rfl, rfl, trivial⟩
    refine then_n ?_
    refine f_seq ?_
    refine f_region ?_
    refine lv S (rn_move (S.tm rfl)) rfl ?_; clear S; intro a S
    refine lv S (rn_and_ (S.tm rfl) rfl) rfl ?_; clear S; intro a S
    refine lv S (rn_assign (S.tm rfl)) rfl ?_; clear S; intro a S
    refine l_done ?_
    replace S := S.nk [] [(2, .int .u64 (bitShl .u64 p_y (IntKind.wrap .u64 r1))), (8, .int .u64 (IntKind.wrap .u64 r1)), (9, .int .u64 (bitShr .u64 (bitShl .u64 p_y (IntKind.wrap .u64 r1)) 32)), (10, .int .u64 (bitAnd .u64 (bitShl .u64 p_y (IntKind.wrap .u64 r1)) 4294967295)), (11, .int .u64 (bitOr .u64 (bitShl .u64 p_hi (IntKind.wrap .u64 r1)) (bitShr .u64 p_lo (IntKind.wrap .u64 (64 - (IntKind.wrap .u64 r1)))))), (13, .int .u64 (bitShr .u64 (bitShl .u64 p_lo (IntKind.wrap .u64 r1)) 32)), (14, .int .u64 (bitAnd .u64 (bitShl .u64 p_lo (IntKind.wrap .u64 r1)) 4294967295))] [] rfl ⟨rfl, rfl, rfl, rfl, rfl, rfl, rfl, trivial⟩
    refine then_n ?_
    refine f_seq ?_
    refine f_region ?_
    refine lv S (rn_move (S.tm rfl)) rfl ?_; clear S; intro a S
    refine lv S (rn_move (S.tm rfl)) rfl ?_; clear S; intro a S
    obtain ⟨hc7, h⟩ := chkE h
    refine lv S (rn_quok (S.tm rfl) (S.tm rfl) (ne0_of hc7)) rfl ?_; clear S; intro a S
    refine lv S (rn_assign (S.tm rfl)) rfl ?_; clear S; intro a S
    refine l_done ?_
    replace S := S.nk [] [(2, .int .u64 (bitShl .u64 p_y (IntKind.wrap .u64 r1))), (8, .int .u64 (IntKind.wrap .u64 r1)), (9, .int .u64 (bitShr .u64 (bitShl .u64 p_y (IntKind.wrap .u64 r1)) 32)), (10, .int .u64 (bitAnd .u64 (bitShl .u64 p_y (IntKind.wrap .u64 r1)) 4294967295)), (11, .int .u64 (bitOr .u64 (bitShl .u64 p_hi (IntKind.wrap .u64 r1)) (bitShr .u64 p_lo (IntKind.wrap .u64 (64 - (IntKind.wrap .u64 r1)))))), (13, .int .u64 (bitShr .u64 (bitShl .u64 p_lo (IntKind.wrap .u64 r1)) 32)), (14, .int .u64 (bitAnd .u64 (bitShl .u64 p_lo (IntKind.wrap .u64 r1)) 4294967295)), (15, .int .u64 (IntKind.wrap .u64 (Int.tdiv (bitOr .u64 (bitShl .u64 p_hi (IntKind.wrap .u64 r1)) (bitShr .u64 p_lo (IntKind.wrap .u64 (64 - (IntKind.wrap .u64 r1))))) (bitShr .u64 (bitShl .u64 p_y (IntKind.wrap .u64 r1)) 32))))] [] rfl ⟨rfl, rfl, rfl, rfl, rfl, rfl, rfl, rfl, trivial⟩
    refine then_n ?_
    refine f_seq ?_
    refine f_region ?_
    refine lv S (rn_move (S.tm rfl)) rfl ?_; clear S; intro a S
    refine lv S (rn_move (S.tm rfl)) rfl ?_; clear S; intro a S
    refine lv S (rn_move (S.tm rfl)) rfl ?_; clear S; intro a S
    refine lv S (rn_mulk (S.tm rfl) (S.tm rfl)) rfl ?_; clear S; intro a S
    refine lv S (rn_subk (S.tm rfl) (S.tm rfl)) rfl ?_; clear S; intro a S
    refine lv S (rn_assign (S.tm rfl)) rfl ?_; clear S; intro a S
    refine l_done ?_
    replace S := S.nk [] [(2, .int .u64 (bitShl .u64 p_y (IntKind.wrap .u64 r1))), (8, .int .u64 (IntKind.wrap .u64 r1)), (9, .int .u64 (bitShr .u64 (bitShl .u64 p_y (IntKind.wrap .u64 r1)) 32)), (10, .int .u64 (bitAnd .u64 (bitShl .u64 p_y (IntKind.wrap .u64 r1)) 4294967295)), (11, .int .u64 (bitOr .u64 (bitShl .u64 p_hi (IntKind.wrap .u64 r1)) (bitShr .u64 p_lo (IntKind.wrap .u64 (64 - (IntKind.wrap .u64 r1)))))), (13, .int .u64 (bitShr .u64 (bitShl .u64 p_lo (IntKind.wrap .u64 r1)) 32)), (14, .int .u64 (bitAnd .u64 (bitShl .u64 p_lo (IntKind.wrap .u64 r1)) 4294967295)), (15, .int .u64 (IntKind.wrap .u64 (Int.tdiv (bitOr .u64 (bitShl .u64 p_hi (IntKind.wrap .u64 r1)) (bitShr .u64 p_lo (IntKind.wrap .u64 (64 - (IntKind.wrap .u64 r1))))) (bitShr .u64 (bitShl .u64 p_y (IntKind.wrap .u64 r1)) 32)))), (16, .int .u64 (IntKind.wrap .u64 ((bitOr .u64 (bitShl .u64 p_hi (IntKind.wrap .u64 r1)) (bitShr .u64 p_lo (IntKind.wrap .u64 (64 - (IntKind.wrap .u64 r1))))) - (IntKind.wrap .u64 ((IntKind.wrap .u64 (Int.tdiv (bitOr .u64 (bitShl .u64 p_hi (IntKind.wrap .u64 r1)) (bitShr .u64 p_lo (IntKind.wrap .u64 (64 - (IntKind.wrap .u64 r1))))) (bitShr .u64 (bitShl .u64 p_y (IntKind.wrap .u64 r1)) 32))) * (bitShr .u64 (bitShl .u64 p_y (IntKind.wrap .u64 r1)) 32))))))] [] rfl ⟨rfl, rfl, rfl, rfl, rfl, rfl, rfl, rfl, rfl, trivial⟩
    refine then_n ?_
    refine f_seq ?_
    obtain ⟨j1, hj1, h⟩ := joinE h
    refine f_join (fun a w' => ∃ x1 : Int, j1 x1 = some r ∧ Sx w [] nov [] [(2, .int .u64 (bitShl .u64 p_y (IntKind.wrap .u64 r1))), (8, .int .u64 (IntKind.wrap .u64 r1)), (9, .int .u64 (bitShr .u64 (bitShl .u64 p_y (IntKind.wrap .u64 r1)) 32)), (10, .int .u64 (bitAnd .u64 (bitShl .u64 p_y (IntKind.wrap .u64 r1)) 4294967295)), (11, .int .u64 (bitOr .u64 (bitShl .u64 p_hi (IntKind.wrap .u64 r1)) (bitShr .u64 p_lo (IntKind.wrap .u64 (64 - (IntKind.wrap .u64 r1)))))), (13, .int .u64 (bitShr .u64 (bitShl .u64 p_lo (IntKind.wrap .u64 r1)) 32)), (14, .int .u64 (bitAnd .u64 (bitShl .u64 p_lo (IntKind.wrap .u64 r1)) 4294967295)), (15, .int .u64 x1)] 135 a w') ?_ ?_
    ·refine wp_block ?_
     refine f_loop (fun (m1 : Nat) a w' => ∃ x1 : Int, ∃ x2 : Int, bits_Div64_l1 p_lo r1 p_y j1 m1 x1 x2 = some r ∧ Sx w [] nov [] [(2, .int .u64 (bitShl .u64 p_y (IntKind.wrap .u64 r1))), (8, .int .u64 (IntKind.wrap .u64 r1)), (9, .int .u64 (bitShr .u64 (bitShl .u64 p_y (IntKind.wrap .u64 r1)) 32)), (10, .int .u64 (bitAnd .u64 (bitShl .u64 p_y (IntKind.wrap .u64 r1)) 4294967295)), (11, .int .u64 (bitOr .u64 (bitShl .u64 p_hi (IntKind.wrap .u64 r1)) (bitShr .u64 p_lo (IntKind.wrap .u64 (64 - (IntKind.wrap .u64 r1)))))), (13, .int .u64 (bitShr .u64 (bitShl .u64 p_lo (IntKind.wrap .u64 r1)) 32)), (14, .int .u64 (bitAnd .u64 (bitShl .u64 p_lo (IntKind.wrap .u64 r1)) 4294967295)), (15, .int .u64 x1), (16, .int .u64 x2)] 135 a w') id (((IntKind.wrap .u64 (Int.tdiv (bitOr .u64 (bitShl .u64 p_hi (IntKind.wrap .u64 r1)) (bitShr .u64 p_lo (IntKind.wrap .u64 (64 - (IntKind.wrap .u64 r1))))) (bitShr .u64 (bitShl .u64 p_y (IntKind.wrap .u64 r1)) 32))) - 4294967296).toNat + 2) ⟨IntKind.wrap .u64 (Int.tdiv (bitOr .u64 (bitShl .u64 p_hi (IntKind.wrap .u64 r1)) (bitShr .u64 p_lo (IntKind.wrap .u64 (64 - (IntKind.wrap .u64 r1))))) (bitShr .u64 (bitShl .u64 p_y (IntKind.wrap .u64 r1)) 32)), IntKind.wrap .u64 ((bitOr .u64 (bitShl .u64 p_hi (IntKind.wrap .u64 r1)) (bitShr .u64 p_lo (IntKind.wrap .u64 (64 - (IntKind.wrap .u64 r1))))) - (IntKind.wrap .u64 ((IntKind.wrap .u64 (Int.tdiv (bitOr .u64 (bitShl .u64 p_hi (IntKind.wrap .u64 r1)) (bitShr .u64 p_lo (IntKind.wrap .u64 (64 - (IntKind.wrap .u64 r1))))) (bitShr .u64 (bitShl .u64 p_y (IntKind.wrap .u64 r1)) 32))) * (bitShr .u64 (bitShl .u64 p_y (IntKind.wrap .u64 r1)) 32)))), h, S.nf [] rfl ⟨rfl, rfl, rfl, rfl, rfl, rfl, rfl, rfl, rfl, trivial⟩⟩ ?_
     clear S h; rintro m1 a w3 ⟨x1, x2, h, S⟩
     cases m1 with
     | zero => rw [bits_Div64_l1.eq_1] at h; cases h
     | succ m1 =>
      rw [bits_Div64_l1.eq_2] at h
      refine f_seq ?_
      refine f_seq ?_
      refine f_region ?_
      refine lv S (rn_move (S.tm rfl)) rfl ?_; clear S; intro a S
      refine lv S (rn_geq (S.tm rfl) rfl) rfl ?_; clear S; intro a S
      refine lv S (rn_move (S.tm rfl)) rfl ?_; clear S; intro a S
      refine f_cutm 9 (fun a w' => Keep [] w3 w' ∧ Sx w [] nov [] [(2, .int .u64 (bitShl .u64 p_y (IntKind.wrap .u64 r1))), (8, .int .u64 (IntKind.wrap .u64 r1)), (9, .int .u64 (bitShr .u64 (bitShl .u64 p_y (IntKind.wrap .u64 r1)) 32)), (10, .int .u64 (bitAnd .u64 (bitShl .u64 p_y (IntKind.wrap .u64 r1)) 4294967295)), (11, .int .u64 (bitOr .u64 (bitShl .u64 p_hi (IntKind.wrap .u64 r1)) (bitShr .u64 p_lo (IntKind.wrap .u64 (64 - (IntKind.wrap .u64 r1)))))), (13, .int .u64 (bitShr .u64 (bitShl .u64 p_lo (IntKind.wrap .u64 r1)) 32)), (14, .int .u64 (bitAnd .u64 (bitShl .u64 p_lo (IntKind.wrap .u64 r1)) 4294967295)), (15, .int .u64 x1), (16, .int .u64 x2), (78, .bool ((decide (4294967296 ≤ x1)) || (decide ((IntKind.wrap .u64 ((IntKind.wrap .u64 (4294967296 * x2)) + (bitShr .u64 (bitShl .u64 p_lo (IntKind.wrap .u64 r1)) 32))) < (IntKind.wrap .u64 (x1 * (bitAnd .u64 (bitShl .u64 p_y (IntKind.wrap .u64 r1)) 4294967295)))))))] 135 a w') ?_ ?_
      ·rcases Bool.eq_false_or_eq_true (decide (4294967296 ≤ x1)) with hb4 | hb4
       ·refine l_skip S rfl rfl rfl (neq_t hb4) rfl ?_ rfl; clear S; intro a S
        refine l_skip S rfl rfl rfl (neq_t hb4) rfl ?_ rfl; clear S; intro a S
        refine l_skip S rfl rfl rfl (neq_t hb4) rfl ?_ rfl; clear S; intro a S
        refine l_skip S rfl rfl rfl (neq_t hb4) rfl ?_ rfl; clear S; intro a S
        refine l_skip S rfl rfl rfl (neq_t hb4) rfl ?_ rfl; clear S; intro a S
        refine l_skip S rfl rfl rfl (neq_t hb4) rfl ?_ rfl; clear S; intro a S
        refine l_skip S rfl rfl rfl (neq_t hb4) rfl ?_ rfl; clear S; intro a S
        refine l_skip S rfl rfl rfl (neq_t hb4) rfl ?_ rfl; clear S; intro a S
        refine lv S (rn_or_t (decide ((IntKind.wrap .u64 ((IntKind.wrap .u64 (4294967296 * x2)) + (bitShr .u64 (bitShl .u64 p_lo (IntKind.wrap .u64 r1)) 32))) < (IntKind.wrap .u64 (x1 * (bitAnd .u64 (bitShl .u64 p_y (IntKind.wrap .u64 r1)) 4294967295))))) hb4 (S.tm rfl) rfl) rfl ?_; clear S; intro a S
        refine l_done ?_
        refine then_n ?_
        exact ⟨Keep.refl _ _, S.nf [] rfl ⟨rfl, rfl, rfl, rfl, rfl, rfl, rfl, rfl, rfl, rfl, trivial⟩⟩
       ·refine l_want S rfl rfl rfl hb4 ?_
        refine lv S (rn_move (S.tm rfl)) rfl ?_; clear S; intro a S
        refine l_want S rfl rfl rfl hb4 ?_
        refine lv S (rn_move (S.tm rfl)) rfl ?_; clear S; intro a S
        refine l_want S rfl rfl rfl hb4 ?_
        refine lv S (rn_mulk (S.tm rfl) (S.tm rfl)) rfl ?_; clear S; intro a S
        refine l_want S rfl rfl rfl hb4 ?_
        refine lv S (rn_move (S.tm rfl)) rfl ?_; clear S; intro a S
        refine l_want S rfl rfl rfl hb4 ?_
        refine lv S (rn_mulk rfl (S.tm rfl)) rfl ?_; clear S; intro a S
        refine l_want S rfl rfl rfl hb4 ?_
        refine lv S (rn_move (S.tm rfl)) rfl ?_; clear S; intro a S
        refine l_want S rfl rfl rfl hb4 ?_
        refine lv S (rn_addk (S.tm rfl) (S.tm rfl)) rfl ?_; clear S; intro a S
        refine l_want S rfl rfl rfl hb4 ?_
        refine lv S (rn_gtr (S.tm rfl) (S.tm rfl)) rfl ?_; clear S; intro a S
        refine lv S (rn_or_f hb4 (S.tm rfl) (S.tm rfl)) rfl ?_; clear S; intro a S
        refine l_done ?_
        refine then_n ?_
        exact ⟨Keep.refl _ _, S.nf [] rfl ⟨rfl, rfl, rfl, rfl, rfl, rfl, rfl, rfl, rfl, rfl, trivial⟩⟩
      clear S; rintro a w5 ⟨hk3, S⟩
      refine l_done ?_
      replace S := S.nk [] [(2, .int .u64 (bitShl .u64 p_y (IntKind.wrap .u64 r1))), (8, .int .u64 (IntKind.wrap .u64 r1)), (9, .int .u64 (bitShr .u64 (bitShl .u64 p_y (IntKind.wrap .u64 r1)) 32)), (10, .int .u64 (bitAnd .u64 (bitShl .u64 p_y (IntKind.wrap .u64 r1)) 4294967295)), (11, .int .u64 (bitOr .u64 (bitShl .u64 p_hi (IntKind.wrap .u64 r1)) (bitShr .u64 p_lo (IntKind.wrap .u64 (64 - (IntKind.wrap .u64 r1)))))), (13, .int .u64 (bitShr .u64 (bitShl .u64 p_lo (IntKind.wrap .u64 r1)) 32)), (14, .int .u64 (bitAnd .u64 (bitShl .u64 p_lo (IntKind.wrap .u64 r1)) 4294967295)), (15, .int .u64 x1), (16, .int .u64 x2), (78, .bool ((decide (4294967296 ≤ x1)) || (decide ((IntKind.wrap .u64 ((IntKind.wrap .u64 (4294967296 * x2)) + (bitShr .u64 (bitShl .u64 p_lo (IntKind.wrap .u64 r1)) 32))) < (IntKind.wrap .u64 (x1 * (bitAnd .u64 (bitShl .u64 p_y (IntKind.wrap .u64 r1)) 4294967295)))))))] [] rfl ⟨rfl, rfl, rfl, rfl, rfl, rfl, rfl, rfl, rfl, rfl, trivial⟩
      refine then_n ?_
      refine f_cond (S.tm rfl) (fun hb5 => ?_) (fun hb5 => ?_)
      ·replace h := iteT h hb5
       refine wp_skip ?_
       refine then_n ?_
       refine wp_block ?_
       refine f_seq ?_
       refine f_region ?_
       refine lv S (rn_move (S.tm rfl)) rfl ?_; clear S; intro a S
       refine lv S (rn_subk (S.tm rfl) rfl) rfl ?_; clear S; intro a S
       refine lv S (rn_assign (S.tm rfl)) rfl ?_; clear S; intro a S
       refine l_done ?_
       replace S := S.nk [] [(2, .int .u64 (bitShl .u64 p_y (IntKind.wrap .u64 r1))), (8, .int .u64 (IntKind.wrap .u64 r1)), (9, .int .u64 (bitShr .u64 (bitShl .u64 p_y (IntKind.wrap .u64 r1)) 32)), (10, .int .u64 (bitAnd .u64 (bitShl .u64 p_y (IntKind.wrap .u64 r1)) 4294967295)), (11, .int .u64 (bitOr .u64 (bitShl .u64 p_hi (IntKind.wrap .u64 r1)) (bitShr .u64 p_lo (IntKind.wrap .u64 (64 - (IntKind.wrap .u64 r1)))))), (13, .int .u64 (bitShr .u64 (bitShl .u64 p_lo (IntKind.wrap .u64 r1)) 32)), (14, .int .u64 (bitAnd .u64 (bitShl .u64 p_lo (IntKind.wrap .u64 r1)) 4294967295)), (15, .int .u64 (IntKind.wrap .u64 (x1 - 1))), (16, .int .u64 x2)] [] rfl ⟨rfl, rfl, rfl, rfl, rfl, rfl, rfl, rfl, rfl, trivial⟩
       refine then_n ?_
       refine f_seq ?_
       refine f_region ?_
       refine lv S (rn_move (S.tm rfl)) rfl ?_; clear S; intro a S
       refine lv S (rn_move (S.tm rfl)) rfl ?_; clear S; intro a S
       refine lv S (rn_addk (S.tm rfl) (S.tm rfl)) rfl ?_; clear S; intro a S
       refine lv S (rn_assign (S.tm rfl)) rfl ?_; clear S; intro a S
       refine l_done ?_
       replace S := S.nk [] [(2, .int .u64 (bitShl .u64 p_y (IntKind.wrap .u64 r1))), (8, .int .u64 (IntKind.wrap .u64 r1)), (9, .int .u64 (bitShr .u64 (bitShl .u64 p_y (IntKind.wrap .u64 r1)) 32)), (10, .int .u64 (bitAnd .u64 (bitShl .u64 p_y (IntKind.wrap .u64 r1)) 4294967295)), (11, .int .u64 (bitOr .u64 (bitShl .u64 p_hi (IntKind.wrap .u64 r1)) (bitShr .u64 p_lo (IntKind.wrap .u64 (64 - (IntKind.wrap .u64 r1)))))), (13, .int .u64 (bitShr .u64 (bitShl .u64 p_lo (IntKind.wrap .u64 r1)) 32)), (14, .int .u64 (bitAnd .u64 (bitShl .u64 p_lo (IntKind.wrap .u64 r1)) 4294967295)), (15, .int .u64 (IntKind.wrap .u64 (x1 - 1))), (16, .int .u64 (IntKind.wrap .u64 (x2 + (bitShr .u64 (bitShl .u64 p_y (IntKind.wrap .u64 r1)) 32))))] [] rfl ⟨rfl, rfl, rfl, rfl, rfl, rfl, rfl, rfl, rfl, trivial⟩
       refine then_n ?_
       refine f_seq ?_
       refine f_region ?_
       refine lv S (rn_move (S.tm rfl)) rfl ?_; clear S; intro a S
       refine lv S (rn_geq (S.tm rfl) rfl) rfl ?_; clear S; intro a S
       refine l_done ?_
       replace S := S.nk [] [(2, .int .u64 (bitShl .u64 p_y (IntKind.wrap .u64 r1))), (8, .int .u64 (IntKind.wrap .u64 r1)), (9, .int .u64 (bitShr .u64 (bitShl .u64 p_y (IntKind.wrap .u64 r1)) 32)), (10, .int .u64 (bitAnd .u64 (bitShl .u64 p_y (IntKind.wrap .u64 r1)) 4294967295)), (11, .int .u64 (bitOr .u64 (bitShl .u64 p_hi (IntKind.wrap .u64 r1)) (bitShr .u64 p_lo (IntKind.wrap .u64 (64 - (IntKind.wrap .u64 r1)))))), (13, .int .u64 (bitShr .u64 (bitShl .u64 p_lo (IntKind.wrap .u64 r1)) 32)), (14, .int .u64 (bitAnd .u64 (bitShl .u64 p_lo (IntKind.wrap .u64 r1)) 4294967295)), (15, .int .u64 (IntKind.wrap .u64 (x1 - 1))), (16, .int .u64 (IntKind.wrap .u64 (x2 + (bitShr .u64 (bitShl .u64 p_y (IntKind.wrap .u64 r1)) 32)))), (85, .bool (decide (4294967296 ≤ (IntKind.wrap .u64 (x2 + (bitShr .u64 (bitShl .u64 p_y (IntKind.wrap .u64 r1)) 32))))))] [] rfl ⟨rfl, rfl, rfl, rfl, rfl, rfl, rfl, rfl, rfl, rfl, trivial⟩
       refine then_n ?_
       refine f_cond (S.tm rfl) (fun hb6 => ?_) (fun hb6 => ?_)
       ·replace h := iteT h hb6
        refine wp_exit ?_
        refine x_other rfl ?_
        refine then_x ?_
        refine x_same ?_
        refine then_n ?_
        exact ⟨IntKind.wrap .u64 (x1 - 1), h, S.nf [] rfl ⟨rfl, rfl, rfl, rfl, rfl, rfl, rfl, rfl, trivial⟩⟩
       ·replace h := iteF h hb6
        refine wp_skip ?_
        refine blk_n ?_
        refine then_n ?_
        exact ⟨m1, ⟨IntKind.wrap .u64 (x1 - 1), IntKind.wrap .u64 (x2 + (bitShr .u64 (bitShl .u64 p_y (IntKind.wrap .u64 r1)) 32)), h, S.nf [] rfl ⟨rfl, rfl, rfl, rfl, rfl, rfl, rfl, rfl, rfl, trivial⟩⟩, Nat.lt_succ_self _⟩
      ·replace h := iteF h hb5
       refine wp_exit ?_
       refine then_x ?_
       refine then_x ?_
       refine x_same ?_
       refine then_n ?_
       exact ⟨x1, h, S.nf [] rfl ⟨rfl, rfl, rfl, rfl, rfl, rfl, rfl, rfl, trivial⟩⟩
    clear S h; rintro a w4 ⟨x1, h, S⟩; rw [hj1] at h; clear hj1 j1
    refine then_n ?_
    refine f_seq ?_
    refine f_region ?_
    refine lv S (rn_move (S.tm rfl)) rfl ?_; clear S; intro a S
    refine lv S (rn_mulk (S.tm rfl) rfl) rfl ?_; clear S; intro a S
    refine lv S (rn_move (S.tm rfl)) rfl ?_; clear S; intro a S
    refine lv S (rn_addk (S.tm rfl) (S.tm rfl)) rfl ?_; clear S; intro a S
    refine lv S (rn_move (S.tm rfl)) rfl ?_; clear S; intro a S
    refine lv S (rn_move (S.tm rfl)) rfl ?_; clear S; intro a S
    refine lv S (rn_mulk (S.tm rfl) (S.tm rfl)) rfl ?_; clear S; intro a S
    refine lv S (rn_subk (S.tm rfl) (S.tm rfl)) rfl ?_; clear S; intro a S
    refine lv S (rn_assign (S.tm rfl)) rfl ?_; clear S; intro a S
    refine l_done ?_
    replace S := S.nk [] [(2, .int .u64 (bitShl .u64 p_y (IntKind.wrap .u64 r1))), (8, .int .u64 (IntKind.wrap .u64 r1)), (9, .int .u64 (bitShr .u64 (bitShl .u64 p_y (IntKind.wrap .u64 r1)) 32)), (10, .int .u64 (bitAnd .u64 (bitShl .u64 p_y (IntKind.wrap .u64 r1)) 4294967295)), (14, .int .u64 (bitAnd .u64 (bitShl .u64 p_lo (IntKind.wrap .u64 r1)) 4294967295)), (15, .int .u64 x1), (17, .int .u64 (IntKind.wrap .u64 ((IntKind.wrap .u64 ((IntKind.wrap .u64 ((bitOr .u64 (bitShl .u64 p_hi (IntKind.wrap .u64 r1)) (bitShr .u64 p_lo (IntKind.wrap .u64 (64 - (IntKind.wrap .u64 r1))))) * 4294967296)) + (bitShr .u64 (bitShl .u64 p_lo (IntKind.wrap .u64 r1)) 32))) - (IntKind.wrap .u64 (x1 * (bitShl .u64 p_y (IntKind.wrap .u64 r1)))))))] [] rfl ⟨rfl, rfl, rfl, rfl, rfl, rfl, rfl, trivial⟩
    refine then_n ?_
    refine f_seq ?_
    refine f_region ?_
    refine lv S (rn_move (S.tm rfl)) rfl ?_; clear S; intro a S
    refine lv S (rn_move (S.tm rfl)) rfl ?_; clear S; intro a S
    obtain ⟨hc8, h⟩ := chkE h
    refine lv S (rn_quok (S.tm rfl) (S.tm rfl) (ne0_of hc8)) rfl ?_; clear S; intro a S
    refine lv S (rn_assign (S.tm rfl)) rfl ?_; clear S; intro a S
    refine l_done ?_
    replace S := S.nk [] [(2, .int .u64 (bitShl .u64 p_y (IntKind.wrap .u64 r1))), (8, .int .u64 (IntKind.wrap .u64 r1)), (9, .int .u64 (bitShr .u64 (bitShl .u64 p_y (IntKind.wrap .u64 r1)) 32)), (10, .int .u64 (bitAnd .u64 (bitShl .u64 p_y (IntKind.wrap .u64 r1)) 4294967295)), (14, .int .u64 (bitAnd .u64 (bitShl .u64 p_lo (IntKind.wrap .u64 r1)) 4294967295)), (15, .int .u64 x1), (17, .int .u64 (IntKind.wrap .u64 ((IntKind.wrap .u64 ((IntKind.wrap .u64 ((bitOr .u64 (bitShl .u64 p_hi (IntKind.wrap .u64 r1)) (bitShr .u64 p_lo (IntKind.wrap .u64 (64 - (IntKind.wrap .u64 r1))))) * 4294967296)) + (bitShr .u64 (bitShl .u64 p_lo (IntKind.wrap .u64 r1)) 32))) - (IntKind.wrap .u64 (x1 * (bitShl .u64 p_y (IntKind.wrap .u64 r1))))))), (18, .int .u64 (IntKind.wrap .u64 (Int.tdiv (IntKind.wrap .u64 ((IntKind.wrap .u64 ((IntKind.wrap .u64 ((bitOr .u64 (bitShl .u64 p_hi (IntKind.wrap .u64 r1)) (bitShr .u64 p_lo (IntKind.wrap .u64 (64 - (IntKind.wrap .u64 r1))))) * 4294967296)) + (bitShr .u64 (bitShl .u64 p_lo (IntKind.wrap .u64 r1)) 32))) - (IntKind.wrap .u64 (x1 * (bitShl .u64 p_y (IntKind.wrap .u64 r1)))))) (bitShr .u64 (bitShl .u64 p_y (IntKind.wrap .u64 r1)) 32))))] [] rfl ⟨rfl, rfl, rfl, rfl, rfl, rfl, rfl, rfl, trivial⟩
    refine then_n ?_
    refine f_seq ?_
    refine f_region ?_
    refine lv S (rn_move (S.tm rfl)) rfl ?_; clear S; intro a S
    refine lv S (rn_move (S.tm rfl)) rfl ?_; clear S; intro a S
    refine lv S (rn_move (S.tm rfl)) rfl ?_; clear S; intro a S
    refine lv S (rn_mulk (S.tm rfl) (S.tm rfl)) rfl ?_; clear S; intro a S
    refine lv S (rn_subk (S.tm rfl) (S.tm rfl)) rfl ?_; clear S; intro a S
    refine lv S (rn_assign (S.tm rfl)) rfl ?_; clear S; intro a S
    refine l_done ?_
    replace S := S.nk [] [(2, .int .u64 (bitShl .u64 p_y (IntKind.wrap .u64 r1))), (8, .int .u64 (IntKind.wrap .u64 r1)), (9, .int .u64 (bitShr .u64 (bitShl .u64 p_y (IntKind.wrap .u64 r1)) 32)), (10, .int .u64 (bitAnd .u64 (bitShl .u64 p_y (IntKind.wrap .u64 r1)) 4294967295)), (14, .int .u64 (bitAnd .u64 (bitShl .u64 p_lo (IntKind.wrap .u64 r1)) 4294967295)), (15, .int .u64 x1), (16, .int .u64 (IntKind.wrap .u64 ((IntKind.wrap .u64 ((IntKind.wrap .u64 ((IntKind.wrap .u64 ((bitOr .u64 (bitShl .u64 p_hi (IntKind.wrap .u64 r1)) (bitShr .u64 p_lo (IntKind.wrap .u64 (64 - (IntKind.wrap .u64 r1))))) * 4294967296)) + (bitShr .u64 (bitShl .u64 p_lo (IntKind.wrap .u64 r1)) 32))) - (IntKind.wrap .u64 (x1 * (bitShl .u64 p_y (IntKind.wrap .u64 r1)))))) - (IntKind.wrap .u64 ((IntKind.wrap .u64 (Int.tdiv (IntKind.wrap .u64 ((IntKind.wrap .u64 ((IntKind.wrap .u64 ((bitOr .u64 (bitShl .u64 p_hi (IntKind.wrap .u64 r1)) (bitShr .u64 p_lo (IntKind.wrap .u64 (64 - (IntKind.wrap .u64 r1))))) * 4294967296)) + (bitShr .u64 (bitShl .u64 p_lo (IntKind.wrap .u64 r1)) 32))) - (IntKind.wrap .u64 (x1 * (bitShl .u64 p_y (IntKind.wrap .u64 r1)))))) (bitShr .u64 (bitShl .u64 p_y (IntKind.wrap .u64 r1)) 32))) * (bitShr .u64 (bitShl .u64 p_y (IntKind.wrap .u64 r1)) 32)))))), (17, .int .u64 (IntKind.wrap .u64 ((IntKind.wrap .u64 ((IntKind.wrap .u64 ((bitOr .u64 (bitShl .u64 p_hi (IntKind.wrap .u64 r1)) (bitShr .u64 p_lo (IntKind.wrap .u64 (64 - (IntKind.wrap .u64 r1))))) * 4294967296)) + (bitShr .u64 (bitShl .u64 p_lo (IntKind.wrap .u64 r1)) 32))) - (IntKind.wrap .u64 (x1 * (bitShl .u64 p_y (IntKind.wrap .u64 r1))))))), (18, .int .u64 (IntKind.wrap .u64 (Int.tdiv (IntKind.wrap .u64 ((IntKind.wrap .u64 ((IntKind.wrap .u64 ((bitOr .u64 (bitShl .u64 p_hi (IntKind.wrap .u64 r1)) (bitShr .u64 p_lo (IntKind.wrap .u64 (64 - (IntKind.wrap .u64 r1))))) * 4294967296)) + (bitShr .u64 (bitShl .u64 p_lo (IntKind.wrap .u64 r1)) 32))) - (IntKind.wrap .u64 (x1 * (bitShl .u64 p_y (IntKind.wrap .u64 r1)))))) (bitShr .u64 (bitShl .u64 p_y (IntKind.wrap .u64 r1)) 32))))] [] rfl ⟨rfl, rfl, rfl, rfl, rfl, rfl, rfl, rfl, rfl, trivial⟩
    refine then_n ?_
    refine f_seq ?_
    obtain ⟨j2, hj2, h⟩ := joinE h
    refine f_join (fun a w' => ∃ x4 : Int, j2 x4 = some r ∧ Sx w [] nov [] [(2, .int .u64 (bitShl .u64 p_y (IntKind.wrap .u64 r1))), (8, .int .u64 (IntKind.wrap .u64 r1)), (14, .int .u64 (bitAnd .u64 (bitShl .u64 p_lo (IntKind.wrap .u64 r1)) 4294967295)), (15, .int .u64 x1), (17, .int .u64 (IntKind.wrap .u64 ((IntKind.wrap .u64 ((IntKind.wrap .u64 ((bitOr .u64 (bitShl .u64 p_hi (IntKind.wrap .u64 r1)) (bitShr .u64 p_lo (IntKind.wrap .u64 (64 - (IntKind.wrap .u64 r1))))) * 4294967296)) + (bitShr .u64 (bitShl .u64 p_lo (IntKind.wrap .u64 r1)) 32))) - (IntKind.wrap .u64 (x1 * (bitShl .u64 p_y (IntKind.wrap .u64 r1))))))), (18, .int .u64 x4)] 135 a w') ?_ ?_
    ·refine wp_block ?_
     refine f_loop (fun (m2 : Nat) a w' => ∃ x3 : Int, ∃ x4 : Int, bits_Div64_l2 p_lo r1 p_y j2 m2 x3 x4 = some r ∧ Sx w [] nov [] [(2, .int .u64 (bitShl .u64 p_y (IntKind.wrap .u64 r1))), (8, .int .u64 (IntKind.wrap .u64 r1)), (9, .int .u64 (bitShr .u64 (bitShl .u64 p_y (IntKind.wrap .u64 r1)) 32)), (10, .int .u64 (bitAnd .u64 (bitShl .u64 p_y (IntKind.wrap .u64 r1)) 4294967295)), (14, .int .u64 (bitAnd .u64 (bitShl .u64 p_lo (IntKind.wrap .u64 r1)) 4294967295)), (15, .int .u64 x1), (16, .int .u64 x3), (17, .int .u64 (IntKind.wrap .u64 ((IntKind.wrap .u64 ((IntKind.wrap .u64 ((bitOr .u64 (bitShl .u64 p_hi (IntKind.wrap .u64 r1)) (bitShr .u64 p_lo (IntKind.wrap .u64 (64 - (IntKind.wrap .u64 r1))))) * 4294967296)) + (bitShr .u64 (bitShl .u64 p_lo (IntKind.wrap .u64 r1)) 32))) - (IntKind.wrap .u64 (x1 * (bitShl .u64 p_y (IntKind.wrap .u64 r1))))))), (18, .int .u64 x4)] 135 a w') id (((IntKind.wrap .u64 (Int.tdiv (IntKind.wrap .u64 ((IntKind.wrap .u64 ((IntKind.wrap .u64 ((bitOr .u64 (bitShl .u64 p_hi (IntKind.wrap .u64 r1)) (bitShr .u64 p_lo (IntKind.wrap .u64 (64 - (IntKind.wrap .u64 r1))))) * 4294967296)) + (bitShr .u64 (bitShl .u64 p_lo (IntKind.wrap .u64 r1)) 32))) - (IntKind.wrap .u64 (x1 * (bitShl .u64 p_y (IntKind.wrap .u64 r1)))))) (bitShr .u64 (bitShl .u64 p_y (IntKind.wrap .u64 r1)) 32))) - 4294967296).toNat + 2) ⟨IntKind.wrap .u64 ((IntKind.wrap .u64 ((IntKind.wrap .u64 ((IntKind.wrap .u64 ((bitOr .u64 (bitShl .u64 p_hi (IntKind.wrap .u64 r1)) (bitShr .u64 p_lo (IntKind.wrap .u64 (64 - (IntKind.wrap .u64 r1))))) * 4294967296)) + (bitShr .u64 (bitShl .u64 p_lo (IntKind.wrap .u64 r1)) 32))) - (IntKind.wrap .u64 (x1 * (bitShl .u64 p_y (IntKind.wrap .u64 r1)))))) - (IntKind.wrap .u64 ((IntKind.wrap .u64 (Int.tdiv (IntKind.wrap .u64 ((IntKind.wrap .u64 ((IntKind.wrap .u64 ((bitOr .u64 (bitShl .u64 p_hi (IntKind.wrap .u64 r1)) (bitShr .u64 p_lo (IntKind.wrap .u64 (64 - (IntKind.wrap .u64 r1))))) * 4294967296)) + (bitShr .u64 (bitShl .u64 p_lo (IntKind.wrap .u64 r1)) 32))) - (IntKind.wrap .u64 (x1 * (bitShl .u64 p_y (IntKind.wrap .u64 r1)))))) (bitShr .u64 (bitShl .u64 p_y (IntKind.wrap .u64 r1)) 32))) * (bitShr .u64 (bitShl .u64 p_y (IntKind.wrap .u64 r1)) 32)))), IntKind.wrap .u64 (Int.tdiv (IntKind.wrap .u64 ((IntKind.wrap .u64 ((IntKind.wrap .u64 ((bitOr .u64 (bitShl .u64 p_hi (IntKind.wrap .u64 r1)) (bitShr .u64 p_lo (IntKind.wrap .u64 (64 - (IntKind.wrap .u64 r1))))) * 4294967296)) + (bitShr .u64 (bitShl .u64 p_lo (IntKind.wrap .u64 r1)) 32))) - (IntKind.wrap .u64 (x1 * (bitShl .u64 p_y (IntKind.wrap .u64 r1)))))) (bitShr .u64 (bitShl .u64 p_y (IntKind.wrap .u64 r1)) 32)), h, S.nf [] rfl ⟨rfl, rfl, rfl, rfl, rfl, rfl, rfl, rfl, rfl, trivial⟩⟩ ?_
     clear S h; rintro m2 a w6 ⟨x3, x4, h, S⟩
     cases m2 with
     | zero => rw [bits_Div64_l2.eq_1] at h; cases h
     | succ m2 =>
      rw [bits_Div64_l2.eq_2] at h
      refine f_seq ?_
      refine f_seq ?_
      refine f_region ?_
      refine lv S (rn_move (S.tm rfl)) rfl ?_; clear S; intro a S
      refine lv S (rn_geq (S.tm rfl) rfl) rfl ?_; clear S; intro a S
      refine lv S (rn_move (S.tm rfl)) rfl ?_; clear S; intro a S
      refine f_cutm 9 (fun a w' => Keep [] w6 w' ∧ Sx w [] nov [] [(2, .int .u64 (bitShl .u64 p_y (IntKind.wrap .u64 r1))), (8, .int .u64 (IntKind.wrap .u64 r1)), (9, .int .u64 (bitShr .u64 (bitShl .u64 p_y (IntKind.wrap .u64 r1)) 32)), (10, .int .u64 (bitAnd .u64 (bitShl .u64 p_y (IntKind.wrap .u64 r1)) 4294967295)), (14, .int .u64 (bitAnd .u64 (bitShl .u64 p_lo (IntKind.wrap .u64 r1)) 4294967295)), (15, .int .u64 x1), (16, .int .u64 x3), (17, .int .u64 (IntKind.wrap .u64 ((IntKind.wrap .u64 ((IntKind.wrap .u64 ((bitOr .u64 (bitShl .u64 p_hi (IntKind.wrap .u64 r1)) (bitShr .u64 p_lo (IntKind.wrap .u64 (64 - (IntKind.wrap .u64 r1))))) * 4294967296)) + (bitShr .u64 (bitShl .u64 p_lo (IntKind.wrap .u64 r1)) 32))) - (IntKind.wrap .u64 (x1 * (bitShl .u64 p_y (IntKind.wrap .u64 r1))))))), (18, .int .u64 x4), (113, .bool ((decide (4294967296 ≤ x4)) || (decide ((IntKind.wrap .u64 ((IntKind.wrap .u64 (4294967296 * x3)) + (bitAnd .u64 (bitShl .u64 p_lo (IntKind.wrap .u64 r1)) 4294967295))) < (IntKind.wrap .u64 (x4 * (bitAnd .u64 (bitShl .u64 p_y (IntKind.wrap .u64 r1)) 4294967295)))))))] 135 a w') ?_ ?_
      ·rcases Bool.eq_false_or_eq_true (decide (4294967296 ≤ x4)) with hb7 | hb7
       ·refine l_skip S rfl rfl rfl (neq_t hb7) rfl ?_ rfl; clear S; intro a S
        refine l_skip S rfl rfl rfl (neq_t hb7) rfl ?_ rfl; clear S; intro a S
        refine l_skip S rfl rfl rfl (neq_t hb7) rfl ?_ rfl; clear S; intro a S
        refine l_skip S rfl rfl rfl (neq_t hb7) rfl ?_ rfl; clear S; intro a S
        refine l_skip S rfl rfl rfl (neq_t hb7) rfl ?_ rfl; clear S; intro a S
        refine l_skip S rfl rfl rfl (neq_t hb7) rfl ?_ rfl; clear S; intro a S
        refine l_skip S rfl rfl rfl (neq_t hb7) rfl ?_ rfl; clear S; intro a S
        refine l_skip S rfl rfl rfl (neq_t hb7) rfl ?_ rfl; clear S; intro a S
        refine lv S (rn_or_t (decide ((IntKind.wrap .u64 ((IntKind.wrap .u64 (4294967296 * x3)) + (bitAnd .u64 (bitShl .u64 p_lo (IntKind.wrap .u64 r1)) 4294967295))) < (IntKind.wrap .u64 (x4 * (bitAnd .u64 (bitShl .u64 p_y (IntKind.wrap .u64 r1)) 4294967295))))) hb7 (S.tm rfl) rfl) rfl ?_; clear S; intro a S
        refine l_done ?_
        refine then_n ?_
        exact ⟨Keep.refl _ _, S.nf [] rfl ⟨rfl, rfl, rfl, rfl, rfl, rfl, rfl, rfl, rfl, rfl, trivial⟩⟩
       ·refine l_want S rfl rfl rfl hb7 ?_
        refine lv S (rn_move (S.tm rfl)) rfl ?_; clear S; intro a S
        refine l_want S rfl rfl rfl hb7 ?_
        refine lv S (rn_move (S.tm rfl)) rfl ?_; clear S; intro a S
        refine l_want S rfl rfl rfl hb7 ?_
        refine lv S (rn_mulk (S.tm rfl) (S.tm rfl)) rfl ?_; clear S; intro a S
        refine l_want S rfl rfl rfl hb7 ?_
        refine lv S (rn_move (S.tm rfl)) rfl ?_; clear S; intro a S
        refine l_want S rfl rfl rfl hb7 ?_
        refine lv S (rn_mulk rfl (S.tm rfl)) rfl ?_; clear S; intro a S
        refine l_want S rfl rfl rfl hb7 ?_
        refine lv S (rn_move (S.tm rfl)) rfl ?_; clear S; intro a S
        refine l_want S rfl rfl rfl hb7 ?_
        refine lv S (rn_addk (S.tm rfl) (S.tm rfl)) rfl ?_; clear S; intro a S
        refine l_want S rfl rfl rfl hb7 ?_
        refine lv S (rn_gtr (S.tm rfl) (S.tm rfl)) rfl ?_; clear S; intro a S
        refine lv S (rn_or_f hb7 (S.tm rfl) (S.tm rfl)) rfl ?_; clear S; intro a S
        refine l_done ?_
        refine then_n ?_
        exact ⟨Keep.refl _ _, S.nf [] rfl ⟨rfl, rfl, rfl, rfl, rfl, rfl, rfl, rfl, rfl, rfl, trivial⟩⟩
      clear S; rintro a w8 ⟨hk4, S⟩
      refine l_done ?_
      replace S := S.nk [] [(2, .int .u64 (bitShl .u64 p_y (IntKind.wrap .u64 r1))), (8, .int .u64 (IntKind.wrap .u64 r1)), (9, .int .u64 (bitShr .u64 (bitShl .u64 p_y (IntKind.wrap .u64 r1)) 32)), (10, .int .u64 (bitAnd .u64 (bitShl .u64 p_y (IntKind.wrap .u64 r1)) 4294967295)), (14, .int .u64 (bitAnd .u64 (bitShl .u64 p_lo (IntKind.wrap .u64 r1)) 4294967295)), (15, .int .u64 x1), (16, .int .u64 x3), (17, .int .u64 (IntKind.wrap .u64 ((IntKind.wrap .u64 ((IntKind.wrap .u64 ((bitOr .u64 (bitShl .u64 p_hi (IntKind.wrap .u64 r1)) (bitShr .u64 p_lo (IntKind.wrap .u64 (64 - (IntKind.wrap .u64 r1))))) * 4294967296)) + (bitShr .u64 (bitShl .u64 p_lo (IntKind.wrap .u64 r1)) 32))) - (IntKind.wrap .u64 (x1 * (bitShl .u64 p_y (IntKind.wrap .u64 r1))))))), (18, .int .u64 x4), (113, .bool ((decide (4294967296 ≤ x4)) || (decide ((IntKind.wrap .u64 ((IntKind.wrap .u64 (4294967296 * x3)) + (bitAnd .u64 (bitShl .u64 p_lo (IntKind.wrap .u64 r1)) 4294967295))) < (IntKind.wrap .u64 (x4 * (bitAnd .u64 (bitShl .u64 p_y (IntKind.wrap .u64 r1)) 4294967295)))))))] [] rfl ⟨rfl, rfl, rfl, rfl, rfl, rfl, rfl, rfl, rfl, rfl, trivial⟩
      refine then_n ?_
      refine f_cond (S.tm rfl) (fun hb8 => ?_) (fun hb8 => ?_)
      ·replace h := iteT h hb8
       refine wp_skip ?_
       refine then_n ?_
       refine wp_block ?_
       refine f_seq ?_
       refine f_region ?_
       refine lv S (rn_move (S.tm rfl)) rfl ?_; clear S; intro a S
       refine lv S (rn_subk (S.tm rfl) rfl) rfl ?_; clear S; intro a S
       refine lv S (rn_assign (S.tm rfl)) rfl ?_; clear S; intro a S
       refine l_done ?_
       replace S := S.nk [] [(2, .int .u64 (bitShl .u64 p_y (IntKind.wrap .u64 r1))), (8, .int .u64 (IntKind.wrap .u64 r1)), (9, .int .u64 (bitShr .u64 (bitShl .u64 p_y (IntKind.wrap .u64 r1)) 32)), (10, .int .u64 (bitAnd .u64 (bitShl .u64 p_y (IntKind.wrap .u64 r1)) 4294967295)), (14, .int .u64 (bitAnd .u64 (bitShl .u64 p_lo (IntKind.wrap .u64 r1)) 4294967295)), (15, .int .u64 x1), (16, .int .u64 x3), (17, .int .u64 (IntKind.wrap .u64 ((IntKind.wrap .u64 ((IntKind.wrap .u64 ((bitOr .u64 (bitShl .u64 p_hi (IntKind.wrap .u64 r1)) (bitShr .u64 p_lo (IntKind.wrap .u64 (64 - (IntKind.wrap .u64 r1))))) * 4294967296)) + (bitShr .u64 (bitShl .u64 p_lo (IntKind.wrap .u64 r1)) 32))) - (IntKind.wrap .u64 (x1 * (bitShl .u64 p_y (IntKind.wrap .u64 r1))))))), (18, .int .u64 (IntKind.wrap .u64 (x4 - 1)))] [] rfl ⟨rfl, rfl, rfl, rfl, rfl, rfl, rfl, rfl, rfl, trivial⟩
       refine then_n ?_
       refine f_seq ?_
       refine f_region ?_
       refine lv S (rn_move (S.tm rfl)) rfl ?_; clear S; intro a S
       refine lv S (rn_move (S.tm rfl)) rfl ?_; clear S; intro a S
       refine lv S (rn_addk (S.tm rfl) (S.tm rfl)) rfl ?_; clear S; intro a S
       refine lv S (rn_assign (S.tm rfl)) rfl ?_; clear S; intro a S
       refine l_done ?_
       replace S := S.nk [] [(2, .int .u64 (bitShl .u64 p_y (IntKind.wrap .u64 r1))), (8, .int .u64 (IntKind.wrap .u64 r1)), (9, .int .u64 (bitShr .u64 (bitShl .u64 p_y (IntKind.wrap .u64 r1)) 32)), (10, .int .u64 (bitAnd .u64 (bitShl .u64 p_y (IntKind.wrap .u64 r1)) 4294967295)), (14, .int .u64 (bitAnd .u64 (bitShl .u64 p_lo (IntKind.wrap .u64 r1)) 4294967295)), (15, .int .u64 x1), (16, .int .u64 (IntKind.wrap .u64 (x3 + (bitShr .u64 (bitShl .u64 p_y (IntKind.wrap .u64 r1)) 32)))), (17, .int .u64 (IntKind.wrap .u64 ((IntKind.wrap .u64 ((IntKind.wrap .u64 ((bitOr .u64 (bitShl .u64 p_hi (IntKind.wrap .u64 r1)) (bitShr .u64 p_lo (IntKind.wrap .u64 (64 - (IntKind.wrap .u64 r1))))) * 4294967296)) + (bitShr .u64 (bitShl .u64 p_lo (IntKind.wrap .u64 r1)) 32))) - (IntKind.wrap .u64 (x1 * (bitShl .u64 p_y (IntKind.wrap .u64 r1))))))), (18, .int .u64 (IntKind.wrap .u64 (x4 - 1)))] [] rfl ⟨rfl, rfl, rfl, rfl, rfl, rfl, rfl, rfl, rfl, trivial⟩
       refine then_n ?_
       refine f_seq ?_
       refine f_region ?_
       refine lv S (rn_move (S.tm rfl)) rfl ?_; clear S; intro a S
       refine lv S (rn_geq (S.tm rfl) rfl) rfl ?_; clear S; intro a S
       refine l_done ?_
       replace S := S.nk [] [(2, .int .u64 (bitShl .u64 p_y (IntKind.wrap .u64 r1))), (8, .int .u64 (IntKind.wrap .u64 r1)), (9, .int .u64 (bitShr .u64 (bitShl .u64 p_y (IntKind.wrap .u64 r1)) 32)), (10, .int .u64 (bitAnd .u64 (bitShl .u64 p_y (IntKind.wrap .u64 r1)) 4294967295)), (14, .int .u64 (bitAnd .u64 (bitShl .u64 p_lo (IntKind.wrap .u64 r1)) 4294967295)), (15, .int .u64 x1), (16, .int .u64 (IntKind.wrap .u64 (x3 + (bitShr .u64 (bitShl .u64 p_y (IntKind.wrap .u64 r1)) 32)))), (17, .int .u64 (IntKind.wrap .u64 ((IntKind.wrap .u64 ((IntKind.wrap .u64 ((bitOr .u64 (bitShl .u64 p_hi (IntKind.wrap .u64 r1)) (bitShr .u64 p_lo (IntKind.wrap .u64 (64 - (IntKind.wrap .u64 r1))))) * 4294967296)) + (bitShr .u64 (bitShl .u64 p_lo (IntKind.wrap .u64 r1)) 32))) - (IntKind.wrap .u64 (x1 * (bitShl .u64 p_y (IntKind.wrap .u64 r1))))))), (18, .int .u64 (IntKind.wrap .u64 (x4 - 1))), (120, .bool (decide (4294967296 ≤ (IntKind.wrap .u64 (x3 + (bitShr .u64 (bitShl .u64 p_y (IntKind.wrap .u64 r1)) 32))))))] [] rfl ⟨rfl, rfl, rfl, rfl, rfl, rfl, rfl, rfl, rfl, rfl, trivial⟩
       refine then_n ?_
       refine f_cond (S.tm rfl) (fun hb9 => ?_) (fun hb9 => ?_)
       ·replace h := iteT h hb9
        refine wp_exit ?_
        refine x_other rfl ?_
        refine then_x ?_
        refine x_same ?_
        refine then_n ?_
        exact ⟨IntKind.wrap .u64 (x4 - 1), h, S.nf [] rfl ⟨rfl, rfl, rfl, rfl, rfl, rfl, trivial⟩⟩
       ·replace h := iteF h hb9
        refine wp_skip ?_
        refine blk_n ?_
        refine then_n ?_
        exact ⟨m2, ⟨IntKind.wrap .u64 (x3 + (bitShr .u64 (bitShl .u64 p_y (IntKind.wrap .u64 r1)) 32)), IntKind.wrap .u64 (x4 - 1), h, S.nf [] rfl ⟨rfl, rfl, rfl, rfl, rfl, rfl, rfl, rfl, rfl, trivial⟩⟩, Nat.lt_succ_self _⟩
      ·replace h := iteF h hb8
       refine wp_exit ?_
       refine then_x ?_
       refine then_x ?_
       refine x_same ?_
       refine then_n ?_
       exact ⟨x4, h, S.nf [] rfl ⟨rfl, rfl, rfl, rfl, rfl, rfl, trivial⟩⟩
    clear S h; rintro a w7 ⟨x4, h, S⟩; rw [hj2] at h; clear hj2 j2
    refine then_n ?_
    refine f_seq ?_
    refine f_region ?_
    refine lv S (rn_move (S.tm rfl)) rfl ?_; clear S; intro a S
    refine lv S (rn_mulk (S.tm rfl) rfl) rfl ?_; clear S; intro a S
    refine lv S (rn_move (S.tm rfl)) rfl ?_; clear S; intro a S
    refine lv S (rn_addk (S.tm rfl) (S.tm rfl)) rfl ?_; clear S; intro a S
    refine lv S (rn_move (S.tm rfl)) rfl ?_; clear S; intro a S
    refine lv S (rn_mulk (S.tm rfl) rfl) rfl ?_; clear S; intro a S
    refine lv S (rn_move (S.tm rfl)) rfl ?_; clear S; intro a S
    refine lv S (rn_addk (S.tm rfl) (S.tm rfl)) rfl ?_; clear S; intro a S
    refine lv S (rn_move (S.tm rfl)) rfl ?_; clear S; intro a S
    refine lv S (rn_move (S.tm rfl)) rfl ?_; clear S; intro a S
    refine lv S (rn_mulk (S.tm rfl) (S.tm rfl)) rfl ?_; clear S; intro a S
    refine lv S (rn_subk (S.tm rfl) (S.tm rfl)) rfl ?_; clear S; intro a S
    refine lv S (rn_move (S.tm rfl)) rfl ?_; clear S; intro a S
    obtain ⟨hc9, h⟩ := chkE h
    refine lv S (rn_shr (S.tm rfl) (S.tm rfl) (of_decide_eq_true hc9)) rfl ?_; clear S; intro a S
    refine lv S (rn_assign (S.tm rfl)) rfl ?_; clear S; intro a S
    refine lv S (rn_assign (S.tm rfl)) rfl ?_; clear S; intro a S
    refine l_done ?_
    replace S := S.nk [] [(6, .int .u64 (IntKind.wrap .u64 ((IntKind.wrap .u64 (x1 * 4294967296)) + x4))), (7, .int .u64 (bitShr .u64 (IntKind.wrap .u64 ((IntKind.wrap .u64 ((IntKind.wrap .u64 ((IntKind.wrap .u64 ((IntKind.wrap .u64 ((IntKind.wrap .u64 ((bitOr .u64 (bitShl .u64 p_hi (IntKind.wrap .u64 r1)) (bitShr .u64 p_lo (IntKind.wrap .u64 (64 - (IntKind.wrap .u64 r1))))) * 4294967296)) + (bitShr .u64 (bitShl .u64 p_lo (IntKind.wrap .u64 r1)) 32))) - (IntKind.wrap .u64 (x1 * (bitShl .u64 p_y (IntKind.wrap .u64 r1)))))) * 4294967296)) + (bitAnd .u64 (bitShl .u64 p_lo (IntKind.wrap .u64 r1)) 4294967295))) - (IntKind.wrap .u64 (x4 * (bitShl .u64 p_y (IntKind.wrap .u64 r1)))))) (IntKind.wrap .u64 r1)))] [] rfl ⟨rfl, rfl, trivial⟩
    refine then_n ?_
    refine wp_ret ?_
    obtain rfl := Option.some.inj h
    exact f_ret2 S Tryz.results68 rfl rfl rfl
theorem points_byTime_ok (w : World) (p_base : Int) (p_time : Int) (r : Int) (h : points_byTime p_base p_time = some r) :
    Calls Tryz.prog 49 [.int .i64 p_base, .int .i64 p_time].toArray w (Ret w [] fun _ v _ => v = .int .i64 r) := by
 refine f_enter [] [] Tryz.func49 rfl Tryz.ntmps49 rfl (by simp) (by simp [fps]) (by simp [fps]) fun a S => ?_
 unfold points_byTime at h
 replace S := S.nk [] [(0, .int .i64 p_base), (1, .int .i64 p_time)] [] rfl ⟨rfl, rfl, trivial⟩
 refine f_seq ?_
 refine f_region ?_
 refine lv S (rn_assign rfl) rfl ?_; clear S; intro a S
 refine l_done ?_
 replace S := S.nk [] [(0, .int .i64 p_base), (1, .int .i64 p_time)] [] rfl ⟨rfl, rfl, trivial⟩
 refine then_n ?_
 refine f_seq ?_
 refine f_region ?_
 refine lv S (rn_move (S.tm rfl)) rfl ?_; clear S; intro a S
 refine lv S (rn_conv Tryz.underlying3 Tryz.underlying122 (S.tm rfl)) rfl ?_; clear S; intro a S
 refine lv S (rn_move (S.tm rfl)) rfl ?_; clear S; intro a S
 refine lv S (rn_conv Tryz.underlying3 Tryz.underlying122 (S.tm rfl)) rfl ?_; clear S; intro a S
 refine lv S (rn_assign (S.tm rfl)) rfl ?_; clear S; intro a S
 refine lv S (rn_assign (S.tm rfl)) rfl ?_; clear S; intro a S
 refine l_done ?_
 replace S := S.nk [] [(5, .int .u64 (IntKind.wrap .u64 p_base)), (6, .int .u64 (IntKind.wrap .u64 p_time))] [] rfl ⟨rfl, rfl, trivial⟩
 refine then_n ?_
 refine f_seq ?_
 refine f_region ?_
 refine lv S (rn_move (S.tm rfl)) rfl ?_; clear S; intro a S
 refine lv S (rn_move (S.tm rfl)) rfl ?_; clear S; intro a S
 refine lv S (rn_mulk (S.tm rfl) (S.tm rfl)) rfl ?_; clear S; intro a S
 refine lv S (rn_move (S.tm rfl)) rfl ?_; clear S; intro a S
 refine lv S (rn_mulk (S.tm rfl) (S.tm rfl)) rfl ?_; clear S; intro a S
 refine l_enter S (fun _ => run_call (vs := [.int .u64 (IntKind.wrap .u64 ((IntKind.wrap .u64 ((IntKind.wrap .u64 p_base) * (IntKind.wrap .u64 p_base))) * (IntKind.wrap .u64 p_base))), .int .u64 1000]) ⟨(S.tm rfl), rfl, trivial⟩ Tryz.call67) (bits_Mul64_ok _ (IntKind.wrap .u64 ((IntKind.wrap .u64 ((IntKind.wrap .u64 p_base) * (IntKind.wrap .u64 p_base))) * (IntKind.wrap .u64 p_base))) 1000 _ rfl) rfl ?_; clear S; intro v1 a w1 hv1 hk1 hn1 S
 subst hv1
 refine lv S (rn_move (S.tm rfl)) rfl ?_; clear S; intro a S
 refine lv S (rn_extract (S.tm rfl) rfl) rfl ?_; clear S; intro a S
 refine lv S (rn_extract (S.tm rfl) rfl) rfl ?_; clear S; intro a S
 refine lv S (rn_assign (S.tm rfl)) rfl ?_; clear S; intro a S
 refine lv S (rn_assign (S.tm rfl)) rfl ?_; clear S; intro a S
 refine l_done ?_
 replace S := S.nk [] [(6, .int .u64 (IntKind.wrap .u64 p_time)), (7, .int .u64 ((bits_Mul64 (IntKind.wrap .u64 ((IntKind.wrap .u64 ((IntKind.wrap .u64 p_base) * (IntKind.wrap .u64 p_base))) * (IntKind.wrap .u64 p_base))) 1000).1)), (8, .int .u64 ((bits_Mul64 (IntKind.wrap .u64 ((IntKind.wrap .u64 ((IntKind.wrap .u64 p_base) * (IntKind.wrap .u64 p_base))) * (IntKind.wrap .u64 p_base))) 1000).2))] [] rfl ⟨rfl, rfl, rfl, trivial⟩
 refine then_n ?_
 refine f_seq ?_
 refine f_region ?_
 refine lv S (rn_move (S.tm rfl)) rfl ?_; clear S; intro a S
 refine lv S (rn_move (S.tm rfl)) rfl ?_; clear S; intro a S
 refine lv S (rn_mulk (S.tm rfl) (S.tm rfl)) rfl ?_; clear S; intro a S
 refine lv S (rn_move (S.tm rfl)) rfl ?_; clear S; intro a S
 refine lv S (rn_mulk (S.tm rfl) (S.tm rfl)) rfl ?_; clear S; intro a S
 refine lv S (rn_assign (S.tm rfl)) rfl ?_; clear S; intro a S
 refine l_done ?_
 replace S := S.nk [] [(6, .int .u64 (IntKind.wrap .u64 ((IntKind.wrap .u64 ((IntKind.wrap .u64 p_time) * (IntKind.wrap .u64 p_time))) * (IntKind.wrap .u64 p_time)))), (7, .int .u64 ((bits_Mul64 (IntKind.wrap .u64 ((IntKind.wrap .u64 ((IntKind.wrap .u64 p_base) * (IntKind.wrap .u64 p_base))) * (IntKind.wrap .u64 p_base))) 1000).1)), (8, .int .u64 ((bits_Mul64 (IntKind.wrap .u64 ((IntKind.wrap .u64 ((IntKind.wrap .u64 p_base) * (IntKind.wrap .u64 p_base))) * (IntKind.wrap .u64 p_base))) 1000).2))] [] rfl ⟨rfl, rfl, rfl, trivial⟩
 refine then_n ?_
 refine f_seq ?_
 refine f_seq ?_
 refine f_region ?_
 refine lv S (rn_move (S.tm rfl)) rfl ?_; clear S; intro a S
 refine lv S (rn_move (S.tm rfl)) rfl ?_; clear S; intro a S
 refine lv S (rn_geq (S.tm rfl) (S.tm rfl)) rfl ?_; clear S; intro a S
 refine l_done ?_
 replace S := S.nk [] [(6, .int .u64 (IntKind.wrap .u64 ((IntKind.wrap .u64 ((IntKind.wrap .u64 p_time) * (IntKind.wrap .u64 p_time))) * (IntKind.wrap .u64 p_time)))), (7, .int .u64 ((bits_Mul64 (IntKind.wrap .u64 ((IntKind.wrap .u64 ((IntKind.wrap .u64 p_base) * (IntKind.wrap .u64 p_base))) * (IntKind.wrap .u64 p_base))) 1000).1)), (8, .int .u64 ((bits_Mul64 (IntKind.wrap .u64 ((IntKind.wrap .u64 ((IntKind.wrap .u64 p_base) * (IntKind.wrap .u64 p_base))) * (IntKind.wrap .u64 p_base))) 1000).2)), (31, .bool (decide ((IntKind.wrap .u64 ((IntKind.wrap .u64 ((IntKind.wrap .u64 p_time) * (IntKind.wrap .u64 p_time))) * (IntKind.wrap .u64 p_time))) ≤ ((bits_Mul64 (IntKind.wrap .u64 ((IntKind.wrap .u64 ((IntKind.wrap .u64 p_base) * (IntKind.wrap .u64 p_base))) * (IntKind.wrap .u64 p_base))) 1000).1))))] [] rfl ⟨rfl, rfl, rfl, rfl, trivial⟩
 refine then_n ?_
 refine f_cond (S.tm rfl) (fun hb1 => ?_) (fun hb1 => ?_)
 ·replace h := iteT h hb1
  refine f_seq ?_
  refine f_region ?_
  refine lv S (rn_assign rfl) rfl ?_; clear S; intro a S
  refine l_done ?_
  replace S := S.nk [] [(4, .int .i64 1000000000)] [] rfl ⟨rfl, trivial⟩
  refine then_n ?_
  refine wp_ret ?_
  refine then_r ?_
  obtain rfl := Option.some.inj h
  exact f_ret S Tryz.results49 rfl rfl
 ·replace h := iteF h hb1
  refine wp_skip ?_
  refine then_n ?_
  refine f_seq ?_
  refine f_region ?_
  refine lv S (rn_move (S.tm rfl)) rfl ?_; clear S; intro a S
  refine lv S (rn_move (S.tm rfl)) rfl ?_; clear S; intro a S
  refine lv S (rn_move (S.tm rfl)) rfl ?_; clear S; intro a S
  obtain ⟨r1, hr1, h⟩ := bindE h
  refine l_enter S (fun _ => run_call (vs := [.int .u64 ((bits_Mul64 (IntKind.wrap .u64 ((IntKind.wrap .u64 ((IntKind.wrap .u64 p_base) * (IntKind.wrap .u64 p_base))) * (IntKind.wrap .u64 p_base))) 1000).1), .int .u64 ((bits_Mul64 (IntKind.wrap .u64 ((IntKind.wrap .u64 ((IntKind.wrap .u64 p_base) * (IntKind.wrap .u64 p_base))) * (IntKind.wrap .u64 p_base))) 1000).2), .int .u64 (IntKind.wrap .u64 ((IntKind.wrap .u64 ((IntKind.wrap .u64 p_time) * (IntKind.wrap .u64 p_time))) * (IntKind.wrap .u64 p_time)))]) ⟨(S.tm rfl), (S.tm rfl), (S.tm rfl), trivial⟩ Tryz.call68) (bits_Div64_ok _ ((bits_Mul64 (IntKind.wrap .u64 ((IntKind.wrap .u64 ((IntKind.wrap .u64 p_base) * (IntKind.wrap .u64 p_base))) * (IntKind.wrap .u64 p_base))) 1000).1) ((bits_Mul64 (IntKind.wrap .u64 ((IntKind.wrap .u64 ((IntKind.wrap .u64 p_base) * (IntKind.wrap .u64 p_base))) * (IntKind.wrap .u64 p_base))) 1000).2) (IntKind.wrap .u64 ((IntKind.wrap .u64 ((IntKind.wrap .u64 p_time) * (IntKind.wrap .u64 p_time))) * (IntKind.wrap .u64 p_time))) _ hr1) rfl ?_; clear S; intro v2 a w2 hv2 hk2 hn2 S
  subst hv2
  refine lv S (rn_move (S.tm rfl)) rfl ?_; clear S; intro a S
  refine lv S (rn_extract (S.tm rfl) rfl) rfl ?_; clear S; intro a S
  refine lv S (rn_extract (S.tm rfl) rfl) rfl ?_; clear S; intro a S
  refine lv S (rn_assign (S.tm rfl)) rfl ?_; clear S; intro a S
  refine lv S (rn_assign (S.tm rfl)) rfl ?_; clear S; intro a S
  refine l_done ?_
  replace S := S.nk [] [(9, .int .u64 r1.1)] [] rfl ⟨rfl, trivial⟩
  refine then_n ?_
  refine f_seq ?_
  refine f_region ?_
  refine lv S (rn_move (S.tm rfl)) rfl ?_; clear S; intro a S
  refine lv S (rn_min2 (S.tm rfl) rfl) rfl ?_; clear S; intro a S
  refine lv S (rn_conv Tryz.underlying122 Tryz.underlying3 (S.tm rfl)) rfl ?_; clear S; intro a S
  refine lv S (rn_assign (S.tm rfl)) rfl ?_; clear S; intro a S
  refine l_done ?_
  replace S := S.nk [] [(4, .int .i64 (W (imin r1.1 1000000000)))] [] rfl ⟨rfl, trivial⟩
  refine then_n ?_
  refine wp_ret ?_
  obtain rfl := Option.some.inj h
  exact f_ret S Tryz.results49 rfl rfl
theorem points_ByTime_ok (w : World) (v_p_l : Value) (p_l : List GBase) (hs_p_l : Slc (view w []) 2 v_p_l (p_l.map GBase.enc)) (p_race : ByteArray) (p_time : Int) (r : Int × Int) (h : points_ByTime p_l p_race p_time = some r) :
    Calls Tryz.prog 28 [v_p_l, .string p_race, .int .i64 p_time].toArray w (Ret w [] fun _ v _ => v = .tuple #[.int .i64 r.1, .int .i64 r.2]) := by
 refine f_enter [] [] Tryz.func28 rfl Tryz.ntmps28 rfl (by simp) (by simp [fps]) (by simp [fps]) fun a S => ?_
 unfold points_ByTime at h
 replace S := S.nk [] [(0, v_p_l), (1, .string p_race), (2, .int .i64 p_time)] [] rfl ⟨rfl, rfl, rfl, trivial⟩
 refine f_seq ?_
 refine f_region ?_
 refine lv S (rn_assign rfl) rfl ?_; clear S; intro a S
 refine lv S (rn_assign rfl) rfl ?_; clear S; intro a S
 refine l_done ?_
 replace S := S.nk [] [(0, v_p_l), (1, .string p_race), (2, .int .i64 p_time)] [] rfl ⟨rfl, rfl, rfl, trivial⟩
 refine then_n ?_
 refine f_seq ?_
 refine f_seq ?_
 refine f_region ?_
 refine lv S (rn_move (S.tm rfl)) rfl ?_; clear S; intro a S
 obtain ⟨r1, hr1, h⟩ := bindE h
 refine l_enter S (fun _ => run_call (vs := [v_p_l]) ⟨(S.tm rfl), trivial⟩ Tryz.call46) (points_CheckBase_ok _ v_p_l p_l (hs_p_l.mono (S.le_arg nil_sub)) _ hr1) rfl ?_; clear S; intro v1 a w1 hv1 hk1 hn1 S
 subst hv1
 refine lv S (rn_assign (S.tm rfl)) rfl ?_; clear S; intro a S
 refine l_done ?_
 replace S := S.nk [] [(0, v_p_l), (1, .string p_race), (2, .int .i64 p_time), (8, .int .i64 r1)] [] rfl ⟨rfl, rfl, rfl, rfl, trivial⟩
 refine then_n ?_
 refine f_seq ?_
 refine f_region ?_
 refine lv S (rn_move (S.tm rfl)) rfl ?_; clear S; intro a S
 refine lv S (rn_neq (S.tm rfl) rfl) rfl ?_; clear S; intro a S
 refine l_done ?_
 replace S := S.nk [] [(0, v_p_l), (1, .string p_race), (2, .int .i64 p_time), (8, .int .i64 r1), (13, .bool (!decide (r1 = 0)))] [] rfl ⟨rfl, rfl, rfl, rfl, rfl, trivial⟩
 refine then_n ?_
 refine f_cond (S.tm rfl) (fun hb1 => ?_) (fun hb1 => ?_)
 ·replace h := iteT h hb1
  refine f_seq ?_
  refine f_region ?_
  refine lv S (rn_move (S.tm rfl)) rfl ?_; clear S; intro a S
  refine lv S (rn_assign rfl) rfl ?_; clear S; intro a S
  refine lv S (rn_assign (S.tm rfl)) rfl ?_; clear S; intro a S
  refine l_done ?_
  replace S := S.nk [] [(6, .int .i64 0), (7, .int .i64 r1)] [] rfl ⟨rfl, rfl, trivial⟩
  refine then_n ?_
  refine wp_ret ?_
  refine then_r ?_
  obtain rfl := Option.some.inj h
  exact f_ret2 S Tryz.results28 rfl rfl rfl
 ·replace h := iteF h hb1
  refine wp_skip ?_
  refine then_n ?_
  refine f_seq ?_
  refine f_region ?_
  refine lv S (rn_move (S.tm rfl)) rfl ?_; clear S; intro a S
  refine lv S (rn_move (S.tm rfl)) rfl ?_; clear S; intro a S
  refine l_enter S (fun _ => run_call (vs := [v_p_l, .string p_race]) ⟨(S.tm rfl), (S.tm rfl), trivial⟩ Tryz.call47) (points_baseOf_ok _ v_p_l p_l (hs_p_l.mono (S.le_arg nil_sub)) p_race _ rfl) rfl ?_; clear S; intro v2 a w2 hv2 hk2 hn2 S
  subst hv2
  refine lv S (rn_assign (S.tm rfl)) rfl ?_; clear S; intro a S
  refine l_done ?_
  replace S := S.nk [] [(2, .int .i64 p_time), (9, .int .i64 (points_baseOf p_l p_race))] [] rfl ⟨rfl, rfl, trivial⟩
  refine then_n ?_
  refine f_seq ?_
  refine f_seq ?_
  refine f_region ?_
  refine lv S (rn_move (S.tm rfl)) rfl ?_; clear S; intro a S
  refine lv S (rn_eql (S.tm rfl) rfl) rfl ?_; clear S; intro a S
  refine l_done ?_
  replace S := S.nk [] [(2, .int .i64 p_time), (9, .int .i64 (points_baseOf p_l p_race)), (19, .bool (decide ((points_baseOf p_l p_race) = 0)))] [] rfl ⟨rfl, rfl, rfl, trivial⟩
  refine then_n ?_
  refine f_cond (S.tm rfl) (fun hb2 => ?_) (fun hb2 => ?_)
  ·replace h := iteT h hb2
   refine f_seq ?_
   refine f_region ?_
   refine lv S (rn_assign rfl) rfl ?_; clear S; intro a S
   refine lv S (rn_assign rfl) rfl ?_; clear S; intro a S
   refine l_done ?_
   replace S := S.nk [] [(6, .int .i64 0), (7, .int .i64 8)] [] rfl ⟨rfl, rfl, trivial⟩
   refine then_n ?_
   refine wp_ret ?_
   refine then_r ?_
   obtain rfl := Option.some.inj h
   exact f_ret2 S Tryz.results28 rfl rfl rfl
  ·replace h := iteF h hb2
   refine wp_skip ?_
   refine then_n ?_
   refine f_seq ?_
   refine f_seq ?_
   refine f_region ?_
   refine lv S (rn_move (S.tm rfl)) rfl ?_; clear S; intro a S
   refine l_enter S (fun _ => run_call (vs := [.int .i64 p_time]) ⟨(S.tm rfl), trivial⟩ Tryz.call48) (timing_IsTime_ok _ p_time _ rfl) rfl ?_; clear S; intro v3 a w3 hv3 hk3 hn3 S
   subst hv3
   refine lv S (rn_not (S.tm rfl)) rfl ?_; clear S; intro a S
   refine l_done ?_
   replace S := S.nk [] [(2, .int .i64 p_time), (9, .int .i64 (points_baseOf p_l p_race)), (22, .bool (!(timing_IsTime p_time)))] [] rfl ⟨rfl, rfl, rfl, trivial⟩
   refine then_n ?_
   refine f_cond (S.tm rfl) (fun hb3 => ?_) (fun hb3 => ?_)
   ·replace h := iteT h hb3
    refine f_seq ?_
    refine f_region ?_
    refine lv S (rn_assign rfl) rfl ?_; clear S; intro a S
    refine lv S (rn_assign rfl) rfl ?_; clear S; intro a S
    refine l_done ?_
    replace S := S.nk [] [(6, .int .i64 0), (7, .int .i64 1)] [] rfl ⟨rfl, rfl, trivial⟩
    refine then_n ?_
    refine wp_ret ?_
    refine then_r ?_
    obtain rfl := Option.some.inj h
    exact f_ret2 S Tryz.results28 rfl rfl rfl
   ·replace h := iteF h hb3
    refine wp_skip ?_
    refine then_n ?_
    refine f_seq ?_
    refine f_region ?_
    refine lv S (rn_move (S.tm rfl)) rfl ?_; clear S; intro a S
    refine lv S (rn_move (S.tm rfl)) rfl ?_; clear S; intro a S
    obtain ⟨r2, hr2, h⟩ := bindE h
    refine l_enter S (fun _ => run_call (vs := [.int .i64 (points_baseOf p_l p_race), .int .i64 p_time]) ⟨(S.tm rfl), (S.tm rfl), trivial⟩ Tryz.call49) (points_byTime_ok _ (points_baseOf p_l p_race) p_time _ hr2) rfl ?_; clear S; intro v4 a w4 hv4 hk4 hn4 S
    subst hv4
    refine lv S (rn_assign (S.tm rfl)) rfl ?_; clear S; intro a S
    refine lv S (rn_assign rfl) rfl ?_; clear S; intro a S
    refine l_done ?_
    replace S := S.nk [] [(6, .int .i64 r2), (7, .int .i64 0)] [] rfl ⟨rfl, rfl, trivial⟩
    refine then_n ?_
    refine wp_ret ?_
    obtain rfl := Option.some.inj h
    exact f_ret2 S Tryz.results28 rfl rfl rfl
set_option maxRecDepth 20000 in
theorem record_CheckKinds_ok (w : World) (v_p_l : Value) (p_l : List GKind) (hs_p_l : Slc (view w []) 5 v_p_l (p_l.map GKind.enc)) (r : Int) (h : record_CheckKinds p_l = some r) :
    Calls Tryz.prog 50 [v_p_l].toArray w (Ret w [] fun _ v _ => v = .int .i64 r) := by
 refine f_enter [] [] Tryz.func50 rfl Tryz.ntmps50 rfl (by simp) (by simp [fps]) (by simp [fps]) fun a S => ?_
 unfold record_CheckKinds at h
 replace S := S.nk [] [(0, v_p_l)] [] rfl ⟨rfl, trivial⟩
 refine f_seq ?_
 refine f_region ?_
 refine lv S (rn_assign rfl) rfl ?_; clear S; intro a S
 refine l_done ?_
 replace S := S.nk [] [(0, v_p_l)] [] rfl ⟨rfl, trivial⟩
 refine then_n ?_
 refine f_seq ?_
 refine f_seq ?_
 refine f_region ?_
 refine lv S (rn_move (S.tm rfl)) rfl ?_; clear S; intro a S
 refine lv S (rn_lenT sl_80 (S.tm rfl) (slc_len hs_p_l)) rfl ?_; clear S; intro a S
 refine lv S (rn_gtr (S.tm rfl) rfl) rfl ?_; clear S; intro a S
 refine l_done ?_
 replace S := S.nk [] [(0, v_p_l), (9, .bool (decide (50 < (p_l.length : Int))))] [] rfl ⟨rfl, rfl, trivial⟩
 refine then_n ?_
 refine f_cond (S.tm rfl) (fun hb1 => ?_) (fun hb1 => ?_)
 ·replace h := iteT h hb1
  refine f_seq ?_
  refine f_region ?_
  refine lv S (rn_assign rfl) rfl ?_; clear S; intro a S
  refine l_done ?_
  replace S := S.nk [] [(2, .int .i64 2)] [] rfl ⟨rfl, trivial⟩
  refine then_n ?_
  refine wp_ret ?_
  refine then_r ?_
  obtain rfl := Option.some.inj h
  exact f_ret S Tryz.results50 rfl rfl
 ·replace h := iteF h hb1
  refine wp_skip ?_
  refine then_n ?_
  refine f_seq ?_
  refine f_seq ?_
  refine f_region ?_
  refine lv S (rn_move (S.tm rfl)) rfl ?_; clear S; intro a S
  refine lv S (rn_lenT sl_80 (S.tm rfl) (slc_len hs_p_l)) rfl ?_; clear S; intro a S
  refine lv S (rn_move rfl) rfl ?_; clear S; intro a S
  refine l_done ?_
  replace S := S.nk [] [(0, v_p_l), (10, v_p_l), (11, .int .i64 (p_l.length : Int)), (12, .int .i64 0)] [] rfl ⟨rfl, rfl, rfl, rfl, trivial⟩
  refine then_n ?_
  obtain ⟨j1, hj1, h⟩ := joinE h
  refine f_join (fun a w' => j1 = some r ∧ Sx w [] nov [] [] 87 a w') ?_ ?_
  ·refine wp_block ?_
   refine f_loop (fun (ys1 : List GKind) a w' => ∃ i1 : Nat, (∃ dn, p_l = dn ++ ys1 ∧ dn.length = i1) ∧ record_CheckKinds_l1 p_l j1 ys1 i1 = some r ∧ Sx w [] nov [] [(0, v_p_l), (10, v_p_l), (11, .int .i64 (p_l.length : Int)), (12, .int .i64 (i1 : Int))] 87 a w') List.length p_l ⟨0, ⟨[], rfl, rfl⟩, h, S.nf [] rfl ⟨rfl, rfl, rfl, rfl, trivial⟩⟩ ?_
   clear S h; rintro ys1 a w1 ⟨i1, ⟨dn, hd1, hi1⟩, h, S⟩
   cases ys1 with
   | nil =>
    rw [record_CheckKinds_l1.eq_1] at h
    refine f_seq ?_
    refine f_region ?_
    refine lv S (rn_lss (S.tm rfl) (S.tm rfl)) rfl ?_; clear S; intro a S
    refine l_done ?_
    replace S := S.nk [] [(0, v_p_l), (10, v_p_l), (11, .int .i64 (p_l.length : Int)), (12, .int .i64 (i1 : Int)), (13, .bool (decide ((i1 : Int) < (p_l.length : Int))))] [] rfl ⟨rfl, rfl, rfl, rfl, rfl, trivial⟩
    refine then_n ?_
    refine f_seq ?_
    refine wp_cond_false ((S.tm rfl).trans (congrArg Value.bool (rng_nil hd1 hi1))) ?_
    refine wp_exit ?_
    refine then_x ?_
    refine then_x ?_
    refine x_same ?_
    refine then_n ?_
    exact ⟨h, S.nf [] rfl trivial⟩
   | cons y1 ys1 =>
    rw [record_CheckKinds_l1.eq_2] at h
    refine f_seq ?_
    refine f_region ?_
    refine lv S (rn_lss (S.tm rfl) (S.tm rfl)) rfl ?_; clear S; intro a S
    refine l_done ?_
    replace S := S.nk [] [(0, v_p_l), (10, v_p_l), (11, .int .i64 (p_l.length : Int)), (12, .int .i64 (i1 : Int)), (13, .bool (decide ((i1 : Int) < (p_l.length : Int))))] [] rfl ⟨rfl, rfl, rfl, rfl, rfl, trivial⟩
    refine then_n ?_
    refine f_seq ?_
    refine wp_cond_true ((S.tm rfl).trans (congrArg Value.bool (rng_cons hd1 hi1))) ?_
    refine wp_skip ?_
    refine then_n ?_
    refine f_seq ?_
    refine wp_block ?_
    refine f_seq ?_
    refine f_region ?_
    refine lv S (rn_move (S.tm rfl)) rfl ?_; clear S; intro a S
    obtain ⟨b1, o1, hm1, hr1⟩ := rn_indexT (a := a) (x := .tmp 10) (y := .tmp 12) (ty := 0) sl_80 hs_p_l (get_mid hd1 hi1) rfl (S.tm rfl) (S.tm rfl)
    refine lv S (hr1 _) rfl ?_; clear S; intro a S
    clear hr1
    refine lv S (rn_ldA Tryz.isAgg79 Tryz.sizeOf79 (off := o1) (o := 0) (part := [.string y1.Key, .string y1.Race, .slice none 0 0, .int .i64 y1.Young, .int .i64 y1.Old]) rfl rfl (S.tm rfl) (hm1.at S.emb0)) rfl ?_; clear S; intro a S
    refine l_alloc S Tryz.zeroValue79 (cs := [.string k_empty, .string k_empty, .slice none 0 0, .int .i64 0, .int .i64 0]) rfl rfl ?_; clear S; intro a w3 b2 hz1 hk1 S
    refine lv S (rn_assign (S.tm rfl)) rfl ?_; clear S; intro a S
    refine l_store S (S.tm rfl) (S.tm rfl) (i := 0) (off := 0) rfl Tryz.sizeOf79 (vs := [.string y1.Key, .string y1.Race, .slice none 0 0, .int .i64 y1.Young, .int .i64 y1.Old]) rfl rfl rfl (by simp [SlcLen.one (slc_len (slc_nilT (enc := eStr) (view w []) 1)), Value.oneCell']) ?_; clear S; intro w4 hk2 S
    refine l_done ?_
    replace S := S.nk [.blk b2 [.string y1.Key, .string y1.Race, .slice none 0 0, .int .i64 y1.Young, .int .i64 y1.Old] 79] [(0, v_p_l), (3, .int .i64 (i1 : Int)), (4, .pointer (some ⟨b2, 0, none⟩)), (10, v_p_l), (11, .int .i64 (p_l.length : Int)), (12, .int .i64 (i1 : Int))] [true] rfl ⟨rfl, rfl, rfl, rfl, rfl, rfl, trivial⟩
    refine then_n ?_
    refine f_seq ?_
    refine wp_block ?_
    refine f_seq ?_
    refine f_region ?_
    refine lv S (rn_fld fa_79_0 (S.tm rfl)) rfl ?_; clear S; intro a S
    refine lv S (rn_load Tryz.isAgg9 (S.tm rfl) (S.cell (i := 0) rfl rfl)) rfl ?_; clear S; intro a S
    obtain ⟨r1, hr2, h⟩ := bindE h
    refine l_enter S (fun _ => run_call (vs := [.string y1.Key]) ⟨(S.tm rfl), trivial⟩ Tryz.call57) (words_IsKey_ok _ y1.Key _ hr2) rfl ?_; clear S; intro v1 a w5 hv1 hk3 hn1 S
    subst hv1
    refine lv S (rn_not (S.tm rfl)) rfl ?_; clear S; intro a S
    refine lv S (rn_move (S.tm rfl)) rfl ?_; clear S; intro a S
    obtain ⟨j2, hj2, h⟩ := joinE h
    refine f_cutm 5 (fun a w' => ∃ c1, j2 c1 = some r ∧ Keep [] w5 w' ∧ Sx w [] nov [.blk b2 [.string y1.Key, .string y1.Race, .slice none 0 0, .int .i64 y1.Young, .int .i64 y1.Old] 79] [(0, v_p_l), (3, .int .i64 (i1 : Int)), (4, .pointer (some ⟨b2, 0, none⟩)), (10, v_p_l), (11, .int .i64 (p_l.length : Int)), (12, .int .i64 (i1 : Int)), (27, .bool c1)] 87 a w') ?_ ?_
    ·rcases Bool.eq_false_or_eq_true (!r1) with hb2 | hb2
     ·replace h := iteT h hb2
      refine l_skip S rfl rfl rfl (neq_t hb2) rfl ?_ rfl; clear S; intro a S
      refine l_skip S rfl rfl rfl (neq_t hb2) rfl ?_ rfl; clear S; intro a S
      refine l_skip S rfl rfl rfl (neq_t hb2) rfl ?_ rfl; clear S; intro a S
      refine l_skip S rfl rfl rfl (neq_t hb2) rfl ?_ rfl; clear S; intro a S
      refine lv S (rn_or_t true hb2 (S.tm rfl) rfl) rfl ?_; clear S; intro a S
      refine l_done ?_
      refine then_n ?_
      exact ⟨_, h, Keep.refl _ _, S.nf [true] rfl ⟨rfl, rfl, rfl, rfl, rfl, rfl, rfl, trivial⟩⟩
     ·replace h := iteF h hb2
      refine l_want S rfl rfl rfl hb2 ?_
      refine lv S (rn_fld fa_79_1 (S.tm rfl)) rfl ?_; clear S; intro a S
      refine l_want S rfl rfl rfl hb2 ?_
      refine lv S (rn_load Tryz.isAgg9 (S.tm rfl) (S.cell (i := 0) rfl rfl)) rfl ?_; clear S; intro a S
      refine l_want S rfl rfl rfl hb2 ?_
      obtain ⟨r2, hr3, h⟩ := bindE h
      refine l_enter S (fun _ => run_call (vs := [.string y1.Race]) ⟨(S.tm rfl), trivial⟩ Tryz.call57) (words_IsKey_ok _ y1.Race _ hr3) rfl ?_; clear S; intro v2 a w7 hv2 hk4 hn2 S
      subst hv2
      refine l_want S rfl rfl rfl hb2 ?_
      refine lv S (rn_not (S.tm rfl)) rfl ?_; clear S; intro a S
      refine lv S (rn_or_f hb2 (S.tm rfl) (S.tm rfl)) rfl ?_; clear S; intro a S
      refine l_done ?_
      refine then_n ?_
      exact ⟨_, h, hk4, S.nf [true] rfl ⟨rfl, rfl, rfl, rfl, rfl, rfl, rfl, trivial⟩⟩
    clear S h; rintro a w6 ⟨c1, h, hk5, S⟩; rw [hj2] at h; clear hj2 j2
    refine lv S (rn_assign (S.tm rfl)) rfl ?_; clear S; intro a S
    refine l_done ?_
    replace S := S.nk [.blk b2 [.string y1.Key, .string y1.Race, .slice none 0 0, .int .i64 y1.Young, .int .i64 y1.Old] 79] [(0, v_p_l), (3, .int .i64 (i1 : Int)), (4, .pointer (some ⟨b2, 0, none⟩)), (10, v_p_l), (11, .int .i64 (p_l.length : Int)), (12, .int .i64 (i1 : Int)), (17, .bool c1)] [true] rfl ⟨rfl, rfl, rfl, rfl, rfl, rfl, rfl, trivial⟩
    refine then_n ?_
    refine f_cond (S.tm rfl) (fun hb3 => ?_) (fun hb3 => ?_)
    ·replace h := iteT h hb3
     refine f_seq ?_
     refine f_region ?_
     refine lv S (rn_assign rfl) rfl ?_; clear S; intro a S
     refine l_done ?_
     replace S := S.nk [] [(2, .int .i64 5)] [false] rfl ⟨rfl, trivial⟩
     refine then_n ?_
     refine wp_ret ?_
     refine blk_r ?_
     refine then_r ?_
     refine blk_r ?_
     refine then_r ?_
     refine then_r ?_
     refine blk_r ?_
     refine then_r ?_
     refine then_r ?_
     obtain rfl := Option.some.inj h
     exact f_ret S Tryz.results50 rfl rfl
    ·replace h := iteF h hb3
     refine f_seq ?_
     refine d_region [] ([]) Tryz.mixed S rfl (by kernel_rfl) ?_; clear S; intro w8 hk6 hsel S
     refine d_rest [0, 1, 2, 3, 4, 5, 6, 7, 8, 9, 10, 11, 12, 13] hsel (by kernel_rfl) rfl ?_
     clear hsel
     refine s_lv S rfl (rn_move (S.tm rfl)) rfl ?_; clear S; intro a S
     refine s_lv S rfl (rn_gtr (S.tm rfl) rfl) rfl ?_; clear S; intro a S
     refine s_lv S rfl (rn_move (S.tm rfl)) rfl ?_; clear S; intro a S
     obtain ⟨j3, hj3, h⟩ := joinE h
     refine s_cutm 10 (fun a w' => ∃ c2, j3 c2 = some r ∧ Keep [] w8 w' ∧ Sx w [] nov [.blk b2 [.string y1.Key, .string y1.Race, .slice none 0 0, .int .i64 y1.Young, .int .i64 y1.Old] 79] [(0, v_p_l), (4, .pointer (some ⟨b2, 0, none⟩)), (10, v_p_l), (11, .int .i64 (p_l.length : Int)), (12, .int .i64 (i1 : Int)), (41, .bool c2)] 87 a w') ?_ ?_
     ·rcases Bool.eq_false_or_eq_true (decide (0 < (i1 : Int))) with hb4 | hb4
      ·replace h := iteT h hb4
       refine s_want S rfl rfl rfl rfl hb4 ?_
       refine s_lv0 S (rn_fld fa_79_0 (S.tm rfl)) rfl ?_; clear S; intro a S
       refine s_want S rfl rfl rfl rfl hb4 ?_
       refine s_lv0 S (rn_load Tryz.isAgg9 (S.tm rfl) (S.cell (i := 0) rfl rfl)) rfl ?_; clear S; intro a S
       refine s_want S rfl rfl rfl rfl hb4 ?_
       refine s_lv0 S (rn_move (S.tm rfl)) rfl ?_; clear S; intro a S
       refine s_want S rfl rfl rfl rfl hb4 ?_
       refine s_lv0 S (rn_move (S.tm rfl)) rfl ?_; clear S; intro a S
       refine s_want S rfl rfl rfl rfl hb4 ?_
       refine s_lv0 S (rn_sub (S.tm rfl) rfl) rfl ?_; clear S; intro a S
       refine s_want S rfl rfl rfl rfl hb4 ?_
       obtain ⟨hc1, h⟩ := chkE h
       obtain ⟨b3, o2, hm2, hr4⟩ := rn_indexT (a := a) (x := .tmp 34) (y := .tmp 36) (ty := 0) sl_80 hs_p_l (inB_get hc1).1 (inB_get hc1).2 (S.tm rfl) (S.tm rfl)
       refine s_lv0 S (hr4 _) rfl ?_; clear S; intro a S
       clear hr4
       refine s_want S rfl rfl rfl rfl hb4 ?_
       refine s_lv0 S (rn_fld fa_79_0 (S.tm rfl)) rfl ?_; clear S; intro a S
       refine s_want S rfl rfl rfl rfl hb4 ?_
       refine s_lv0 S (rn_ld Tryz.isAgg9 (off := o2) (o := 0) (S.tm rfl) (hm2.at S.emb0) rfl) rfl ?_; clear S; intro a S
       refine s_want S rfl rfl rfl rfl hb4 ?_
       refine s_lv0 S (rn_sleq (S.tm rfl) (S.tm rfl)) rfl ?_; clear S; intro a S
       refine s_lv S rfl (rn_and_t hb4 (S.tm rfl) (S.tm rfl)) rfl ?_; clear S; intro a S
       refine s_done ?_
       exact ⟨_, h, Keep.refl _ _, S.nf [true] rfl ⟨rfl, rfl, rfl, rfl, rfl, rfl, trivial⟩⟩
      ·replace h := iteF h hb4
       refine s_skip S rfl rfl rfl rfl (neq_f hb4) rfl ?_ rfl; clear S; intro a S
       refine s_skip S rfl rfl rfl rfl (neq_f hb4) rfl ?_ rfl; clear S; intro a S
       refine s_skip S rfl rfl rfl rfl (neq_f hb4) rfl ?_ rfl; clear S; intro a S
       refine s_skip S rfl rfl rfl rfl (neq_f hb4) rfl ?_ rfl; clear S; intro a S
       refine s_skip S rfl rfl rfl rfl (neq_f hb4) rfl ?_ rfl; clear S; intro a S
       refine s_skip S rfl rfl rfl rfl (neq_f hb4) rfl ?_ rfl; clear S; intro a S
       refine s_skip S rfl rfl rfl rfl (neq_f hb4) rfl ?_ rfl; clear S; intro a S
       refine s_skip S rfl rfl rfl rfl (neq_f hb4) rfl ?_ rfl; clear S; intro a S
       refine s_skip S rfl rfl rfl rfl (neq_f hb4) rfl ?_ rfl; clear S; intro a S
       refine s_lv S rfl (rn_and_f true hb4 (S.tm rfl) rfl) rfl ?_; clear S; intro a S
       refine s_done ?_
       exact ⟨_, h, Keep.refl _ _, S.nf [true] rfl ⟨rfl, rfl, rfl, rfl, rfl, rfl, trivial⟩⟩
     clear S h; rintro a w9 ⟨c2, h, hk7, S⟩; rw [hj3] at h; clear hj3 j3
     refine s_lv S rfl (rn_assign (S.tm rfl)) rfl ?_; clear S; intro a S
     refine s_done ?_
     replace S := S.nk [.blk b2 [.string y1.Key, .string y1.Race, .slice none 0 0, .int .i64 y1.Young, .int .i64 y1.Old] 79] [(0, v_p_l), (4, .pointer (some ⟨b2, 0, none⟩)), (10, v_p_l), (11, .int .i64 (p_l.length : Int)), (12, .int .i64 (i1 : Int)), (28, .bool c2)] [true] rfl ⟨rfl, rfl, rfl, rfl, rfl, rfl, trivial⟩
     refine then_n ?_
     refine f_cond (S.tm rfl) (fun hb5 => ?_) (fun hb5 => ?_)
     ·replace h := iteT h hb5
      refine f_seq ?_
      refine f_region ?_
      refine lv S (rn_assign rfl) rfl ?_; clear S; intro a S
      refine l_done ?_
      replace S := S.nk [] [(2, .int .i64 7)] [false] rfl ⟨rfl, trivial⟩
      refine then_n ?_
      refine wp_ret ?_
      refine blk_r ?_
      refine then_r ?_
      refine blk_r ?_
      refine then_r ?_
      refine then_r ?_
      refine blk_r ?_
      refine then_r ?_
      refine then_r ?_
      obtain rfl := Option.some.inj h
      exact f_ret S Tryz.results50 rfl rfl
     ·replace h := iteF h hb5
      refine f_seq ?_
      refine f_region ?_
      refine lv S (rn_fld fa_79_2 (S.tm rfl)) rfl ?_; clear S; intro a S
      refine lv S (rn_load Tryz.isAgg49 (S.tm rfl) (S.cell (i := 0) rfl rfl)) rfl ?_; clear S; intro a S
      refine lv S (rn_lenT sl_49 (S.tm rfl) (slc_len (slc_nilT (enc := eStr) (view w []) 1))) rfl ?_; clear S; intro a S
      refine lv S (rn_gtr (S.tm rfl) rfl) rfl ?_; clear S; intro a S
      refine lv S (rn_assign (S.tm rfl)) rfl ?_; clear S; intro a S
      refine l_done ?_
      replace S := S.nk [.blk b2 [.string y1.Key, .string y1.Race, .slice none 0 0, .int .i64 y1.Young, .int .i64 y1.Old] 79] [(0, v_p_l), (4, .pointer (some ⟨b2, 0, none⟩)), (10, v_p_l), (11, .int .i64 (p_l.length : Int)), (12, .int .i64 (i1 : Int)), (42, .bool (decide (100 < (([] : List ByteArray).length : Int))))] [true] rfl ⟨rfl, rfl, rfl, rfl, rfl, rfl, trivial⟩
      refine then_n ?_
      refine f_cond (S.tm rfl) (fun hb6 => ?_) (fun hb6 => ?_)
      ·replace h := iteT h hb6
       refine f_seq ?_
       refine f_region ?_
       refine lv S (rn_assign rfl) rfl ?_; clear S; intro a S
       refine l_done ?_
       replace S := S.nk [] [(2, .int .i64 2)] [false] rfl ⟨rfl, trivial⟩
       refine then_n ?_
       refine wp_ret ?_
       refine blk_r ?_
       refine then_r ?_
       refine blk_r ?_
       refine then_r ?_
       refine then_r ?_
       refine blk_r ?_
       refine then_r ?_
       refine then_r ?_
       obtain rfl := Option.some.inj h
       exact f_ret S Tryz.results50 rfl rfl
      ·replace h := iteF h hb6
       refine wp_skip ?_
       refine blk_n ?_
       refine then_n ?_
       refine f_seq ?_
       refine f_seq ?_
       refine f_region ?_
       refine lv S (rn_fld fa_79_2 (S.tm rfl)) rfl ?_; clear S; intro a S
       refine lv S (rn_load Tryz.isAgg49 (S.tm rfl) (S.cell (i := 0) rfl rfl)) rfl ?_; clear S; intro a S
       refine lv S (rn_lenT sl_49 (S.tm rfl) (slc_len (slc_nilT (enc := eStr) (view w []) 1))) rfl ?_; clear S; intro a S
       refine lv S (rn_move rfl) rfl ?_; clear S; intro a S
       refine l_done ?_
       replace S := S.nk [.blk b2 [.string y1.Key, .string y1.Race, .slice none 0 0, .int .i64 y1.Young, .int .i64 y1.Old] 79] [(0, v_p_l), (4, .pointer (some ⟨b2, 0, none⟩)), (10, v_p_l), (11, .int .i64 (p_l.length : Int)), (12, .int .i64 (i1 : Int)), (48, .slice none 0 0), (49, .int .i64 (([] : List ByteArray).length : Int)), (50, .int .i64 0)] [true] rfl ⟨rfl, rfl, rfl, rfl, rfl, rfl, rfl, rfl, trivial⟩
       refine then_n ?_
       obtain ⟨j4, hj4, h⟩ := joinE h
       refine f_join (fun a w' => j4 = some r ∧ Sx w [] nov [.blk b2 [.string y1.Key, .string y1.Race, .slice none 0 0, .int .i64 y1.Young, .int .i64 y1.Old] 79] [(0, v_p_l), (4, .pointer (some ⟨b2, 0, none⟩)), (10, v_p_l), (11, .int .i64 (p_l.length : Int)), (12, .int .i64 (i1 : Int))] 87 a w') ?_ ?_
       ·refine wp_block ?_
        refine f_loop (fun (ys2 : List ByteArray) a w' => ∃ i2 : Nat, (∃ dn, ([] : List ByteArray) = dn ++ ys2 ∧ dn.length = i2) ∧ record_CheckKinds_l2 j4 ys2 i2 = some r ∧ Sx w [] nov [.blk b2 [.string y1.Key, .string y1.Race, .slice none 0 0, .int .i64 y1.Young, .int .i64 y1.Old] 79] [(0, v_p_l), (4, .pointer (some ⟨b2, 0, none⟩)), (10, v_p_l), (11, .int .i64 (p_l.length : Int)), (12, .int .i64 (i1 : Int)), (48, .slice none 0 0), (49, .int .i64 (([] : List ByteArray).length : Int)), (50, .int .i64 (i2 : Int))] 87 a w') List.length ([] : List ByteArray) ⟨0, ⟨[], rfl, rfl⟩, h, S.nf [true] rfl ⟨rfl, rfl, rfl, rfl, rfl, rfl, rfl, rfl, trivial⟩⟩ ?_
        clear S h; rintro ys2 a w10 ⟨i2, ⟨dn, hd2, hi2⟩, h, S⟩
        cases ys2 with
        | nil =>
         rw [record_CheckKinds_l2.eq_1] at h
         refine f_seq ?_
         refine f_region ?_
         refine lv S (rn_lss (S.tm rfl) (S.tm rfl)) rfl ?_; clear S; intro a S
         refine l_done ?_
         replace S := S.nk [.blk b2 [.string y1.Key, .string y1.Race, .slice none 0 0, .int .i64 y1.Young, .int .i64 y1.Old] 79] [(0, v_p_l), (4, .pointer (some ⟨b2, 0, none⟩)), (10, v_p_l), (11, .int .i64 (p_l.length : Int)), (12, .int .i64 (i1 : Int)), (48, .slice none 0 0), (49, .int .i64 (([] : List ByteArray).length : Int)), (50, .int .i64 (i2 : Int)), (51, .bool (decide ((i2 : Int) < (([] : List ByteArray).length : Int))))] [true] rfl ⟨rfl, rfl, rfl, rfl, rfl, rfl, rfl, rfl, rfl, trivial⟩
         refine then_n ?_
         refine f_seq ?_
         refine wp_cond_false ((S.tm rfl).trans (congrArg Value.bool (rng_nil hd2 hi2))) ?_
         refine wp_exit ?_
         refine then_x ?_
         refine then_x ?_
         refine x_same ?_
         refine then_n ?_
         exact ⟨h, S.nf [true] rfl ⟨rfl, rfl, rfl, rfl, rfl, trivial⟩⟩
        | cons y2 ys2 =>
         rw [record_CheckKinds_l2.eq_2] at h
         refine f_seq ?_
         refine f_region ?_
         refine lv S (rn_lss (S.tm rfl) (S.tm rfl)) rfl ?_; clear S; intro a S
         refine l_done ?_
         replace S := S.nk [.blk b2 [.string y1.Key, .string y1.Race, .slice none 0 0, .int .i64 y1.Young, .int .i64 y1.Old] 79] [(0, v_p_l), (4, .pointer (some ⟨b2, 0, none⟩)), (10, v_p_l), (11, .int .i64 (p_l.length : Int)), (12, .int .i64 (i1 : Int)), (48, .slice none 0 0), (49, .int .i64 (([] : List ByteArray).length : Int)), (50, .int .i64 (i2 : Int)), (51, .bool (decide ((i2 : Int) < (([] : List ByteArray).length : Int))))] [true] rfl ⟨rfl, rfl, rfl, rfl, rfl, rfl, rfl, rfl, rfl, trivial⟩
         refine then_n ?_
         refine f_seq ?_
         refine wp_cond_true ((S.tm rfl).trans (congrArg Value.bool (rng_cons hd2 hi2))) ?_
         refine wp_skip ?_
         refine then_n ?_
         refine f_seq ?_
         refine wp_block ?_
         refine f_seq ?_
         refine f_region ?_
         refine lv S (rn_move (S.tm rfl)) rfl ?_; clear S; intro a S
         obtain ⟨b4, o3, hm3, hr5⟩ := rn_indexT (a := a) (x := .tmp 48) (y := .tmp 50) (ty := 0) sl_49 (slc_nilT (enc := eStr) (view w []) 1) (get_mid hd2 hi2) rfl (S.tm rfl) (S.tm rfl)
         refine lv S (hr5 _) rfl ?_; clear S; intro a S
         clear hr5
         refine lv S (rn_ld Tryz.isAgg9 (off := o3) (o := 0) (S.tm rfl) (hm3.at S.emb0) rfl) rfl ?_; clear S; intro a S
         refine lv S (rn_assign (S.tm rfl)) rfl ?_; clear S; intro a S
         refine lv S (rn_assign (S.tm rfl)) rfl ?_; clear S; intro a S
         refine l_done ?_
         replace S := S.nk [.blk b2 [.string y1.Key, .string y1.Race, .slice none 0 0, .int .i64 y1.Young, .int .i64 y1.Old] 79] [(0, v_p_l), (4, .pointer (some ⟨b2, 0, none⟩)), (5, .int .i64 (i2 : Int)), (6, .string y2), (10, v_p_l), (11, .int .i64 (p_l.length : Int)), (12, .int .i64 (i1 : Int)), (48, .slice none 0 0), (49, .int .i64 (([] : List ByteArray).length : Int)), (50, .int .i64 (i2 : Int))] [true] rfl ⟨rfl, rfl, rfl, rfl, rfl, rfl, rfl, rfl, rfl, rfl, trivial⟩
         refine then_n ?_
         refine f_seq ?_
         refine f_seq ?_
         refine f_region ?_
         refine lv S (rn_move (S.tm rfl)) rfl ?_; clear S; intro a S
         obtain ⟨r3, hr6, h⟩ := bindE h
         refine l_enter S (fun _ => run_call (vs := [.string y2]) ⟨(S.tm rfl), trivial⟩ Tryz.call57) (words_IsKey_ok _ y2 _ hr6) rfl ?_; clear S; intro v3 a w12 hv3 hk8 hn3 S
         subst hv3
         refine lv S (rn_not (S.tm rfl)) rfl ?_; clear S; intro a S
         refine l_done ?_
         replace S := S.nk [.blk b2 [.string y1.Key, .string y1.Race, .slice none 0 0, .int .i64 y1.Young, .int .i64 y1.Old] 79] [(0, v_p_l), (4, .pointer (some ⟨b2, 0, none⟩)), (5, .int .i64 (i2 : Int)), (6, .string y2), (10, v_p_l), (11, .int .i64 (p_l.length : Int)), (12, .int .i64 (i1 : Int)), (48, .slice none 0 0), (49, .int .i64 (([] : List ByteArray).length : Int)), (50, .int .i64 (i2 : Int)), (57, .bool (!r3))] [true] rfl ⟨rfl, rfl, rfl, rfl, rfl, rfl, rfl, rfl, rfl, rfl, rfl, trivial⟩
         refine then_n ?_
         refine f_cond (S.tm rfl) (fun hb7 => ?_) (fun hb7 => ?_)
         ·replace h := iteT h hb7
          refine f_seq ?_
          refine f_region ?_
          refine lv S (rn_assign rfl) rfl ?_; clear S; intro a S
          refine l_done ?_
          replace S := S.nk [] [(2, .int .i64 5)] [false] rfl ⟨rfl, trivial⟩
          refine then_n ?_
          refine wp_ret ?_
          refine then_r ?_
          refine blk_r ?_
          refine then_r ?_
          refine then_r ?_
          refine blk_r ?_
          refine then_r ?_
          refine then_r ?_
          refine blk_r ?_
          refine then_r ?_
          refine then_r ?_
          refine blk_r ?_
          refine then_r ?_
          refine then_r ?_
          obtain rfl := Option.some.inj h
          exact f_ret S Tryz.results50 rfl rfl
         ·replace h := iteF h hb7
          refine wp_skip ?_
          refine then_n ?_
          refine f_seq ?_
          refine f_region ?_
          refine lv S (rn_move (S.tm rfl)) rfl ?_; clear S; intro a S
          refine lv S (rn_gtr (S.tm rfl) rfl) rfl ?_; clear S; intro a S
          refine lv S (rn_move (S.tm rfl)) rfl ?_; clear S; intro a S
          obtain ⟨j5, hj5, h⟩ := joinE h
          refine f_cutm 9 (fun a w' => ∃ c3, j5 c3 = some r ∧ Keep [] w12 w' ∧ Sx w [] nov [.blk b2 [.string y1.Key, .string y1.Race, .slice none 0 0, .int .i64 y1.Young, .int .i64 y1.Old] 79] [(0, v_p_l), (4, .pointer (some ⟨b2, 0, none⟩)), (10, v_p_l), (11, .int .i64 (p_l.length : Int)), (12, .int .i64 (i1 : Int)), (48, .slice none 0 0), (49, .int .i64 (([] : List ByteArray).length : Int)), (50, .int .i64 (i2 : Int)), (69, .bool c3)] 87 a w') ?_ ?_
          ·rcases Bool.eq_false_or_eq_true (decide (0 < (i2 : Int))) with hb8 | hb8
           ·replace h := iteT h hb8
            refine l_want S rfl rfl rfl hb8 ?_
            refine lv S (rn_move (S.tm rfl)) rfl ?_; clear S; intro a S
            refine l_want S rfl rfl rfl hb8 ?_
            refine lv S (rn_fld fa_79_2 (S.tm rfl)) rfl ?_; clear S; intro a S
            refine l_want S rfl rfl rfl hb8 ?_
            refine lv S (rn_load Tryz.isAgg49 (S.tm rfl) (S.cell (i := 0) rfl rfl)) rfl ?_; clear S; intro a S
            refine l_want S rfl rfl rfl hb8 ?_
            refine lv S (rn_move (S.tm rfl)) rfl ?_; clear S; intro a S
            refine l_want S rfl rfl rfl hb8 ?_
            refine lv S (rn_sub (S.tm rfl) rfl) rfl ?_; clear S; intro a S
            refine l_want S rfl rfl rfl hb8 ?_
            obtain ⟨hc2, h⟩ := chkE h
            obtain ⟨b5, o4, hm4, hr7⟩ := rn_indexT (a := a) (x := .tmp 63) (y := .tmp 65) (ty := 0) sl_49 (slc_nilT (enc := eStr) (view w []) 1) (inB_get hc2).1 (inB_get hc2).2 (S.tm rfl) (S.tm rfl)
            refine lv S (hr7 _) rfl ?_; clear S; intro a S
            clear hr7
            refine l_want S rfl rfl rfl hb8 ?_
            refine lv S (rn_ld Tryz.isAgg9 (off := o4) (o := 0) (S.tm rfl) (hm4.at S.emb0) rfl) rfl ?_; clear S; intro a S
            refine l_want S rfl rfl rfl hb8 ?_
            refine lv S (rn_sleq (S.tm rfl) (S.tm rfl)) rfl ?_; clear S; intro a S
            refine lv S (rn_and_t hb8 (S.tm rfl) (S.tm rfl)) rfl ?_; clear S; intro a S
            refine l_done ?_
            refine then_n ?_
            exact ⟨_, h, Keep.refl _ _, S.nf [true] rfl ⟨rfl, rfl, rfl, rfl, rfl, rfl, rfl, rfl, rfl, trivial⟩⟩
           ·replace h := iteF h hb8
            refine l_skip S rfl rfl rfl (neq_f hb8) rfl ?_ rfl; clear S; intro a S
            refine l_skip S rfl rfl rfl (neq_f hb8) rfl ?_ rfl; clear S; intro a S
            refine l_skip S rfl rfl rfl (neq_f hb8) rfl ?_ rfl; clear S; intro a S
            refine l_skip S rfl rfl rfl (neq_f hb8) rfl ?_ rfl; clear S; intro a S
            refine l_skip S rfl rfl rfl (neq_f hb8) rfl ?_ rfl; clear S; intro a S
            refine l_skip S rfl rfl rfl (neq_f hb8) rfl ?_ rfl; clear S; intro a S
            refine l_skip S rfl rfl rfl (neq_f hb8) rfl ?_ rfl; clear S; intro a S
            refine l_skip S rfl rfl rfl (neq_f hb8) rfl ?_ rfl; clear S; intro a S
            refine lv S (rn_and_f true hb8 (S.tm rfl) rfl) rfl ?_; clear S; intro a S
            refine l_done ?_
            refine then_n ?_
            exact ⟨_, h, Keep.refl _ _, S.nf [true] rfl ⟨rfl, rfl, rfl, rfl, rfl, rfl, rfl, rfl, rfl, trivial⟩⟩
          clear S h; rintro a w13 ⟨c3, h, hk9, S⟩; rw [hj5] at h; clear hj5 j5
          refine l_done ?_
          replace S := S.nk [.blk b2 [.string y1.Key, .string y1.Race, .slice none 0 0, .int .i64 y1.Young, .int .i64 y1.Old] 79] [(0, v_p_l), (4, .pointer (some ⟨b2, 0, none⟩)), (10, v_p_l), (11, .int .i64 (p_l.length : Int)), (12, .int .i64 (i1 : Int)), (48, .slice none 0 0), (49, .int .i64 (([] : List ByteArray).length : Int)), (50, .int .i64 (i2 : Int)), (69, .bool c3)] [true] rfl ⟨rfl, rfl, rfl, rfl, rfl, rfl, rfl, rfl, rfl, trivial⟩
          refine then_n ?_
          refine f_cond (S.tm rfl) (fun hb9 => ?_) (fun hb9 => ?_)
          ·replace h := iteT h hb9
           refine f_seq ?_
           refine f_region ?_
           refine lv S (rn_assign rfl) rfl ?_; clear S; intro a S
           refine l_done ?_
           replace S := S.nk [] [(2, .int .i64 7)] [false] rfl ⟨rfl, trivial⟩
           refine then_n ?_
           refine wp_ret ?_
           refine blk_r ?_
           refine then_r ?_
           refine then_r ?_
           refine blk_r ?_
           refine then_r ?_
           refine then_r ?_
           refine blk_r ?_
           refine then_r ?_
           refine then_r ?_
           refine blk_r ?_
           refine then_r ?_
           refine then_r ?_
           obtain rfl := Option.some.inj h
           exact f_ret S Tryz.results50 rfl rfl
          ·replace h := iteF h hb9
           refine wp_skip ?_
           refine blk_n ?_
           refine then_n ?_
           refine f_region ?_
           refine lv S (rn_add (S.tm rfl) rfl) rfl ?_; clear S; intro a S
           refine lv S (rn_move (S.tm rfl)) rfl ?_; clear S; intro a S
           refine l_done ?_
           replace S := S.nk [.blk b2 [.string y1.Key, .string y1.Race, .slice none 0 0, .int .i64 y1.Young, .int .i64 y1.Old] 79] [(0, v_p_l), (4, .pointer (some ⟨b2, 0, none⟩)), (10, v_p_l), (11, .int .i64 (p_l.length : Int)), (12, .int .i64 (i1 : Int)), (48, .slice none 0 0), (49, .int .i64 (([] : List ByteArray).length : Int)), (50, .int .i64 (W ((i2 : Int) + 1)))] [true] rfl ⟨rfl, rfl, rfl, rfl, rfl, rfl, rfl, rfl, trivial⟩
           refine then_n ?_
           exact ⟨ys2, ⟨i2 + 1, ⟨_, (hd2).trans (List.append_cons _ _ _), by simp [hi2]⟩, h, S.nf [true] rfl ⟨rfl, rfl, rfl, rfl, rfl, rfl, rfl, (congrArg (fun z => some (Value.int .i64 z)) (rng_next hd2 hi2 (slc_max (slc_nilT (enc := eStr) (view w []) 1)))), trivial⟩⟩, Nat.lt_succ_self _⟩
       clear S h; rintro a w11 ⟨h, S⟩; rw [hj4] at h; clear hj4 j4
       refine then_n ?_
       refine f_seq ?_
       refine f_region ?_
       refine lv S (rn_fld fa_79_3 (S.tm rfl)) rfl ?_; clear S; intro a S
       refine lv S (rn_load Tryz.isAgg3 (S.tm rfl) (S.cell (i := 0) rfl rfl)) rfl ?_; clear S; intro a S
       refine lv S (rn_lss (S.tm rfl) rfl) rfl ?_; clear S; intro a S
       refine lv S (rn_move (S.tm rfl)) rfl ?_; clear S; intro a S
       refine f_cutm 6 (fun a w' => Keep [] w11 w' ∧ Sx w [] nov [.blk b2 [.string y1.Key, .string y1.Race, .slice none 0 0, .int .i64 y1.Young, .int .i64 y1.Old] 79] [(0, v_p_l), (4, .pointer (some ⟨b2, 0, none⟩)), (10, v_p_l), (11, .int .i64 (p_l.length : Int)), (12, .int .i64 (i1 : Int)), (80, .bool ((decide (y1.Young < 0)) || (decide (y1.Old < y1.Young))))] 87 a w') ?_ ?_
       ·rcases Bool.eq_false_or_eq_true (decide (y1.Young < 0)) with hb10 | hb10
        ·refine l_skip S rfl rfl rfl (neq_t hb10) rfl ?_ rfl; clear S; intro a S
         refine l_skip S rfl rfl rfl (neq_t hb10) rfl ?_ rfl; clear S; intro a S
         refine l_skip S rfl rfl rfl (neq_t hb10) rfl ?_ rfl; clear S; intro a S
         refine l_skip S rfl rfl rfl (neq_t hb10) rfl ?_ rfl; clear S; intro a S
         refine l_skip S rfl rfl rfl (neq_t hb10) rfl ?_ rfl; clear S; intro a S
         refine lv S (rn_or_t (decide (y1.Old < y1.Young)) hb10 (S.tm rfl) rfl) rfl ?_; clear S; intro a S
         refine l_done ?_
         refine then_n ?_
         exact ⟨Keep.refl _ _, S.nf [true] rfl ⟨rfl, rfl, rfl, rfl, rfl, rfl, trivial⟩⟩
        ·refine l_want S rfl rfl rfl hb10 ?_
         refine lv S (rn_fld fa_79_3 (S.tm rfl)) rfl ?_; clear S; intro a S
         refine l_want S rfl rfl rfl hb10 ?_
         refine lv S (rn_load Tryz.isAgg3 (S.tm rfl) (S.cell (i := 0) rfl rfl)) rfl ?_; clear S; intro a S
         refine l_want S rfl rfl rfl hb10 ?_
         refine lv S (rn_fld fa_79_4 (S.tm rfl)) rfl ?_; clear S; intro a S
         refine l_want S rfl rfl rfl hb10 ?_
         refine lv S (rn_load Tryz.isAgg3 (S.tm rfl) (S.cell (i := 0) rfl rfl)) rfl ?_; clear S; intro a S
         refine l_want S rfl rfl rfl hb10 ?_
         refine lv S (rn_gtr (S.tm rfl) (S.tm rfl)) rfl ?_; clear S; intro a S
         refine lv S (rn_or_f hb10 (S.tm rfl) (S.tm rfl)) rfl ?_; clear S; intro a S
         refine l_done ?_
         refine then_n ?_
         exact ⟨Keep.refl _ _, S.nf [true] rfl ⟨rfl, rfl, rfl, rfl, rfl, rfl, trivial⟩⟩
       clear S; rintro a w14 ⟨hk10, S⟩
       refine lv S (rn_move (S.tm rfl)) rfl ?_; clear S; intro a S
       refine f_cutm 4 (fun a w' => Keep [] w14 w' ∧ Sx w [] nov [.blk b2 [.string y1.Key, .string y1.Race, .slice none 0 0, .int .i64 y1.Young, .int .i64 y1.Old] 79] [(0, v_p_l), (10, v_p_l), (11, .int .i64 (p_l.length : Int)), (12, .int .i64 (i1 : Int)), (85, .bool (((decide (y1.Young < 0)) || (decide (y1.Old < y1.Young))) || (decide (150 < y1.Old))))] 87 a w') ?_ ?_
       ·rcases Bool.eq_false_or_eq_true ((decide (y1.Young < 0)) || (decide (y1.Old < y1.Young))) with hb11 | hb11
        ·refine l_skip S rfl rfl rfl (neq_t hb11) rfl ?_ rfl; clear S; intro a S
         refine l_skip S rfl rfl rfl (neq_t hb11) rfl ?_ rfl; clear S; intro a S
         refine l_skip S rfl rfl rfl (neq_t hb11) rfl ?_ rfl; clear S; intro a S
         refine lv S (rn_or_t (decide (150 < y1.Old)) hb11 (S.tm rfl) rfl) rfl ?_; clear S; intro a S
         refine l_done ?_
         refine then_n ?_
         exact ⟨Keep.refl _ _, S.nf [true] rfl ⟨rfl, rfl, rfl, rfl, rfl, trivial⟩⟩
        ·refine l_want S rfl rfl rfl hb11 ?_
         refine lv S (rn_fld fa_79_4 (S.tm rfl)) rfl ?_; clear S; intro a S
         refine l_want S rfl rfl rfl hb11 ?_
         refine lv S (rn_load Tryz.isAgg3 (S.tm rfl) (S.cell (i := 0) rfl rfl)) rfl ?_; clear S; intro a S
         refine l_want S rfl rfl rfl hb11 ?_
         refine lv S (rn_gtr (S.tm rfl) rfl) rfl ?_; clear S; intro a S
         refine lv S (rn_or_f hb11 (S.tm rfl) (S.tm rfl)) rfl ?_; clear S; intro a S
         refine l_done ?_
         refine then_n ?_
         exact ⟨Keep.refl _ _, S.nf [true] rfl ⟨rfl, rfl, rfl, rfl, rfl, trivial⟩⟩
       clear S; rintro a w15 ⟨hk11, S⟩
       refine l_done ?_
       replace S := S.nk [] [(0, v_p_l), (10, v_p_l), (11, .int .i64 (p_l.length : Int)), (12, .int .i64 (i1 : Int)), (85, .bool (((decide (y1.Young < 0)) || (decide (y1.Old < y1.Young))) || (decide (150 < y1.Old))))] [false] rfl ⟨rfl, rfl, rfl, rfl, rfl, trivial⟩
       refine then_n ?_
       refine f_cond (S.tm rfl) (fun hb12 => ?_) (fun hb12 => ?_)
       ·replace h := iteT h hb12
        refine f_seq ?_
        refine f_region ?_
        refine lv S (rn_assign rfl) rfl ?_; clear S; intro a S
        refine l_done ?_
        replace S := S.nk [] [(2, .int .i64 1)] [] rfl ⟨rfl, trivial⟩
        refine then_n ?_
        refine wp_ret ?_
        refine blk_r ?_
        refine then_r ?_
        refine then_r ?_
        refine blk_r ?_
        refine then_r ?_
        refine then_r ?_
        obtain rfl := Option.some.inj h
        exact f_ret S Tryz.results50 rfl rfl
       ·replace h := iteF h hb12
        refine wp_skip ?_
        refine blk_n ?_
        refine then_n ?_
        refine f_region ?_
        refine lv S (rn_add (S.tm rfl) rfl) rfl ?_; clear S; intro a S
        refine lv S (rn_move (S.tm rfl)) rfl ?_; clear S; intro a S
        refine l_done ?_
        replace S := S.nk [] [(0, v_p_l), (10, v_p_l), (11, .int .i64 (p_l.length : Int)), (12, .int .i64 (W ((i1 : Int) + 1)))] [] rfl ⟨rfl, rfl, rfl, rfl, trivial⟩
        refine then_n ?_
        exact ⟨ys1, ⟨i1 + 1, ⟨_, (hd1).trans (List.append_cons _ _ _), by simp [hi1]⟩, h, S.nf [] rfl ⟨rfl, rfl, rfl, (congrArg (fun z => some (Value.int .i64 z)) (rng_next hd1 hi1 (slc_max hs_p_l))), trivial⟩⟩, Nat.lt_succ_self _⟩
  clear S h; rintro a w2 ⟨h, S⟩; rw [hj1] at h; clear hj1 j1
  refine then_n ?_
  refine f_seq ?_
  refine f_region ?_
  refine lv S (rn_assign rfl) rfl ?_; clear S; intro a S
  refine l_done ?_
  replace S := S.nk [] [(2, .int .i64 0)] [] rfl ⟨rfl, trivial⟩
  refine then_n ?_
  refine wp_ret ?_
  obtain rfl := Option.some.inj h
  exact f_ret S Tryz.results50 rfl rfl
theorem record_checkStep_ok (w : World) (p_x : GStep) (r : Int) (h : record_checkStep p_x = some r) :
    Calls Tryz.prog 69 [.agg (GStep.enc p_x).toArray].toArray w (Ret w [] fun _ v _ => v = .int .i64 r) := by
 refine f_enter [] [] Tryz.func69 rfl Tryz.ntmps69 rfl (by simp) (by simp [fps]) (by simp [fps]) fun a S => ?_
 unfold record_checkStep at h
 replace S := S.nk [] [(0, .agg (GStep.enc p_x).toArray)] [] rfl ⟨rfl, trivial⟩
 refine f_seq ?_
 refine f_region ?_
 refine l_box S (S.tm rfl) (cs := [.int .i64 p_x.At, .int .i64 p_x.Kind, .string p_x.Id, .string p_x.Who, .string p_x.Club, .string p_x.Race, .int .i64 p_x.Age, .int .i64 p_x.Time]) rfl rfl ?_; clear S; intro a w1 b1 hz1 hk1 S
 refine lv S (rn_assign rfl) rfl ?_; clear S; intro a S
 refine l_done ?_
 replace S := S.nk [.blk b1 [.int .i64 p_x.At, .int .i64 p_x.Kind, .string p_x.Id, .string p_x.Who, .string p_x.Club, .string p_x.Race, .int .i64 p_x.Age, .int .i64 p_x.Time] 82] [(1, .pointer (some ⟨b1, 0, none⟩))] [true] rfl ⟨rfl, trivial⟩
 refine then_n ?_
 refine f_seq ?_
 obtain ⟨j1, hj1, h⟩ := joinE h
 refine f_join (fun a w' => j1 = some r ∧ Sx w [] nov [] [] 64 a w') ?_ ?_
 ·refine wp_block ?_
  refine f_seq ?_
  refine f_region ?_
  refine lv S (rn_fld fa_82_0 (S.tm rfl)) rfl ?_; clear S; intro a S
  refine lv S (rn_load Tryz.isAgg3 (S.tm rfl) (S.cell (i := 0) rfl rfl)) rfl ?_; clear S; intro a S
  refine l_enter S (fun _ => run_call (vs := [.int .i64 p_x.At]) ⟨(S.tm rfl), trivial⟩ Tryz.call79) (words_IsMoment_ok _ p_x.At _ rfl) rfl ?_; clear S; intro v1 a w3 hv1 hk2 hn1 S
  subst hv1
  refine lv S (rn_not (S.tm rfl)) rfl ?_; clear S; intro a S
  refine lv S (rn_assign (S.tm rfl)) rfl ?_; clear S; intro a S
  refine l_done ?_
  replace S := S.nk [.blk b1 [.int .i64 p_x.At, .int .i64 p_x.Kind, .string p_x.Id, .string p_x.Who, .string p_x.Club, .string p_x.Race, .int .i64 p_x.Age, .int .i64 p_x.Time] 82] [(1, .pointer (some ⟨b1, 0, none⟩)), (3, .bool (!(words_IsMoment p_x.At)))] [true] rfl ⟨rfl, rfl, trivial⟩
  refine then_n ?_
  refine f_cond (S.tm rfl) (fun hb1 => ?_) (fun hb1 => ?_)
  ·replace h := iteT h hb1
   refine f_seq ?_
   refine f_region ?_
   refine lv S (rn_assign rfl) rfl ?_; clear S; intro a S
   refine l_done ?_
   replace S := S.nk [] [(2, .int .i64 1)] [false] rfl ⟨rfl, trivial⟩
   refine then_n ?_
   refine wp_ret ?_
   refine blk_r ?_
   refine then_r ?_
   refine then_r ?_
   obtain rfl := Option.some.inj h
   exact f_ret S Tryz.results69 rfl rfl
  ·replace h := iteF h hb1
   refine f_seq ?_
   refine f_region ?_
   refine lv S (rn_fld fa_82_1 (S.tm rfl)) rfl ?_; clear S; intro a S
   refine lv S (rn_load Tryz.isAgg3 (S.tm rfl) (S.cell (i := 0) rfl rfl)) rfl ?_; clear S; intro a S
   refine l_enter S (fun _ => run_call (vs := [.int .i64 p_x.Kind, .int .i64 1, .int .i64 3]) ⟨(S.tm rfl), rfl, rfl, trivial⟩ Tryz.call40) (words_Within_ok _ p_x.Kind 1 3 _ rfl) rfl ?_; clear S; intro v2 a w4 hv2 hk3 hn2 S
   subst hv2
   refine lv S (rn_not (S.tm rfl)) rfl ?_; clear S; intro a S
   refine lv S (rn_assign (S.tm rfl)) rfl ?_; clear S; intro a S
   refine l_done ?_
   replace S := S.nk [.blk b1 [.int .i64 p_x.At, .int .i64 p_x.Kind, .string p_x.Id, .string p_x.Who, .string p_x.Club, .string p_x.Race, .int .i64 p_x.Age, .int .i64 p_x.Time] 82] [(1, .pointer (some ⟨b1, 0, none⟩)), (8, .bool (!(words_Within p_x.Kind 1 3)))] [true] rfl ⟨rfl, rfl, trivial⟩
   refine then_n ?_
   refine f_cond (S.tm rfl) (fun hb2 => ?_) (fun hb2 => ?_)
   ·replace h := iteT h hb2
    refine f_seq ?_
    refine f_region ?_
    refine lv S (rn_assign rfl) rfl ?_; clear S; intro a S
    refine l_done ?_
    replace S := S.nk [] [(2, .int .i64 4)] [false] rfl ⟨rfl, trivial⟩
    refine then_n ?_
    refine wp_ret ?_
    refine blk_r ?_
    refine then_r ?_
    refine then_r ?_
    obtain rfl := Option.some.inj h
    exact f_ret S Tryz.results69 rfl rfl
   ·replace h := iteF h hb2
    refine f_seq ?_
    refine f_region ?_
    refine lv S (rn_fld fa_82_2 (S.tm rfl)) rfl ?_; clear S; intro a S
    refine lv S (rn_load Tryz.isAgg9 (S.tm rfl) (S.cell (i := 0) rfl rfl)) rfl ?_; clear S; intro a S
    obtain ⟨r1, hr1, h⟩ := bindE h
    refine l_enter S (fun _ => run_call (vs := [.string p_x.Id]) ⟨(S.tm rfl), trivial⟩ Tryz.call57) (words_IsKey_ok _ p_x.Id _ hr1) rfl ?_; clear S; intro v3 a w5 hv3 hk4 hn3 S
    subst hv3
    refine lv S (rn_not (S.tm rfl)) rfl ?_; clear S; intro a S
    refine lv S (rn_assign (S.tm rfl)) rfl ?_; clear S; intro a S
    refine l_done ?_
    replace S := S.nk [.blk b1 [.int .i64 p_x.At, .int .i64 p_x.Kind, .string p_x.Id, .string p_x.Who, .string p_x.Club, .string p_x.Race, .int .i64 p_x.Age, .int .i64 p_x.Time] 82] [(1, .pointer (some ⟨b1, 0, none⟩)), (13, .bool (!r1))] [true] rfl ⟨rfl, rfl, trivial⟩
    refine then_n ?_
    refine f_cond (S.tm rfl) (fun hb3 => ?_) (fun hb3 => ?_)
    ·replace h := iteT h hb3
     refine f_seq ?_
     refine f_region ?_
     refine lv S (rn_assign rfl) rfl ?_; clear S; intro a S
     refine l_done ?_
     replace S := S.nk [] [(2, .int .i64 5)] [false] rfl ⟨rfl, trivial⟩
     refine then_n ?_
     refine wp_ret ?_
     refine blk_r ?_
     refine then_r ?_
     refine then_r ?_
     obtain rfl := Option.some.inj h
     exact f_ret S Tryz.results69 rfl rfl
    ·replace h := iteF h hb3
     refine f_seq ?_
     refine f_region ?_
     refine lv S (rn_fld fa_82_1 (S.tm rfl)) rfl ?_; clear S; intro a S
     refine lv S (rn_load Tryz.isAgg3 (S.tm rfl) (S.cell (i := 0) rfl rfl)) rfl ?_; clear S; intro a S
     refine lv S (rn_neq (S.tm rfl) rfl) rfl ?_; clear S; intro a S
     refine lv S (rn_assign (S.tm rfl)) rfl ?_; clear S; intro a S
     refine l_done ?_
     replace S := S.nk [.blk b1 [.int .i64 p_x.At, .int .i64 p_x.Kind, .string p_x.Id, .string p_x.Who, .string p_x.Club, .string p_x.Race, .int .i64 p_x.Age, .int .i64 p_x.Time] 82] [(1, .pointer (some ⟨b1, 0, none⟩)), (18, .bool (!decide (p_x.Kind = 1)))] [true] rfl ⟨rfl, rfl, trivial⟩
     refine then_n ?_
     obtain ⟨j2, hj2, h⟩ := joinE h
     refine f_join (fun a w' => j2 = some r ∧ Sx w [] nov [] [] 64 a w') ?_ ?_
     ·refine f_cond (S.tm rfl) (fun hb4 => ?_) (fun hb4 => ?_)
      ·replace h := iteT h hb4
       refine f_seq ?_
       refine f_region ?_
       refine lv S (rn_ldA Tryz.isAgg82 Tryz.sizeOf82 (off := 0) (o := 0) (part := [.int .i64 p_x.At, .int .i64 p_x.Kind, .string p_x.Id, .string p_x.Who, .string p_x.Club, .string p_x.Race, .int .i64 p_x.Age, .int .i64 p_x.Time]) rfl rfl (S.tm rfl) (S.cellsAt (i := 0) rfl)) rfl ?_; clear S; intro a S
       refine lv S (rn_fld fa_82_0 (S.tm rfl)) rfl ?_; clear S; intro a S
       refine lv S (rn_load Tryz.isAgg3 (S.tm rfl) (S.cell (i := 0) rfl rfl)) rfl ?_; clear S; intro a S
       refine lv S (rn_fld fa_82_1 (S.tm rfl)) rfl ?_; clear S; intro a S
       refine lv S (rn_load Tryz.isAgg3 (S.tm rfl) (S.cell (i := 0) rfl rfl)) rfl ?_; clear S; intro a S
       refine lv S (rn_fld fa_82_2 (S.tm rfl)) rfl ?_; clear S; intro a S
       refine lv S (rn_load Tryz.isAgg9 (S.tm rfl) (S.cell (i := 0) rfl rfl)) rfl ?_; clear S; intro a S
       refine lv S (rn_bld bt_82 (pv := [(0, .int .i64 p_x.At), (1, .int .i64 p_x.Kind), (2, .string p_x.Id)]) ⟨rfl, (S.tm rfl), rfl, (S.tm rfl), rfl, (S.tm rfl), trivial⟩ (cs := [.int .i64 p_x.At, .int .i64 p_x.Kind, .string p_x.Id, .string k_empty, .string k_empty, .string k_empty, .int .i64 0, .int .i64 0]) (by kernel_rfl)) rfl ?_; clear S; intro a S
       refine lv S (rn_neq_82 (m := p_x) (n := (GStep.mk p_x.At p_x.Kind p_x.Id k_empty k_empty k_empty 0 0)) (S.tm rfl) (S.tm rfl)) rfl ?_; clear S; intro a S
       refine l_done ?_
       replace S := S.nk [] [(30, .bool (!decide (p_x = (GStep.mk p_x.At p_x.Kind p_x.Id k_empty k_empty k_empty 0 0))))] [false] rfl ⟨rfl, trivial⟩
       refine then_n ?_
       refine f_cond (S.tm rfl) (fun hb5 => ?_) (fun hb5 => ?_)
       ·replace h := iteT h hb5
        refine f_seq ?_
        refine f_region ?_
        refine lv S (rn_assign rfl) rfl ?_; clear S; intro a S
        refine l_done ?_
        replace S := S.nk [] [(2, .int .i64 3)] [] rfl ⟨rfl, trivial⟩
        refine then_n ?_
        refine wp_ret ?_
        refine then_r ?_
        refine blk_r ?_
        refine then_r ?_
        refine then_r ?_
        obtain rfl := Option.some.inj h
        exact f_ret S Tryz.results69 rfl rfl
       ·replace h := iteF h hb5
        refine wp_skip ?_
        refine then_n ?_
        exact ⟨h, S.nf [] rfl trivial⟩
      ·replace h := iteF h hb4
       refine f_seq ?_
       refine f_region ?_
       refine lv S (rn_fld fa_82_3 (S.tm rfl)) rfl ?_; clear S; intro a S
       refine lv S (rn_load Tryz.isAgg9 (S.tm rfl) (S.cell (i := 0) rfl rfl)) rfl ?_; clear S; intro a S
       obtain ⟨r2, hr2, h⟩ := bindE h
       refine l_enter S (fun _ => run_call (vs := [.string p_x.Who]) ⟨(S.tm rfl), trivial⟩ Tryz.call57) (words_IsKey_ok _ p_x.Who _ hr2) rfl ?_; clear S; intro v4 a w7 hv4 hk5 hn4 S
       subst hv4
       refine lv S (rn_not (S.tm rfl)) rfl ?_; clear S; intro a S
       refine lv S (rn_move (S.tm rfl)) rfl ?_; clear S; intro a S
       obtain ⟨j3, hj3, h⟩ := joinE h
       refine f_cutm 5 (fun a w' => ∃ c1, j3 c1 = some r ∧ Keep [] w7 w' ∧ Sx w [] nov [.blk b1 [.int .i64 p_x.At, .int .i64 p_x.Kind, .string p_x.Id, .string p_x.Who, .string p_x.Club, .string p_x.Race, .int .i64 p_x.Age, .int .i64 p_x.Time] 82] [(1, .pointer (some ⟨b1, 0, none⟩)), (41, .bool c1)] 64 a w') ?_ ?_
       ·rcases Bool.eq_false_or_eq_true (!r2) with hb6 | hb6
        ·replace h := iteT h hb6
         refine l_skip S rfl rfl rfl (neq_t hb6) rfl ?_ rfl; clear S; intro a S
         refine l_skip S rfl rfl rfl (neq_t hb6) rfl ?_ rfl; clear S; intro a S
         refine l_skip S rfl rfl rfl (neq_t hb6) rfl ?_ rfl; clear S; intro a S
         refine l_skip S rfl rfl rfl (neq_t hb6) rfl ?_ rfl; clear S; intro a S
         refine lv S (rn_or_t true hb6 (S.tm rfl) rfl) rfl ?_; clear S; intro a S
         refine l_done ?_
         refine then_n ?_
         exact ⟨_, h, Keep.refl _ _, S.nf [true] rfl ⟨rfl, rfl, trivial⟩⟩
        ·replace h := iteF h hb6
         refine l_want S rfl rfl rfl hb6 ?_
         refine lv S (rn_fld fa_82_5 (S.tm rfl)) rfl ?_; clear S; intro a S
         refine l_want S rfl rfl rfl hb6 ?_
         refine lv S (rn_load Tryz.isAgg9 (S.tm rfl) (S.cell (i := 0) rfl rfl)) rfl ?_; clear S; intro a S
         refine l_want S rfl rfl rfl hb6 ?_
         obtain ⟨r3, hr3, h⟩ := bindE h
         refine l_enter S (fun _ => run_call (vs := [.string p_x.Race]) ⟨(S.tm rfl), trivial⟩ Tryz.call57) (words_IsKey_ok _ p_x.Race _ hr3) rfl ?_; clear S; intro v5 a w9 hv5 hk6 hn5 S
         subst hv5
         refine l_want S rfl rfl rfl hb6 ?_
         refine lv S (rn_not (S.tm rfl)) rfl ?_; clear S; intro a S
         refine lv S (rn_or_f hb6 (S.tm rfl) (S.tm rfl)) rfl ?_; clear S; intro a S
         refine l_done ?_
         refine then_n ?_
         exact ⟨_, h, hk6, S.nf [true] rfl ⟨rfl, rfl, trivial⟩⟩
       clear S h; rintro a w8 ⟨c1, h, hk7, S⟩; rw [hj3] at h; clear hj3 j3
       refine lv S (rn_move (S.tm rfl)) rfl ?_; clear S; intro a S
       obtain ⟨j4, hj4, h⟩ := joinE h
       refine f_cutm 10 (fun a w' => ∃ c2, j4 c2 = some r ∧ Keep [] w8 w' ∧ Sx w [] nov [.blk b1 [.int .i64 p_x.At, .int .i64 p_x.Kind, .string p_x.Id, .string p_x.Who, .string p_x.Club, .string p_x.Race, .int .i64 p_x.Age, .int .i64 p_x.Time] 82] [(1, .pointer (some ⟨b1, 0, none⟩)), (52, .bool c2)] 64 a w') ?_ ?_
       ·rcases Bool.eq_false_or_eq_true c1 with hb7 | hb7
        ·replace h := iteT h hb7
         refine l_skip S rfl rfl rfl (neq_t hb7) rfl ?_ rfl; clear S; intro a S
         refine l_skip S rfl rfl rfl (neq_t hb7) rfl ?_ rfl; clear S; intro a S
         refine l_skip S rfl rfl rfl (neq_t hb7) rfl ?_ rfl; clear S; intro a S
         refine l_skip S rfl rfl rfl (neq_t hb7) rfl ?_ rfl; clear S; intro a S
         refine l_skipU S rfl rfl rfl rfl ?_; clear S; intro a S
         refine l_skipU S rfl rfl rfl rfl ?_; clear S; intro a S
         refine l_skipU S rfl rfl rfl rfl ?_; clear S; intro a S
         refine l_skipU S rfl rfl rfl rfl ?_; clear S; intro a S
         refine l_skip S rfl rfl rfl (neq_t hb7) rfl ?_ rfl; clear S; intro a S
         refine lv S (rn_or_t true hb7 (S.tm rfl) rfl) rfl ?_; clear S; intro a S
         refine l_done ?_
         refine then_n ?_
         exact ⟨_, h, Keep.refl _ _, S.nf [true] rfl ⟨rfl, rfl, trivial⟩⟩
        ·replace h := iteF h hb7
         refine l_want S rfl rfl rfl hb7 ?_
         refine lv S (rn_fld fa_82_4 (S.tm rfl)) rfl ?_; clear S; intro a S
         refine l_want S rfl rfl rfl hb7 ?_
         refine lv S (rn_load Tryz.isAgg9 (S.tm rfl) (S.cell (i := 0) rfl rfl)) rfl ?_; clear S; intro a S
         refine l_want S rfl rfl rfl hb7 ?_
         refine lv S (rn_sneq (S.tm rfl) rfl) rfl ?_; clear S; intro a S
         refine l_want S rfl rfl rfl hb7 ?_
         refine lv S (rn_move (S.tm rfl)) rfl ?_; clear S; intro a S
         obtain ⟨j5, hj5, h⟩ := joinE h
         refine f_cutm 5 (fun a w' => ∃ c3, j5 c3 = some r ∧ Keep [] w8 w' ∧ Sx w [] nov [.blk b1 [.int .i64 p_x.At, .int .i64 p_x.Kind, .string p_x.Id, .string p_x.Who, .string p_x.Club, .string p_x.Race, .int .i64 p_x.Age, .int .i64 p_x.Time] 82] [(1, .pointer (some ⟨b1, 0, none⟩)), (42, .bool c1), (51, .bool c3)] 64 a w') ?_ ?_
         ·rcases Bool.eq_false_or_eq_true (!decide (p_x.Club = k_empty)) with hb8 | hb8
          ·replace h := iteT h hb8
           refine l_want S rfl rfl rfl hb8 ?_
           refine lv S (rn_fld fa_82_4 (S.tm rfl)) rfl ?_; clear S; intro a S
           refine l_want S rfl rfl rfl hb8 ?_
           refine lv S (rn_load Tryz.isAgg9 (S.tm rfl) (S.cell (i := 0) rfl rfl)) rfl ?_; clear S; intro a S
           refine l_want S rfl rfl rfl hb8 ?_
           obtain ⟨r4, hr4, h⟩ := bindE h
           refine l_enter S (fun _ => run_call (vs := [.string p_x.Club]) ⟨(S.tm rfl), trivial⟩ Tryz.call57) (words_IsKey_ok _ p_x.Club _ hr4) rfl ?_; clear S; intro v6 a w12 hv6 hk8 hn6 S
           subst hv6
           refine l_want S rfl rfl rfl hb8 ?_
           refine lv S (rn_not (S.tm rfl)) rfl ?_; clear S; intro a S
           refine l_want S rfl rfl rfl hb7 ?_
           refine lv S (rn_and_t hb8 (S.tm rfl) (S.tm rfl)) rfl ?_; clear S; intro a S
           refine l_done ?_
           refine then_n ?_
           exact ⟨_, h, hk8, S.nf [true] rfl ⟨rfl, rfl, rfl, trivial⟩⟩
          ·replace h := iteF h hb8
           refine l_skip S rfl rfl rfl (neq_f hb8) rfl ?_ rfl; clear S; intro a S
           refine l_skip S rfl rfl rfl (neq_f hb8) rfl ?_ rfl; clear S; intro a S
           refine l_skip S rfl rfl rfl (neq_f hb8) rfl ?_ rfl; clear S; intro a S
           refine l_skip S rfl rfl rfl (neq_f hb8) rfl ?_ rfl; clear S; intro a S
           refine l_want S rfl rfl rfl hb7 ?_
           refine lv S (rn_and_f true hb8 (S.tm rfl) rfl) rfl ?_; clear S; intro a S
           refine l_done ?_
           refine then_n ?_
           exact ⟨_, h, Keep.refl _ _, S.nf [true] rfl ⟨rfl, rfl, rfl, trivial⟩⟩
         clear S h; rintro a w11 ⟨c3, h, hk9, S⟩; rw [hj5] at h; clear hj5 j5
         refine lv S (rn_or_f hb7 (S.tm rfl) (S.tm rfl)) rfl ?_; clear S; intro a S
         refine l_done ?_
         refine then_n ?_
         exact ⟨_, h, hk9, S.nf [true] rfl ⟨rfl, rfl, trivial⟩⟩
       clear S h; rintro a w10 ⟨c2, h, hk10, S⟩; rw [hj4] at h; clear hj4 j4
       refine lv S (rn_assign (S.tm rfl)) rfl ?_; clear S; intro a S
       refine l_done ?_
       replace S := S.nk [.blk b1 [.int .i64 p_x.At, .int .i64 p_x.Kind, .string p_x.Id, .string p_x.Who, .string p_x.Club, .string p_x.Race, .int .i64 p_x.Age, .int .i64 p_x.Time] 82] [(1, .pointer (some ⟨b1, 0, none⟩)), (31, .bool c2)] [true] rfl ⟨rfl, rfl, trivial⟩
       refine then_n ?_
       refine f_cond (S.tm rfl) (fun hb9 => ?_) (fun hb9 => ?_)
       ·replace h := iteT h hb9
        refine f_seq ?_
        refine f_region ?_
        refine lv S (rn_assign rfl) rfl ?_; clear S; intro a S
        refine l_done ?_
        replace S := S.nk [] [(2, .int .i64 5)] [false] rfl ⟨rfl, trivial⟩
        refine then_n ?_
        refine wp_ret ?_
        refine then_r ?_
        refine blk_r ?_
        refine then_r ?_
        refine then_r ?_
        obtain rfl := Option.some.inj h
        exact f_ret S Tryz.results69 rfl rfl
       ·replace h := iteF h hb9
        refine f_seq ?_
        refine f_region ?_
        refine lv S (rn_fld fa_82_6 (S.tm rfl)) rfl ?_; clear S; intro a S
        refine lv S (rn_load Tryz.isAgg3 (S.tm rfl) (S.cell (i := 0) rfl rfl)) rfl ?_; clear S; intro a S
        refine l_enter S (fun _ => run_call (vs := [.int .i64 p_x.Age, .int .i64 0, .int .i64 150]) ⟨(S.tm rfl), rfl, rfl, trivial⟩ Tryz.call40) (words_Within_ok _ p_x.Age 0 150 _ rfl) rfl ?_; clear S; intro v7 a w13 hv7 hk11 hn7 S
        subst hv7
        refine lv S (rn_not (S.tm rfl)) rfl ?_; clear S; intro a S
        refine lv S (rn_move (S.tm rfl)) rfl ?_; clear S; intro a S
        refine f_cutm 5 (fun a w' => Keep [] w13 w' ∧ Sx w [] nov [.blk b1 [.int .i64 p_x.At, .int .i64 p_x.Kind, .string p_x.Id, .string p_x.Who, .string p_x.Club, .string p_x.Race, .int .i64 p_x.Age, .int .i64 p_x.Time] 82] [(63, .bool ((!(words_Within p_x.Age 0 150)) || (!(timing_IsTime p_x.Time))))] 64 a w') ?_ ?_
        ·rcases Bool.eq_false_or_eq_true (!(words_Within p_x.Age 0 150)) with hb10 | hb10
         ·refine l_skip S rfl rfl rfl (neq_t hb10) rfl ?_ rfl; clear S; intro a S
          refine l_skip S rfl rfl rfl (neq_t hb10) rfl ?_ rfl; clear S; intro a S
          refine l_skip S rfl rfl rfl (neq_t hb10) rfl ?_ rfl; clear S; intro a S
          refine l_skip S rfl rfl rfl (neq_t hb10) rfl ?_ rfl; clear S; intro a S
          refine lv S (rn_or_t (!(timing_IsTime p_x.Time)) hb10 (S.tm rfl) rfl) rfl ?_; clear S; intro a S
          refine l_done ?_
          refine then_n ?_
          exact ⟨Keep.refl _ _, S.nf [true] rfl ⟨rfl, trivial⟩⟩
         ·refine l_want S rfl rfl rfl hb10 ?_
          refine lv S (rn_fld fa_82_7 (S.tm rfl)) rfl ?_; clear S; intro a S
          refine l_want S rfl rfl rfl hb10 ?_
          refine lv S (rn_load Tryz.isAgg3 (S.tm rfl) (S.cell (i := 0) rfl rfl)) rfl ?_; clear S; intro a S
          refine l_want S rfl rfl rfl hb10 ?_
          refine l_enter S (fun _ => run_call (vs := [.int .i64 p_x.Time]) ⟨(S.tm rfl), trivial⟩ Tryz.call48) (timing_IsTime_ok _ p_x.Time _ rfl) rfl ?_; clear S; intro v8 a w15 hv8 hk12 hn8 S
          subst hv8
          refine l_want S rfl rfl rfl hb10 ?_
          refine lv S (rn_not (S.tm rfl)) rfl ?_; clear S; intro a S
          refine lv S (rn_or_f hb10 (S.tm rfl) (S.tm rfl)) rfl ?_; clear S; intro a S
          refine l_done ?_
          refine then_n ?_
          exact ⟨hk12, S.nf [true] rfl ⟨rfl, trivial⟩⟩
        clear S; rintro a w14 ⟨hk13, S⟩
        refine lv S (rn_assign (S.tm rfl)) rfl ?_; clear S; intro a S
        refine l_done ?_
        replace S := S.nk [] [(53, .bool ((!(words_Within p_x.Age 0 150)) || (!(timing_IsTime p_x.Time))))] [false] rfl ⟨rfl, trivial⟩
        refine then_n ?_
        refine f_cond (S.tm rfl) (fun hb11 => ?_) (fun hb11 => ?_)
        ·replace h := iteT h hb11
         refine f_seq ?_
         refine f_region ?_
         refine lv S (rn_assign rfl) rfl ?_; clear S; intro a S
         refine l_done ?_
         replace S := S.nk [] [(2, .int .i64 1)] [] rfl ⟨rfl, trivial⟩
         refine then_n ?_
         refine wp_ret ?_
         refine then_r ?_
         refine blk_r ?_
         refine then_r ?_
         refine then_r ?_
         obtain rfl := Option.some.inj h
         exact f_ret S Tryz.results69 rfl rfl
        ·replace h := iteF h hb11
         refine wp_skip ?_
         refine then_n ?_
         exact ⟨h, S.nf [] rfl trivial⟩
     clear S h; rintro a w6 ⟨h, S⟩; rw [hj2] at h; clear hj2 j2
     refine blk_n ?_
     refine then_n ?_
     exact ⟨h, S.nf [] rfl trivial⟩
 clear S h; rintro a w2 ⟨h, S⟩; rw [hj1] at h; clear hj1 j1
 refine then_n ?_
 refine f_seq ?_
 refine f_region ?_
 refine lv S (rn_assign rfl) rfl ?_; clear S; intro a S
 refine l_done ?_
 replace S := S.nk [] [(2, .int .i64 0)] [] rfl ⟨rfl, trivial⟩
 refine then_n ?_
 refine wp_ret ?_
 obtain rfl := Option.some.inj h
 exact f_ret S Tryz.results69 rfl rfl
theorem record_checkSwum_ok (w : World) (p_s : GStep) (r : Int) (h : record_checkSwum p_s = some r) :
    Calls Tryz.prog 51 [.agg (GStep.enc p_s).toArray].toArray w (Ret w [] fun _ v _ => v = .int .i64 r) := by
 refine f_enter [] [] Tryz.func51 rfl Tryz.ntmps51 rfl (by simp) (by simp [fps]) (by simp [fps]) fun a S => ?_
 unfold record_checkSwum at h
 replace S := S.nk [] [(0, .agg (GStep.enc p_s).toArray)] [] rfl ⟨rfl, trivial⟩
 refine f_seq ?_
 refine f_region ?_
 refine l_box S (S.tm rfl) (cs := [.int .i64 p_s.At, .int .i64 p_s.Kind, .string p_s.Id, .string p_s.Who, .string p_s.Club, .string p_s.Race, .int .i64 p_s.Age, .int .i64 p_s.Time]) rfl rfl ?_; clear S; intro a w1 b1 hz1 hk1 S
 refine lv S (rn_assign rfl) rfl ?_; clear S; intro a S
 refine l_done ?_
 replace S := S.nk [.blk b1 [.int .i64 p_s.At, .int .i64 p_s.Kind, .string p_s.Id, .string p_s.Who, .string p_s.Club, .string p_s.Race, .int .i64 p_s.Age, .int .i64 p_s.Time] 82] [(1, .pointer (some ⟨b1, 0, none⟩))] [true] rfl ⟨rfl, trivial⟩
 refine then_n ?_
 refine f_seq ?_
 refine f_seq ?_
 refine f_region ?_
 refine lv S (rn_ldA Tryz.isAgg82 Tryz.sizeOf82 (off := 0) (o := 0) (part := [.int .i64 p_s.At, .int .i64 p_s.Kind, .string p_s.Id, .string p_s.Who, .string p_s.Club, .string p_s.Race, .int .i64 p_s.Age, .int .i64 p_s.Time]) rfl rfl (S.tm rfl) (S.cellsAt (i := 0) rfl)) rfl ?_; clear S; intro a S
 obtain ⟨r1, hr1, h⟩ := bindE h
 refine l_enter S (fun _ => run_call (vs := [.agg (GStep.enc p_s).toArray]) ⟨(S.tm rfl), trivial⟩ Tryz.call69) (record_checkStep_ok _ p_s _ hr1) rfl ?_; clear S; intro v1 a w2 hv1 hk2 hn1 S
 subst hv1
 refine lv S (rn_assign (S.tm rfl)) rfl ?_; clear S; intro a S
 refine l_done ?_
 replace S := S.nk [.blk b1 [.int .i64 p_s.At, .int .i64 p_s.Kind, .string p_s.Id, .string p_s.Who, .string p_s.Club, .string p_s.Race, .int .i64 p_s.Age, .int .i64 p_s.Time] 82] [(1, .pointer (some ⟨b1, 0, none⟩)), (3, .int .i64 r1)] [true] rfl ⟨rfl, rfl, trivial⟩
 refine then_n ?_
 refine f_seq ?_
 refine f_region ?_
 refine lv S (rn_move (S.tm rfl)) rfl ?_; clear S; intro a S
 refine lv S (rn_neq (S.tm rfl) rfl) rfl ?_; clear S; intro a S
 refine l_done ?_
 replace S := S.nk [.blk b1 [.int .i64 p_s.At, .int .i64 p_s.Kind, .string p_s.Id, .string p_s.Who, .string p_s.Club, .string p_s.Race, .int .i64 p_s.Age, .int .i64 p_s.Time] 82] [(1, .pointer (some ⟨b1, 0, none⟩)), (3, .int .i64 r1), (7, .bool (!decide (r1 = 0)))] [true] rfl ⟨rfl, rfl, rfl, trivial⟩
 refine then_n ?_
 refine f_cond (S.tm rfl) (fun hb1 => ?_) (fun hb1 => ?_)
 ·replace h := iteT h hb1
  refine f_seq ?_
  refine f_region ?_
  refine lv S (rn_move (S.tm rfl)) rfl ?_; clear S; intro a S
  refine lv S (rn_assign (S.tm rfl)) rfl ?_; clear S; intro a S
  refine l_done ?_
  replace S := S.nk [] [(2, .int .i64 r1)] [false] rfl ⟨rfl, trivial⟩
  refine then_n ?_
  refine wp_ret ?_
  refine then_r ?_
  obtain rfl := Option.some.inj h
  exact f_ret S Tryz.results51 rfl rfl
 ·replace h := iteF h hb1
  refine wp_skip ?_
  refine then_n ?_
  refine f_seq ?_
  refine f_seq ?_
  refine f_region ?_
  refine lv S (rn_fld fa_82_1 (S.tm rfl)) rfl ?_; clear S; intro a S
  refine lv S (rn_load Tryz.isAgg3 (S.tm rfl) (S.cell (i := 0) rfl rfl)) rfl ?_; clear S; intro a S
  refine lv S (rn_neq (S.tm rfl) rfl) rfl ?_; clear S; intro a S
  refine l_done ?_
  replace S := S.nk [] [(11, .bool (!decide (p_s.Kind = 1)))] [false] rfl ⟨rfl, trivial⟩
  refine then_n ?_
  refine f_cond (S.tm rfl) (fun hb2 => ?_) (fun hb2 => ?_)
  ·replace h := iteT h hb2
   refine f_seq ?_
   refine f_region ?_
   refine lv S (rn_assign rfl) rfl ?_; clear S; intro a S
   refine l_done ?_
   replace S := S.nk [] [(2, .int .i64 4)] [] rfl ⟨rfl, trivial⟩
   refine then_n ?_
   refine wp_ret ?_
   refine then_r ?_
   obtain rfl := Option.some.inj h
   exact f_ret S Tryz.results51 rfl rfl
  ·replace h := iteF h hb2
   refine wp_skip ?_
   refine then_n ?_
   refine f_seq ?_
   refine f_region ?_
   refine lv S (rn_assign rfl) rfl ?_; clear S; intro a S
   refine l_done ?_
   replace S := S.nk [] [(2, .int .i64 0)] [] rfl ⟨rfl, trivial⟩
   refine then_n ?_
   refine wp_ret ?_
   obtain rfl := Option.some.inj h
   exact f_ret S Tryz.results51 rfl rfl
theorem slices_Index_string_ok (w : World) (v_p_s : Value) (p_s : List ByteArray) (hs_p_s : Slc (view w []) 1 v_p_s (p_s.map eStr)) (p_v : ByteArray) (r : Int) (h : slices_Index_string p_s p_v = r) :
    Calls Tryz.prog 82 [v_p_s, .string p_v].toArray w (Ret w [] fun _ v _ => v = .int .i64 r) := by
 refine f_enter [] [] Tryz.func82 rfl Tryz.ntmps82 rfl (by simp) (by simp [fps]) (by simp [fps]) fun a S => ?_
 unfold slices_Index_string at h
 replace S := S.nk [] [(0, v_p_s), (1, .string p_v)] [] rfl ⟨rfl, rfl, trivial⟩
 refine f_seq ?_
 refine f_region ?_
 refine lv S (rn_assign rfl) rfl ?_; clear S; intro a S
 refine l_done ?_
 replace S := S.nk [] [(0, v_p_s), (1, .string p_v)] [] rfl ⟨rfl, rfl, trivial⟩
 refine then_n ?_
 refine f_seq ?_
 refine f_seq ?_
 refine f_region ?_
 refine lv S (rn_move (S.tm rfl)) rfl ?_; clear S; intro a S
 refine lv S (rn_lenT sl_49 (S.tm rfl) (slc_len hs_p_s)) rfl ?_; clear S; intro a S
 refine lv S (rn_move rfl) rfl ?_; clear S; intro a S
 refine l_done ?_
 replace S := S.nk [] [(0, v_p_s), (1, .string p_v), (7, .int .i64 (p_s.length : Int)), (8, .int .i64 0)] [] rfl ⟨rfl, rfl, rfl, rfl, trivial⟩
 refine then_n ?_
 obtain ⟨j1, hj1, h⟩ := joinE h
 refine f_join (fun a w' => j1 = r ∧ Sx w [] nov [] [] 19 a w') ?_ ?_
 ·refine wp_block ?_
  refine f_loop (fun (ys1 : List ByteArray) a w' => ∃ i1 : Nat, (∃ dn, p_s = dn ++ ys1 ∧ dn.length = i1) ∧ slices_Index_string_l1 p_v j1 ys1 i1 = r ∧ Sx w [] nov [] [(0, v_p_s), (1, .string p_v), (7, .int .i64 (p_s.length : Int)), (8, .int .i64 (i1 : Int))] 19 a w') List.length p_s ⟨0, ⟨[], rfl, rfl⟩, h, S.nf [] rfl ⟨rfl, rfl, rfl, rfl, trivial⟩⟩ ?_
  clear S h; rintro ys1 a w1 ⟨i1, ⟨dn, hd1, hi1⟩, h, S⟩
  cases ys1 with
  | nil =>
   rw [slices_Index_string_l1.eq_1] at h
   refine f_seq ?_
   refine f_region ?_
   refine lv S (rn_lss (S.tm rfl) (S.tm rfl)) rfl ?_; clear S; intro a S
   refine l_done ?_
   replace S := S.nk [] [(0, v_p_s), (1, .string p_v), (7, .int .i64 (p_s.length : Int)), (8, .int .i64 (i1 : Int)), (9, .bool (decide ((i1 : Int) < (p_s.length : Int))))] [] rfl ⟨rfl, rfl, rfl, rfl, rfl, trivial⟩
   refine then_n ?_
   refine f_seq ?_
   refine wp_cond_false ((S.tm rfl).trans (congrArg Value.bool (rng_nil hd1 hi1))) ?_
   refine wp_exit ?_
   refine then_x ?_
   refine then_x ?_
   refine x_same ?_
   refine then_n ?_
   exact ⟨h, S.nf [] rfl trivial⟩
  | cons y1 ys1 =>
   rw [slices_Index_string_l1.eq_2] at h
   refine f_seq ?_
   refine f_region ?_
   refine lv S (rn_lss (S.tm rfl) (S.tm rfl)) rfl ?_; clear S; intro a S
   refine l_done ?_
   replace S := S.nk [] [(0, v_p_s), (1, .string p_v), (7, .int .i64 (p_s.length : Int)), (8, .int .i64 (i1 : Int)), (9, .bool (decide ((i1 : Int) < (p_s.length : Int))))] [] rfl ⟨rfl, rfl, rfl, rfl, rfl, trivial⟩
   refine then_n ?_
   refine f_seq ?_
   refine wp_cond_true ((S.tm rfl).trans (congrArg Value.bool (rng_cons hd1 hi1))) ?_
   refine wp_skip ?_
   refine then_n ?_
   refine f_seq ?_
   refine wp_block ?_
   refine f_seq ?_
   refine f_region ?_
   refine lv S (rn_move (S.tm rfl)) rfl ?_; clear S; intro a S
   refine lv S (rn_assign (S.tm rfl)) rfl ?_; clear S; intro a S
   refine l_done ?_
   replace S := S.nk [] [(0, v_p_s), (1, .string p_v), (5, .int .i64 (i1 : Int)), (7, .int .i64 (p_s.length : Int)), (8, .int .i64 (i1 : Int))] [] rfl ⟨rfl, rfl, rfl, rfl, rfl, trivial⟩
   refine then_n ?_
   refine f_seq ?_
   refine f_region ?_
   refine lv S (rn_move (S.tm rfl)) rfl ?_; clear S; intro a S
   refine lv S (rn_move (S.tm rfl)) rfl ?_; clear S; intro a S
   refine lv S (rn_move (S.tm rfl)) rfl ?_; clear S; intro a S
   obtain ⟨b1, o1, hm1, hr1⟩ := rn_indexT (a := a) (x := .tmp 12) (y := .tmp 13) (ty := 0) sl_49 hs_p_s (get_mid hd1 hi1) rfl (S.tm rfl) (S.tm rfl)
   refine lv S (hr1 _) rfl ?_; clear S; intro a S
   clear hr1
   refine lv S (rn_ld Tryz.isAgg9 (off := o1) (o := 0) (S.tm rfl) (hm1.at S.emb0) rfl) rfl ?_; clear S; intro a S
   refine lv S (rn_seql (S.tm rfl) (S.tm rfl)) rfl ?_; clear S; intro a S
   refine l_done ?_
   replace S := S.nk [] [(0, v_p_s), (1, .string p_v), (5, .int .i64 (i1 : Int)), (7, .int .i64 (p_s.length : Int)), (8, .int .i64 (i1 : Int)), (16, .bool (decide (p_v = y1)))] [] rfl ⟨rfl, rfl, rfl, rfl, rfl, rfl, trivial⟩
   refine then_n ?_
   refine f_cond (S.tm rfl) (fun hb1 => ?_) (fun hb1 => ?_)
   ·replace h := iteT h hb1
    refine f_seq ?_
    refine f_region ?_
    refine lv S (rn_move (S.tm rfl)) rfl ?_; clear S; intro a S
    refine lv S (rn_assign (S.tm rfl)) rfl ?_; clear S; intro a S
    refine l_done ?_
    replace S := S.nk [] [(4, .int .i64 (i1 : Int))] [] rfl ⟨rfl, trivial⟩
    refine then_n ?_
    refine wp_ret ?_
    refine blk_r ?_
    refine then_r ?_
    refine then_r ?_
    refine blk_r ?_
    refine then_r ?_
    refine then_r ?_
    subst h
    exact f_ret S Tryz.results82 rfl rfl
   ·replace h := iteF h hb1
    refine wp_skip ?_
    refine blk_n ?_
    refine then_n ?_
    refine f_region ?_
    refine lv S (rn_add (S.tm rfl) rfl) rfl ?_; clear S; intro a S
    refine lv S (rn_move (S.tm rfl)) rfl ?_; clear S; intro a S
    refine l_done ?_
    replace S := S.nk [] [(0, v_p_s), (1, .string p_v), (7, .int .i64 (p_s.length : Int)), (8, .int .i64 (W ((i1 : Int) + 1)))] [] rfl ⟨rfl, rfl, rfl, rfl, trivial⟩
    refine then_n ?_
    exact ⟨ys1, ⟨i1 + 1, ⟨_, (hd1).trans (List.append_cons _ _ _), by simp [hi1]⟩, h, S.nf [] rfl ⟨rfl, rfl, rfl, (congrArg (fun z => some (Value.int .i64 z)) (rng_next hd1 hi1 (slc_max hs_p_s))), trivial⟩⟩, Nat.lt_succ_self _⟩
 clear S h; rintro a w2 ⟨h, S⟩; rw [hj1] at h; clear hj1 j1
 refine then_n ?_
 refine f_seq ?_
 refine f_region ?_
 refine lv S (rn_assign rfl) rfl ?_; clear S; intro a S
 refine l_done ?_
 replace S := S.nk [] [(4, .int .i64 (-1))] [] rfl ⟨rfl, trivial⟩
 refine then_n ?_
 refine wp_ret ?_
 subst h
 exact f_ret S Tryz.results82 rfl rfl
theorem slices_Contains_string_ok (w : World) (v_p_s : Value) (p_s : List ByteArray) (hs_p_s : Slc (view w []) 1 v_p_s (p_s.map eStr)) (p_v : ByteArray) (r : Bool) (h : slices_Contains_string p_s p_v = r) :
    Calls Tryz.prog 70 [v_p_s, .string p_v].toArray w (Ret w [] fun _ v _ => v = .bool r) := by
 refine f_enter [] [] Tryz.func70 rfl Tryz.ntmps70 rfl (by simp) (by simp [fps]) (by simp [fps]) fun a S => ?_
 unfold slices_Contains_string at h
 replace S := S.nk [] [(0, v_p_s), (1, .string p_v)] [] rfl ⟨rfl, rfl, trivial⟩
 refine f_seq ?_
 refine f_region ?_
 refine lv S (rn_assign rfl) rfl ?_; clear S; intro a S
 refine l_done ?_
 replace S := S.nk [] [(0, v_p_s), (1, .string p_v)] [] rfl ⟨rfl, rfl, trivial⟩
 refine then_n ?_
 refine f_seq ?_
 refine f_region ?_
 refine lv S (rn_move (S.tm rfl)) rfl ?_; clear S; intro a S
 refine lv S (rn_move (S.tm rfl)) rfl ?_; clear S; intro a S
 refine l_enter S (fun _ => run_call (vs := [v_p_s, .string p_v]) ⟨(S.tm rfl), (S.tm rfl), trivial⟩ Tryz.call82) (slices_Index_string_ok _ v_p_s p_s (hs_p_s.mono (S.le_arg nil_sub)) p_v _ rfl) rfl ?_; clear S; intro v1 a w1 hv1 hk1 hn1 S
 subst hv1
 refine lv S (rn_geq (S.tm rfl) rfl) rfl ?_; clear S; intro a S
 refine lv S (rn_assign (S.tm rfl)) rfl ?_; clear S; intro a S
 refine l_done ?_
 replace S := S.nk [] [(4, .bool (decide (0 ≤ (slices_Index_string p_s p_v))))] [] rfl ⟨rfl, trivial⟩
 refine then_n ?_
 refine wp_ret ?_
 subst h
 exact f_ret S Tryz.results70 rfl rfl
theorem record_isFor_ok (w : World) (p_k : GKind) (p_s : GStep) (r : Bool) (h : record_isFor p_k p_s = r) :
    Calls Tryz.prog 52 [.agg (GKind.enc p_k).toArray, .agg (GStep.enc p_s).toArray].toArray w (Ret w [] fun _ v _ => v = .bool r) := by
 refine f_enter [] [] Tryz.func52 rfl Tryz.ntmps52 rfl (by simp) (by simp [fps]) (by simp [fps]) fun a S => ?_
 unfold record_isFor at h
 replace S := S.nk [] [(0, .agg (GKind.enc p_k).toArray), (1, .agg (GStep.enc p_s).toArray)] [] rfl ⟨rfl, rfl, trivial⟩
 refine f_seq ?_
 refine f_region ?_
 refine l_box S (S.tm rfl) (cs := [.string p_k.Key, .string p_k.Race, .slice none 0 0, .int .i64 p_k.Young, .int .i64 p_k.Old]) rfl rfl ?_; clear S; intro a w1 b1 hz1 hk1 S
 refine l_box S (S.tm rfl) (cs := [.int .i64 p_s.At, .int .i64 p_s.Kind, .string p_s.Id, .string p_s.Who, .string p_s.Club, .string p_s.Race, .int .i64 p_s.Age, .int .i64 p_s.Time]) rfl rfl ?_; clear S; intro a w2 b2 hz2 hk2 S
 refine lv S (rn_assign rfl) rfl ?_; clear S; intro a S
 refine l_done ?_
 replace S := S.nk [.blk b2 [.int .i64 p_s.At, .int .i64 p_s.Kind, .string p_s.Id, .string p_s.Who, .string p_s.Club, .string p_s.Race, .int .i64 p_s.Age, .int .i64 p_s.Time] 82, .blk b1 [.string p_k.Key, .string p_k.Race, .slice none 0 0, .int .i64 p_k.Young, .int .i64 p_k.Old] 79] [(2, .pointer (some ⟨b1, 0, none⟩)), (3, .pointer (some ⟨b2, 0, none⟩))] [true, true] rfl ⟨rfl, rfl, trivial⟩
 refine then_n ?_
 refine f_seq ?_
 refine f_region ?_
 refine lv S (rn_fld fa_82_5 (S.tm rfl)) rfl ?_; clear S; intro a S
 refine lv S (rn_load Tryz.isAgg9 (S.tm rfl) (S.cell (i := 0) rfl rfl)) rfl ?_; clear S; intro a S
 refine lv S (rn_fld fa_79_1 (S.tm rfl)) rfl ?_; clear S; intro a S
 refine lv S (rn_load Tryz.isAgg9 (S.tm rfl) (S.cell (i := 1) rfl rfl)) rfl ?_; clear S; intro a S
 refine lv S (rn_seql (S.tm rfl) (S.tm rfl)) rfl ?_; clear S; intro a S
 refine lv S (rn_move (S.tm rfl)) rfl ?_; clear S; intro a S
 refine f_cutm 12 (fun a w' => Keep [] w2 w' ∧ Sx w [] nov [.blk b2 [.int .i64 p_s.At, .int .i64 p_s.Kind, .string p_s.Id, .string p_s.Who, .string p_s.Club, .string p_s.Race, .int .i64 p_s.Age, .int .i64 p_s.Time] 82, .blk b1 [.string p_k.Key, .string p_k.Race, .slice none 0 0, .int .i64 p_k.Young, .int .i64 p_k.Old] 79] [(2, .pointer (some ⟨b1, 0, none⟩)), (3, .pointer (some ⟨b2, 0, none⟩)), (22, .bool ((decide (p_s.Race = p_k.Race)) && ((decide ((([] : List ByteArray).length : Int) = 0)) || (slices_Contains_string ([] : List ByteArray) p_s.Club))))] 32 a w') ?_ ?_
 ·rcases Bool.eq_false_or_eq_true (decide (p_s.Race = p_k.Race)) with hb1 | hb1
  ·refine l_want S rfl rfl rfl hb1 ?_
   refine lv S (rn_fld fa_79_2 (S.tm rfl)) rfl ?_; clear S; intro a S
   refine l_want S rfl rfl rfl hb1 ?_
   refine lv S (rn_load Tryz.isAgg49 (S.tm rfl) (S.cell (i := 1) rfl rfl)) rfl ?_; clear S; intro a S
   refine l_want S rfl rfl rfl hb1 ?_
   refine lv S (rn_lenT sl_49 (S.tm rfl) (slc_len (slc_nilT (enc := eStr) (view w []) 1))) rfl ?_; clear S; intro a S
   refine l_want S rfl rfl rfl hb1 ?_
   refine lv S (rn_eql (S.tm rfl) rfl) rfl ?_; clear S; intro a S
   refine l_want S rfl rfl rfl hb1 ?_
   refine lv S (rn_move (S.tm rfl)) rfl ?_; clear S; intro a S
   refine f_cutm 6 (fun a w' => Keep [] w2 w' ∧ Sx w [] nov [.blk b2 [.int .i64 p_s.At, .int .i64 p_s.Kind, .string p_s.Id, .string p_s.Who, .string p_s.Club, .string p_s.Race, .int .i64 p_s.Age, .int .i64 p_s.Time] 82, .blk b1 [.string p_k.Key, .string p_k.Race, .slice none 0 0, .int .i64 p_k.Young, .int .i64 p_k.Old] 79] [(2, .pointer (some ⟨b1, 0, none⟩)), (3, .pointer (some ⟨b2, 0, none⟩)), (10, .bool (decide (p_s.Race = p_k.Race))), (21, .bool ((decide ((([] : List ByteArray).length : Int) = 0)) || (slices_Contains_string ([] : List ByteArray) p_s.Club)))] 32 a w') ?_ ?_
   ·rcases Bool.eq_false_or_eq_true (decide ((([] : List ByteArray).length : Int) = 0)) with hb2 | hb2
    ·refine l_skip S rfl rfl rfl (neq_t hb2) rfl ?_ rfl; clear S; intro a S
     refine l_skip S rfl rfl rfl (neq_t hb2) rfl ?_ rfl; clear S; intro a S
     refine l_skip S rfl rfl rfl (neq_t hb2) rfl ?_ rfl; clear S; intro a S
     refine l_skip S rfl rfl rfl (neq_t hb2) rfl ?_ rfl; clear S; intro a S
     refine l_skip S rfl rfl rfl (neq_t hb2) rfl ?_ rfl; clear S; intro a S
     refine l_want S rfl rfl rfl hb1 ?_
     refine lv S (rn_or_t (slices_Contains_string ([] : List ByteArray) p_s.Club) hb2 (S.tm rfl) rfl) rfl ?_; clear S; intro a S
     refine l_done ?_
     refine then_n ?_
     exact ⟨Keep.refl _ _, S.nf [true, true] rfl ⟨rfl, rfl, rfl, rfl, trivial⟩⟩
    ·refine l_want S rfl rfl rfl hb2 ?_
     refine lv S (rn_fld fa_79_2 (S.tm rfl)) rfl ?_; clear S; intro a S
     refine l_want S rfl rfl rfl hb2 ?_
     refine lv S (rn_load Tryz.isAgg49 (S.tm rfl) (S.cell (i := 1) rfl rfl)) rfl ?_; clear S; intro a S
     refine l_want S rfl rfl rfl hb2 ?_
     refine lv S (rn_fld fa_82_4 (S.tm rfl)) rfl ?_; clear S; intro a S
     refine l_want S rfl rfl rfl hb2 ?_
     refine lv S (rn_load Tryz.isAgg9 (S.tm rfl) (S.cell (i := 0) rfl rfl)) rfl ?_; clear S; intro a S
     refine l_want S rfl rfl rfl hb2 ?_
     refine l_enter S (fun _ => run_call (vs := [.slice none 0 0, .string p_s.Club]) ⟨(S.tm rfl), (S.tm rfl), trivial⟩ Tryz.call70) (slices_Contains_string_ok _ (.slice none 0 0) ([] : List ByteArray) ((slc_nilT (enc := eStr) (view w []) 1).mono (S.le_arg nil_sub)) p_s.Club _ rfl) rfl ?_; clear S; intro v1 a w5 hv1 hk3 hn1 S
     subst hv1
     refine l_want S rfl rfl rfl hb1 ?_
     refine lv S (rn_or_f hb2 (S.tm rfl) (S.tm rfl)) rfl ?_; clear S; intro a S
     refine l_done ?_
     refine then_n ?_
     exact ⟨hk3, S.nf [true, true] rfl ⟨rfl, rfl, rfl, rfl, trivial⟩⟩
   clear S; rintro a w4 ⟨hk4, S⟩
   refine lv S (rn_and_t hb1 (S.tm rfl) (S.tm rfl)) rfl ?_; clear S; intro a S
   refine l_done ?_
   refine then_n ?_
   exact ⟨hk4, S.nf [true, true] rfl ⟨rfl, rfl, rfl, trivial⟩⟩
  ·refine l_skip S rfl rfl rfl (neq_f hb1) rfl ?_ rfl; clear S; intro a S
   refine l_skip S rfl rfl rfl (neq_f hb1) rfl ?_ rfl; clear S; intro a S
   refine l_skip S rfl rfl rfl (neq_f hb1) rfl ?_ rfl; clear S; intro a S
   refine l_skip S rfl rfl rfl (neq_f hb1) rfl ?_ rfl; clear S; intro a S
   refine l_skip S rfl rfl rfl (neq_f hb1) rfl ?_ rfl; clear S; intro a S
   refine l_skipU S rfl rfl rfl rfl ?_; clear S; intro a S
   refine l_skipU S rfl rfl rfl rfl ?_; clear S; intro a S
   refine l_skipU S rfl rfl rfl rfl ?_; clear S; intro a S
   refine l_skipU S rfl rfl rfl rfl ?_; clear S; intro a S
   refine l_skipU S rfl rfl rfl rfl ?_; clear S; intro a S
   refine l_skip S rfl rfl rfl (neq_f hb1) rfl ?_ rfl; clear S; intro a S
   refine lv S (rn_and_f ((decide ((([] : List ByteArray).length : Int) = 0)) || (slices_Contains_string ([] : List ByteArray) p_s.Club)) hb1 (S.tm rfl) rfl) rfl ?_; clear S; intro a S
   refine l_done ?_
   refine then_n ?_
   exact ⟨Keep.refl _ _, S.nf [true, true] rfl ⟨rfl, rfl, rfl, trivial⟩⟩
 clear S; rintro a w3 ⟨hk5, S⟩
 refine lv S (rn_move (S.tm rfl)) rfl ?_; clear S; intro a S
 refine f_cutm 8 (fun a w' => Keep [] w3 w' ∧ Sx w [] nov [.blk b2 [.int .i64 p_s.At, .int .i64 p_s.Kind, .string p_s.Id, .string p_s.Who, .string p_s.Club, .string p_s.Race, .int .i64 p_s.Age, .int .i64 p_s.Time] 82, .blk b1 [.string p_k.Key, .string p_k.Race, .slice none 0 0, .int .i64 p_k.Young, .int .i64 p_k.Old] 79] [(31, .bool (((decide (p_s.Race = p_k.Race)) && ((decide ((([] : List ByteArray).length : Int) = 0)) || (slices_Contains_string ([] : List ByteArray) p_s.Club))) && (words_Within p_s.Age p_k.Young p_k.Old)))] 32 a w') ?_ ?_
 ·rcases Bool.eq_false_or_eq_true ((decide (p_s.Race = p_k.Race)) && ((decide ((([] : List ByteArray).length : Int) = 0)) || (slices_Contains_string ([] : List ByteArray) p_s.Club))) with hb3 | hb3
  ·refine l_want S rfl rfl rfl hb3 ?_
   refine lv S (rn_fld fa_82_6 (S.tm rfl)) rfl ?_; clear S; intro a S
   refine l_want S rfl rfl rfl hb3 ?_
   refine lv S (rn_load Tryz.isAgg3 (S.tm rfl) (S.cell (i := 0) rfl rfl)) rfl ?_; clear S; intro a S
   refine l_want S rfl rfl rfl hb3 ?_
   refine lv S (rn_fld fa_79_3 (S.tm rfl)) rfl ?_; clear S; intro a S
   refine l_want S rfl rfl rfl hb3 ?_
   refine lv S (rn_load Tryz.isAgg3 (S.tm rfl) (S.cell (i := 1) rfl rfl)) rfl ?_; clear S; intro a S
   refine l_want S rfl rfl rfl hb3 ?_
   refine lv S (rn_fld fa_79_4 (S.tm rfl)) rfl ?_; clear S; intro a S
   refine l_want S rfl rfl rfl hb3 ?_
   refine lv S (rn_load Tryz.isAgg3 (S.tm rfl) (S.cell (i := 1) rfl rfl)) rfl ?_; clear S; intro a S
   refine l_want S rfl rfl rfl hb3 ?_
   refine l_enter S (fun _ => run_call (vs := [.int .i64 p_s.Age, .int .i64 p_k.Young, .int .i64 p_k.Old]) ⟨(S.tm rfl), (S.tm rfl), (S.tm rfl), trivial⟩ Tryz.call40) (words_Within_ok _ p_s.Age p_k.Young p_k.Old _ rfl) rfl ?_; clear S; intro v2 a w7 hv2 hk6 hn2 S
   subst hv2
   refine lv S (rn_and_t hb3 (S.tm rfl) (S.tm rfl)) rfl ?_; clear S; intro a S
   refine l_done ?_
   refine then_n ?_
   exact ⟨hk6, S.nf [true, true] rfl ⟨rfl, trivial⟩⟩
  ·refine l_skip S rfl rfl rfl (neq_f hb3) rfl ?_ rfl; clear S; intro a S
   refine l_skip S rfl rfl rfl (neq_f hb3) rfl ?_ rfl; clear S; intro a S
   refine l_skip S rfl rfl rfl (neq_f hb3) rfl ?_ rfl; clear S; intro a S
   refine l_skip S rfl rfl rfl (neq_f hb3) rfl ?_ rfl; clear S; intro a S
   refine l_skip S rfl rfl rfl (neq_f hb3) rfl ?_ rfl; clear S; intro a S
   refine l_skip S rfl rfl rfl (neq_f hb3) rfl ?_ rfl; clear S; intro a S
   refine l_skip S rfl rfl rfl (neq_f hb3) rfl ?_ rfl; clear S; intro a S
   refine lv S (rn_and_f (words_Within p_s.Age p_k.Young p_k.Old) hb3 (S.tm rfl) rfl) rfl ?_; clear S; intro a S
   refine l_done ?_
   refine then_n ?_
   exact ⟨Keep.refl _ _, S.nf [true, true] rfl ⟨rfl, trivial⟩⟩
 clear S; rintro a w6 ⟨hk7, S⟩
 refine lv S (rn_assign (S.tm rfl)) rfl ?_; clear S; intro a S
 refine l_done ?_
 replace S := S.nk [] [(4, .bool (((decide (p_s.Race = p_k.Race)) && ((decide ((([] : List ByteArray).length : Int) = 0)) || (slices_Contains_string ([] : List ByteArray) p_s.Club))) && (words_Within p_s.Age p_k.Young p_k.Old)))] [false, false] rfl ⟨rfl, trivial⟩
 refine then_n ?_
 refine wp_ret ?_
 subst h
 exact f_ret S Tryz.results52 rfl rfl
theorem record_For_ok (w : World) (v_p_l : Value) (p_l : List GKind) (hs_p_l : Slc (view w []) 5 v_p_l (p_l.map GKind.enc)) (p_s : GStep) (r : (List ByteArray) × Int) (h : record_For p_l p_s = some r) :
    Calls Tryz.prog 29 [v_p_l, .agg (GStep.enc p_s).toArray].toArray w (Ret w [] fun τ v _ => ∃ u1 : Value, v = .tuple #[u1, .int .i64 r.2] ∧ OwnV τ 9 1 u1 r.1.length (r.1.flatMap eStr)) := by
 refine f_enter [] [] Tryz.func29 rfl Tryz.ntmps29 rfl (by simp) (by simp [fps]) (by simp [fps]) fun a S => ?_
 unfold record_For at h
 replace S := S.nk [] [(0, v_p_l), (1, .agg (GStep.enc p_s).toArray)] [] rfl ⟨rfl, rfl, trivial⟩
 refine f_seq ?_
 refine f_region ?_
 refine l_box S (S.tm rfl) (cs := [.int .i64 p_s.At, .int .i64 p_s.Kind, .string p_s.Id, .string p_s.Who, .string p_s.Club, .string p_s.Race, .int .i64 p_s.Age, .int .i64 p_s.Time]) rfl rfl ?_; clear S; intro a w1 b1 hz1 hk1 S
 refine lv S (rn_assign rfl) rfl ?_; clear S; intro a S
 refine lv S (rn_assign rfl) rfl ?_; clear S; intro a S
 refine l_done ?_
 replace S := S.nk [.blk b1 [.int .i64 p_s.At, .int .i64 p_s.Kind, .string p_s.Id, .string p_s.Who, .string p_s.Club, .string p_s.Race, .int .i64 p_s.Age, .int .i64 p_s.Time] 82] [(0, v_p_l), (3, .pointer (some ⟨b1, 0, none⟩))] [true] rfl ⟨rfl, rfl, trivial⟩
 refine then_n ?_
 refine f_seq ?_
 refine f_seq ?_
 refine f_region ?_
 refine lv S (rn_move (S.tm rfl)) rfl ?_; clear S; intro a S
 obtain ⟨r1, hr1, h⟩ := bindE h
 refine l_enter S (fun _ => run_call (vs := [v_p_l]) ⟨(S.tm rfl), trivial⟩ Tryz.call50) (record_CheckKinds_ok _ v_p_l p_l (hs_p_l.mono (S.le_arg nil_sub)) _ hr1) rfl ?_; clear S; intro v1 a w2 hv1 hk2 hn1 S
 subst hv1
 refine lv S (rn_assign (S.tm rfl)) rfl ?_; clear S; intro a S
 refine l_done ?_
 replace S := S.nk [.blk b1 [.int .i64 p_s.At, .int .i64 p_s.Kind, .string p_s.Id, .string p_s.Who, .string p_s.Club, .string p_s.Race, .int .i64 p_s.Age, .int .i64 p_s.Time] 82] [(0, v_p_l), (3, .pointer (some ⟨b1, 0, none⟩)), (6, .int .i64 r1)] [true] rfl ⟨rfl, rfl, rfl, trivial⟩
 refine then_n ?_
 refine f_seq ?_
 refine f_region ?_
 refine lv S (rn_move (S.tm rfl)) rfl ?_; clear S; intro a S
 refine lv S (rn_neq (S.tm rfl) rfl) rfl ?_; clear S; intro a S
 refine l_done ?_
 replace S := S.nk [.blk b1 [.int .i64 p_s.At, .int .i64 p_s.Kind, .string p_s.Id, .string p_s.Who, .string p_s.Club, .string p_s.Race, .int .i64 p_s.Age, .int .i64 p_s.Time] 82] [(0, v_p_l), (3, .pointer (some ⟨b1, 0, none⟩)), (6, .int .i64 r1), (14, .bool (!decide (r1 = 0)))] [true] rfl ⟨rfl, rfl, rfl, rfl, trivial⟩
 refine then_n ?_
 refine f_cond (S.tm rfl) (fun hb1 => ?_) (fun hb1 => ?_)
 ·replace h := iteT h hb1
  refine f_seq ?_
  refine f_region ?_
  refine lv S (rn_move (S.tm rfl)) rfl ?_; clear S; intro a S
  refine lv S (rn_assign rfl) rfl ?_; clear S; intro a S
  refine lv S (rn_assign (S.tm rfl)) rfl ?_; clear S; intro a S
  refine l_done ?_
  replace S := S.nk [] [(4, .slice none 0 0), (5, .int .i64 r1)] [false] rfl ⟨rfl, rfl, trivial⟩
  refine then_n ?_
  refine wp_ret ?_
  refine then_r ?_
  obtain rfl := Option.some.inj h
  exact f_ret2 S Tryz.results29 rfl rfl ⟨_, rfl, (ownV_nil _ _ _)⟩
 ·replace h := iteF h hb1
  refine wp_skip ?_
  refine then_n ?_
  refine f_seq ?_
  refine f_seq ?_
  refine f_region ?_
  refine lv S (rn_ldA Tryz.isAgg82 Tryz.sizeOf82 (off := 0) (o := 0) (part := [.int .i64 p_s.At, .int .i64 p_s.Kind, .string p_s.Id, .string p_s.Who, .string p_s.Club, .string p_s.Race, .int .i64 p_s.Age, .int .i64 p_s.Time]) rfl rfl (S.tm rfl) (S.cellsAt (i := 0) rfl)) rfl ?_; clear S; intro a S
  obtain ⟨r2, hr2, h⟩ := bindE h
  refine l_enter S (fun _ => run_call (vs := [.agg (GStep.enc p_s).toArray]) ⟨(S.tm rfl), trivial⟩ Tryz.call51) (record_checkSwum_ok _ p_s _ hr2) rfl ?_; clear S; intro v2 a w3 hv2 hk3 hn2 S
  subst hv2
  refine lv S (rn_assign (S.tm rfl)) rfl ?_; clear S; intro a S
  refine l_done ?_
  replace S := S.nk [.blk b1 [.int .i64 p_s.At, .int .i64 p_s.Kind, .string p_s.Id, .string p_s.Who, .string p_s.Club, .string p_s.Race, .int .i64 p_s.Age, .int .i64 p_s.Time] 82] [(0, v_p_l), (3, .pointer (some ⟨b1, 0, none⟩)), (7, .int .i64 r2)] [true] rfl ⟨rfl, rfl, rfl, trivial⟩
  refine then_n ?_
  refine f_seq ?_
  refine f_region ?_
  refine lv S (rn_move (S.tm rfl)) rfl ?_; clear S; intro a S
  refine lv S (rn_neq (S.tm rfl) rfl) rfl ?_; clear S; intro a S
  refine l_done ?_
  replace S := S.nk [.blk b1 [.int .i64 p_s.At, .int .i64 p_s.Kind, .string p_s.Id, .string p_s.Who, .string p_s.Club, .string p_s.Race, .int .i64 p_s.Age, .int .i64 p_s.Time] 82] [(0, v_p_l), (3, .pointer (some ⟨b1, 0, none⟩)), (7, .int .i64 r2), (19, .bool (!decide (r2 = 0)))] [true] rfl ⟨rfl, rfl, rfl, rfl, trivial⟩
  refine then_n ?_
  refine f_cond (S.tm rfl) (fun hb2 => ?_) (fun hb2 => ?_)
  ·replace h := iteT h hb2
   refine f_seq ?_
   refine f_region ?_
   refine lv S (rn_move (S.tm rfl)) rfl ?_; clear S; intro a S
   refine lv S (rn_assign rfl) rfl ?_; clear S; intro a S
   refine lv S (rn_assign (S.tm rfl)) rfl ?_; clear S; intro a S
   refine l_done ?_
   replace S := S.nk [] [(4, .slice none 0 0), (5, .int .i64 r2)] [false] rfl ⟨rfl, rfl, trivial⟩
   refine then_n ?_
   refine wp_ret ?_
   refine then_r ?_
   obtain rfl := Option.some.inj h
   exact f_ret2 S Tryz.results29 rfl rfl ⟨_, rfl, (ownV_nil _ _ _)⟩
  ·replace h := iteF h hb2
   refine wp_skip ?_
   refine then_n ?_
   refine f_seq ?_
   refine f_region ?_
   refine lv S (rn_assign rfl) rfl ?_; clear S; intro a S
   replace S := S.nil 9 1
   refine l_done ?_
   replace S := S.nk [.own (.slice none 0 0) 9 1 ([] : List ByteArray).length (([] : List ByteArray).flatMap eStr), .blk b1 [.int .i64 p_s.At, .int .i64 p_s.Kind, .string p_s.Id, .string p_s.Who, .string p_s.Club, .string p_s.Race, .int .i64 p_s.Age, .int .i64 p_s.Time] 82] [(0, v_p_l), (3, .pointer (some ⟨b1, 0, none⟩)), (8, (.slice none 0 0))] [true, true] rfl ⟨rfl, rfl, rfl, trivial⟩
   refine then_n ?_
   refine f_seq ?_
   refine f_seq ?_
   refine f_region ?_
   refine lv S (rn_move (S.tm rfl)) rfl ?_; clear S; intro a S
   refine lv S (rn_lenT sl_80 (S.tm rfl) (slc_len hs_p_l)) rfl ?_; clear S; intro a S
   refine lv S (rn_move rfl) rfl ?_; clear S; intro a S
   refine l_done ?_
   replace S := S.nk [.own (.slice none 0 0) 9 1 ([] : List ByteArray).length (([] : List ByteArray).flatMap eStr), .blk b1 [.int .i64 p_s.At, .int .i64 p_s.Kind, .string p_s.Id, .string p_s.Who, .string p_s.Club, .string p_s.Race, .int .i64 p_s.Age, .int .i64 p_s.Time] 82] [(3, .pointer (some ⟨b1, 0, none⟩)), (8, (.slice none 0 0)), (21, v_p_l), (22, .int .i64 (p_l.length : Int)), (23, .int .i64 0)] [true, true] rfl ⟨rfl, rfl, rfl, rfl, rfl, trivial⟩
   refine then_n ?_
   obtain ⟨j1, hj1, h⟩ := joinE h
   refine f_join (fun a w' => ∃ x1 : List ByteArray, ∃ v3 : Value, j1 x1 = some r ∧ Sx w [] nov [.own v3 9 1 x1.length (x1.flatMap eStr), .blk b1 [.int .i64 p_s.At, .int .i64 p_s.Kind, .string p_s.Id, .string p_s.Who, .string p_s.Club, .string p_s.Race, .int .i64 p_s.Age, .int .i64 p_s.Time] 82] [(8, v3)] 37 a w') ?_ ?_
   ·refine wp_block ?_
    refine f_loop (fun (ys1 : List GKind) a w' => ∃ i1 : Nat, ∃ x1 : List ByteArray, ∃ v3 : Value, (∃ dn, p_l = dn ++ ys1 ∧ dn.length = i1) ∧ record_For_l1 p_s j1 ys1 i1 x1 = some r ∧ Sx w [] nov [.own v3 9 1 x1.length (x1.flatMap eStr), .blk b1 [.int .i64 p_s.At, .int .i64 p_s.Kind, .string p_s.Id, .string p_s.Who, .string p_s.Club, .string p_s.Race, .int .i64 p_s.Age, .int .i64 p_s.Time] 82] [(3, .pointer (some ⟨b1, 0, none⟩)), (8, v3), (21, v_p_l), (22, .int .i64 (p_l.length : Int)), (23, .int .i64 (i1 : Int))] 37 a w') List.length p_l ⟨0, ([] : List ByteArray), (.slice none 0 0), ⟨[], rfl, rfl⟩, h, S.nf [true, true] rfl ⟨rfl, rfl, rfl, rfl, rfl, trivial⟩⟩ ?_
    clear S h; rintro ys1 a w4 ⟨i1, x1, v3, ⟨dn, hd1, hi1⟩, h, S⟩
    cases ys1 with
    | nil =>
     rw [record_For_l1.eq_1] at h
     refine f_seq ?_
     refine f_region ?_
     refine lv S (rn_lss (S.tm rfl) (S.tm rfl)) rfl ?_; clear S; intro a S
     refine l_done ?_
     replace S := S.nk [.own v3 9 1 x1.length (x1.flatMap eStr), .blk b1 [.int .i64 p_s.At, .int .i64 p_s.Kind, .string p_s.Id, .string p_s.Who, .string p_s.Club, .string p_s.Race, .int .i64 p_s.Age, .int .i64 p_s.Time] 82] [(3, .pointer (some ⟨b1, 0, none⟩)), (8, v3), (21, v_p_l), (22, .int .i64 (p_l.length : Int)), (23, .int .i64 (i1 : Int)), (24, .bool (decide ((i1 : Int) < (p_l.length : Int))))] [true, true] rfl ⟨rfl, rfl, rfl, rfl, rfl, rfl, trivial⟩
     refine then_n ?_
     refine f_seq ?_
     refine wp_cond_false ((S.tm rfl).trans (congrArg Value.bool (rng_nil hd1 hi1))) ?_
     refine wp_exit ?_
     refine then_x ?_
     refine then_x ?_
     refine x_same ?_
     refine then_n ?_
     exact ⟨x1, v3, h, S.nf [true, true] rfl ⟨rfl, trivial⟩⟩
    | cons y1 ys1 =>
     rw [record_For_l1.eq_2] at h
     refine f_seq ?_
     refine f_region ?_
     refine lv S (rn_lss (S.tm rfl) (S.tm rfl)) rfl ?_; clear S; intro a S
     refine l_done ?_
     replace S := S.nk [.own v3 9 1 x1.length (x1.flatMap eStr), .blk b1 [.int .i64 p_s.At, .int .i64 p_s.Kind, .string p_s.Id, .string p_s.Who, .string p_s.Club, .string p_s.Race, .int .i64 p_s.Age, .int .i64 p_s.Time] 82] [(3, .pointer (some ⟨b1, 0, none⟩)), (8, v3), (21, v_p_l), (22, .int .i64 (p_l.length : Int)), (23, .int .i64 (i1 : Int)), (24, .bool (decide ((i1 : Int) < (p_l.length : Int))))] [true, true] rfl ⟨rfl, rfl, rfl, rfl, rfl, rfl, trivial⟩
     refine then_n ?_
     refine f_seq ?_
     refine wp_cond_true ((S.tm rfl).trans (congrArg Value.bool (rng_cons hd1 hi1))) ?_
     refine wp_skip ?_
     refine then_n ?_
     refine f_seq ?_
     obtain ⟨j2, hj2, h⟩ := joinE h
     refine f_join (fun a w' => ∃ x2 : List ByteArray, ∃ v4 : Value, j2 x2 = some r ∧ Sx w [] nov [.own v4 9 1 x2.length (x2.flatMap eStr), .blk b1 [.int .i64 p_s.At, .int .i64 p_s.Kind, .string p_s.Id, .string p_s.Who, .string p_s.Club, .string p_s.Race, .int .i64 p_s.Age, .int .i64 p_s.Time] 82] [(3, .pointer (some ⟨b1, 0, none⟩)), (8, v4), (21, v_p_l), (22, .int .i64 (p_l.length : Int)), (23, .int .i64 (i1 : Int))] 37 a w') ?_ ?_
     ·refine wp_block ?_
      refine f_seq ?_
      refine f_region ?_
      obtain ⟨b2, o1, hm1, hr3⟩ := rn_indexT (a := a) (x := .tmp 21) (y := .tmp 23) (ty := 0) sl_80 hs_p_l (get_mid hd1 hi1) rfl (S.tm rfl) (S.tm rfl)
      refine lv S (hr3 _) rfl ?_; clear S; intro a S
      clear hr3
      refine lv S (rn_ldA Tryz.isAgg79 Tryz.sizeOf79 (off := o1) (o := 0) (part := [.string y1.Key, .string y1.Race, .slice none 0 0, .int .i64 y1.Young, .int .i64 y1.Old]) rfl rfl (S.tm rfl) (hm1.at S.emb0)) rfl ?_; clear S; intro a S
      refine l_alloc S Tryz.zeroValue79 (cs := [.string k_empty, .string k_empty, .slice none 0 0, .int .i64 0, .int .i64 0]) rfl rfl ?_; clear S; intro a w7 b3 hz2 hk4 S
      refine l_store S (S.tm rfl) (S.tm rfl) (i := 0) (off := 0) rfl Tryz.sizeOf79 (vs := [.string y1.Key, .string y1.Race, .slice none 0 0, .int .i64 y1.Young, .int .i64 y1.Old]) rfl rfl rfl (by simp [SlcLen.one (slc_len (slc_nilT (enc := eStr) (view w []) 1)), Value.oneCell']) ?_; clear S; intro w8 hk5 S
      refine l_done ?_
      replace S := S.nk [.blk b3 [.string y1.Key, .string y1.Race, .slice none 0 0, .int .i64 y1.Young, .int .i64 y1.Old] 79, .own v3 9 1 x1.length (x1.flatMap eStr), .blk b1 [.int .i64 p_s.At, .int .i64 p_s.Kind, .string p_s.Id, .string p_s.Who, .string p_s.Club, .string p_s.Race, .int .i64 p_s.Age, .int .i64 p_s.Time] 82] [(3, .pointer (some ⟨b1, 0, none⟩)), (8, v3), (10, .pointer (some ⟨b3, 0, none⟩)), (21, v_p_l), (22, .int .i64 (p_l.length : Int)), (23, .int .i64 (i1 : Int))] [true, true, true] rfl ⟨rfl, rfl, rfl, rfl, rfl, rfl, trivial⟩
      refine then_n ?_
      refine f_seq ?_
      refine f_region ?_
      refine lv S (rn_ldA Tryz.isAgg79 Tryz.sizeOf79 (off := 0) (o := 0) (part := [.string y1.Key, .string y1.Race, .slice none 0 0, .int .i64 y1.Young, .int .i64 y1.Old]) rfl rfl (S.tm rfl) (S.cellsAt (i := 0) rfl)) rfl ?_; clear S; intro a S
      refine lv S (rn_ldA Tryz.isAgg82 Tryz.sizeOf82 (off := 0) (o := 0) (part := [.int .i64 p_s.At, .int .i64 p_s.Kind, .string p_s.Id, .string p_s.Who, .string p_s.Club, .string p_s.Race, .int .i64 p_s.Age, .int .i64 p_s.Time]) rfl rfl (S.tm rfl) (S.cellsAt (i := 2) rfl)) rfl ?_; clear S; intro a S
      refine l_enter S (fun _ => run_call (vs := [.agg (GKind.enc y1).toArray, .agg (GStep.enc p_s).toArray]) ⟨(S.tm rfl), (S.tm rfl), trivial⟩ Tryz.call52) (record_isFor_ok _ y1 p_s _ rfl) rfl ?_; clear S; intro v5 a w9 hv3 hk6 hn3 S
      subst hv3
      refine l_done ?_
      replace S := S.nk [.blk b3 [.string y1.Key, .string y1.Race, .slice none 0 0, .int .i64 y1.Young, .int .i64 y1.Old] 79, .own v3 9 1 x1.length (x1.flatMap eStr), .blk b1 [.int .i64 p_s.At, .int .i64 p_s.Kind, .string p_s.Id, .string p_s.Who, .string p_s.Club, .string p_s.Race, .int .i64 p_s.Age, .int .i64 p_s.Time] 82] [(3, .pointer (some ⟨b1, 0, none⟩)), (8, v3), (10, .pointer (some ⟨b3, 0, none⟩)), (21, v_p_l), (22, .int .i64 (p_l.length : Int)), (23, .int .i64 (i1 : Int)), (29, .bool (record_isFor y1 p_s))] [true, true, true] rfl ⟨rfl, rfl, rfl, rfl, rfl, rfl, rfl, trivial⟩
      refine then_n ?_
      obtain ⟨j3, hj3, h⟩ := joinE h
      refine f_join (fun a w' => ∃ x3 : List ByteArray, ∃ v6 : Value, j3 x3 = some r ∧ Sx w [] nov [.own v6 9 1 x3.length (x3.flatMap eStr), .blk b1 [.int .i64 p_s.At, .int .i64 p_s.Kind, .string p_s.Id, .string p_s.Who, .string p_s.Club, .string p_s.Race, .int .i64 p_s.Age, .int .i64 p_s.Time] 82] [(3, .pointer (some ⟨b1, 0, none⟩)), (8, v6), (21, v_p_l), (22, .int .i64 (p_l.length : Int)), (23, .int .i64 (i1 : Int))] 37 a w') ?_ ?_
      ·refine f_cond (S.tm rfl) (fun hb3 => ?_) (fun hb3 => ?_)
       ·replace h := iteT h hb3
        refine f_region ?_
        refine lv S (rn_move (S.tm rfl)) rfl ?_; clear S; intro a S
        refine lv S (rn_fld fa_79_0 (S.tm rfl)) rfl ?_; clear S; intro a S
        refine lv S (rn_load Tryz.isAgg9 (S.tm rfl) (S.cell (i := 0) rfl rfl)) rfl ?_; clear S; intro a S
        refine l_buildSlice S Tryz.underlying49 Tryz.sizeOf9 Tryz.zeroValue9 rfl rfl (pv := [(0, .string y1.Key)]) ⟨rfl, (S.tm rfl), trivial⟩ (cs := [.string y1.Key]) (by kernel_rfl) rfl ?_; clear S; intro a w11 b4 hz3 hk7 S
        obtain ⟨hc1, h⟩ := chkE h
        refine l_appendT sl_49 enc_str S (S.tm rfl) (i := 2) rfl (S.tm rfl) (j := 0) rfl (ys := [y1.Key]) rfl rfl rfl rfl (by have := room_lt hc1; omega) rfl ?_; clear S; intro v7 a w12 hk8 S
        refine lv S (rn_assign (S.tm rfl)) rfl ?_; clear S; intro a S
        refine l_done ?_
        replace S := S.nk [.own v7 9 1 (x1 ++ [y1.Key]).length ((x1 ++ [y1.Key]).flatMap eStr), .blk b1 [.int .i64 p_s.At, .int .i64 p_s.Kind, .string p_s.Id, .string p_s.Who, .string p_s.Club, .string p_s.Race, .int .i64 p_s.Age, .int .i64 p_s.Time] 82] [(3, .pointer (some ⟨b1, 0, none⟩)), (8, v7), (21, v_p_l), (22, .int .i64 (p_l.length : Int)), (23, .int .i64 (i1 : Int))] [false, false, true, true] rfl ⟨rfl, rfl, rfl, rfl, rfl, trivial⟩
        refine then_n ?_
        exact ⟨(x1 ++ [y1.Key]), v7, h, S.nf [true, true] rfl ⟨rfl, rfl, rfl, rfl, rfl, trivial⟩⟩
       ·replace h := iteF h hb3
        refine wp_skip ?_
        refine then_n ?_
        exact ⟨x1, v3, h, S.nf [false, true, true] rfl ⟨rfl, rfl, rfl, rfl, rfl, trivial⟩⟩
      clear S h; rintro a w10 ⟨x3, v6, h, S⟩; rw [hj3] at h; clear hj3 j3
      refine blk_n ?_
      refine then_n ?_
      exact ⟨x3, v6, h, S.nf [true, true] rfl ⟨rfl, rfl, rfl, rfl, rfl, trivial⟩⟩
     clear S h; rintro a w6 ⟨x2, v4, h, S⟩; rw [hj2] at h; clear hj2 j2
     refine then_n ?_
     refine f_region ?_
     refine lv S (rn_add (S.tm rfl) rfl) rfl ?_; clear S; intro a S
     refine lv S (rn_move (S.tm rfl)) rfl ?_; clear S; intro a S
     refine l_done ?_
     replace S := S.nk [.own v4 9 1 x2.length (x2.flatMap eStr), .blk b1 [.int .i64 p_s.At, .int .i64 p_s.Kind, .string p_s.Id, .string p_s.Who, .string p_s.Club, .string p_s.Race, .int .i64 p_s.Age, .int .i64 p_s.Time] 82] [(3, .pointer (some ⟨b1, 0, none⟩)), (8, v4), (21, v_p_l), (22, .int .i64 (p_l.length : Int)), (23, .int .i64 (W ((i1 : Int) + 1)))] [true, true] rfl ⟨rfl, rfl, rfl, rfl, rfl, trivial⟩
     refine then_n ?_
     exact ⟨ys1, ⟨i1 + 1, x2, v4, ⟨_, (hd1).trans (List.append_cons _ _ _), by simp [hi1]⟩, h, S.nf [true, true] rfl ⟨rfl, rfl, rfl, rfl, (congrArg (fun z => some (Value.int .i64 z)) (rng_next hd1 hi1 (slc_max hs_p_l))), trivial⟩⟩, Nat.lt_succ_self _⟩
   clear S h; rintro a w5 ⟨x1, v3, h, S⟩; rw [hj1] at h; clear hj1 j1
   refine then_n ?_
   refine f_seq ?_
   refine f_region ?_
   refine lv S (rn_move (S.tm rfl)) rfl ?_; clear S; intro a S
   refine lv S (rn_assign (S.tm rfl)) rfl ?_; clear S; intro a S
   refine lv S (rn_assign rfl) rfl ?_; clear S; intro a S
   refine l_done ?_
   replace S := S.nk [.own v3 9 1 x1.length (x1.flatMap eStr)] [(4, v3), (5, .int .i64 0)] [true, false] rfl ⟨rfl, rfl, trivial⟩
   refine then_n ?_
   refine wp_ret ?_
   obtain rfl := Option.some.inj h
   exact f_ret2 S Tryz.results29 rfl rfl ⟨_, rfl, (own_retT S (i := 0) rfl rfl)⟩
theorem tumbkeep2_errs_ok (w : World) (v_p_l : Value) (p_l : List Int) (hs_p_l : Slc (view w []) 1 v_p_l (p_l.map eInt)) (r : Int) (h : tumbkeep2_errs p_l = r) :
    Calls Tryz.prog 15 [v_p_l].toArray w (Ret w [] fun _ v _ => v = .int .i64 r) := by
 refine f_enter [] [] Tryz.func15 rfl Tryz.ntmps15 rfl (by simp) (by simp [fps]) (by simp [fps]) fun a S => ?_
 unfold tumbkeep2_errs at h
 replace S := S.nk [] [(0, v_p_l)] [] rfl ⟨rfl, trivial⟩
 refine f_seq ?_
 refine f_region ?_
 refine lv S (rn_assign rfl) rfl ?_; clear S; intro a S
 refine l_done ?_
 replace S := S.nk [] [(0, v_p_l)] [] rfl ⟨rfl, trivial⟩
 refine then_n ?_
 refine f_seq ?_
 refine f_seq ?_
 refine f_region ?_
 refine lv S (rn_move (S.tm rfl)) rfl ?_; clear S; intro a S
 refine lv S (rn_lenT sl_95 (S.tm rfl) (slc_len hs_p_l)) rfl ?_; clear S; intro a S
 refine lv S (rn_move rfl) rfl ?_; clear S; intro a S
 refine l_done ?_
 replace S := S.nk [] [(5, v_p_l), (6, .int .i64 (p_l.length : Int)), (7, .int .i64 0)] [] rfl ⟨rfl, rfl, rfl, trivial⟩
 refine then_n ?_
 obtain ⟨j1, hj1, h⟩ := joinE h
 refine f_join (fun a w' => j1 = r ∧ Sx w [] nov [] [] 15 a w') ?_ ?_
 ·refine wp_block ?_
  refine f_loop (fun (ys1 : List Int) a w' => ∃ i1 : Nat, (∃ dn, p_l = dn ++ ys1 ∧ dn.length = i1) ∧ tumbkeep2_errs_l1 j1 ys1 i1 = r ∧ Sx w [] nov [] [(5, v_p_l), (6, .int .i64 (p_l.length : Int)), (7, .int .i64 (i1 : Int))] 15 a w') List.length p_l ⟨0, ⟨[], rfl, rfl⟩, h, S.nf [] rfl ⟨rfl, rfl, rfl, trivial⟩⟩ ?_
  clear S h; rintro ys1 a w1 ⟨i1, ⟨dn, hd1, hi1⟩, h, S⟩
  cases ys1 with
  | nil =>
   rw [tumbkeep2_errs_l1.eq_1] at h
   refine f_seq ?_
   refine f_region ?_
   refine lv S (rn_lss (S.tm rfl) (S.tm rfl)) rfl ?_; clear S; intro a S
   refine l_done ?_
   replace S := S.nk [] [(5, v_p_l), (6, .int .i64 (p_l.length : Int)), (7, .int .i64 (i1 : Int)), (8, .bool (decide ((i1 : Int) < (p_l.length : Int))))] [] rfl ⟨rfl, rfl, rfl, rfl, trivial⟩
   refine then_n ?_
   refine f_seq ?_
   refine wp_cond_false ((S.tm rfl).trans (congrArg Value.bool (rng_nil hd1 hi1))) ?_
   refine wp_exit ?_
   refine then_x ?_
   refine then_x ?_
   refine x_same ?_
   refine then_n ?_
   exact ⟨h, S.nf [] rfl trivial⟩
  | cons y1 ys1 =>
   rw [tumbkeep2_errs_l1.eq_2] at h
   refine f_seq ?_
   refine f_region ?_
   refine lv S (rn_lss (S.tm rfl) (S.tm rfl)) rfl ?_; clear S; intro a S
   refine l_done ?_
   replace S := S.nk [] [(5, v_p_l), (6, .int .i64 (p_l.length : Int)), (7, .int .i64 (i1 : Int)), (8, .bool (decide ((i1 : Int) < (p_l.length : Int))))] [] rfl ⟨rfl, rfl, rfl, rfl, trivial⟩
   refine then_n ?_
   refine f_seq ?_
   refine wp_cond_true ((S.tm rfl).trans (congrArg Value.bool (rng_cons hd1 hi1))) ?_
   refine wp_skip ?_
   refine then_n ?_
   refine f_seq ?_
   refine wp_block ?_
   refine f_seq ?_
   refine f_region ?_
   obtain ⟨b1, o1, hm1, hr1⟩ := rn_indexT (a := a) (x := .tmp 5) (y := .tmp 7) (ty := 0) sl_95 hs_p_l (get_mid hd1 hi1) rfl (S.tm rfl) (S.tm rfl)
   refine lv S (hr1 _) rfl ?_; clear S; intro a S
   clear hr1
   refine lv S (rn_ld Tryz.isAgg38 (off := o1) (o := 0) (S.tm rfl) (hm1.at S.emb0) rfl) rfl ?_; clear S; intro a S
   refine lv S (rn_assign (S.tm rfl)) rfl ?_; clear S; intro a S
   refine l_done ?_
   replace S := S.nk [] [(4, .int .i64 y1), (5, v_p_l), (6, .int .i64 (p_l.length : Int)), (7, .int .i64 (i1 : Int))] [] rfl ⟨rfl, rfl, rfl, rfl, trivial⟩
   refine then_n ?_
   refine f_seq ?_
   refine f_region ?_
   refine lv S (rn_move (S.tm rfl)) rfl ?_; clear S; intro a S
   refine lv S (rn_neq (S.tm rfl) rfl) rfl ?_; clear S; intro a S
   refine l_done ?_
   replace S := S.nk [] [(4, .int .i64 y1), (5, v_p_l), (6, .int .i64 (p_l.length : Int)), (7, .int .i64 (i1 : Int)), (12, .bool (!decide (y1 = 0)))] [] rfl ⟨rfl, rfl, rfl, rfl, rfl, trivial⟩
   refine then_n ?_
   refine f_cond (S.tm rfl) (fun hb1 => ?_) (fun hb1 => ?_)
   ·replace h := iteT h hb1
    refine f_seq ?_
    refine f_region ?_
    refine lv S (rn_move (S.tm rfl)) rfl ?_; clear S; intro a S
    refine lv S (rn_assign (S.tm rfl)) rfl ?_; clear S; intro a S
    refine l_done ?_
    replace S := S.nk [] [(2, .int .i64 y1)] [] rfl ⟨rfl, trivial⟩
    refine then_n ?_
    refine wp_ret ?_
    refine blk_r ?_
    refine then_r ?_
    refine then_r ?_
    refine blk_r ?_
    refine then_r ?_
    refine then_r ?_
    subst h
    exact f_ret S Tryz.results15 rfl rfl
   ·replace h := iteF h hb1
    refine wp_skip ?_
    refine blk_n ?_
    refine then_n ?_
    refine f_region ?_
    refine lv S (rn_add (S.tm rfl) rfl) rfl ?_; clear S; intro a S
    refine lv S (rn_move (S.tm rfl)) rfl ?_; clear S; intro a S
    refine l_done ?_
    replace S := S.nk [] [(5, v_p_l), (6, .int .i64 (p_l.length : Int)), (7, .int .i64 (W ((i1 : Int) + 1)))] [] rfl ⟨rfl, rfl, rfl, trivial⟩
    refine then_n ?_
    exact ⟨ys1, ⟨i1 + 1, ⟨_, (hd1).trans (List.append_cons _ _ _), by simp [hi1]⟩, h, S.nf [] rfl ⟨rfl, rfl, (congrArg (fun z => some (Value.int .i64 z)) (rng_next hd1 hi1 (slc_max hs_p_l))), trivial⟩⟩, Nat.lt_succ_self _⟩
 clear S h; rintro a w2 ⟨h, S⟩; rw [hj1] at h; clear hj1 j1
 refine then_n ?_
 refine f_seq ?_
 refine f_region ?_
 refine lv S (rn_assign rfl) rfl ?_; clear S; intro a S
 refine l_done ?_
 replace S := S.nk [] [(2, .int .i64 0)] [] rfl ⟨rfl, trivial⟩
 refine then_n ?_
 refine wp_ret ?_
 subst h
 exact f_ret S Tryz.results15 rfl rfl
theorem tumbkeep2_ready_ok (w : World) (r : Bool) (h : tumbkeep2_ready = some r) :
    Calls Tryz.prog 12 [].toArray w (Ret w [] fun _ v _ => v = .bool r) := by
 refine f_enter [] [] Tryz.func12 rfl Tryz.ntmps12 rfl (by simp) (by simp [fps]) (by simp [fps]) fun a S => ?_
 unfold tumbkeep2_ready at h
 replace S := S.nk [] [] [] rfl trivial
 refine f_seq ?_
 refine f_region ?_
 refine lv S (rn_assign rfl) rfl ?_; clear S; intro a S
 refine l_done ?_
 replace S := S.nk [] [] [] rfl trivial
 refine then_n ?_
 refine f_seq ?_
 refine f_region ?_
 refine lv S (rn_bld bt_67 (pv := [(0, .int .i64 2024), (1, .int .i64 3), (2, .int .i64 1)]) ⟨rfl, rfl, rfl, rfl, rfl, rfl, trivial⟩ (cs := [.int .i64 2024, .int .i64 3, .int .i64 1]) (by kernel_rfl)) rfl ?_; clear S; intro a S
 obtain ⟨r1, hr1, h⟩ := bindE h
 refine l_enter S (fun _ => run_call (vs := [.agg (GDate.enc (GDate.mk 2024 3 1)).toArray]) ⟨(S.tm rfl), trivial⟩ Tryz.call26) (swimmer_DayOf_ok _ (GDate.mk 2024 3 1) _ hr1) rfl ?_; clear S; intro v1 a w1 hv1 hk1 hn1 S
 subst hv1
 refine lv S (rn_move (S.tm rfl)) rfl ?_; clear S; intro a S
 refine lv S (rn_extract (S.tm rfl) rfl) rfl ?_; clear S; intro a S
 refine lv S (rn_extract (S.tm rfl) rfl) rfl ?_; clear S; intro a S
 refine lv S (rn_assign (S.tm rfl)) rfl ?_; clear S; intro a S
 refine lv S (rn_assign (S.tm rfl)) rfl ?_; clear S; intro a S
 refine l_done ?_
 replace S := S.nk [] [(1, .int .i64 r1.1), (2, .int .i64 r1.2)] [] rfl ⟨rfl, rfl, trivial⟩
 refine then_n ?_
 refine f_seq ?_
 refine f_region ?_
 refine lv S (rn_bld bt_70 (pv := [(0, .string k_a), (1, .int .i64 2), (2, .int .i64 10), (3, .int .i64 5)]) ⟨rfl, rfl, rfl, rfl, rfl, rfl, rfl, rfl, trivial⟩ (cs := [.string k_a, .int .i64 2, .int .i64 10, .int .i64 5, .int .i64 0]) (by kernel_rfl)) rfl ?_; clear S; intro a S
 refine l_buildSlice S Tryz.underlying71 Tryz.sizeOf70 Tryz.zeroValue70 rfl rfl (pv := [(0, .agg #[.string k_a, .int .i64 2, .int .i64 10, .int .i64 5, .int .i64 0])]) ⟨rfl, (S.tm rfl), trivial⟩ (cs := [.string k_a, .int .i64 2, .int .i64 10, .int .i64 5, .int .i64 0]) (by kernel_rfl) rfl ?_; clear S; intro a w2 b1 hz1 hk2 S
 obtain ⟨r2, hr2, h⟩ := bindE h
 refine l_enter S (fun _ => run_call (vs := [.slice (some ⟨b1, 0, none⟩) 1 1, .int .i64 0]) ⟨(S.tm rfl), rfl, trivial⟩ Tryz.call27) (session_Ends_ok _ (.slice (some ⟨b1, 0, none⟩) 1 1) [(GItem.mk k_a 2 10 5 0)] (lit_slcT GItem.enc_ok S (i := 0) rfl rfl rfl rfl ((ne_nil (e' := .blk b1 [.string k_a, .int .i64 2, .int .i64 10, .int .i64 5, .int .i64 0] 70)) _ rfl)) 0 _ hr2) rfl ?_; clear S; intro v2 a w3 hv2 hk3 hn2 S
 subst hv2
 refine lv S (rn_move (S.tm rfl)) rfl ?_; clear S; intro a S
 refine lv S (rn_extract (S.tm rfl) rfl) rfl ?_; clear S; intro a S
 refine lv S (rn_extract (S.tm rfl) rfl) rfl ?_; clear S; intro a S
 refine lv S (rn_assign (S.tm rfl)) rfl ?_; clear S; intro a S
 refine lv S (rn_assign (S.tm rfl)) rfl ?_; clear S; intro a S
 refine l_done ?_
 replace S := S.nk [] [(1, .int .i64 r1.1), (2, .int .i64 r1.2), (3, .int .i64 r2.1), (4, .int .i64 r2.2)] [false] rfl ⟨rfl, rfl, rfl, rfl, trivial⟩
 refine then_n ?_
 refine f_seq ?_
 refine f_region ?_
 refine lv S (rn_bld bt_74 (pv := [(0, .string k_r), (1, .int .i64 3000)]) ⟨rfl, rfl, rfl, rfl, trivial⟩ (cs := [.string k_r, .int .i64 3000]) (by kernel_rfl)) rfl ?_; clear S; intro a S
 refine l_buildSlice S Tryz.underlying75 Tryz.sizeOf74 Tryz.zeroValue74 rfl rfl (pv := [(0, .agg #[.string k_r, .int .i64 3000])]) ⟨rfl, (S.tm rfl), trivial⟩ (cs := [.string k_r, .int .i64 3000]) (by kernel_rfl) rfl ?_; clear S; intro a w4 b2 hz2 hk4 S
 obtain ⟨r3, hr3, h⟩ := bindE h
 refine l_enter S (fun _ => run_call (vs := [.slice (some ⟨b2, 0, none⟩) 1 1, .string k_r, .int .i64 6000]) ⟨(S.tm rfl), rfl, rfl, trivial⟩ Tryz.call28) (points_ByTime_ok _ (.slice (some ⟨b2, 0, none⟩) 1 1) [(GBase.mk k_r 3000)] (lit_slcT GBase.enc_ok S (i := 0) rfl rfl rfl rfl ((ne_nil (e' := .blk b2 [.string k_r, .int .i64 3000] 74)) _ rfl)) k_r 6000 _ hr3) rfl ?_; clear S; intro v3 a w5 hv3 hk5 hn3 S
 subst hv3
 refine lv S (rn_move (S.tm rfl)) rfl ?_; clear S; intro a S
 refine lv S (rn_extract (S.tm rfl) rfl) rfl ?_; clear S; intro a S
 refine lv S (rn_extract (S.tm rfl) rfl) rfl ?_; clear S; intro a S
 refine lv S (rn_assign (S.tm rfl)) rfl ?_; clear S; intro a S
 refine lv S (rn_assign (S.tm rfl)) rfl ?_; clear S; intro a S
 refine l_done ?_
 replace S := S.nk [] [(1, .int .i64 r1.1), (2, .int .i64 r1.2), (3, .int .i64 r2.1), (4, .int .i64 r2.2), (5, .int .i64 r3.1), (6, .int .i64 r3.2)] [false] rfl ⟨rfl, rfl, rfl, rfl, rfl, rfl, trivial⟩
 refine then_n ?_
 refine f_seq ?_
 refine f_region ?_
 refine lv S (rn_bld bt_79 (pv := [(0, .string k_k), (1, .string k_r), (4, .int .i64 9)]) ⟨rfl, rfl, rfl, rfl, rfl, rfl, trivial⟩ (cs := [.string k_k, .string k_r, .slice none 0 0, .int .i64 0, .int .i64 9]) (by kernel_rfl)) rfl ?_; clear S; intro a S
 refine l_buildSlice S Tryz.underlying80 Tryz.sizeOf79 Tryz.zeroValue79 rfl rfl (pv := [(0, .agg #[.string k_k, .string k_r, .slice none 0 0, .int .i64 0, .int .i64 9])]) ⟨rfl, (S.tm rfl), trivial⟩ (cs := [.string k_k, .string k_r, .slice none 0 0, .int .i64 0, .int .i64 9]) (by kernel_rfl) rfl ?_; clear S; intro a w6 b3 hz3 hk6 S
 refine lv S (rn_bld bt_82 (pv := [(1, .int .i64 1), (2, .string k_i), (3, .string k_a), (5, .string k_r), (7, .int .i64 5)]) ⟨rfl, rfl, rfl, rfl, rfl, rfl, rfl, rfl, rfl, rfl, trivial⟩ (cs := [.int .i64 0, .int .i64 1, .string k_i, .string k_a, .string k_empty, .string k_r, .int .i64 0, .int .i64 5]) (by kernel_rfl)) rfl ?_; clear S; intro a S
 obtain ⟨r4, hr4, h⟩ := bindE h
 have hz4 := S.keep.size
 refine l_enter S (fun _ => run_call (vs := [.slice (some ⟨b3, 0, none⟩) 1 1, .agg (GStep.enc (GStep.mk 0 1 k_i k_a k_empty k_r 0 5)).toArray]) ⟨(S.tm rfl), (S.tm rfl), trivial⟩ Tryz.call29) (record_For_ok _ (.slice (some ⟨b3, 0, none⟩) 1 1) [(GKind.mk k_k k_r () 0 9)] (lit_slcT GKind.enc_ok S (i := 0) rfl rfl rfl rfl ((ne_nil (e' := .blk b3 [.string k_k, .string k_r, .slice none 0 0, .int .i64 0, .int .i64 9] 79)) _ rfl)) (GStep.mk 0 1 k_i k_a k_empty k_r 0 5) _ hr4) rfl ?_; clear S; intro v4 a w7 hv4 hk7 hn4 S
 obtain ⟨u1, rfl, ho1⟩ := hv4
 obtain ⟨φ1, hl1, hm1, S⟩ := S.see' hn4 hz4
 have hs1 := ho1.mono hm1
 refine lv S (rn_move (S.tm rfl)) rfl ?_; clear S; intro a S
 refine lv S (rn_extract (S.tm rfl) rfl) rfl ?_; clear S; intro a S
 refine lv S (rn_extract (S.tm rfl) rfl) rfl ?_; clear S; intro a S
 refine lv S (rn_assign (S.tm rfl)) rfl ?_; clear S; intro a S
 refine lv S (rn_assign (S.tm rfl)) rfl ?_; clear S; intro a S
 refine l_done ?_
 replace S := S.nk [] [(1, .int .i64 r1.1), (2, .int .i64 r1.2), (3, .int .i64 r2.1), (4, .int .i64 r2.2), (5, .int .i64 r3.1), (6, .int .i64 r3.2), (7, u1), (8, .int .i64 r4.2)] [false] rfl ⟨rfl, rfl, rfl, rfl, rfl, rfl, rfl, rfl, trivial⟩
 refine then_n ?_
 refine f_seq ?_
 refine f_region ?_
 refine lv S (rn_move (S.tm rfl)) rfl ?_; clear S; intro a S
 refine lv S (rn_move (S.tm rfl)) rfl ?_; clear S; intro a S
 refine lv S (rn_move (S.tm rfl)) rfl ?_; clear S; intro a S
 refine lv S (rn_move (S.tm rfl)) rfl ?_; clear S; intro a S
 refine l_buildSlice S Tryz.underlying95 Tryz.sizeOf38 Tryz.zeroValue38 rfl rfl (pv := [(0, .int .i64 r1.2), (1, .int .i64 r2.2), (2, .int .i64 r3.2), (3, .int .i64 r4.2)]) ⟨rfl, (S.tm rfl), rfl, (S.tm rfl), rfl, (S.tm rfl), rfl, (S.tm rfl), trivial⟩ (cs := [.int .i64 r1.2, .int .i64 r2.2, .int .i64 r3.2, .int .i64 r4.2]) (by kernel_rfl) rfl ?_; clear S; intro a w8 b4 hz5 hk8 S
 refine l_enter S (fun _ => run_call (vs := [.slice (some ⟨b4, 0, none⟩) 4 4]) ⟨(S.tm rfl), trivial⟩ Tryz.call15) (tumbkeep2_errs_ok _ (.slice (some ⟨b4, 0, none⟩) 4 4) [r1.2, r2.2, r3.2, r4.2] (lit_slcT enc_int S (i := 0) rfl rfl rfl rfl ((ne_nil (e' := .blk b4 [.int .i64 r1.2, .int .i64 r2.2, .int .i64 r3.2, .int .i64 r4.2] 38)) _ rfl)) _ rfl) rfl ?_; clear S; intro v5 a w9 hv5 hk9 hn5 S
 subst hv5
 refine lv S (rn_eql (S.tm rfl) rfl) rfl ?_; clear S; intro a S
 refine lv S (rn_move (S.tm rfl)) rfl ?_; clear S; intro a S
 refine f_cutm 3 (fun a w' => Keep [] w9 w' ∧ Sx w [] φ1 [.blk b4 [.int .i64 r1.2, .int .i64 r2.2, .int .i64 r3.2, .int .i64 r4.2] 38] [(3, .int .i64 r2.1), (5, .int .i64 r3.1), (7, u1), (43, .bool ((decide ((tumbkeep2_errs [r1.2, r2.2, r3.2, r4.2]) = 0)) && (decide (r1.1 = 60))))] 57 a w') ?_ ?_
 ·rcases Bool.eq_false_or_eq_true (decide ((tumbkeep2_errs [r1.2, r2.2, r3.2, r4.2]) = 0)) with hb1 | hb1
  ·refine l_want S rfl rfl rfl hb1 ?_
   refine lv S (rn_move (S.tm rfl)) rfl ?_; clear S; intro a S
   refine l_want S rfl rfl rfl hb1 ?_
   refine lv S (rn_eql (S.tm rfl) rfl) rfl ?_; clear S; intro a S
   refine lv S (rn_and_t hb1 (S.tm rfl) (S.tm rfl)) rfl ?_; clear S; intro a S
   refine l_done ?_
   refine then_n ?_
   exact ⟨Keep.refl _ _, S.nf [true] rfl ⟨rfl, rfl, rfl, rfl, trivial⟩⟩
  ·refine l_skip S rfl rfl rfl (neq_f hb1) rfl ?_ rfl; clear S; intro a S
   refine l_skip S rfl rfl rfl (neq_f hb1) rfl ?_ rfl; clear S; intro a S
   refine lv S (rn_and_f (decide (r1.1 = 60)) hb1 (S.tm rfl) rfl) rfl ?_; clear S; intro a S
   refine l_done ?_
   refine then_n ?_
   exact ⟨Keep.refl _ _, S.nf [true] rfl ⟨rfl, rfl, rfl, rfl, trivial⟩⟩
 clear S; rintro a w10 ⟨hk10, S⟩
 refine lv S (rn_move (S.tm rfl)) rfl ?_; clear S; intro a S
 refine f_cutm 3 (fun a w' => Keep [] w10 w' ∧ Sx w [] φ1 [.blk b4 [.int .i64 r1.2, .int .i64 r2.2, .int .i64 r3.2, .int .i64 r4.2] 38] [(5, .int .i64 r3.1), (7, u1), (47, .bool (((decide ((tumbkeep2_errs [r1.2, r2.2, r3.2, r4.2]) = 0)) && (decide (r1.1 = 60))) && (decide (r2.1 = 25))))] 57 a w') ?_ ?_
 ·rcases Bool.eq_false_or_eq_true ((decide ((tumbkeep2_errs [r1.2, r2.2, r3.2, r4.2]) = 0)) && (decide (r1.1 = 60))) with hb2 | hb2
  ·refine l_want S rfl rfl rfl hb2 ?_
   refine lv S (rn_move (S.tm rfl)) rfl ?_; clear S; intro a S
   refine l_want S rfl rfl rfl hb2 ?_
   refine lv S (rn_eql (S.tm rfl) rfl) rfl ?_; clear S; intro a S
   refine lv S (rn_and_t hb2 (S.tm rfl) (S.tm rfl)) rfl ?_; clear S; intro a S
   refine l_done ?_
   refine then_n ?_
   exact ⟨Keep.refl _ _, S.nf [true] rfl ⟨rfl, rfl, rfl, trivial⟩⟩
  ·refine l_skip S rfl rfl rfl (neq_f hb2) rfl ?_ rfl; clear S; intro a S
   refine l_skip S rfl rfl rfl (neq_f hb2) rfl ?_ rfl; clear S; intro a S
   refine lv S (rn_and_f (decide (r2.1 = 25)) hb2 (S.tm rfl) rfl) rfl ?_; clear S; intro a S
   refine l_done ?_
   refine then_n ?_
   exact ⟨Keep.refl _ _, S.nf [true] rfl ⟨rfl, rfl, rfl, trivial⟩⟩
 clear S; rintro a w11 ⟨hk11, S⟩
 refine lv S (rn_move (S.tm rfl)) rfl ?_; clear S; intro a S
 refine f_cutm 3 (fun a w' => Keep [] w11 w' ∧ Sx w [] φ1 [.blk b4 [.int .i64 r1.2, .int .i64 r2.2, .int .i64 r3.2, .int .i64 r4.2] 38] [(7, u1), (51, .bool ((((decide ((tumbkeep2_errs [r1.2, r2.2, r3.2, r4.2]) = 0)) && (decide (r1.1 = 60))) && (decide (r2.1 = 25))) && (decide (r3.1 = 125))))] 57 a w') ?_ ?_
 ·rcases Bool.eq_false_or_eq_true (((decide ((tumbkeep2_errs [r1.2, r2.2, r3.2, r4.2]) = 0)) && (decide (r1.1 = 60))) && (decide (r2.1 = 25))) with hb3 | hb3
  ·refine l_want S rfl rfl rfl hb3 ?_
   refine lv S (rn_move (S.tm rfl)) rfl ?_; clear S; intro a S
   refine l_want S rfl rfl rfl hb3 ?_
   refine lv S (rn_eql (S.tm rfl) rfl) rfl ?_; clear S; intro a S
   refine lv S (rn_and_t hb3 (S.tm rfl) (S.tm rfl)) rfl ?_; clear S; intro a S
   refine l_done ?_
   refine then_n ?_
   exact ⟨Keep.refl _ _, S.nf [true] rfl ⟨rfl, rfl, trivial⟩⟩
  ·refine l_skip S rfl rfl rfl (neq_f hb3) rfl ?_ rfl; clear S; intro a S
   refine l_skip S rfl rfl rfl (neq_f hb3) rfl ?_ rfl; clear S; intro a S
   refine lv S (rn_and_f (decide (r3.1 = 125)) hb3 (S.tm rfl) rfl) rfl ?_; clear S; intro a S
   refine l_done ?_
   refine then_n ?_
   exact ⟨Keep.refl _ _, S.nf [true] rfl ⟨rfl, rfl, trivial⟩⟩
 clear S; rintro a w12 ⟨hk12, S⟩
 refine lv S (rn_move (S.tm rfl)) rfl ?_; clear S; intro a S
 refine f_cutm 4 (fun a w' => Keep [] w12 w' ∧ Sx w [] φ1 [.blk b4 [.int .i64 r1.2, .int .i64 r2.2, .int .i64 r3.2, .int .i64 r4.2] 38] [(56, .bool (((((decide ((tumbkeep2_errs [r1.2, r2.2, r3.2, r4.2]) = 0)) && (decide (r1.1 = 60))) && (decide (r2.1 = 25))) && (decide (r3.1 = 125))) && (decide ((r4.1.length : Int) = 1))))] 57 a w') ?_ ?_
 ·rcases Bool.eq_false_or_eq_true ((((decide ((tumbkeep2_errs [r1.2, r2.2, r3.2, r4.2]) = 0)) && (decide (r1.1 = 60))) && (decide (r2.1 = 25))) && (decide (r3.1 = 125))) with hb4 | hb4
  ·refine l_want S rfl rfl rfl hb4 ?_
   refine lv S (rn_move (S.tm rfl)) rfl ?_; clear S; intro a S
   refine l_want S rfl rfl rfl hb4 ?_
   refine lv S (rn_lenT sl_49 (S.tm rfl) (slc_len (ownV_slcT enc_str hs1))) rfl ?_; clear S; intro a S
   refine l_want S rfl rfl rfl hb4 ?_
   refine lv S (rn_eql (S.tm rfl) rfl) rfl ?_; clear S; intro a S
   refine lv S (rn_and_t hb4 (S.tm rfl) (S.tm rfl)) rfl ?_; clear S; intro a S
   refine l_done ?_
   refine then_n ?_
   exact ⟨Keep.refl _ _, S.nf [true] rfl ⟨rfl, trivial⟩⟩
  ·refine l_skip S rfl rfl rfl (neq_f hb4) rfl ?_ rfl; clear S; intro a S
   refine l_skip S rfl rfl rfl (neq_f hb4) rfl ?_ rfl; clear S; intro a S
   refine l_skip S rfl rfl rfl (neq_f hb4) rfl ?_ rfl; clear S; intro a S
   refine lv S (rn_and_f (decide ((r4.1.length : Int) = 1)) hb4 (S.tm rfl) rfl) rfl ?_; clear S; intro a S
   refine l_done ?_
   refine then_n ?_
   exact ⟨Keep.refl _ _, S.nf [true] rfl ⟨rfl, trivial⟩⟩
 clear S; rintro a w13 ⟨hk13, S⟩
 refine lv S (rn_assign (S.tm rfl)) rfl ?_; clear S; intro a S
 refine l_done ?_
 replace S := S.nk [] [(0, .bool (((((decide ((tumbkeep2_errs [r1.2, r2.2, r3.2, r4.2]) = 0)) && (decide (r1.1 = 60))) && (decide (r2.1 = 25))) && (decide (r3.1 = 125))) && (decide ((r4.1.length : Int) = 1))))] [false] rfl ⟨rfl, trivial⟩
 refine then_n ?_
 refine wp_ret ?_
 obtain rfl := Option.some.inj h
 exact f_ret S Tryz.results12 rfl rfl
theorem timing_CheckRace_ok (w : World) (p_r : GRace) (r : Int) (h : timing_CheckRace p_r = some r) :
    Calls Tryz.prog 71 [.agg (GRace.enc p_r).toArray].toArray w (Ret w [] fun _ v _ => v = .int .i64 r) := by
 refine f_enter [] [] Tryz.func71 rfl Tryz.ntmps71 rfl (by simp) (by simp [fps]) (by simp [fps]) fun a S => ?_
 unfold timing_CheckRace at h
 replace S := S.nk [] [(0, .agg (GRace.enc p_r).toArray)] [] rfl ⟨rfl, trivial⟩
 refine f_seq ?_
 refine f_region ?_
 refine l_box S (S.tm rfl) (cs := [.string p_r.Key, .int .i64 p_r.Metres, .int .i64 p_r.Stroke, .int .i64 p_r.Course, .int .i64 p_r.Legs, .int .i64 p_r.Sex, .int .i64 p_r.Young, .int .i64 p_r.Old]) rfl rfl ?_; clear S; intro a w1 b1 hz1 hk1 S
 refine lv S (rn_assign rfl) rfl ?_; clear S; intro a S
 refine l_done ?_
 replace S := S.nk [.blk b1 [.string p_r.Key, .int .i64 p_r.Metres, .int .i64 p_r.Stroke, .int .i64 p_r.Course, .int .i64 p_r.Legs, .int .i64 p_r.Sex, .int .i64 p_r.Young, .int .i64 p_r.Old] 52] [(1, .pointer (some ⟨b1, 0, none⟩))] [true] rfl ⟨rfl, trivial⟩
 refine then_n ?_
 refine f_seq ?_
 refine wp_block ?_
 refine f_seq ?_
 refine f_region ?_
 refine lv S (rn_fld fa_52_0 (S.tm rfl)) rfl ?_; clear S; intro a S
 refine lv S (rn_load Tryz.isAgg9 (S.tm rfl) (S.cell (i := 0) rfl rfl)) rfl ?_; clear S; intro a S
 obtain ⟨r1, hr1, h⟩ := bindE h
 refine l_enter S (fun _ => run_call (vs := [.string p_r.Key]) ⟨(S.tm rfl), trivial⟩ Tryz.call57) (words_IsKey_ok _ p_r.Key _ hr1) rfl ?_; clear S; intro v1 a w2 hv1 hk2 hn1 S
 subst hv1
 refine lv S (rn_not (S.tm rfl)) rfl ?_; clear S; intro a S
 refine lv S (rn_assign (S.tm rfl)) rfl ?_; clear S; intro a S
 refine l_done ?_
 replace S := S.nk [.blk b1 [.string p_r.Key, .int .i64 p_r.Metres, .int .i64 p_r.Stroke, .int .i64 p_r.Course, .int .i64 p_r.Legs, .int .i64 p_r.Sex, .int .i64 p_r.Young, .int .i64 p_r.Old] 52] [(1, .pointer (some ⟨b1, 0, none⟩)), (3, .bool (!r1))] [true] rfl ⟨rfl, rfl, trivial⟩
 refine then_n ?_
 refine f_cond (S.tm rfl) (fun hb1 => ?_) (fun hb1 => ?_)
 ·replace h := iteT h hb1
  refine f_seq ?_
  refine f_region ?_
  refine lv S (rn_assign rfl) rfl ?_; clear S; intro a S
  refine l_done ?_
  replace S := S.nk [] [(2, .int .i64 5)] [false] rfl ⟨rfl, trivial⟩
  refine then_n ?_
  refine wp_ret ?_
  refine blk_r ?_
  refine then_r ?_
  obtain rfl := Option.some.inj h
  exact f_ret S Tryz.results71 rfl rfl
 ·replace h := iteF h hb1
  refine f_seq ?_
  refine f_region ?_
  refine lv S (rn_fld fa_52_2 (S.tm rfl)) rfl ?_; clear S; intro a S
  refine lv S (rn_load Tryz.isAgg3 (S.tm rfl) (S.cell (i := 0) rfl rfl)) rfl ?_; clear S; intro a S
  refine l_enter S (fun _ => run_call (vs := [.int .i64 p_r.Stroke, .int .i64 1, .int .i64 5]) ⟨(S.tm rfl), rfl, rfl, trivial⟩ Tryz.call40) (words_Within_ok _ p_r.Stroke 1 5 _ rfl) rfl ?_; clear S; intro v2 a w3 hv2 hk3 hn2 S
  subst hv2
  refine lv S (rn_not (S.tm rfl)) rfl ?_; clear S; intro a S
  refine lv S (rn_move (S.tm rfl)) rfl ?_; clear S; intro a S
  refine f_cutm 5 (fun a w' => Keep [] w3 w' ∧ Sx w [] nov [.blk b1 [.string p_r.Key, .int .i64 p_r.Metres, .int .i64 p_r.Stroke, .int .i64 p_r.Course, .int .i64 p_r.Legs, .int .i64 p_r.Sex, .int .i64 p_r.Young, .int .i64 p_r.Old] 52] [(1, .pointer (some ⟨b1, 0, none⟩)), (18, .bool ((!(words_Within p_r.Stroke 1 5)) || (!(words_Within p_r.Sex 0 2))))] 95 a w') ?_ ?_
  ·rcases Bool.eq_false_or_eq_true (!(words_Within p_r.Stroke 1 5)) with hb2 | hb2
   ·refine l_skip S rfl rfl rfl (neq_t hb2) rfl ?_ rfl; clear S; intro a S
    refine l_skip S rfl rfl rfl (neq_t hb2) rfl ?_ rfl; clear S; intro a S
    refine l_skip S rfl rfl rfl (neq_t hb2) rfl ?_ rfl; clear S; intro a S
    refine l_skip S rfl rfl rfl (neq_t hb2) rfl ?_ rfl; clear S; intro a S
    refine lv S (rn_or_t (!(words_Within p_r.Sex 0 2)) hb2 (S.tm rfl) rfl) rfl ?_; clear S; intro a S
    refine l_done ?_
    refine then_n ?_
    exact ⟨Keep.refl _ _, S.nf [true] rfl ⟨rfl, rfl, trivial⟩⟩
   ·refine l_want S rfl rfl rfl hb2 ?_
    refine lv S (rn_fld fa_52_5 (S.tm rfl)) rfl ?_; clear S; intro a S
    refine l_want S rfl rfl rfl hb2 ?_
    refine lv S (rn_load Tryz.isAgg3 (S.tm rfl) (S.cell (i := 0) rfl rfl)) rfl ?_; clear S; intro a S
    refine l_want S rfl rfl rfl hb2 ?_
    refine l_enter S (fun _ => run_call (vs := [.int .i64 p_r.Sex, .int .i64 0, .int .i64 2]) ⟨(S.tm rfl), rfl, rfl, trivial⟩ Tryz.call40) (words_Within_ok _ p_r.Sex 0 2 _ rfl) rfl ?_; clear S; intro v3 a w5 hv3 hk4 hn3 S
    subst hv3
    refine l_want S rfl rfl rfl hb2 ?_
    refine lv S (rn_not (S.tm rfl)) rfl ?_; clear S; intro a S
    refine lv S (rn_or_f hb2 (S.tm rfl) (S.tm rfl)) rfl ?_; clear S; intro a S
    refine l_done ?_
    refine then_n ?_
    exact ⟨hk4, S.nf [true] rfl ⟨rfl, rfl, trivial⟩⟩
  clear S; rintro a w4 ⟨hk5, S⟩
  refine lv S (rn_assign (S.tm rfl)) rfl ?_; clear S; intro a S
  refine l_done ?_
  replace S := S.nk [.blk b1 [.string p_r.Key, .int .i64 p_r.Metres, .int .i64 p_r.Stroke, .int .i64 p_r.Course, .int .i64 p_r.Legs, .int .i64 p_r.Sex, .int .i64 p_r.Young, .int .i64 p_r.Old] 52] [(1, .pointer (some ⟨b1, 0, none⟩)), (8, .bool ((!(words_Within p_r.Stroke 1 5)) || (!(words_Within p_r.Sex 0 2))))] [true] rfl ⟨rfl, rfl, trivial⟩
  refine then_n ?_
  refine f_cond (S.tm rfl) (fun hb3 => ?_) (fun hb3 => ?_)
  ·replace h := iteT h hb3
   refine f_seq ?_
   refine f_region ?_
   refine lv S (rn_assign rfl) rfl ?_; clear S; intro a S
   refine l_done ?_
   replace S := S.nk [] [(2, .int .i64 4)] [false] rfl ⟨rfl, trivial⟩
   refine then_n ?_
   refine wp_ret ?_
   refine blk_r ?_
   refine then_r ?_
   obtain rfl := Option.some.inj h
   exact f_ret S Tryz.results71 rfl rfl
  ·replace h := iteF h hb3
   refine f_seq ?_
   refine f_region ?_
   refine lv S (rn_fld fa_52_3 (S.tm rfl)) rfl ?_; clear S; intro a S
   refine lv S (rn_load Tryz.isAgg3 (S.tm rfl) (S.cell (i := 0) rfl rfl)) rfl ?_; clear S; intro a S
   refine lv S (rn_neq (S.tm rfl) rfl) rfl ?_; clear S; intro a S
   refine lv S (rn_move (S.tm rfl)) rfl ?_; clear S; intro a S
   refine f_cutm 4 (fun a w' => Keep [] w4 w' ∧ Sx w [] nov [.blk b1 [.string p_r.Key, .int .i64 p_r.Metres, .int .i64 p_r.Stroke, .int .i64 p_r.Course, .int .i64 p_r.Legs, .int .i64 p_r.Sex, .int .i64 p_r.Young, .int .i64 p_r.Old] 52] [(1, .pointer (some ⟨b1, 0, none⟩)), (27, .bool ((!decide (p_r.Course = 25)) && (!decide (p_r.Course = 50))))] 95 a w') ?_ ?_
   ·rcases Bool.eq_false_or_eq_true (!decide (p_r.Course = 25)) with hb4 | hb4
    ·refine l_want S rfl rfl rfl hb4 ?_
     refine lv S (rn_fld fa_52_3 (S.tm rfl)) rfl ?_; clear S; intro a S
     refine l_want S rfl rfl rfl hb4 ?_
     refine lv S (rn_load Tryz.isAgg3 (S.tm rfl) (S.cell (i := 0) rfl rfl)) rfl ?_; clear S; intro a S
     refine l_want S rfl rfl rfl hb4 ?_
     refine lv S (rn_neq (S.tm rfl) rfl) rfl ?_; clear S; intro a S
     refine lv S (rn_and_t hb4 (S.tm rfl) (S.tm rfl)) rfl ?_; clear S; intro a S
     refine l_done ?_
     refine then_n ?_
     exact ⟨Keep.refl _ _, S.nf [true] rfl ⟨rfl, rfl, trivial⟩⟩
    ·refine l_skip S rfl rfl rfl (neq_f hb4) rfl ?_ rfl; clear S; intro a S
     refine l_skip S rfl rfl rfl (neq_f hb4) rfl ?_ rfl; clear S; intro a S
     refine l_skip S rfl rfl rfl (neq_f hb4) rfl ?_ rfl; clear S; intro a S
     refine lv S (rn_and_f (!decide (p_r.Course = 50)) hb4 (S.tm rfl) rfl) rfl ?_; clear S; intro a S
     refine l_done ?_
     refine then_n ?_
     exact ⟨Keep.refl _ _, S.nf [true] rfl ⟨rfl, rfl, trivial⟩⟩
   clear S; rintro a w6 ⟨hk6, S⟩
   refine lv S (rn_move (S.tm rfl)) rfl ?_; clear S; intro a S
   refine f_cutm 5 (fun a w' => Keep [] w6 w' ∧ Sx w [] nov [.blk b1 [.string p_r.Key, .int .i64 p_r.Metres, .int .i64 p_r.Stroke, .int .i64 p_r.Course, .int .i64 p_r.Legs, .int .i64 p_r.Sex, .int .i64 p_r.Young, .int .i64 p_r.Old] 52] [(1, .pointer (some ⟨b1, 0, none⟩)), (33, .bool (((!decide (p_r.Course = 25)) && (!decide (p_r.Course = 50))) || (!(words_Within p_r.Legs 1 4))))] 95 a w') ?_ ?_
   ·rcases Bool.eq_false_or_eq_true ((!decide (p_r.Course = 25)) && (!decide (p_r.Course = 50))) with hb5 | hb5
    ·refine l_skip S rfl rfl rfl (neq_t hb5) rfl ?_ rfl; clear S; intro a S
     refine l_skip S rfl rfl rfl (neq_t hb5) rfl ?_ rfl; clear S; intro a S
     refine l_skip S rfl rfl rfl (neq_t hb5) rfl ?_ rfl; clear S; intro a S
     refine l_skip S rfl rfl rfl (neq_t hb5) rfl ?_ rfl; clear S; intro a S
     refine lv S (rn_or_t (!(words_Within p_r.Legs 1 4)) hb5 (S.tm rfl) rfl) rfl ?_; clear S; intro a S
     refine l_done ?_
     refine then_n ?_
     exact ⟨Keep.refl _ _, S.nf [true] rfl ⟨rfl, rfl, trivial⟩⟩
    ·refine l_want S rfl rfl rfl hb5 ?_
     refine lv S (rn_fld fa_52_4 (S.tm rfl)) rfl ?_; clear S; intro a S
     refine l_want S rfl rfl rfl hb5 ?_
     refine lv S (rn_load Tryz.isAgg3 (S.tm rfl) (S.cell (i := 0) rfl rfl)) rfl ?_; clear S; intro a S
     refine l_want S rfl rfl rfl hb5 ?_
     refine l_enter S (fun _ => run_call (vs := [.int .i64 p_r.Legs, .int .i64 1, .int .i64 4]) ⟨(S.tm rfl), rfl, rfl, trivial⟩ Tryz.call40) (words_Within_ok _ p_r.Legs 1 4 _ rfl) rfl ?_; clear S; intro v4 a w8 hv4 hk7 hn4 S
     subst hv4
     refine l_want S rfl rfl rfl hb5 ?_
     refine lv S (rn_not (S.tm rfl)) rfl ?_; clear S; intro a S
     refine lv S (rn_or_f hb5 (S.tm rfl) (S.tm rfl)) rfl ?_; clear S; intro a S
     refine l_done ?_
     refine then_n ?_
     exact ⟨hk7, S.nf [true] rfl ⟨rfl, rfl, trivial⟩⟩
   clear S; rintro a w7 ⟨hk8, S⟩
   refine lv S (rn_move (S.tm rfl)) rfl ?_; clear S; intro a S
   refine f_cutm 5 (fun a w' => Keep [] w7 w' ∧ Sx w [] nov [.blk b1 [.string p_r.Key, .int .i64 p_r.Metres, .int .i64 p_r.Stroke, .int .i64 p_r.Course, .int .i64 p_r.Legs, .int .i64 p_r.Sex, .int .i64 p_r.Young, .int .i64 p_r.Old] 52] [(1, .pointer (some ⟨b1, 0, none⟩)), (39, .bool ((((!decide (p_r.Course = 25)) && (!decide (p_r.Course = 50))) || (!(words_Within p_r.Legs 1 4))) || (!(words_Within p_r.Metres 25 1500))))] 95 a w') ?_ ?_
   ·rcases Bool.eq_false_or_eq_true (((!decide (p_r.Course = 25)) && (!decide (p_r.Course = 50))) || (!(words_Within p_r.Legs 1 4))) with hb6 | hb6
    ·refine l_skip S rfl rfl rfl (neq_t hb6) rfl ?_ rfl; clear S; intro a S
     refine l_skip S rfl rfl rfl (neq_t hb6) rfl ?_ rfl; clear S; intro a S
     refine l_skip S rfl rfl rfl (neq_t hb6) rfl ?_ rfl; clear S; intro a S
     refine l_skip S rfl rfl rfl (neq_t hb6) rfl ?_ rfl; clear S; intro a S
     refine lv S (rn_or_t (!(words_Within p_r.Metres 25 1500)) hb6 (S.tm rfl) rfl) rfl ?_; clear S; intro a S
     refine l_done ?_
     refine then_n ?_
     exact ⟨Keep.refl _ _, S.nf [true] rfl ⟨rfl, rfl, trivial⟩⟩
    ·refine l_want S rfl rfl rfl hb6 ?_
     refine lv S (rn_fld fa_52_1 (S.tm rfl)) rfl ?_; clear S; intro a S
     refine l_want S rfl rfl rfl hb6 ?_
     refine lv S (rn_load Tryz.isAgg3 (S.tm rfl) (S.cell (i := 0) rfl rfl)) rfl ?_; clear S; intro a S
     refine l_want S rfl rfl rfl hb6 ?_
     refine l_enter S (fun _ => run_call (vs := [.int .i64 p_r.Metres, .int .i64 25, .int .i64 1500]) ⟨(S.tm rfl), rfl, rfl, trivial⟩ Tryz.call40) (words_Within_ok _ p_r.Metres 25 1500 _ rfl) rfl ?_; clear S; intro v5 a w10 hv5 hk9 hn5 S
     subst hv5
     refine l_want S rfl rfl rfl hb6 ?_
     refine lv S (rn_not (S.tm rfl)) rfl ?_; clear S; intro a S
     refine lv S (rn_or_f hb6 (S.tm rfl) (S.tm rfl)) rfl ?_; clear S; intro a S
     refine l_done ?_
     refine then_n ?_
     exact ⟨hk9, S.nf [true] rfl ⟨rfl, rfl, trivial⟩⟩
   clear S; rintro a w9 ⟨hk10, S⟩
   refine lv S (rn_move (S.tm rfl)) rfl ?_; clear S; intro a S
   refine f_cutm 4 (fun a w' => Keep [] w9 w' ∧ Sx w [] nov [.blk b1 [.string p_r.Key, .int .i64 p_r.Metres, .int .i64 p_r.Stroke, .int .i64 p_r.Course, .int .i64 p_r.Legs, .int .i64 p_r.Sex, .int .i64 p_r.Young, .int .i64 p_r.Old] 52] [(1, .pointer (some ⟨b1, 0, none⟩)), (44, .bool (((((!decide (p_r.Course = 25)) && (!decide (p_r.Course = 50))) || (!(words_Within p_r.Legs 1 4))) || (!(words_Within p_r.Metres 25 1500))) || (decide (p_r.Young < 0))))] 95 a w') ?_ ?_
   ·rcases Bool.eq_false_or_eq_true ((((!decide (p_r.Course = 25)) && (!decide (p_r.Course = 50))) || (!(words_Within p_r.Legs 1 4))) || (!(words_Within p_r.Metres 25 1500))) with hb7 | hb7
    ·refine l_skip S rfl rfl rfl (neq_t hb7) rfl ?_ rfl; clear S; intro a S
     refine l_skip S rfl rfl rfl (neq_t hb7) rfl ?_ rfl; clear S; intro a S
     refine l_skip S rfl rfl rfl (neq_t hb7) rfl ?_ rfl; clear S; intro a S
     refine lv S (rn_or_t (decide (p_r.Young < 0)) hb7 (S.tm rfl) rfl) rfl ?_; clear S; intro a S
     refine l_done ?_
     refine then_n ?_
     exact ⟨Keep.refl _ _, S.nf [true] rfl ⟨rfl, rfl, trivial⟩⟩
    ·refine l_want S rfl rfl rfl hb7 ?_
     refine lv S (rn_fld fa_52_6 (S.tm rfl)) rfl ?_; clear S; intro a S
     refine l_want S rfl rfl rfl hb7 ?_
     refine lv S (rn_load Tryz.isAgg3 (S.tm rfl) (S.cell (i := 0) rfl rfl)) rfl ?_; clear S; intro a S
     refine l_want S rfl rfl rfl hb7 ?_
     refine lv S (rn_lss (S.tm rfl) rfl) rfl ?_; clear S; intro a S
     refine lv S (rn_or_f hb7 (S.tm rfl) (S.tm rfl)) rfl ?_; clear S; intro a S
     refine l_done ?_
     refine then_n ?_
     exact ⟨Keep.refl _ _, S.nf [true] rfl ⟨rfl, rfl, trivial⟩⟩
   clear S; rintro a w11 ⟨hk11, S⟩
   refine lv S (rn_move (S.tm rfl)) rfl ?_; clear S; intro a S
   refine f_cutm 6 (fun a w' => Keep [] w11 w' ∧ Sx w [] nov [.blk b1 [.string p_r.Key, .int .i64 p_r.Metres, .int .i64 p_r.Stroke, .int .i64 p_r.Course, .int .i64 p_r.Legs, .int .i64 p_r.Sex, .int .i64 p_r.Young, .int .i64 p_r.Old] 52] [(1, .pointer (some ⟨b1, 0, none⟩)), (51, .bool ((((((!decide (p_r.Course = 25)) && (!decide (p_r.Course = 50))) || (!(words_Within p_r.Legs 1 4))) || (!(words_Within p_r.Metres 25 1500))) || (decide (p_r.Young < 0))) || (decide (p_r.Old < p_r.Young))))] 95 a w') ?_ ?_
   ·rcases Bool.eq_false_or_eq_true (((((!decide (p_r.Course = 25)) && (!decide (p_r.Course = 50))) || (!(words_Within p_r.Legs 1 4))) || (!(words_Within p_r.Metres 25 1500))) || (decide (p_r.Young < 0))) with hb8 | hb8
    ·refine l_skip S rfl rfl rfl (neq_t hb8) rfl ?_ rfl; clear S; intro a S
     refine l_skip S rfl rfl rfl (neq_t hb8) rfl ?_ rfl; clear S; intro a S
     refine l_skip S rfl rfl rfl (neq_t hb8) rfl ?_ rfl; clear S; intro a S
     refine l_skip S rfl rfl rfl (neq_t hb8) rfl ?_ rfl; clear S; intro a S
     refine l_skip S rfl rfl rfl (neq_t hb8) rfl ?_ rfl; clear S; intro a S
     refine lv S (rn_or_t (decide (p_r.Old < p_r.Young)) hb8 (S.tm rfl) rfl) rfl ?_; clear S; intro a S
     refine l_done ?_
     refine then_n ?_
     exact ⟨Keep.refl _ _, S.nf [true] rfl ⟨rfl, rfl, trivial⟩⟩
    ·refine l_want S rfl rfl rfl hb8 ?_
     refine lv S (rn_fld fa_52_6 (S.tm rfl)) rfl ?_; clear S; intro a S
     refine l_want S rfl rfl rfl hb8 ?_
     refine lv S (rn_load Tryz.isAgg3 (S.tm rfl) (S.cell (i := 0) rfl rfl)) rfl ?_; clear S; intro a S
     refine l_want S rfl rfl rfl hb8 ?_
     refine lv S (rn_fld fa_52_7 (S.tm rfl)) rfl ?_; clear S; intro a S
     refine l_want S rfl rfl rfl hb8 ?_
     refine lv S (rn_load Tryz.isAgg3 (S.tm rfl) (S.cell (i := 0) rfl rfl)) rfl ?_; clear S; intro a S
     refine l_want S rfl rfl rfl hb8 ?_
     refine lv S (rn_gtr (S.tm rfl) (S.tm rfl)) rfl ?_; clear S; intro a S
     refine lv S (rn_or_f hb8 (S.tm rfl) (S.tm rfl)) rfl ?_; clear S; intro a S
     refine l_done ?_
     refine then_n ?_
     exact ⟨Keep.refl _ _, S.nf [true] rfl ⟨rfl, rfl, trivial⟩⟩
   clear S; rintro a w12 ⟨hk12, S⟩
   refine lv S (rn_move (S.tm rfl)) rfl ?_; clear S; intro a S
   refine f_cutm 4 (fun a w' => Keep [] w12 w' ∧ Sx w [] nov [.blk b1 [.string p_r.Key, .int .i64 p_r.Metres, .int .i64 p_r.Stroke, .int .i64 p_r.Course, .int .i64 p_r.Legs, .int .i64 p_r.Sex, .int .i64 p_r.Young, .int .i64 p_r.Old] 52] [(1, .pointer (some ⟨b1, 0, none⟩)), (56, .bool (((((((!decide (p_r.Course = 25)) && (!decide (p_r.Course = 50))) || (!(words_Within p_r.Legs 1 4))) || (!(words_Within p_r.Metres 25 1500))) || (decide (p_r.Young < 0))) || (decide (p_r.Old < p_r.Young))) || (decide (120 < p_r.Old))))] 95 a w') ?_ ?_
   ·rcases Bool.eq_false_or_eq_true ((((((!decide (p_r.Course = 25)) && (!decide (p_r.Course = 50))) || (!(words_Within p_r.Legs 1 4))) || (!(words_Within p_r.Metres 25 1500))) || (decide (p_r.Young < 0))) || (decide (p_r.Old < p_r.Young))) with hb9 | hb9
    ·refine l_skip S rfl rfl rfl (neq_t hb9) rfl ?_ rfl; clear S; intro a S
     refine l_skip S rfl rfl rfl (neq_t hb9) rfl ?_ rfl; clear S; intro a S
     refine l_skip S rfl rfl rfl (neq_t hb9) rfl ?_ rfl; clear S; intro a S
     refine lv S (rn_or_t (decide (120 < p_r.Old)) hb9 (S.tm rfl) rfl) rfl ?_; clear S; intro a S
     refine l_done ?_
     refine then_n ?_
     exact ⟨Keep.refl _ _, S.nf [true] rfl ⟨rfl, rfl, trivial⟩⟩
    ·refine l_want S rfl rfl rfl hb9 ?_
     refine lv S (rn_fld fa_52_7 (S.tm rfl)) rfl ?_; clear S; intro a S
     refine l_want S rfl rfl rfl hb9 ?_
     refine lv S (rn_load Tryz.isAgg3 (S.tm rfl) (S.cell (i := 0) rfl rfl)) rfl ?_; clear S; intro a S
     refine l_want S rfl rfl rfl hb9 ?_
     refine lv S (rn_gtr (S.tm rfl) rfl) rfl ?_; clear S; intro a S
     refine lv S (rn_or_f hb9 (S.tm rfl) (S.tm rfl)) rfl ?_; clear S; intro a S
     refine l_done ?_
     refine then_n ?_
     exact ⟨Keep.refl _ _, S.nf [true] rfl ⟨rfl, rfl, trivial⟩⟩
   clear S; rintro a w13 ⟨hk13, S⟩
   refine lv S (rn_assign (S.tm rfl)) rfl ?_; clear S; intro a S
   refine l_done ?_
   replace S := S.nk [.blk b1 [.string p_r.Key, .int .i64 p_r.Metres, .int .i64 p_r.Stroke, .int .i64 p_r.Course, .int .i64 p_r.Legs, .int .i64 p_r.Sex, .int .i64 p_r.Young, .int .i64 p_r.Old] 52] [(1, .pointer (some ⟨b1, 0, none⟩)), (19, .bool (((((((!decide (p_r.Course = 25)) && (!decide (p_r.Course = 50))) || (!(words_Within p_r.Legs 1 4))) || (!(words_Within p_r.Metres 25 1500))) || (decide (p_r.Young < 0))) || (decide (p_r.Old < p_r.Young))) || (decide (120 < p_r.Old))))] [true] rfl ⟨rfl, rfl, trivial⟩
   refine then_n ?_
   refine f_cond (S.tm rfl) (fun hb10 => ?_) (fun hb10 => ?_)
   ·replace h := iteT h hb10
    refine f_seq ?_
    refine f_region ?_
    refine lv S (rn_assign rfl) rfl ?_; clear S; intro a S
    refine l_done ?_
    replace S := S.nk [] [(2, .int .i64 1)] [false] rfl ⟨rfl, trivial⟩
    refine then_n ?_
    refine wp_ret ?_
    refine blk_r ?_
    refine then_r ?_
    obtain rfl := Option.some.inj h
    exact f_ret S Tryz.results71 rfl rfl
   ·replace h := iteF h hb10
    refine f_seq ?_
    refine f_region ?_
    refine lv S (rn_fld fa_52_1 (S.tm rfl)) rfl ?_; clear S; intro a S
    refine lv S (rn_load Tryz.isAgg3 (S.tm rfl) (S.cell (i := 0) rfl rfl)) rfl ?_; clear S; intro a S
    refine lv S (rn_fld fa_52_3 (S.tm rfl)) rfl ?_; clear S; intro a S
    refine lv S (rn_load Tryz.isAgg3 (S.tm rfl) (S.cell (i := 0) rfl rfl)) rfl ?_; clear S; intro a S
    obtain ⟨hc1, h⟩ := chkE h
    refine lv S (rn_rem (S.tm rfl) (S.tm rfl) (ne0_of hc1)) rfl ?_; clear S; intro a S
    refine lv S (rn_neq (S.tm rfl) rfl) rfl ?_; clear S; intro a S
    refine lv S (rn_assign (S.tm rfl)) rfl ?_; clear S; intro a S
    refine l_done ?_
    replace S := S.nk [.blk b1 [.string p_r.Key, .int .i64 p_r.Metres, .int .i64 p_r.Stroke, .int .i64 p_r.Course, .int .i64 p_r.Legs, .int .i64 p_r.Sex, .int .i64 p_r.Young, .int .i64 p_r.Old] 52] [(1, .pointer (some ⟨b1, 0, none⟩)), (57, .bool (!decide ((Int.tmod p_r.Metres p_r.Course) = 0)))] [true] rfl ⟨rfl, rfl, trivial⟩
    refine then_n ?_
    refine f_cond (S.tm rfl) (fun hb11 => ?_) (fun hb11 => ?_)
    ·replace h := iteT h hb11
     refine f_seq ?_
     refine f_region ?_
     refine lv S (rn_assign rfl) rfl ?_; clear S; intro a S
     refine l_done ?_
     replace S := S.nk [] [(2, .int .i64 3)] [false] rfl ⟨rfl, trivial⟩
     refine then_n ?_
     refine wp_ret ?_
     refine blk_r ?_
     refine then_r ?_
     obtain rfl := Option.some.inj h
     exact f_ret S Tryz.results71 rfl rfl
    ·replace h := iteF h hb11
     refine f_seq ?_
     refine f_seq ?_
     refine f_region ?_
     refine lv S (rn_fld fa_52_2 (S.tm rfl)) rfl ?_; clear S; intro a S
     refine lv S (rn_load Tryz.isAgg3 (S.tm rfl) (S.cell (i := 0) rfl rfl)) rfl ?_; clear S; intro a S
     refine lv S (rn_eql (S.tm rfl) rfl) rfl ?_; clear S; intro a S
     refine lv S (rn_move (S.tm rfl)) rfl ?_; clear S; intro a S
     refine f_cutm 4 (fun a w' => Keep [] w13 w' ∧ Sx w [] nov [.blk b1 [.string p_r.Key, .int .i64 p_r.Metres, .int .i64 p_r.Stroke, .int .i64 p_r.Course, .int .i64 p_r.Legs, .int .i64 p_r.Sex, .int .i64 p_r.Young, .int .i64 p_r.Old] 52] [(1, .pointer (some ⟨b1, 0, none⟩)), (72, .bool ((decide (p_r.Stroke = 5)) && (decide (p_r.Legs = 1))))] 95 a w') ?_ ?_
     ·rcases Bool.eq_false_or_eq_true (decide (p_r.Stroke = 5)) with hb12 | hb12
      ·refine l_want S rfl rfl rfl hb12 ?_
       refine lv S (rn_fld fa_52_4 (S.tm rfl)) rfl ?_; clear S; intro a S
       refine l_want S rfl rfl rfl hb12 ?_
       refine lv S (rn_load Tryz.isAgg3 (S.tm rfl) (S.cell (i := 0) rfl rfl)) rfl ?_; clear S; intro a S
       refine l_want S rfl rfl rfl hb12 ?_
       refine lv S (rn_eql (S.tm rfl) rfl) rfl ?_; clear S; intro a S
       refine lv S (rn_and_t hb12 (S.tm rfl) (S.tm rfl)) rfl ?_; clear S; intro a S
       refine l_done ?_
       refine then_n ?_
       exact ⟨Keep.refl _ _, S.nf [true] rfl ⟨rfl, rfl, trivial⟩⟩
      ·refine l_skip S rfl rfl rfl (neq_f hb12) rfl ?_ rfl; clear S; intro a S
       refine l_skip S rfl rfl rfl (neq_f hb12) rfl ?_ rfl; clear S; intro a S
       refine l_skip S rfl rfl rfl (neq_f hb12) rfl ?_ rfl; clear S; intro a S
       refine lv S (rn_and_f (decide (p_r.Legs = 1)) hb12 (S.tm rfl) rfl) rfl ?_; clear S; intro a S
       refine l_done ?_
       refine then_n ?_
       exact ⟨Keep.refl _ _, S.nf [true] rfl ⟨rfl, rfl, trivial⟩⟩
     clear S; rintro a w14 ⟨hk14, S⟩
     refine lv S (rn_move (S.tm rfl)) rfl ?_; clear S; intro a S
     obtain ⟨j1, hj1, h⟩ := joinE h
     refine f_cutm 8 (fun a w' => ∃ c1, j1 c1 = some r ∧ Keep [] w14 w' ∧ Sx w [] nov [.blk b1 [.string p_r.Key, .int .i64 p_r.Metres, .int .i64 p_r.Stroke, .int .i64 p_r.Course, .int .i64 p_r.Legs, .int .i64 p_r.Sex, .int .i64 p_r.Young, .int .i64 p_r.Old] 52] [(1, .pointer (some ⟨b1, 0, none⟩)), (81, .bool c1)] 95 a w') ?_ ?_
     ·rcases Bool.eq_false_or_eq_true ((decide (p_r.Stroke = 5)) && (decide (p_r.Legs = 1))) with hb13 | hb13
      ·replace h := iteT h hb13
       refine l_want S rfl rfl rfl hb13 ?_
       refine lv S (rn_fld fa_52_1 (S.tm rfl)) rfl ?_; clear S; intro a S
       refine l_want S rfl rfl rfl hb13 ?_
       refine lv S (rn_load Tryz.isAgg3 (S.tm rfl) (S.cell (i := 0) rfl rfl)) rfl ?_; clear S; intro a S
       refine l_want S rfl rfl rfl hb13 ?_
       refine lv S (rn_fld fa_52_3 (S.tm rfl)) rfl ?_; clear S; intro a S
       refine l_want S rfl rfl rfl hb13 ?_
       refine lv S (rn_load Tryz.isAgg3 (S.tm rfl) (S.cell (i := 0) rfl rfl)) rfl ?_; clear S; intro a S
       refine l_want S rfl rfl rfl hb13 ?_
       refine lv S (rn_mul rfl (S.tm rfl)) rfl ?_; clear S; intro a S
       refine l_want S rfl rfl rfl hb13 ?_
       obtain ⟨hc2, h⟩ := chkE h
       refine lv S (rn_rem (S.tm rfl) (S.tm rfl) (ne0_of hc2)) rfl ?_; clear S; intro a S
       refine l_want S rfl rfl rfl hb13 ?_
       refine lv S (rn_neq (S.tm rfl) rfl) rfl ?_; clear S; intro a S
       refine lv S (rn_and_t hb13 (S.tm rfl) (S.tm rfl)) rfl ?_; clear S; intro a S
       refine l_done ?_
       refine then_n ?_
       exact ⟨_, h, Keep.refl _ _, S.nf [true] rfl ⟨rfl, rfl, trivial⟩⟩
      ·replace h := iteF h hb13
       refine l_skip S rfl rfl rfl (neq_f hb13) rfl ?_ rfl; clear S; intro a S
       refine l_skip S rfl rfl rfl (neq_f hb13) rfl ?_ rfl; clear S; intro a S
       refine l_skip S rfl rfl rfl (neq_f hb13) rfl ?_ rfl; clear S; intro a S
       refine l_skip S rfl rfl rfl (neq_f hb13) rfl ?_ rfl; clear S; intro a S
       refine l_skip S rfl rfl rfl (neq_f hb13) rfl ?_ rfl; clear S; intro a S
       refine l_skip S rfl rfl rfl (neq_f hb13) rfl ?_ rfl; clear S; intro a S
       refine l_skip S rfl rfl rfl (neq_f hb13) rfl ?_ rfl; clear S; intro a S
       refine lv S (rn_and_f true hb13 (S.tm rfl) rfl) rfl ?_; clear S; intro a S
       refine l_done ?_
       refine then_n ?_
       exact ⟨_, h, Keep.refl _ _, S.nf [true] rfl ⟨rfl, rfl, trivial⟩⟩
     clear S h; rintro a w15 ⟨c1, h, hk15, S⟩; rw [hj1] at h; clear hj1 j1
     refine lv S (rn_assign (S.tm rfl)) rfl ?_; clear S; intro a S
     refine l_done ?_
     replace S := S.nk [.blk b1 [.string p_r.Key, .int .i64 p_r.Metres, .int .i64 p_r.Stroke, .int .i64 p_r.Course, .int .i64 p_r.Legs, .int .i64 p_r.Sex, .int .i64 p_r.Young, .int .i64 p_r.Old] 52] [(1, .pointer (some ⟨b1, 0, none⟩)), (64, .bool c1)] [true] rfl ⟨rfl, rfl, trivial⟩
     refine then_n ?_
     obtain ⟨j2, hj2, h⟩ := joinE h
     refine f_join (fun a w' => ∃ x1 : Bool, j2 x1 = some r ∧ Sx w [] nov [] [(64, .bool x1)] 95 a w') ?_ ?_
     ·refine f_cond (S.tm rfl) (fun hb14 => ?_) (fun hb14 => ?_)
      ·replace h := iteT h hb14
       refine wp_skip ?_
       refine then_n ?_
       exact ⟨c1, h, S.nf [false] rfl ⟨rfl, trivial⟩⟩
      ·replace h := iteF h hb14
       refine f_region ?_
       refine lv S (rn_fld fa_52_2 (S.tm rfl)) rfl ?_; clear S; intro a S
       refine lv S (rn_load Tryz.isAgg3 (S.tm rfl) (S.cell (i := 0) rfl rfl)) rfl ?_; clear S; intro a S
       refine lv S (rn_eql (S.tm rfl) rfl) rfl ?_; clear S; intro a S
       refine lv S (rn_move (S.tm rfl)) rfl ?_; clear S; intro a S
       refine f_cutm 4 (fun a w' => Keep [] w15 w' ∧ Sx w [] nov [.blk b1 [.string p_r.Key, .int .i64 p_r.Metres, .int .i64 p_r.Stroke, .int .i64 p_r.Course, .int .i64 p_r.Legs, .int .i64 p_r.Sex, .int .i64 p_r.Young, .int .i64 p_r.Old] 52] [(1, .pointer (some ⟨b1, 0, none⟩)), (89, .bool ((decide (p_r.Stroke = 5)) && (decide (1 < p_r.Legs))))] 95 a w') ?_ ?_
       ·rcases Bool.eq_false_or_eq_true (decide (p_r.Stroke = 5)) with hb15 | hb15
        ·refine l_want S rfl rfl rfl hb15 ?_
         refine lv S (rn_fld fa_52_4 (S.tm rfl)) rfl ?_; clear S; intro a S
         refine l_want S rfl rfl rfl hb15 ?_
         refine lv S (rn_load Tryz.isAgg3 (S.tm rfl) (S.cell (i := 0) rfl rfl)) rfl ?_; clear S; intro a S
         refine l_want S rfl rfl rfl hb15 ?_
         refine lv S (rn_gtr (S.tm rfl) rfl) rfl ?_; clear S; intro a S
         refine lv S (rn_and_t hb15 (S.tm rfl) (S.tm rfl)) rfl ?_; clear S; intro a S
         refine l_done ?_
         refine then_n ?_
         exact ⟨Keep.refl _ _, S.nf [true] rfl ⟨rfl, rfl, trivial⟩⟩
        ·refine l_skip S rfl rfl rfl (neq_f hb15) rfl ?_ rfl; clear S; intro a S
         refine l_skip S rfl rfl rfl (neq_f hb15) rfl ?_ rfl; clear S; intro a S
         refine l_skip S rfl rfl rfl (neq_f hb15) rfl ?_ rfl; clear S; intro a S
         refine lv S (rn_and_f (decide (1 < p_r.Legs)) hb15 (S.tm rfl) rfl) rfl ?_; clear S; intro a S
         refine l_done ?_
         refine then_n ?_
         exact ⟨Keep.refl _ _, S.nf [true] rfl ⟨rfl, rfl, trivial⟩⟩
       clear S; rintro a w17 ⟨hk16, S⟩
       refine lv S (rn_move (S.tm rfl)) rfl ?_; clear S; intro a S
       refine f_cutm 4 (fun a w' => Keep [] w17 w' ∧ Sx w [] nov [.blk b1 [.string p_r.Key, .int .i64 p_r.Metres, .int .i64 p_r.Stroke, .int .i64 p_r.Course, .int .i64 p_r.Legs, .int .i64 p_r.Sex, .int .i64 p_r.Young, .int .i64 p_r.Old] 52] [(94, .bool (((decide (p_r.Stroke = 5)) && (decide (1 < p_r.Legs))) && (!decide (p_r.Legs = 4))))] 95 a w') ?_ ?_
       ·rcases Bool.eq_false_or_eq_true ((decide (p_r.Stroke = 5)) && (decide (1 < p_r.Legs))) with hb16 | hb16
        ·refine l_want S rfl rfl rfl hb16 ?_
         refine lv S (rn_fld fa_52_4 (S.tm rfl)) rfl ?_; clear S; intro a S
         refine l_want S rfl rfl rfl hb16 ?_
         refine lv S (rn_load Tryz.isAgg3 (S.tm rfl) (S.cell (i := 0) rfl rfl)) rfl ?_; clear S; intro a S
         refine l_want S rfl rfl rfl hb16 ?_
         refine lv S (rn_neq (S.tm rfl) rfl) rfl ?_; clear S; intro a S
         refine lv S (rn_and_t hb16 (S.tm rfl) (S.tm rfl)) rfl ?_; clear S; intro a S
         refine l_done ?_
         refine then_n ?_
         exact ⟨Keep.refl _ _, S.nf [true] rfl ⟨rfl, trivial⟩⟩
        ·refine l_skip S rfl rfl rfl (neq_f hb16) rfl ?_ rfl; clear S; intro a S
         refine l_skip S rfl rfl rfl (neq_f hb16) rfl ?_ rfl; clear S; intro a S
         refine l_skip S rfl rfl rfl (neq_f hb16) rfl ?_ rfl; clear S; intro a S
         refine lv S (rn_and_f (!decide (p_r.Legs = 4)) hb16 (S.tm rfl) rfl) rfl ?_; clear S; intro a S
         refine l_done ?_
         refine then_n ?_
         exact ⟨Keep.refl _ _, S.nf [true] rfl ⟨rfl, trivial⟩⟩
       clear S; rintro a w18 ⟨hk17, S⟩
       refine lv S (rn_assign (S.tm rfl)) rfl ?_; clear S; intro a S
       refine l_done ?_
       replace S := S.nk [] [(64, .bool (((decide (p_r.Stroke = 5)) && (decide (1 < p_r.Legs))) && (!decide (p_r.Legs = 4))))] [false] rfl ⟨rfl, trivial⟩
       refine then_n ?_
       exact ⟨(((decide (p_r.Stroke = 5)) && (decide (1 < p_r.Legs))) && (!decide (p_r.Legs = 4))), h, S.nf [] rfl ⟨rfl, trivial⟩⟩
     clear S h; rintro a w16 ⟨x1, h, S⟩; rw [hj2] at h; clear hj2 j2
     refine then_n ?_
     refine f_cond (S.tm rfl) (fun hb17 => ?_) (fun hb17 => ?_)
     ·replace h := iteT h hb17
      refine f_seq ?_
      refine f_region ?_
      refine lv S (rn_assign rfl) rfl ?_; clear S; intro a S
      refine l_done ?_
      replace S := S.nk [] [(2, .int .i64 16)] [] rfl ⟨rfl, trivial⟩
      refine then_n ?_
      refine wp_ret ?_
      refine blk_r ?_
      refine then_r ?_
      obtain rfl := Option.some.inj h
      exact f_ret S Tryz.results71 rfl rfl
     ·replace h := iteF h hb17
      refine wp_skip ?_
      refine blk_n ?_
      refine then_n ?_
      refine f_seq ?_
      refine f_region ?_
      refine lv S (rn_assign rfl) rfl ?_; clear S; intro a S
      refine l_done ?_
      replace S := S.nk [] [(2, .int .i64 0)] [] rfl ⟨rfl, trivial⟩
      refine then_n ?_
      refine wp_ret ?_
      obtain rfl := Option.some.inj h
      exact f_ret S Tryz.results71 rfl rfl
end Go.Proofs.YtdcmeoefpigcdaaGreatDoor
