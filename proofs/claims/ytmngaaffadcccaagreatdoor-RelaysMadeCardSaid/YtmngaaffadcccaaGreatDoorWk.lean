/- Each Go function computes its plain twin, by program. -/
import Derived.Test.YtmngaaffadcccaaGreatDoorWk3
namespace Go.Proofs.YtmngaaffadcccaaGreatDoor
open Go
theorem cmp_Compare_string_ok (w : World) (p_x : ByteArray) (p_y : ByteArray) (r : Int) (h : cmp_Compare_string p_x p_y = r) :
    Calls Tryz.prog 85 [sV p_x, sV p_y].toArray w (Ret w [] fun _ v _ => v = iV r) := by
 refine f_enter [] [] Tryz.func85 rfl Tryz.ntmps85 rfl (by simp) (by simp [fps]) (by simp [fps]) fun a S => ?_
 unfold cmp_Compare_string at h
 replace S := S.nk [] [(0, sV p_x), (1, sV p_y)] [] rfl (subR rfl)
 refine f_seq (f_region (lv S (rn_assign rfl) rfl ?_)); clear S; intro a S
 refine l_done (then_n (f_seq (f_region (lv S (rn_move (S.tm rfl)) rfl ?_)))); clear S; intro a S
 refine l_enter S (fun _ => run_call (vs := [sV p_x]) ⟨(S.tm rfl), trivial⟩ Tryz.call106) (cmp_isNaN_string_ok _ p_x _ rfl) rfl ?_; clear S; intro v1 a w1 hv1 hk1 hn1 S
 subst hv1
 refine lv S (rn_assign (S.tm rfl)) rfl ?_; clear S; intro a S
 refine l_done (then_n (f_seq (f_region (lv S (rn_move (S.tm rfl)) rfl ?_)))); clear S; intro a S
 refine l_enter S (fun _ => run_call (vs := [sV p_y]) ⟨(S.tm rfl), trivial⟩ Tryz.call106) (cmp_isNaN_string_ok _ p_y _ rfl) rfl ?_; clear S; intro v2 a w2 hv2 hk2 hn2 S
 subst hv2
 refine lv S (rn_assign (S.tm rfl)) rfl ?_; clear S; intro a S
 refine l_done (then_n (f_seq (f_seq (f_region (lv S (rn_move (S.tm rfl)) rfl ?_))))); clear S; intro a S
 refine l_done (then_n (f_cond (S.tm rfl) (fun hb1 => ?_) (fun hb1 => ?_)))
 ·replace h := iteT h hb1
  refine f_seq (f_seq (f_region (lv S (rn_move (S.tm rfl)) rfl ?_))); clear S; intro a S
  refine l_done (then_n (f_cond (S.tm rfl) (fun hb2 => ?_) (fun hb2 => ?_)))
  ·replace h := iteT h hb2
   refine f_seq (f_region (lv S (rn_assign rfl) rfl ?_)); clear S; intro a S
   refine l_done (then_n (wp_ret (then_r (then_r ?_))))
   subst h
   exact f_ret S Tryz.results85 rfl rfl
  ·replace h := iteF h hb2
   refine wp_skip (then_n (f_seq (f_region (lv S (rn_assign rfl) rfl ?_)))); clear S; intro a S
   refine l_done (then_n (wp_ret (then_r ?_)))
   subst h
   exact f_ret S Tryz.results85 rfl rfl
 ·replace h := iteF h hb1
  refine wp_skip (then_n (f_seq (f_seq (f_region (lv S (rn_move (S.tm rfl)) rfl ?_))))); clear S; intro a S
  refine l_done (then_n (f_cond (S.tm rfl) (fun hb3 => ?_) (fun hb3 => ?_)))
  ·replace h := iteT h hb3
   refine f_seq (f_region (lv S (rn_assign rfl) rfl ?_)); clear S; intro a S
   refine l_done (then_n (wp_ret (then_r ?_)))
   subst h
   exact f_ret S Tryz.results85 rfl rfl
  ·replace h := iteF h hb3
   refine wp_skip (then_n (f_seq (f_seq (f_region (lv S (rn_move (S.tm rfl)) rfl ?_))))); clear S; intro a S
   refine lv S (rn_move (S.tm rfl)) rfl ?_; clear S; intro a S
   refine lv S (rn_slss (S.tm rfl) (S.tm rfl)) rfl ?_; clear S; intro a S
   refine l_done (then_n (f_cond (S.tm rfl) (fun hb4 => ?_) (fun hb4 => ?_)))
   ·replace h := iteT h hb4
    refine f_seq (f_region (lv S (rn_assign rfl) rfl ?_)); clear S; intro a S
    refine l_done (then_n (wp_ret (then_r ?_)))
    subst h
    exact f_ret S Tryz.results85 rfl rfl
   ·replace h := iteF h hb4
    refine wp_skip (then_n (f_seq (f_seq (f_region (lv S (rn_move (S.tm rfl)) rfl ?_))))); clear S; intro a S
    refine lv S (rn_move (S.tm rfl)) rfl ?_; clear S; intro a S
    refine lv S (rn_sgtr (S.tm rfl) (S.tm rfl)) rfl ?_; clear S; intro a S
    refine l_done ?_
    replace S := S.nk [] [(19, bV (!(Sless p_x p_y || decide (p_x = p_y))))] [] rfl ⟨rfl, trivial⟩
    refine then_n (f_cond (S.tm rfl) (fun hb5 => ?_) (fun hb5 => ?_))
    ·replace h := iteT h hb5
     refine f_seq (f_region (lv S (rn_assign rfl) rfl ?_)); clear S; intro a S
     refine l_done (then_n (wp_ret (then_r ?_)))
     subst h
     exact f_ret S Tryz.results85 rfl rfl
    ·replace h := iteF h hb5
     refine wp_skip (then_n (f_seq (f_region (lv S (rn_assign rfl) rfl ?_)))); clear S; intro a S
     refine l_done (then_n (wp_ret ?_))
     subst h
     exact f_ret S Tryz.results85 rfl rfl
theorem slices_Compare_string_ok (w : World) (v_p_s1 : Value) (p_s1 : List ByteArray) (hs_p_s1 : Slc (view w []) 1 v_p_s1 (p_s1.map eStr)) (v_p_s2 : Value) (p_s2 : List ByteArray) (hs_p_s2 : Slc (view w []) 1 v_p_s2 (p_s2.map eStr)) (r : Int) (h : slices_Compare_string p_s1 p_s2 = some r) :
    Calls Tryz.prog 58 [v_p_s1, v_p_s2].toArray w (Ret w [] fun _ v _ => v = iV r) := by
 refine f_enter [] [] Tryz.func58 rfl Tryz.ntmps58 rfl (by simp) (by simp [fps]) (by simp [fps]) fun a S => ?_
 unfold slices_Compare_string at h
 replace S := S.nk [] [(0, v_p_s1), (1, v_p_s2)] [] rfl (subR rfl)
 refine f_seq (f_region (lv S (rn_assign rfl) rfl ?_)); clear S; intro a S
 refine l_done (then_n (f_seq (f_seq (f_region (lv S (rn_move (S.tm rfl)) rfl ?_))))); clear S; intro a S
 refine lv S (rn_lenT sl_35 (S.tm rfl) (slc_len hs_p_s1)) rfl ?_; clear S; intro a S
 refine lv S (rn_move rfl) rfl ?_; clear S; intro a S
 refine l_done (then_n ?_)
 replace S := S.nk [] [(0, v_p_s1), (1, v_p_s2), (9, v_p_s1), (10, iV (p_s1.length : Int)), (11, iV 0)] [] rfl (subR rfl)
 obtain ⟨j1, hj1, h⟩ := joinE h
 refine f_join (fun a w' => j1 = some r ∧ Sx w [] nov [] [(0, v_p_s1), (1, v_p_s2)] 36 a w') ?_ ?_
 ·refine wp_block (f_loop (fun (ys1 : List ByteArray) a w' => ∃ i1 : Nat, (∃ dn, p_s1 = dn ++ ys1 ∧ dn.length = i1) ∧ slices_Compare_string_l1 p_s2 j1 ys1 i1 = some r ∧ Sx w [] nov [] [(0, v_p_s1), (1, v_p_s2), (9, v_p_s1), (10, iV (p_s1.length : Int)), (11, iV (i1 : Int))] 36 a w') List.length p_s1 ⟨0, ⟨[], rfl, rfl⟩, h, S.nf [] rfl (subR rfl)⟩ ?_)
  clear S h; rintro ys1 a w1 ⟨i1, ⟨dn, hd1, hi1⟩, h, S⟩
  cases ys1 with
  | nil =>
   rw [slices_Compare_string_l1.eq_1] at h
   refine f_seq (f_region (lv S (rn_lss (S.tm rfl) (S.tm rfl)) rfl ?_)); clear S; intro a S
   refine l_done ?_
   replace S := S.nk [] [(0, v_p_s1), (1, v_p_s2), (9, v_p_s1), (10, iV (p_s1.length : Int)), (11, iV (i1 : Int)), (12, bV (decide ((i1 : Int) < (p_s1.length : Int))))] [] rfl (subR rfl)
   refine then_n (f_seq (wp_cond_false ((S.tm rfl).trans (congrArg Value.bool (rng_nil hd1 hi1))) (wp_exit (then_x (then_x (x_same ?_))))))
   refine then_n ?_
   exact ⟨h, S.nf [] rfl (subR rfl)⟩
  | cons y1 ys1 =>
   rw [slices_Compare_string_l1.eq_2] at h
   refine f_seq (f_region (lv S (rn_lss (S.tm rfl) (S.tm rfl)) rfl ?_)); clear S; intro a S
   refine l_done ?_
   replace S := S.nk [] [(0, v_p_s1), (1, v_p_s2), (9, v_p_s1), (10, iV (p_s1.length : Int)), (11, iV (i1 : Int)), (12, bV (decide ((i1 : Int) < (p_s1.length : Int))))] [] rfl (subR rfl)
   refine then_n (f_seq (wp_cond_true ((S.tm rfl).trans (congrArg Value.bool (rng_cons hd1 hi1))) (wp_skip (then_n (f_seq (wp_block ?_))))))
   refine f_seq (f_region (lv S (rn_move (S.tm rfl)) rfl ?_)); clear S; intro a S
   obtain ⟨b1, o1, hm1, hr1⟩ := rn_indexT (a := a) (x := .tmp 9) (y := .tmp 11) (ty := 0) sl_35 hs_p_s1 (get_mid hd1 hi1) rfl (S.tm rfl) (S.tm rfl)
   refine lv S (hr1 _) rfl ?_; clear S; intro a S
   clear hr1
   refine lv S (rn_ld Tryz.isAgg9 (off := o1) (o := 0) (S.tm rfl) (hm1.at S.emb0) rfl) rfl ?_; clear S; intro a S
   refine lv S (rn_assign (S.tm rfl)) rfl ?_; clear S; intro a S
   refine lv S (rn_assign (S.tm rfl)) rfl ?_; clear S; intro a S
   refine l_done (then_n (f_seq (f_seq (f_region (lv S (rn_move (S.tm rfl)) rfl ?_))))); clear S; intro a S
   refine lv S (rn_move (S.tm rfl)) rfl ?_; clear S; intro a S
   refine lv S (rn_lenT sl_35 (S.tm rfl) (slc_len hs_p_s2)) rfl ?_; clear S; intro a S
   refine lv S (rn_geq (S.tm rfl) (S.tm rfl)) rfl ?_; clear S; intro a S
   refine l_done ?_
   replace S := S.nk [] [(0, v_p_s1), (1, v_p_s2), (5, iV (i1 : Int)), (6, sV y1), (9, v_p_s1), (10, iV (p_s1.length : Int)), (11, iV (i1 : Int)), (19, bV (decide ((p_s2.length : Int) ≤ (i1 : Int))))] [] rfl (subR rfl)
   refine then_n (f_cond (S.tm rfl) (fun hb1 => ?_) (fun hb1 => ?_))
   ·replace h := iteT h hb1
    refine f_seq (f_region (lv S (rn_assign rfl) rfl ?_)); clear S; intro a S
    refine l_done (then_n (wp_ret (then_r (blk_r (then_r (then_r ?_))))))
    refine blk_r (then_r (then_r ?_))
    obtain rfl := Option.some.inj h
    exact f_ret S Tryz.results58 rfl rfl
   ·replace h := iteF h hb1
    refine wp_skip (then_n (f_seq (f_region (lv S (rn_move (S.tm rfl)) rfl ?_)))); clear S; intro a S
    refine lv S (rn_move (S.tm rfl)) rfl ?_; clear S; intro a S
    obtain ⟨hc1, h⟩ := chkE h
    obtain ⟨b2, o2, hm2, hr2⟩ := rn_indexT (a := a) (x := .tmp 20) (y := .tmp 21) (ty := 0) sl_35 hs_p_s2 (inB_get hc1).1 (inB_get hc1).2 (S.tm rfl) (S.tm rfl)
    refine lv S (hr2 _) rfl ?_; clear S; intro a S
    clear hr2
    refine lv S (rn_ld Tryz.isAgg9 (off := o2) (o := 0) (S.tm rfl) (hm2.at S.emb0) rfl) rfl ?_; clear S; intro a S
    refine lv S (rn_assign (S.tm rfl)) rfl ?_; clear S; intro a S
    refine l_done (then_n (f_seq (f_region (lv S (rn_move (S.tm rfl)) rfl ?_)))); clear S; intro a S
    refine lv S (rn_move (S.tm rfl)) rfl ?_; clear S; intro a S
    refine l_enter S (fun _ => run_call (vs := [sV y1, sV (nth p_s2 (i1 : Int))]) ⟨(S.tm rfl), (S.tm rfl), trivial⟩ Tryz.call85) (cmp_Compare_string_ok _ y1 (nth p_s2 (i1 : Int)) _ rfl) rfl ?_; clear S; intro v1 a w3 hv1 hk1 hn1 S
    subst hv1
    refine lv S (rn_assign (S.tm rfl)) rfl ?_; clear S; intro a S
    refine l_done ?_
    replace S := S.nk [] [(0, v_p_s1), (1, v_p_s2), (8, iV (cmp_Compare_string y1 (nth p_s2 (i1 : Int)))), (9, v_p_s1), (10, iV (p_s1.length : Int)), (11, iV (i1 : Int))] [] rfl (subR rfl)
    refine then_n (f_seq (f_region (lv S (rn_move (S.tm rfl)) rfl ?_))); clear S; intro a S
    refine lv S (rn_neq (S.tm rfl) rfl) rfl ?_; clear S; intro a S
    refine l_done (then_n (f_cond (S.tm rfl) (fun hb2 => ?_) (fun hb2 => ?_)))
    ·replace h := iteT h hb2
     refine f_seq (f_region (lv S (rn_move (S.tm rfl)) rfl ?_)); clear S; intro a S
     refine lv S (rn_assign (S.tm rfl)) rfl ?_; clear S; intro a S
     refine l_done (then_n (wp_ret (blk_r (then_r (then_r (blk_r ?_))))))
     refine then_r (then_r ?_)
     obtain rfl := Option.some.inj h
     exact f_ret S Tryz.results58 rfl rfl
    ·replace h := iteF h hb2
     refine wp_skip (blk_n (then_n (f_region (lv S (rn_add (S.tm rfl) rfl) rfl ?_)))); clear S; intro a S
     refine lv S (rn_move (S.tm rfl)) rfl ?_; clear S; intro a S
     refine l_done (then_n ?_)
     exact ⟨ys1, ⟨i1 + 1, ⟨_, (hd1).trans (List.append_cons _ _ _), by simp [hi1]⟩, h, S.nf [] rfl ⟨rfl, rfl, rfl, rfl, (congrArg (fun z => some (Value.int .i64 z)) (rng_next hd1 hi1 (slc_max hs_p_s1))), trivial⟩⟩, Nat.lt_succ_self _⟩
 clear S h; rintro a w2 ⟨h, S⟩; rw [hj1] at h; clear hj1 j1
 refine then_n (f_seq (f_seq (f_region (lv S (rn_move (S.tm rfl)) rfl ?_)))); clear S; intro a S
 refine lv S (rn_lenT sl_35 (S.tm rfl) (slc_len hs_p_s1)) rfl ?_; clear S; intro a S
 refine lv S (rn_move (S.tm rfl)) rfl ?_; clear S; intro a S
 refine lv S (rn_lenT sl_35 (S.tm rfl) (slc_len hs_p_s2)) rfl ?_; clear S; intro a S
 refine lv S (rn_lss (S.tm rfl) (S.tm rfl)) rfl ?_; clear S; intro a S
 refine l_done (then_n (f_cond (S.tm rfl) (fun hb3 => ?_) (fun hb3 => ?_)))
 ·replace h := iteT h hb3
  refine f_seq (f_region (lv S (rn_assign rfl) rfl ?_)); clear S; intro a S
  refine l_done (then_n (wp_ret (then_r ?_)))
  obtain rfl := Option.some.inj h
  exact f_ret S Tryz.results58 rfl rfl
 ·replace h := iteF h hb3
  refine wp_skip (then_n (f_seq (f_region (lv S (rn_assign rfl) rfl ?_)))); clear S; intro a S
  refine l_done (then_n (wp_ret ?_))
  obtain rfl := Option.some.inj h
  exact f_ret S Tryz.results58 rfl rfl
theorem tumbref2_FastestOf_c1_s_ok (self : (List ByteArray) → Int → Int → Int → (List ByteArray) → Int → (List GLeg) → Option ((List ByteArray) × Int)) (hself : ∀ (w : World) (X : List Nat) (v_p_who : Value) (p_who : List ByteArray) (_ : Slc (view w X) 1 v_p_who (p_who.map eStr)) (p_sum : Int) (p_few : Int) (b_p_a3 : Nat) (p_a3 : Int) (_ : (view w X) b_p_a3 = some (.cells [iV p_a3].toArray 3 (0, 0))) (b_p_a4 : Nat) (v_p_a4 : Value) (p_a4 : List ByteArray) (_ : (LEnt.own v_p_a4 9 1 p_a4.length (p_a4.flatMap eStr)).holds w) (_ : p_a4 = [] → v_p_a4 = .slice none 0 0) (_ : (LEnt.blk b_p_a4 [v_p_a4] 35).holds w) (b_p_a5 : Nat) (p_a5 : Int) (_ : (LEnt.blk b_p_a5 [iV p_a5] 3).holds w) (b_p_a6 : Nat) (v_p_a6 : Value) (p_a6 : List GLeg) (rs_p_a6 : List R91) (_ : Slc (view w X) 2 v_p_a6 (rs_p_a6.map R91.enc)) (_ : All2 (rel_91 (view w X)) p_a6 rs_p_a6) (_ : (view w X) b_p_a6 = some (.cells [v_p_a6].toArray 54 (0, 0))) (b_p_a7 : Nat) (_ : (view w X) b_p_a7 = some (.cells [.func (.func 57) #[] #[.pointer (some ⟨b_p_a3, 0, none⟩), .pointer (some ⟨b_p_a4, 0, none⟩), .pointer (some ⟨b_p_a5, 0, none⟩), .pointer (some ⟨b_p_a6, 0, none⟩), .pointer (some ⟨b_p_a7, 0, none⟩)]].toArray 97 (0, 0))) (_ : X.Nodup) (_ : X = fps [.blk b_p_a4 [v_p_a4] 35, .own v_p_a4 9 1 p_a4.length (p_a4.flatMap eStr), .blk b_p_a5 [iV p_a5] 3]) (r : (List ByteArray) × Int) (_ : self p_who p_sum p_few p_a3 p_a4 p_a5 p_a6 = some r),
    Calls Tryz.prog 57 [v_p_who, iV p_sum, iV p_few, .pointer (some ⟨b_p_a3, 0, none⟩), .pointer (some ⟨b_p_a4, 0, none⟩), .pointer (some ⟨b_p_a5, 0, none⟩), .pointer (some ⟨b_p_a6, 0, none⟩), .pointer (some ⟨b_p_a7, 0, none⟩)].toArray w (Ret w X fun _ v w' => ∃ y1 : Value, Grp w w' X [.blk b_p_a4 [y1] 35, .own y1 9 1 r.1.length (r.1.flatMap eStr), .blk b_p_a5 [iV r.2] 3] ∧ (r.1 = [] → y1 = .slice none 0 0) ∧ v = .tuple #[])) (w : World) (X : List Nat) (v_p_who : Value) (p_who : List ByteArray) (hs_p_who : Slc (view w X) 1 v_p_who (p_who.map eStr)) (p_sum : Int) (p_few : Int) (b_p_a3 : Nat) (p_a3 : Int) (hb_b_p_a3 : (view w X) b_p_a3 = some (.cells [iV p_a3].toArray 3 (0, 0))) (b_p_a4 : Nat) (v_p_a4 : Value) (p_a4 : List ByteArray) (hb_v_p_a4 : (LEnt.own v_p_a4 9 1 p_a4.length (p_a4.flatMap eStr)).holds w) (hz_v_p_a4 : p_a4 = [] → v_p_a4 = .slice none 0 0) (hb_b_p_a4 : (LEnt.blk b_p_a4 [v_p_a4] 35).holds w) (b_p_a5 : Nat) (p_a5 : Int) (hb_b_p_a5 : (LEnt.blk b_p_a5 [iV p_a5] 3).holds w) (b_p_a6 : Nat) (v_p_a6 : Value) (p_a6 : List GLeg) (rs_p_a6 : List R91) (hs_p_a6 : Slc (view w X) 2 v_p_a6 (rs_p_a6.map R91.enc)) (hr_p_a6 : All2 (rel_91 (view w X)) p_a6 rs_p_a6) (hb_b_p_a6 : (view w X) b_p_a6 = some (.cells [v_p_a6].toArray 54 (0, 0))) (b_p_a7 : Nat) (hb_b_p_a7 : (view w X) b_p_a7 = some (.cells [.func (.func 57) #[] #[.pointer (some ⟨b_p_a3, 0, none⟩), .pointer (some ⟨b_p_a4, 0, none⟩), .pointer (some ⟨b_p_a5, 0, none⟩), .pointer (some ⟨b_p_a6, 0, none⟩), .pointer (some ⟨b_p_a7, 0, none⟩)]].toArray 97 (0, 0))) (hXn : X.Nodup) (hXe : X = fps [.blk b_p_a4 [v_p_a4] 35, .own v_p_a4 9 1 p_a4.length (p_a4.flatMap eStr), .blk b_p_a5 [iV p_a5] 3]) (r : (List ByteArray) × Int) (h : tumbref2_FastestOf_c1_s self p_who p_sum p_few p_a3 p_a4 p_a5 p_a6 = some r) :
    Calls Tryz.prog 57 [v_p_who, iV p_sum, iV p_few, .pointer (some ⟨b_p_a3, 0, none⟩), .pointer (some ⟨b_p_a4, 0, none⟩), .pointer (some ⟨b_p_a5, 0, none⟩), .pointer (some ⟨b_p_a6, 0, none⟩), .pointer (some ⟨b_p_a7, 0, none⟩)].toArray w (Ret w X fun _ v w' => ∃ y1 : Value, Grp w w' X [.blk b_p_a4 [y1] 35, .own y1 9 1 r.1.length (r.1.flatMap eStr), .blk b_p_a5 [iV r.2] 3] ∧ (r.1 = [] → y1 = .slice none 0 0) ∧ v = .tuple #[]) := by
 refine f_enter X [.blk b_p_a4 [v_p_a4] 35, .own v_p_a4 9 1 p_a4.length (p_a4.flatMap eStr), .blk b_p_a5 [iV p_a5] 3] Tryz.func57 rfl Tryz.ntmps57 rfl (fun e he => by simp only [List.mem_cons, List.not_mem_nil, or_false] at he; rcases he with rfl | rfl | rfl <;> assumption) (by rw [← hXe]; exact hXn) (fun b hb => by rw [hXe]; exact hb) fun a S => ?_
 unfold tumbref2_FastestOf_c1_s at h
 replace S := S.nk [.blk b_p_a4 [v_p_a4] 35, .own v_p_a4 9 1 p_a4.length (p_a4.flatMap eStr), .blk b_p_a5 [iV p_a5] 3] [(0, v_p_who), (1, iV p_sum), (2, iV p_few), (3, .pointer (some ⟨b_p_a3, 0, none⟩)), (4, .pointer (some ⟨b_p_a4, 0, none⟩)), (5, .pointer (some ⟨b_p_a5, 0, none⟩)), (6, .pointer (some ⟨b_p_a6, 0, none⟩)), (7, .pointer (some ⟨b_p_a7, 0, none⟩))] [true, true, true] rfl (subR rfl)
 refine f_seq (f_seq (f_region (lv S (rn_ld Tryz.isAgg3 (off := 0) (o := 0) (S.tm rfl) ((mem_blk hb_b_p_a3).at S.emb0) rfl) rfl ?_))); clear S; intro a S
 refine lv S (rn_gtr (S.tm rfl) rfl) rfl ?_; clear S; intro a S
 refine lv S (rn_move (S.tm rfl)) rfl ?_; clear S; intro a S
 refine f_cutm 4 (fun a w' => Keep [] w w' ∧ Sx w X nov [.blk b_p_a4 [v_p_a4] 35, .own v_p_a4 9 1 p_a4.length (p_a4.flatMap eStr), .blk b_p_a5 [iV p_a5] 3] [(0, v_p_who), (1, iV p_sum), (2, iV p_few), (4, .pointer (some ⟨b_p_a4, 0, none⟩)), (5, .pointer (some ⟨b_p_a5, 0, none⟩)), (6, .pointer (some ⟨b_p_a6, 0, none⟩)), (7, .pointer (some ⟨b_p_a7, 0, none⟩)), (21, bV ((decide (0 < p_a3)) && (decide (p_a3 < p_few))))] 86 a w') ?_ ?_
 ·rcases Bool.eq_false_or_eq_true (decide (0 < p_a3)) with hb1 | hb1
  ·refine l_want S rfl rfl rfl hb1 (lv S (rn_move (S.tm rfl)) rfl ?_); clear S; intro a S
   refine l_want S rfl rfl rfl hb1 (lv S (rn_ld Tryz.isAgg3 (off := 0) (o := 0) (S.tm rfl) ((mem_blk hb_b_p_a3).at S.emb0) rfl) rfl ?_); clear S; intro a S
   refine l_want S rfl rfl rfl hb1 (lv S (rn_gtr (S.tm rfl) (S.tm rfl)) rfl ?_); clear S; intro a S
   refine lv S (rn_and_t hb1 (S.tm rfl) (S.tm rfl)) rfl ?_; clear S; intro a S
   refine l_done (then_n ?_)
   exact ⟨Keep.refl _ _, S.nf [true, true, true] rfl (subR rfl)⟩
  ·iterate 3 (refine l_skip S rfl rfl rfl (neq_f hb1) rfl ?_ rfl; clear S; intro a S)
   refine lv S (rn_and_f (decide (p_a3 < p_few)) hb1 (S.tm rfl) rfl) rfl ?_; clear S; intro a S
   refine l_done (then_n ?_)
   exact ⟨Keep.refl _ _, S.nf [true, true, true] rfl (subR rfl)⟩
 clear S; rintro a w1 ⟨hk1, S⟩
 refine l_done (then_n (f_cond (S.tm rfl) (fun hb2 => ?_) (fun hb2 => ?_)))
 ·replace h := iteT h hb2
  refine wp_ret (then_r ?_)
  obtain rfl := Option.some.inj h
  exact f_ret0 S Tryz.results57 ⟨v_p_a4, S.grp [0, 1, 2] [] rfl rfl rfl, hz_v_p_a4, rfl⟩
 ·replace h := iteF h hb2
  refine wp_skip (then_n (f_seq (f_seq (f_region (lv S (rn_move (S.tm rfl)) rfl ?_))))); clear S; intro a S
  refine lv S (rn_lenT sl_35 (S.tm rfl) (slc_len hs_p_who)) rfl ?_; clear S; intro a S
  refine lv S (rn_eql (S.tm rfl) rfl) rfl ?_; clear S; intro a S
  refine l_done (then_n (f_cond (S.tm rfl) (fun hb3 => ?_) (fun hb3 => ?_)))
  ·replace h := iteT h hb3
   refine f_seq (f_seq (f_region (lv S (rn_load Tryz.isAgg35 (S.tm rfl) (S.cell (i := 0) rfl rfl)) rfl ?_))); clear S; intro a S
   refine lv S (rn_nileqZ Tryz.underlying35 (S.own_at (i := 1) rfl) hz_v_p_a4 (S.tm rfl) rfl) rfl ?_; clear S; intro a S
   refine lv S (rn_move (S.tm rfl)) rfl ?_; clear S; intro a S
   refine f_cutm 4 (fun a w' => Keep [] w1 w' ∧ Sx w X nov [.blk b_p_a4 [v_p_a4] 35, .own v_p_a4 9 1 p_a4.length (p_a4.flatMap eStr), .blk b_p_a5 [iV p_a5] 3] [(0, v_p_who), (1, iV p_sum), (4, .pointer (some ⟨b_p_a4, 0, none⟩)), (5, .pointer (some ⟨b_p_a5, 0, none⟩)), (31, bV (p_a4.isEmpty || (decide (p_sum < p_a5))))] 86 a w') ?_ ?_
   ·rcases Bool.eq_false_or_eq_true p_a4.isEmpty with hb4 | hb4
    ·iterate 3 (refine l_skip S rfl rfl rfl (neq_t hb4) rfl ?_ rfl; clear S; intro a S)
     refine lv S (rn_or_t (decide (p_sum < p_a5)) hb4 (S.tm rfl) rfl) rfl ?_; clear S; intro a S
     refine l_done (then_n ?_)
     exact ⟨Keep.refl _ _, S.nf [true, true, true] rfl (subR rfl)⟩
    ·refine l_want S rfl rfl rfl hb4 (lv S (rn_move (S.tm rfl)) rfl ?_); clear S; intro a S
     refine l_want S rfl rfl rfl hb4 (lv S (rn_load Tryz.isAgg3 (S.tm rfl) (S.cell (i := 2) rfl rfl)) rfl ?_); clear S; intro a S
     refine l_want S rfl rfl rfl hb4 (lv S (rn_lss (S.tm rfl) (S.tm rfl)) rfl ?_); clear S; intro a S
     refine lv S (rn_or_f hb4 (S.tm rfl) (S.tm rfl)) rfl ?_; clear S; intro a S
     refine l_done (then_n ?_)
     exact ⟨Keep.refl _ _, S.nf [true, true, true] rfl (subR rfl)⟩
   clear S; rintro a w2 ⟨hk2, S⟩
   refine lv S (rn_move (S.tm rfl)) rfl ?_; clear S; intro a S
   obtain ⟨j1, hj1, h⟩ := joinE h
   refine f_cutm 10 (fun a w' => ∃ c1, j1 c1 = some r ∧ Keep [] w2 w' ∧ Sx w X nov [.blk b_p_a4 [v_p_a4] 35, .own v_p_a4 9 1 p_a4.length (p_a4.flatMap eStr), .blk b_p_a5 [iV p_a5] 3] [(0, v_p_who), (1, iV p_sum), (4, .pointer (some ⟨b_p_a4, 0, none⟩)), (5, .pointer (some ⟨b_p_a5, 0, none⟩)), (42, bV c1)] 86 a w') ?_ ?_
   ·rcases Bool.eq_false_or_eq_true (p_a4.isEmpty || (decide (p_sum < p_a5))) with hb5 | hb5
    ·replace h := iteT h hb5
     iterate 4 (refine l_skip S rfl rfl rfl (neq_t hb5) rfl ?_ rfl; clear S; intro a S)
     iterate 4 (refine l_skipU S rfl rfl rfl rfl ?_; clear S; intro a S)
     refine l_skip S rfl rfl rfl (neq_t hb5) rfl ?_ rfl; clear S; intro a S
     refine lv S (rn_or_t true hb5 (S.tm rfl) rfl) rfl ?_; clear S; intro a S
     refine l_done (then_n ?_)
     exact ⟨_, h, Keep.refl _ _, S.nf [true, true, true] rfl (subR rfl)⟩
    ·replace h := iteF h hb5
     refine l_want S rfl rfl rfl hb5 (lv S (rn_move (S.tm rfl)) rfl ?_); clear S; intro a S
     refine l_want S rfl rfl rfl hb5 (lv S (rn_load Tryz.isAgg3 (S.tm rfl) (S.cell (i := 2) rfl rfl)) rfl ?_); clear S; intro a S
     refine l_want S rfl rfl rfl hb5 (lv S (rn_eql (S.tm rfl) (S.tm rfl)) rfl ?_); clear S; intro a S
     refine l_want S rfl rfl rfl hb5 (lv S (rn_move (S.tm rfl)) rfl ?_); clear S; intro a S
     obtain ⟨j2, hj2, h⟩ := joinE h
     refine f_cutm 5 (fun a w' => ∃ c2, j2 c2 = some r ∧ Keep [] w2 w' ∧ Sx w X nov [.blk b_p_a4 [v_p_a4] 35, .own v_p_a4 9 1 p_a4.length (p_a4.flatMap eStr), .blk b_p_a5 [iV p_a5] 3] [(0, v_p_who), (1, iV p_sum), (4, .pointer (some ⟨b_p_a4, 0, none⟩)), (5, .pointer (some ⟨b_p_a5, 0, none⟩)), (32, bV (p_a4.isEmpty || (decide (p_sum < p_a5)))), (41, bV c2)] 86 a w') ?_ ?_
     ·rcases Bool.eq_false_or_eq_true (decide (p_sum = p_a5)) with hb6 | hb6
      ·replace h := iteT h hb6
       refine l_want S rfl rfl rfl hb6 (lv S (rn_move (S.tm rfl)) rfl ?_); clear S; intro a S
       refine l_want S rfl rfl rfl hb6 (lv S (rn_load Tryz.isAgg35 (S.tm rfl) (S.cell (i := 0) rfl rfl)) rfl ?_); clear S; intro a S
       refine l_want S rfl rfl rfl hb6 ?_
       obtain ⟨r1, hr1, h⟩ := bindE h
       refine l_enter S (fun _ => run_call (vs := [v_p_who, v_p_a4]) ⟨(S.tm rfl), (S.tm rfl), trivial⟩ Tryz.call58) (slices_Compare_string_ok _ v_p_who p_who (hs_p_who.mono (S.le_arg nil_sub)) v_p_a4 p_a4 (own_slcT enc_str S (i := 1) rfl (ne_nil (e' := .own v_p_a4 9 1 p_a4.length (p_a4.flatMap eStr)))) _ hr1) rfl ?_; clear S; intro v1 a w5 hv1 hk3 hn1 S
       subst hv1
       refine l_want S rfl rfl rfl hb6 (lv S (rn_lss (S.tm rfl) rfl) rfl ?_); clear S; intro a S
       refine l_want S rfl rfl rfl hb5 (lv S (rn_and_t hb6 (S.tm rfl) (S.tm rfl)) rfl ?_); clear S; intro a S
       refine l_done (then_n ?_)
       exact ⟨_, h, hk3, S.nf [true, true, true] rfl (subR rfl)⟩
      ·replace h := iteF h hb6
       iterate 4 (refine l_skip S rfl rfl rfl (neq_f hb6) rfl ?_ rfl; clear S; intro a S)
       refine l_want S rfl rfl rfl hb5 (lv S (rn_and_f true hb6 (S.tm rfl) rfl) rfl ?_); clear S; intro a S
       refine l_done (then_n ?_)
       exact ⟨_, h, Keep.refl _ _, S.nf [true, true, true] rfl (subR rfl)⟩
     clear S h; rintro a w4 ⟨c2, h, hk4, S⟩; rw [hj2] at h; clear hj2 j2
     refine lv S (rn_or_f hb5 (S.tm rfl) (S.tm rfl)) rfl ?_; clear S; intro a S
     refine l_done (then_n ?_)
     exact ⟨_, h, hk4, S.nf [true, true, true] rfl (subR rfl)⟩
   clear S h; rintro a w3 ⟨c1, h, hk5, S⟩; rw [hj1] at h; clear hj1 j1
   refine l_done (then_n ?_)
   obtain ⟨j3, hj3, h⟩ := joinE h
   refine f_join (fun a w' => ∃ x1 : List ByteArray, ∃ x2 : Int, ∃ v2 : Value, j3 x1 x2 = some r ∧ (x1 = [] → v2 = .slice none 0 0) ∧ Sx w X nov [.blk b_p_a4 [v2] 35, .own v2 9 1 x1.length (x1.flatMap eStr), .blk b_p_a5 [iV x2] 3] [] 86 a w') ?_ ?_
   ·refine f_cond (S.tm rfl) (fun hb7 => ?_) (fun hb7 => ?_)
    ·replace h := iteT h hb7
     refine f_region (lv S (rn_move (S.tm rfl)) rfl ?_); clear S; intro a S
     obtain ⟨r2, hr2, h⟩ := bindE h
     have hz2 := S.keep.size
     refine l_enter S (fun _ => run_call (vs := [v_p_who]) ⟨(S.tm rfl), trivial⟩ Tryz.call59) (slices_Clone_string_ok _ v_p_who p_who (hs_p_who.mono (S.le_arg nil_sub)) _ hr2) rfl ?_; clear S; intro v3 a w7 hv2 hk6 hn2 S
     replace S := S.take hn2 hz2 hv2
     refine lv S (rn_move (S.tm rfl)) rfl ?_; clear S; intro a S
     obtain ⟨hc1, h⟩ := chkE h
     refine l_store S (S.tm rfl) (S.tm rfl) (i := 1) (off := 0) rfl Tryz.sizeOf35 (vs := [v3]) (SlcLen.cells (own_len (S.own_at (i := 0) rfl))) rfl rfl (all1 (SlcLen.one (own_len (S.own_at (i := 0) rfl))) rfl) ?_; clear S; intro w8 hk7 S
     refine l_store S (S.tm rfl) (S.tm rfl) (i := 3) (off := 0) rfl Tryz.sizeOf3 (vs := [iV p_sum]) rfl rfl rfl rfl ?_; clear S; intro w9 hk8 S
     refine l_done (then_n ?_)
     exact ⟨r2, p_sum, v3, h, (nz_of hc1), S.pn [1, 0, 3] [2] rfl rfl trivial⟩
    ·replace h := iteF h hb7
     refine wp_skip (then_n ?_)
     exact ⟨p_a4, p_a5, v_p_a4, h, hz_v_p_a4, S.nf [true, true, true] rfl trivial⟩
   clear S h; rintro a w6 ⟨x1, x2, v2, h, hz1, S⟩; rw [hj3] at h; clear hj3 j3
   refine then_n (wp_ret (then_r ?_))
   obtain rfl := Option.some.inj h
   exact f_ret0 S Tryz.results57 ⟨v2, S.grp [0, 1, 2] [] rfl rfl rfl, hz1, rfl⟩
  ·replace h := iteF h hb3
   refine wp_skip (then_n (f_seq (f_region (lv S (rn_ld Tryz.isAgg54 (off := 0) (o := 0) (S.tm rfl) ((mem_blk hb_b_p_a6).at S.emb0) rfl) rfl ?_)))); clear S; intro a S
   refine lv S (rn_lenT sl_54 (S.tm rfl) (slc_lenD hs_p_a6 hr_p_a6)) rfl ?_; clear S; intro a S
   refine lv S (rn_move rfl) rfl ?_; clear S; intro a S
   refine l_done (then_n ?_)
   replace S := S.nk [.blk b_p_a4 [v_p_a4] 35, .own v_p_a4 9 1 p_a4.length (p_a4.flatMap eStr), .blk b_p_a5 [iV p_a5] 3] [(0, v_p_who), (1, iV p_sum), (2, iV p_few), (7, .pointer (some ⟨b_p_a7, 0, none⟩)), (46, v_p_a6), (47, iV (p_a6.length : Int)), (48, iV 0)] [true, true, true] rfl (subR rfl)
   obtain ⟨j4, hj4, h⟩ := joinE h
   refine f_join (fun a w' => ∃ x3 : List ByteArray, ∃ x4 : Int, ∃ v4 : Value, j4 x3 x4 = some r ∧ (x3 = [] → v4 = .slice none 0 0) ∧ Sx w X nov [.blk b_p_a4 [v4] 35, .own v4 9 1 x3.length (x3.flatMap eStr), .blk b_p_a5 [iV x4] 3] [] 86 a w') ?_ ?_
   ·refine wp_block (f_loop (fun (ys1 : List GLeg) a w' => ∃ i1 : Nat, ∃ x3 : List ByteArray, ∃ x4 : Int, ∃ v4 : Value, (∃ dn, p_a6 = dn ++ ys1 ∧ dn.length = i1) ∧ tumbref2_FastestOf_c1_l1 p_who self p_sum p_a3 p_a6 p_few j4 ys1 i1 x3 x4 = some r ∧ (x3 = [] → v4 = .slice none 0 0) ∧ Sx w X nov [.blk b_p_a4 [v4] 35, .own v4 9 1 x3.length (x3.flatMap eStr), .blk b_p_a5 [iV x4] 3] [(0, v_p_who), (1, iV p_sum), (2, iV p_few), (7, .pointer (some ⟨b_p_a7, 0, none⟩)), (46, v_p_a6), (47, iV (p_a6.length : Int)), (48, iV (i1 : Int))] 86 a w') List.length p_a6 ⟨0, p_a4, p_a5, v_p_a4, ⟨[], rfl, rfl⟩, h, hz_v_p_a4, S.nf [true, true, true] rfl (subR rfl)⟩ ?_)
    clear S h; rintro ys1 a w10 ⟨i1, x3, x4, v4, ⟨dn, hd1, hi1⟩, h, hz3, S⟩
    cases ys1 with
    | nil =>
     rw [tumbref2_FastestOf_c1_l1.eq_1] at h
     refine f_seq (f_region (lv S (rn_lss (S.tm rfl) (S.tm rfl)) rfl ?_)); clear S; intro a S
     refine l_done ?_
     replace S := S.nk [.blk b_p_a4 [v4] 35, .own v4 9 1 x3.length (x3.flatMap eStr), .blk b_p_a5 [iV x4] 3] [(0, v_p_who), (1, iV p_sum), (2, iV p_few), (7, .pointer (some ⟨b_p_a7, 0, none⟩)), (46, v_p_a6), (47, iV (p_a6.length : Int)), (48, iV (i1 : Int)), (49, bV (decide ((i1 : Int) < (p_a6.length : Int))))] [true, true, true] rfl (subR rfl)
     refine then_n (f_seq (wp_cond_false ((S.tm rfl).trans (congrArg Value.bool (rng_nil hd1 hi1))) (wp_exit (then_x (then_x (x_same ?_))))))
     refine then_n ?_
     exact ⟨x3, x4, v4, h, hz3, S.nf [true, true, true] rfl trivial⟩
    | cons y1 ys1 =>
     rw [tumbref2_FastestOf_c1_l1.eq_2] at h
     refine f_seq (f_region (lv S (rn_lss (S.tm rfl) (S.tm rfl)) rfl ?_)); clear S; intro a S
     refine l_done ?_
     replace S := S.nk [.blk b_p_a4 [v4] 35, .own v4 9 1 x3.length (x3.flatMap eStr), .blk b_p_a5 [iV x4] 3] [(0, v_p_who), (1, iV p_sum), (2, iV p_few), (7, .pointer (some ⟨b_p_a7, 0, none⟩)), (46, v_p_a6), (47, iV (p_a6.length : Int)), (48, iV (i1 : Int)), (49, bV (decide ((i1 : Int) < (p_a6.length : Int))))] [true, true, true] rfl (subR rfl)
     refine then_n (f_seq (wp_cond_true ((S.tm rfl).trans (congrArg Value.bool (rng_cons hd1 hi1))) (wp_skip (then_n (f_seq ?_)))))
     obtain ⟨j5, hj5, h⟩ := joinE h
     refine f_join (fun a w' => ∃ x5 : List ByteArray, ∃ x6 : Int, ∃ v5 : Value, j5 x5 x6 = some r ∧ (x5 = [] → v5 = .slice none 0 0) ∧ Sx w X nov [.blk b_p_a4 [v5] 35, .own v5 9 1 x5.length (x5.flatMap eStr), .blk b_p_a5 [iV x6] 3] [(0, v_p_who), (1, iV p_sum), (2, iV p_few), (7, .pointer (some ⟨b_p_a7, 0, none⟩)), (46, v_p_a6), (47, iV (p_a6.length : Int)), (48, iV (i1 : Int))] 86 a w') ?_ ?_
     ·refine wp_block (f_seq (f_region ?_))
      obtain ⟨r3, hg1, hl1⟩ := All2.at hr_p_a6 (get_mid hd1 hi1)
      obtain ⟨u2, rfl, hs1⟩ := hl1
      obtain ⟨b1, o1, hm1, hr3⟩ := rn_indexT (a := a) (x := .tmp 46) (y := .tmp 48) (ty := 0) sl_54 hs_p_a6 hg1 rfl (S.tm rfl) (S.tm rfl)
      refine lv S (hr3 _) rfl ?_; clear S; intro a S
      clear hr3
      refine lv S (rn_ldA Tryz.isAgg91 Tryz.sizeOf91 (off := o1) (o := 0) (part := [sV y1.Who, u2.val]) rfl rfl (S.tm rfl) (hm1.at S.emb0)) rfl ?_; clear S; intro a S
      refine l_alloc S Tryz.zeroValue91 (cs := [sV k_empty, .slice none 0 0]) rfl rfl ?_; clear S; intro a w13 b2 hz5 hk9 S
      refine l_store S (S.tm rfl) (S.tm rfl) (i := 0) (off := 0) rfl Tryz.sizeOf91 (vs := [sV y1.Who, u2.val]) rfl rfl rfl (all1 rfl (all1 (SlcLen.one (slc_len hs1)) rfl)) ?_; clear S; intro w14 hk10 S
      refine l_done (then_n (f_seq (f_region (lv S (rn_fld fa_91_1 (S.tm rfl)) rfl ?_)))); clear S; intro a S
      refine lv S (rn_load Tryz.isAgg22 (S.tm rfl) (S.cell (i := 0) rfl rfl)) rfl ?_; clear S; intro a S
      refine lv S (rn_move (S.tm rfl)) rfl ?_; clear S; intro a S
      refine lv S (rn_lenT sl_35 (S.tm rfl) (slc_len hs_p_who)) rfl ?_; clear S; intro a S
      obtain ⟨hc2, h⟩ := chkE h
      obtain ⟨b3, o2, hm2, hr4⟩ := rn_indexT (a := a) (x := .tmp 53) (y := .tmp 55) (ty := 0) sl_22 hs1 (inB_get hc2).1 (inB_get hc2).2 (S.tm rfl) (S.tm rfl)
      refine lv S (hr4 _) rfl ?_; clear S; intro a S
      clear hr4
      refine lv S (rn_ld Tryz.isAgg3 (off := o2) (o := 0) (S.tm rfl) (hm2.at S.emb0) rfl) rfl ?_; clear S; intro a S
      refine lv S (rn_assign (S.tm rfl)) rfl ?_; clear S; intro a S
      refine l_done ?_
      replace S := S.nk [.blk b2 [sV y1.Who, u2.val] 91, .blk b_p_a4 [v4] 35, .own v4 9 1 x3.length (x3.flatMap eStr), .blk b_p_a5 [iV x4] 3] [(0, v_p_who), (1, iV p_sum), (2, iV p_few), (7, .pointer (some ⟨b_p_a7, 0, none⟩)), (12, .pointer (some ⟨b2, 0, none⟩)), (13, iV (nth y1.Times (p_who.length : Int))), (46, v_p_a6), (47, iV (p_a6.length : Int)), (48, iV (i1 : Int))] [true, true, true, true] rfl (subR rfl)
      refine then_n (f_seq (f_seq (f_region (lv S (rn_move (S.tm rfl)) rfl ?_)))); clear S; intro a S
      refine lv S (rn_eql (S.tm rfl) rfl) rfl ?_; clear S; intro a S
      refine lv S (rn_move (S.tm rfl)) rfl ?_; clear S; intro a S
      refine f_cutm 5 (fun a w' => Keep [] w14 w' ∧ Sx w X nov [.blk b2 [sV y1.Who, u2.val] 91, .blk b_p_a4 [v4] 35, .own v4 9 1 x3.length (x3.flatMap eStr), .blk b_p_a5 [iV x4] 3] [(0, v_p_who), (1, iV p_sum), (2, iV p_few), (7, .pointer (some ⟨b_p_a7, 0, none⟩)), (12, .pointer (some ⟨b2, 0, none⟩)), (13, iV (nth y1.Times (p_who.length : Int))), (46, v_p_a6), (47, iV (p_a6.length : Int)), (48, iV (i1 : Int)), (65, bV ((decide ((nth y1.Times (p_who.length : Int)) = 0)) || (slices_Contains_string p_who y1.Who)))] 86 a w') ?_ ?_
      ·rcases Bool.eq_false_or_eq_true (decide ((nth y1.Times (p_who.length : Int)) = 0)) with hb8 | hb8
       ·iterate 4 (refine l_skip S rfl rfl rfl (neq_t hb8) rfl ?_ rfl; clear S; intro a S)
        refine lv S (rn_or_t (slices_Contains_string p_who y1.Who) hb8 (S.tm rfl) rfl) rfl ?_; clear S; intro a S
        refine l_done (then_n ?_)
        exact ⟨Keep.refl _ _, S.nf [true, true, true, true] rfl (subR rfl)⟩
       ·refine l_want S rfl rfl rfl hb8 (lv S (rn_move (S.tm rfl)) rfl ?_); clear S; intro a S
        refine l_want S rfl rfl rfl hb8 (lv S (rn_fld fa_91_0 (S.tm rfl)) rfl ?_); clear S; intro a S
        refine l_want S rfl rfl rfl hb8 (lv S (rn_load Tryz.isAgg9 (S.tm rfl) (S.cell (i := 0) rfl rfl)) rfl ?_); clear S; intro a S
        refine l_want S rfl rfl rfl hb8 (l_enter S (fun _ => run_call (vs := [v_p_who, sV y1.Who]) ⟨(S.tm rfl), (S.tm rfl), trivial⟩ Tryz.call48) (slices_Contains_string_ok _ v_p_who p_who (hs_p_who.mono (S.le_arg nil_sub)) y1.Who _ rfl) rfl ?_); clear S; intro v6 a w16 hv3 hk11 hn3 S
        subst hv3
        refine lv S (rn_or_f hb8 (S.tm rfl) (S.tm rfl)) rfl ?_; clear S; intro a S
        refine l_done (then_n ?_)
        exact ⟨hk11, S.nf [true, true, true, true] rfl (subR rfl)⟩
      clear S; rintro a w15 ⟨hk12, S⟩
      refine l_done (then_n (f_cond (S.tm rfl) (fun hb9 => ?_) (fun hb9 => ?_)))
      ·replace h := iteT h hb9
       refine wp_exit (then_x (x_same (then_n ?_)))
       exact ⟨x3, x4, v4, h, hz3, S.nf [false, true, true, true] rfl (subR rfl)⟩
      ·replace h := iteF h hb9
       refine wp_skip (then_n (f_seq (f_region (lv S (rn_move (S.tm rfl)) rfl ?_)))); clear S; intro a S
       refine lv S (rn_assign (S.tm rfl)) rfl ?_; clear S; intro a S
       refine l_done (then_n (f_seq (f_seq (f_region (lv S (rn_fld fa_91_0 (S.tm rfl)) rfl ?_))))); clear S; intro a S
       refine lv S (rn_load Tryz.isAgg9 (S.tm rfl) (S.cell (i := 0) rfl rfl)) rfl ?_; clear S; intro a S
       obtain ⟨hc3, h⟩ := chkE h
       refine lv S (rn_sindexT Tryz.underlying9 (S.tm rfl) rfl hc3) rfl ?_; clear S; intro a S
       refine lv S (rn_eql (S.tm rfl) rfl) rfl ?_; clear S; intro a S
       refine l_done ?_
       replace S := S.nk [.blk b2 [sV y1.Who, u2.val] 91, .blk b_p_a4 [v4] 35, .own v4 9 1 x3.length (x3.flatMap eStr), .blk b_p_a5 [iV x4] 3] [(0, v_p_who), (1, iV p_sum), (2, iV p_few), (7, .pointer (some ⟨b_p_a7, 0, none⟩)), (12, .pointer (some ⟨b2, 0, none⟩)), (13, iV (nth y1.Times (p_who.length : Int))), (14, iV p_few), (46, v_p_a6), (47, iV (p_a6.length : Int)), (48, iV (i1 : Int)), (70, bV (decide ((sbyte y1.Who 0) = 120)))] [true, true, true, true] rfl (subR rfl)
       refine then_n ?_
       obtain ⟨j6, hj6, h⟩ := joinE h
       refine f_join (fun a w' => ∃ x7 : Int, j6 x7 = some r ∧ Sx w X nov [.blk b2 [sV y1.Who, u2.val] 91, .blk b_p_a4 [v4] 35, .own v4 9 1 x3.length (x3.flatMap eStr), .blk b_p_a5 [iV x4] 3] [(0, v_p_who), (1, iV p_sum), (2, iV p_few), (7, .pointer (some ⟨b_p_a7, 0, none⟩)), (12, .pointer (some ⟨b2, 0, none⟩)), (13, iV (nth y1.Times (p_who.length : Int))), (14, iV x7), (46, v_p_a6), (47, iV (p_a6.length : Int)), (48, iV (i1 : Int))] 86 a w') ?_ ?_
       ·refine f_cond (S.tm rfl) (fun hb10 => ?_) (fun hb10 => ?_)
        ·replace h := iteT h hb10
         refine f_region (lv S (rn_move (S.tm rfl)) rfl ?_); clear S; intro a S
         refine lv S (rn_add (S.tm rfl) rfl) rfl ?_; clear S; intro a S
         refine lv S (rn_assign (S.tm rfl)) rfl ?_; clear S; intro a S
         refine l_done (then_n ?_)
         exact ⟨W (p_few + 1), h, S.nf [true, true, true, true] rfl (subR rfl)⟩
        ·replace h := iteF h hb10
         refine wp_skip (then_n ?_)
         exact ⟨p_few, h, S.nf [true, true, true, true] rfl (subR rfl)⟩
       clear S h; rintro a w17 ⟨x7, h, S⟩; rw [hj6] at h; clear hj6 j6
       refine then_n ?_
       obtain ⟨j7, hj7, h⟩ := joinE h
       refine f_join (fun a w' => ∃ x8 : List ByteArray, ∃ x9 : Int, ∃ v7 : Value, j7 x8 x9 = some r ∧ (x8 = [] → v7 = .slice none 0 0) ∧ Sx w X nov [.blk b_p_a4 [v7] 35, .own v7 9 1 x8.length (x8.flatMap eStr), .blk b_p_a5 [iV x9] 3] [(0, v_p_who), (1, iV p_sum), (2, iV p_few), (7, .pointer (some ⟨b_p_a7, 0, none⟩)), (46, v_p_a6), (47, iV (p_a6.length : Int)), (48, iV (i1 : Int))] 86 a w') ?_ ?_
       ·obtain ⟨r4, hr5, h⟩ := bindE h
        obtain ⟨hc4, h⟩ := chkE h
        obtain ⟨r5, hr6, h⟩ := bindE h
        refine d_region [] (v4.ownBlock.toList ++ ([b_p_a4] ++ [b_p_a5])) Tryz.mixed S rfl (by kernel_rfl) ?_; clear S; intro w23 hk17 hsel S
        refine d_quiet 0 S hsel rfl rfl rfl (by kernel_rfl) (by kernel_rfl) rfl (fun _ hw => (rn_ld Tryz.isAgg97 (off := 0) (o := 0) (S.tm rfl) (((mem_blk hb_b_p_a7).mono (S.le_arg (app_sub (fp_sub (i := 2) (e := .own v4 9 1 x3.length (x3.flatMap eStr)) rfl) (app_sub (fp_sub (i := 1) (e := .blk b_p_a4 [v4] 35) rfl) (fp_sub (i := 3) (e := .blk b_p_a5 [iV x4] 3) rfl))))).kept hw) rfl)) ?_; clear S; intro a S
        refine d_quiet 1 S hsel rfl rfl rfl (by kernel_rfl) (by kernel_rfl) rfl (fun _ hw => (rn_move (S.tm rfl))) ?_; clear S; intro a S
        refine d_quiet 3 S hsel rfl rfl rfl (by kernel_rfl) (by kernel_rfl) rfl (fun _ hw => (rn_fld fa_91_0 (S.tm rfl))) ?_; clear S; intro a S
        refine d_quiet 4 S hsel rfl rfl rfl (by kernel_rfl) (by kernel_rfl) rfl (fun _ hw => (rn_ld Tryz.isAgg9 (off := 0) (o := 0) (S.tm rfl) ((S.blk_mem (i := 0) (cells := [sV y1.Who, u2.val]) (b := b2) (T := 91) rfl (ne_app (ne_fp (i := 2) (j := 0) (e := .own v4 9 1 x3.length (x3.flatMap eStr)) (e' := .blk b2 [sV y1.Who, u2.val] 91) S rfl rfl rfl) (ne_app (ne_fp (i := 1) (j := 0) (e := .blk b_p_a4 [v4] 35) (e' := .blk b2 [sV y1.Who, u2.val] 91) S rfl rfl rfl) (ne_fp (i := 3) (j := 0) (e := .blk b_p_a5 [iV x4] 3) (e' := .blk b2 [sV y1.Who, u2.val] 91) S rfl rfl rfl)))).kept hw) rfl)) ?_; clear S; intro a S
        refine d_quiet 7 S hsel rfl rfl rfl (by kernel_rfl) (by kernel_rfl) rfl (fun _ hw => (rn_move (S.tm rfl))) ?_; clear S; intro a S
        refine d_quiet 8 S hsel rfl rfl rfl (by kernel_rfl) (by kernel_rfl) rfl (fun _ hw => (rn_move (S.tm rfl))) ?_; clear S; intro a S
        refine d_quiet 9 S hsel rfl rfl rfl (by kernel_rfl) (by kernel_rfl) rfl (fun _ hw => (rn_add (S.tm rfl) (S.tm rfl))) ?_; clear S; intro a S
        refine d_quiet 10 S hsel rfl rfl rfl (by kernel_rfl) (by kernel_rfl) rfl (fun _ hw => (rn_move (S.tm rfl))) ?_; clear S; intro a S
        refine d_loud2 2 5 (by kernel_rfl) rfl rfl ?_ ?_
        ·have hz10 := S.keep.size
         refine l_enter S (fun _ => run_call (vs := [v_p_who]) ⟨(S.tm rfl), trivial⟩ Tryz.call59) (slices_Clone_string_ok _ v_p_who p_who (hs_p_who.mono (S.le_arg nil_sub)) _ hr5) rfl ?_; clear S; intro v12 a w24 hv6 hk18 hn6 S
         replace S := S.take hn6 hz10 hv6
         refine l_done (d_nextN (v12.ownBlock.toList ++ (v4.ownBlock.toList ++ ([b_p_a4] ++ [b_p_a5]))) (Keep.none hk18) (newOA hv6) (d_loud1 5 (by kernel_rfl) rfl (l_buildSlice S Tryz.underlying35 Tryz.sizeOf9 Tryz.zeroValue9 rfl rfl (pv := [(0, sV y1.Who)]) ⟨rfl, (S.tm rfl), trivial⟩ (cs := [sV y1.Who]) (by kernel_rfl) rfl ?_))); clear S; intro a w25 b5 hz11 hk19 S
         refine l_done (d_next (Keep.none hk19) (d_loud1 6 (by kernel_rfl) rfl ?_))
         refine l_appendT sl_35 enc_str S (S.tm rfl) (i := 1) rfl (S.tm rfl) (j := 0) rfl (ys := [y1.Who]) rfl rfl rfl rfl (by have := room_lt hc4; omega) rfl ?_; clear S; intro v13 a w26 hk20 S
         refine l_done ?_
         refine d_next (hk20.sub (by intro y hy; simp at hy ⊢; simp [hy])) ?_
         refine d_loud1 11 (by kernel_rfl) rfl (l_enterG [3, 4, 5] [0, 1, 2] (Ls := [.blk b_p_a4 [v4] 35, .own v4 9 1 x3.length (x3.flatMap eStr), .blk b_p_a5 [iV x4] 3]) (Lr := [.blk b5 [sV y1.Who] 9, .own v13 9 1 (r4 ++ [y1.Who]).length ((r4 ++ [y1.Who]).flatMap eStr), .blk b2 [sV y1.Who, u2.val] 91]) (Y := [b_p_a4] ++ (v4.ownBlock.toList ++ [b_p_a5])) S rfl rfl rfl (by simp [fps_cons, fps_nil, LEnt.fp]) (fun _ => run_callV (cap := [.pointer (some ⟨b_p_a3, 0, none⟩), .pointer (some ⟨b_p_a4, 0, none⟩), .pointer (some ⟨b_p_a5, 0, none⟩), .pointer (some ⟨b_p_a6, 0, none⟩), .pointer (some ⟨b_p_a7, 0, none⟩)]) (S.tm rfl) (vs := [v13, iV (W (p_sum + (nth y1.Times (p_who.length : Int)))), iV x7]) ⟨(S.tm rfl), (S.tm rfl), (S.tm rfl), trivial⟩ Tryz.call57) (hself _ ([b_p_a4] ++ (v4.ownBlock.toList ++ [b_p_a5])) v13 (r4 ++ [y1.Who]) (own_slcT enc_str S (i := 1) rfl (ne_app (ne_fp (i := 3) (j := 1) (e := .blk b_p_a4 [v4] 35) (e' := .own v13 9 1 (r4 ++ [y1.Who]).length ((r4 ++ [y1.Who]).flatMap eStr)) S rfl rfl rfl) (ne_app (ne_fp (i := 4) (j := 1) (e := .own v4 9 1 x3.length (x3.flatMap eStr)) (e' := .own v13 9 1 (r4 ++ [y1.Who]).length ((r4 ++ [y1.Who]).flatMap eStr)) S rfl rfl rfl) (ne_fp (i := 5) (j := 1) (e := .blk b_p_a5 [iV x4] 3) (e' := .own v13 9 1 (r4 ++ [y1.Who]).length ((r4 ++ [y1.Who]).flatMap eStr)) S rfl rfl rfl)))) (W (p_sum + (nth y1.Times (p_who.length : Int)))) x7 b_p_a3 p_a3 ((S.le_arg (app_sub (fp_sub (i := 3) (e := .blk b_p_a4 [v4] 35) rfl) (app_sub (fp_sub (i := 4) (e := .own v4 9 1 x3.length (x3.flatMap eStr)) rfl) (fp_sub (i := 5) (e := .blk b_p_a5 [iV x4] 3) rfl)))) _ _ hb_b_p_a3) b_p_a4 v4 x3 (S.holds _ (List.mem_of_getElem? (i := 4) rfl)) hz3 (S.holds _ (List.mem_of_getElem? (i := 3) rfl)) b_p_a5 x4 (S.holds _ (List.mem_of_getElem? (i := 5) rfl)) b_p_a6 v_p_a6 p_a6 rs_p_a6 (hs_p_a6.mono (S.le_arg (app_sub (fp_sub (i := 3) (e := .blk b_p_a4 [v4] 35) rfl) (app_sub (fp_sub (i := 4) (e := .own v4 9 1 x3.length (x3.flatMap eStr)) rfl) (fp_sub (i := 5) (e := .blk b_p_a5 [iV x4] 3) rfl))))) (rels_91 (S.le_arg (app_sub (fp_sub (i := 3) (e := .blk b_p_a4 [v4] 35) rfl) (app_sub (fp_sub (i := 4) (e := .own v4 9 1 x3.length (x3.flatMap eStr)) rfl) (fp_sub (i := 5) (e := .blk b_p_a5 [iV x4] 3) rfl)))) hr_p_a6) ((S.le_arg (app_sub (fp_sub (i := 3) (e := .blk b_p_a4 [v4] 35) rfl) (app_sub (fp_sub (i := 4) (e := .own v4 9 1 x3.length (x3.flatMap eStr)) rfl) (fp_sub (i := 5) (e := .blk b_p_a5 [iV x4] 3) rfl)))) _ _ hb_b_p_a6) b_p_a7 ((S.le_arg (app_sub (fp_sub (i := 3) (e := .blk b_p_a4 [v4] 35) rfl) (app_sub (fp_sub (i := 4) (e := .own v4 9 1 x3.length (x3.flatMap eStr)) rfl) (fp_sub (i := 5) (e := .blk b_p_a5 [iV x4] 3) rfl)))) _ _ hb_b_p_a7) (S.ndg [3, 4, 5] [0, 1, 2] rfl rfl rfl (by simp [fps_cons, fps_nil, LEnt.fp])) (by simp [fps_cons, fps_nil, LEnt.fp]) _ hr6) rfl ?_); clear S; intro v14 a w27 hv7 hk21 hn7 S
         obtain ⟨v15, hg3, hz12, hv7⟩ := hv7; replace S := S _ hg3; clear hg3
         subst hv7
         refine l_done ?_
         refine d_next (hk21.sub (by intro y hy; simp at hy ⊢; rcases hy with hy | hy | hy <;> simp [hy])) ?_
         refine d_end (by kernel_rfl) ?_
         clear hsel
         replace S := S.nk [.blk b_p_a4 [v15] 35, .own v15 9 1 r5.1.length (r5.1.flatMap eStr), .blk b_p_a5 [iV r5.2] 3] [(0, v_p_who), (1, iV p_sum), (2, iV p_few), (7, .pointer (some ⟨b_p_a7, 0, none⟩)), (46, v_p_a6), (47, iV (p_a6.length : Int)), (48, iV (i1 : Int))] [true, true, true, false, false, false] rfl (subR rfl)
         refine then_n ?_
         exact ⟨r5.1, r5.2, v15, h, hz12, S.nf [true, true, true] rfl (subR rfl)⟩
        ·refine l_buildSlice S Tryz.underlying35 Tryz.sizeOf9 Tryz.zeroValue9 rfl rfl (pv := [(0, sV y1.Who)]) ⟨rfl, (S.tm rfl), trivial⟩ (cs := [sV y1.Who]) (by kernel_rfl) rfl ?_; clear S; intro a w28 b6 hz13 hk22 S
         refine l_done (d_next (Keep.none hk22) (d_loud1 2 (by kernel_rfl) rfl ?_))
         have hz14 := S.keep.size
         refine l_enter S (fun _ => run_call (vs := [v_p_who]) ⟨(S.tm rfl), trivial⟩ Tryz.call59) (slices_Clone_string_ok _ v_p_who p_who (hs_p_who.mono (S.le_arg nil_sub)) _ hr5) rfl ?_; clear S; intro v16 a w29 hv8 hk23 hn8 S
         replace S := S.take hn8 hz14 hv8
         refine l_done (d_nextN (v16.ownBlock.toList ++ (v4.ownBlock.toList ++ ([b_p_a4] ++ [b_p_a5]))) (Keep.none hk23) (newOA hv8) (d_loud1 6 (by kernel_rfl) rfl ?_))
         refine l_appendT sl_35 enc_str S (S.tm rfl) (i := 0) rfl (S.tm rfl) (j := 1) rfl (ys := [y1.Who]) rfl rfl rfl rfl (by have := room_lt hc4; omega) rfl ?_; clear S; intro v17 a w30 hk24 S
         refine l_done ?_
         refine d_next (hk24.sub (by intro y hy; simp at hy ⊢; simp [hy])) ?_
         refine d_loud1 11 (by kernel_rfl) rfl (l_enterG [3, 4, 5] [0, 1, 2] (Ls := [.blk b_p_a4 [v4] 35, .own v4 9 1 x3.length (x3.flatMap eStr), .blk b_p_a5 [iV x4] 3]) (Lr := [.own v17 9 1 (r4 ++ [y1.Who]).length ((r4 ++ [y1.Who]).flatMap eStr), .blk b6 [sV y1.Who] 9, .blk b2 [sV y1.Who, u2.val] 91]) (Y := [b_p_a4] ++ (v4.ownBlock.toList ++ [b_p_a5])) S rfl rfl rfl (by simp [fps_cons, fps_nil, LEnt.fp]) (fun _ => run_callV (cap := [.pointer (some ⟨b_p_a3, 0, none⟩), .pointer (some ⟨b_p_a4, 0, none⟩), .pointer (some ⟨b_p_a5, 0, none⟩), .pointer (some ⟨b_p_a6, 0, none⟩), .pointer (some ⟨b_p_a7, 0, none⟩)]) (S.tm rfl) (vs := [v17, iV (W (p_sum + (nth y1.Times (p_who.length : Int)))), iV x7]) ⟨(S.tm rfl), (S.tm rfl), (S.tm rfl), trivial⟩ Tryz.call57) (hself _ ([b_p_a4] ++ (v4.ownBlock.toList ++ [b_p_a5])) v17 (r4 ++ [y1.Who]) (own_slcT enc_str S (i := 0) rfl (ne_app (ne_fp (i := 3) (j := 0) (e := .blk b_p_a4 [v4] 35) (e' := .own v17 9 1 (r4 ++ [y1.Who]).length ((r4 ++ [y1.Who]).flatMap eStr)) S rfl rfl rfl) (ne_app (ne_fp (i := 4) (j := 0) (e := .own v4 9 1 x3.length (x3.flatMap eStr)) (e' := .own v17 9 1 (r4 ++ [y1.Who]).length ((r4 ++ [y1.Who]).flatMap eStr)) S rfl rfl rfl) (ne_fp (i := 5) (j := 0) (e := .blk b_p_a5 [iV x4] 3) (e' := .own v17 9 1 (r4 ++ [y1.Who]).length ((r4 ++ [y1.Who]).flatMap eStr)) S rfl rfl rfl)))) (W (p_sum + (nth y1.Times (p_who.length : Int)))) x7 b_p_a3 p_a3 ((S.le_arg (app_sub (fp_sub (i := 3) (e := .blk b_p_a4 [v4] 35) rfl) (app_sub (fp_sub (i := 4) (e := .own v4 9 1 x3.length (x3.flatMap eStr)) rfl) (fp_sub (i := 5) (e := .blk b_p_a5 [iV x4] 3) rfl)))) _ _ hb_b_p_a3) b_p_a4 v4 x3 (S.holds _ (List.mem_of_getElem? (i := 4) rfl)) hz3 (S.holds _ (List.mem_of_getElem? (i := 3) rfl)) b_p_a5 x4 (S.holds _ (List.mem_of_getElem? (i := 5) rfl)) b_p_a6 v_p_a6 p_a6 rs_p_a6 (hs_p_a6.mono (S.le_arg (app_sub (fp_sub (i := 3) (e := .blk b_p_a4 [v4] 35) rfl) (app_sub (fp_sub (i := 4) (e := .own v4 9 1 x3.length (x3.flatMap eStr)) rfl) (fp_sub (i := 5) (e := .blk b_p_a5 [iV x4] 3) rfl))))) (rels_91 (S.le_arg (app_sub (fp_sub (i := 3) (e := .blk b_p_a4 [v4] 35) rfl) (app_sub (fp_sub (i := 4) (e := .own v4 9 1 x3.length (x3.flatMap eStr)) rfl) (fp_sub (i := 5) (e := .blk b_p_a5 [iV x4] 3) rfl)))) hr_p_a6) ((S.le_arg (app_sub (fp_sub (i := 3) (e := .blk b_p_a4 [v4] 35) rfl) (app_sub (fp_sub (i := 4) (e := .own v4 9 1 x3.length (x3.flatMap eStr)) rfl) (fp_sub (i := 5) (e := .blk b_p_a5 [iV x4] 3) rfl)))) _ _ hb_b_p_a6) b_p_a7 ((S.le_arg (app_sub (fp_sub (i := 3) (e := .blk b_p_a4 [v4] 35) rfl) (app_sub (fp_sub (i := 4) (e := .own v4 9 1 x3.length (x3.flatMap eStr)) rfl) (fp_sub (i := 5) (e := .blk b_p_a5 [iV x4] 3) rfl)))) _ _ hb_b_p_a7) (S.ndg [3, 4, 5] [0, 1, 2] rfl rfl rfl (by simp [fps_cons, fps_nil, LEnt.fp])) (by simp [fps_cons, fps_nil, LEnt.fp]) _ hr6) rfl ?_); clear S; intro v18 a w31 hv9 hk25 hn9 S
         obtain ⟨v19, hg4, hz15, hv9⟩ := hv9; replace S := S _ hg4; clear hg4
         subst hv9
         refine l_done ?_
         refine d_next (hk25.sub (by intro y hy; simp at hy ⊢; rcases hy with hy | hy | hy <;> simp [hy])) ?_
         refine d_end (by kernel_rfl) ?_
         clear hsel
         replace S := S.nk [.blk b_p_a4 [v19] 35, .own v19 9 1 r5.1.length (r5.1.flatMap eStr), .blk b_p_a5 [iV r5.2] 3] [(0, v_p_who), (1, iV p_sum), (2, iV p_few), (7, .pointer (some ⟨b_p_a7, 0, none⟩)), (46, v_p_a6), (47, iV (p_a6.length : Int)), (48, iV (i1 : Int))] [true, true, true, false, false, false] rfl (subR rfl)
         refine then_n ?_
         exact ⟨r5.1, r5.2, v19, h, hz15, S.nf [true, true, true] rfl (subR rfl)⟩
       clear S h; rintro a w18 ⟨x8, x9, v7, h, hz6, S⟩; rw [hj7] at h; clear hj7 j7
       refine blk_n (then_n ?_)
       exact ⟨x8, x9, v7, h, hz6, S.nf [true, true, true] rfl (subR rfl)⟩
     clear S h; rintro a w12 ⟨x5, x6, v5, h, hz4, S⟩; rw [hj5] at h; clear hj5 j5
     refine then_n (f_region (lv S (rn_add (S.tm rfl) rfl) rfl ?_)); clear S; intro a S
     refine lv S (rn_move (S.tm rfl)) rfl ?_; clear S; intro a S
     refine l_done (then_n ?_)
     exact ⟨ys1, ⟨i1 + 1, x5, x6, v5, ⟨_, (hd1).trans (List.append_cons _ _ _), by simp [hi1]⟩, h, hz4, S.nf [true, true, true] rfl ⟨rfl, rfl, rfl, rfl, rfl, rfl, (congrArg (fun z => some (Value.int .i64 z)) (rng_next hd1 hi1 (slc_maxD hs_p_a6 hr_p_a6))), trivial⟩⟩, Nat.lt_succ_self _⟩
   clear S h; rintro a w11 ⟨x3, x4, v4, h, hz3, S⟩; rw [hj4] at h; clear hj4 j4
   obtain rfl := Option.some.inj h
   exact f_ret0 S Tryz.results57 ⟨v4, S.grp [0, 1, 2] [] rfl rfl rfl, hz3, rfl⟩
theorem tumbref2_FastestOf_c1_ok (m : Nat) : ∀ (w : World) (X : List Nat) (v_p_who : Value) (p_who : List ByteArray) (_ : Slc (view w X) 1 v_p_who (p_who.map eStr)) (p_sum : Int) (p_few : Int) (b_p_a3 : Nat) (p_a3 : Int) (_ : (view w X) b_p_a3 = some (.cells [iV p_a3].toArray 3 (0, 0))) (b_p_a4 : Nat) (v_p_a4 : Value) (p_a4 : List ByteArray) (_ : (LEnt.own v_p_a4 9 1 p_a4.length (p_a4.flatMap eStr)).holds w) (_ : p_a4 = [] → v_p_a4 = .slice none 0 0) (_ : (LEnt.blk b_p_a4 [v_p_a4] 35).holds w) (b_p_a5 : Nat) (p_a5 : Int) (_ : (LEnt.blk b_p_a5 [iV p_a5] 3).holds w) (b_p_a6 : Nat) (v_p_a6 : Value) (p_a6 : List GLeg) (rs_p_a6 : List R91) (_ : Slc (view w X) 2 v_p_a6 (rs_p_a6.map R91.enc)) (_ : All2 (rel_91 (view w X)) p_a6 rs_p_a6) (_ : (view w X) b_p_a6 = some (.cells [v_p_a6].toArray 54 (0, 0))) (b_p_a7 : Nat) (_ : (view w X) b_p_a7 = some (.cells [.func (.func 57) #[] #[.pointer (some ⟨b_p_a3, 0, none⟩), .pointer (some ⟨b_p_a4, 0, none⟩), .pointer (some ⟨b_p_a5, 0, none⟩), .pointer (some ⟨b_p_a6, 0, none⟩), .pointer (some ⟨b_p_a7, 0, none⟩)]].toArray 97 (0, 0))) (_ : X.Nodup) (_ : X = fps [.blk b_p_a4 [v_p_a4] 35, .own v_p_a4 9 1 p_a4.length (p_a4.flatMap eStr), .blk b_p_a5 [iV p_a5] 3]) (r : (List ByteArray) × Int) (_ : tumbref2_FastestOf_c1 m p_who p_sum p_few p_a3 p_a4 p_a5 p_a6 = some r),
    Calls Tryz.prog 57 [v_p_who, iV p_sum, iV p_few, .pointer (some ⟨b_p_a3, 0, none⟩), .pointer (some ⟨b_p_a4, 0, none⟩), .pointer (some ⟨b_p_a5, 0, none⟩), .pointer (some ⟨b_p_a6, 0, none⟩), .pointer (some ⟨b_p_a7, 0, none⟩)].toArray w (Ret w X fun _ v w' => ∃ y1 : Value, Grp w w' X [.blk b_p_a4 [y1] 35, .own y1 9 1 r.1.length (r.1.flatMap eStr), .blk b_p_a5 [iV r.2] 3] ∧ (r.1 = [] → y1 = .slice none 0 0) ∧ v = .tuple #[]) := by
  induction m with
  | zero => intros; rename_i h; rw [tumbref2_FastestOf_c1] at h; cases h
  | succ m ih => exact fun w X v_p_who p_who hs_p_who p_sum p_few b_p_a3 p_a3 hb_b_p_a3 b_p_a4 v_p_a4 p_a4 hb_v_p_a4 hz_v_p_a4 hb_b_p_a4 b_p_a5 p_a5 hb_b_p_a5 b_p_a6 v_p_a6 p_a6 rs_p_a6 hs_p_a6 hr_p_a6 hb_b_p_a6 b_p_a7 hb_b_p_a7 hXn hXe r h => tumbref2_FastestOf_c1_s_ok (tumbref2_FastestOf_c1 m) ih w X v_p_who p_who hs_p_who p_sum p_few b_p_a3 p_a3 hb_b_p_a3 b_p_a4 v_p_a4 p_a4 hb_v_p_a4 hz_v_p_a4 hb_b_p_a4 b_p_a5 p_a5 hb_b_p_a5 b_p_a6 v_p_a6 p_a6 rs_p_a6 hs_p_a6 hr_p_a6 hb_b_p_a6 b_p_a7 hb_b_p_a7 hXn hXe r h
set_option maxRecDepth 20000 in
theorem tumbref2_FastestOf_ok (w : World) (v_p_l : Value) (p_l : List GLeg) (rs_p_l : List R91) (hs_p_l : Slc (view w []) 2 v_p_l (rs_p_l.map R91.enc)) (hr_p_l : All2 (rel_91 (view w [])) p_l rs_p_l) (p_b : Int) (r : (List ByteArray) × Int × Bool) (h : tumbref2_FastestOf p_l p_b = some r) :
    Calls Tryz.prog 25 [v_p_l, iV p_b].toArray w (Ret w [] fun τ v _ => ∃ u1 : Value, v = .tuple #[u1, iV r.2.1, bV r.2.2] ∧ OwnV τ 9 1 u1 r.1.length (r.1.flatMap eStr)) := by
 refine f_enter [] [] Tryz.func25 rfl Tryz.ntmps25 rfl (by simp) (by simp [fps]) (by simp [fps]) fun a S => ?_
 unfold tumbref2_FastestOf at h
 replace S := S.nk [] [(0, v_p_l), (1, iV p_b)] [] rfl (subR rfl)
 refine f_seq (f_region (l_box S (S.tm rfl) (cs := [v_p_l]) (SlcLen.cells (slc_lenD hs_p_l hr_p_l)) rfl ?_)); clear S; intro a w1 b1 hz1 hk1 S
 refine l_box S (S.tm rfl) (cs := [iV p_b]) rfl rfl ?_; clear S; intro a w2 b2 hz2 hk2 S
 iterate 3 (refine lv S (rn_assign rfl) rfl ?_; clear S; intro a S)
 refine l_done (then_n (f_seq (f_region (l_alloc S Tryz.zeroValue35 (cs := [.slice none 0 0]) rfl rfl ?_)))); clear S; intro a w3 b3 hz3 hk3 S
 refine l_done (then_n (f_seq (f_region (l_alloc S Tryz.zeroValue3 (cs := [iV 0]) rfl rfl ?_)))); clear S; intro a w4 b4 hz4 hk4 S
 refine l_store S (S.tm rfl) rfl (i := 0) (off := 0) rfl Tryz.sizeOf3 (vs := [iV 0]) rfl rfl rfl rfl ?_; clear S; intro w5 hk5 S
 refine l_done (then_n (f_seq (f_region (l_alloc S Tryz.zeroValue97 (cs := [.nilFunc]) rfl rfl ?_)))); clear S; intro a w6 b5 hz5 hk6 S
 refine l_done (then_n (f_seq (f_region (lv S (rn_makeFunc (us := #[]) (xs := [].toArray) (ys := [.tmp 3, .tmp 7, .tmp 8, .tmp 2, .tmp 9].toArray) (by simp) (evA ⟨(S.tm rfl), (S.tm rfl), (S.tm rfl), (S.tm rfl), (S.tm rfl), trivial⟩ (vs := [.pointer (some ⟨b2, 0, none⟩), .pointer (some ⟨b3, 0, none⟩), .pointer (some ⟨b4, 0, none⟩), .pointer (some ⟨b1, 0, none⟩), .pointer (some ⟨b5, 0, none⟩)]))) rfl ?_)))); clear S; intro a S
 refine l_store S (S.tm rfl) (S.tm rfl) (i := 0) (off := 0) rfl Tryz.sizeOf97 (vs := [.func (.func 57) #[] #[.pointer (some ⟨b2, 0, none⟩), .pointer (some ⟨b3, 0, none⟩), .pointer (some ⟨b4, 0, none⟩), .pointer (some ⟨b1, 0, none⟩), .pointer (some ⟨b5, 0, none⟩)]]) rfl rfl rfl rfl ?_; clear S; intro w7 hk7 S
 refine l_done (then_n (f_seq (f_region (lv S (rn_load Tryz.isAgg97 (S.tm rfl) (S.cell (i := 0) rfl rfl)) rfl ?_)))); clear S; intro a S
 replace S := S.nil 9 1
 obtain ⟨r1, hr1, h⟩ := bindE h
 refine l_enterG [3, 0, 2] [1, 4, 5] (Ls := [.blk b3 [(.slice none 0 0)] 35, .own (.slice none 0 0) 9 1 ([] : List ByteArray).length (([] : List ByteArray).flatMap eStr), .blk b4 [iV 0] 3]) (Lr := [.blk b5 [.func (.func 57) #[] #[.pointer (some ⟨b2, 0, none⟩), .pointer (some ⟨b3, 0, none⟩), .pointer (some ⟨b4, 0, none⟩), .pointer (some ⟨b1, 0, none⟩), .pointer (some ⟨b5, 0, none⟩)]] 97, .blk b2 [iV p_b] 3, .blk b1 [v_p_l] 54]) (Y := [b3] ++ ((Value.ownBlock (.slice none 0 0)).toList ++ [b4])) S rfl rfl rfl (by simp [fps_cons, fps_nil, LEnt.fp]) (fun _ => run_callV (cap := [.pointer (some ⟨b2, 0, none⟩), .pointer (some ⟨b3, 0, none⟩), .pointer (some ⟨b4, 0, none⟩), .pointer (some ⟨b1, 0, none⟩), .pointer (some ⟨b5, 0, none⟩)]) (S.tm rfl) (vs := [.slice none 0 0, iV 0, iV 0]) ⟨rfl, rfl, rfl, trivial⟩ Tryz.call57) (tumbref2_FastestOf_c1_ok 16 _ ([b3] ++ ((Value.ownBlock (.slice none 0 0)).toList ++ [b4])) (.slice none 0 0) ([] : List ByteArray) (slc_nil _ _) 0 0 b2 p_b (S.blk_view (i := 4) rfl ((ne_app (ne_fp (i := 3) (j := 4) (e := .blk b3 [(.slice none 0 0)] 35) (e' := .blk b2 [iV p_b] 3) S rfl rfl rfl) (ne_app (ne_fp (i := 0) (j := 4) (e := .own (.slice none 0 0) 9 1 ([] : List ByteArray).length (([] : List ByteArray).flatMap eStr)) (e' := .blk b2 [iV p_b] 3) S rfl rfl rfl) (ne_fp (i := 2) (j := 4) (e := .blk b4 [iV 0] 3) (e' := .blk b2 [iV p_b] 3) S rfl rfl rfl))) _ rfl)) b3 (.slice none 0 0) ([] : List ByteArray) (S.holds _ (List.mem_of_getElem? (i := 0) rfl)) (fun _ => rfl) (S.holds _ (List.mem_of_getElem? (i := 3) rfl)) b4 0 (S.holds _ (List.mem_of_getElem? (i := 2) rfl)) b1 v_p_l p_l rs_p_l (hs_p_l.mono (S.le_arg (app_sub (fp_sub (i := 3) (e := .blk b3 [(.slice none 0 0)] 35) rfl) (app_sub (fp_sub (i := 0) (e := .own (.slice none 0 0) 9 1 ([] : List ByteArray).length (([] : List ByteArray).flatMap eStr)) rfl) (fp_sub (i := 2) (e := .blk b4 [iV 0] 3) rfl))))) (rels_91 (S.le_arg (app_sub (fp_sub (i := 3) (e := .blk b3 [(.slice none 0 0)] 35) rfl) (app_sub (fp_sub (i := 0) (e := .own (.slice none 0 0) 9 1 ([] : List ByteArray).length (([] : List ByteArray).flatMap eStr)) rfl) (fp_sub (i := 2) (e := .blk b4 [iV 0] 3) rfl)))) hr_p_l) (S.blk_view (i := 5) rfl ((ne_app (ne_fp (i := 3) (j := 5) (e := .blk b3 [(.slice none 0 0)] 35) (e' := .blk b1 [v_p_l] 54) S rfl rfl rfl) (ne_app (ne_fp (i := 0) (j := 5) (e := .own (.slice none 0 0) 9 1 ([] : List ByteArray).length (([] : List ByteArray).flatMap eStr)) (e' := .blk b1 [v_p_l] 54) S rfl rfl rfl) (ne_fp (i := 2) (j := 5) (e := .blk b4 [iV 0] 3) (e' := .blk b1 [v_p_l] 54) S rfl rfl rfl))) _ rfl)) b5 (S.blk_view (i := 1) rfl ((ne_app (ne_fp (i := 3) (j := 1) (e := .blk b3 [(.slice none 0 0)] 35) (e' := .blk b5 [.func (.func 57) #[] #[.pointer (some ⟨b2, 0, none⟩), .pointer (some ⟨b3, 0, none⟩), .pointer (some ⟨b4, 0, none⟩), .pointer (some ⟨b1, 0, none⟩), .pointer (some ⟨b5, 0, none⟩)]] 97) S rfl rfl rfl) (ne_app (ne_fp (i := 0) (j := 1) (e := .own (.slice none 0 0) 9 1 ([] : List ByteArray).length (([] : List ByteArray).flatMap eStr)) (e' := .blk b5 [.func (.func 57) #[] #[.pointer (some ⟨b2, 0, none⟩), .pointer (some ⟨b3, 0, none⟩), .pointer (some ⟨b4, 0, none⟩), .pointer (some ⟨b1, 0, none⟩), .pointer (some ⟨b5, 0, none⟩)]] 97) S rfl rfl rfl) (ne_fp (i := 2) (j := 1) (e := .blk b4 [iV 0] 3) (e' := .blk b5 [.func (.func 57) #[] #[.pointer (some ⟨b2, 0, none⟩), .pointer (some ⟨b3, 0, none⟩), .pointer (some ⟨b4, 0, none⟩), .pointer (some ⟨b1, 0, none⟩), .pointer (some ⟨b5, 0, none⟩)]] 97) S rfl rfl rfl))) _ rfl)) (S.ndg [3, 0, 2] [1, 4, 5] rfl rfl rfl (by simp [fps_cons, fps_nil, LEnt.fp])) (by simp [fps_cons, fps_nil, LEnt.fp]) _ hr1) rfl ?_; clear S; intro v1 a w8 hv1 hk8 hn1 S
 obtain ⟨v2, hg1, hz6, hv1⟩ := hv1; replace S := S _ hg1; clear hg1
 subst hv1
 refine l_done ?_
 replace S := S.nk [.blk b3 [v2] 35, .own v2 9 1 r1.1.length (r1.1.flatMap eStr), .blk b4 [iV r1.2] 3] [(7, .pointer (some ⟨b3, 0, none⟩)), (8, .pointer (some ⟨b4, 0, none⟩))] [true, true, true, false, false, false] rfl (subR rfl)
 refine then_n (f_seq (d_region [] ([]) Tryz.mixed S rfl (by kernel_rfl) ?_)); clear S; intro w9 hk9 hsel S
 refine d_rest [0, 1, 2, 3, 4, 5, 6] hsel (by kernel_rfl) rfl ?_
 clear hsel
 refine s_lv S rfl (rn_load Tryz.isAgg35 (S.tm rfl) (S.cell (i := 0) rfl rfl)) rfl ?_; clear S; intro a S
 refine s_lv S rfl (rn_load Tryz.isAgg3 (S.tm rfl) (S.cell (i := 2) rfl rfl)) rfl ?_; clear S; intro a S
 refine s_lv S rfl (rn_load Tryz.isAgg35 (S.tm rfl) (S.cell (i := 0) rfl rfl)) rfl ?_; clear S; intro a S
 refine s_lv S rfl (rn_nilneZ Tryz.underlying35 (S.own_at (i := 1) rfl) hz6 (S.tm rfl) rfl) rfl ?_; clear S; intro a S
 iterate 3 (refine s_lv S rfl (rn_assign (S.tm rfl)) rfl ?_; clear S; intro a S)
 refine s_done ?_
 replace S := S.nk [.own v2 9 1 r1.1.length (r1.1.flatMap eStr)] [(4, v2), (5, iV r1.2), (6, bV (!r1.1.isEmpty))] [false, true, false] rfl (subR rfl)
 refine then_n (wp_ret ?_)
 obtain rfl := Option.some.inj h
 exact f_ret3 S Tryz.results25 rfl rfl rfl ⟨_, rfl, (own_retT S (i := 0) rfl rfl)⟩
set_option maxRecDepth 20000 in
theorem slices_Equal_string_ok (w : World) (v_p_s1 : Value) (p_s1 : List ByteArray) (hs_p_s1 : Slc (view w []) 1 v_p_s1 (p_s1.map eStr)) (v_p_s2 : Value) (p_s2 : List ByteArray) (hs_p_s2 : Slc (view w []) 1 v_p_s2 (p_s2.map eStr)) (r : Bool) (h : slices_Equal_string p_s1 p_s2 = some r) :
    Calls Tryz.prog 27 [v_p_s1, v_p_s2].toArray w (Ret w [] fun _ v _ => v = bV r) := by
 refine f_enter [] [] Tryz.func27 rfl Tryz.ntmps27 rfl (by simp) (by simp [fps]) (by simp [fps]) fun a S => ?_
 unfold slices_Equal_string at h
 replace S := S.nk [] [(0, v_p_s1), (1, v_p_s2)] [] rfl (subR rfl)
 refine f_seq (f_region (lv S (rn_assign rfl) rfl ?_)); clear S; intro a S
 refine l_done (then_n (f_seq (f_seq (f_region (lv S (rn_move (S.tm rfl)) rfl ?_))))); clear S; intro a S
 refine lv S (rn_lenT sl_35 (S.tm rfl) (slc_len hs_p_s1)) rfl ?_; clear S; intro a S
 refine lv S (rn_move (S.tm rfl)) rfl ?_; clear S; intro a S
 refine lv S (rn_lenT sl_35 (S.tm rfl) (slc_len hs_p_s2)) rfl ?_; clear S; intro a S
 refine lv S (rn_neq (S.tm rfl) (S.tm rfl)) rfl ?_; clear S; intro a S
 refine l_done (then_n (f_cond (S.tm rfl) (fun hb1 => ?_) (fun hb1 => ?_)))
 ·replace h := iteT h hb1
  refine f_seq (f_region (lv S (rn_assign rfl) rfl ?_)); clear S; intro a S
  refine l_done (then_n (wp_ret (then_r ?_)))
  obtain rfl := Option.some.inj h
  exact f_ret S Tryz.results27 rfl rfl
 ·replace h := iteF h hb1
  refine wp_skip (then_n (f_seq (f_seq (f_region (lv S (rn_move (S.tm rfl)) rfl ?_))))); clear S; intro a S
  refine lv S (rn_lenT sl_35 (S.tm rfl) (slc_len hs_p_s1)) rfl ?_; clear S; intro a S
  refine lv S (rn_move rfl) rfl ?_; clear S; intro a S
  refine l_done (then_n ?_)
  replace S := S.nk [] [(0, v_p_s1), (1, v_p_s2), (12, iV (p_s1.length : Int)), (13, iV 0)] [] rfl (subR rfl)
  obtain ⟨j1, hj1, h⟩ := joinE h
  refine f_join (fun a w' => j1 = some r ∧ Sx w [] nov [] [] 26 a w') ?_ ?_
  ·refine wp_block (f_loop (fun (ys1 : List ByteArray) a w' => ∃ i1 : Nat, (∃ dn, p_s1 = dn ++ ys1 ∧ dn.length = i1) ∧ slices_Equal_string_l1 p_s2 j1 ys1 i1 = some r ∧ Sx w [] nov [] [(0, v_p_s1), (1, v_p_s2), (12, iV (p_s1.length : Int)), (13, iV (i1 : Int))] 26 a w') List.length p_s1 ⟨0, ⟨[], rfl, rfl⟩, h, S.nf [] rfl (subR rfl)⟩ ?_)
   clear S h; rintro ys1 a w1 ⟨i1, ⟨dn, hd1, hi1⟩, h, S⟩
   cases ys1 with
   | nil =>
    rw [slices_Equal_string_l1.eq_1] at h
    refine f_seq (f_region (lv S (rn_lss (S.tm rfl) (S.tm rfl)) rfl ?_)); clear S; intro a S
    refine l_done ?_
    replace S := S.nk [] [(0, v_p_s1), (1, v_p_s2), (12, iV (p_s1.length : Int)), (13, iV (i1 : Int)), (14, bV (decide ((i1 : Int) < (p_s1.length : Int))))] [] rfl (subR rfl)
    refine then_n (f_seq (wp_cond_false ((S.tm rfl).trans (congrArg Value.bool (rng_nil hd1 hi1))) (wp_exit (then_x (then_x (x_same ?_))))))
    refine then_n ?_
    exact ⟨h, S.nf [] rfl trivial⟩
   | cons y1 ys1 =>
    rw [slices_Equal_string_l1.eq_2] at h
    refine f_seq (f_region (lv S (rn_lss (S.tm rfl) (S.tm rfl)) rfl ?_)); clear S; intro a S
    refine l_done ?_
    replace S := S.nk [] [(0, v_p_s1), (1, v_p_s2), (12, iV (p_s1.length : Int)), (13, iV (i1 : Int)), (14, bV (decide ((i1 : Int) < (p_s1.length : Int))))] [] rfl (subR rfl)
    refine then_n (f_seq (wp_cond_true ((S.tm rfl).trans (congrArg Value.bool (rng_cons hd1 hi1))) (wp_skip (then_n (f_seq (wp_block ?_))))))
    refine f_seq (f_region (lv S (rn_move (S.tm rfl)) rfl ?_)); clear S; intro a S
    refine lv S (rn_assign (S.tm rfl)) rfl ?_; clear S; intro a S
    refine l_done (then_n (f_seq (d_region [] ([]) Tryz.mixed S rfl (by kernel_rfl) ?_))); clear S; intro w3 hk1 hsel S
    refine d_rest [0, 1, 2, 3, 4, 5, 6, 7, 8] hsel (by kernel_rfl) rfl ?_
    clear hsel
    refine s_lv S rfl (rn_move (S.tm rfl)) rfl ?_; clear S; intro a S
    refine s_lv S rfl (rn_move (S.tm rfl)) rfl ?_; clear S; intro a S
    obtain ⟨b1, o1, hm1, hr1⟩ := rn_indexT (a := a) (x := .tmp 16) (y := .tmp 17) (ty := 0) sl_35 hs_p_s1 (get_mid hd1 hi1) rfl (S.tm rfl) (S.tm rfl)
    refine s_lv S rfl (hr1 _) rfl ?_; clear S; intro a S
    clear hr1
    refine s_lv S rfl (rn_ld Tryz.isAgg9 (off := o1) (o := 0) (S.tm rfl) (hm1.at S.emb0) rfl) rfl ?_; clear S; intro a S
    refine s_lv S rfl (rn_move (S.tm rfl)) rfl ?_; clear S; intro a S
    refine s_lv S rfl (rn_move (S.tm rfl)) rfl ?_; clear S; intro a S
    obtain ⟨hc1, h⟩ := chkE h
    obtain ⟨b2, o2, hm2, hr2⟩ := rn_indexT (a := a) (x := .tmp 20) (y := .tmp 21) (ty := 0) sl_35 hs_p_s2 (inB_get hc1).1 (inB_get hc1).2 (S.tm rfl) (S.tm rfl)
    refine s_lv S rfl (hr2 _) rfl ?_; clear S; intro a S
    clear hr2
    refine s_lv S rfl (rn_ld Tryz.isAgg9 (off := o2) (o := 0) (S.tm rfl) (hm2.at S.emb0) rfl) rfl ?_; clear S; intro a S
    refine s_lv S rfl (rn_sneq (S.tm rfl) (S.tm rfl)) rfl ?_; clear S; intro a S
    refine s_done ?_
    replace S := S.nk [] [(0, v_p_s1), (1, v_p_s2), (12, iV (p_s1.length : Int)), (13, iV (i1 : Int)), (24, bV (!decide (y1 = (nth p_s2 (i1 : Int)))))] [] rfl (subR rfl)
    refine then_n (f_cond (S.tm rfl) (fun hb2 => ?_) (fun hb2 => ?_))
    ·replace h := iteT h hb2
     refine f_seq (f_region (lv S (rn_assign rfl) rfl ?_)); clear S; intro a S
     refine l_done (then_n (wp_ret (blk_r (then_r (then_r (blk_r ?_))))))
     refine then_r (then_r ?_)
     obtain rfl := Option.some.inj h
     exact f_ret S Tryz.results27 rfl rfl
    ·replace h := iteF h hb2
     refine wp_skip (blk_n (then_n (f_region (lv S (rn_add (S.tm rfl) rfl) rfl ?_)))); clear S; intro a S
     refine lv S (rn_move (S.tm rfl)) rfl ?_; clear S; intro a S
     refine l_done (then_n ?_)
     exact ⟨ys1, ⟨i1 + 1, ⟨_, (hd1).trans (List.append_cons _ _ _), by simp [hi1]⟩, h, S.nf [] rfl ⟨rfl, rfl, rfl, (congrArg (fun z => some (Value.int .i64 z)) (rng_next hd1 hi1 (slc_max hs_p_s1))), trivial⟩⟩, Nat.lt_succ_self _⟩
  clear S h; rintro a w2 ⟨h, S⟩; rw [hj1] at h; clear hj1 j1
  refine then_n (f_seq (f_region (lv S (rn_assign rfl) rfl ?_))); clear S; intro a S
  refine l_done (then_n (wp_ret ?_))
  obtain rfl := Option.some.inj h
  exact f_ret S Tryz.results27 rfl rfl
set_option maxRecDepth 20000 in
theorem swimmer_DayOf_ok (w : World) (p_d : GDate) (r : Int × Int) (h : swimmer_DayOf p_d = some r) :
    Calls Tryz.prog 60 [.agg (GDate.enc p_d).toArray].toArray w (Ret w [] fun _ v _ => v = .tuple #[iV r.1, iV r.2]) := by
 refine f_enter [] [] Tryz.func60 rfl Tryz.ntmps60 rfl (by simp) (by simp [fps]) (by simp [fps]) fun a S => ?_
 unfold swimmer_DayOf at h
 replace S := S.nk [] [(0, .agg (GDate.enc p_d).toArray)] [] rfl ⟨rfl, trivial⟩
 refine f_seq (f_region (l_box S (S.tm rfl) (cs := (GDate.enc p_d)) rfl rfl ?_)); clear S; intro a w1 b1 hz1 hk1 S
 refine lv S (rn_assign rfl) rfl ?_; clear S; intro a S
 refine lv S (rn_assign rfl) rfl ?_; clear S; intro a S
 refine l_done (then_n (f_seq (f_seq ?_)))
 obtain ⟨j1, hj1, h⟩ := joinE h
 refine f_join (fun a w' => ∃ x1 : Bool, j1 x1 = some r ∧ Sx w [] nov [.blk b1 (GDate.enc p_d) 103] [(1, .pointer (some ⟨b1, 0, none⟩)), (28, bV x1)] 68 a w') ?_ ?_
 ·rcases Bool.eq_false_or_eq_true (!(words_Within p_d.Year 1900 2100)) with hb1 | hb1
  ·replace h := iteT h hb1
   rcases Bool.eq_false_or_eq_true true with hb2 | hb2
   ·replace h := iteT h hb2
    refine d_region [] ([]) Tryz.mixed S rfl (by kernel_rfl) ?_; clear S; intro w6 hk5 hsel S
    refine d_quiet 0 S hsel rfl rfl rfl (by kernel_rfl) (by kernel_rfl) rfl (fun _ hw => (rn_fld fa_103_0 (S.tm rfl))) ?_; clear S; intro a S
    refine d_quiet 1 S hsel rfl rfl rfl (by kernel_rfl) (by kernel_rfl) rfl (fun _ hw => (rn_ld Tryz.isAgg3 (off := 0) (o := 0) (S.tm rfl) ((S.blk_mem (i := 0) (cells := (GDate.enc p_d)) (b := b1) (T := 103) rfl (ne_nil (e' := .blk b1 (GDate.enc p_d) 103))).kept hw) rfl)) ?_; clear S; intro a S
    refine d_loud1 2 (by kernel_rfl) rfl (l_enter S (fun _ => run_call (vs := [iV p_d.Year, iV 1900, iV 2100]) ⟨(S.tm rfl), rfl, rfl, trivial⟩ Tryz.call41) (words_Within_ok _ p_d.Year 1900 2100 _ rfl) rfl ?_); clear S; intro v4 a w7 hv4 hk6 hn4 S
    subst hv4
    refine l_done (d_next hk6 (d_rest [3, 4, 5, 6, 7, 8, 9, 10, 11, 12, 13, 14, 15, 16, 17, 18, 19, 20] hsel (by kernel_rfl) rfl ?_))
    clear hsel
    refine s_lv S rfl (rn_not (S.tm rfl)) rfl ?_; clear S; intro a S
    refine s_lv S rfl (rn_move (S.tm rfl)) rfl ?_; clear S; intro a S
    iterate 4 (refine s_skip S rfl rfl rfl rfl (neq_t hb1) rfl ?_ rfl; clear S; intro a S)
    refine s_lv S rfl (rn_pick_b hb1 (S.tm rfl) rfl) rfl ?_; clear S; intro a S
    refine s_lv S rfl (rn_move (S.tm rfl)) rfl ?_; clear S; intro a S
    iterate 9 (refine s_skip S rfl rfl rfl rfl (neq_t hb2) rfl ?_ rfl; clear S; intro a S)
    refine s_lv S rfl (rn_pick_b hb2 (S.tm rfl) rfl) rfl ?_; clear S; intro a S
    refine s_done ?_
    replace S := S.nk [.blk b1 (GDate.enc p_d) 103] [(1, .pointer (some ⟨b1, 0, none⟩)), (28, bV true)] [true] rfl (subR rfl)
    refine then_n ?_
    exact ⟨true, h, S.nf [true] rfl (subR rfl)⟩
   ·replace h := iteF h hb2
    refine d_region [] ([]) Tryz.mixed S rfl (by kernel_rfl) ?_; clear S; intro w11 hk10 hsel S
    refine d_quiet 0 S hsel rfl rfl rfl (by kernel_rfl) (by kernel_rfl) rfl (fun _ hw => (rn_fld fa_103_0 (S.tm rfl))) ?_; clear S; intro a S
    refine d_quiet 1 S hsel rfl rfl rfl (by kernel_rfl) (by kernel_rfl) rfl (fun _ hw => (rn_ld Tryz.isAgg3 (off := 0) (o := 0) (S.tm rfl) ((S.blk_mem (i := 0) (cells := (GDate.enc p_d)) (b := b1) (T := 103) rfl (ne_nil (e' := .blk b1 (GDate.enc p_d) 103))).kept hw) rfl)) ?_; clear S; intro a S
    refine d_loud1 2 (by kernel_rfl) rfl (l_enter S (fun _ => run_call (vs := [iV p_d.Year, iV 1900, iV 2100]) ⟨(S.tm rfl), rfl, rfl, trivial⟩ Tryz.call41) (words_Within_ok _ p_d.Year 1900 2100 _ rfl) rfl ?_); clear S; intro v8 a w12 hv8 hk11 hn8 S
    subst hv8
    refine l_done (d_next hk11 (d_quiet 3 S hsel rfl rfl rfl (by kernel_rfl) (by kernel_rfl) rfl (fun _ hw => (rn_not (S.tm rfl))) ?_)); clear S; intro a S
    refine d_quiet 4 S hsel rfl rfl rfl (by kernel_rfl) (by kernel_rfl) rfl (fun _ hw => (rn_move (S.tm rfl))) ?_; clear S; intro a S
    refine d_skip 5 S hsel rfl rfl rfl rfl (neq_t hb1) rfl (by kernel_rfl) (by kernel_rfl) rfl ?_; clear S; intro a S
    refine d_skip 6 S hsel rfl rfl rfl rfl (neq_t hb1) rfl (by kernel_rfl) (by kernel_rfl) rfl ?_; clear S; intro a S
    refine d_skip 7 S hsel rfl rfl rfl rfl (neq_t hb1) rfl (by kernel_rfl) (by kernel_rfl) rfl ?_; clear S; intro a S
    refine d_skip 8 S hsel rfl rfl rfl rfl (neq_t hb1) rfl (by kernel_rfl) (by kernel_rfl) rfl ?_; clear S; intro a S
    refine d_quiet 9 S hsel rfl rfl rfl (by kernel_rfl) (by kernel_rfl) rfl (fun _ hw => (rn_pick_b hb1 (S.tm rfl) rfl)) ?_; clear S; intro a S
    refine d_quiet 10 S hsel rfl rfl rfl (by kernel_rfl) (by kernel_rfl) rfl (fun _ hw => (rn_move (S.tm rfl))) ?_; clear S; intro a S
    refine d_quiet_g 11 S hsel rfl rfl rfl rfl hb2 rfl rfl (by kernel_rfl) (by kernel_rfl) rfl (fun _ hw => (rn_fld fa_103_2 (S.tm rfl))) ?_; clear S; intro a S
    refine d_quiet_g 12 S hsel rfl rfl rfl rfl hb2 rfl rfl (by kernel_rfl) (by kernel_rfl) rfl (fun _ hw => (rn_ld Tryz.isAgg3 (off := 0) (o := 2) (S.tm rfl) ((S.blk_mem (i := 0) (cells := (GDate.enc p_d)) (b := b1) (T := 103) rfl (ne_nil (e' := .blk b1 (GDate.enc p_d) 103))).kept hw) rfl)) ?_; clear S; intro a S
    refine d_quiet_g 13 S hsel rfl rfl rfl rfl hb2 rfl rfl (by kernel_rfl) (by kernel_rfl) rfl (fun _ hw => (rn_fld fa_103_0 (S.tm rfl))) ?_; clear S; intro a S
    refine d_quiet_g 14 S hsel rfl rfl rfl rfl hb2 rfl rfl (by kernel_rfl) (by kernel_rfl) rfl (fun _ hw => (rn_ld Tryz.isAgg3 (off := 0) (o := 0) (S.tm rfl) ((S.blk_mem (i := 0) (cells := (GDate.enc p_d)) (b := b1) (T := 103) rfl (ne_nil (e' := .blk b1 (GDate.enc p_d) 103))).kept hw) rfl)) ?_; clear S; intro a S
    refine d_quiet_g 15 S hsel rfl rfl rfl rfl hb2 rfl rfl (by kernel_rfl) (by kernel_rfl) rfl (fun _ hw => (rn_fld fa_103_1 (S.tm rfl))) ?_; clear S; intro a S
    refine d_quiet_g 16 S hsel rfl rfl rfl rfl hb2 rfl rfl (by kernel_rfl) (by kernel_rfl) rfl (fun _ hw => (rn_ld Tryz.isAgg3 (off := 0) (o := 1) (S.tm rfl) ((S.blk_mem (i := 0) (cells := (GDate.enc p_d)) (b := b1) (T := 103) rfl (ne_nil (e' := .blk b1 (GDate.enc p_d) 103))).kept hw) rfl)) ?_; clear S; intro a S
    refine d_loud1 17 (by kernel_rfl) rfl (l_want S rfl rfl rfl hb2 (l_enter S (fun _ => run_call (vs := [iV p_d.Year, iV p_d.Month]) ⟨(S.tm rfl), (S.tm rfl), trivial⟩ Tryz.call86) (swimmer_long_ok _ p_d.Year p_d.Month _ rfl) rfl ?_)); clear S; intro v9 a w13 hv9 hk12 hn9 S
    subst hv9
    refine l_done (d_next hk12 (d_loud1 18 (by kernel_rfl) rfl (l_want S rfl rfl rfl hb2 (l_enter S (fun _ => run_call (vs := [iV p_d.Day, iV 1, iV (swimmer_long p_d.Year p_d.Month)]) ⟨(S.tm rfl), rfl, (S.tm rfl), trivial⟩ Tryz.call41) (words_Within_ok _ p_d.Day 1 (swimmer_long p_d.Year p_d.Month) _ rfl) rfl ?_)))); clear S; intro v10 a w14 hv10 hk13 hn10 S
    subst hv10
    refine l_done (d_next hk13 (d_rest [19, 20] hsel (by kernel_rfl) rfl ?_))
    clear hsel
    refine s_want S rfl rfl rfl rfl hb2 (s_lv0 S (rn_not (S.tm rfl)) rfl ?_); clear S; intro a S
    refine s_lv S rfl (rn_pick_c hb2 (S.tm rfl) (S.tm rfl)) rfl ?_; clear S; intro a S
    refine s_done ?_
    replace S := S.nk [.blk b1 (GDate.enc p_d) 103] [(1, .pointer (some ⟨b1, 0, none⟩)), (28, bV (!(words_Within p_d.Day 1 (swimmer_long p_d.Year p_d.Month))))] [true] rfl (subR rfl)
    refine then_n ?_
    exact ⟨!(words_Within p_d.Day 1 (swimmer_long p_d.Year p_d.Month)), h, S.nf [true] rfl (subR rfl)⟩
  ·replace h := iteF h hb1
   rcases Bool.eq_false_or_eq_true (!(words_Within p_d.Month 1 12)) with hb3 | hb3
   ·replace h := iteT h hb3
    refine d_region [] ([]) Tryz.mixed S rfl (by kernel_rfl) ?_; clear S; intro w19 hk18 hsel S
    refine d_quiet 0 S hsel rfl rfl rfl (by kernel_rfl) (by kernel_rfl) rfl (fun _ hw => (rn_fld fa_103_0 (S.tm rfl))) ?_; clear S; intro a S
    refine d_quiet 1 S hsel rfl rfl rfl (by kernel_rfl) (by kernel_rfl) rfl (fun _ hw => (rn_ld Tryz.isAgg3 (off := 0) (o := 0) (S.tm rfl) ((S.blk_mem (i := 0) (cells := (GDate.enc p_d)) (b := b1) (T := 103) rfl (ne_nil (e' := .blk b1 (GDate.enc p_d) 103))).kept hw) rfl)) ?_; clear S; intro a S
    refine d_loud1 2 (by kernel_rfl) rfl (l_enter S (fun _ => run_call (vs := [iV p_d.Year, iV 1900, iV 2100]) ⟨(S.tm rfl), rfl, rfl, trivial⟩ Tryz.call41) (words_Within_ok _ p_d.Year 1900 2100 _ rfl) rfl ?_); clear S; intro v15 a w20 hv15 hk19 hn15 S
    subst hv15
    refine l_done (d_next hk19 (d_quiet 3 S hsel rfl rfl rfl (by kernel_rfl) (by kernel_rfl) rfl (fun _ hw => (rn_not (S.tm rfl))) ?_)); clear S; intro a S
    refine d_quiet 4 S hsel rfl rfl rfl (by kernel_rfl) (by kernel_rfl) rfl (fun _ hw => (rn_move (S.tm rfl))) ?_; clear S; intro a S
    refine d_quiet_g 5 S hsel rfl rfl rfl rfl hb1 rfl rfl (by kernel_rfl) (by kernel_rfl) rfl (fun _ hw => (rn_fld fa_103_1 (S.tm rfl))) ?_; clear S; intro a S
    refine d_quiet_g 6 S hsel rfl rfl rfl rfl hb1 rfl rfl (by kernel_rfl) (by kernel_rfl) rfl (fun _ hw => (rn_ld Tryz.isAgg3 (off := 0) (o := 1) (S.tm rfl) ((S.blk_mem (i := 0) (cells := (GDate.enc p_d)) (b := b1) (T := 103) rfl (ne_nil (e' := .blk b1 (GDate.enc p_d) 103))).kept hw) rfl)) ?_; clear S; intro a S
    refine d_loud1 7 (by kernel_rfl) rfl (l_want S rfl rfl rfl hb1 (l_enter S (fun _ => run_call (vs := [iV p_d.Month, iV 1, iV 12]) ⟨(S.tm rfl), rfl, rfl, trivial⟩ Tryz.call41) (words_Within_ok _ p_d.Month 1 12 _ rfl) rfl ?_)); clear S; intro v16 a w21 hv16 hk20 hn16 S
    subst hv16
    refine l_done (d_next hk20 (d_rest [8, 9, 10, 11, 12, 13, 14, 15, 16, 17, 18, 19, 20] hsel (by kernel_rfl) rfl ?_))
    clear hsel
    refine s_want S rfl rfl rfl rfl hb1 (s_lv0 S (rn_not (S.tm rfl)) rfl ?_); clear S; intro a S
    refine s_lv S rfl (rn_pick_c hb1 (S.tm rfl) (S.tm rfl)) rfl ?_; clear S; intro a S
    refine s_lv S rfl (rn_move (S.tm rfl)) rfl ?_; clear S; intro a S
    iterate 9 (refine s_skip S rfl rfl rfl rfl (neq_t hb3) rfl ?_ rfl; clear S; intro a S)
    refine s_lv S rfl (rn_pick_b hb3 (S.tm rfl) rfl) rfl ?_; clear S; intro a S
    refine s_done ?_
    replace S := S.nk [.blk b1 (GDate.enc p_d) 103] [(1, .pointer (some ⟨b1, 0, none⟩)), (28, bV true)] [true] rfl (subR rfl)
    refine then_n ?_
    exact ⟨true, h, S.nf [true] rfl (subR rfl)⟩
   ·replace h := iteF h hb3
    refine d_region [] ([]) Tryz.mixed S rfl (by kernel_rfl) ?_; clear S; intro w26 hk25 hsel S
    refine d_quiet 0 S hsel rfl rfl rfl (by kernel_rfl) (by kernel_rfl) rfl (fun _ hw => (rn_fld fa_103_0 (S.tm rfl))) ?_; clear S; intro a S
    refine d_quiet 1 S hsel rfl rfl rfl (by kernel_rfl) (by kernel_rfl) rfl (fun _ hw => (rn_ld Tryz.isAgg3 (off := 0) (o := 0) (S.tm rfl) ((S.blk_mem (i := 0) (cells := (GDate.enc p_d)) (b := b1) (T := 103) rfl (ne_nil (e' := .blk b1 (GDate.enc p_d) 103))).kept hw) rfl)) ?_; clear S; intro a S
    refine d_loud1 2 (by kernel_rfl) rfl (l_enter S (fun _ => run_call (vs := [iV p_d.Year, iV 1900, iV 2100]) ⟨(S.tm rfl), rfl, rfl, trivial⟩ Tryz.call41) (words_Within_ok _ p_d.Year 1900 2100 _ rfl) rfl ?_); clear S; intro v21 a w27 hv21 hk26 hn21 S
    subst hv21
    refine l_done (d_next hk26 (d_quiet 3 S hsel rfl rfl rfl (by kernel_rfl) (by kernel_rfl) rfl (fun _ hw => (rn_not (S.tm rfl))) ?_)); clear S; intro a S
    refine d_quiet 4 S hsel rfl rfl rfl (by kernel_rfl) (by kernel_rfl) rfl (fun _ hw => (rn_move (S.tm rfl))) ?_; clear S; intro a S
    refine d_quiet_g 5 S hsel rfl rfl rfl rfl hb1 rfl rfl (by kernel_rfl) (by kernel_rfl) rfl (fun _ hw => (rn_fld fa_103_1 (S.tm rfl))) ?_; clear S; intro a S
    refine d_quiet_g 6 S hsel rfl rfl rfl rfl hb1 rfl rfl (by kernel_rfl) (by kernel_rfl) rfl (fun _ hw => (rn_ld Tryz.isAgg3 (off := 0) (o := 1) (S.tm rfl) ((S.blk_mem (i := 0) (cells := (GDate.enc p_d)) (b := b1) (T := 103) rfl (ne_nil (e' := .blk b1 (GDate.enc p_d) 103))).kept hw) rfl)) ?_; clear S; intro a S
    refine d_loud1 7 (by kernel_rfl) rfl (l_want S rfl rfl rfl hb1 (l_enter S (fun _ => run_call (vs := [iV p_d.Month, iV 1, iV 12]) ⟨(S.tm rfl), rfl, rfl, trivial⟩ Tryz.call41) (words_Within_ok _ p_d.Month 1 12 _ rfl) rfl ?_)); clear S; intro v22 a w28 hv22 hk27 hn22 S
    subst hv22
    refine l_done (d_next hk27 (d_quiet_g 8 S hsel rfl rfl rfl rfl hb1 rfl rfl (by kernel_rfl) (by kernel_rfl) rfl (fun _ hw => (rn_not (S.tm rfl))) ?_)); clear S; intro a S
    refine d_quiet 9 S hsel rfl rfl rfl (by kernel_rfl) (by kernel_rfl) rfl (fun _ hw => (rn_pick_c hb1 (S.tm rfl) (S.tm rfl))) ?_; clear S; intro a S
    refine d_quiet 10 S hsel rfl rfl rfl (by kernel_rfl) (by kernel_rfl) rfl (fun _ hw => (rn_move (S.tm rfl))) ?_; clear S; intro a S
    refine d_quiet_g 11 S hsel rfl rfl rfl rfl hb3 rfl rfl (by kernel_rfl) (by kernel_rfl) rfl (fun _ hw => (rn_fld fa_103_2 (S.tm rfl))) ?_; clear S; intro a S
    refine d_quiet_g 12 S hsel rfl rfl rfl rfl hb3 rfl rfl (by kernel_rfl) (by kernel_rfl) rfl (fun _ hw => (rn_ld Tryz.isAgg3 (off := 0) (o := 2) (S.tm rfl) ((S.blk_mem (i := 0) (cells := (GDate.enc p_d)) (b := b1) (T := 103) rfl (ne_nil (e' := .blk b1 (GDate.enc p_d) 103))).kept hw) rfl)) ?_; clear S; intro a S
    refine d_quiet_g 13 S hsel rfl rfl rfl rfl hb3 rfl rfl (by kernel_rfl) (by kernel_rfl) rfl (fun _ hw => (rn_fld fa_103_0 (S.tm rfl))) ?_; clear S; intro a S
    refine d_quiet_g 14 S hsel rfl rfl rfl rfl hb3 rfl rfl (by kernel_rfl) (by kernel_rfl) rfl (fun _ hw => (rn_ld Tryz.isAgg3 (off := 0) (o := 0) (S.tm rfl) ((S.blk_mem (i := 0) (cells := (GDate.enc p_d)) (b := b1) (T := 103) rfl (ne_nil (e' := .blk b1 (GDate.enc p_d) 103))).kept hw) rfl)) ?_; clear S; intro a S
    refine d_quiet_g 15 S hsel rfl rfl rfl rfl hb3 rfl rfl (by kernel_rfl) (by kernel_rfl) rfl (fun _ hw => (rn_fld fa_103_1 (S.tm rfl))) ?_; clear S; intro a S
    refine d_quiet_g 16 S hsel rfl rfl rfl rfl hb3 rfl rfl (by kernel_rfl) (by kernel_rfl) rfl (fun _ hw => (rn_ld Tryz.isAgg3 (off := 0) (o := 1) (S.tm rfl) ((S.blk_mem (i := 0) (cells := (GDate.enc p_d)) (b := b1) (T := 103) rfl (ne_nil (e' := .blk b1 (GDate.enc p_d) 103))).kept hw) rfl)) ?_; clear S; intro a S
    refine d_loud1 17 (by kernel_rfl) rfl (l_want S rfl rfl rfl hb3 (l_enter S (fun _ => run_call (vs := [iV p_d.Year, iV p_d.Month]) ⟨(S.tm rfl), (S.tm rfl), trivial⟩ Tryz.call86) (swimmer_long_ok _ p_d.Year p_d.Month _ rfl) rfl ?_)); clear S; intro v23 a w29 hv23 hk28 hn23 S
    subst hv23
    refine l_done (d_next hk28 (d_loud1 18 (by kernel_rfl) rfl (l_want S rfl rfl rfl hb3 (l_enter S (fun _ => run_call (vs := [iV p_d.Day, iV 1, iV (swimmer_long p_d.Year p_d.Month)]) ⟨(S.tm rfl), rfl, (S.tm rfl), trivial⟩ Tryz.call41) (words_Within_ok _ p_d.Day 1 (swimmer_long p_d.Year p_d.Month) _ rfl) rfl ?_)))); clear S; intro v24 a w30 hv24 hk29 hn24 S
    subst hv24
    refine l_done (d_next hk29 (d_rest [19, 20] hsel (by kernel_rfl) rfl ?_))
    clear hsel
    refine s_want S rfl rfl rfl rfl hb3 (s_lv0 S (rn_not (S.tm rfl)) rfl ?_); clear S; intro a S
    refine s_lv S rfl (rn_pick_c hb3 (S.tm rfl) (S.tm rfl)) rfl ?_; clear S; intro a S
    refine s_done ?_
    replace S := S.nk [.blk b1 (GDate.enc p_d) 103] [(1, .pointer (some ⟨b1, 0, none⟩)), (28, bV (!(words_Within p_d.Day 1 (swimmer_long p_d.Year p_d.Month))))] [true] rfl (subR rfl)
    refine then_n ?_
    exact ⟨!(words_Within p_d.Day 1 (swimmer_long p_d.Year p_d.Month)), h, S.nf [true] rfl (subR rfl)⟩
 clear S h; rintro a w2 ⟨x1, h, S⟩; rw [hj1] at h; clear hj1 j1
 refine then_n (f_cond (S.tm rfl) (fun hb4 => ?_) (fun hb4 => ?_))
 ·replace h := iteT h hb4
  refine f_seq (f_region (lv S (rn_assign rfl) rfl ?_)); clear S; intro a S
  refine lv S (rn_assign rfl) rfl ?_; clear S; intro a S
  refine l_done (then_n (wp_ret (then_r ?_)))
  obtain rfl := Option.some.inj h
  exact f_ret2 S Tryz.results60 rfl rfl rfl
 ·replace h := iteF h hb4
  refine wp_skip (then_n (f_seq (f_region (lv S (rn_fld fa_103_2 (S.tm rfl)) rfl ?_)))); clear S; intro a S
  refine lv S (rn_load Tryz.isAgg3 (S.tm rfl) (S.cell (i := 0) rfl rfl)) rfl ?_; clear S; intro a S
  refine lv S (rn_sub (S.tm rfl) rfl) rfl ?_; clear S; intro a S
  refine lv S (rn_assign (S.tm rfl)) rfl ?_; clear S; intro a S
  refine l_done (then_n (f_seq (f_seq (f_region (lv S (rn_assign rfl) rfl ?_))))); clear S; intro a S
  refine l_done (then_n ?_)
  replace S := S.nk [.blk b1 (GDate.enc p_d) 103] [(1, .pointer (some ⟨b1, 0, none⟩)), (4, iV (W (p_d.Day - 1))), (5, iV 1)] [true] rfl (subR rfl)
  obtain ⟨j2, hj2, h⟩ := joinE h
  refine f_join (fun a w' => ∃ x2 : Int, j2 x2 = some r ∧ Sx w [] nov [.blk b1 (GDate.enc p_d) 103] [(1, .pointer (some ⟨b1, 0, none⟩)), (4, iV x2)] 68 a w') ?_ ?_
  ·refine wp_block (f_loop (fun (m1 : Nat) a w' => ∃ x2 : Int, ∃ x3 : Int, swimmer_DayOf_l1 p_d j2 m1 x2 x3 = some r ∧ Sx w [] nov [.blk b1 (GDate.enc p_d) 103] [(1, .pointer (some ⟨b1, 0, none⟩)), (4, iV x2), (5, iV x3)] 68 a w') id ((p_d.Month - 1).toNat + 2) ⟨W (p_d.Day - 1), 1, h, S.nf [true] rfl (subR rfl)⟩ ?_)
   clear S h; rintro m1 a w31 ⟨x2, x3, h, S⟩
   cases m1 with
   | zero => rw [swimmer_DayOf_l1.eq_1] at h; cases h
   | succ m1 =>
    rw [swimmer_DayOf_l1.eq_2] at h
    refine f_seq (f_seq (f_region (lv S (rn_move (S.tm rfl)) rfl ?_))); clear S; intro a S
    refine lv S (rn_fld fa_103_1 (S.tm rfl)) rfl ?_; clear S; intro a S
    refine lv S (rn_load Tryz.isAgg3 (S.tm rfl) (S.cell (i := 0) rfl rfl)) rfl ?_; clear S; intro a S
    refine lv S (rn_lss (S.tm rfl) (S.tm rfl)) rfl ?_; clear S; intro a S
    refine l_done (then_n (f_cond (S.tm rfl) (fun hb5 => ?_) (fun hb5 => ?_)))
    ·replace h := iteT h hb5
     refine wp_skip (then_n (f_seq (wp_block (f_region (lv S (rn_move (S.tm rfl)) rfl ?_))))); clear S; intro a S
     refine lv S (rn_fld fa_103_0 (S.tm rfl)) rfl ?_; clear S; intro a S
     refine lv S (rn_load Tryz.isAgg3 (S.tm rfl) (S.cell (i := 0) rfl rfl)) rfl ?_; clear S; intro a S
     refine lv S (rn_move (S.tm rfl)) rfl ?_; clear S; intro a S
     refine l_enter S (fun _ => run_call (vs := [iV p_d.Year, iV x3]) ⟨(S.tm rfl), (S.tm rfl), trivial⟩ Tryz.call86) (swimmer_long_ok _ p_d.Year x3 _ rfl) rfl ?_; clear S; intro v25 a w33 hv25 hk30 hn25 S
     subst hv25
     refine lv S (rn_add (S.tm rfl) (S.tm rfl)) rfl ?_; clear S; intro a S
     refine lv S (rn_assign (S.tm rfl)) rfl ?_; clear S; intro a S
     refine l_done (blk_n (then_n (f_region (lv S (rn_move (S.tm rfl)) rfl ?_)))); clear S; intro a S
     refine lv S (rn_add (S.tm rfl) rfl) rfl ?_; clear S; intro a S
     refine lv S (rn_assign (S.tm rfl)) rfl ?_; clear S; intro a S
     refine l_done ?_
     replace S := S.nk [.blk b1 (GDate.enc p_d) 103] [(1, .pointer (some ⟨b1, 0, none⟩)), (4, iV (W (x2 + (swimmer_long p_d.Year x3)))), (5, iV (W (x3 + 1)))] [true] rfl (subR rfl)
     refine then_n ?_
     exact ⟨m1, ⟨W (x2 + (swimmer_long p_d.Year x3)), W (x3 + 1), h, S.nf [true] rfl ⟨rfl, rfl, rfl, trivial⟩⟩, Nat.lt_succ_self _⟩
    ·replace h := iteF h hb5
     refine wp_exit (then_x (then_x (x_same (then_n ?_))))
     exact ⟨x2, h, S.nf [true] rfl (subR rfl)⟩
  clear S h; rintro a w32 ⟨x2, h, S⟩; rw [hj2] at h; clear hj2 j2
  refine then_n (f_seq (f_seq (f_region (lv S (rn_assign rfl) rfl ?_)))); clear S; intro a S
  refine l_done (then_n ?_)
  replace S := S.nk [.blk b1 (GDate.enc p_d) 103] [(1, .pointer (some ⟨b1, 0, none⟩)), (4, iV x2), (6, iV 2024)] [true] rfl (subR rfl)
  obtain ⟨j3, hj3, h⟩ := joinE h
  refine f_join (fun a w' => ∃ x4 : Int, j3 x4 = some r ∧ Sx w [] nov [.blk b1 (GDate.enc p_d) 103] [(1, .pointer (some ⟨b1, 0, none⟩)), (4, iV x4)] 68 a w') ?_ ?_
  ·refine wp_block (f_loop (fun (m2 : Nat) a w' => ∃ x4 : Int, ∃ x5 : Int, swimmer_DayOf_l2 p_d j3 m2 x4 x5 = some r ∧ Sx w [] nov [.blk b1 (GDate.enc p_d) 103] [(1, .pointer (some ⟨b1, 0, none⟩)), (4, iV x4), (6, iV x5)] 68 a w') id ((p_d.Year - 2024).toNat + 2) ⟨x2, 2024, h, S.nf [true] rfl (subR rfl)⟩ ?_)
   clear S h; rintro m2 a w34 ⟨x4, x5, h, S⟩
   cases m2 with
   | zero => rw [swimmer_DayOf_l2.eq_1] at h; cases h
   | succ m2 =>
    rw [swimmer_DayOf_l2.eq_2] at h
    refine f_seq (f_seq (f_region (lv S (rn_move (S.tm rfl)) rfl ?_))); clear S; intro a S
    refine lv S (rn_fld fa_103_0 (S.tm rfl)) rfl ?_; clear S; intro a S
    refine lv S (rn_load Tryz.isAgg3 (S.tm rfl) (S.cell (i := 0) rfl rfl)) rfl ?_; clear S; intro a S
    refine lv S (rn_lss (S.tm rfl) (S.tm rfl)) rfl ?_; clear S; intro a S
    refine l_done (then_n (f_cond (S.tm rfl) (fun hb6 => ?_) (fun hb6 => ?_)))
    ·replace h := iteT h hb6
     refine wp_skip (then_n (f_seq (wp_block (f_region (lv S (rn_move (S.tm rfl)) rfl ?_))))); clear S; intro a S
     refine lv S (rn_move (S.tm rfl)) rfl ?_; clear S; intro a S
     refine l_enter S (fun _ => run_call (vs := [iV x5]) ⟨(S.tm rfl), trivial⟩ Tryz.call87) (swimmer_yearLong_ok _ x5 _ rfl) rfl ?_; clear S; intro v26 a w36 hv26 hk31 hn26 S
     subst hv26
     refine lv S (rn_add (S.tm rfl) (S.tm rfl)) rfl ?_; clear S; intro a S
     refine lv S (rn_assign (S.tm rfl)) rfl ?_; clear S; intro a S
     refine l_done (blk_n (then_n (f_region (lv S (rn_move (S.tm rfl)) rfl ?_)))); clear S; intro a S
     refine lv S (rn_add (S.tm rfl) rfl) rfl ?_; clear S; intro a S
     refine lv S (rn_assign (S.tm rfl)) rfl ?_; clear S; intro a S
     refine l_done (then_n ?_)
     exact ⟨m2, ⟨W (x4 + (swimmer_yearLong x5)), W (x5 + 1), h, S.nf [true] rfl ⟨rfl, rfl, rfl, trivial⟩⟩, Nat.lt_succ_self _⟩
    ·replace h := iteF h hb6
     refine wp_exit (then_x (then_x (x_same (then_n ?_))))
     exact ⟨x4, h, S.nf [true] rfl (subR rfl)⟩
  clear S h; rintro a w35 ⟨x4, h, S⟩; rw [hj3] at h; clear hj3 j3
  refine then_n (f_seq (f_seq (f_region (lv S (rn_fld fa_103_0 (S.tm rfl)) rfl ?_)))); clear S; intro a S
  refine lv S (rn_load Tryz.isAgg3 (S.tm rfl) (S.cell (i := 0) rfl rfl)) rfl ?_; clear S; intro a S
  refine lv S (rn_assign (S.tm rfl)) rfl ?_; clear S; intro a S
  refine l_done (then_n ?_)
  replace S := S.nk [] [(4, iV x4), (7, iV p_d.Year)] [false] rfl (subR rfl)
  obtain ⟨j4, hj4, h⟩ := joinE h
  refine f_join (fun a w' => ∃ x6 : Int, j4 x6 = some r ∧ Sx w [] nov [] [(4, iV x6)] 68 a w') ?_ ?_
  ·refine wp_block (f_loop (fun (m3 : Nat) a w' => ∃ x6 : Int, ∃ x7 : Int, swimmer_DayOf_l3 j4 m3 x6 x7 = some r ∧ Sx w [] nov [] [(4, iV x6), (7, iV x7)] 68 a w') id ((2024 - p_d.Year).toNat + 2) ⟨x4, p_d.Year, h, S.nf [] rfl (subR rfl)⟩ ?_)
   clear S h; rintro m3 a w37 ⟨x6, x7, h, S⟩
   cases m3 with
   | zero => rw [swimmer_DayOf_l3.eq_1] at h; cases h
   | succ m3 =>
    rw [swimmer_DayOf_l3.eq_2] at h
    refine f_seq (f_seq (f_region (lv S (rn_move (S.tm rfl)) rfl ?_))); clear S; intro a S
    refine lv S (rn_lss (S.tm rfl) rfl) rfl ?_; clear S; intro a S
    refine l_done (then_n (f_cond (S.tm rfl) (fun hb7 => ?_) (fun hb7 => ?_)))
    ·replace h := iteT h hb7
     refine wp_skip (then_n (f_seq (wp_block (f_region (lv S (rn_move (S.tm rfl)) rfl ?_))))); clear S; intro a S
     refine lv S (rn_move (S.tm rfl)) rfl ?_; clear S; intro a S
     refine l_enter S (fun _ => run_call (vs := [iV x7]) ⟨(S.tm rfl), trivial⟩ Tryz.call87) (swimmer_yearLong_ok _ x7 _ rfl) rfl ?_; clear S; intro v27 a w39 hv27 hk32 hn27 S
     subst hv27
     refine lv S (rn_sub (S.tm rfl) (S.tm rfl)) rfl ?_; clear S; intro a S
     refine lv S (rn_assign (S.tm rfl)) rfl ?_; clear S; intro a S
     refine l_done (blk_n (then_n (f_region (lv S (rn_move (S.tm rfl)) rfl ?_)))); clear S; intro a S
     refine lv S (rn_add (S.tm rfl) rfl) rfl ?_; clear S; intro a S
     refine lv S (rn_assign (S.tm rfl)) rfl ?_; clear S; intro a S
     refine l_done (then_n ?_)
     exact ⟨m3, ⟨W (x6 - (swimmer_yearLong x7)), W (x7 + 1), h, S.nf [] rfl ⟨rfl, rfl, trivial⟩⟩, Nat.lt_succ_self _⟩
    ·replace h := iteF h hb7
     refine wp_exit (then_x (then_x (x_same (then_n ?_))))
     exact ⟨x6, h, S.nf [] rfl ⟨rfl, trivial⟩⟩
  clear S h; rintro a w38 ⟨x6, h, S⟩; rw [hj4] at h; clear hj4 j4
  refine then_n (f_seq (f_seq (f_region (lv S (rn_move (S.tm rfl)) rfl ?_)))); clear S; intro a S
  refine l_enter S (fun _ => run_call (vs := [iV x6]) ⟨(S.tm rfl), trivial⟩ Tryz.call88) (swimmer_isDay_ok _ x6 _ rfl) rfl ?_; clear S; intro v28 a w40 hv28 hk33 hn28 S
  subst hv28
  refine lv S (rn_not (S.tm rfl)) rfl ?_; clear S; intro a S
  refine l_done (then_n (f_cond (S.tm rfl) (fun hb8 => ?_) (fun hb8 => ?_)))
  ·replace h := iteT h hb8
   refine f_seq (f_region (lv S (rn_assign rfl) rfl ?_)); clear S; intro a S
   refine lv S (rn_assign rfl) rfl ?_; clear S; intro a S
   refine l_done (then_n (wp_ret (then_r ?_)))
   obtain rfl := Option.some.inj h
   exact f_ret2 S Tryz.results60 rfl rfl rfl
  ·replace h := iteF h hb8
   refine wp_skip (then_n (f_seq (f_region (lv S (rn_move (S.tm rfl)) rfl ?_)))); clear S; intro a S
   refine lv S (rn_assign (S.tm rfl)) rfl ?_; clear S; intro a S
   refine lv S (rn_assign rfl) rfl ?_; clear S; intro a S
   refine l_done (then_n (wp_ret ?_))
   obtain rfl := Option.some.inj h
   exact f_ret2 S Tryz.results60 rfl rfl rfl
theorem tumblaw2_dated_ok (w : World) (r : Bool) (h : tumblaw2_dated = some r) :
    Calls Tryz.prog 28 [].toArray w (Ret w [] fun _ v _ => v = bV r) := by
 refine f_enter [] [] Tryz.func28 rfl Tryz.ntmps28 rfl (by simp) (by simp [fps]) (by simp [fps]) fun a S => ?_
 unfold tumblaw2_dated at h
 replace S := S.nk [] [] [] rfl trivial
 refine f_seq (f_region (lv S (rn_assign rfl) rfl ?_)); clear S; intro a S
 refine l_done (then_n (f_seq (f_region (lv S (rn_bld bt_103 (pv := [(0, iV 2024), (1, iV 3), (2, iV 1)]) ⟨rfl, rfl, rfl, rfl, rfl, rfl, trivial⟩ (cs := [iV 2024, iV 3, iV 1]) (by kernel_rfl)) rfl ?_)))); clear S; intro a S
 obtain ⟨r1, hr1, h⟩ := bindE h
 refine l_enter S (fun _ => run_call (vs := [.agg (GDate.enc (GDate.mk 2024 3 1)).toArray]) ⟨(S.tm rfl), trivial⟩ Tryz.call60) (swimmer_DayOf_ok _ (GDate.mk 2024 3 1) _ hr1) rfl ?_; clear S; intro v1 a w1 hv1 hk1 hn1 S
 subst hv1
 refine lv S (rn_move (S.tm rfl)) rfl ?_; clear S; intro a S
 refine lv S (rn_extract (S.tm rfl) rfl) rfl ?_; clear S; intro a S
 refine lv S (rn_extract (S.tm rfl) rfl) rfl ?_; clear S; intro a S
 refine lv S (rn_assign (S.tm rfl)) rfl ?_; clear S; intro a S
 refine lv S (rn_assign (S.tm rfl)) rfl ?_; clear S; intro a S
 refine l_done (then_n (f_seq (f_region (lv S (rn_move (S.tm rfl)) rfl ?_)))); clear S; intro a S
 refine lv S (rn_eql (S.tm rfl) rfl) rfl ?_; clear S; intro a S
 refine lv S (rn_move (S.tm rfl)) rfl ?_; clear S; intro a S
 refine f_cutm 3 (fun a w' => Keep [] w1 w' ∧ Sx w [] nov [] [(13, bV ((decide (r1.2 = 0)) && (decide (r1.1 = 60))))] 14 a w') ?_ ?_
 ·rcases Bool.eq_false_or_eq_true (decide (r1.2 = 0)) with hb1 | hb1
  ·refine l_want S rfl rfl rfl hb1 (lv S (rn_move (S.tm rfl)) rfl ?_); clear S; intro a S
   refine l_want S rfl rfl rfl hb1 (lv S (rn_eql (S.tm rfl) rfl) rfl ?_); clear S; intro a S
   refine lv S (rn_and_t hb1 (S.tm rfl) (S.tm rfl)) rfl ?_; clear S; intro a S
   refine l_done (then_n ?_)
   exact ⟨Keep.refl _ _, S.nf [] rfl ⟨rfl, trivial⟩⟩
  ·refine l_skip S rfl rfl rfl (neq_f hb1) rfl ?_ rfl; clear S; intro a S
   refine l_skip S rfl rfl rfl (neq_f hb1) rfl ?_ rfl; clear S; intro a S
   refine lv S (rn_and_f (decide (r1.1 = 60)) hb1 (S.tm rfl) rfl) rfl ?_; clear S; intro a S
   refine l_done (then_n ?_)
   exact ⟨Keep.refl _ _, S.nf [] rfl ⟨rfl, trivial⟩⟩
 clear S; rintro a w2 ⟨hk2, S⟩
 refine lv S (rn_assign (S.tm rfl)) rfl ?_; clear S; intro a S
 refine l_done (then_n (wp_ret ?_))
 obtain rfl := Option.some.inj h
 exact f_ret S Tryz.results28 rfl rfl
set_option maxHeartbeats 8000000 in
set_option maxRecDepth 20000 in
theorem tumblaw2_RelaysMade_ok (w : World) (v_p_l : Value) (p_l : List Int) (hs_p_l : Slc (view w []) 1 v_p_l (p_l.map eInt)) (r : Bool) (h : tumblaw2_RelaysMade p_l = some r) :
    Calls Tryz.prog 3 [v_p_l].toArray w (Ret w [] fun _ v _ => v = bV r) := by
 refine f_enter [] [] Tryz.func3 rfl Tryz.ntmps3 rfl (by simp) (by simp [fps]) (by simp [fps]) fun a S => ?_
 unfold tumblaw2_RelaysMade at h
 replace S := S.nk [] [(0, v_p_l)] [] rfl ⟨rfl, trivial⟩
 refine f_seq (f_region (lv S (rn_assign rfl) rfl ?_)); clear S; intro a S
 refine l_done (then_n (f_seq (f_region (lv S (rn_move (S.tm rfl)) rfl ?_)))); clear S; intro a S
 refine lv S (rn_bld bt_25 (pv := [(0, v_p_l)]) ⟨rfl, (S.tm rfl), trivial⟩ (cs := [v_p_l, iV 0]) (by obtain ⟨_, _, hv⟩ := (slc_len hs_p_l); rw [hv]; clear hv; kernel_rfl)) rfl ?_; clear S; intro a S
 refine l_box S (S.tm rfl) (cs := [v_p_l, iV 0]) rfl rfl ?_; clear S; intro a w1 b1 hz1 hk1 S
 refine lv S (rn_assign (S.tm rfl)) rfl ?_; clear S; intro a S
 refine l_done (then_n (f_seq (f_region (lv S (rn_move (S.tm rfl)) rfl ?_)))); clear S; intro a S
 obtain ⟨r1, hr1, h⟩ := bindE h
 have hz2 := S.keep.size
 refine l_enter1 0 S (b := b1) rfl rfl (fun _ => .blk b1 [v_p_l, iV r1.2] 25) (fun _ => run_call (vs := [.pointer (some ⟨b1, 0, none⟩)]) ⟨(S.tm rfl), trivial⟩ Tryz.call4) (Stream_SpoiltRaces_ok _ b1 v_p_l p_l (hs_p_l.mono (S.le_arg (fp_sub (i := 0) (e := .blk b1 [v_p_l, iV 0] 25) rfl))) 0 (S.holds _ (List.mem_of_getElem? (i := 0) rfl)) _ hr1) rfl (fun _ _ _ h => ⟨h.1, fun _ hc => by cases hc; rfl⟩) ?_; clear S; intro v1 a w2 hv1 hk2 hn1 S
 replace hv1 := hv1.2
 replace S := S.take hn1 hz2 hv1
 refine lv S (rn_move (S.tm rfl)) rfl ?_; clear S; intro a S
 obtain ⟨r2, hr2, h⟩ := bindE h
 have hz3 := S.keep.size
 refine l_enter1 1 S (b := b1) rfl rfl (fun _ => .blk b1 [v_p_l, iV r2.2] 25) (fun _ => run_call (vs := [.pointer (some ⟨b1, 0, none⟩)]) ⟨(S.tm rfl), trivial⟩ Tryz.call5) (Stream_Swimmers_ok _ b1 v_p_l p_l (hs_p_l.mono (S.le_arg (fp_sub (i := 1) (e := .blk b1 [v_p_l, iV r1.2] 25) rfl))) r1.2 (S.holds _ (List.mem_of_getElem? (i := 1) rfl)) _ hr2) rfl (fun _ _ _ h => ⟨h.1, fun _ hc => by cases hc; rfl⟩) ?_; clear S; intro v2 a w3 hv2 hk3 hn2 S
 replace hv2 := hv2.2
 obtain ⟨φ1, hl1, hm1, S⟩ := S.see' hn2 hz3
 have hs1 := hv2.mono hm1
 refine lv S (rn_move (S.tm rfl)) rfl ?_; clear S; intro a S
 obtain ⟨r3, hr3, h⟩ := bindE h
 have hz4 := S.keep.size
 refine l_enter1 1 S (b := b1) rfl rfl (fun _ => .blk b1 [v_p_l, iV r3.2] 25) (fun _ => run_call (vs := [.pointer (some ⟨b1, 0, none⟩)]) ⟨(S.tm rfl), trivial⟩ Tryz.call6) (Stream_Moves_ok _ b1 v_p_l p_l (hs_p_l.mono (S.le_arg (fp_sub (i := 1) (e := .blk b1 [v_p_l, iV r2.2] 25) rfl))) r2.2 (S.holds _ (List.mem_of_getElem? (i := 1) rfl)) _ hr3) rfl (fun _ _ _ h => ⟨h.1, fun _ hc => by cases hc; rfl⟩) ?_; clear S; intro v3 a w4 hv3 hk4 hn3 S
 replace hv3 := hv3.2
 obtain ⟨φ2, hl2, hm2, S⟩ := S.see' hn3 hz4
 have hs2 := hv3.mono hm2
 refine lv S (rn_move (S.tm rfl)) rfl ?_; clear S; intro a S
 obtain ⟨r4, hr4, h⟩ := bindE h
 refine l_enter1 1 S (b := b1) rfl rfl (fun _ => .blk b1 [v_p_l, iV r4.2] 25) (fun _ => run_call (vs := [.pointer (some ⟨b1, 0, none⟩)]) ⟨(S.tm rfl), trivial⟩ Tryz.call7) (Stream_Bounds_ok _ b1 v_p_l p_l (hs_p_l.mono (S.le_arg (fp_sub (i := 1) (e := .blk b1 [v_p_l, iV r3.2] 25) rfl))) r3.2 (S.holds _ (List.mem_of_getElem? (i := 1) rfl)) _ hr4) rfl (fun _ _ _ h => ⟨h.1, fun _ hc => by cases hc; rfl⟩) ?_; clear S; intro v4 a w5 hv4 hk5 hn4 S
 replace hv4 := hv4.2
 subst hv4
 refine lv S (rn_move (S.tm rfl)) rfl ?_; clear S; intro a S
 obtain ⟨r5, hr5, h⟩ := bindE h
 have hz5 := S.keep.size
 refine l_enter1 1 S (b := b1) rfl rfl (fun _ => .blk b1 [v_p_l, iV r5.2] 25) (fun _ => run_call (vs := [.pointer (some ⟨b1, 0, none⟩)]) ⟨(S.tm rfl), trivial⟩ Tryz.call8) (Stream_Squad_ok _ b1 v_p_l p_l (hs_p_l.mono (S.le_arg (fp_sub (i := 1) (e := .blk b1 [v_p_l, iV r4.2] 25) rfl))) r4.2 (S.holds _ (List.mem_of_getElem? (i := 1) rfl)) _ hr5) rfl (fun _ _ _ h => ⟨h.1, fun _ hc => by cases hc; rfl⟩) ?_; clear S; intro v5 a w6 hv5 hk6 hn5 S
 replace hv5 := hv5.2
 obtain ⟨q1, rfl, hq1⟩ := hv5
 obtain ⟨φ3, hl3, hm3, S⟩ := S.see' hn5 hz5
 obtain ⟨u5, rfl, hs3⟩ := rel_37_mono hm3 _ _ hq1
 refine l_alloc S Tryz.zeroValue33 (cs := [iV 0, iV 0, iV 0, iV 0]) rfl rfl ?_; clear S; intro a w7 b2 hz6 hk7 S
 refine l_alloc S Tryz.zeroValue37 (cs := [sV k_empty, sV k_empty, sV k_empty, .slice none 0 0]) rfl rfl ?_; clear S; intro a w8 b3 hz7 hk8 S
 iterate 3 (refine lv S (rn_assign (S.tm rfl)) rfl ?_; clear S; intro a S)
 refine l_store S (S.tm rfl) (S.tm rfl) (i := 1) (off := 0) rfl Tryz.sizeOf33 (vs := (GBounds.enc r4.1)) rfl rfl rfl rfl ?_; clear S; intro w9 hk9 S
 refine l_store S (S.tm rfl) (S.tm rfl) (i := 0) (off := 0) rfl Tryz.sizeOf37 (vs := [sV r5.1.Key, sV r5.1.Club, sV r5.1.Race, u5.val]) rfl rfl rfl (all1 rfl (all1 rfl (all1 rfl (all1 (SlcLen.one (slc_len hs3)) rfl)))) ?_; clear S; intro w10 hk10 S
 refine l_done ?_
 replace S := S.nk [.blk b3 [sV r5.1.Key, sV r5.1.Club, sV r5.1.Race, u5.val] 37, .blk b2 (GBounds.enc r4.1) 33, .own v1 42 8 r1.1.length (r1.1.flatMap GRace.enc), .blk b1 [v_p_l, iV r5.2] 25] [(3, .pointer (some ⟨b1, 0, none⟩)), (4, v1), (5, v2), (6, v3), (7, .pointer (some ⟨b2, 0, none⟩)), (8, .pointer (some ⟨b3, 0, none⟩))] [true, true, true, true] rfl (subR rfl)
 refine then_n (f_seq (f_seq (f_region (lv S (rn_move (S.tm rfl)) rfl ?_)))); clear S; intro a S
 obtain ⟨r6, hr6, h⟩ := bindE h
 refine l_enter1 3 S (b := b1) rfl rfl (fun _ => .blk b1 [v_p_l, iV r6.2] 25) (fun _ => run_call (vs := [.pointer (some ⟨b1, 0, none⟩), iV 2]) ⟨(S.tm rfl), rfl, trivial⟩ Tryz.call9) (Stream_Flip_ok _ b1 v_p_l p_l (hs_p_l.mono (S.le_arg (fp_sub (i := 3) (e := .blk b1 [v_p_l, iV r5.2] 25) rfl))) r5.2 (S.holds _ (List.mem_of_getElem? (i := 3) rfl)) 2 _ hr6) rfl (fun _ _ _ h => ⟨h.1, fun _ hc => by cases hc; rfl⟩) ?_; clear S; intro v6 a w11 hv6 hk11 hn6 S
 replace hv6 := hv6.2
 subst hv6
 refine l_done (then_n ?_)
 obtain ⟨j1, hj1, h⟩ := joinE h
 refine f_join (fun a w' => ∃ x1 : List GMove, ∃ φ4 : View, ∃ v7 : Value, j1 x1 = some r ∧ View.le φ3 φ4 ∧ OwnV φ4 74 3 v7 x1.length (x1.flatMap GMove.enc) ∧ Sx w [] φ4 [.blk b3 [sV r5.1.Key, sV r5.1.Club, sV r5.1.Race, u5.val] 37, .blk b2 (GBounds.enc r4.1) 33, .own v1 42 8 r1.1.length (r1.1.flatMap GRace.enc), .blk b1 [v_p_l, iV r6.2] 25] [(3, .pointer (some ⟨b1, 0, none⟩)), (4, v1), (5, v2), (6, v7), (7, .pointer (some ⟨b2, 0, none⟩)), (8, .pointer (some ⟨b3, 0, none⟩))] 177 a w') ?_ ?_
 ·refine f_cond (S.tm rfl) (fun hb1 => ?_) (fun hb1 => ?_)
  ·replace h := iteT h hb1
   refine f_region (lv S (rn_move (S.tm rfl)) rfl ?_); clear S; intro a S
   obtain ⟨r7, hr7, h⟩ := bindE h
   have hz8 := S.keep.size
   refine l_enter S (fun _ => run_call (vs := [.pointer (some ⟨b1, 0, none⟩)]) ⟨(S.tm rfl), trivial⟩ Tryz.call10) (Stream_OneClub_ok _ b1 v_p_l p_l (hs_p_l.mono (S.le_arg nil_sub)) r6.2 (S.blk_view (i := 3) rfl ((ne_nil (e' := .blk b1 [v_p_l, iV r6.2] 25)) _ rfl)) _ hr7) rfl ?_; clear S; intro v8 a w13 hv7 hk12 hn7 S
   obtain ⟨φ5, hl5, hm4, S⟩ := S.see' hn7 hz8
   have hs5 := hv7.mono hm4
   refine lv S (rn_assign (S.tm rfl)) rfl ?_; clear S; intro a S
   refine l_done (then_n ?_)
   exact ⟨r7, φ5, v8, h, hl5, hs5, S.nf [true, true, true, true] rfl (subR rfl)⟩
  ·replace h := iteF h hb1
   refine wp_skip (then_n ?_)
   exact ⟨r3.1, φ3, v3, h, (View.le_refl _), (hs2.mono hl3), S.nf [true, true, true, true] rfl (subR rfl)⟩
 clear S h; rintro a w12 ⟨x1, φ4, v7, h, hl4, hs4, S⟩; rw [hj1] at h; clear hj1 j1
 refine then_n (f_seq (f_seq (f_region (lv S (rn_move (S.tm rfl)) rfl ?_)))); clear S; intro a S
 refine lv S (rn_lenT sl_26 (S.tm rfl) (own_len (S.own_at (i := 2) rfl))) rfl ?_; clear S; intro a S
 refine lv S (rn_move rfl) rfl ?_; clear S; intro a S
 refine l_done (then_n ?_)
 replace S := S.nk [.blk b3 [sV r5.1.Key, sV r5.1.Club, sV r5.1.Race, u5.val] 37, .blk b2 (GBounds.enc r4.1) 33, .own v1 42 8 r1.1.length (r1.1.flatMap GRace.enc), .blk b1 [v_p_l, iV r6.2] 25] [(3, .pointer (some ⟨b1, 0, none⟩)), (4, v1), (5, v2), (6, v7), (7, .pointer (some ⟨b2, 0, none⟩)), (8, .pointer (some ⟨b3, 0, none⟩)), (43, iV (r1.1.length : Int)), (44, iV 0)] [true, true, true, true] rfl (subR rfl)
 have hm5 := own_max (S.own_at (i := 2) rfl)
 obtain ⟨j2, hj2, h⟩ := joinE h
 refine f_join (fun a w' => ∃ x2 : List GRace, ∃ x3 : Int, ∃ v9 : Value, j2 x2 x3 = some r ∧ Sx w [] φ4 [.blk b3 [sV r5.1.Key, sV r5.1.Club, sV r5.1.Race, u5.val] 37, .blk b2 (GBounds.enc r4.1) 33, .own v9 42 8 x2.length (x2.flatMap GRace.enc), .blk b1 [v_p_l, iV x3] 25] [(3, .pointer (some ⟨b1, 0, none⟩)), (4, v9), (5, v2), (6, v7), (7, .pointer (some ⟨b2, 0, none⟩)), (8, .pointer (some ⟨b3, 0, none⟩))] 177 a w') ?_ ?_
 ·refine wp_block (f_loop (fun (ys1 : List GRace) a w' => ∃ i1 : Nat, ∃ x2 : List GRace, ∃ x3 : Int, ∃ v9 : Value, (∃ dn, r1.1 = dn ++ ys1 ∧ dn.length = i1) ∧ tumblaw2_RelaysMade_l1 p_l j2 ys1 i1 x2 x3 = some r ∧ Sx w [] φ4 [.blk b3 [sV r5.1.Key, sV r5.1.Club, sV r5.1.Race, u5.val] 37, .blk b2 (GBounds.enc r4.1) 33, .own v9 42 8 x2.length (x2.flatMap GRace.enc), .blk b1 [v_p_l, iV x3] 25] [(3, .pointer (some ⟨b1, 0, none⟩)), (4, v9), (5, v2), (6, v7), (7, .pointer (some ⟨b2, 0, none⟩)), (8, .pointer (some ⟨b3, 0, none⟩)), (43, iV (r1.1.length : Int)), (44, iV (i1 : Int))] 177 a w') List.length r1.1 ⟨0, r1.1, r6.2, v1, ⟨[], rfl, rfl⟩, h, S.nf [true, true, true, true] rfl (subR rfl)⟩ ?_)
  clear S h; rintro ys1 a w14 ⟨i1, x2, x3, v9, ⟨dn, hd1, hi1⟩, h, S⟩
  cases ys1 with
  | nil =>
   rw [tumblaw2_RelaysMade_l1.eq_1] at h
   refine f_seq (f_region (lv S (rn_lss (S.tm rfl) (S.tm rfl)) rfl ?_)); clear S; intro a S
   refine l_done ?_
   replace S := S.nk [.blk b3 [sV r5.1.Key, sV r5.1.Club, sV r5.1.Race, u5.val] 37, .blk b2 (GBounds.enc r4.1) 33, .own v9 42 8 x2.length (x2.flatMap GRace.enc), .blk b1 [v_p_l, iV x3] 25] [(3, .pointer (some ⟨b1, 0, none⟩)), (4, v9), (5, v2), (6, v7), (7, .pointer (some ⟨b2, 0, none⟩)), (8, .pointer (some ⟨b3, 0, none⟩)), (43, iV (r1.1.length : Int)), (44, iV (i1 : Int)), (45, bV (decide ((i1 : Int) < (r1.1.length : Int))))] [true, true, true, true] rfl (subR rfl)
   refine then_n (f_seq (wp_cond_false ((S.tm rfl).trans (congrArg Value.bool (rng_nil hd1 hi1))) (wp_exit (then_x (then_x (x_same ?_))))))
   refine then_n ?_
   exact ⟨x2, x3, v9, h, S.nf [true, true, true, true] rfl (subR rfl)⟩
  | cons y1 ys1 =>
   rw [tumblaw2_RelaysMade_l1.eq_2] at h
   refine f_seq (f_region (lv S (rn_lss (S.tm rfl) (S.tm rfl)) rfl ?_)); clear S; intro a S
   refine l_done ?_
   replace S := S.nk [.blk b3 [sV r5.1.Key, sV r5.1.Club, sV r5.1.Race, u5.val] 37, .blk b2 (GBounds.enc r4.1) 33, .own v9 42 8 x2.length (x2.flatMap GRace.enc), .blk b1 [v_p_l, iV x3] 25] [(3, .pointer (some ⟨b1, 0, none⟩)), (4, v9), (5, v2), (6, v7), (7, .pointer (some ⟨b2, 0, none⟩)), (8, .pointer (some ⟨b3, 0, none⟩)), (43, iV (r1.1.length : Int)), (44, iV (i1 : Int)), (45, bV (decide ((i1 : Int) < (r1.1.length : Int))))] [true, true, true, true] rfl (subR rfl)
   refine then_n (f_seq (wp_cond_true ((S.tm rfl).trans (congrArg Value.bool (rng_cons hd1 hi1))) (wp_skip (then_n (f_seq ?_)))))
   obtain ⟨j3, hj3, h⟩ := joinE h
   refine f_join (fun a w' => ∃ x4 : List GRace, ∃ x5 : Int, j3 x4 x5 = some r ∧ Sx w [] φ4 [.blk b3 [sV r5.1.Key, sV r5.1.Club, sV r5.1.Race, u5.val] 37, .blk b2 (GBounds.enc r4.1) 33, .own v9 42 8 x4.length (x4.flatMap GRace.enc), .blk b1 [v_p_l, iV x5] 25] [(3, .pointer (some ⟨b1, 0, none⟩)), (4, v9), (5, v2), (6, v7), (7, .pointer (some ⟨b2, 0, none⟩)), (8, .pointer (some ⟨b3, 0, none⟩)), (43, iV (r1.1.length : Int)), (44, iV (i1 : Int))] 177 a w') ?_ ?_
   ·refine wp_block (f_seq (f_region (lv S (rn_move (S.tm rfl)) rfl ?_))); clear S; intro a S
    refine lv S (rn_assign (S.tm rfl)) rfl ?_; clear S; intro a S
    refine l_done (then_n (f_seq (f_region (lv S (rn_move (S.tm rfl)) rfl ?_)))); clear S; intro a S
    obtain ⟨r8, hr8, h⟩ := bindE h
    refine l_enter1 3 S (b := b1) rfl rfl (fun _ => .blk b1 [v_p_l, iV r8.2] 25) (fun _ => run_call (vs := [.pointer (some ⟨b1, 0, none⟩), iV 2]) ⟨(S.tm rfl), rfl, trivial⟩ Tryz.call9) (Stream_Flip_ok _ b1 v_p_l p_l (hs_p_l.mono (S.le_arg (fp_sub (i := 3) (e := .blk b1 [v_p_l, iV x3] 25) rfl))) x3 (S.holds _ (List.mem_of_getElem? (i := 3) rfl)) 2 _ hr8) rfl (fun _ _ _ h => ⟨h.1, fun _ hc => by cases hc; rfl⟩) ?_; clear S; intro v10 a w17 hv8 hk13 hn8 S
    replace hv8 := hv8.2
    subst hv8
    refine l_done (then_n ?_)
    obtain ⟨j4, hj4, h⟩ := joinE h
    refine f_join (fun a w' => ∃ x6 : List GRace, ∃ x7 : Int, j4 x6 x7 = some r ∧ Sx w [] φ4 [.blk b3 [sV r5.1.Key, sV r5.1.Club, sV r5.1.Race, u5.val] 37, .blk b2 (GBounds.enc r4.1) 33, .own v9 42 8 x6.length (x6.flatMap GRace.enc), .blk b1 [v_p_l, iV x7] 25] [(3, .pointer (some ⟨b1, 0, none⟩)), (4, v9), (5, v2), (6, v7), (7, .pointer (some ⟨b2, 0, none⟩)), (8, .pointer (some ⟨b3, 0, none⟩)), (43, iV (r1.1.length : Int)), (44, iV (i1 : Int))] 177 a w') ?_ ?_
    ·refine f_cond (S.tm rfl) (fun hb2 => ?_) (fun hb2 => ?_)
     ·replace h := iteT h hb2
      refine f_region (lv S (rn_move (S.tm rfl)) rfl ?_); clear S; intro a S
      iterate 6 (refine lv S (rn_move (S.tm rfl)) rfl ?_; clear S; intro a S)
      refine l_buildSlice S Tryz.underlying22 Tryz.sizeOf3 Tryz.zeroValue3 rfl rfl (pv := [(0, iV 99), (1, iV 5)]) ⟨rfl, rfl, rfl, rfl, trivial⟩ (cs := [iV 99, iV 5]) (by kernel_rfl) rfl ?_; clear S; intro a w19 b4 hz9 hk14 S
      obtain ⟨r9, hr9, h⟩ := bindE h
      refine l_enter1 4 S (b := b1) rfl rfl (fun _ => .blk b1 [v_p_l, iV r9.2] 25) (fun _ => run_call (vs := [.pointer (some ⟨b1, 0, none⟩), .slice (some ⟨b4, 0, none⟩) 2 2]) ⟨(S.tm rfl), (S.tm rfl), trivial⟩ Tryz.call11) (Stream_Pick_ok _ b1 v_p_l p_l (hs_p_l.mono (S.le_arg (fp_sub (i := 4) (e := .blk b1 [v_p_l, iV r8.2] 25) rfl))) r8.2 (S.holds _ (List.mem_of_getElem? (i := 4) rfl)) (.slice (some ⟨b4, 0, none⟩) 2 2) [99, 5] (lit_slcT enc_int S (i := 0) rfl rfl rfl rfl ((ne_fp (i := 4) (j := 0) (e := .blk b1 [v_p_l, iV r8.2] 25) (e' := .blk b4 [iV 99, iV 5] 3) S rfl rfl rfl) _ rfl)) _ hr9) rfl (fun _ _ _ h => ⟨h.1, fun _ hc => by cases hc; rfl⟩) ?_; clear S; intro v11 a w20 hv9 hk15 hn9 S
      replace hv9 := hv9.2
      subst hv9
      obtain ⟨hc1, h⟩ := chkE h
      obtain ⟨b5, hg1, hr10⟩ := rn_indexS (a := a) (x := .tmp 49) (y := .tmp 50) (ty := 0) sl_26 GRace.enc_ok S (i := 3) rfl (inB_get hc1).1 (inB_get hc1).2 (S.tm rfl) (S.tm rfl)
      refine lv S (hr10 _) rfl ?_; clear S; intro a S
      clear hr10
      refine lv S (rn_fld fa_42_4 (S.tm rfl)) rfl ?_; clear S; intro a S
      refine l_storeO (c := 4) (j := (i1 : Int).toNat) (GRace.mk ((nth x2 (i1 : Int)).Key) ((nth x2 (i1 : Int)).Metres) ((nth x2 (i1 : Int)).Stroke) ((nth x2 (i1 : Int)).Course) 4 ((nth x2 (i1 : Int)).Sex) ((nth x2 (i1 : Int)).Young) ((nth x2 (i1 : Int)).Old)) GRace.enc_ok S (S.tm rfl) rfl (i := 3) rfl hg1 (inB_get hc1).1 Tryz.sizeOf3 (vs := [iV 4]) rfl rfl rfl rfl rfl ?_; clear S; intro w22 hk17 S
      obtain ⟨hc2, h⟩ := chkE h
      obtain ⟨b6, hg2, hr11⟩ := rn_indexS (a := a) (x := .tmp 51) (y := .tmp 52) (ty := 0) sl_26 GRace.enc_ok S (i := 3) rfl (inB_get hc2).1 (inB_get hc2).2 (S.tm rfl) (S.tm rfl)
      refine lv S (hr11 _) rfl ?_; clear S; intro a S
      clear hr11
      refine lv S (rn_fld fa_42_6 (S.tm rfl)) rfl ?_; clear S; intro a S
      refine l_storeO (c := 6) (j := (i1 : Int).toNat) (GRace.mk ((nth (x2.set ((i1 : Int).toNat) (GRace.mk ((nth x2 (i1 : Int)).Key) ((nth x2 (i1 : Int)).Metres) ((nth x2 (i1 : Int)).Stroke) ((nth x2 (i1 : Int)).Course) 4 ((nth x2 (i1 : Int)).Sex) ((nth x2 (i1 : Int)).Young) ((nth x2 (i1 : Int)).Old))) (i1 : Int)).Key) ((nth (x2.set ((i1 : Int).toNat) (GRace.mk ((nth x2 (i1 : Int)).Key) ((nth x2 (i1 : Int)).Metres) ((nth x2 (i1 : Int)).Stroke) ((nth x2 (i1 : Int)).Course) 4 ((nth x2 (i1 : Int)).Sex) ((nth x2 (i1 : Int)).Young) ((nth x2 (i1 : Int)).Old))) (i1 : Int)).Metres) ((nth (x2.set ((i1 : Int).toNat) (GRace.mk ((nth x2 (i1 : Int)).Key) ((nth x2 (i1 : Int)).Metres) ((nth x2 (i1 : Int)).Stroke) ((nth x2 (i1 : Int)).Course) 4 ((nth x2 (i1 : Int)).Sex) ((nth x2 (i1 : Int)).Young) ((nth x2 (i1 : Int)).Old))) (i1 : Int)).Stroke) ((nth (x2.set ((i1 : Int).toNat) (GRace.mk ((nth x2 (i1 : Int)).Key) ((nth x2 (i1 : Int)).Metres) ((nth x2 (i1 : Int)).Stroke) ((nth x2 (i1 : Int)).Course) 4 ((nth x2 (i1 : Int)).Sex) ((nth x2 (i1 : Int)).Young) ((nth x2 (i1 : Int)).Old))) (i1 : Int)).Course) ((nth (x2.set ((i1 : Int).toNat) (GRace.mk ((nth x2 (i1 : Int)).Key) ((nth x2 (i1 : Int)).Metres) ((nth x2 (i1 : Int)).Stroke) ((nth x2 (i1 : Int)).Course) 4 ((nth x2 (i1 : Int)).Sex) ((nth x2 (i1 : Int)).Young) ((nth x2 (i1 : Int)).Old))) (i1 : Int)).Legs) ((nth (x2.set ((i1 : Int).toNat) (GRace.mk ((nth x2 (i1 : Int)).Key) ((nth x2 (i1 : Int)).Metres) ((nth x2 (i1 : Int)).Stroke) ((nth x2 (i1 : Int)).Course) 4 ((nth x2 (i1 : Int)).Sex) ((nth x2 (i1 : Int)).Young) ((nth x2 (i1 : Int)).Old))) (i1 : Int)).Sex) 0 ((nth (x2.set ((i1 : Int).toNat) (GRace.mk ((nth x2 (i1 : Int)).Key) ((nth x2 (i1 : Int)).Metres) ((nth x2 (i1 : Int)).Stroke) ((nth x2 (i1 : Int)).Course) 4 ((nth x2 (i1 : Int)).Sex) ((nth x2 (i1 : Int)).Young) ((nth x2 (i1 : Int)).Old))) (i1 : Int)).Old)) GRace.enc_ok S (S.tm rfl) rfl (i := 3) rfl hg2 (inB_get hc2).1 Tryz.sizeOf3 (vs := [iV 0]) rfl rfl rfl rfl rfl ?_; clear S; intro w24 hk19 S
      replace S := S.nk [.blk b4 [iV 99, iV 5] 3, .blk b3 [sV r5.1.Key, sV r5.1.Club, sV r5.1.Race, u5.val] 37, .blk b2 (GBounds.enc r4.1) 33, .own v9 42 8 ((x2.set ((i1 : Int).toNat) (GRace.mk ((nth x2 (i1 : Int)).Key) ((nth x2 (i1 : Int)).Metres) ((nth x2 (i1 : Int)).Stroke) ((nth x2 (i1 : Int)).Course) 4 ((nth x2 (i1 : Int)).Sex) ((nth x2 (i1 : Int)).Young) ((nth x2 (i1 : Int)).Old))).set ((i1 : Int).toNat) (GRace.mk ((nth (x2.set ((i1 : Int).toNat) (GRace.mk ((nth x2 (i1 : Int)).Key) ((nth x2 (i1 : Int)).Metres) ((nth x2 (i1 : Int)).Stroke) ((nth x2 (i1 : Int)).Course) 4 ((nth x2 (i1 : Int)).Sex) ((nth x2 (i1 : Int)).Young) ((nth x2 (i1 : Int)).Old))) (i1 : Int)).Key) ((nth (x2.set ((i1 : Int).toNat) (GRace.mk ((nth x2 (i1 : Int)).Key) ((nth x2 (i1 : Int)).Metres) ((nth x2 (i1 : Int)).Stroke) ((nth x2 (i1 : Int)).Course) 4 ((nth x2 (i1 : Int)).Sex) ((nth x2 (i1 : Int)).Young) ((nth x2 (i1 : Int)).Old))) (i1 : Int)).Metres) ((nth (x2.set ((i1 : Int).toNat) (GRace.mk ((nth x2 (i1 : Int)).Key) ((nth x2 (i1 : Int)).Metres) ((nth x2 (i1 : Int)).Stroke) ((nth x2 (i1 : Int)).Course) 4 ((nth x2 (i1 : Int)).Sex) ((nth x2 (i1 : Int)).Young) ((nth x2 (i1 : Int)).Old))) (i1 : Int)).Stroke) ((nth (x2.set ((i1 : Int).toNat) (GRace.mk ((nth x2 (i1 : Int)).Key) ((nth x2 (i1 : Int)).Metres) ((nth x2 (i1 : Int)).Stroke) ((nth x2 (i1 : Int)).Course) 4 ((nth x2 (i1 : Int)).Sex) ((nth x2 (i1 : Int)).Young) ((nth x2 (i1 : Int)).Old))) (i1 : Int)).Course) ((nth (x2.set ((i1 : Int).toNat) (GRace.mk ((nth x2 (i1 : Int)).Key) ((nth x2 (i1 : Int)).Metres) ((nth x2 (i1 : Int)).Stroke) ((nth x2 (i1 : Int)).Course) 4 ((nth x2 (i1 : Int)).Sex) ((nth x2 (i1 : Int)).Young) ((nth x2 (i1 : Int)).Old))) (i1 : Int)).Legs) ((nth (x2.set ((i1 : Int).toNat) (GRace.mk ((nth x2 (i1 : Int)).Key) ((nth x2 (i1 : Int)).Metres) ((nth x2 (i1 : Int)).Stroke) ((nth x2 (i1 : Int)).Course) 4 ((nth x2 (i1 : Int)).Sex) ((nth x2 (i1 : Int)).Young) ((nth x2 (i1 : Int)).Old))) (i1 : Int)).Sex) 0 ((nth (x2.set ((i1 : Int).toNat) (GRace.mk ((nth x2 (i1 : Int)).Key) ((nth x2 (i1 : Int)).Metres) ((nth x2 (i1 : Int)).Stroke) ((nth x2 (i1 : Int)).Course) 4 ((nth x2 (i1 : Int)).Sex) ((nth x2 (i1 : Int)).Young) ((nth x2 (i1 : Int)).Old))) (i1 : Int)).Old))).length (((x2.set ((i1 : Int).toNat) (GRace.mk ((nth x2 (i1 : Int)).Key) ((nth x2 (i1 : Int)).Metres) ((nth x2 (i1 : Int)).Stroke) ((nth x2 (i1 : Int)).Course) 4 ((nth x2 (i1 : Int)).Sex) ((nth x2 (i1 : Int)).Young) ((nth x2 (i1 : Int)).Old))).set ((i1 : Int).toNat) (GRace.mk ((nth (x2.set ((i1 : Int).toNat) (GRace.mk ((nth x2 (i1 : Int)).Key) ((nth x2 (i1 : Int)).Metres) ((nth x2 (i1 : Int)).Stroke) ((nth x2 (i1 : Int)).Course) 4 ((nth x2 (i1 : Int)).Sex) ((nth x2 (i1 : Int)).Young) ((nth x2 (i1 : Int)).Old))) (i1 : Int)).Key) ((nth (x2.set ((i1 : Int).toNat) (GRace.mk ((nth x2 (i1 : Int)).Key) ((nth x2 (i1 : Int)).Metres) ((nth x2 (i1 : Int)).Stroke) ((nth x2 (i1 : Int)).Course) 4 ((nth x2 (i1 : Int)).Sex) ((nth x2 (i1 : Int)).Young) ((nth x2 (i1 : Int)).Old))) (i1 : Int)).Metres) ((nth (x2.set ((i1 : Int).toNat) (GRace.mk ((nth x2 (i1 : Int)).Key) ((nth x2 (i1 : Int)).Metres) ((nth x2 (i1 : Int)).Stroke) ((nth x2 (i1 : Int)).Course) 4 ((nth x2 (i1 : Int)).Sex) ((nth x2 (i1 : Int)).Young) ((nth x2 (i1 : Int)).Old))) (i1 : Int)).Stroke) ((nth (x2.set ((i1 : Int).toNat) (GRace.mk ((nth x2 (i1 : Int)).Key) ((nth x2 (i1 : Int)).Metres) ((nth x2 (i1 : Int)).Stroke) ((nth x2 (i1 : Int)).Course) 4 ((nth x2 (i1 : Int)).Sex) ((nth x2 (i1 : Int)).Young) ((nth x2 (i1 : Int)).Old))) (i1 : Int)).Course) ((nth (x2.set ((i1 : Int).toNat) (GRace.mk ((nth x2 (i1 : Int)).Key) ((nth x2 (i1 : Int)).Metres) ((nth x2 (i1 : Int)).Stroke) ((nth x2 (i1 : Int)).Course) 4 ((nth x2 (i1 : Int)).Sex) ((nth x2 (i1 : Int)).Young) ((nth x2 (i1 : Int)).Old))) (i1 : Int)).Legs) ((nth (x2.set ((i1 : Int).toNat) (GRace.mk ((nth x2 (i1 : Int)).Key) ((nth x2 (i1 : Int)).Metres) ((nth x2 (i1 : Int)).Stroke) ((nth x2 (i1 : Int)).Course) 4 ((nth x2 (i1 : Int)).Sex) ((nth x2 (i1 : Int)).Young) ((nth x2 (i1 : Int)).Old))) (i1 : Int)).Sex) 0 ((nth (x2.set ((i1 : Int).toNat) (GRace.mk ((nth x2 (i1 : Int)).Key) ((nth x2 (i1 : Int)).Metres) ((nth x2 (i1 : Int)).Stroke) ((nth x2 (i1 : Int)).Course) 4 ((nth x2 (i1 : Int)).Sex) ((nth x2 (i1 : Int)).Young) ((nth x2 (i1 : Int)).Old))) (i1 : Int)).Old))).flatMap GRace.enc), .blk b1 [v_p_l, iV r9.2] 25] [(3, .pointer (some ⟨b1, 0, none⟩)), (4, v9), (5, v2), (6, v7), (7, .pointer (some ⟨b2, 0, none⟩)), (8, .pointer (some ⟨b3, 0, none⟩)), (9, iV (i1 : Int)), (43, iV (r1.1.length : Int)), (44, iV (i1 : Int)), (45, bV (decide ((i1 : Int) < (r1.1.length : Int)))), (46, iV (i1 : Int)), (47, .pointer (some ⟨b1, 0, none⟩)), (48, bV r8.1), (49, v9), (50, iV (i1 : Int)), (51, v9), (52, iV (i1 : Int)), (53, v9), (54, iV (i1 : Int)), (55, .pointer (some ⟨b1, 0, none⟩)), (56, .slice (some ⟨b4, 0, none⟩) 2 2), (57, iV r9.1), (58, .pointer (some ⟨b5, ((i1 : Int).toNat) * 8, none⟩)), (59, .pointer (some ⟨b5, ((i1 : Int).toNat) * 8 + 4, none⟩)), (60, .pointer (some ⟨b6, ((i1 : Int).toNat) * 8, none⟩)), (61, .pointer (some ⟨b6, ((i1 : Int).toNat) * 8 + 6, none⟩))] [] rfl (subR rfl)
      obtain ⟨j5, hj5, h⟩ := joinE h; replace h : j5 ((x2.set ((i1 : Int).toNat) (GRace.mk ((nth x2 (i1 : Int)).Key) ((nth x2 (i1 : Int)).Metres) ((nth x2 (i1 : Int)).Stroke) ((nth x2 (i1 : Int)).Course) 4 ((nth x2 (i1 : Int)).Sex) ((nth x2 (i1 : Int)).Young) ((nth x2 (i1 : Int)).Old))).set ((i1 : Int).toNat) (GRace.mk ((nth (x2.set ((i1 : Int).toNat) (GRace.mk ((nth x2 (i1 : Int)).Key) ((nth x2 (i1 : Int)).Metres) ((nth x2 (i1 : Int)).Stroke) ((nth x2 (i1 : Int)).Course) 4 ((nth x2 (i1 : Int)).Sex) ((nth x2 (i1 : Int)).Young) ((nth x2 (i1 : Int)).Old))) (i1 : Int)).Key) ((nth (x2.set ((i1 : Int).toNat) (GRace.mk ((nth x2 (i1 : Int)).Key) ((nth x2 (i1 : Int)).Metres) ((nth x2 (i1 : Int)).Stroke) ((nth x2 (i1 : Int)).Course) 4 ((nth x2 (i1 : Int)).Sex) ((nth x2 (i1 : Int)).Young) ((nth x2 (i1 : Int)).Old))) (i1 : Int)).Metres) ((nth (x2.set ((i1 : Int).toNat) (GRace.mk ((nth x2 (i1 : Int)).Key) ((nth x2 (i1 : Int)).Metres) ((nth x2 (i1 : Int)).Stroke) ((nth x2 (i1 : Int)).Course) 4 ((nth x2 (i1 : Int)).Sex) ((nth x2 (i1 : Int)).Young) ((nth x2 (i1 : Int)).Old))) (i1 : Int)).Stroke) ((nth (x2.set ((i1 : Int).toNat) (GRace.mk ((nth x2 (i1 : Int)).Key) ((nth x2 (i1 : Int)).Metres) ((nth x2 (i1 : Int)).Stroke) ((nth x2 (i1 : Int)).Course) 4 ((nth x2 (i1 : Int)).Sex) ((nth x2 (i1 : Int)).Young) ((nth x2 (i1 : Int)).Old))) (i1 : Int)).Course) ((nth (x2.set ((i1 : Int).toNat) (GRace.mk ((nth x2 (i1 : Int)).Key) ((nth x2 (i1 : Int)).Metres) ((nth x2 (i1 : Int)).Stroke) ((nth x2 (i1 : Int)).Course) 4 ((nth x2 (i1 : Int)).Sex) ((nth x2 (i1 : Int)).Young) ((nth x2 (i1 : Int)).Old))) (i1 : Int)).Legs) ((nth (x2.set ((i1 : Int).toNat) (GRace.mk ((nth x2 (i1 : Int)).Key) ((nth x2 (i1 : Int)).Metres) ((nth x2 (i1 : Int)).Stroke) ((nth x2 (i1 : Int)).Course) 4 ((nth x2 (i1 : Int)).Sex) ((nth x2 (i1 : Int)).Young) ((nth x2 (i1 : Int)).Old))) (i1 : Int)).Sex) 0 ((nth (x2.set ((i1 : Int).toNat) (GRace.mk ((nth x2 (i1 : Int)).Key) ((nth x2 (i1 : Int)).Metres) ((nth x2 (i1 : Int)).Stroke) ((nth x2 (i1 : Int)).Course) 4 ((nth x2 (i1 : Int)).Sex) ((nth x2 (i1 : Int)).Young) ((nth x2 (i1 : Int)).Old))) (i1 : Int)).Old))) = some r := h; generalize ((x2.set ((i1 : Int).toNat) (GRace.mk ((nth x2 (i1 : Int)).Key) ((nth x2 (i1 : Int)).Metres) ((nth x2 (i1 : Int)).Stroke) ((nth x2 (i1 : Int)).Course) 4 ((nth x2 (i1 : Int)).Sex) ((nth x2 (i1 : Int)).Young) ((nth x2 (i1 : Int)).Old))).set ((i1 : Int).toNat) (GRace.mk ((nth (x2.set ((i1 : Int).toNat) (GRace.mk ((nth x2 (i1 : Int)).Key) ((nth x2 (i1 : Int)).Metres) ((nth x2 (i1 : Int)).Stroke) ((nth x2 (i1 : Int)).Course) 4 ((nth x2 (i1 : Int)).Sex) ((nth x2 (i1 : Int)).Young) ((nth x2 (i1 : Int)).Old))) (i1 : Int)).Key) ((nth (x2.set ((i1 : Int).toNat) (GRace.mk ((nth x2 (i1 : Int)).Key) ((nth x2 (i1 : Int)).Metres) ((nth x2 (i1 : Int)).Stroke) ((nth x2 (i1 : Int)).Course) 4 ((nth x2 (i1 : Int)).Sex) ((nth x2 (i1 : Int)).Young) ((nth x2 (i1 : Int)).Old))) (i1 : Int)).Metres) ((nth (x2.set ((i1 : Int).toNat) (GRace.mk ((nth x2 (i1 : Int)).Key) ((nth x2 (i1 : Int)).Metres) ((nth x2 (i1 : Int)).Stroke) ((nth x2 (i1 : Int)).Course) 4 ((nth x2 (i1 : Int)).Sex) ((nth x2 (i1 : Int)).Young) ((nth x2 (i1 : Int)).Old))) (i1 : Int)).Stroke) ((nth (x2.set ((i1 : Int).toNat) (GRace.mk ((nth x2 (i1 : Int)).Key) ((nth x2 (i1 : Int)).Metres) ((nth x2 (i1 : Int)).Stroke) ((nth x2 (i1 : Int)).Course) 4 ((nth x2 (i1 : Int)).Sex) ((nth x2 (i1 : Int)).Young) ((nth x2 (i1 : Int)).Old))) (i1 : Int)).Course) ((nth (x2.set ((i1 : Int).toNat) (GRace.mk ((nth x2 (i1 : Int)).Key) ((nth x2 (i1 : Int)).Metres) ((nth x2 (i1 : Int)).Stroke) ((nth x2 (i1 : Int)).Course) 4 ((nth x2 (i1 : Int)).Sex) ((nth x2 (i1 : Int)).Young) ((nth x2 (i1 : Int)).Old))) (i1 : Int)).Legs) ((nth (x2.set ((i1 : Int).toNat) (GRace.mk ((nth x2 (i1 : Int)).Key) ((nth x2 (i1 : Int)).Metres) ((nth x2 (i1 : Int)).Stroke) ((nth x2 (i1 : Int)).Course) 4 ((nth x2 (i1 : Int)).Sex) ((nth x2 (i1 : Int)).Young) ((nth x2 (i1 : Int)).Old))) (i1 : Int)).Sex) 0 ((nth (x2.set ((i1 : Int).toNat) (GRace.mk ((nth x2 (i1 : Int)).Key) ((nth x2 (i1 : Int)).Metres) ((nth x2 (i1 : Int)).Stroke) ((nth x2 (i1 : Int)).Course) 4 ((nth x2 (i1 : Int)).Sex) ((nth x2 (i1 : Int)).Young) ((nth x2 (i1 : Int)).Old))) (i1 : Int)).Old))) = x8 at h S; rw [hj5] at h; clear hj5 j5
      obtain ⟨hc3, h⟩ := chkE h
      obtain ⟨b7, hg3, hr12⟩ := rn_indexS (a := a) (x := .tmp 53) (y := .tmp 54) (ty := 0) sl_26 GRace.enc_ok S (i := 3) rfl (inB_get hc3).1 (inB_get hc3).2 (S.tm rfl) (S.tm rfl)
      refine lv S (hr12 _) rfl ?_; clear S; intro a S
      clear hr12
      refine lv S (rn_fld fa_42_7 (S.tm rfl)) rfl ?_; clear S; intro a S
      refine l_storeO (c := 7) (j := (i1 : Int).toNat) (GRace.mk ((nth x8 (i1 : Int)).Key) ((nth x8 (i1 : Int)).Metres) ((nth x8 (i1 : Int)).Stroke) ((nth x8 (i1 : Int)).Course) ((nth x8 (i1 : Int)).Legs) ((nth x8 (i1 : Int)).Sex) ((nth x8 (i1 : Int)).Young) r9.1) GRace.enc_ok S (S.tm rfl) (S.tm rfl) (i := 3) rfl hg3 (inB_get hc3).1 Tryz.sizeOf3 (vs := [iV r9.1]) rfl rfl rfl rfl rfl ?_; clear S; intro w26 hk21 S
      refine l_done ?_
      replace S := S.nk [.blk b3 [sV r5.1.Key, sV r5.1.Club, sV r5.1.Race, u5.val] 37, .blk b2 (GBounds.enc r4.1) 33, .own v9 42 8 (x8.set ((i1 : Int).toNat) (GRace.mk ((nth x8 (i1 : Int)).Key) ((nth x8 (i1 : Int)).Metres) ((nth x8 (i1 : Int)).Stroke) ((nth x8 (i1 : Int)).Course) ((nth x8 (i1 : Int)).Legs) ((nth x8 (i1 : Int)).Sex) ((nth x8 (i1 : Int)).Young) r9.1)).length ((x8.set ((i1 : Int).toNat) (GRace.mk ((nth x8 (i1 : Int)).Key) ((nth x8 (i1 : Int)).Metres) ((nth x8 (i1 : Int)).Stroke) ((nth x8 (i1 : Int)).Course) ((nth x8 (i1 : Int)).Legs) ((nth x8 (i1 : Int)).Sex) ((nth x8 (i1 : Int)).Young) r9.1)).flatMap GRace.enc), .blk b1 [v_p_l, iV r9.2] 25] [(3, .pointer (some ⟨b1, 0, none⟩)), (4, v9), (5, v2), (6, v7), (7, .pointer (some ⟨b2, 0, none⟩)), (8, .pointer (some ⟨b3, 0, none⟩)), (43, iV (r1.1.length : Int)), (44, iV (i1 : Int))] [false, true, true, true, true] rfl (subR rfl)
      refine then_n ?_
      exact ⟨(x8.set ((i1 : Int).toNat) (GRace.mk ((nth x8 (i1 : Int)).Key) ((nth x8 (i1 : Int)).Metres) ((nth x8 (i1 : Int)).Stroke) ((nth x8 (i1 : Int)).Course) ((nth x8 (i1 : Int)).Legs) ((nth x8 (i1 : Int)).Sex) ((nth x8 (i1 : Int)).Young) r9.1)), r9.2, h, S.nf [true, true, true, true] rfl (subR rfl)⟩
     ·replace h := iteF h hb2
      refine wp_skip (then_n ?_)
      exact ⟨x2, r8.2, h, S.nf [true, true, true, true] rfl (subR rfl)⟩
    clear S h; rintro a w18 ⟨x6, x7, h, S⟩; rw [hj4] at h; clear hj4 j4
    refine blk_n (then_n ?_)
    exact ⟨x6, x7, h, S.nf [true, true, true, true] rfl (subR rfl)⟩
   clear S h; rintro a w16 ⟨x4, x5, h, S⟩; rw [hj3] at h; clear hj3 j3
   refine then_n (f_region (lv S (rn_add (S.tm rfl) rfl) rfl ?_)); clear S; intro a S
   refine lv S (rn_move (S.tm rfl)) rfl ?_; clear S; intro a S
   refine l_done (then_n ?_)
   exact ⟨ys1, ⟨i1 + 1, x4, x5, v9, ⟨_, (hd1).trans (List.append_cons _ _ _), by simp [hi1]⟩, h, S.nf [true, true, true, true] rfl ⟨rfl, rfl, rfl, rfl, rfl, rfl, rfl, (congrArg (fun z => some (Value.int .i64 z)) (rng_next hd1 hi1 hm5)), trivial⟩⟩, Nat.lt_succ_self _⟩
 clear S h; rintro a w15 ⟨x2, x3, v9, h, S⟩; rw [hj2] at h; clear hj2 j2
 refine then_n (f_seq (f_region (lv S (rn_move (S.tm rfl)) rfl ?_))); clear S; intro a S
 refine lv S (rn_move (S.tm rfl)) rfl ?_; clear S; intro a S
 refine lv S (rn_move (S.tm rfl)) rfl ?_; clear S; intro a S
 refine lv S (rn_ldA Tryz.isAgg33 Tryz.sizeOf33 (off := 0) (o := 0) (part := (GBounds.enc r4.1)) rfl rfl (S.tm rfl) (S.cellsAt (i := 1) rfl)) rfl ?_; clear S; intro a S
 refine lv S (rn_ldA Tryz.isAgg37 Tryz.sizeOf37 (off := 0) (o := 0) (part := [sV r5.1.Key, sV r5.1.Club, sV r5.1.Race, u5.val]) rfl rfl (S.tm rfl) (S.cellsAt (i := 0) rfl)) rfl ?_; clear S; intro a S
 obtain ⟨r10, hr13, h⟩ := bindE h
 refine l_enter S (fun _ => run_call (vs := [v9, v2, v7, .agg (GBounds.enc r4.1).toArray, .agg (R37.enc (R37.mk r5.1.Key r5.1.Club r5.1.Race u5)).toArray]) ⟨(S.tm rfl), (S.tm rfl), (S.tm rfl), (S.tm rfl), (S.tm rfl), trivial⟩ Tryz.call12) (swimmer_Wrong_ok _ v9 x2 (own_slcT GRace.enc_ok S (i := 2) rfl (ne_nil (e' := .own v9 42 8 x2.length (x2.flatMap GRace.enc)))) v2 r2.1 ((ownV_slcT GSwimmer.enc_ok hs1).mono (View.le_trans (View.le_trans (View.le_trans hl2 hl3) hl4) (S.le_new nil_sub))) v7 x1 ((ownV_slcT GMove.enc_ok hs4).mono (S.le_new nil_sub)) r4.1 r5.1 (R37.mk r5.1.Key r5.1.Club r5.1.Race u5) ⟨u5, rfl, (hs3.mono (View.le_trans hl4 (S.le_new nil_sub)))⟩ _ hr13) rfl ?_; clear S; intro v12 a w27 hv10 hk22 hn10 S
 subst hv10
 refine lv S (rn_move (S.tm rfl)) rfl ?_; clear S; intro a S
 refine lv S (rn_extract (S.tm rfl) rfl) rfl ?_; clear S; intro a S
 refine lv S (rn_extract (S.tm rfl) rfl) rfl ?_; clear S; intro a S
 refine lv S (rn_assign (S.tm rfl)) rfl ?_; clear S; intro a S
 refine lv S (rn_assign (S.tm rfl)) rfl ?_; clear S; intro a S
 refine l_done ?_
 replace S := S.nk [.blk b3 [sV r5.1.Key, sV r5.1.Club, sV r5.1.Race, u5.val] 37, .blk b2 (GBounds.enc r4.1) 33, .own v9 42 8 x2.length (x2.flatMap GRace.enc), .blk b1 [v_p_l, iV x3] 25] [(3, .pointer (some ⟨b1, 0, none⟩)), (4, v9), (5, v2), (6, v7), (7, .pointer (some ⟨b2, 0, none⟩)), (8, .pointer (some ⟨b3, 0, none⟩)), (10, sV r10.1), (11, iV r10.2)] [true, true, true, true] rfl (subR rfl)
 refine then_n (f_seq ?_)
 obtain ⟨j6, hj6, h⟩ := joinE h
 refine f_join (fun a w' => ∃ x9 : Int, j6 x9 = some r ∧ Sx w [] φ4 [.blk b3 [sV r5.1.Key, sV r5.1.Club, sV r5.1.Race, u5.val] 37, .blk b2 (GBounds.enc r4.1) 33, .own v9 42 8 x2.length (x2.flatMap GRace.enc), .blk b1 [v_p_l, iV x3] 25] [(3, .pointer (some ⟨b1, 0, none⟩)), (4, v9), (5, v2), (6, v7), (7, .pointer (some ⟨b2, 0, none⟩)), (8, .pointer (some ⟨b3, 0, none⟩)), (10, sV r10.1), (11, iV r10.2), (12, iV x9)] 177 a w') ?_ ?_
 ·obtain ⟨r11, hr14, h⟩ := bindE h
  obtain ⟨r12, hr15, h⟩ := bindE h
  obtain ⟨r13, hr16, h⟩ := bindE h
  obtain ⟨r14, hr18, h⟩ := bindE h
  refine d_region [] ([]) Tryz.mixed S rfl (by kernel_rfl) ?_; clear S; intro w37 hk31 hsel S
  refine d_quiet 0 S hsel rfl rfl rfl (by kernel_rfl) (by kernel_rfl) rfl (fun _ hw => (rn_move (S.tm rfl))) ?_; clear S; intro a S
  refine d_quiet 2 S hsel rfl rfl rfl (by kernel_rfl) (by kernel_rfl) rfl (fun _ hw => (rn_move (S.tm rfl))) ?_; clear S; intro a S
  refine d_quiet 4 S hsel rfl rfl rfl (by kernel_rfl) (by kernel_rfl) rfl (fun _ hw => (rn_move (S.tm rfl))) ?_; clear S; intro a S
  refine d_quiet 6 S hsel rfl rfl rfl (by kernel_rfl) (by kernel_rfl) rfl (fun _ hw => (rn_ldA Tryz.isAgg33 Tryz.sizeOf33 (off := 0) (o := 0) (part := (GBounds.enc r4.1)) rfl rfl (S.tm rfl) ((S.blk_mem (i := 1) (cells := (GBounds.enc r4.1)) (b := b2) (T := 33) rfl (ne_nil (e' := .blk b2 (GBounds.enc r4.1) 33))).kept hw))) ?_; clear S; intro a S
  refine d_quiet 8 S hsel rfl rfl rfl (by kernel_rfl) (by kernel_rfl) rfl (fun _ hw => (rn_ldA Tryz.isAgg37 Tryz.sizeOf37 (off := 0) (o := 0) (part := [sV r5.1.Key, sV r5.1.Club, sV r5.1.Race, u5.val]) rfl rfl (S.tm rfl) ((S.blk_mem (i := 0) (cells := [sV r5.1.Key, sV r5.1.Club, sV r5.1.Race, u5.val]) (b := b3) (T := 37) rfl (ne_nil (e' := .blk b3 [sV r5.1.Key, sV r5.1.Club, sV r5.1.Race, u5.val] 37))).kept hw))) ?_; clear S; intro a S
  refine d_loud2 1 9 (by kernel_rfl) rfl rfl ?_ ?_
  ·refine l_enter S (fun _ => run_call (vs := [v9]) ⟨(S.tm rfl), trivial⟩ Tryz.call14) (tumblaw2_racesFault_ok _ v9 x2 (own_slcT GRace.enc_ok S (i := 2) rfl (ne_nil (e' := .own v9 42 8 x2.length (x2.flatMap GRace.enc)))) _ hr14) rfl ?_; clear S; intro v19 a w38 hv17 hk32 hn17 S
   subst hv17
   refine l_done (d_next hk32 (d_loud2 3 9 (by kernel_rfl) rfl rfl ?_ ?_))
   ·refine l_enter S (fun _ => run_call (vs := [v2]) ⟨(S.tm rfl), trivial⟩ Tryz.call15) (tumbref2_SwimmersFault_ok _ v2 r2.1 ((ownV_slcT GSwimmer.enc_ok hs1).mono (View.le_trans (View.le_trans (View.le_trans hl2 hl3) hl4) (S.le_new nil_sub))) _ hr15) rfl ?_; clear S; intro v20 a w39 hv18 hk33 hn18 S
    subst hv18
    refine l_done (d_next hk33 (d_loud2 5 9 (by kernel_rfl) rfl rfl ?_ ?_))
    ·refine l_enter S (fun _ => run_call (vs := [v7]) ⟨(S.tm rfl), trivial⟩ Tryz.call16) (tumbref2_MovesFault_ok _ v7 x1 ((ownV_slcT GMove.enc_ok hs4).mono (S.le_new nil_sub)) _ hr16) rfl ?_; clear S; intro v21 a w40 hv19 hk34 hn19 S
     subst hv19
     refine l_done (d_next hk34 (d_loud2 7 9 (by kernel_rfl) rfl rfl ?_ ?_))
     ·refine l_enter S (fun _ => run_call (vs := [.agg (GBounds.enc r4.1).toArray]) ⟨(S.tm rfl), trivial⟩ Tryz.call17) (tumbref2_BoundsFault_ok _ r4.1 _ rfl) rfl ?_; clear S; intro v22 a w41 hv20 hk35 hn20 S
      subst hv20
      refine l_done (d_next hk35 (d_loud1 9 (by kernel_rfl) rfl (l_buildSlice S Tryz.underlying52 Tryz.sizeOf37 Tryz.zeroValue37 rfl rfl (pv := [(0, .agg #[sV r5.1.Key, sV r5.1.Club, sV r5.1.Race, u5.val])]) ⟨rfl, (S.tm rfl), trivial⟩ (cs := [sV r5.1.Key, sV r5.1.Club, sV r5.1.Race, u5.val]) (by kernel_rfl) rfl ?_))); clear S; intro a w42 b10 hz12 hk36 S
      refine l_done (d_next hk36 (d_loud1 10 (by kernel_rfl) rfl ?_))
      have hr19 : All2 (rel_37 φ4) ([r5.1] : List GSquad) ([(R37.mk r5.1.Key r5.1.Club r5.1.Race u5)] : List R37) := (All2.cons ⟨u5, rfl, (hs3.mono hl4)⟩ All2.nil)
      replace S := S.litOwn (i := 0) (xs := ([(R37.mk r5.1.Key r5.1.Club r5.1.Race u5)] : List R37)) rfl R37.enc_ok rfl rfl rfl
      replace S := S.nk [.own (.slice (some ⟨b10, 0, none⟩) 1 1) 37 4 ([(R37.mk r5.1.Key r5.1.Club r5.1.Race u5)] : List R37).length (([(R37.mk r5.1.Key r5.1.Club r5.1.Race u5)] : List R37).flatMap R37.enc), .blk b3 [sV r5.1.Key, sV r5.1.Club, sV r5.1.Race, u5.val] 37, .blk b2 (GBounds.enc r4.1) 33, .own v9 42 8 x2.length (x2.flatMap GRace.enc), .blk b1 [v_p_l, iV x3] 25] [(3, .pointer (some ⟨b1, 0, none⟩)), (4, v9), (5, v2), (6, v7), (7, .pointer (some ⟨b2, 0, none⟩)), (8, .pointer (some ⟨b3, 0, none⟩)), (10, sV r10.1), (11, iV r10.2), (74, v9), (75, iV r11), (76, v2), (77, iV r12), (78, v7), (79, iV r13), (80, .agg (GBounds.enc r4.1).toArray), (81, iV (tumbref2_BoundsFault r4.1)), (82, .agg #[sV r5.1.Key, sV r5.1.Club, sV r5.1.Race, u5.val]), (83, (.slice (some ⟨b10, 0, none⟩) 1 1))] [] rfl (subR rfl)
      refine l_enter S (fun _ => run_call (vs := [(.slice (some ⟨b10, 0, none⟩) 1 1)]) ⟨(S.tm rfl), trivial⟩ Tryz.call18) (tumbref2_SquadsFault_ok _ (.slice (some ⟨b10, 0, none⟩) 1 1) ([r5.1] : List GSquad) ([(R37.mk r5.1.Key r5.1.Club r5.1.Race u5)] : List R37) (own_slcT R37.enc_ok S (i := 0) rfl (ne_nil (e' := .own (.slice (some ⟨b10, 0, none⟩) 1 1) 37 4 ([(R37.mk r5.1.Key r5.1.Club r5.1.Race u5)] : List R37).length (([(R37.mk r5.1.Key r5.1.Club r5.1.Race u5)] : List R37).flatMap R37.enc)))) (rels_37 (S.le_new nil_sub) hr19) _ hr18) rfl ?_; clear S; intro v23 a w43 hv21 hk37 hn21 S
      subst hv21
      refine l_done (d_next hk37 (d_loud1 11 (by kernel_rfl) rfl (l_buildSlice S Tryz.underlying84 Tryz.sizeOf43 Tryz.zeroValue43 rfl rfl (pv := [(0, iV r11), (1, iV r12), (2, iV r13), (3, iV (tumbref2_BoundsFault r4.1)), (4, iV r14)]) ⟨rfl, (S.tm rfl), rfl, (S.tm rfl), rfl, (S.tm rfl), rfl, (S.tm rfl), rfl, (S.tm rfl), trivial⟩ (cs := [iV r11, iV r12, iV r13, iV (tumbref2_BoundsFault r4.1), iV r14]) (by kernel_rfl) rfl ?_))); clear S; intro a w44 b11 hz13 hk38 S
      refine l_done (d_next hk38 (d_loud1 12 (by kernel_rfl) rfl (l_enter S (fun _ => run_call (vs := [.slice (some ⟨b11, 0, none⟩) 5 5]) ⟨(S.tm rfl), trivial⟩ Tryz.call13) (tumblaw2_errs_ok _ (.slice (some ⟨b11, 0, none⟩) 5 5) [r11, r12, r13, (tumbref2_BoundsFault r4.1), r14] (lit_slcT enc_int S (i := 0) rfl rfl rfl rfl ((ne_nil (e' := .blk b11 [iV r11, iV r12, iV r13, iV (tumbref2_BoundsFault r4.1), iV r14] 43)) _ rfl)) _ rfl) rfl ?_))); clear S; intro v24 a w45 hv22 hk39 hn22 S
      subst hv22
      refine l_done (d_next hk39 (d_rest [13] hsel (by kernel_rfl) rfl ?_))
      clear hsel
      refine s_lv S rfl (rn_assign (S.tm rfl)) rfl ?_; clear S; intro a S
      refine s_done ?_
      replace S := S.nk [.blk b3 [sV r5.1.Key, sV r5.1.Club, sV r5.1.Race, u5.val] 37, .blk b2 (GBounds.enc r4.1) 33, .own v9 42 8 x2.length (x2.flatMap GRace.enc), .blk b1 [v_p_l, iV x3] 25] [(3, .pointer (some ⟨b1, 0, none⟩)), (4, v9), (5, v2), (6, v7), (7, .pointer (some ⟨b2, 0, none⟩)), (8, .pointer (some ⟨b3, 0, none⟩)), (10, sV r10.1), (11, iV r10.2), (12, iV (tumblaw2_errs [r11, r12, r13, (tumbref2_BoundsFault r4.1), r14]))] [false, false, true, true, true, true] rfl (subR rfl)
      refine then_n ?_
      exact ⟨(tumblaw2_errs [r11, r12, r13, (tumbref2_BoundsFault r4.1), r14]), h, S.nf [true, true, true, true] rfl (subR rfl)⟩
     ·refine l_buildSlice S Tryz.underlying52 Tryz.sizeOf37 Tryz.zeroValue37 rfl rfl (pv := [(0, .agg #[sV r5.1.Key, sV r5.1.Club, sV r5.1.Race, u5.val])]) ⟨rfl, (S.tm rfl), trivial⟩ (cs := [sV r5.1.Key, sV r5.1.Club, sV r5.1.Race, u5.val]) (by kernel_rfl) rfl ?_; clear S; intro a w46 b12 hz14 hk40 S
      refine l_done (d_next hk40 (d_loud1 7 (by kernel_rfl) rfl (l_enter S (fun _ => run_call (vs := [.agg (GBounds.enc r4.1).toArray]) ⟨(S.tm rfl), trivial⟩ Tryz.call17) (tumbref2_BoundsFault_ok _ r4.1 _ rfl) rfl ?_))); clear S; intro v25 a w47 hv23 hk41 hn23 S
      subst hv23
      refine l_done (d_next hk41 (d_loud1 10 (by kernel_rfl) rfl ?_))
      have hr20 : All2 (rel_37 φ4) ([r5.1] : List GSquad) ([(R37.mk r5.1.Key r5.1.Club r5.1.Race u5)] : List R37) := (All2.cons ⟨u5, rfl, (hs3.mono hl4)⟩ All2.nil)
      replace S := S.litOwn (i := 0) (xs := ([(R37.mk r5.1.Key r5.1.Club r5.1.Race u5)] : List R37)) rfl R37.enc_ok rfl rfl rfl
      replace S := S.nk [.own (.slice (some ⟨b12, 0, none⟩) 1 1) 37 4 ([(R37.mk r5.1.Key r5.1.Club r5.1.Race u5)] : List R37).length (([(R37.mk r5.1.Key r5.1.Club r5.1.Race u5)] : List R37).flatMap R37.enc), .blk b3 [sV r5.1.Key, sV r5.1.Club, sV r5.1.Race, u5.val] 37, .blk b2 (GBounds.enc r4.1) 33, .own v9 42 8 x2.length (x2.flatMap GRace.enc), .blk b1 [v_p_l, iV x3] 25] [(3, .pointer (some ⟨b1, 0, none⟩)), (4, v9), (5, v2), (6, v7), (7, .pointer (some ⟨b2, 0, none⟩)), (8, .pointer (some ⟨b3, 0, none⟩)), (10, sV r10.1), (11, iV r10.2), (74, v9), (75, iV r11), (76, v2), (77, iV r12), (78, v7), (79, iV r13), (80, .agg (GBounds.enc r4.1).toArray), (81, iV (tumbref2_BoundsFault r4.1)), (82, .agg #[sV r5.1.Key, sV r5.1.Club, sV r5.1.Race, u5.val]), (83, (.slice (some ⟨b12, 0, none⟩) 1 1))] [] rfl (subR rfl)
      refine l_enter S (fun _ => run_call (vs := [(.slice (some ⟨b12, 0, none⟩) 1 1)]) ⟨(S.tm rfl), trivial⟩ Tryz.call18) (tumbref2_SquadsFault_ok _ (.slice (some ⟨b12, 0, none⟩) 1 1) ([r5.1] : List GSquad) ([(R37.mk r5.1.Key r5.1.Club r5.1.Race u5)] : List R37) (own_slcT R37.enc_ok S (i := 0) rfl (ne_nil (e' := .own (.slice (some ⟨b12, 0, none⟩) 1 1) 37 4 ([(R37.mk r5.1.Key r5.1.Club r5.1.Race u5)] : List R37).length (([(R37.mk r5.1.Key r5.1.Club r5.1.Race u5)] : List R37).flatMap R37.enc)))) (rels_37 (S.le_new nil_sub) hr20) _ hr18) rfl ?_; clear S; intro v26 a w48 hv24 hk42 hn24 S
      subst hv24
      refine l_done (d_next hk42 (d_loud1 11 (by kernel_rfl) rfl (l_buildSlice S Tryz.underlying84 Tryz.sizeOf43 Tryz.zeroValue43 rfl rfl (pv := [(0, iV r11), (1, iV r12), (2, iV r13), (3, iV (tumbref2_BoundsFault r4.1)), (4, iV r14)]) ⟨rfl, (S.tm rfl), rfl, (S.tm rfl), rfl, (S.tm rfl), rfl, (S.tm rfl), rfl, (S.tm rfl), trivial⟩ (cs := [iV r11, iV r12, iV r13, iV (tumbref2_BoundsFault r4.1), iV r14]) (by kernel_rfl) rfl ?_))); clear S; intro a w49 b13 hz15 hk43 S
      refine l_done (d_next hk43 (d_loud1 12 (by kernel_rfl) rfl (l_enter S (fun _ => run_call (vs := [.slice (some ⟨b13, 0, none⟩) 5 5]) ⟨(S.tm rfl), trivial⟩ Tryz.call13) (tumblaw2_errs_ok _ (.slice (some ⟨b13, 0, none⟩) 5 5) [r11, r12, r13, (tumbref2_BoundsFault r4.1), r14] (lit_slcT enc_int S (i := 0) rfl rfl rfl rfl ((ne_nil (e' := .blk b13 [iV r11, iV r12, iV r13, iV (tumbref2_BoundsFault r4.1), iV r14] 43)) _ rfl)) _ rfl) rfl ?_))); clear S; intro v27 a w50 hv25 hk44 hn25 S
      subst hv25
      refine l_done (d_next hk44 (d_rest [13] hsel (by kernel_rfl) rfl ?_))
      clear hsel
      refine s_lv S rfl (rn_assign (S.tm rfl)) rfl ?_; clear S; intro a S
      refine s_done ?_
      replace S := S.nk [.blk b3 [sV r5.1.Key, sV r5.1.Club, sV r5.1.Race, u5.val] 37, .blk b2 (GBounds.enc r4.1) 33, .own v9 42 8 x2.length (x2.flatMap GRace.enc), .blk b1 [v_p_l, iV x3] 25] [(3, .pointer (some ⟨b1, 0, none⟩)), (4, v9), (5, v2), (6, v7), (7, .pointer (some ⟨b2, 0, none⟩)), (8, .pointer (some ⟨b3, 0, none⟩)), (10, sV r10.1), (11, iV r10.2), (12, iV (tumblaw2_errs [r11, r12, r13, (tumbref2_BoundsFault r4.1), r14]))] [false, false, true, true, true, true] rfl (subR rfl)
      refine then_n ?_
      exact ⟨(tumblaw2_errs [r11, r12, r13, (tumbref2_BoundsFault r4.1), r14]), h, S.nf [true, true, true, true] rfl (subR rfl)⟩
    ·refine l_buildSlice S Tryz.underlying52 Tryz.sizeOf37 Tryz.zeroValue37 rfl rfl (pv := [(0, .agg #[sV r5.1.Key, sV r5.1.Club, sV r5.1.Race, u5.val])]) ⟨rfl, (S.tm rfl), trivial⟩ (cs := [sV r5.1.Key, sV r5.1.Club, sV r5.1.Race, u5.val]) (by kernel_rfl) rfl ?_; clear S; intro a w51 b14 hz16 hk45 S
     refine l_done (d_next hk45 (d_loud1 5 (by kernel_rfl) rfl (l_enter S (fun _ => run_call (vs := [v7]) ⟨(S.tm rfl), trivial⟩ Tryz.call16) (tumbref2_MovesFault_ok _ v7 x1 ((ownV_slcT GMove.enc_ok hs4).mono (S.le_new nil_sub)) _ hr16) rfl ?_))); clear S; intro v28 a w52 hv26 hk46 hn26 S
     subst hv26
     refine l_done (d_next hk46 (d_loud1 7 (by kernel_rfl) rfl (l_enter S (fun _ => run_call (vs := [.agg (GBounds.enc r4.1).toArray]) ⟨(S.tm rfl), trivial⟩ Tryz.call17) (tumbref2_BoundsFault_ok _ r4.1 _ rfl) rfl ?_))); clear S; intro v29 a w53 hv27 hk47 hn27 S
     subst hv27
     refine l_done (d_next hk47 (d_loud1 10 (by kernel_rfl) rfl ?_))
     have hr21 : All2 (rel_37 φ4) ([r5.1] : List GSquad) ([(R37.mk r5.1.Key r5.1.Club r5.1.Race u5)] : List R37) := (All2.cons ⟨u5, rfl, (hs3.mono hl4)⟩ All2.nil)
     replace S := S.litOwn (i := 0) (xs := ([(R37.mk r5.1.Key r5.1.Club r5.1.Race u5)] : List R37)) rfl R37.enc_ok rfl rfl rfl
     replace S := S.nk [.own (.slice (some ⟨b14, 0, none⟩) 1 1) 37 4 ([(R37.mk r5.1.Key r5.1.Club r5.1.Race u5)] : List R37).length (([(R37.mk r5.1.Key r5.1.Club r5.1.Race u5)] : List R37).flatMap R37.enc), .blk b3 [sV r5.1.Key, sV r5.1.Club, sV r5.1.Race, u5.val] 37, .blk b2 (GBounds.enc r4.1) 33, .own v9 42 8 x2.length (x2.flatMap GRace.enc), .blk b1 [v_p_l, iV x3] 25] [(3, .pointer (some ⟨b1, 0, none⟩)), (4, v9), (5, v2), (6, v7), (7, .pointer (some ⟨b2, 0, none⟩)), (8, .pointer (some ⟨b3, 0, none⟩)), (10, sV r10.1), (11, iV r10.2), (74, v9), (75, iV r11), (76, v2), (77, iV r12), (78, v7), (79, iV r13), (80, .agg (GBounds.enc r4.1).toArray), (81, iV (tumbref2_BoundsFault r4.1)), (82, .agg #[sV r5.1.Key, sV r5.1.Club, sV r5.1.Race, u5.val]), (83, (.slice (some ⟨b14, 0, none⟩) 1 1))] [] rfl (subR rfl)
     refine l_enter S (fun _ => run_call (vs := [(.slice (some ⟨b14, 0, none⟩) 1 1)]) ⟨(S.tm rfl), trivial⟩ Tryz.call18) (tumbref2_SquadsFault_ok _ (.slice (some ⟨b14, 0, none⟩) 1 1) ([r5.1] : List GSquad) ([(R37.mk r5.1.Key r5.1.Club r5.1.Race u5)] : List R37) (own_slcT R37.enc_ok S (i := 0) rfl (ne_nil (e' := .own (.slice (some ⟨b14, 0, none⟩) 1 1) 37 4 ([(R37.mk r5.1.Key r5.1.Club r5.1.Race u5)] : List R37).length (([(R37.mk r5.1.Key r5.1.Club r5.1.Race u5)] : List R37).flatMap R37.enc)))) (rels_37 (S.le_new nil_sub) hr21) _ hr18) rfl ?_; clear S; intro v30 a w54 hv28 hk48 hn28 S
     subst hv28
     refine l_done (d_next hk48 (d_loud1 11 (by kernel_rfl) rfl (l_buildSlice S Tryz.underlying84 Tryz.sizeOf43 Tryz.zeroValue43 rfl rfl (pv := [(0, iV r11), (1, iV r12), (2, iV r13), (3, iV (tumbref2_BoundsFault r4.1)), (4, iV r14)]) ⟨rfl, (S.tm rfl), rfl, (S.tm rfl), rfl, (S.tm rfl), rfl, (S.tm rfl), rfl, (S.tm rfl), trivial⟩ (cs := [iV r11, iV r12, iV r13, iV (tumbref2_BoundsFault r4.1), iV r14]) (by kernel_rfl) rfl ?_))); clear S; intro a w55 b15 hz17 hk49 S
     refine l_done (d_next hk49 (d_loud1 12 (by kernel_rfl) rfl (l_enter S (fun _ => run_call (vs := [.slice (some ⟨b15, 0, none⟩) 5 5]) ⟨(S.tm rfl), trivial⟩ Tryz.call13) (tumblaw2_errs_ok _ (.slice (some ⟨b15, 0, none⟩) 5 5) [r11, r12, r13, (tumbref2_BoundsFault r4.1), r14] (lit_slcT enc_int S (i := 0) rfl rfl rfl rfl ((ne_nil (e' := .blk b15 [iV r11, iV r12, iV r13, iV (tumbref2_BoundsFault r4.1), iV r14] 43)) _ rfl)) _ rfl) rfl ?_))); clear S; intro v31 a w56 hv29 hk50 hn29 S
     subst hv29
     refine l_done (d_next hk50 (d_rest [13] hsel (by kernel_rfl) rfl ?_))
     clear hsel
     refine s_lv S rfl (rn_assign (S.tm rfl)) rfl ?_; clear S; intro a S
     refine s_done ?_
     replace S := S.nk [.blk b3 [sV r5.1.Key, sV r5.1.Club, sV r5.1.Race, u5.val] 37, .blk b2 (GBounds.enc r4.1) 33, .own v9 42 8 x2.length (x2.flatMap GRace.enc), .blk b1 [v_p_l, iV x3] 25] [(3, .pointer (some ⟨b1, 0, none⟩)), (4, v9), (5, v2), (6, v7), (7, .pointer (some ⟨b2, 0, none⟩)), (8, .pointer (some ⟨b3, 0, none⟩)), (10, sV r10.1), (11, iV r10.2), (12, iV (tumblaw2_errs [r11, r12, r13, (tumbref2_BoundsFault r4.1), r14]))] [false, false, true, true, true, true] rfl (subR rfl)
     refine then_n ?_
     exact ⟨(tumblaw2_errs [r11, r12, r13, (tumbref2_BoundsFault r4.1), r14]), h, S.nf [true, true, true, true] rfl (subR rfl)⟩
   ·refine l_buildSlice S Tryz.underlying52 Tryz.sizeOf37 Tryz.zeroValue37 rfl rfl (pv := [(0, .agg #[sV r5.1.Key, sV r5.1.Club, sV r5.1.Race, u5.val])]) ⟨rfl, (S.tm rfl), trivial⟩ (cs := [sV r5.1.Key, sV r5.1.Club, sV r5.1.Race, u5.val]) (by kernel_rfl) rfl ?_; clear S; intro a w57 b16 hz18 hk51 S
    refine l_done (d_next hk51 (d_loud1 3 (by kernel_rfl) rfl (l_enter S (fun _ => run_call (vs := [v2]) ⟨(S.tm rfl), trivial⟩ Tryz.call15) (tumbref2_SwimmersFault_ok _ v2 r2.1 ((ownV_slcT GSwimmer.enc_ok hs1).mono (View.le_trans (View.le_trans (View.le_trans hl2 hl3) hl4) (S.le_new nil_sub))) _ hr15) rfl ?_))); clear S; intro v32 a w58 hv30 hk52 hn30 S
    subst hv30
    refine l_done (d_next hk52 (d_loud1 5 (by kernel_rfl) rfl (l_enter S (fun _ => run_call (vs := [v7]) ⟨(S.tm rfl), trivial⟩ Tryz.call16) (tumbref2_MovesFault_ok _ v7 x1 ((ownV_slcT GMove.enc_ok hs4).mono (S.le_new nil_sub)) _ hr16) rfl ?_))); clear S; intro v33 a w59 hv31 hk53 hn31 S
    subst hv31
    refine l_done (d_next hk53 (d_loud1 7 (by kernel_rfl) rfl (l_enter S (fun _ => run_call (vs := [.agg (GBounds.enc r4.1).toArray]) ⟨(S.tm rfl), trivial⟩ Tryz.call17) (tumbref2_BoundsFault_ok _ r4.1 _ rfl) rfl ?_))); clear S; intro v34 a w60 hv32 hk54 hn32 S
    subst hv32
    refine l_done (d_next hk54 (d_loud1 10 (by kernel_rfl) rfl ?_))
    have hr22 : All2 (rel_37 φ4) ([r5.1] : List GSquad) ([(R37.mk r5.1.Key r5.1.Club r5.1.Race u5)] : List R37) := (All2.cons ⟨u5, rfl, (hs3.mono hl4)⟩ All2.nil)
    replace S := S.litOwn (i := 0) (xs := ([(R37.mk r5.1.Key r5.1.Club r5.1.Race u5)] : List R37)) rfl R37.enc_ok rfl rfl rfl
    replace S := S.nk [.own (.slice (some ⟨b16, 0, none⟩) 1 1) 37 4 ([(R37.mk r5.1.Key r5.1.Club r5.1.Race u5)] : List R37).length (([(R37.mk r5.1.Key r5.1.Club r5.1.Race u5)] : List R37).flatMap R37.enc), .blk b3 [sV r5.1.Key, sV r5.1.Club, sV r5.1.Race, u5.val] 37, .blk b2 (GBounds.enc r4.1) 33, .own v9 42 8 x2.length (x2.flatMap GRace.enc), .blk b1 [v_p_l, iV x3] 25] [(3, .pointer (some ⟨b1, 0, none⟩)), (4, v9), (5, v2), (6, v7), (7, .pointer (some ⟨b2, 0, none⟩)), (8, .pointer (some ⟨b3, 0, none⟩)), (10, sV r10.1), (11, iV r10.2), (74, v9), (75, iV r11), (76, v2), (77, iV r12), (78, v7), (79, iV r13), (80, .agg (GBounds.enc r4.1).toArray), (81, iV (tumbref2_BoundsFault r4.1)), (82, .agg #[sV r5.1.Key, sV r5.1.Club, sV r5.1.Race, u5.val]), (83, (.slice (some ⟨b16, 0, none⟩) 1 1))] [] rfl (subR rfl)
    refine l_enter S (fun _ => run_call (vs := [(.slice (some ⟨b16, 0, none⟩) 1 1)]) ⟨(S.tm rfl), trivial⟩ Tryz.call18) (tumbref2_SquadsFault_ok _ (.slice (some ⟨b16, 0, none⟩) 1 1) ([r5.1] : List GSquad) ([(R37.mk r5.1.Key r5.1.Club r5.1.Race u5)] : List R37) (own_slcT R37.enc_ok S (i := 0) rfl (ne_nil (e' := .own (.slice (some ⟨b16, 0, none⟩) 1 1) 37 4 ([(R37.mk r5.1.Key r5.1.Club r5.1.Race u5)] : List R37).length (([(R37.mk r5.1.Key r5.1.Club r5.1.Race u5)] : List R37).flatMap R37.enc)))) (rels_37 (S.le_new nil_sub) hr22) _ hr18) rfl ?_; clear S; intro v35 a w61 hv33 hk55 hn33 S
    subst hv33
    refine l_done (d_next hk55 (d_loud1 11 (by kernel_rfl) rfl (l_buildSlice S Tryz.underlying84 Tryz.sizeOf43 Tryz.zeroValue43 rfl rfl (pv := [(0, iV r11), (1, iV r12), (2, iV r13), (3, iV (tumbref2_BoundsFault r4.1)), (4, iV r14)]) ⟨rfl, (S.tm rfl), rfl, (S.tm rfl), rfl, (S.tm rfl), rfl, (S.tm rfl), rfl, (S.tm rfl), trivial⟩ (cs := [iV r11, iV r12, iV r13, iV (tumbref2_BoundsFault r4.1), iV r14]) (by kernel_rfl) rfl ?_))); clear S; intro a w62 b17 hz19 hk56 S
    refine l_done (d_next hk56 (d_loud1 12 (by kernel_rfl) rfl (l_enter S (fun _ => run_call (vs := [.slice (some ⟨b17, 0, none⟩) 5 5]) ⟨(S.tm rfl), trivial⟩ Tryz.call13) (tumblaw2_errs_ok _ (.slice (some ⟨b17, 0, none⟩) 5 5) [r11, r12, r13, (tumbref2_BoundsFault r4.1), r14] (lit_slcT enc_int S (i := 0) rfl rfl rfl rfl ((ne_nil (e' := .blk b17 [iV r11, iV r12, iV r13, iV (tumbref2_BoundsFault r4.1), iV r14] 43)) _ rfl)) _ rfl) rfl ?_))); clear S; intro v36 a w63 hv34 hk57 hn34 S
    subst hv34
    refine l_done (d_next hk57 (d_rest [13] hsel (by kernel_rfl) rfl ?_))
    clear hsel
    refine s_lv S rfl (rn_assign (S.tm rfl)) rfl ?_; clear S; intro a S
    refine s_done ?_
    replace S := S.nk [.blk b3 [sV r5.1.Key, sV r5.1.Club, sV r5.1.Race, u5.val] 37, .blk b2 (GBounds.enc r4.1) 33, .own v9 42 8 x2.length (x2.flatMap GRace.enc), .blk b1 [v_p_l, iV x3] 25] [(3, .pointer (some ⟨b1, 0, none⟩)), (4, v9), (5, v2), (6, v7), (7, .pointer (some ⟨b2, 0, none⟩)), (8, .pointer (some ⟨b3, 0, none⟩)), (10, sV r10.1), (11, iV r10.2), (12, iV (tumblaw2_errs [r11, r12, r13, (tumbref2_BoundsFault r4.1), r14]))] [false, false, true, true, true, true] rfl (subR rfl)
    refine then_n ?_
    exact ⟨(tumblaw2_errs [r11, r12, r13, (tumbref2_BoundsFault r4.1), r14]), h, S.nf [true, true, true, true] rfl (subR rfl)⟩
  ·refine l_buildSlice S Tryz.underlying52 Tryz.sizeOf37 Tryz.zeroValue37 rfl rfl (pv := [(0, .agg #[sV r5.1.Key, sV r5.1.Club, sV r5.1.Race, u5.val])]) ⟨rfl, (S.tm rfl), trivial⟩ (cs := [sV r5.1.Key, sV r5.1.Club, sV r5.1.Race, u5.val]) (by kernel_rfl) rfl ?_; clear S; intro a w64 b18 hz20 hk58 S
   refine l_done (d_next hk58 (d_loud1 1 (by kernel_rfl) rfl (l_enter S (fun _ => run_call (vs := [v9]) ⟨(S.tm rfl), trivial⟩ Tryz.call14) (tumblaw2_racesFault_ok _ v9 x2 (own_slcT GRace.enc_ok S (i := 3) rfl (ne_nil (e' := .own v9 42 8 x2.length (x2.flatMap GRace.enc)))) _ hr14) rfl ?_))); clear S; intro v37 a w65 hv35 hk59 hn35 S
   subst hv35
   refine l_done (d_next hk59 (d_loud1 3 (by kernel_rfl) rfl (l_enter S (fun _ => run_call (vs := [v2]) ⟨(S.tm rfl), trivial⟩ Tryz.call15) (tumbref2_SwimmersFault_ok _ v2 r2.1 ((ownV_slcT GSwimmer.enc_ok hs1).mono (View.le_trans (View.le_trans (View.le_trans hl2 hl3) hl4) (S.le_new nil_sub))) _ hr15) rfl ?_))); clear S; intro v38 a w66 hv36 hk60 hn36 S
   subst hv36
   refine l_done (d_next hk60 (d_loud1 5 (by kernel_rfl) rfl (l_enter S (fun _ => run_call (vs := [v7]) ⟨(S.tm rfl), trivial⟩ Tryz.call16) (tumbref2_MovesFault_ok _ v7 x1 ((ownV_slcT GMove.enc_ok hs4).mono (S.le_new nil_sub)) _ hr16) rfl ?_))); clear S; intro v39 a w67 hv37 hk61 hn37 S
   subst hv37
   refine l_done (d_next hk61 (d_loud1 7 (by kernel_rfl) rfl (l_enter S (fun _ => run_call (vs := [.agg (GBounds.enc r4.1).toArray]) ⟨(S.tm rfl), trivial⟩ Tryz.call17) (tumbref2_BoundsFault_ok _ r4.1 _ rfl) rfl ?_))); clear S; intro v40 a w68 hv38 hk62 hn38 S
   subst hv38
   refine l_done (d_next hk62 (d_loud1 10 (by kernel_rfl) rfl ?_))
   have hr23 : All2 (rel_37 φ4) ([r5.1] : List GSquad) ([(R37.mk r5.1.Key r5.1.Club r5.1.Race u5)] : List R37) := (All2.cons ⟨u5, rfl, (hs3.mono hl4)⟩ All2.nil)
   replace S := S.litOwn (i := 0) (xs := ([(R37.mk r5.1.Key r5.1.Club r5.1.Race u5)] : List R37)) rfl R37.enc_ok rfl rfl rfl
   replace S := S.nk [.own (.slice (some ⟨b18, 0, none⟩) 1 1) 37 4 ([(R37.mk r5.1.Key r5.1.Club r5.1.Race u5)] : List R37).length (([(R37.mk r5.1.Key r5.1.Club r5.1.Race u5)] : List R37).flatMap R37.enc), .blk b3 [sV r5.1.Key, sV r5.1.Club, sV r5.1.Race, u5.val] 37, .blk b2 (GBounds.enc r4.1) 33, .own v9 42 8 x2.length (x2.flatMap GRace.enc), .blk b1 [v_p_l, iV x3] 25] [(3, .pointer (some ⟨b1, 0, none⟩)), (4, v9), (5, v2), (6, v7), (7, .pointer (some ⟨b2, 0, none⟩)), (8, .pointer (some ⟨b3, 0, none⟩)), (10, sV r10.1), (11, iV r10.2), (74, v9), (75, iV r11), (76, v2), (77, iV r12), (78, v7), (79, iV r13), (80, .agg (GBounds.enc r4.1).toArray), (81, iV (tumbref2_BoundsFault r4.1)), (82, .agg #[sV r5.1.Key, sV r5.1.Club, sV r5.1.Race, u5.val]), (83, (.slice (some ⟨b18, 0, none⟩) 1 1))] [] rfl (subR rfl)
   refine l_enter S (fun _ => run_call (vs := [(.slice (some ⟨b18, 0, none⟩) 1 1)]) ⟨(S.tm rfl), trivial⟩ Tryz.call18) (tumbref2_SquadsFault_ok _ (.slice (some ⟨b18, 0, none⟩) 1 1) ([r5.1] : List GSquad) ([(R37.mk r5.1.Key r5.1.Club r5.1.Race u5)] : List R37) (own_slcT R37.enc_ok S (i := 0) rfl (ne_nil (e' := .own (.slice (some ⟨b18, 0, none⟩) 1 1) 37 4 ([(R37.mk r5.1.Key r5.1.Club r5.1.Race u5)] : List R37).length (([(R37.mk r5.1.Key r5.1.Club r5.1.Race u5)] : List R37).flatMap R37.enc)))) (rels_37 (S.le_new nil_sub) hr23) _ hr18) rfl ?_; clear S; intro v41 a w69 hv39 hk63 hn39 S
   subst hv39
   refine l_done (d_next hk63 (d_loud1 11 (by kernel_rfl) rfl (l_buildSlice S Tryz.underlying84 Tryz.sizeOf43 Tryz.zeroValue43 rfl rfl (pv := [(0, iV r11), (1, iV r12), (2, iV r13), (3, iV (tumbref2_BoundsFault r4.1)), (4, iV r14)]) ⟨rfl, (S.tm rfl), rfl, (S.tm rfl), rfl, (S.tm rfl), rfl, (S.tm rfl), rfl, (S.tm rfl), trivial⟩ (cs := [iV r11, iV r12, iV r13, iV (tumbref2_BoundsFault r4.1), iV r14]) (by kernel_rfl) rfl ?_))); clear S; intro a w70 b19 hz21 hk64 S
   refine l_done (d_next hk64 (d_loud1 12 (by kernel_rfl) rfl (l_enter S (fun _ => run_call (vs := [.slice (some ⟨b19, 0, none⟩) 5 5]) ⟨(S.tm rfl), trivial⟩ Tryz.call13) (tumblaw2_errs_ok _ (.slice (some ⟨b19, 0, none⟩) 5 5) [r11, r12, r13, (tumbref2_BoundsFault r4.1), r14] (lit_slcT enc_int S (i := 0) rfl rfl rfl rfl ((ne_nil (e' := .blk b19 [iV r11, iV r12, iV r13, iV (tumbref2_BoundsFault r4.1), iV r14] 43)) _ rfl)) _ rfl) rfl ?_))); clear S; intro v42 a w71 hv40 hk65 hn40 S
   subst hv40
   refine l_done (d_next hk65 (d_rest [13] hsel (by kernel_rfl) rfl ?_))
   clear hsel
   refine s_lv S rfl (rn_assign (S.tm rfl)) rfl ?_; clear S; intro a S
   refine s_done ?_
   replace S := S.nk [.blk b3 [sV r5.1.Key, sV r5.1.Club, sV r5.1.Race, u5.val] 37, .blk b2 (GBounds.enc r4.1) 33, .own v9 42 8 x2.length (x2.flatMap GRace.enc), .blk b1 [v_p_l, iV x3] 25] [(3, .pointer (some ⟨b1, 0, none⟩)), (4, v9), (5, v2), (6, v7), (7, .pointer (some ⟨b2, 0, none⟩)), (8, .pointer (some ⟨b3, 0, none⟩)), (10, sV r10.1), (11, iV r10.2), (12, iV (tumblaw2_errs [r11, r12, r13, (tumbref2_BoundsFault r4.1), r14]))] [false, false, true, true, true, true] rfl (subR rfl)
   refine then_n ?_
   exact ⟨(tumblaw2_errs [r11, r12, r13, (tumbref2_BoundsFault r4.1), r14]), h, S.nf [true, true, true, true] rfl (subR rfl)⟩
 clear S h; rintro a w28 ⟨x9, h, S⟩; rw [hj6] at h; clear hj6 j6
 refine then_n (f_seq (f_region (lv S (rn_assign rfl) rfl ?_))); clear S; intro a S
 refine l_done (then_n (f_seq (f_seq (f_region (lv S (rn_move (S.tm rfl)) rfl ?_))))); clear S; intro a S
 refine lv S (rn_eql (S.tm rfl) rfl) rfl ?_; clear S; intro a S
 refine l_done (then_n ?_)
 obtain ⟨j7, hj7, h⟩ := joinE h
 refine f_join (fun a w' => ∃ x10 : ByteArray, j7 x10 = some r ∧ Sx w [] φ4 [.blk b3 [sV r5.1.Key, sV r5.1.Club, sV r5.1.Race, u5.val] 37, .blk b1 [v_p_l, iV x3] 25] [(3, .pointer (some ⟨b1, 0, none⟩)), (8, .pointer (some ⟨b3, 0, none⟩)), (10, sV r10.1), (11, iV r10.2), (12, iV x9), (13, sV x10)] 177 a w') ?_ ?_
 ·refine f_cond (S.tm rfl) (fun hb3 => ?_) (fun hb3 => ?_)
  ·replace h := iteT h hb3
   refine f_region (lv S (rn_move (S.tm rfl)) rfl ?_); clear S; intro a S
   refine lv S (rn_move (S.tm rfl)) rfl ?_; clear S; intro a S
   refine lv S (rn_move (S.tm rfl)) rfl ?_; clear S; intro a S
   refine lv S (rn_ldA Tryz.isAgg33 Tryz.sizeOf33 (off := 0) (o := 0) (part := (GBounds.enc r4.1)) rfl rfl (S.tm rfl) (S.cellsAt (i := 1) rfl)) rfl ?_; clear S; intro a S
   refine lv S (rn_ldA Tryz.isAgg37 Tryz.sizeOf37 (off := 0) (o := 0) (part := [sV r5.1.Key, sV r5.1.Club, sV r5.1.Race, u5.val]) rfl rfl (S.tm rfl) (S.cellsAt (i := 0) rfl)) rfl ?_; clear S; intro a S
   obtain ⟨r15, hr24, h⟩ := bindE h
   refine l_enter S (fun _ => run_call (vs := [v9, v2, v7, .agg (GBounds.enc r4.1).toArray, .agg (R37.enc (R37.mk r5.1.Key r5.1.Club r5.1.Race u5)).toArray]) ⟨(S.tm rfl), (S.tm rfl), (S.tm rfl), (S.tm rfl), (S.tm rfl), trivial⟩ Tryz.call19) (tumbref2_WrongOf_ok _ v9 x2 (own_slcT GRace.enc_ok S (i := 2) rfl (ne_nil (e' := .own v9 42 8 x2.length (x2.flatMap GRace.enc)))) v2 r2.1 ((ownV_slcT GSwimmer.enc_ok hs1).mono (View.le_trans (View.le_trans (View.le_trans hl2 hl3) hl4) (S.le_new nil_sub))) v7 x1 ((ownV_slcT GMove.enc_ok hs4).mono (S.le_new nil_sub)) r4.1 r5.1 (R37.mk r5.1.Key r5.1.Club r5.1.Race u5) ⟨u5, rfl, (hs3.mono (View.le_trans hl4 (S.le_new nil_sub)))⟩ _ hr24) rfl ?_; clear S; intro v43 a w73 hv41 hk66 hn41 S
   subst hv41
   refine lv S (rn_assign (S.tm rfl)) rfl ?_; clear S; intro a S
   refine l_done ?_
   replace S := S.nk [.blk b3 [sV r5.1.Key, sV r5.1.Club, sV r5.1.Race, u5.val] 37, .blk b1 [v_p_l, iV x3] 25] [(3, .pointer (some ⟨b1, 0, none⟩)), (8, .pointer (some ⟨b3, 0, none⟩)), (10, sV r10.1), (11, iV r10.2), (12, iV x9), (13, sV r15)] [true, false, false, true] rfl (subR rfl)
   refine then_n ?_
   exact ⟨r15, h, S.nf [true, true] rfl (subR rfl)⟩
  ·replace h := iteF h hb3
   refine wp_skip (then_n ?_)
   exact ⟨k_empty, h, S.nf [true, false, false, true] rfl (subR rfl)⟩
 clear S h; rintro a w72 ⟨x10, h, S⟩; rw [hj7] at h; clear hj7 j7
 refine then_n (f_seq (f_region (lv S (rn_move (S.tm rfl)) rfl ?_))); clear S; intro a S
 obtain ⟨r16, hr25, h⟩ := bindE h
 have hz22 := S.keep.size
 refine l_enter1 1 S (b := b1) rfl rfl (fun _ => .blk b1 [v_p_l, iV r16.2] 25) (fun _ => run_call (vs := [.pointer (some ⟨b1, 0, none⟩)]) ⟨(S.tm rfl), trivial⟩ Tryz.call8) (Stream_Squad_ok _ b1 v_p_l p_l (hs_p_l.mono (S.le_arg (fp_sub (i := 1) (e := .blk b1 [v_p_l, iV x3] 25) rfl))) x3 (S.holds _ (List.mem_of_getElem? (i := 1) rfl)) _ hr25) rfl (fun _ _ _ h => ⟨h.1, fun _ hc => by cases hc; rfl⟩) ?_; clear S; intro v44 a w74 hv42 hk67 hn42 S
 replace hv42 := hv42.2
 obtain ⟨q2, rfl, hq2⟩ := hv42
 obtain ⟨φ6, hl6, hm9, S⟩ := S.see' hn42 hz22
 obtain ⟨u8, rfl, hs6⟩ := rel_37_mono hm9 _ _ hq2
 refine l_alloc S Tryz.zeroValue37 (cs := [sV k_empty, sV k_empty, sV k_empty, .slice none 0 0]) rfl rfl ?_; clear S; intro a w75 b20 hz23 hk68 S
 refine l_store S (S.tm rfl) (S.tm rfl) (i := 0) (off := 0) rfl Tryz.sizeOf37 (vs := [sV r16.1.Key, sV r16.1.Club, sV r16.1.Race, u8.val]) rfl rfl rfl (all1 rfl (all1 rfl (all1 rfl (all1 (SlcLen.one (slc_len hs6)) rfl)))) ?_; clear S; intro w76 hk69 S
 refine l_done (then_n (f_seq (f_seq ?_)))
 obtain ⟨j8, hj8, h⟩ := joinE h
 refine f_join (fun a w' => ∃ x11 : Bool, j8 x11 = some r ∧ Sx w [] φ6 [.blk b1 [v_p_l, iV r16.2] 25] [(3, .pointer (some ⟨b1, 0, none⟩)), (115, bV x11)] 177 a w') ?_ ?_
 ·rcases Bool.eq_false_or_eq_true (!decide (r10.2 = x9)) with hb4 | hb4
  ·replace h := iteT h hb4
   rcases Bool.eq_false_or_eq_true true with hb5 | hb5
   ·replace h := iteT h hb5
    refine d_region [] ([]) Tryz.mixed S rfl (by kernel_rfl) ?_; clear S; intro w78 hk70 hsel S
    refine d_rest [0, 1, 2, 3, 4, 5, 6, 7, 8, 9, 10, 11, 12, 13, 14, 15, 16, 17, 18] hsel (by kernel_rfl) rfl ?_
    clear hsel
    refine s_lv S rfl (rn_move (S.tm rfl)) rfl ?_; clear S; intro a S
    refine s_lv S rfl (rn_move (S.tm rfl)) rfl ?_; clear S; intro a S
    refine s_lv S rfl (rn_neq (S.tm rfl) (S.tm rfl)) rfl ?_; clear S; intro a S
    refine s_lv S rfl (rn_move (S.tm rfl)) rfl ?_; clear S; intro a S
    iterate 3 (refine s_skip S rfl rfl rfl rfl (neq_t hb4) rfl ?_ rfl; clear S; intro a S)
    refine s_lv S rfl (rn_pick_b hb4 (S.tm rfl) rfl) rfl ?_; clear S; intro a S
    refine s_lv S rfl (rn_move (S.tm rfl)) rfl ?_; clear S; intro a S
    iterate 9 (refine s_skip S rfl rfl rfl rfl (neq_t hb5) rfl ?_ rfl; clear S; intro a S)
    refine s_lv S rfl (rn_pick_b hb5 (S.tm rfl) rfl) rfl ?_; clear S; intro a S
    refine s_done ?_
    replace S := S.nk [.blk b1 [v_p_l, iV r16.2] 25] [(3, .pointer (some ⟨b1, 0, none⟩)), (115, bV true)] [false, false, true] rfl (subR rfl)
    refine then_n ?_
    exact ⟨true, h, S.nf [true] rfl (subR rfl)⟩
   ·replace h := iteF h hb5
    obtain ⟨r17, hr27, h⟩ := bindE h
    obtain ⟨r18, hr29, h⟩ := bindE h
    refine d_region [] ([]) Tryz.mixed S rfl (by kernel_rfl) ?_; clear S; intro w83 hk75 hsel S
    refine d_quiet 0 S hsel rfl rfl rfl (by kernel_rfl) (by kernel_rfl) rfl (fun _ hw => (rn_move (S.tm rfl))) ?_; clear S; intro a S
    refine d_quiet 1 S hsel rfl rfl rfl (by kernel_rfl) (by kernel_rfl) rfl (fun _ hw => (rn_move (S.tm rfl))) ?_; clear S; intro a S
    refine d_quiet 2 S hsel rfl rfl rfl (by kernel_rfl) (by kernel_rfl) rfl (fun _ hw => (rn_neq (S.tm rfl) (S.tm rfl))) ?_; clear S; intro a S
    refine d_quiet 3 S hsel rfl rfl rfl (by kernel_rfl) (by kernel_rfl) rfl (fun _ hw => (rn_move (S.tm rfl))) ?_; clear S; intro a S
    refine d_skip 4 S hsel rfl rfl rfl rfl (neq_t hb4) rfl (by kernel_rfl) (by kernel_rfl) rfl ?_; clear S; intro a S
    refine d_skip 5 S hsel rfl rfl rfl rfl (neq_t hb4) rfl (by kernel_rfl) (by kernel_rfl) rfl ?_; clear S; intro a S
    refine d_skip 6 S hsel rfl rfl rfl rfl (neq_t hb4) rfl (by kernel_rfl) (by kernel_rfl) rfl ?_; clear S; intro a S
    refine d_quiet 7 S hsel rfl rfl rfl (by kernel_rfl) (by kernel_rfl) rfl (fun _ hw => (rn_pick_b hb4 (S.tm rfl) rfl)) ?_; clear S; intro a S
    refine d_quiet 8 S hsel rfl rfl rfl (by kernel_rfl) (by kernel_rfl) rfl (fun _ hw => (rn_move (S.tm rfl))) ?_; clear S; intro a S
    refine d_quiet_g 9 S hsel rfl rfl rfl rfl hb5 rfl rfl (by kernel_rfl) (by kernel_rfl) rfl (fun _ hw => (rn_ldA Tryz.isAgg37 Tryz.sizeOf37 (off := 0) (o := 0) (part := [sV r5.1.Key, sV r5.1.Club, sV r5.1.Race, u5.val]) rfl rfl (S.tm rfl) ((S.blk_mem (i := 1) (cells := [sV r5.1.Key, sV r5.1.Club, sV r5.1.Race, u5.val]) (b := b3) (T := 37) rfl (ne_nil (e' := .blk b3 [sV r5.1.Key, sV r5.1.Club, sV r5.1.Race, u5.val] 37))).kept hw))) ?_; clear S; intro a S
    refine d_quiet_g 10 S hsel rfl rfl rfl rfl hb5 rfl rfl (by kernel_rfl) (by kernel_rfl) rfl (fun _ hw => (rn_ldA Tryz.isAgg37 Tryz.sizeOf37 (off := 0) (o := 0) (part := [sV r16.1.Key, sV r16.1.Club, sV r16.1.Race, u8.val]) rfl rfl (S.tm rfl) ((S.blk_mem (i := 0) (cells := [sV r16.1.Key, sV r16.1.Club, sV r16.1.Race, u8.val]) (b := b20) (T := 37) rfl (ne_nil (e' := .blk b20 [sV r16.1.Key, sV r16.1.Club, sV r16.1.Race, u8.val] 37))).kept hw))) ?_; clear S; intro a S
    refine d_quiet_g 13 S hsel rfl rfl rfl rfl hb5 rfl rfl (by kernel_rfl) (by kernel_rfl) rfl (fun _ hw => (rn_ldA Tryz.isAgg37 Tryz.sizeOf37 (off := 0) (o := 0) (part := [sV r5.1.Key, sV r5.1.Club, sV r5.1.Race, u5.val]) rfl rfl (S.tm rfl) ((S.blk_mem (i := 1) (cells := [sV r5.1.Key, sV r5.1.Club, sV r5.1.Race, u5.val]) (b := b3) (T := 37) rfl (ne_nil (e' := .blk b3 [sV r5.1.Key, sV r5.1.Club, sV r5.1.Race, u5.val] 37))).kept hw))) ?_; clear S; intro a S
    refine d_quiet_g 14 S hsel rfl rfl rfl rfl hb5 rfl rfl (by kernel_rfl) (by kernel_rfl) rfl (fun _ hw => (rn_ldA Tryz.isAgg37 Tryz.sizeOf37 (off := 0) (o := 0) (part := [sV r16.1.Key, sV r16.1.Club, sV r16.1.Race, u8.val]) rfl rfl (S.tm rfl) ((S.blk_mem (i := 0) (cells := [sV r16.1.Key, sV r16.1.Club, sV r16.1.Race, u8.val]) (b := b20) (T := 37) rfl (ne_nil (e' := .blk b20 [sV r16.1.Key, sV r16.1.Club, sV r16.1.Race, u8.val] 37))).kept hw))) ?_; clear S; intro a S
    refine d_loud2 11 15 (by kernel_rfl) rfl rfl ?_ ?_
    ·refine l_want S rfl rfl rfl hb5 (l_buildSlice S Tryz.underlying52 Tryz.sizeOf37 Tryz.zeroValue37 rfl rfl (pv := [(0, .agg #[sV r5.1.Key, sV r5.1.Club, sV r5.1.Race, u5.val]), (1, .agg #[sV r16.1.Key, sV r16.1.Club, sV r16.1.Race, u8.val])]) ⟨rfl, (S.tm rfl), rfl, (S.tm rfl), trivial⟩ (cs := [sV r5.1.Key, sV r5.1.Club, sV r5.1.Race, u5.val, sV r16.1.Key, sV r16.1.Club, sV r16.1.Race, u8.val]) (by kernel_rfl) rfl ?_); clear S; intro a w84 b23 hz26 hk76 S
     refine l_done (d_next hk76 (d_loud2 12 15 (by kernel_rfl) rfl rfl ?_ ?_))
     ·refine l_want S rfl rfl rfl hb5 ?_
      have hr30 : All2 (rel_37 φ6) ([r5.1, r16.1] : List GSquad) ([(R37.mk r5.1.Key r5.1.Club r5.1.Race u5), (R37.mk r16.1.Key r16.1.Club r16.1.Race u8)] : List R37) := (All2.cons ⟨u5, rfl, (hs3.mono (View.le_trans hl4 hl6))⟩ (All2.cons ⟨u8, rfl, hs6⟩ All2.nil))
      replace S := S.litOwn (i := 0) (xs := ([(R37.mk r5.1.Key r5.1.Club r5.1.Race u5), (R37.mk r16.1.Key r16.1.Club r16.1.Race u8)] : List R37)) rfl R37.enc_ok rfl rfl rfl
      replace S := S.nk [.own (.slice (some ⟨b23, 0, none⟩) 2 2) 37 4 ([(R37.mk r5.1.Key r5.1.Club r5.1.Race u5), (R37.mk r16.1.Key r16.1.Club r16.1.Race u8)] : List R37).length (([(R37.mk r5.1.Key r5.1.Club r5.1.Race u5), (R37.mk r16.1.Key r16.1.Club r16.1.Race u8)] : List R37).flatMap R37.enc), .blk b20 [sV r16.1.Key, sV r16.1.Club, sV r16.1.Race, u8.val] 37, .blk b3 [sV r5.1.Key, sV r5.1.Club, sV r5.1.Race, u5.val] 37, .blk b1 [v_p_l, iV r16.2] 25] [(3, .pointer (some ⟨b1, 0, none⟩)), (8, .pointer (some ⟨b3, 0, none⟩)), (10, sV r10.1), (11, iV r10.2), (12, iV x9), (13, sV x10), (14, .pointer (some ⟨b20, 0, none⟩)), (95, .pointer (some ⟨b1, 0, none⟩)), (96, .agg #[sV r16.1.Key, sV r16.1.Club, sV r16.1.Race, u8.val]), (97, iV r10.2), (98, iV x9), (99, bV (!decide (r10.2 = x9))), (100, bV (!decide (r10.2 = x9))), (101, undef), (102, undef), (103, undef), (104, bV true), (105, bV true), (106, .agg #[sV r5.1.Key, sV r5.1.Club, sV r5.1.Race, u5.val]), (107, .agg #[sV r16.1.Key, sV r16.1.Club, sV r16.1.Race, u8.val]), (108, (.slice (some ⟨b23, 0, none⟩) 2 2)), (110, .agg #[sV r5.1.Key, sV r5.1.Club, sV r5.1.Race, u5.val]), (111, .agg #[sV r16.1.Key, sV r16.1.Club, sV r16.1.Race, u8.val])] [] rfl (subR rfl)
      refine l_enter S (fun _ => run_call (vs := [(.slice (some ⟨b23, 0, none⟩) 2 2)]) ⟨(S.tm rfl), trivial⟩ Tryz.call20) (swimmer_CheckSquads_ok _ (.slice (some ⟨b23, 0, none⟩) 2 2) ([r5.1, r16.1] : List GSquad) ([(R37.mk r5.1.Key r5.1.Club r5.1.Race u5), (R37.mk r16.1.Key r16.1.Club r16.1.Race u8)] : List R37) (own_slcT R37.enc_ok S (i := 0) rfl (ne_nil (e' := .own (.slice (some ⟨b23, 0, none⟩) 2 2) 37 4 ([(R37.mk r5.1.Key r5.1.Club r5.1.Race u5), (R37.mk r16.1.Key r16.1.Club r16.1.Race u8)] : List R37).length (([(R37.mk r5.1.Key r5.1.Club r5.1.Race u5), (R37.mk r16.1.Key r16.1.Club r16.1.Race u8)] : List R37).flatMap R37.enc)))) (rels_37 (S.le_new nil_sub) hr30) _ hr27) rfl ?_; clear S; intro v47 a w85 hv45 hk77 hn45 S
      subst hv45
      refine l_done (d_next hk77 (d_loud1 15 (by kernel_rfl) rfl (l_want S rfl rfl rfl hb5 (l_buildSlice S Tryz.underlying52 Tryz.sizeOf37 Tryz.zeroValue37 rfl rfl (pv := [(0, .agg #[sV r5.1.Key, sV r5.1.Club, sV r5.1.Race, u5.val]), (1, .agg #[sV r16.1.Key, sV r16.1.Club, sV r16.1.Race, u8.val])]) ⟨rfl, (S.tm rfl), rfl, (S.tm rfl), trivial⟩ (cs := [sV r5.1.Key, sV r5.1.Club, sV r5.1.Race, u5.val, sV r16.1.Key, sV r16.1.Club, sV r16.1.Race, u8.val]) (by kernel_rfl) rfl ?_)))); clear S; intro a w86 b24 hz27 hk78 S
      refine l_done (d_next hk78 (d_loud1 16 (by kernel_rfl) rfl (l_want S rfl rfl rfl hb5 ?_)))
      have hr31 : All2 (rel_37 φ6) ([r5.1, r16.1] : List GSquad) ([(R37.mk r5.1.Key r5.1.Club r5.1.Race u5), (R37.mk r16.1.Key r16.1.Club r16.1.Race u8)] : List R37) := (All2.cons ⟨u5, rfl, (hs3.mono (View.le_trans hl4 hl6))⟩ (All2.cons ⟨u8, rfl, hs6⟩ All2.nil))
      replace S := S.litOwn (i := 0) (xs := ([(R37.mk r5.1.Key r5.1.Club r5.1.Race u5), (R37.mk r16.1.Key r16.1.Club r16.1.Race u8)] : List R37)) rfl R37.enc_ok rfl rfl rfl
      replace S := S.nk [.own (.slice (some ⟨b24, 0, none⟩) 2 2) 37 4 ([(R37.mk r5.1.Key r5.1.Club r5.1.Race u5), (R37.mk r16.1.Key r16.1.Club r16.1.Race u8)] : List R37).length (([(R37.mk r5.1.Key r5.1.Club r5.1.Race u5), (R37.mk r16.1.Key r16.1.Club r16.1.Race u8)] : List R37).flatMap R37.enc), .own (.slice (some ⟨b23, 0, none⟩) 2 2) 37 4 ([(R37.mk r5.1.Key r5.1.Club r5.1.Race u5), (R37.mk r16.1.Key r16.1.Club r16.1.Race u8)] : List R37).length (([(R37.mk r5.1.Key r5.1.Club r5.1.Race u5), (R37.mk r16.1.Key r16.1.Club r16.1.Race u8)] : List R37).flatMap R37.enc), .blk b20 [sV r16.1.Key, sV r16.1.Club, sV r16.1.Race, u8.val] 37, .blk b3 [sV r5.1.Key, sV r5.1.Club, sV r5.1.Race, u5.val] 37, .blk b1 [v_p_l, iV r16.2] 25] [(3, .pointer (some ⟨b1, 0, none⟩)), (8, .pointer (some ⟨b3, 0, none⟩)), (10, sV r10.1), (11, iV r10.2), (12, iV x9), (13, sV x10), (14, .pointer (some ⟨b20, 0, none⟩)), (95, .pointer (some ⟨b1, 0, none⟩)), (96, .agg #[sV r16.1.Key, sV r16.1.Club, sV r16.1.Race, u8.val]), (97, iV r10.2), (98, iV x9), (99, bV (!decide (r10.2 = x9))), (100, bV (!decide (r10.2 = x9))), (101, undef), (102, undef), (103, undef), (104, bV true), (105, bV true), (106, .agg #[sV r5.1.Key, sV r5.1.Club, sV r5.1.Race, u5.val]), (107, .agg #[sV r16.1.Key, sV r16.1.Club, sV r16.1.Race, u8.val]), (108, (.slice (some ⟨b23, 0, none⟩) 2 2)), (109, iV r17), (110, .agg #[sV r5.1.Key, sV r5.1.Club, sV r5.1.Race, u5.val]), (111, .agg #[sV r16.1.Key, sV r16.1.Club, sV r16.1.Race, u8.val]), (112, (.slice (some ⟨b24, 0, none⟩) 2 2))] [] rfl (subR rfl)
      refine l_enter S (fun _ => run_call (vs := [(.slice (some ⟨b24, 0, none⟩) 2 2)]) ⟨(S.tm rfl), trivial⟩ Tryz.call18) (tumbref2_SquadsFault_ok _ (.slice (some ⟨b24, 0, none⟩) 2 2) ([r5.1, r16.1] : List GSquad) ([(R37.mk r5.1.Key r5.1.Club r5.1.Race u5), (R37.mk r16.1.Key r16.1.Club r16.1.Race u8)] : List R37) (own_slcT R37.enc_ok S (i := 0) rfl (ne_nil (e' := .own (.slice (some ⟨b24, 0, none⟩) 2 2) 37 4 ([(R37.mk r5.1.Key r5.1.Club r5.1.Race u5), (R37.mk r16.1.Key r16.1.Club r16.1.Race u8)] : List R37).length (([(R37.mk r5.1.Key r5.1.Club r5.1.Race u5), (R37.mk r16.1.Key r16.1.Club r16.1.Race u8)] : List R37).flatMap R37.enc)))) (rels_37 (S.le_new nil_sub) hr31) _ hr29) rfl ?_; clear S; intro v48 a w87 hv46 hk79 hn46 S
      subst hv46
      refine l_done (d_next hk79 (d_rest [17, 18] hsel (by kernel_rfl) rfl ?_))
      clear hsel
      refine s_want S rfl rfl rfl rfl hb5 (s_lv0 S (rn_neq (S.tm rfl) (S.tm rfl)) rfl ?_); clear S; intro a S
      refine s_lv S rfl (rn_pick_c hb5 (S.tm rfl) (S.tm rfl)) rfl ?_; clear S; intro a S
      refine s_done ?_
      replace S := S.nk [.blk b1 [v_p_l, iV r16.2] 25] [(3, .pointer (some ⟨b1, 0, none⟩)), (115, bV (!decide (r17 = r18)))] [false, false, false, false, true] rfl (subR rfl)
      refine then_n ?_
      exact ⟨!decide (r17 = r18), h, S.nf [true] rfl (subR rfl)⟩
     ·refine l_want S rfl rfl rfl hb5 (l_buildSlice S Tryz.underlying52 Tryz.sizeOf37 Tryz.zeroValue37 rfl rfl (pv := [(0, .agg #[sV r5.1.Key, sV r5.1.Club, sV r5.1.Race, u5.val]), (1, .agg #[sV r16.1.Key, sV r16.1.Club, sV r16.1.Race, u8.val])]) ⟨rfl, (S.tm rfl), rfl, (S.tm rfl), trivial⟩ (cs := [sV r5.1.Key, sV r5.1.Club, sV r5.1.Race, u5.val, sV r16.1.Key, sV r16.1.Club, sV r16.1.Race, u8.val]) (by kernel_rfl) rfl ?_); clear S; intro a w88 b25 hz28 hk80 S
      refine l_done (d_next hk80 (d_loud1 12 (by kernel_rfl) rfl (l_want S rfl rfl rfl hb5 ?_)))
      have hr32 : All2 (rel_37 φ6) ([r5.1, r16.1] : List GSquad) ([(R37.mk r5.1.Key r5.1.Club r5.1.Race u5), (R37.mk r16.1.Key r16.1.Club r16.1.Race u8)] : List R37) := (All2.cons ⟨u5, rfl, (hs3.mono (View.le_trans hl4 hl6))⟩ (All2.cons ⟨u8, rfl, hs6⟩ All2.nil))
      replace S := S.litOwn (i := 1) (xs := ([(R37.mk r5.1.Key r5.1.Club r5.1.Race u5), (R37.mk r16.1.Key r16.1.Club r16.1.Race u8)] : List R37)) rfl R37.enc_ok rfl rfl rfl
      replace S := S.nk [.blk b25 [sV r5.1.Key, sV r5.1.Club, sV r5.1.Race, u5.val, sV r16.1.Key, sV r16.1.Club, sV r16.1.Race, u8.val] 37, .own (.slice (some ⟨b23, 0, none⟩) 2 2) 37 4 ([(R37.mk r5.1.Key r5.1.Club r5.1.Race u5), (R37.mk r16.1.Key r16.1.Club r16.1.Race u8)] : List R37).length (([(R37.mk r5.1.Key r5.1.Club r5.1.Race u5), (R37.mk r16.1.Key r16.1.Club r16.1.Race u8)] : List R37).flatMap R37.enc), .blk b20 [sV r16.1.Key, sV r16.1.Club, sV r16.1.Race, u8.val] 37, .blk b3 [sV r5.1.Key, sV r5.1.Club, sV r5.1.Race, u5.val] 37, .blk b1 [v_p_l, iV r16.2] 25] [(3, .pointer (some ⟨b1, 0, none⟩)), (8, .pointer (some ⟨b3, 0, none⟩)), (10, sV r10.1), (11, iV r10.2), (12, iV x9), (13, sV x10), (14, .pointer (some ⟨b20, 0, none⟩)), (95, .pointer (some ⟨b1, 0, none⟩)), (96, .agg #[sV r16.1.Key, sV r16.1.Club, sV r16.1.Race, u8.val]), (97, iV r10.2), (98, iV x9), (99, bV (!decide (r10.2 = x9))), (100, bV (!decide (r10.2 = x9))), (101, undef), (102, undef), (103, undef), (104, bV true), (105, bV true), (106, .agg #[sV r5.1.Key, sV r5.1.Club, sV r5.1.Race, u5.val]), (107, .agg #[sV r16.1.Key, sV r16.1.Club, sV r16.1.Race, u8.val]), (108, (.slice (some ⟨b23, 0, none⟩) 2 2)), (110, .agg #[sV r5.1.Key, sV r5.1.Club, sV r5.1.Race, u5.val]), (111, .agg #[sV r16.1.Key, sV r16.1.Club, sV r16.1.Race, u8.val]), (112, .slice (some ⟨b25, 0, none⟩) 2 2)] [] rfl (subR rfl)
      refine l_enter S (fun _ => run_call (vs := [(.slice (some ⟨b23, 0, none⟩) 2 2)]) ⟨(S.tm rfl), trivial⟩ Tryz.call20) (swimmer_CheckSquads_ok _ (.slice (some ⟨b23, 0, none⟩) 2 2) ([r5.1, r16.1] : List GSquad) ([(R37.mk r5.1.Key r5.1.Club r5.1.Race u5), (R37.mk r16.1.Key r16.1.Club r16.1.Race u8)] : List R37) (own_slcT R37.enc_ok S (i := 1) rfl (ne_nil (e' := .own (.slice (some ⟨b23, 0, none⟩) 2 2) 37 4 ([(R37.mk r5.1.Key r5.1.Club r5.1.Race u5), (R37.mk r16.1.Key r16.1.Club r16.1.Race u8)] : List R37).length (([(R37.mk r5.1.Key r5.1.Club r5.1.Race u5), (R37.mk r16.1.Key r16.1.Club r16.1.Race u8)] : List R37).flatMap R37.enc)))) (rels_37 (S.le_new nil_sub) hr32) _ hr27) rfl ?_; clear S; intro v49 a w89 hv47 hk81 hn47 S
      subst hv47
      refine l_done (d_next hk81 (d_loud1 16 (by kernel_rfl) rfl (l_want S rfl rfl rfl hb5 ?_)))
      have hr33 : All2 (rel_37 φ6) ([r5.1, r16.1] : List GSquad) ([(R37.mk r5.1.Key r5.1.Club r5.1.Race u5), (R37.mk r16.1.Key r16.1.Club r16.1.Race u8)] : List R37) := (All2.cons ⟨u5, rfl, (hs3.mono (View.le_trans hl4 hl6))⟩ (All2.cons ⟨u8, rfl, hs6⟩ All2.nil))
      replace S := S.litOwn (i := 0) (xs := ([(R37.mk r5.1.Key r5.1.Club r5.1.Race u5), (R37.mk r16.1.Key r16.1.Club r16.1.Race u8)] : List R37)) rfl R37.enc_ok rfl rfl rfl
      replace S := S.nk [.own (.slice (some ⟨b25, 0, none⟩) 2 2) 37 4 ([(R37.mk r5.1.Key r5.1.Club r5.1.Race u5), (R37.mk r16.1.Key r16.1.Club r16.1.Race u8)] : List R37).length (([(R37.mk r5.1.Key r5.1.Club r5.1.Race u5), (R37.mk r16.1.Key r16.1.Club r16.1.Race u8)] : List R37).flatMap R37.enc), .own (.slice (some ⟨b23, 0, none⟩) 2 2) 37 4 ([(R37.mk r5.1.Key r5.1.Club r5.1.Race u5), (R37.mk r16.1.Key r16.1.Club r16.1.Race u8)] : List R37).length (([(R37.mk r5.1.Key r5.1.Club r5.1.Race u5), (R37.mk r16.1.Key r16.1.Club r16.1.Race u8)] : List R37).flatMap R37.enc), .blk b20 [sV r16.1.Key, sV r16.1.Club, sV r16.1.Race, u8.val] 37, .blk b3 [sV r5.1.Key, sV r5.1.Club, sV r5.1.Race, u5.val] 37, .blk b1 [v_p_l, iV r16.2] 25] [(3, .pointer (some ⟨b1, 0, none⟩)), (8, .pointer (some ⟨b3, 0, none⟩)), (10, sV r10.1), (11, iV r10.2), (12, iV x9), (13, sV x10), (14, .pointer (some ⟨b20, 0, none⟩)), (95, .pointer (some ⟨b1, 0, none⟩)), (96, .agg #[sV r16.1.Key, sV r16.1.Club, sV r16.1.Race, u8.val]), (97, iV r10.2), (98, iV x9), (99, bV (!decide (r10.2 = x9))), (100, bV (!decide (r10.2 = x9))), (101, undef), (102, undef), (103, undef), (104, bV true), (105, bV true), (106, .agg #[sV r5.1.Key, sV r5.1.Club, sV r5.1.Race, u5.val]), (107, .agg #[sV r16.1.Key, sV r16.1.Club, sV r16.1.Race, u8.val]), (108, (.slice (some ⟨b23, 0, none⟩) 2 2)), (109, iV r17), (110, .agg #[sV r5.1.Key, sV r5.1.Club, sV r5.1.Race, u5.val]), (111, .agg #[sV r16.1.Key, sV r16.1.Club, sV r16.1.Race, u8.val]), (112, (.slice (some ⟨b25, 0, none⟩) 2 2))] [] rfl (subR rfl)
      refine l_enter S (fun _ => run_call (vs := [(.slice (some ⟨b25, 0, none⟩) 2 2)]) ⟨(S.tm rfl), trivial⟩ Tryz.call18) (tumbref2_SquadsFault_ok _ (.slice (some ⟨b25, 0, none⟩) 2 2) ([r5.1, r16.1] : List GSquad) ([(R37.mk r5.1.Key r5.1.Club r5.1.Race u5), (R37.mk r16.1.Key r16.1.Club r16.1.Race u8)] : List R37) (own_slcT R37.enc_ok S (i := 0) rfl (ne_nil (e' := .own (.slice (some ⟨b25, 0, none⟩) 2 2) 37 4 ([(R37.mk r5.1.Key r5.1.Club r5.1.Race u5), (R37.mk r16.1.Key r16.1.Club r16.1.Race u8)] : List R37).length (([(R37.mk r5.1.Key r5.1.Club r5.1.Race u5), (R37.mk r16.1.Key r16.1.Club r16.1.Race u8)] : List R37).flatMap R37.enc)))) (rels_37 (S.le_new nil_sub) hr33) _ hr29) rfl ?_; clear S; intro v50 a w90 hv48 hk82 hn48 S
      subst hv48
      refine l_done (d_next hk82 (d_rest [17, 18] hsel (by kernel_rfl) rfl ?_))
      clear hsel
      refine s_want S rfl rfl rfl rfl hb5 (s_lv0 S (rn_neq (S.tm rfl) (S.tm rfl)) rfl ?_); clear S; intro a S
      refine s_lv S rfl (rn_pick_c hb5 (S.tm rfl) (S.tm rfl)) rfl ?_; clear S; intro a S
      refine s_done ?_
      replace S := S.nk [.blk b1 [v_p_l, iV r16.2] 25] [(3, .pointer (some ⟨b1, 0, none⟩)), (115, bV (!decide (r17 = r18)))] [false, false, false, false, true] rfl (subR rfl)
      refine then_n ?_
      exact ⟨!decide (r17 = r18), h, S.nf [true] rfl (subR rfl)⟩
    ·refine l_want S rfl rfl rfl hb5 (l_buildSlice S Tryz.underlying52 Tryz.sizeOf37 Tryz.zeroValue37 rfl rfl (pv := [(0, .agg #[sV r5.1.Key, sV r5.1.Club, sV r5.1.Race, u5.val]), (1, .agg #[sV r16.1.Key, sV r16.1.Club, sV r16.1.Race, u8.val])]) ⟨rfl, (S.tm rfl), rfl, (S.tm rfl), trivial⟩ (cs := [sV r5.1.Key, sV r5.1.Club, sV r5.1.Race, u5.val, sV r16.1.Key, sV r16.1.Club, sV r16.1.Race, u8.val]) (by kernel_rfl) rfl ?_); clear S; intro a w91 b26 hz29 hk83 S
     refine l_done (d_next hk83 (d_loud1 11 (by kernel_rfl) rfl (l_want S rfl rfl rfl hb5 (l_buildSlice S Tryz.underlying52 Tryz.sizeOf37 Tryz.zeroValue37 rfl rfl (pv := [(0, .agg #[sV r5.1.Key, sV r5.1.Club, sV r5.1.Race, u5.val]), (1, .agg #[sV r16.1.Key, sV r16.1.Club, sV r16.1.Race, u8.val])]) ⟨rfl, (S.tm rfl), rfl, (S.tm rfl), trivial⟩ (cs := [sV r5.1.Key, sV r5.1.Club, sV r5.1.Race, u5.val, sV r16.1.Key, sV r16.1.Club, sV r16.1.Race, u8.val]) (by kernel_rfl) rfl ?_)))); clear S; intro a w92 b27 hz30 hk84 S
     refine l_done (d_next hk84 (d_loud1 12 (by kernel_rfl) rfl (l_want S rfl rfl rfl hb5 ?_)))
     have hr34 : All2 (rel_37 φ6) ([r5.1, r16.1] : List GSquad) ([(R37.mk r5.1.Key r5.1.Club r5.1.Race u5), (R37.mk r16.1.Key r16.1.Club r16.1.Race u8)] : List R37) := (All2.cons ⟨u5, rfl, (hs3.mono (View.le_trans hl4 hl6))⟩ (All2.cons ⟨u8, rfl, hs6⟩ All2.nil))
     replace S := S.litOwn (i := 0) (xs := ([(R37.mk r5.1.Key r5.1.Club r5.1.Race u5), (R37.mk r16.1.Key r16.1.Club r16.1.Race u8)] : List R37)) rfl R37.enc_ok rfl rfl rfl
     replace S := S.nk [.own (.slice (some ⟨b27, 0, none⟩) 2 2) 37 4 ([(R37.mk r5.1.Key r5.1.Club r5.1.Race u5), (R37.mk r16.1.Key r16.1.Club r16.1.Race u8)] : List R37).length (([(R37.mk r5.1.Key r5.1.Club r5.1.Race u5), (R37.mk r16.1.Key r16.1.Club r16.1.Race u8)] : List R37).flatMap R37.enc), .blk b26 [sV r5.1.Key, sV r5.1.Club, sV r5.1.Race, u5.val, sV r16.1.Key, sV r16.1.Club, sV r16.1.Race, u8.val] 37, .blk b20 [sV r16.1.Key, sV r16.1.Club, sV r16.1.Race, u8.val] 37, .blk b3 [sV r5.1.Key, sV r5.1.Club, sV r5.1.Race, u5.val] 37, .blk b1 [v_p_l, iV r16.2] 25] [(3, .pointer (some ⟨b1, 0, none⟩)), (8, .pointer (some ⟨b3, 0, none⟩)), (10, sV r10.1), (11, iV r10.2), (12, iV x9), (13, sV x10), (14, .pointer (some ⟨b20, 0, none⟩)), (95, .pointer (some ⟨b1, 0, none⟩)), (96, .agg #[sV r16.1.Key, sV r16.1.Club, sV r16.1.Race, u8.val]), (97, iV r10.2), (98, iV x9), (99, bV (!decide (r10.2 = x9))), (100, bV (!decide (r10.2 = x9))), (101, undef), (102, undef), (103, undef), (104, bV true), (105, bV true), (106, .agg #[sV r5.1.Key, sV r5.1.Club, sV r5.1.Race, u5.val]), (107, .agg #[sV r16.1.Key, sV r16.1.Club, sV r16.1.Race, u8.val]), (108, (.slice (some ⟨b27, 0, none⟩) 2 2)), (110, .agg #[sV r5.1.Key, sV r5.1.Club, sV r5.1.Race, u5.val]), (111, .agg #[sV r16.1.Key, sV r16.1.Club, sV r16.1.Race, u8.val]), (112, .slice (some ⟨b26, 0, none⟩) 2 2)] [] rfl (subR rfl)
     refine l_enter S (fun _ => run_call (vs := [(.slice (some ⟨b27, 0, none⟩) 2 2)]) ⟨(S.tm rfl), trivial⟩ Tryz.call20) (swimmer_CheckSquads_ok _ (.slice (some ⟨b27, 0, none⟩) 2 2) ([r5.1, r16.1] : List GSquad) ([(R37.mk r5.1.Key r5.1.Club r5.1.Race u5), (R37.mk r16.1.Key r16.1.Club r16.1.Race u8)] : List R37) (own_slcT R37.enc_ok S (i := 0) rfl (ne_nil (e' := .own (.slice (some ⟨b27, 0, none⟩) 2 2) 37 4 ([(R37.mk r5.1.Key r5.1.Club r5.1.Race u5), (R37.mk r16.1.Key r16.1.Club r16.1.Race u8)] : List R37).length (([(R37.mk r5.1.Key r5.1.Club r5.1.Race u5), (R37.mk r16.1.Key r16.1.Club r16.1.Race u8)] : List R37).flatMap R37.enc)))) (rels_37 (S.le_new nil_sub) hr34) _ hr27) rfl ?_; clear S; intro v51 a w93 hv49 hk85 hn49 S
     subst hv49
     refine l_done (d_next hk85 (d_loud1 16 (by kernel_rfl) rfl (l_want S rfl rfl rfl hb5 ?_)))
     have hr35 : All2 (rel_37 φ6) ([r5.1, r16.1] : List GSquad) ([(R37.mk r5.1.Key r5.1.Club r5.1.Race u5), (R37.mk r16.1.Key r16.1.Club r16.1.Race u8)] : List R37) := (All2.cons ⟨u5, rfl, (hs3.mono (View.le_trans hl4 hl6))⟩ (All2.cons ⟨u8, rfl, hs6⟩ All2.nil))
     replace S := S.litOwn (i := 1) (xs := ([(R37.mk r5.1.Key r5.1.Club r5.1.Race u5), (R37.mk r16.1.Key r16.1.Club r16.1.Race u8)] : List R37)) rfl R37.enc_ok rfl rfl rfl
     replace S := S.nk [.own (.slice (some ⟨b27, 0, none⟩) 2 2) 37 4 ([(R37.mk r5.1.Key r5.1.Club r5.1.Race u5), (R37.mk r16.1.Key r16.1.Club r16.1.Race u8)] : List R37).length (([(R37.mk r5.1.Key r5.1.Club r5.1.Race u5), (R37.mk r16.1.Key r16.1.Club r16.1.Race u8)] : List R37).flatMap R37.enc), .own (.slice (some ⟨b26, 0, none⟩) 2 2) 37 4 ([(R37.mk r5.1.Key r5.1.Club r5.1.Race u5), (R37.mk r16.1.Key r16.1.Club r16.1.Race u8)] : List R37).length (([(R37.mk r5.1.Key r5.1.Club r5.1.Race u5), (R37.mk r16.1.Key r16.1.Club r16.1.Race u8)] : List R37).flatMap R37.enc), .blk b20 [sV r16.1.Key, sV r16.1.Club, sV r16.1.Race, u8.val] 37, .blk b3 [sV r5.1.Key, sV r5.1.Club, sV r5.1.Race, u5.val] 37, .blk b1 [v_p_l, iV r16.2] 25] [(3, .pointer (some ⟨b1, 0, none⟩)), (8, .pointer (some ⟨b3, 0, none⟩)), (10, sV r10.1), (11, iV r10.2), (12, iV x9), (13, sV x10), (14, .pointer (some ⟨b20, 0, none⟩)), (95, .pointer (some ⟨b1, 0, none⟩)), (96, .agg #[sV r16.1.Key, sV r16.1.Club, sV r16.1.Race, u8.val]), (97, iV r10.2), (98, iV x9), (99, bV (!decide (r10.2 = x9))), (100, bV (!decide (r10.2 = x9))), (101, undef), (102, undef), (103, undef), (104, bV true), (105, bV true), (106, .agg #[sV r5.1.Key, sV r5.1.Club, sV r5.1.Race, u5.val]), (107, .agg #[sV r16.1.Key, sV r16.1.Club, sV r16.1.Race, u8.val]), (108, (.slice (some ⟨b27, 0, none⟩) 2 2)), (109, iV r17), (110, .agg #[sV r5.1.Key, sV r5.1.Club, sV r5.1.Race, u5.val]), (111, .agg #[sV r16.1.Key, sV r16.1.Club, sV r16.1.Race, u8.val]), (112, (.slice (some ⟨b26, 0, none⟩) 2 2))] [] rfl (subR rfl)
     refine l_enter S (fun _ => run_call (vs := [(.slice (some ⟨b26, 0, none⟩) 2 2)]) ⟨(S.tm rfl), trivial⟩ Tryz.call18) (tumbref2_SquadsFault_ok _ (.slice (some ⟨b26, 0, none⟩) 2 2) ([r5.1, r16.1] : List GSquad) ([(R37.mk r5.1.Key r5.1.Club r5.1.Race u5), (R37.mk r16.1.Key r16.1.Club r16.1.Race u8)] : List R37) (own_slcT R37.enc_ok S (i := 1) rfl (ne_nil (e' := .own (.slice (some ⟨b26, 0, none⟩) 2 2) 37 4 ([(R37.mk r5.1.Key r5.1.Club r5.1.Race u5), (R37.mk r16.1.Key r16.1.Club r16.1.Race u8)] : List R37).length (([(R37.mk r5.1.Key r5.1.Club r5.1.Race u5), (R37.mk r16.1.Key r16.1.Club r16.1.Race u8)] : List R37).flatMap R37.enc)))) (rels_37 (S.le_new nil_sub) hr35) _ hr29) rfl ?_; clear S; intro v52 a w94 hv50 hk86 hn50 S
     subst hv50
     refine l_done (d_next hk86 (d_rest [17, 18] hsel (by kernel_rfl) rfl ?_))
     clear hsel
     refine s_want S rfl rfl rfl rfl hb5 (s_lv0 S (rn_neq (S.tm rfl) (S.tm rfl)) rfl ?_); clear S; intro a S
     refine s_lv S rfl (rn_pick_c hb5 (S.tm rfl) (S.tm rfl)) rfl ?_; clear S; intro a S
     refine s_done ?_
     replace S := S.nk [.blk b1 [v_p_l, iV r16.2] 25] [(3, .pointer (some ⟨b1, 0, none⟩)), (115, bV (!decide (r17 = r18)))] [false, false, false, false, true] rfl (subR rfl)
     refine then_n ?_
     exact ⟨!decide (r17 = r18), h, S.nf [true] rfl (subR rfl)⟩
  ·replace h := iteF h hb4
   rcases Bool.eq_false_or_eq_true (!decide (r10.1 = x10)) with hb6 | hb6
   ·replace h := iteT h hb6
    refine d_region [] ([]) Tryz.mixed S rfl (by kernel_rfl) ?_; clear S; intro w95 hk87 hsel S
    refine d_rest [0, 1, 2, 3, 4, 5, 6, 7, 8, 9, 10, 11, 12, 13, 14, 15, 16, 17, 18] hsel (by kernel_rfl) rfl ?_
    clear hsel
    refine s_lv S rfl (rn_move (S.tm rfl)) rfl ?_; clear S; intro a S
    refine s_lv S rfl (rn_move (S.tm rfl)) rfl ?_; clear S; intro a S
    refine s_lv S rfl (rn_neq (S.tm rfl) (S.tm rfl)) rfl ?_; clear S; intro a S
    refine s_lv S rfl (rn_move (S.tm rfl)) rfl ?_; clear S; intro a S
    refine s_want S rfl rfl rfl rfl hb4 (s_lv0 S (rn_move (S.tm rfl)) rfl ?_); clear S; intro a S
    refine s_want S rfl rfl rfl rfl hb4 (s_lv0 S (rn_move (S.tm rfl)) rfl ?_); clear S; intro a S
    refine s_want S rfl rfl rfl rfl hb4 (s_lv0 S (rn_sneq (S.tm rfl) (S.tm rfl)) rfl ?_); clear S; intro a S
    refine s_lv S rfl (rn_pick_c hb4 (S.tm rfl) (S.tm rfl)) rfl ?_; clear S; intro a S
    refine s_lv S rfl (rn_move (S.tm rfl)) rfl ?_; clear S; intro a S
    iterate 9 (refine s_skip S rfl rfl rfl rfl (neq_t hb6) rfl ?_ rfl; clear S; intro a S)
    refine s_lv S rfl (rn_pick_b hb6 (S.tm rfl) rfl) rfl ?_; clear S; intro a S
    refine s_done ?_
    replace S := S.nk [.blk b1 [v_p_l, iV r16.2] 25] [(3, .pointer (some ⟨b1, 0, none⟩)), (115, bV true)] [false, false, true] rfl (subR rfl)
    refine then_n ?_
    exact ⟨true, h, S.nf [true] rfl (subR rfl)⟩
   ·replace h := iteF h hb6
    obtain ⟨r19, hr37, h⟩ := bindE h
    obtain ⟨r20, hr39, h⟩ := bindE h
    refine d_region [] ([]) Tryz.mixed S rfl (by kernel_rfl) ?_; clear S; intro w100 hk92 hsel S
    refine d_quiet 0 S hsel rfl rfl rfl (by kernel_rfl) (by kernel_rfl) rfl (fun _ hw => (rn_move (S.tm rfl))) ?_; clear S; intro a S
    refine d_quiet 1 S hsel rfl rfl rfl (by kernel_rfl) (by kernel_rfl) rfl (fun _ hw => (rn_move (S.tm rfl))) ?_; clear S; intro a S
    refine d_quiet 2 S hsel rfl rfl rfl (by kernel_rfl) (by kernel_rfl) rfl (fun _ hw => (rn_neq (S.tm rfl) (S.tm rfl))) ?_; clear S; intro a S
    refine d_quiet 3 S hsel rfl rfl rfl (by kernel_rfl) (by kernel_rfl) rfl (fun _ hw => (rn_move (S.tm rfl))) ?_; clear S; intro a S
    refine d_quiet_g 4 S hsel rfl rfl rfl rfl hb4 rfl rfl (by kernel_rfl) (by kernel_rfl) rfl (fun _ hw => (rn_move (S.tm rfl))) ?_; clear S; intro a S
    refine d_quiet_g 5 S hsel rfl rfl rfl rfl hb4 rfl rfl (by kernel_rfl) (by kernel_rfl) rfl (fun _ hw => (rn_move (S.tm rfl))) ?_; clear S; intro a S
    refine d_quiet_g 6 S hsel rfl rfl rfl rfl hb4 rfl rfl (by kernel_rfl) (by kernel_rfl) rfl (fun _ hw => (rn_sneq (S.tm rfl) (S.tm rfl))) ?_; clear S; intro a S
    refine d_quiet 7 S hsel rfl rfl rfl (by kernel_rfl) (by kernel_rfl) rfl (fun _ hw => (rn_pick_c hb4 (S.tm rfl) (S.tm rfl))) ?_; clear S; intro a S
    refine d_quiet 8 S hsel rfl rfl rfl (by kernel_rfl) (by kernel_rfl) rfl (fun _ hw => (rn_move (S.tm rfl))) ?_; clear S; intro a S
    refine d_quiet_g 9 S hsel rfl rfl rfl rfl hb6 rfl rfl (by kernel_rfl) (by kernel_rfl) rfl (fun _ hw => (rn_ldA Tryz.isAgg37 Tryz.sizeOf37 (off := 0) (o := 0) (part := [sV r5.1.Key, sV r5.1.Club, sV r5.1.Race, u5.val]) rfl rfl (S.tm rfl) ((S.blk_mem (i := 1) (cells := [sV r5.1.Key, sV r5.1.Club, sV r5.1.Race, u5.val]) (b := b3) (T := 37) rfl (ne_nil (e' := .blk b3 [sV r5.1.Key, sV r5.1.Club, sV r5.1.Race, u5.val] 37))).kept hw))) ?_; clear S; intro a S
    refine d_quiet_g 10 S hsel rfl rfl rfl rfl hb6 rfl rfl (by kernel_rfl) (by kernel_rfl) rfl (fun _ hw => (rn_ldA Tryz.isAgg37 Tryz.sizeOf37 (off := 0) (o := 0) (part := [sV r16.1.Key, sV r16.1.Club, sV r16.1.Race, u8.val]) rfl rfl (S.tm rfl) ((S.blk_mem (i := 0) (cells := [sV r16.1.Key, sV r16.1.Club, sV r16.1.Race, u8.val]) (b := b20) (T := 37) rfl (ne_nil (e' := .blk b20 [sV r16.1.Key, sV r16.1.Club, sV r16.1.Race, u8.val] 37))).kept hw))) ?_; clear S; intro a S
    refine d_quiet_g 13 S hsel rfl rfl rfl rfl hb6 rfl rfl (by kernel_rfl) (by kernel_rfl) rfl (fun _ hw => (rn_ldA Tryz.isAgg37 Tryz.sizeOf37 (off := 0) (o := 0) (part := [sV r5.1.Key, sV r5.1.Club, sV r5.1.Race, u5.val]) rfl rfl (S.tm rfl) ((S.blk_mem (i := 1) (cells := [sV r5.1.Key, sV r5.1.Club, sV r5.1.Race, u5.val]) (b := b3) (T := 37) rfl (ne_nil (e' := .blk b3 [sV r5.1.Key, sV r5.1.Club, sV r5.1.Race, u5.val] 37))).kept hw))) ?_; clear S; intro a S
    refine d_quiet_g 14 S hsel rfl rfl rfl rfl hb6 rfl rfl (by kernel_rfl) (by kernel_rfl) rfl (fun _ hw => (rn_ldA Tryz.isAgg37 Tryz.sizeOf37 (off := 0) (o := 0) (part := [sV r16.1.Key, sV r16.1.Club, sV r16.1.Race, u8.val]) rfl rfl (S.tm rfl) ((S.blk_mem (i := 0) (cells := [sV r16.1.Key, sV r16.1.Club, sV r16.1.Race, u8.val]) (b := b20) (T := 37) rfl (ne_nil (e' := .blk b20 [sV r16.1.Key, sV r16.1.Club, sV r16.1.Race, u8.val] 37))).kept hw))) ?_; clear S; intro a S
    refine d_loud2 11 15 (by kernel_rfl) rfl rfl ?_ ?_
    ·refine l_want S rfl rfl rfl hb6 (l_buildSlice S Tryz.underlying52 Tryz.sizeOf37 Tryz.zeroValue37 rfl rfl (pv := [(0, .agg #[sV r5.1.Key, sV r5.1.Club, sV r5.1.Race, u5.val]), (1, .agg #[sV r16.1.Key, sV r16.1.Club, sV r16.1.Race, u8.val])]) ⟨rfl, (S.tm rfl), rfl, (S.tm rfl), trivial⟩ (cs := [sV r5.1.Key, sV r5.1.Club, sV r5.1.Race, u5.val, sV r16.1.Key, sV r16.1.Club, sV r16.1.Race, u8.val]) (by kernel_rfl) rfl ?_); clear S; intro a w101 b30 hz33 hk93 S
     refine l_done (d_next hk93 (d_loud2 12 15 (by kernel_rfl) rfl rfl ?_ ?_))
     ·refine l_want S rfl rfl rfl hb6 ?_
      have hr40 : All2 (rel_37 φ6) ([r5.1, r16.1] : List GSquad) ([(R37.mk r5.1.Key r5.1.Club r5.1.Race u5), (R37.mk r16.1.Key r16.1.Club r16.1.Race u8)] : List R37) := (All2.cons ⟨u5, rfl, (hs3.mono (View.le_trans hl4 hl6))⟩ (All2.cons ⟨u8, rfl, hs6⟩ All2.nil))
      replace S := S.litOwn (i := 0) (xs := ([(R37.mk r5.1.Key r5.1.Club r5.1.Race u5), (R37.mk r16.1.Key r16.1.Club r16.1.Race u8)] : List R37)) rfl R37.enc_ok rfl rfl rfl
      replace S := S.nk [.own (.slice (some ⟨b30, 0, none⟩) 2 2) 37 4 ([(R37.mk r5.1.Key r5.1.Club r5.1.Race u5), (R37.mk r16.1.Key r16.1.Club r16.1.Race u8)] : List R37).length (([(R37.mk r5.1.Key r5.1.Club r5.1.Race u5), (R37.mk r16.1.Key r16.1.Club r16.1.Race u8)] : List R37).flatMap R37.enc), .blk b20 [sV r16.1.Key, sV r16.1.Club, sV r16.1.Race, u8.val] 37, .blk b3 [sV r5.1.Key, sV r5.1.Club, sV r5.1.Race, u5.val] 37, .blk b1 [v_p_l, iV r16.2] 25] [(3, .pointer (some ⟨b1, 0, none⟩)), (8, .pointer (some ⟨b3, 0, none⟩)), (10, sV r10.1), (11, iV r10.2), (12, iV x9), (13, sV x10), (14, .pointer (some ⟨b20, 0, none⟩)), (95, .pointer (some ⟨b1, 0, none⟩)), (96, .agg #[sV r16.1.Key, sV r16.1.Club, sV r16.1.Race, u8.val]), (97, iV r10.2), (98, iV x9), (99, bV (!decide (r10.2 = x9))), (100, bV (!decide (r10.2 = x9))), (101, sV r10.1), (102, sV x10), (103, bV (!decide (r10.1 = x10))), (104, bV (!decide (r10.1 = x10))), (105, bV (!decide (r10.1 = x10))), (106, .agg #[sV r5.1.Key, sV r5.1.Club, sV r5.1.Race, u5.val]), (107, .agg #[sV r16.1.Key, sV r16.1.Club, sV r16.1.Race, u8.val]), (108, (.slice (some ⟨b30, 0, none⟩) 2 2)), (110, .agg #[sV r5.1.Key, sV r5.1.Club, sV r5.1.Race, u5.val]), (111, .agg #[sV r16.1.Key, sV r16.1.Club, sV r16.1.Race, u8.val])] [] rfl (subR rfl)
      refine l_enter S (fun _ => run_call (vs := [(.slice (some ⟨b30, 0, none⟩) 2 2)]) ⟨(S.tm rfl), trivial⟩ Tryz.call20) (swimmer_CheckSquads_ok _ (.slice (some ⟨b30, 0, none⟩) 2 2) ([r5.1, r16.1] : List GSquad) ([(R37.mk r5.1.Key r5.1.Club r5.1.Race u5), (R37.mk r16.1.Key r16.1.Club r16.1.Race u8)] : List R37) (own_slcT R37.enc_ok S (i := 0) rfl (ne_nil (e' := .own (.slice (some ⟨b30, 0, none⟩) 2 2) 37 4 ([(R37.mk r5.1.Key r5.1.Club r5.1.Race u5), (R37.mk r16.1.Key r16.1.Club r16.1.Race u8)] : List R37).length (([(R37.mk r5.1.Key r5.1.Club r5.1.Race u5), (R37.mk r16.1.Key r16.1.Club r16.1.Race u8)] : List R37).flatMap R37.enc)))) (rels_37 (S.le_new nil_sub) hr40) _ hr37) rfl ?_; clear S; intro v55 a w102 hv53 hk94 hn53 S
      subst hv53
      refine l_done (d_next hk94 (d_loud1 15 (by kernel_rfl) rfl (l_want S rfl rfl rfl hb6 (l_buildSlice S Tryz.underlying52 Tryz.sizeOf37 Tryz.zeroValue37 rfl rfl (pv := [(0, .agg #[sV r5.1.Key, sV r5.1.Club, sV r5.1.Race, u5.val]), (1, .agg #[sV r16.1.Key, sV r16.1.Club, sV r16.1.Race, u8.val])]) ⟨rfl, (S.tm rfl), rfl, (S.tm rfl), trivial⟩ (cs := [sV r5.1.Key, sV r5.1.Club, sV r5.1.Race, u5.val, sV r16.1.Key, sV r16.1.Club, sV r16.1.Race, u8.val]) (by kernel_rfl) rfl ?_)))); clear S; intro a w103 b31 hz34 hk95 S
      refine l_done (d_next hk95 (d_loud1 16 (by kernel_rfl) rfl (l_want S rfl rfl rfl hb6 ?_)))
      have hr41 : All2 (rel_37 φ6) ([r5.1, r16.1] : List GSquad) ([(R37.mk r5.1.Key r5.1.Club r5.1.Race u5), (R37.mk r16.1.Key r16.1.Club r16.1.Race u8)] : List R37) := (All2.cons ⟨u5, rfl, (hs3.mono (View.le_trans hl4 hl6))⟩ (All2.cons ⟨u8, rfl, hs6⟩ All2.nil))
      replace S := S.litOwn (i := 0) (xs := ([(R37.mk r5.1.Key r5.1.Club r5.1.Race u5), (R37.mk r16.1.Key r16.1.Club r16.1.Race u8)] : List R37)) rfl R37.enc_ok rfl rfl rfl
      replace S := S.nk [.own (.slice (some ⟨b31, 0, none⟩) 2 2) 37 4 ([(R37.mk r5.1.Key r5.1.Club r5.1.Race u5), (R37.mk r16.1.Key r16.1.Club r16.1.Race u8)] : List R37).length (([(R37.mk r5.1.Key r5.1.Club r5.1.Race u5), (R37.mk r16.1.Key r16.1.Club r16.1.Race u8)] : List R37).flatMap R37.enc), .own (.slice (some ⟨b30, 0, none⟩) 2 2) 37 4 ([(R37.mk r5.1.Key r5.1.Club r5.1.Race u5), (R37.mk r16.1.Key r16.1.Club r16.1.Race u8)] : List R37).length (([(R37.mk r5.1.Key r5.1.Club r5.1.Race u5), (R37.mk r16.1.Key r16.1.Club r16.1.Race u8)] : List R37).flatMap R37.enc), .blk b20 [sV r16.1.Key, sV r16.1.Club, sV r16.1.Race, u8.val] 37, .blk b3 [sV r5.1.Key, sV r5.1.Club, sV r5.1.Race, u5.val] 37, .blk b1 [v_p_l, iV r16.2] 25] [(3, .pointer (some ⟨b1, 0, none⟩)), (8, .pointer (some ⟨b3, 0, none⟩)), (10, sV r10.1), (11, iV r10.2), (12, iV x9), (13, sV x10), (14, .pointer (some ⟨b20, 0, none⟩)), (95, .pointer (some ⟨b1, 0, none⟩)), (96, .agg #[sV r16.1.Key, sV r16.1.Club, sV r16.1.Race, u8.val]), (97, iV r10.2), (98, iV x9), (99, bV (!decide (r10.2 = x9))), (100, bV (!decide (r10.2 = x9))), (101, sV r10.1), (102, sV x10), (103, bV (!decide (r10.1 = x10))), (104, bV (!decide (r10.1 = x10))), (105, bV (!decide (r10.1 = x10))), (106, .agg #[sV r5.1.Key, sV r5.1.Club, sV r5.1.Race, u5.val]), (107, .agg #[sV r16.1.Key, sV r16.1.Club, sV r16.1.Race, u8.val]), (108, (.slice (some ⟨b30, 0, none⟩) 2 2)), (109, iV r19), (110, .agg #[sV r5.1.Key, sV r5.1.Club, sV r5.1.Race, u5.val]), (111, .agg #[sV r16.1.Key, sV r16.1.Club, sV r16.1.Race, u8.val]), (112, (.slice (some ⟨b31, 0, none⟩) 2 2))] [] rfl (subR rfl)
      refine l_enter S (fun _ => run_call (vs := [(.slice (some ⟨b31, 0, none⟩) 2 2)]) ⟨(S.tm rfl), trivial⟩ Tryz.call18) (tumbref2_SquadsFault_ok _ (.slice (some ⟨b31, 0, none⟩) 2 2) ([r5.1, r16.1] : List GSquad) ([(R37.mk r5.1.Key r5.1.Club r5.1.Race u5), (R37.mk r16.1.Key r16.1.Club r16.1.Race u8)] : List R37) (own_slcT R37.enc_ok S (i := 0) rfl (ne_nil (e' := .own (.slice (some ⟨b31, 0, none⟩) 2 2) 37 4 ([(R37.mk r5.1.Key r5.1.Club r5.1.Race u5), (R37.mk r16.1.Key r16.1.Club r16.1.Race u8)] : List R37).length (([(R37.mk r5.1.Key r5.1.Club r5.1.Race u5), (R37.mk r16.1.Key r16.1.Club r16.1.Race u8)] : List R37).flatMap R37.enc)))) (rels_37 (S.le_new nil_sub) hr41) _ hr39) rfl ?_; clear S; intro v56 a w104 hv54 hk96 hn54 S
      subst hv54
      refine l_done (d_next hk96 (d_rest [17, 18] hsel (by kernel_rfl) rfl ?_))
      clear hsel
      refine s_want S rfl rfl rfl rfl hb6 (s_lv0 S (rn_neq (S.tm rfl) (S.tm rfl)) rfl ?_); clear S; intro a S
      refine s_lv S rfl (rn_pick_c hb6 (S.tm rfl) (S.tm rfl)) rfl ?_; clear S; intro a S
      refine s_done ?_
      replace S := S.nk [.blk b1 [v_p_l, iV r16.2] 25] [(3, .pointer (some ⟨b1, 0, none⟩)), (115, bV (!decide (r19 = r20)))] [false, false, false, false, true] rfl (subR rfl)
      refine then_n ?_
      exact ⟨!decide (r19 = r20), h, S.nf [true] rfl (subR rfl)⟩
     ·refine l_want S rfl rfl rfl hb6 (l_buildSlice S Tryz.underlying52 Tryz.sizeOf37 Tryz.zeroValue37 rfl rfl (pv := [(0, .agg #[sV r5.1.Key, sV r5.1.Club, sV r5.1.Race, u5.val]), (1, .agg #[sV r16.1.Key, sV r16.1.Club, sV r16.1.Race, u8.val])]) ⟨rfl, (S.tm rfl), rfl, (S.tm rfl), trivial⟩ (cs := [sV r5.1.Key, sV r5.1.Club, sV r5.1.Race, u5.val, sV r16.1.Key, sV r16.1.Club, sV r16.1.Race, u8.val]) (by kernel_rfl) rfl ?_); clear S; intro a w105 b32 hz35 hk97 S
      refine l_done (d_next hk97 (d_loud1 12 (by kernel_rfl) rfl (l_want S rfl rfl rfl hb6 ?_)))
      have hr42 : All2 (rel_37 φ6) ([r5.1, r16.1] : List GSquad) ([(R37.mk r5.1.Key r5.1.Club r5.1.Race u5), (R37.mk r16.1.Key r16.1.Club r16.1.Race u8)] : List R37) := (All2.cons ⟨u5, rfl, (hs3.mono (View.le_trans hl4 hl6))⟩ (All2.cons ⟨u8, rfl, hs6⟩ All2.nil))
      replace S := S.litOwn (i := 1) (xs := ([(R37.mk r5.1.Key r5.1.Club r5.1.Race u5), (R37.mk r16.1.Key r16.1.Club r16.1.Race u8)] : List R37)) rfl R37.enc_ok rfl rfl rfl
      replace S := S.nk [.blk b32 [sV r5.1.Key, sV r5.1.Club, sV r5.1.Race, u5.val, sV r16.1.Key, sV r16.1.Club, sV r16.1.Race, u8.val] 37, .own (.slice (some ⟨b30, 0, none⟩) 2 2) 37 4 ([(R37.mk r5.1.Key r5.1.Club r5.1.Race u5), (R37.mk r16.1.Key r16.1.Club r16.1.Race u8)] : List R37).length (([(R37.mk r5.1.Key r5.1.Club r5.1.Race u5), (R37.mk r16.1.Key r16.1.Club r16.1.Race u8)] : List R37).flatMap R37.enc), .blk b20 [sV r16.1.Key, sV r16.1.Club, sV r16.1.Race, u8.val] 37, .blk b3 [sV r5.1.Key, sV r5.1.Club, sV r5.1.Race, u5.val] 37, .blk b1 [v_p_l, iV r16.2] 25] [(3, .pointer (some ⟨b1, 0, none⟩)), (8, .pointer (some ⟨b3, 0, none⟩)), (10, sV r10.1), (11, iV r10.2), (12, iV x9), (13, sV x10), (14, .pointer (some ⟨b20, 0, none⟩)), (95, .pointer (some ⟨b1, 0, none⟩)), (96, .agg #[sV r16.1.Key, sV r16.1.Club, sV r16.1.Race, u8.val]), (97, iV r10.2), (98, iV x9), (99, bV (!decide (r10.2 = x9))), (100, bV (!decide (r10.2 = x9))), (101, sV r10.1), (102, sV x10), (103, bV (!decide (r10.1 = x10))), (104, bV (!decide (r10.1 = x10))), (105, bV (!decide (r10.1 = x10))), (106, .agg #[sV r5.1.Key, sV r5.1.Club, sV r5.1.Race, u5.val]), (107, .agg #[sV r16.1.Key, sV r16.1.Club, sV r16.1.Race, u8.val]), (108, (.slice (some ⟨b30, 0, none⟩) 2 2)), (110, .agg #[sV r5.1.Key, sV r5.1.Club, sV r5.1.Race, u5.val]), (111, .agg #[sV r16.1.Key, sV r16.1.Club, sV r16.1.Race, u8.val]), (112, .slice (some ⟨b32, 0, none⟩) 2 2)] [] rfl (subR rfl)
      refine l_enter S (fun _ => run_call (vs := [(.slice (some ⟨b30, 0, none⟩) 2 2)]) ⟨(S.tm rfl), trivial⟩ Tryz.call20) (swimmer_CheckSquads_ok _ (.slice (some ⟨b30, 0, none⟩) 2 2) ([r5.1, r16.1] : List GSquad) ([(R37.mk r5.1.Key r5.1.Club r5.1.Race u5), (R37.mk r16.1.Key r16.1.Club r16.1.Race u8)] : List R37) (own_slcT R37.enc_ok S (i := 1) rfl (ne_nil (e' := .own (.slice (some ⟨b30, 0, none⟩) 2 2) 37 4 ([(R37.mk r5.1.Key r5.1.Club r5.1.Race u5), (R37.mk r16.1.Key r16.1.Club r16.1.Race u8)] : List R37).length (([(R37.mk r5.1.Key r5.1.Club r5.1.Race u5), (R37.mk r16.1.Key r16.1.Club r16.1.Race u8)] : List R37).flatMap R37.enc)))) (rels_37 (S.le_new nil_sub) hr42) _ hr37) rfl ?_; clear S; intro v57 a w106 hv55 hk98 hn55 S
      subst hv55
      refine l_done (d_next hk98 (d_loud1 16 (by kernel_rfl) rfl (l_want S rfl rfl rfl hb6 ?_)))
      have hr43 : All2 (rel_37 φ6) ([r5.1, r16.1] : List GSquad) ([(R37.mk r5.1.Key r5.1.Club r5.1.Race u5), (R37.mk r16.1.Key r16.1.Club r16.1.Race u8)] : List R37) := (All2.cons ⟨u5, rfl, (hs3.mono (View.le_trans hl4 hl6))⟩ (All2.cons ⟨u8, rfl, hs6⟩ All2.nil))
      replace S := S.litOwn (i := 0) (xs := ([(R37.mk r5.1.Key r5.1.Club r5.1.Race u5), (R37.mk r16.1.Key r16.1.Club r16.1.Race u8)] : List R37)) rfl R37.enc_ok rfl rfl rfl
      replace S := S.nk [.own (.slice (some ⟨b32, 0, none⟩) 2 2) 37 4 ([(R37.mk r5.1.Key r5.1.Club r5.1.Race u5), (R37.mk r16.1.Key r16.1.Club r16.1.Race u8)] : List R37).length (([(R37.mk r5.1.Key r5.1.Club r5.1.Race u5), (R37.mk r16.1.Key r16.1.Club r16.1.Race u8)] : List R37).flatMap R37.enc), .own (.slice (some ⟨b30, 0, none⟩) 2 2) 37 4 ([(R37.mk r5.1.Key r5.1.Club r5.1.Race u5), (R37.mk r16.1.Key r16.1.Club r16.1.Race u8)] : List R37).length (([(R37.mk r5.1.Key r5.1.Club r5.1.Race u5), (R37.mk r16.1.Key r16.1.Club r16.1.Race u8)] : List R37).flatMap R37.enc), .blk b20 [sV r16.1.Key, sV r16.1.Club, sV r16.1.Race, u8.val] 37, .blk b3 [sV r5.1.Key, sV r5.1.Club, sV r5.1.Race, u5.val] 37, .blk b1 [v_p_l, iV r16.2] 25] [(3, .pointer (some ⟨b1, 0, none⟩)), (8, .pointer (some ⟨b3, 0, none⟩)), (10, sV r10.1), (11, iV r10.2), (12, iV x9), (13, sV x10), (14, .pointer (some ⟨b20, 0, none⟩)), (95, .pointer (some ⟨b1, 0, none⟩)), (96, .agg #[sV r16.1.Key, sV r16.1.Club, sV r16.1.Race, u8.val]), (97, iV r10.2), (98, iV x9), (99, bV (!decide (r10.2 = x9))), (100, bV (!decide (r10.2 = x9))), (101, sV r10.1), (102, sV x10), (103, bV (!decide (r10.1 = x10))), (104, bV (!decide (r10.1 = x10))), (105, bV (!decide (r10.1 = x10))), (106, .agg #[sV r5.1.Key, sV r5.1.Club, sV r5.1.Race, u5.val]), (107, .agg #[sV r16.1.Key, sV r16.1.Club, sV r16.1.Race, u8.val]), (108, (.slice (some ⟨b30, 0, none⟩) 2 2)), (109, iV r19), (110, .agg #[sV r5.1.Key, sV r5.1.Club, sV r5.1.Race, u5.val]), (111, .agg #[sV r16.1.Key, sV r16.1.Club, sV r16.1.Race, u8.val]), (112, (.slice (some ⟨b32, 0, none⟩) 2 2))] [] rfl (subR rfl)
      refine l_enter S (fun _ => run_call (vs := [(.slice (some ⟨b32, 0, none⟩) 2 2)]) ⟨(S.tm rfl), trivial⟩ Tryz.call18) (tumbref2_SquadsFault_ok _ (.slice (some ⟨b32, 0, none⟩) 2 2) ([r5.1, r16.1] : List GSquad) ([(R37.mk r5.1.Key r5.1.Club r5.1.Race u5), (R37.mk r16.1.Key r16.1.Club r16.1.Race u8)] : List R37) (own_slcT R37.enc_ok S (i := 0) rfl (ne_nil (e' := .own (.slice (some ⟨b32, 0, none⟩) 2 2) 37 4 ([(R37.mk r5.1.Key r5.1.Club r5.1.Race u5), (R37.mk r16.1.Key r16.1.Club r16.1.Race u8)] : List R37).length (([(R37.mk r5.1.Key r5.1.Club r5.1.Race u5), (R37.mk r16.1.Key r16.1.Club r16.1.Race u8)] : List R37).flatMap R37.enc)))) (rels_37 (S.le_new nil_sub) hr43) _ hr39) rfl ?_; clear S; intro v58 a w107 hv56 hk99 hn56 S
      subst hv56
      refine l_done (d_next hk99 (d_rest [17, 18] hsel (by kernel_rfl) rfl ?_))
      clear hsel
      refine s_want S rfl rfl rfl rfl hb6 (s_lv0 S (rn_neq (S.tm rfl) (S.tm rfl)) rfl ?_); clear S; intro a S
      refine s_lv S rfl (rn_pick_c hb6 (S.tm rfl) (S.tm rfl)) rfl ?_; clear S; intro a S
      refine s_done ?_
      replace S := S.nk [.blk b1 [v_p_l, iV r16.2] 25] [(3, .pointer (some ⟨b1, 0, none⟩)), (115, bV (!decide (r19 = r20)))] [false, false, false, false, true] rfl (subR rfl)
      refine then_n ?_
      exact ⟨!decide (r19 = r20), h, S.nf [true] rfl (subR rfl)⟩
    ·refine l_want S rfl rfl rfl hb6 (l_buildSlice S Tryz.underlying52 Tryz.sizeOf37 Tryz.zeroValue37 rfl rfl (pv := [(0, .agg #[sV r5.1.Key, sV r5.1.Club, sV r5.1.Race, u5.val]), (1, .agg #[sV r16.1.Key, sV r16.1.Club, sV r16.1.Race, u8.val])]) ⟨rfl, (S.tm rfl), rfl, (S.tm rfl), trivial⟩ (cs := [sV r5.1.Key, sV r5.1.Club, sV r5.1.Race, u5.val, sV r16.1.Key, sV r16.1.Club, sV r16.1.Race, u8.val]) (by kernel_rfl) rfl ?_); clear S; intro a w108 b33 hz36 hk100 S
     refine l_done (d_next hk100 (d_loud1 11 (by kernel_rfl) rfl (l_want S rfl rfl rfl hb6 (l_buildSlice S Tryz.underlying52 Tryz.sizeOf37 Tryz.zeroValue37 rfl rfl (pv := [(0, .agg #[sV r5.1.Key, sV r5.1.Club, sV r5.1.Race, u5.val]), (1, .agg #[sV r16.1.Key, sV r16.1.Club, sV r16.1.Race, u8.val])]) ⟨rfl, (S.tm rfl), rfl, (S.tm rfl), trivial⟩ (cs := [sV r5.1.Key, sV r5.1.Club, sV r5.1.Race, u5.val, sV r16.1.Key, sV r16.1.Club, sV r16.1.Race, u8.val]) (by kernel_rfl) rfl ?_)))); clear S; intro a w109 b34 hz37 hk101 S
     refine l_done (d_next hk101 (d_loud1 12 (by kernel_rfl) rfl (l_want S rfl rfl rfl hb6 ?_)))
     have hr44 : All2 (rel_37 φ6) ([r5.1, r16.1] : List GSquad) ([(R37.mk r5.1.Key r5.1.Club r5.1.Race u5), (R37.mk r16.1.Key r16.1.Club r16.1.Race u8)] : List R37) := (All2.cons ⟨u5, rfl, (hs3.mono (View.le_trans hl4 hl6))⟩ (All2.cons ⟨u8, rfl, hs6⟩ All2.nil))
     replace S := S.litOwn (i := 0) (xs := ([(R37.mk r5.1.Key r5.1.Club r5.1.Race u5), (R37.mk r16.1.Key r16.1.Club r16.1.Race u8)] : List R37)) rfl R37.enc_ok rfl rfl rfl
     replace S := S.nk [.own (.slice (some ⟨b34, 0, none⟩) 2 2) 37 4 ([(R37.mk r5.1.Key r5.1.Club r5.1.Race u5), (R37.mk r16.1.Key r16.1.Club r16.1.Race u8)] : List R37).length (([(R37.mk r5.1.Key r5.1.Club r5.1.Race u5), (R37.mk r16.1.Key r16.1.Club r16.1.Race u8)] : List R37).flatMap R37.enc), .blk b33 [sV r5.1.Key, sV r5.1.Club, sV r5.1.Race, u5.val, sV r16.1.Key, sV r16.1.Club, sV r16.1.Race, u8.val] 37, .blk b20 [sV r16.1.Key, sV r16.1.Club, sV r16.1.Race, u8.val] 37, .blk b3 [sV r5.1.Key, sV r5.1.Club, sV r5.1.Race, u5.val] 37, .blk b1 [v_p_l, iV r16.2] 25] [(3, .pointer (some ⟨b1, 0, none⟩)), (8, .pointer (some ⟨b3, 0, none⟩)), (10, sV r10.1), (11, iV r10.2), (12, iV x9), (13, sV x10), (14, .pointer (some ⟨b20, 0, none⟩)), (95, .pointer (some ⟨b1, 0, none⟩)), (96, .agg #[sV r16.1.Key, sV r16.1.Club, sV r16.1.Race, u8.val]), (97, iV r10.2), (98, iV x9), (99, bV (!decide (r10.2 = x9))), (100, bV (!decide (r10.2 = x9))), (101, sV r10.1), (102, sV x10), (103, bV (!decide (r10.1 = x10))), (104, bV (!decide (r10.1 = x10))), (105, bV (!decide (r10.1 = x10))), (106, .agg #[sV r5.1.Key, sV r5.1.Club, sV r5.1.Race, u5.val]), (107, .agg #[sV r16.1.Key, sV r16.1.Club, sV r16.1.Race, u8.val]), (108, (.slice (some ⟨b34, 0, none⟩) 2 2)), (110, .agg #[sV r5.1.Key, sV r5.1.Club, sV r5.1.Race, u5.val]), (111, .agg #[sV r16.1.Key, sV r16.1.Club, sV r16.1.Race, u8.val]), (112, .slice (some ⟨b33, 0, none⟩) 2 2)] [] rfl (subR rfl)
     refine l_enter S (fun _ => run_call (vs := [(.slice (some ⟨b34, 0, none⟩) 2 2)]) ⟨(S.tm rfl), trivial⟩ Tryz.call20) (swimmer_CheckSquads_ok _ (.slice (some ⟨b34, 0, none⟩) 2 2) ([r5.1, r16.1] : List GSquad) ([(R37.mk r5.1.Key r5.1.Club r5.1.Race u5), (R37.mk r16.1.Key r16.1.Club r16.1.Race u8)] : List R37) (own_slcT R37.enc_ok S (i := 0) rfl (ne_nil (e' := .own (.slice (some ⟨b34, 0, none⟩) 2 2) 37 4 ([(R37.mk r5.1.Key r5.1.Club r5.1.Race u5), (R37.mk r16.1.Key r16.1.Club r16.1.Race u8)] : List R37).length (([(R37.mk r5.1.Key r5.1.Club r5.1.Race u5), (R37.mk r16.1.Key r16.1.Club r16.1.Race u8)] : List R37).flatMap R37.enc)))) (rels_37 (S.le_new nil_sub) hr44) _ hr37) rfl ?_; clear S; intro v59 a w110 hv57 hk102 hn57 S
     subst hv57
     refine l_done (d_next hk102 (d_loud1 16 (by kernel_rfl) rfl (l_want S rfl rfl rfl hb6 ?_)))
     have hr45 : All2 (rel_37 φ6) ([r5.1, r16.1] : List GSquad) ([(R37.mk r5.1.Key r5.1.Club r5.1.Race u5), (R37.mk r16.1.Key r16.1.Club r16.1.Race u8)] : List R37) := (All2.cons ⟨u5, rfl, (hs3.mono (View.le_trans hl4 hl6))⟩ (All2.cons ⟨u8, rfl, hs6⟩ All2.nil))
     replace S := S.litOwn (i := 1) (xs := ([(R37.mk r5.1.Key r5.1.Club r5.1.Race u5), (R37.mk r16.1.Key r16.1.Club r16.1.Race u8)] : List R37)) rfl R37.enc_ok rfl rfl rfl
     replace S := S.nk [.own (.slice (some ⟨b34, 0, none⟩) 2 2) 37 4 ([(R37.mk r5.1.Key r5.1.Club r5.1.Race u5), (R37.mk r16.1.Key r16.1.Club r16.1.Race u8)] : List R37).length (([(R37.mk r5.1.Key r5.1.Club r5.1.Race u5), (R37.mk r16.1.Key r16.1.Club r16.1.Race u8)] : List R37).flatMap R37.enc), .own (.slice (some ⟨b33, 0, none⟩) 2 2) 37 4 ([(R37.mk r5.1.Key r5.1.Club r5.1.Race u5), (R37.mk r16.1.Key r16.1.Club r16.1.Race u8)] : List R37).length (([(R37.mk r5.1.Key r5.1.Club r5.1.Race u5), (R37.mk r16.1.Key r16.1.Club r16.1.Race u8)] : List R37).flatMap R37.enc), .blk b20 [sV r16.1.Key, sV r16.1.Club, sV r16.1.Race, u8.val] 37, .blk b3 [sV r5.1.Key, sV r5.1.Club, sV r5.1.Race, u5.val] 37, .blk b1 [v_p_l, iV r16.2] 25] [(3, .pointer (some ⟨b1, 0, none⟩)), (8, .pointer (some ⟨b3, 0, none⟩)), (10, sV r10.1), (11, iV r10.2), (12, iV x9), (13, sV x10), (14, .pointer (some ⟨b20, 0, none⟩)), (95, .pointer (some ⟨b1, 0, none⟩)), (96, .agg #[sV r16.1.Key, sV r16.1.Club, sV r16.1.Race, u8.val]), (97, iV r10.2), (98, iV x9), (99, bV (!decide (r10.2 = x9))), (100, bV (!decide (r10.2 = x9))), (101, sV r10.1), (102, sV x10), (103, bV (!decide (r10.1 = x10))), (104, bV (!decide (r10.1 = x10))), (105, bV (!decide (r10.1 = x10))), (106, .agg #[sV r5.1.Key, sV r5.1.Club, sV r5.1.Race, u5.val]), (107, .agg #[sV r16.1.Key, sV r16.1.Club, sV r16.1.Race, u8.val]), (108, (.slice (some ⟨b34, 0, none⟩) 2 2)), (109, iV r19), (110, .agg #[sV r5.1.Key, sV r5.1.Club, sV r5.1.Race, u5.val]), (111, .agg #[sV r16.1.Key, sV r16.1.Club, sV r16.1.Race, u8.val]), (112, (.slice (some ⟨b33, 0, none⟩) 2 2))] [] rfl (subR rfl)
     refine l_enter S (fun _ => run_call (vs := [(.slice (some ⟨b33, 0, none⟩) 2 2)]) ⟨(S.tm rfl), trivial⟩ Tryz.call18) (tumbref2_SquadsFault_ok _ (.slice (some ⟨b33, 0, none⟩) 2 2) ([r5.1, r16.1] : List GSquad) ([(R37.mk r5.1.Key r5.1.Club r5.1.Race u5), (R37.mk r16.1.Key r16.1.Club r16.1.Race u8)] : List R37) (own_slcT R37.enc_ok S (i := 1) rfl (ne_nil (e' := .own (.slice (some ⟨b33, 0, none⟩) 2 2) 37 4 ([(R37.mk r5.1.Key r5.1.Club r5.1.Race u5), (R37.mk r16.1.Key r16.1.Club r16.1.Race u8)] : List R37).length (([(R37.mk r5.1.Key r5.1.Club r5.1.Race u5), (R37.mk r16.1.Key r16.1.Club r16.1.Race u8)] : List R37).flatMap R37.enc)))) (rels_37 (S.le_new nil_sub) hr45) _ hr39) rfl ?_; clear S; intro v60 a w111 hv58 hk103 hn58 S
     subst hv58
     refine l_done (d_next hk103 (d_rest [17, 18] hsel (by kernel_rfl) rfl ?_))
     clear hsel
     refine s_want S rfl rfl rfl rfl hb6 (s_lv0 S (rn_neq (S.tm rfl) (S.tm rfl)) rfl ?_); clear S; intro a S
     refine s_lv S rfl (rn_pick_c hb6 (S.tm rfl) (S.tm rfl)) rfl ?_; clear S; intro a S
     refine s_done ?_
     replace S := S.nk [.blk b1 [v_p_l, iV r16.2] 25] [(3, .pointer (some ⟨b1, 0, none⟩)), (115, bV (!decide (r19 = r20)))] [false, false, false, false, true] rfl (subR rfl)
     refine then_n ?_
     exact ⟨!decide (r19 = r20), h, S.nf [true] rfl (subR rfl)⟩
 clear S h; rintro a w77 ⟨x11, h, S⟩; rw [hj8] at h; clear hj8 j8
 refine then_n (f_cond (S.tm rfl) (fun hb7 => ?_) (fun hb7 => ?_))
 ·replace h := iteT h hb7
  refine f_seq (f_region (lv S (rn_assign rfl) rfl ?_)); clear S; intro a S
  refine l_done (then_n (wp_ret (then_r ?_)))
  obtain rfl := Option.some.inj h
  exact f_ret S Tryz.results3 rfl rfl
 ·replace h := iteF h hb7
  refine wp_skip (then_n (f_seq (f_region (lv S (rn_move (S.tm rfl)) rfl ?_)))); clear S; intro a S
  obtain ⟨r21, hr46, h⟩ := bindE h
  have hz38 := S.keep.size
  refine l_enter1 0 S (b := b1) rfl rfl (fun _ => .blk b1 [v_p_l, iV r21.2] 25) (fun _ => run_call (vs := [.pointer (some ⟨b1, 0, none⟩)]) ⟨(S.tm rfl), trivial⟩ Tryz.call21) (Stream_Legs_ok _ b1 v_p_l p_l (hs_p_l.mono (S.le_arg (fp_sub (i := 0) (e := .blk b1 [v_p_l, iV r16.2] 25) rfl))) r16.2 (S.holds _ (List.mem_of_getElem? (i := 0) rfl)) _ hr46) rfl (fun _ _ _ h => ⟨h.1, fun _ hc => by cases hc; rfl⟩) ?_; clear S; intro v61 a w112 hv59 hk104 hn59 S
  replace hv59 := hv59.2
  obtain ⟨rs1, ho8, hr47⟩ := hv59
  obtain ⟨φ7, hl7, hm10, S⟩ := S.see' hn59 hz38
  have hs7 := ho8.mono hm10
  have hr48 := rels_91 (View.le_trans (hide_le _ _) hm10) hr47
  refine lv S (rn_move (S.tm rfl)) rfl ?_; clear S; intro a S
  refine l_buildSlice S Tryz.underlying22 Tryz.sizeOf3 Tryz.zeroValue3 rfl rfl (pv := [(0, iV 0), (1, iV 0), (2, iV 1), (3, iV 2), (4, iV 4), (5, iV 5), (6, iV (-1))]) ⟨rfl, rfl, rfl, rfl, rfl, rfl, rfl, rfl, rfl, rfl, rfl, rfl, rfl, rfl, trivial⟩ (cs := [iV 0, iV 0, iV 1, iV 2, iV 4, iV 5, iV (-1)]) (by kernel_rfl) rfl ?_; clear S; intro a w113 b35 hz39 hk105 S
  obtain ⟨r22, hr49, h⟩ := bindE h
  refine l_enter1 1 S (b := b1) rfl rfl (fun _ => .blk b1 [v_p_l, iV r22.2] 25) (fun _ => run_call (vs := [.pointer (some ⟨b1, 0, none⟩), .slice (some ⟨b35, 0, none⟩) 7 7]) ⟨(S.tm rfl), (S.tm rfl), trivial⟩ Tryz.call11) (Stream_Pick_ok _ b1 v_p_l p_l (hs_p_l.mono (S.le_arg (fp_sub (i := 1) (e := .blk b1 [v_p_l, iV r21.2] 25) rfl))) r21.2 (S.holds _ (List.mem_of_getElem? (i := 1) rfl)) (.slice (some ⟨b35, 0, none⟩) 7 7) [0, 0, 1, 2, 4, 5, (-1)] (lit_slcT enc_int S (i := 0) rfl rfl rfl rfl ((ne_fp (i := 1) (j := 0) (e := .blk b1 [v_p_l, iV r21.2] 25) (e' := .blk b35 [iV 0, iV 0, iV 1, iV 2, iV 4, iV 5, iV (-1)] 3) S rfl rfl rfl) _ rfl)) _ hr49) rfl (fun _ _ _ h => ⟨h.1, fun _ hc => by cases hc; rfl⟩) ?_; clear S; intro v62 a w114 hv60 hk106 hn60 S
  replace hv60 := hv60.2
  subst hv60
  refine lv S (rn_assign (S.tm rfl)) rfl ?_; clear S; intro a S
  refine lv S (rn_assign (S.tm rfl)) rfl ?_; clear S; intro a S
  refine l_done (then_n (f_seq (f_region (lv S (rn_move (S.tm rfl)) rfl ?_)))); clear S; intro a S
  refine lv S (rn_move (S.tm rfl)) rfl ?_; clear S; intro a S
  obtain ⟨r23, hr50, h⟩ := bindE h
  have hz40 := S.keep.size
  refine l_enter S (fun _ => run_call (vs := [v61, iV r22.1]) ⟨(S.tm rfl), (S.tm rfl), trivial⟩ Tryz.call22) (swimmer_Fastest_ok _ v61 r21.1 rs1 ((ownV_slcT R91.enc_ok hs7).mono (S.le_new nil_sub)) (rels_91 (S.le_new nil_sub) hr48) r22.1 _ hr50) rfl ?_; clear S; intro v63 a w115 hv61 hk107 hn61 S
  obtain ⟨u10, rfl, ho9⟩ := hv61
  obtain ⟨φ8, hl8, hm11, S⟩ := S.see' hn61 hz40
  have hs8 := ho9.mono hm11
  refine lv S (rn_move (S.tm rfl)) rfl ?_; clear S; intro a S
  iterate 4 (refine lv S (rn_extract (S.tm rfl) rfl) rfl ?_; clear S; intro a S)
  iterate 4 (refine lv S (rn_assign (S.tm rfl)) rfl ?_; clear S; intro a S)
  refine l_done ?_
  replace S := S.nk [] [(15, v61), (16, iV r22.1), (17, u10), (18, iV r23.2.1), (19, bV r23.2.2.1), (20, iV r23.2.2.2)] [false, false] rfl (subR rfl)
  refine then_n (f_seq (f_region (lv S (rn_move (S.tm rfl)) rfl ?_))); clear S; intro a S
  obtain ⟨r24, hr51, h⟩ := bindE h
  refine l_enter S (fun _ => run_call (vs := [v61]) ⟨(S.tm rfl), trivial⟩ Tryz.call23) (tumbref2_LegsFault_ok _ v61 r21.1 rs1 ((ownV_slcT R91.enc_ok hs7).mono (View.le_trans hl8 (S.le_new nil_sub))) (rels_91 (View.le_trans hl8 (S.le_new nil_sub)) hr48) _ hr51) rfl ?_; clear S; intro v64 a w116 hv62 hk108 hn62 S
  subst hv62
  refine lv S (rn_move (S.tm rfl)) rfl ?_; clear S; intro a S
  refine lv S (rn_lss (S.tm rfl) rfl) rfl ?_; clear S; intro a S
  refine lv S (rn_move (S.tm rfl)) rfl ?_; clear S; intro a S
  refine f_cutm 3 (fun a w' => Keep [] w116 w' ∧ Sx w [] φ8 [] [(15, v61), (16, iV r22.1), (17, u10), (18, iV r23.2.1), (19, bV r23.2.2.1), (20, iV r23.2.2.2), (130, iV r24), (136, bV ((decide (r22.1 < 0)) || (decide (4 < r22.1))))] 177 a w') ?_ ?_
  ·rcases Bool.eq_false_or_eq_true (decide (r22.1 < 0)) with hb8 | hb8
   ·refine l_skip S rfl rfl rfl (neq_t hb8) rfl ?_ rfl; clear S; intro a S
    refine l_skip S rfl rfl rfl (neq_t hb8) rfl ?_ rfl; clear S; intro a S
    refine lv S (rn_or_t (decide (4 < r22.1)) hb8 (S.tm rfl) rfl) rfl ?_; clear S; intro a S
    refine l_done (then_n ?_)
    exact ⟨Keep.refl _ _, S.nf [] rfl (subR rfl)⟩
   ·refine l_want S rfl rfl rfl hb8 (lv S (rn_move (S.tm rfl)) rfl ?_); clear S; intro a S
    refine l_want S rfl rfl rfl hb8 (lv S (rn_gtr (S.tm rfl) rfl) rfl ?_); clear S; intro a S
    refine lv S (rn_or_f hb8 (S.tm rfl) (S.tm rfl)) rfl ?_; clear S; intro a S
    refine l_done (then_n ?_)
    exact ⟨Keep.refl _ _, S.nf [] rfl (subR rfl)⟩
  clear S; rintro a w117 ⟨hk109, S⟩
  refine l_enter S (fun _ => run_call (vs := [bV ((decide (r22.1 < 0)) || (decide (4 < r22.1))), iV 1]) ⟨(S.tm rfl), rfl, trivial⟩ Tryz.call24) (tumblaw2_when_ok _ ((decide (r22.1 < 0)) || (decide (4 < r22.1))) 1 _ rfl) rfl ?_; clear S; intro v65 a w118 hv63 hk110 hn63 S
  subst hv63
  refine l_buildSlice S Tryz.underlying84 Tryz.sizeOf43 Tryz.zeroValue43 rfl rfl (pv := [(0, iV r24), (1, iV (tumblaw2_when ((decide (r22.1 < 0)) || (decide (4 < r22.1))) 1))]) ⟨rfl, (S.tm rfl), rfl, (S.tm rfl), trivial⟩ (cs := [iV r24, iV (tumblaw2_when ((decide (r22.1 < 0)) || (decide (4 < r22.1))) 1)]) (by kernel_rfl) rfl ?_; clear S; intro a w119 b36 hz41 hk111 S
  refine l_enter S (fun _ => run_call (vs := [.slice (some ⟨b36, 0, none⟩) 2 2]) ⟨(S.tm rfl), trivial⟩ Tryz.call13) (tumblaw2_errs_ok _ (.slice (some ⟨b36, 0, none⟩) 2 2) [r24, (tumblaw2_when ((decide (r22.1 < 0)) || (decide (4 < r22.1))) 1)] (lit_slcT enc_int S (i := 0) rfl rfl rfl rfl ((ne_nil (e' := .blk b36 [iV r24, iV (tumblaw2_when ((decide (r22.1 < 0)) || (decide (4 < r22.1))) 1)] 43)) _ rfl)) _ rfl) rfl ?_; clear S; intro v66 a w120 hv64 hk112 hn64 S
  subst hv64
  refine lv S (rn_assign (S.tm rfl)) rfl ?_; clear S; intro a S
  refine l_done (then_n (f_seq (f_region (lv S (rn_assign rfl) rfl ?_)))); clear S; intro a S
  refine l_done (then_n (f_seq (f_region (lv S (rn_assign rfl) rfl ?_)))); clear S; intro a S
  refine lv S (rn_assign rfl) rfl ?_; clear S; intro a S
  refine l_done ?_
  replace S := S.nk [] [(15, v61), (16, iV r22.1), (17, u10), (18, iV r23.2.1), (19, bV r23.2.2.1), (20, iV r23.2.2.2), (21, iV (tumblaw2_errs [r24, (tumblaw2_when ((decide (r22.1 < 0)) || (decide (4 < r22.1))) 1)])), (22, .slice none 0 0), (23, iV 0), (24, bV false)] [false] rfl (subR rfl)
  refine then_n (f_seq (f_seq (f_region (lv S (rn_move (S.tm rfl)) rfl ?_)))); clear S; intro a S
  refine lv S (rn_eql (S.tm rfl) rfl) rfl ?_; clear S; intro a S
  refine l_done (then_n ?_)
  obtain ⟨j9, hj9, h⟩ := joinE h
  refine f_join (fun a w' => ∃ x12 : List ByteArray, ∃ x13 : Int, ∃ x14 : Bool, ∃ φ9 : View, ∃ v67 : Value, j9 x12 x13 x14 = some r ∧ View.le φ8 φ9 ∧ OwnV φ9 9 1 v67 x12.length (x12.flatMap eStr) ∧ Sx w [] φ9 [] [(15, v61), (17, u10), (18, iV r23.2.1), (19, bV r23.2.2.1), (20, iV r23.2.2.2), (21, iV (tumblaw2_errs [r24, (tumblaw2_when ((decide (r22.1 < 0)) || (decide (4 < r22.1))) 1)])), (22, v67), (23, iV x13), (24, bV x14)] 177 a w') ?_ ?_
  ·refine f_cond (S.tm rfl) (fun hb9 => ?_) (fun hb9 => ?_)
   ·replace h := iteT h hb9
    refine f_region (lv S (rn_move (S.tm rfl)) rfl ?_); clear S; intro a S
    refine lv S (rn_move (S.tm rfl)) rfl ?_; clear S; intro a S
    obtain ⟨r25, hr52, h⟩ := bindE h
    have hz42 := S.keep.size
    refine l_enter S (fun _ => run_call (vs := [v61, iV r22.1]) ⟨(S.tm rfl), (S.tm rfl), trivial⟩ Tryz.call25) (tumbref2_FastestOf_ok _ v61 r21.1 rs1 ((ownV_slcT R91.enc_ok hs7).mono (View.le_trans hl8 (S.le_new nil_sub))) (rels_91 (View.le_trans hl8 (S.le_new nil_sub)) hr48) r22.1 _ hr52) rfl ?_; clear S; intro v68 a w122 hv65 hk113 hn65 S
    obtain ⟨u11, rfl, ho10⟩ := hv65
    obtain ⟨φ10, hl10, hm12, S⟩ := S.see' hn65 hz42
    have hs10 := ho10.mono hm12
    refine lv S (rn_move (S.tm rfl)) rfl ?_; clear S; intro a S
    iterate 3 (refine lv S (rn_extract (S.tm rfl) rfl) rfl ?_; clear S; intro a S)
    iterate 3 (refine lv S (rn_assign (S.tm rfl)) rfl ?_; clear S; intro a S)
    refine l_done ?_
    replace S := S.nk [] [(15, v61), (17, u10), (18, iV r23.2.1), (19, bV r23.2.2.1), (20, iV r23.2.2.2), (21, iV (tumblaw2_errs [r24, (tumblaw2_when ((decide (r22.1 < 0)) || (decide (4 < r22.1))) 1)])), (22, u11), (23, iV r25.2.1), (24, bV r25.2.2)] [] rfl (subR rfl)
    refine then_n ?_
    exact ⟨r25.1, r25.2.1, r25.2.2, φ10, u11, h, hl10, hs10, S.nf [] rfl (subR rfl)⟩
   ·replace h := iteF h hb9
    refine wp_skip (then_n ?_)
    exact ⟨([] : List ByteArray), 0, false, φ8, .slice none 0 0, h, (View.le_refl _), (ownV_nil _ _ _), S.nf [] rfl (subR rfl)⟩
  clear S h; rintro a w121 ⟨x12, x13, x14, φ9, v67, h, hl9, hs9, S⟩; rw [hj9] at h; clear hj9 j9
  refine then_n (f_seq (f_region (lv S (rn_move (S.tm rfl)) rfl ?_))); clear S; intro a S
  obtain ⟨r26, hr53, h⟩ := bindE h
  refine l_enter S (fun _ => run_call (vs := [v61]) ⟨(S.tm rfl), trivial⟩ Tryz.call26) (swimmer_CheckLegs_ok _ v61 r21.1 rs1 ((ownV_slcT R91.enc_ok hs7).mono (View.le_trans (View.le_trans hl8 hl9) (S.le_new nil_sub))) (rels_91 (View.le_trans (View.le_trans hl8 hl9) (S.le_new nil_sub)) hr48) _ hr53) rfl ?_; clear S; intro v69 a w123 hv66 hk114 hn66 S
  subst hv66
  refine lv S (rn_move (S.tm rfl)) rfl ?_; clear S; intro a S
  obtain ⟨r27, hr54, h⟩ := bindE h
  refine l_enter S (fun _ => run_call (vs := [v61]) ⟨(S.tm rfl), trivial⟩ Tryz.call23) (tumbref2_LegsFault_ok _ v61 r21.1 rs1 ((ownV_slcT R91.enc_ok hs7).mono (View.le_trans (View.le_trans hl8 hl9) (S.le_new nil_sub))) (rels_91 (View.le_trans (View.le_trans hl8 hl9) (S.le_new nil_sub)) hr48) _ hr54) rfl ?_; clear S; intro v70 a w124 hv67 hk115 hn67 S
  subst hv67
  refine lv S (rn_eql (S.tm rfl) (S.tm rfl)) rfl ?_; clear S; intro a S
  refine lv S (rn_move (S.tm rfl)) rfl ?_; clear S; intro a S
  refine f_cutm 4 (fun a w' => Keep [] w124 w' ∧ Sx w [] φ9 [] [(17, u10), (18, iV r23.2.1), (19, bV r23.2.2.1), (22, v67), (23, iV x13), (24, bV x14), (158, bV ((decide (r26 = r27)) && (decide (r23.2.2.2 = (tumblaw2_errs [r24, (tumblaw2_when ((decide (r22.1 < 0)) || (decide (4 < r22.1))) 1)])))))] 177 a w') ?_ ?_
  ·rcases Bool.eq_false_or_eq_true (decide (r26 = r27)) with hb10 | hb10
   ·refine l_want S rfl rfl rfl hb10 (lv S (rn_move (S.tm rfl)) rfl ?_); clear S; intro a S
    refine l_want S rfl rfl rfl hb10 (lv S (rn_move (S.tm rfl)) rfl ?_); clear S; intro a S
    refine l_want S rfl rfl rfl hb10 (lv S (rn_eql (S.tm rfl) (S.tm rfl)) rfl ?_); clear S; intro a S
    refine lv S (rn_and_t hb10 (S.tm rfl) (S.tm rfl)) rfl ?_; clear S; intro a S
    refine l_done (then_n ?_)
    exact ⟨Keep.refl _ _, S.nf [] rfl (subR rfl)⟩
   ·iterate 3 (refine l_skip S rfl rfl rfl (neq_f hb10) rfl ?_ rfl; clear S; intro a S)
    refine lv S (rn_and_f (decide (r23.2.2.2 = (tumblaw2_errs [r24, (tumblaw2_when ((decide (r22.1 < 0)) || (decide (4 < r22.1))) 1)]))) hb10 (S.tm rfl) rfl) rfl ?_; clear S; intro a S
    refine l_done (then_n ?_)
    exact ⟨Keep.refl _ _, S.nf [] rfl (subR rfl)⟩
  clear S; rintro a w125 ⟨hk116, S⟩
  refine lv S (rn_move (S.tm rfl)) rfl ?_; clear S; intro a S
  obtain ⟨j10, hj10, h⟩ := joinE h
  refine f_cutm 4 (fun a w' => ∃ c1, j10 c1 = some r ∧ Keep [] w125 w' ∧ Sx w [] φ9 [] [(18, iV r23.2.1), (19, bV r23.2.2.1), (23, iV x13), (24, bV x14), (163, bV c1)] 177 a w') ?_ ?_
  ·rcases Bool.eq_false_or_eq_true ((decide (r26 = r27)) && (decide (r23.2.2.2 = (tumblaw2_errs [r24, (tumblaw2_when ((decide (r22.1 < 0)) || (decide (4 < r22.1))) 1)])))) with hb11 | hb11
   ·replace h := iteT h hb11
    refine l_want S rfl rfl rfl hb11 (lv S (rn_move (S.tm rfl)) rfl ?_); clear S; intro a S
    refine l_want S rfl rfl rfl hb11 (lv S (rn_move (S.tm rfl)) rfl ?_); clear S; intro a S
    refine l_want S rfl rfl rfl hb11 ?_
    obtain ⟨r28, hr55, h⟩ := bindE h
    refine l_enter S (fun _ => run_call (vs := [u10, v67]) ⟨(S.tm rfl), (S.tm rfl), trivial⟩ Tryz.call27) (slices_Equal_string_ok _ u10 r23.1 ((ownV_slcT enc_str hs8).mono (View.le_trans hl9 (S.le_new nil_sub))) v67 x12 ((ownV_slcT enc_str hs9).mono (S.le_new nil_sub)) _ hr55) rfl ?_; clear S; intro v71 a w127 hv68 hk117 hn68 S
    subst hv68
    refine lv S (rn_and_t hb11 (S.tm rfl) (S.tm rfl)) rfl ?_; clear S; intro a S
    refine l_done (then_n ?_)
    exact ⟨_, h, hk117, S.nf [] rfl (subR rfl)⟩
   ·replace h := iteF h hb11
    iterate 3 (refine l_skip S rfl rfl rfl (neq_f hb11) rfl ?_ rfl; clear S; intro a S)
    refine lv S (rn_and_f true hb11 (S.tm rfl) rfl) rfl ?_; clear S; intro a S
    refine l_done (then_n ?_)
    exact ⟨_, h, Keep.refl _ _, S.nf [] rfl (subR rfl)⟩
  clear S h; rintro a w126 ⟨c1, h, hk118, S⟩; rw [hj10] at h; clear hj10 j10
  refine lv S (rn_move (S.tm rfl)) rfl ?_; clear S; intro a S
  refine f_cutm 4 (fun a w' => Keep [] w126 w' ∧ Sx w [] φ9 [] [(19, bV r23.2.2.1), (24, bV x14), (168, bV (c1 && (decide (r23.2.1 = x13))))] 177 a w') ?_ ?_
  ·rcases Bool.eq_false_or_eq_true c1 with hb12 | hb12
   ·refine l_want S rfl rfl rfl hb12 (lv S (rn_move (S.tm rfl)) rfl ?_); clear S; intro a S
    refine l_want S rfl rfl rfl hb12 (lv S (rn_move (S.tm rfl)) rfl ?_); clear S; intro a S
    refine l_want S rfl rfl rfl hb12 (lv S (rn_eql (S.tm rfl) (S.tm rfl)) rfl ?_); clear S; intro a S
    refine lv S (rn_and_t hb12 (S.tm rfl) (S.tm rfl)) rfl ?_; clear S; intro a S
    refine l_done (then_n ?_)
    exact ⟨Keep.refl _ _, S.nf [] rfl (subR rfl)⟩
   ·iterate 3 (refine l_skip S rfl rfl rfl (neq_f hb12) rfl ?_ rfl; clear S; intro a S)
    refine lv S (rn_and_f (decide (r23.2.1 = x13)) hb12 (S.tm rfl) rfl) rfl ?_; clear S; intro a S
    refine l_done (then_n ?_)
    exact ⟨Keep.refl _ _, S.nf [] rfl (subR rfl)⟩
  clear S; rintro a w128 ⟨hk119, S⟩
  refine lv S (rn_move (S.tm rfl)) rfl ?_; clear S; intro a S
  refine f_cutm 4 (fun a w' => Keep [] w128 w' ∧ Sx w [] φ9 [] [(173, bV ((c1 && (decide (r23.2.1 = x13))) && (decide (r23.2.2.1 = x14))))] 177 a w') ?_ ?_
  ·rcases Bool.eq_false_or_eq_true (c1 && (decide (r23.2.1 = x13))) with hb13 | hb13
   ·refine l_want S rfl rfl rfl hb13 (lv S (rn_move (S.tm rfl)) rfl ?_); clear S; intro a S
    refine l_want S rfl rfl rfl hb13 (lv S (rn_move (S.tm rfl)) rfl ?_); clear S; intro a S
    refine l_want S rfl rfl rfl hb13 (lv S (rn_beql Tryz.underlying4 (S.tm rfl) (S.tm rfl)) rfl ?_); clear S; intro a S
    refine lv S (rn_and_t hb13 (S.tm rfl) (S.tm rfl)) rfl ?_; clear S; intro a S
    refine l_done (then_n ?_)
    exact ⟨Keep.refl _ _, S.nf [] rfl ⟨rfl, trivial⟩⟩
   ·iterate 3 (refine l_skip S rfl rfl rfl (neq_f hb13) rfl ?_ rfl; clear S; intro a S)
    refine lv S (rn_and_f (decide (r23.2.2.1 = x14)) hb13 (S.tm rfl) rfl) rfl ?_; clear S; intro a S
    refine l_done (then_n ?_)
    exact ⟨Keep.refl _ _, S.nf [] rfl ⟨rfl, trivial⟩⟩
  clear S; rintro a w129 ⟨hk120, S⟩
  refine lv S (rn_move (S.tm rfl)) rfl ?_; clear S; intro a S
  obtain ⟨j11, hj11, h⟩ := joinE h
  refine f_cutm 2 (fun a w' => ∃ c2, j11 c2 = some r ∧ Keep [] w129 w' ∧ Sx w [] φ9 [] [(176, bV c2)] 177 a w') ?_ ?_
  ·rcases Bool.eq_false_or_eq_true ((c1 && (decide (r23.2.1 = x13))) && (decide (r23.2.2.1 = x14))) with hb14 | hb14
   ·replace h := iteT h hb14
    refine l_want S rfl rfl rfl hb14 ?_
    obtain ⟨r29, hr56, h⟩ := bindE h
    refine l_enter S (fun _ => run_call (vs := []) trivial Tryz.call28) (tumblaw2_dated_ok _ _ hr56) rfl ?_; clear S; intro v72 a w131 hv69 hk121 hn69 S
    subst hv69
    refine lv S (rn_and_t hb14 (S.tm rfl) (S.tm rfl)) rfl ?_; clear S; intro a S
    refine l_done (then_n ?_)
    exact ⟨_, h, hk121, S.nf [] rfl ⟨rfl, trivial⟩⟩
   ·replace h := iteF h hb14
    refine l_skip S rfl rfl rfl (neq_f hb14) rfl ?_ rfl; clear S; intro a S
    refine lv S (rn_and_f true hb14 (S.tm rfl) rfl) rfl ?_; clear S; intro a S
    refine l_done (then_n ?_)
    exact ⟨_, h, Keep.refl _ _, S.nf [] rfl ⟨rfl, trivial⟩⟩
  clear S h; rintro a w130 ⟨c2, h, hk122, S⟩; rw [hj11] at h; clear hj11 j11
  refine lv S (rn_assign (S.tm rfl)) rfl ?_; clear S; intro a S
  refine l_done (then_n (wp_ret ?_))
  obtain rfl := Option.some.inj h
  exact f_ret S Tryz.results3 rfl rfl
end Go.Proofs.YtmngaaffadcccaaGreatDoor
