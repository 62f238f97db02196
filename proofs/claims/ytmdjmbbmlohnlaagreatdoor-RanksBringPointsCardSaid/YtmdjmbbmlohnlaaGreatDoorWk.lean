/- Each Go function computes its plain twin, by program. -/
import Derived.Test.YtmdjmbbmlohnlaaGreatDoorWk3
namespace Go.Proofs.YtmdjmbbmlohnlaaGreatDoor
open Go
theorem tumbref2_sumOf_tumbref2_SwimmerSums_c1_c1_ok (w : World) (Aa : GTable) (Ar : R27) (At : rel_27 (view w []) Aa Ar) (O : Value) (Ab : List GScored) (Ad : Slc (view w []) 5 O (Ab.map GScored.enc)) (As : Nat) (Bu : ByteArray) (Cp : (view w []) As = some (.cells [sV Bu].toArray 9 (0, 0))) (r : GFraction) (h : tumbref2_sumOf_tumbref2_SwimmerSums_c1_c1 Aa Ab Bu = some r) :
    Calls Tryz.prog 47 [.agg (R27.enc Ar).toArray, O, .func (.func 50) #[] #[.pointer (some ⟨As, 0, none⟩)]].toArray w (Ret w [] fun _ v _ => v = .agg (GFraction.enc r).toArray) := by
 obtain ⟨u1, rfl, hs1⟩ := At
 refine f_enter [] [] Tryz.func47 rfl Tryz.ntmps47 rfl (by simp) (by simp [fps]) (by simp [fps]) fun a S => ?_
 unfold tumbref2_sumOf_tumbref2_SwimmerSums_c1_c1 at h
 replace S := S.nk [] [(0, .agg #[u1.val, iV Aa.Relay, iV Aa.Most]), (1, O), (2, .func (.func 50) #[] #[.pointer (some ⟨As, 0, none⟩)])] [] rfl (subR rfl)
 refine Fs (Fg (l_box S (S.tm rfl) (cs := [u1.val, iV Aa.Relay, iV Aa.Most]) rfl rfl ?_));clear S;intro a w1 b1 hz1 hk1 S
 refine l_alloc S Tryz.zeroValue36 (cs := [iV 0, iV 0]) rfl rfl ?_;clear S;intro a w2 b2 hz2 hk2 S
 refine Ld (Tn (Fs (Fg (lv S (rn_bld bt_36 (pv := [(1, iV 1)]) ⟨rfl, rfl, trivial⟩ (cs := [iV 0, iV 1]) (by kernel_rfl)) rfl ?_))));clear S;intro a S
 refine l_alloc S Tryz.zeroValue36 (cs := [iV 0, iV 0]) rfl rfl ?_;clear S;intro a w3 b3 hz3 hk3 S
 refine l_store S (S.tm rfl) (S.tm rfl) (i := 0) (off := 0) rfl Tryz.sizeOf36 (vs := [iV 0, iV 1]) rfl rfl rfl rfl ?_;clear S;intro w4 hk4 S
 refine Ld (Tn (Fs (Fs (Fg (lv S (Rm (S.tm rfl)) rfl ?_)))));clear S;intro a S
 refine lv S (rn_lenT sl_29 (S.tm rfl) (slc_len Ad)) rfl ?_;clear S;intro a S
 refine lv S (Rm rfl) rfl ?_;clear S;intro a S
 refine Ld (Tn ?_)
 replace S := S.nk [.blk b3 [iV 0, iV 1] 36, .blk b2 [iV 0, iV 0] 36, .blk b1 [u1.val, iV Aa.Relay, iV Aa.Most] 27] [(1, O), (2, .func (.func 50) #[] #[.pointer (some ⟨As, 0, none⟩)]), (3, .pointer (some ⟨b1, 0, none⟩)), (6, .pointer (some ⟨b2, 0, none⟩)), (7, .pointer (some ⟨b3, 0, none⟩)), (11, O), (12, iV (Ab.length : Int)), (13, iV 0)] [true, true, true] rfl (subR rfl)
 obtain ⟨j1, hj1, h⟩ := joinE h
 refine f_join (fun a w' => ∃ x1 : Int, ∃ x2 : Int, j1 x1 x2 = some r ∧ Sx w [] nov [.blk b3 [iV x1, iV x2] 36, .blk b2 [iV 0, iV 0] 36, .blk b1 [u1.val, iV Aa.Relay, iV Aa.Most] 27] [(6, .pointer (some ⟨b2, 0, none⟩)), (7, .pointer (some ⟨b3, 0, none⟩))] 32 a w') ?_ ?_
 ·refine wp_block (f_loop (fun (ys1 : List GScored) a w' => ∃ i1 : Nat, ∃ x1 : Int, ∃ x2 : Int, (∃ dn, Ab = dn ++ ys1 ∧ dn.length = i1) ∧ tumbref2_sumOf_tumbref2_SwimmerSums_c1_c1_l1 Bu Aa Ab j1 ys1 i1 x1 x2 = some r ∧ Sx w [] nov [.blk b3 [iV x1, iV x2] 36, .blk b2 [iV 0, iV 0] 36, .blk b1 [u1.val, iV Aa.Relay, iV Aa.Most] 27] [(1, O), (2, .func (.func 50) #[] #[.pointer (some ⟨As, 0, none⟩)]), (3, .pointer (some ⟨b1, 0, none⟩)), (6, .pointer (some ⟨b2, 0, none⟩)), (7, .pointer (some ⟨b3, 0, none⟩)), (11, O), (12, iV (Ab.length : Int)), (13, iV (i1 : Int))] 32 a w') List.length Ab ⟨0, 0, 1, ⟨[], rfl, rfl⟩, h, S.nf [true, true, true] rfl (subR rfl)⟩ ?_)
  clear S h;rintro ys1 a w5 ⟨i1, x1, x2, ⟨dn, hd1, hi1⟩, h, S⟩
  cases ys1 with
  | nil =>
   rw [tumbref2_sumOf_tumbref2_SwimmerSums_c1_c1_l1.eq_1] at h
   refine Fs (Fg (lv S (rn_lss (S.tm rfl) (S.tm rfl)) rfl ?_));clear S;intro a S
   refine Ld ?_
   replace S := S.nk [.blk b3 [iV x1, iV x2] 36, .blk b2 [iV 0, iV 0] 36, .blk b1 [u1.val, iV Aa.Relay, iV Aa.Most] 27] [(1, O), (2, .func (.func 50) #[] #[.pointer (some ⟨As, 0, none⟩)]), (3, .pointer (some ⟨b1, 0, none⟩)), (6, .pointer (some ⟨b2, 0, none⟩)), (7, .pointer (some ⟨b3, 0, none⟩)), (11, O), (12, iV (Ab.length : Int)), (13, iV (i1 : Int)), (14, bV (decide ((i1 : Int) < (Ab.length : Int))))] [true, true, true] rfl (subR rfl)
   refine Tn (Fs (wp_cond_false ((S.tm rfl).trans (congrArg Value.bool (rng_nil hd1 hi1))) (wp_exit (then_x (then_x (x_same ?_))))))
   refine Tn ?_
   exact ⟨x1, x2, h, S.nf [true, true, true] rfl (subR rfl)⟩
  | cons y1 ys1 =>
   rw [tumbref2_sumOf_tumbref2_SwimmerSums_c1_c1_l1.eq_2] at h
   refine Fs (Fg (lv S (rn_lss (S.tm rfl) (S.tm rfl)) rfl ?_));clear S;intro a S
   refine Ld ?_
   replace S := S.nk [.blk b3 [iV x1, iV x2] 36, .blk b2 [iV 0, iV 0] 36, .blk b1 [u1.val, iV Aa.Relay, iV Aa.Most] 27] [(1, O), (2, .func (.func 50) #[] #[.pointer (some ⟨As, 0, none⟩)]), (3, .pointer (some ⟨b1, 0, none⟩)), (6, .pointer (some ⟨b2, 0, none⟩)), (7, .pointer (some ⟨b3, 0, none⟩)), (11, O), (12, iV (Ab.length : Int)), (13, iV (i1 : Int)), (14, bV (decide ((i1 : Int) < (Ab.length : Int))))] [true, true, true] rfl (subR rfl)
   refine Tn (Fs (wp_cond_true ((S.tm rfl).trans (congrArg Value.bool (rng_cons hd1 hi1))) (wp_skip (Tn (Fs ?_)))))
   obtain ⟨j2, hj2, h⟩ := joinE h
   refine f_join (fun a w' => ∃ x3 : Int, ∃ x4 : Int, j2 x3 x4 = some r ∧ Sx w [] nov [.blk b3 [iV x3, iV x4] 36, .blk b2 [iV 0, iV 0] 36, .blk b1 [u1.val, iV Aa.Relay, iV Aa.Most] 27] [(1, O), (2, .func (.func 50) #[] #[.pointer (some ⟨As, 0, none⟩)]), (3, .pointer (some ⟨b1, 0, none⟩)), (6, .pointer (some ⟨b2, 0, none⟩)), (7, .pointer (some ⟨b3, 0, none⟩)), (11, O), (12, iV (Ab.length : Int)), (13, iV (i1 : Int))] 32 a w') ?_ ?_
   ·refine wp_block (Fs (Fg ?_))
    obtain ⟨b4, o1, hm1, hr1⟩ := rn_indexT (a := a) (x := .tmp 11) (y := .tmp 13) (ty := 0) sl_29 Ad (get_mid hd1 hi1) rfl (S.tm rfl) (S.tm rfl)
    refine lv S (hr1 _) rfl ?_;clear S;intro a S
    clear hr1
    refine lv S (rn_ldA Tryz.isAgg54 Tryz.sizeOf54 (off := o1) (o := 0) (part := (GScored.enc y1)) rfl rfl (S.tm rfl) (hm1.at S.emb0)) rfl ?_;clear S;intro a S
    refine l_alloc S Tryz.zeroValue54 (cs := [sV k_empty, sV k_empty, sV k_empty, iV 0, bV false]) rfl rfl ?_;clear S;intro a w8 b5 hz4 hk5 S
    refine l_store S (S.tm rfl) (S.tm rfl) (i := 0) (off := 0) rfl Tryz.sizeOf54 (vs := (GScored.enc y1)) rfl rfl rfl rfl ?_;clear S;intro w9 hk6 S
    refine Ld (Tn (Fs (Fg (lv S (rn_ldA Tryz.isAgg54 Tryz.sizeOf54 (off := 0) (o := 0) (part := (GScored.enc y1)) rfl rfl (S.tm rfl) (S.cellsAt (i := 0) rfl)) rfl ?_))));clear S;intro a S
    refine l_enter S (fun _ => run_call (vs := [.agg (GScored.enc y1).toArray]) ⟨(S.tm rfl), trivial⟩ Tryz.call43) (tumbref2_counted_ok _ y1 _ rfl) rfl ?_;clear S;intro v1 a w10 hv1 hk7 hn1 S
    subst hv1
    refine lv S (Rm (S.tm rfl)) rfl ?_;clear S;intro a S
    refine f_cutm 4 (fun a w' => Keep [] w10 w' ∧ Sx w [] nov [.blk b5 (GScored.enc y1) 54, .blk b3 [iV x1, iV x2] 36, .blk b2 [iV 0, iV 0] 36, .blk b1 [u1.val, iV Aa.Relay, iV Aa.Most] 27] [(1, O), (2, .func (.func 50) #[] #[.pointer (some ⟨As, 0, none⟩)]), (3, .pointer (some ⟨b1, 0, none⟩)), (6, .pointer (some ⟨b2, 0, none⟩)), (7, .pointer (some ⟨b3, 0, none⟩)), (9, .pointer (some ⟨b5, 0, none⟩)), (11, O), (12, iV (Ab.length : Int)), (13, iV (i1 : Int)), (23, bV ((tumbref2_counted y1) && (tumbref2_SwimmerSums_c1_c1 y1 Bu)))] 32 a w') ?_ ?_
    ·rcases Bool.eq_false_or_eq_true (tumbref2_counted y1) with hb1 | hb1
     ·refine l_want S rfl rfl rfl hb1 (lv S (Rm (S.tm rfl)) rfl ?_);clear S;intro a S
      refine l_want S rfl rfl rfl hb1 (lv S (rn_ldA Tryz.isAgg54 Tryz.sizeOf54 (off := 0) (o := 0) (part := (GScored.enc y1)) rfl rfl (S.tm rfl) (S.cellsAt (i := 0) rfl)) rfl ?_);clear S;intro a S
      refine l_want S rfl rfl rfl hb1 (l_enter S (fun _ => run_callV (cap := [.pointer (some ⟨As, 0, none⟩)]) (S.tm rfl) (vs := [.agg (GScored.enc y1).toArray]) ⟨(S.tm rfl), trivial⟩ Tryz.call50) (tumbref2_SwimmerSums_c1_c1_ok _ y1 As Bu ((S.le_arg nil_sub) _ _ Cp) _ rfl) rfl ?_);clear S;intro v2 a w12 hv2 hk8 hn2 S
      subst hv2
      refine lv S (rn_and_t hb1 (S.tm rfl) (S.tm rfl)) rfl ?_;clear S;intro a S
      refine Ld (Tn ?_)
      exact ⟨hk8, S.nf [true, true, true, true] rfl (subR rfl)⟩
     ·iterate 3 (refine l_skip S rfl rfl rfl (neq_f hb1) rfl ?_ rfl;clear S;intro a S)
      refine lv S (rn_and_f (tumbref2_SwimmerSums_c1_c1 y1 Bu) hb1 (S.tm rfl) rfl) rfl ?_;clear S;intro a S
      refine Ld (Tn ?_)
      exact ⟨Keep.refl _ _, S.nf [true, true, true, true] rfl (subR rfl)⟩
    clear S;rintro a w11 ⟨hk9, S⟩
    refine Ld (Tn ?_)
    obtain ⟨j3, hj3, h⟩ := joinE h
    refine f_join (fun a w' => ∃ x5 : Int, ∃ x6 : Int, j3 x5 x6 = some r ∧ Sx w [] nov [.blk b3 [iV x5, iV x6] 36, .blk b2 [iV 0, iV 0] 36, .blk b1 [u1.val, iV Aa.Relay, iV Aa.Most] 27] [(1, O), (2, .func (.func 50) #[] #[.pointer (some ⟨As, 0, none⟩)]), (3, .pointer (some ⟨b1, 0, none⟩)), (6, .pointer (some ⟨b2, 0, none⟩)), (7, .pointer (some ⟨b3, 0, none⟩)), (11, O), (12, iV (Ab.length : Int)), (13, iV (i1 : Int))] 32 a w') ?_ ?_
    ·refine f_cond (S.tm rfl) (fun hb2 => ?_) (fun hb2 => ?_)
     ·replace h := iteT h hb2
      obtain ⟨r1, hr2, h⟩ := bindE h
      obtain ⟨r2, hr3, h⟩ := bindE h
      refine d_region [6] ([]) Tryz.mixed S rfl (by kernel_rfl) ?_;clear S;intro w17 hk13 hsel S
      refine d_quiet 0 S hsel rfl (by kernel_rfl) (by kernel_rfl) (by kernel_rfl) (by kernel_rfl) rfl (fun _ hw => (rn_ldA Tryz.isAgg36 Tryz.sizeOf36 (off := 0) (o := 0) (part := [iV x1, iV x2]) rfl rfl (S.tm rfl) ((S.blk_mem (i := 1) (cells := [iV x1, iV x2]) (b := b3) (T := 36) rfl (ne_nil (e' := .blk b3 [iV x1, iV x2] 36))).kept hw))) ?_;clear S;intro a S
      refine d_quiet 1 S hsel rfl (by kernel_rfl) (by kernel_rfl) (by kernel_rfl) (by kernel_rfl) rfl (fun _ hw => (rn_ldA Tryz.isAgg27 Tryz.sizeOf27 (off := 0) (o := 0) (part := [u1.val, iV Aa.Relay, iV Aa.Most]) rfl rfl (S.tm rfl) ((S.blk_mem (i := 3) (cells := [u1.val, iV Aa.Relay, iV Aa.Most]) (b := b1) (T := 27) rfl (ne_nil (e' := .blk b1 [u1.val, iV Aa.Relay, iV Aa.Most] 27))).kept hw))) ?_;clear S;intro a S
      refine d_pure 2 S hsel rfl rfl (by kernel_rfl) (by kernel_rfl) rfl (fun _ => (Rm (S.tm rfl))) ?_;clear S;intro a S
      refine d_quiet 3 S hsel rfl (by kernel_rfl) (by kernel_rfl) (by kernel_rfl) (by kernel_rfl) rfl (fun _ hw => (rn_ldA Tryz.isAgg54 Tryz.sizeOf54 (off := 0) (o := 0) (part := (GScored.enc y1)) rfl rfl (S.tm rfl) ((S.blk_mem (i := 0) (cells := (GScored.enc y1)) (b := b5) (T := 54) rfl (ne_nil (e' := .blk b5 (GScored.enc y1) 54))).kept hw))) ?_;clear S;intro a S
      refine d_loud1 4 (by kernel_rfl) rfl (l_enter S (fun _ => run_call (vs := [.agg (R27.enc (R27.mk u1 Aa.Relay Aa.Most)).toArray, O, .agg (GScored.enc y1).toArray]) ⟨(S.tm rfl), (S.tm rfl), (S.tm rfl), trivial⟩ Tryz.call44) (tumbref2_shareOf_ok _ Aa (R27.mk u1 Aa.Relay Aa.Most) ⟨u1, rfl, (hs1.mono (S.le_arg nil_sub))⟩ O Ab (Ad.mono (S.le_arg nil_sub)) y1 _ hr2) rfl ?_);clear S;intro v5 a w18 hv5 hk14 hn5 S
      subst hv5
      refine Ld (d_next hk14 (d_loud1 5 (by kernel_rfl) rfl (l_enter S (fun _ => run_call (vs := [.agg (GFraction.enc (GFraction.mk x1 x2)).toArray, .agg (GFraction.enc r1).toArray]) ⟨(S.tm rfl), (S.tm rfl), trivial⟩ Tryz.call77) (tumbref2_plus_ok _ (GFraction.mk x1 x2) r1 _ hr3) rfl ?_)));clear S;intro v6 a w19 hv6 hk15 hn6 S
      subst hv6
      refine Ld (d_next hk15 (d_loudB 6 ([b3]) rfl (by kernel_rfl) rfl (l_store S (S.tm rfl) (S.tm rfl) (i := 1) (off := 0) rfl Tryz.sizeOf36 (vs := (GFraction.enc r2)) rfl rfl rfl rfl ?_)));clear S;intro w20 hk16 S
      refine Ld (d_nextB (d_end (by kernel_rfl) ?_))
      clear hsel
      replace S := S.nk [.blk b3 (GFraction.enc r2) 36, .blk b2 [iV 0, iV 0] 36, .blk b1 [u1.val, iV Aa.Relay, iV Aa.Most] 27] [(1, O), (2, .func (.func 50) #[] #[.pointer (some ⟨As, 0, none⟩)]), (3, .pointer (some ⟨b1, 0, none⟩)), (6, .pointer (some ⟨b2, 0, none⟩)), (7, .pointer (some ⟨b3, 0, none⟩)), (11, O), (12, iV (Ab.length : Int)), (13, iV (i1 : Int))] [false, true, true, true] rfl (subR rfl)
      refine Tn ?_
      exact ⟨r2.Num, r2.Den, h, S.nf [true, true, true] rfl (subR rfl)⟩
     ·replace h := iteF h hb2
      refine wp_skip (Tn ?_)
      exact ⟨x1, x2, h, S.nf [false, true, true, true] rfl (subR rfl)⟩
    clear S h;rintro a w13 ⟨x5, x6, h, S⟩;rw [hj3] at h;clear hj3 j3
    refine blk_n (Tn ?_)
    exact ⟨x5, x6, h, S.nf [true, true, true] rfl (subR rfl)⟩
   clear S h;rintro a w7 ⟨x3, x4, h, S⟩;rw [hj2] at h;clear hj2 j2
   refine Tn (Fg (lv S (rn_add (S.tm rfl) rfl) rfl ?_));clear S;intro a S
   refine lv S (Rm (S.tm rfl)) rfl ?_;clear S;intro a S
   refine Ld (Tn ?_)
   exact ⟨ys1, ⟨i1 + 1, x3, x4, ⟨_, (hd1).trans (List.append_cons _ _ _), by simp [hi1]⟩, h, S.nf [true, true, true] rfl ⟨rfl, rfl, rfl, rfl, rfl, rfl, rfl, (congrArg (fun z => some (Value.int .i64 z)) (rng_next hd1 hi1 (slc_max Ad))), trivial⟩⟩, Nat.lt_succ_self _⟩
 clear S h;rintro a w6 ⟨x1, x2, h, S⟩;rw [hj1] at h;clear hj1 j1
 refine Tn (Fs (Fg (lv S (rn_ldA Tryz.isAgg36 Tryz.sizeOf36 (off := 0) (o := 0) (part := [iV x1, iV x2]) rfl rfl (S.tm rfl) (S.cellsAt (i := 0) rfl)) rfl ?_)));clear S;intro a S
 refine l_store S (S.tm rfl) (S.tm rfl) (i := 1) (off := 0) rfl Tryz.sizeOf36 (vs := [iV x1, iV x2]) rfl rfl rfl rfl ?_;clear S;intro w21 hk17 S
 refine Ld (Tn (wp_ret ?_))
 obtain rfl := Option.some.inj h
 exact f_retG S (rs := [.cell 6 36]) (vs := [.agg #[iV x1, iV x2]]) Tryz.results47 ⟨(res_cell (off := 0) S rfl Tryz.isAgg36 Tryz.sizeOf36 rfl (S.cellsAt (i := 1) rfl)), trivial⟩ rfl rfl
theorem tumbref2_SwimmerSums_c1_ok (w : World) (Bv : ByteArray) (Bj : Nat) (Av : Value) (Bs : List Int) (Bd : Slc (view w []) 1 Av (Bs.map eInt)) (Be : Int) (Bh : Int) (Br : (view w []) Bj = some (.cells [Av, iV Be, iV Bh].toArray 27 (0, 0))) (Cn : Nat) (Ce : Value) (Dc : List GScored) (Dd : Slc (view w []) 5 Ce (Dc.map GScored.enc)) (Cy : (view w []) Cn = some (.cells [Ce].toArray 29 (0, 0))) (r : GFraction) (h : tumbref2_SwimmerSums_c1 Bv Bs Be Bh Dc = some r) :
    Calls Tryz.prog 49 [sV Bv, .pointer (some ⟨Bj, 0, none⟩), .pointer (some ⟨Cn, 0, none⟩)].toArray w (Ret w [] fun _ v _ => v = .agg (GFraction.enc r).toArray) := by
 refine f_enter [] [] Tryz.func49 rfl Tryz.ntmps49 rfl (by simp) (by simp [fps]) (by simp [fps]) fun a S => ?_
 unfold tumbref2_SwimmerSums_c1 at h
 replace S := S.nk [] [(0, sV Bv), (1, .pointer (some ⟨Bj, 0, none⟩)), (2, .pointer (some ⟨Cn, 0, none⟩))] [] rfl (subR rfl)
 refine Fs (Fg (l_box S (S.tm rfl) (cs := [sV Bv]) rfl rfl ?_));clear S;intro a w1 b1 hz1 hk1 S
 refine l_alloc S Tryz.zeroValue36 (cs := [iV 0, iV 0]) rfl rfl ?_;clear S;intro a w2 b2 hz2 hk2 S
 refine Ld (Tn (Fs (Fg (lv S (rn_ldA Tryz.isAgg27 Tryz.sizeOf27 (off := 0) (o := 0) (part := [Av, iV Be, iV Bh]) rfl rfl (S.tm rfl) ((mem_blk Br).at S.emb0)) rfl ?_))));clear S;intro a S
 refine lv S (rn_ld Tryz.isAgg29 (off := 0) (o := 0) (S.tm rfl) ((mem_blk Cy).at S.emb0) rfl) rfl ?_;clear S;intro a S
 refine lv S (rn_makeFunc (us := #[]) (xs := [].toArray) (ys := [.tmp 3].toArray) (by simp) (evA ⟨(S.tm rfl), trivial⟩ (vs := [.pointer (some ⟨b1, 0, none⟩)]))) rfl ?_;clear S;intro a S
 obtain ⟨r1, hr1, h⟩ := bindE h
 refine l_enter S (fun _ => run_call (vs := [.agg (R27.enc (R27.mk ⟨Av, SlcLen.one (slc_len Bd)⟩ Be Bh)).toArray, Ce, .func (.func 50) #[] #[.pointer (some ⟨b1, 0, none⟩)]]) ⟨(S.tm rfl), (S.tm rfl), (S.tm rfl), trivial⟩ Tryz.call47) (tumbref2_sumOf_tumbref2_SwimmerSums_c1_c1_ok _ (GTable.mk Bs Be Bh) (R27.mk ⟨Av, SlcLen.one (slc_len Bd)⟩ Be Bh) ⟨⟨Av, SlcLen.one (slc_len Bd)⟩, rfl, (Bd.mono (S.le_arg nil_sub))⟩ Ce Dc (Dd.mono (S.le_arg nil_sub)) b1 Bv (S.blk_view (i := 1) rfl ((ne_nil (e' := .blk b1 [sV Bv] 9)) _ rfl)) _ hr1) rfl ?_;clear S;intro v1 a w3 hv1 hk3 hn1 S
 subst hv1
 refine l_store S (S.tm rfl) (S.tm rfl) (i := 0) (off := 0) rfl Tryz.sizeOf36 (vs := (GFraction.enc r1)) rfl rfl rfl rfl ?_;clear S;intro w4 hk4 S
 refine Ld (Tn (wp_ret ?_))
 obtain rfl := Option.some.inj h
 exact f_retG S (rs := [.cell 4 36]) (vs := [.agg #[iV r1.Num, iV r1.Den]]) Tryz.results49 ⟨(res_cell (off := 0) S rfl Tryz.isAgg36 Tryz.sizeOf36 rfl (S.cellsAt (i := 0) rfl)), trivial⟩ rfl rfl
theorem tumbref2_sums_tumbref2_SwimmerSums_c1_ok (w : World) (Am : Value) (Bi : List ByteArray) (Cv : (LEnt.own Am 9 1 Bi.length (Bi.flatMap eStr)).holds w) (Aw : Nat) (Bl : Value) (Bg : List Int) (Cc : Slc (view w (Am.ownBlock.toList)) 1 Bl (Bg.map eInt)) (Bm : Int) (Bp : Int) (Cq : (view w (Am.ownBlock.toList)) Aw = some (.cells [Bl, iV Bm, iV Bp].toArray 27 (0, 0))) (Ax : Nat) (Cd : Value) (Cf : List GScored) (Cz : Slc (view w (Am.ownBlock.toList)) 5 Cd (Cf.map GScored.enc)) (Cr : (view w (Am.ownBlock.toList)) Ax = some (.cells [Cd].toArray 29 (0, 0))) (r : (List GGiven)) (h : tumbref2_sums_tumbref2_SwimmerSums_c1 Bi Bg Bm Bp Cf = some r) :
    Calls Tryz.prog 45 [Am, .func (.func 49) #[] #[.pointer (some ⟨Aw, 0, none⟩), .pointer (some ⟨Ax, 0, none⟩)]].toArray w (Ret w (Am.ownBlock.toList) fun τ v _ => OwnV τ 45 3 v r.length (r.flatMap GGiven.enc)) := by
 refine f_enter (Am.ownBlock.toList) [.own Am 9 1 Bi.length (Bi.flatMap eStr)] Tryz.func45 rfl Tryz.ntmps45 rfl (fun e he => by simp only [List.mem_singleton] at he;subst he;exact Cv) (fps_one_nodup _) (fps_one_sub _) fun a S => ?_
 unfold tumbref2_sums_tumbref2_SwimmerSums_c1 at h
 replace S := S.nk [.own Am 9 1 Bi.length (Bi.flatMap eStr)] [(0, Am), (1, .func (.func 49) #[] #[.pointer (some ⟨Aw, 0, none⟩), .pointer (some ⟨Ax, 0, none⟩)])] [true] rfl (subR rfl)
 refine Fs (Fg (lv S (Ra rfl) rfl ?_));clear S;intro a S
 refine Ld (Tn (Fs (Fg (lv S (Rm (S.tm rfl)) rfl ?_))));clear S;intro a S
 obtain ⟨r1, hr1, h⟩ := bindE h
 refine l_enterO 0 S rfl (fun _ => .own Am 9 1 r1.length (r1.flatMap eStr)) (fun _ => run_call (vs := [Am]) ⟨(S.tm rfl), trivial⟩ Tryz.call75) (slices_Sort_string_ok _ Am Bi (S.holds _ (List.mem_of_getElem? (i := 0) rfl)) _ hr1) rfl (fun _ _ _ h => ⟨h.1, fun _ hc => hc⟩) ?_;clear S;intro v1 a w1 hv1 hk1 hn1 S
 replace hv1 := hv1.2
 subst hv1
 refine Ld (Tn (Fs (Fg (lv S (Ra rfl) rfl ?_))));clear S;intro a S
 replace S := S.nil 45 3
 refine Ld (Tn (Fs (Fs (Fg (lv S (Rm (S.tm rfl)) rfl ?_)))));clear S;intro a S
 obtain ⟨r2, hr2, h⟩ := bindE h
 have hz1 := S.keep.size
 refine l_enterO 1 S rfl (fun v2 => .own v2 9 1 r2.length (r2.flatMap eStr)) (fun _ => run_call (vs := [Am]) ⟨(S.tm rfl), trivial⟩ Tryz.call76) (slices_Compact_string_ok _ Am r1 (S.holds _ (List.mem_of_getElem? (i := 1) rfl)) _ hr2) rfl (fun _ _ _ h => ⟨h.1, fun _ hc => h.2.symm.trans hc⟩) ?_;clear S;intro v2 a w2 hv2 hk2 hn2 S
 replace hv2 := hv2.2
 refine lv S (rn_lenT sl_81 (S.tm rfl) (own_len (S.own_at (i := 1) rfl))) rfl ?_;clear S;intro a S
 refine lv S (Rm rfl) rfl ?_;clear S;intro a S
 refine Ld (Tn ?_)
 replace S := S.nk [.own (.slice none 0 0) 45 3 ([] : List GGiven).length (([] : List GGiven).flatMap GGiven.enc), .own v2 9 1 r2.length (r2.flatMap eStr)] [(1, .func (.func 49) #[] #[.pointer (some ⟨Aw, 0, none⟩), .pointer (some ⟨Ax, 0, none⟩)]), (5, (.slice none 0 0)), (11, v2), (12, iV (r2.length : Int)), (13, iV 0)] [true, true] rfl (subR rfl)
 have hm1 := own_max (S.own_at (i := 1) rfl)
 obtain ⟨j1, hj1, h⟩ := joinE h
 refine f_join (fun a w' => ∃ x1 : List GGiven, ∃ v3 : Value, j1 x1 = some r ∧ Sx w (Am.ownBlock.toList) nov [.own v3 45 3 x1.length (x1.flatMap GGiven.enc), .own v2 9 1 r2.length (r2.flatMap eStr)] [(5, v3)] 27 a w') ?_ ?_
 ·refine wp_block (f_loop (fun (ys1 : List ByteArray) a w' => ∃ i1 : Nat, ∃ x1 : List GGiven, ∃ v3 : Value, (∃ dn, r2 = dn ++ ys1 ∧ dn.length = i1) ∧ tumbref2_sums_tumbref2_SwimmerSums_c1_l1 Bg Bm Bp Cf j1 ys1 i1 x1 = some r ∧ Sx w (Am.ownBlock.toList) nov [.own v3 45 3 x1.length (x1.flatMap GGiven.enc), .own v2 9 1 r2.length (r2.flatMap eStr)] [(1, .func (.func 49) #[] #[.pointer (some ⟨Aw, 0, none⟩), .pointer (some ⟨Ax, 0, none⟩)]), (5, v3), (11, v2), (12, iV (r2.length : Int)), (13, iV (i1 : Int))] 27 a w') List.length r2 ⟨0, ([] : List GGiven), (.slice none 0 0), ⟨[], rfl, rfl⟩, h, S.nf [true, true] rfl (subR rfl)⟩ ?_)
  clear S h;rintro ys1 a w3 ⟨i1, x1, v3, ⟨dn, hd1, hi1⟩, h, S⟩
  cases ys1 with
  | nil =>
   rw [tumbref2_sums_tumbref2_SwimmerSums_c1_l1.eq_1] at h
   refine Fs (Fg (lv S (rn_lss (S.tm rfl) (S.tm rfl)) rfl ?_));clear S;intro a S
   refine Ld ?_
   replace S := S.nk [.own v3 45 3 x1.length (x1.flatMap GGiven.enc), .own v2 9 1 r2.length (r2.flatMap eStr)] [(1, .func (.func 49) #[] #[.pointer (some ⟨Aw, 0, none⟩), .pointer (some ⟨Ax, 0, none⟩)]), (5, v3), (11, v2), (12, iV (r2.length : Int)), (13, iV (i1 : Int)), (14, bV (decide ((i1 : Int) < (r2.length : Int))))] [true, true] rfl (subR rfl)
   refine Tn (Fs (wp_cond_false ((S.tm rfl).trans (congrArg Value.bool (rng_nil hd1 hi1))) (wp_exit (then_x (then_x (x_same ?_))))))
   refine Tn ?_
   exact ⟨x1, v3, h, S.nf [true, true] rfl ⟨rfl, trivial⟩⟩
  | cons y1 ys1 =>
   rw [tumbref2_sums_tumbref2_SwimmerSums_c1_l1.eq_2] at h
   refine Fs (Fg (lv S (rn_lss (S.tm rfl) (S.tm rfl)) rfl ?_));clear S;intro a S
   refine Ld ?_
   replace S := S.nk [.own v3 45 3 x1.length (x1.flatMap GGiven.enc), .own v2 9 1 r2.length (r2.flatMap eStr)] [(1, .func (.func 49) #[] #[.pointer (some ⟨Aw, 0, none⟩), .pointer (some ⟨Ax, 0, none⟩)]), (5, v3), (11, v2), (12, iV (r2.length : Int)), (13, iV (i1 : Int)), (14, bV (decide ((i1 : Int) < (r2.length : Int))))] [true, true] rfl (subR rfl)
   refine Tn (Fs (wp_cond_true ((S.tm rfl).trans (congrArg Value.bool (rng_cons hd1 hi1))) (wp_skip (Tn (Fs (wp_block ?_))))))
   refine Fs (Fg ?_)
   obtain ⟨b1, hg1, hr3⟩ := rn_indexS (a := a) (x := .tmp 11) (y := .tmp 13) (ty := 0) sl_81 enc_str S (i := 1) rfl (get_mid hd1 hi1) rfl (S.tm rfl) (S.tm rfl)
   refine lv S (hr3 _) rfl ?_;clear S;intro a S
   clear hr3
   refine lv S (rn_ld Tryz.isAgg9 (off := i1 * 1) (o := 0) (S.tm rfl) (own_cells enc_str S (i := 1) rfl hg1 (get_mid hd1 hi1)) rfl) rfl ?_;clear S;intro a S
   refine lv S (Ra (S.tm rfl)) rfl ?_;clear S;intro a S
   refine Ld (Tn (Fg (lv S (Rm (S.tm rfl)) rfl ?_)));clear S;intro a S
   iterate 3 (refine lv S (Rm (S.tm rfl)) rfl ?_;clear S;intro a S)
   obtain ⟨r3, hr4, h⟩ := bindE h
   refine l_enter S (fun _ => run_callV (cap := [.pointer (some ⟨Aw, 0, none⟩), .pointer (some ⟨Ax, 0, none⟩)]) (S.tm rfl) (vs := [sV y1]) ⟨(S.tm rfl), trivial⟩ Tryz.call49) (tumbref2_SwimmerSums_c1_ok _ y1 Aw Bl Bg (Cc.mono (S.le_arg nil_sub)) Bm Bp ((S.le_arg nil_sub) _ _ Cq) Ax Cd Cf (Cz.mono (S.le_arg nil_sub)) ((S.le_arg nil_sub) _ _ Cr) _ hr4) rfl ?_;clear S;intro v4 a w5 hv3 hk3 hn3 S
   subst hv3
   refine lv S (rn_bld bt_45 (pv := [(0, sV y1), (1, .agg (GFraction.enc r3).toArray)]) ⟨rfl, (S.tm rfl), rfl, (S.tm rfl), trivial⟩ (cs := [sV y1, iV r3.Num, iV r3.Den]) (by kernel_rfl)) rfl ?_;clear S;intro a S
   refine l_buildSlice S Tryz.underlying31 Tryz.sizeOf45 Tryz.zeroValue45 rfl rfl (pv := [(0, .agg #[sV y1, iV r3.Num, iV r3.Den])]) ⟨rfl, (S.tm rfl), trivial⟩ (cs := [sV y1, iV r3.Num, iV r3.Den]) (by kernel_rfl) rfl ?_;clear S;intro a w6 b2 hz2 hk4 S
   obtain ⟨hc1, h⟩ := chkE h
   refine l_appendT sl_31 GGiven.enc_ok S (S.tm rfl) (i := 1) rfl (S.tm rfl) (j := 0) rfl (ys := [(GGiven.mk y1 r3)]) rfl rfl rfl rfl (by have := room_lt hc1;omega) rfl ?_;clear S;intro v5 a w7 hk5 S
   refine lv S (Ra (S.tm rfl)) rfl ?_;clear S;intro a S
   refine Ld ?_
   replace S := S.nk [.own v5 45 3 (x1 ++ [(GGiven.mk y1 r3)]).length ((x1 ++ [(GGiven.mk y1 r3)]).flatMap GGiven.enc), .own v2 9 1 r2.length (r2.flatMap eStr)] [(1, .func (.func 49) #[] #[.pointer (some ⟨Aw, 0, none⟩), .pointer (some ⟨Ax, 0, none⟩)]), (5, v5), (11, v2), (12, iV (r2.length : Int)), (13, iV (i1 : Int))] [false, true, true] rfl (subR rfl)
   refine blk_n (Tn (Fg (lv S (rn_add (S.tm rfl) rfl) rfl ?_)));clear S;intro a S
   refine lv S (Rm (S.tm rfl)) rfl ?_;clear S;intro a S
   refine Ld (Tn ?_)
   exact ⟨ys1, ⟨i1 + 1, (x1 ++ [(GGiven.mk y1 r3)]), v5, ⟨_, (hd1).trans (List.append_cons _ _ _), by simp [hi1]⟩, h, S.nf [true, true] rfl ⟨rfl, rfl, rfl, rfl, (congrArg (fun z => some (Value.int .i64 z)) (rng_next hd1 hi1 hm1)), trivial⟩⟩, Nat.lt_succ_self _⟩
 clear S h;rintro a w4 ⟨x1, v3, h, S⟩;rw [hj1] at h;clear hj1 j1
 refine Tn (Fs (Fg (lv S (Rm (S.tm rfl)) rfl ?_)));clear S;intro a S
 refine lv S (Ra (S.tm rfl)) rfl ?_;clear S;intro a S
 refine Ld (Tn (wp_ret ?_))
 obtain rfl := Option.some.inj h
 exact f_ret S Tryz.results45 rfl (own_retX S (i := 0) rfl (fun c hc hh => ne_fp (i := 1) (j := 0) S rfl rfl rfl c hh (by rw [← hv2] at hc;exact hc)))
theorem tumbref2_SwimmerSums_ok (w : World) (Aa : GTable) (Ar : R27) (At : rel_27 (view w []) Aa Ar) (O : Value) (Ab : List GScored) (Ad : Slc (view w []) 5 O (Ab.map GScored.enc)) (r : (List GGiven)) (h : tumbref2_SwimmerSums Aa Ab = some r) :
    Calls Tryz.prog 19 [.agg (R27.enc Ar).toArray, O].toArray w (Ret w [] fun τ v _ => OwnV τ 45 3 v r.length (r.flatMap GGiven.enc)) := by
 obtain ⟨u1, rfl, hs1⟩ := At
 refine f_enter [] [] Tryz.func19 rfl Tryz.ntmps19 rfl (by simp) (by simp [fps]) (by simp [fps]) fun a S => ?_
 unfold tumbref2_SwimmerSums at h
 replace S := S.nk [] [(0, .agg #[u1.val, iV Aa.Relay, iV Aa.Most]), (1, O)] [] rfl (subR rfl)
 refine Fs (Fg (l_box S (S.tm rfl) (cs := [u1.val, iV Aa.Relay, iV Aa.Most]) rfl rfl ?_));clear S;intro a w1 b1 hz1 hk1 S
 refine l_box S (S.tm rfl) (cs := [O]) (SlcLen.cells (slc_len Ad)) rfl ?_;clear S;intro a w2 b2 hz2 hk2 S
 refine lv S (Ra rfl) rfl ?_;clear S;intro a S
 refine Ld (Tn (Fs (Fg (lv S (Ra rfl) rfl ?_))));clear S;intro a S
 replace S := S.nil 9 1
 refine Ld (Tn (Fs (Fs (Fg (lv S (rn_load Tryz.isAgg29 (S.tm rfl) (S.cell (i := 1) rfl rfl)) rfl ?_)))));clear S;intro a S
 refine lv S (rn_lenT sl_29 (S.tm rfl) (slc_len Ad)) rfl ?_;clear S;intro a S
 refine lv S (Rm rfl) rfl ?_;clear S;intro a S
 refine Ld (Tn ?_)
 replace S := S.nk [.own (.slice none 0 0) 9 1 ([] : List ByteArray).length (([] : List ByteArray).flatMap eStr), .blk b2 [O] 29, .blk b1 [u1.val, iV Aa.Relay, iV Aa.Most] 27] [(2, .pointer (some ⟨b1, 0, none⟩)), (3, .pointer (some ⟨b2, 0, none⟩)), (5, (.slice none 0 0)), (8, O), (9, iV (Ab.length : Int)), (10, iV 0)] [true, true, true] rfl (subR rfl)
 obtain ⟨j1, hj1, h⟩ := joinE h
 refine f_join (fun a w' => ∃ x1 : List ByteArray, ∃ v1 : Value, j1 x1 = some r ∧ Sx w [] nov [.own v1 9 1 x1.length (x1.flatMap eStr), .blk b2 [O] 29, .blk b1 [u1.val, iV Aa.Relay, iV Aa.Most] 27] [(2, .pointer (some ⟨b1, 0, none⟩)), (3, .pointer (some ⟨b2, 0, none⟩)), (5, v1)] 30 a w') ?_ ?_
 ·refine wp_block (f_loop (fun (ys1 : List GScored) a w' => ∃ i1 : Nat, ∃ x1 : List ByteArray, ∃ v1 : Value, (∃ dn, Ab = dn ++ ys1 ∧ dn.length = i1) ∧ tumbref2_SwimmerSums_l1 j1 ys1 i1 x1 = some r ∧ Sx w [] nov [.own v1 9 1 x1.length (x1.flatMap eStr), .blk b2 [O] 29, .blk b1 [u1.val, iV Aa.Relay, iV Aa.Most] 27] [(2, .pointer (some ⟨b1, 0, none⟩)), (3, .pointer (some ⟨b2, 0, none⟩)), (5, v1), (8, O), (9, iV (Ab.length : Int)), (10, iV (i1 : Int))] 30 a w') List.length Ab ⟨0, ([] : List ByteArray), (.slice none 0 0), ⟨[], rfl, rfl⟩, h, S.nf [true, true, true] rfl (subR rfl)⟩ ?_)
  clear S h;rintro ys1 a w3 ⟨i1, x1, v1, ⟨dn, hd1, hi1⟩, h, S⟩
  cases ys1 with
  | nil =>
   rw [tumbref2_SwimmerSums_l1.eq_1] at h
   refine Fs (Fg (lv S (rn_lss (S.tm rfl) (S.tm rfl)) rfl ?_));clear S;intro a S
   refine Ld ?_
   replace S := S.nk [.own v1 9 1 x1.length (x1.flatMap eStr), .blk b2 [O] 29, .blk b1 [u1.val, iV Aa.Relay, iV Aa.Most] 27] [(2, .pointer (some ⟨b1, 0, none⟩)), (3, .pointer (some ⟨b2, 0, none⟩)), (5, v1), (8, O), (9, iV (Ab.length : Int)), (10, iV (i1 : Int)), (11, bV (decide ((i1 : Int) < (Ab.length : Int))))] [true, true, true] rfl (subR rfl)
   refine Tn (Fs (wp_cond_false ((S.tm rfl).trans (congrArg Value.bool (rng_nil hd1 hi1))) (wp_exit (then_x (then_x (x_same ?_))))))
   refine Tn ?_
   exact ⟨x1, v1, h, S.nf [true, true, true] rfl (subR rfl)⟩
  | cons y1 ys1 =>
   rw [tumbref2_SwimmerSums_l1.eq_2] at h
   refine Fs (Fg (lv S (rn_lss (S.tm rfl) (S.tm rfl)) rfl ?_));clear S;intro a S
   refine Ld ?_
   replace S := S.nk [.own v1 9 1 x1.length (x1.flatMap eStr), .blk b2 [O] 29, .blk b1 [u1.val, iV Aa.Relay, iV Aa.Most] 27] [(2, .pointer (some ⟨b1, 0, none⟩)), (3, .pointer (some ⟨b2, 0, none⟩)), (5, v1), (8, O), (9, iV (Ab.length : Int)), (10, iV (i1 : Int)), (11, bV (decide ((i1 : Int) < (Ab.length : Int))))] [true, true, true] rfl (subR rfl)
   refine Tn (Fs (wp_cond_true ((S.tm rfl).trans (congrArg Value.bool (rng_cons hd1 hi1))) (wp_skip (Tn (Fs ?_)))))
   obtain ⟨j2, hj2, h⟩ := joinE h
   refine f_join (fun a w' => ∃ x2 : List ByteArray, ∃ v2 : Value, j2 x2 = some r ∧ Sx w [] nov [.own v2 9 1 x2.length (x2.flatMap eStr), .blk b2 [O] 29, .blk b1 [u1.val, iV Aa.Relay, iV Aa.Most] 27] [(2, .pointer (some ⟨b1, 0, none⟩)), (3, .pointer (some ⟨b2, 0, none⟩)), (5, v2), (8, O), (9, iV (Ab.length : Int)), (10, iV (i1 : Int))] 30 a w') ?_ ?_
   ·refine wp_block (Fs (Fg ?_))
    obtain ⟨b3, o1, hm1, hr1⟩ := rn_indexT (a := a) (x := .tmp 8) (y := .tmp 10) (ty := 0) sl_29 Ad (get_mid hd1 hi1) rfl (S.tm rfl) (S.tm rfl)
    refine lv S (hr1 _) rfl ?_;clear S;intro a S
    clear hr1
    refine lv S (rn_ldA Tryz.isAgg54 Tryz.sizeOf54 (off := o1) (o := 0) (part := (GScored.enc y1)) rfl rfl (S.tm rfl) (hm1.at S.emb0)) rfl ?_;clear S;intro a S
    refine l_alloc S Tryz.zeroValue54 (cs := [sV k_empty, sV k_empty, sV k_empty, iV 0, bV false]) rfl rfl ?_;clear S;intro a w6 b4 hz3 hk3 S
    refine l_store S (S.tm rfl) (S.tm rfl) (i := 0) (off := 0) rfl Tryz.sizeOf54 (vs := (GScored.enc y1)) rfl rfl rfl rfl ?_;clear S;intro w7 hk4 S
    refine Ld (Tn (Fs (Fg (lv S (rn_ldA Tryz.isAgg54 Tryz.sizeOf54 (off := 0) (o := 0) (part := (GScored.enc y1)) rfl rfl (S.tm rfl) (S.cellsAt (i := 0) rfl)) rfl ?_))));clear S;intro a S
    refine l_enter S (fun _ => run_call (vs := [.agg (GScored.enc y1).toArray]) ⟨(S.tm rfl), trivial⟩ Tryz.call43) (tumbref2_counted_ok _ y1 _ rfl) rfl ?_;clear S;intro v3 a w8 hv1 hk5 hn1 S
    subst hv1
    refine lv S (Rm (S.tm rfl)) rfl ?_;clear S;intro a S
    refine f_cutm 4 (fun a w' => Keep [] w8 w' ∧ Sx w [] nov [.blk b4 (GScored.enc y1) 54, .own v1 9 1 x1.length (x1.flatMap eStr), .blk b2 [O] 29, .blk b1 [u1.val, iV Aa.Relay, iV Aa.Most] 27] [(2, .pointer (some ⟨b1, 0, none⟩)), (3, .pointer (some ⟨b2, 0, none⟩)), (5, v1), (7, .pointer (some ⟨b4, 0, none⟩)), (8, O), (9, iV (Ab.length : Int)), (10, iV (i1 : Int)), (20, bV ((tumbref2_counted y1) && (!y1.Relay)))] 30 a w') ?_ ?_
    ·rcases Bool.eq_false_or_eq_true (tumbref2_counted y1) with hb1 | hb1
     ·refine l_want S rfl rfl rfl hb1 (lv S (rn_fld fa_54_4 (S.tm rfl)) rfl ?_);clear S;intro a S
      refine l_want S rfl rfl rfl hb1 (lv S (rn_load Tryz.isAgg4 (S.tm rfl) (S.cell (i := 0) rfl rfl)) rfl ?_);clear S;intro a S
      refine l_want S rfl rfl rfl hb1 (lv S (rn_not (S.tm rfl)) rfl ?_);clear S;intro a S
      refine lv S (rn_and_t hb1 (S.tm rfl) (S.tm rfl)) rfl ?_;clear S;intro a S
      refine Ld (Tn ?_)
      exact ⟨Keep.refl _ _, S.nf [true, true, true, true] rfl (subR rfl)⟩
     ·iterate 3 (refine l_skip S rfl rfl rfl (neq_f hb1) rfl ?_ rfl;clear S;intro a S)
      refine lv S (rn_and_f (!y1.Relay) hb1 (S.tm rfl) rfl) rfl ?_;clear S;intro a S
      refine Ld (Tn ?_)
      exact ⟨Keep.refl _ _, S.nf [true, true, true, true] rfl (subR rfl)⟩
    clear S;rintro a w9 ⟨hk6, S⟩
    refine Ld (Tn ?_)
    obtain ⟨j3, hj3, h⟩ := joinE h
    refine f_join (fun a w' => ∃ x3 : List ByteArray, ∃ v4 : Value, j3 x3 = some r ∧ Sx w [] nov [.blk b4 (GScored.enc y1) 54, .own v4 9 1 x3.length (x3.flatMap eStr), .blk b2 [O] 29, .blk b1 [u1.val, iV Aa.Relay, iV Aa.Most] 27] [(2, .pointer (some ⟨b1, 0, none⟩)), (3, .pointer (some ⟨b2, 0, none⟩)), (5, v4), (8, O), (9, iV (Ab.length : Int)), (10, iV (i1 : Int))] 30 a w') ?_ ?_
    ·refine f_cond (S.tm rfl) (fun hb2 => ?_) (fun hb2 => ?_)
     ·replace h := iteT h hb2
      refine Fg (lv S (Rm (S.tm rfl)) rfl ?_);clear S;intro a S
      refine lv S (rn_fld fa_54_1 (S.tm rfl)) rfl ?_;clear S;intro a S
      refine lv S (rn_load Tryz.isAgg9 (S.tm rfl) (S.cell (i := 0) rfl rfl)) rfl ?_;clear S;intro a S
      refine l_buildSlice S Tryz.underlying81 Tryz.sizeOf9 Tryz.zeroValue9 rfl rfl (pv := [(0, sV y1.Who)]) ⟨rfl, (S.tm rfl), trivial⟩ (cs := [sV y1.Who]) (by kernel_rfl) rfl ?_;clear S;intro a w11 b5 hz4 hk7 S
      obtain ⟨hc1, h⟩ := chkE h
      refine l_appendT sl_81 enc_str S (S.tm rfl) (i := 2) rfl (S.tm rfl) (j := 0) rfl (ys := [y1.Who]) rfl rfl rfl rfl (by have := room_lt hc1;omega) rfl ?_;clear S;intro v5 a w12 hk8 S
      refine lv S (Ra (S.tm rfl)) rfl ?_;clear S;intro a S
      refine Ld (Tn ?_)
      exact ⟨(x1 ++ [y1.Who]), v5, h, S.nf [false, true, true, true, true] rfl (subR rfl)⟩
     ·replace h := iteF h hb2
      refine wp_skip (Tn ?_)
      exact ⟨x1, v1, h, S.nf [true, true, true, true] rfl (subR rfl)⟩
    clear S h;rintro a w10 ⟨x3, v4, h, S⟩;rw [hj3] at h;clear hj3 j3
    refine blk_n (Tn ?_)
    exact ⟨x3, v4, h, S.nf [false, true, true, true] rfl (subR rfl)⟩
   clear S h;rintro a w5 ⟨x2, v2, h, S⟩;rw [hj2] at h;clear hj2 j2
   refine Tn (Fg (lv S (rn_add (S.tm rfl) rfl) rfl ?_));clear S;intro a S
   refine lv S (Rm (S.tm rfl)) rfl ?_;clear S;intro a S
   refine Ld (Tn ?_)
   exact ⟨ys1, ⟨i1 + 1, x2, v2, ⟨_, (hd1).trans (List.append_cons _ _ _), by simp [hi1]⟩, h, S.nf [true, true, true] rfl ⟨rfl, rfl, rfl, rfl, rfl, (congrArg (fun z => some (Value.int .i64 z)) (rng_next hd1 hi1 (slc_max Ad))), trivial⟩⟩, Nat.lt_succ_self _⟩
 clear S h;rintro a w4 ⟨x1, v1, h, S⟩;rw [hj1] at h;clear hj1 j1
 refine Tn (Fs (Fg (lv S (Rm (S.tm rfl)) rfl ?_)));clear S;intro a S
 refine lv S (rn_makeFunc (us := #[]) (xs := [].toArray) (ys := [.tmp 2, .tmp 3].toArray) (by simp) (evA ⟨(S.tm rfl), (S.tm rfl), trivial⟩ (vs := [.pointer (some ⟨b1, 0, none⟩), .pointer (some ⟨b2, 0, none⟩)]))) rfl ?_;clear S;intro a S
 obtain ⟨r1, hr2, h⟩ := bindE h
 have hz5 := S.keep.size
 refine l_enterO 0 S rfl (fun _ => .own (.slice none 0 0) 9 1 ([] : List ByteArray).length (([] : List ByteArray).flatMap eStr)) (fun _ => run_call (vs := [v1, .func (.func 49) #[] #[.pointer (some ⟨b1, 0, none⟩), .pointer (some ⟨b2, 0, none⟩)]]) ⟨(S.tm rfl), (S.tm rfl), trivial⟩ Tryz.call45) (tumbref2_sums_tumbref2_SwimmerSums_c1_ok _ v1 x1 (S.holds _ (List.mem_of_getElem? (i := 0) rfl)) b1 u1.val Aa.Points (hs1.mono (S.le_arg (fp_sub (i := 0) (e := .own v1 9 1 x1.length (x1.flatMap eStr)) rfl))) Aa.Relay Aa.Most (S.blk_view (i := 2) rfl ((ne_fp (i := 0) (j := 2) (e := .own v1 9 1 x1.length (x1.flatMap eStr)) (e' := .blk b1 [u1.val, iV Aa.Relay, iV Aa.Most] 27) S rfl rfl rfl) _ rfl)) b2 O Ab (Ad.mono (S.le_arg (fp_sub (i := 0) (e := .own v1 9 1 x1.length (x1.flatMap eStr)) rfl))) (S.blk_view (i := 1) rfl ((ne_fp (i := 0) (j := 1) (e := .own v1 9 1 x1.length (x1.flatMap eStr)) (e' := .blk b2 [O] 29) S rfl rfl rfl) _ rfl)) _ hr2) rfl (fun _ _ _ _ => ⟨own_nil, fun _ hc => by cases hc⟩) ?_;clear S;intro v6 a w13 hv2 hk9 hn2 S
 replace hn2 := hn2.setNil (T := 9) (k := 1) 0
 obtain ⟨φ1, hl1, hm2, S⟩ := S.see' hn2 hz5
 have hs2 := hv2.mono hm2
 refine lv S (Ra (S.tm rfl)) rfl ?_;clear S;intro a S
 refine Ld (Tn (wp_ret ?_))
 obtain rfl := Option.some.inj h
 exact f_ret S Tryz.results19 rfl ((hs2).mono S.le_newer)
theorem tumbref2_AllPoints_c1_ok (w : World) (Dg : GScored) (r : Bool) (h : tumbref2_AllPoints_c1 Dg = r) :
    Calls Tryz.prog 51 [.agg (GScored.enc Dg).toArray].toArray w (Ret w [] fun _ v _ => v = bV r) := by
 refine f_enter [] [] Tryz.func51 rfl Tryz.ntmps51 rfl (by simp) (by simp [fps]) (by simp [fps]) fun a S => ?_
 unfold tumbref2_AllPoints_c1 at h
 replace S := S.nk [] [(0, .agg (GScored.enc Dg).toArray)] [] rfl ⟨rfl, trivial⟩
 refine Fs (Fg (l_box S (S.tm rfl) (cs := (GScored.enc Dg)) rfl rfl ?_));clear S;intro a w1 b1 hz1 hk1 S
 refine lv S (Ra rfl) rfl ?_;clear S;intro a S
 refine Ld (Tn (Fs (Fg (lv S (Ra rfl) rfl ?_))));clear S;intro a S
 refine Ld (Tn (wp_ret ?_))
 subst h
 exact f_ret S Tryz.results51 rfl rfl
theorem tumbref2_sumOf_tumbref2_AllPoints_c1_ok (w : World) (Aa : GTable) (Ar : R27) (At : rel_27 (view w []) Aa Ar) (O : Value) (Ab : List GScored) (Ad : Slc (view w []) 5 O (Ab.map GScored.enc)) (r : GFraction) (h : tumbref2_sumOf_tumbref2_AllPoints_c1 Aa Ab = some r) :
    Calls Tryz.prog 47 [.agg (R27.enc Ar).toArray, O, .func (.func 51) #[] #[]].toArray w (Ret w [] fun _ v _ => v = .agg (GFraction.enc r).toArray) := by
 obtain ⟨u1, rfl, hs1⟩ := At
 refine f_enter [] [] Tryz.func47 rfl Tryz.ntmps47 rfl (by simp) (by simp [fps]) (by simp [fps]) fun a S => ?_
 unfold tumbref2_sumOf_tumbref2_AllPoints_c1 at h
 replace S := S.nk [] [(0, .agg #[u1.val, iV Aa.Relay, iV Aa.Most]), (1, O), (2, .func (.func 51) #[] #[])] [] rfl (subR rfl)
 refine Fs (Fg (l_box S (S.tm rfl) (cs := [u1.val, iV Aa.Relay, iV Aa.Most]) rfl rfl ?_));clear S;intro a w1 b1 hz1 hk1 S
 refine l_alloc S Tryz.zeroValue36 (cs := [iV 0, iV 0]) rfl rfl ?_;clear S;intro a w2 b2 hz2 hk2 S
 refine Ld (Tn (Fs (Fg (lv S (rn_bld bt_36 (pv := [(1, iV 1)]) ⟨rfl, rfl, trivial⟩ (cs := [iV 0, iV 1]) (by kernel_rfl)) rfl ?_))));clear S;intro a S
 refine l_alloc S Tryz.zeroValue36 (cs := [iV 0, iV 0]) rfl rfl ?_;clear S;intro a w3 b3 hz3 hk3 S
 refine l_store S (S.tm rfl) (S.tm rfl) (i := 0) (off := 0) rfl Tryz.sizeOf36 (vs := [iV 0, iV 1]) rfl rfl rfl rfl ?_;clear S;intro w4 hk4 S
 refine Ld (Tn (Fs (Fs (Fg (lv S (Rm (S.tm rfl)) rfl ?_)))));clear S;intro a S
 refine lv S (rn_lenT sl_29 (S.tm rfl) (slc_len Ad)) rfl ?_;clear S;intro a S
 refine lv S (Rm rfl) rfl ?_;clear S;intro a S
 refine Ld (Tn ?_)
 replace S := S.nk [.blk b3 [iV 0, iV 1] 36, .blk b2 [iV 0, iV 0] 36, .blk b1 [u1.val, iV Aa.Relay, iV Aa.Most] 27] [(1, O), (2, .func (.func 51) #[] #[]), (3, .pointer (some ⟨b1, 0, none⟩)), (6, .pointer (some ⟨b2, 0, none⟩)), (7, .pointer (some ⟨b3, 0, none⟩)), (11, O), (12, iV (Ab.length : Int)), (13, iV 0)] [true, true, true] rfl (subR rfl)
 obtain ⟨j1, hj1, h⟩ := joinE h
 refine f_join (fun a w' => ∃ x1 : Int, ∃ x2 : Int, j1 x1 x2 = some r ∧ Sx w [] nov [.blk b3 [iV x1, iV x2] 36, .blk b2 [iV 0, iV 0] 36, .blk b1 [u1.val, iV Aa.Relay, iV Aa.Most] 27] [(6, .pointer (some ⟨b2, 0, none⟩)), (7, .pointer (some ⟨b3, 0, none⟩))] 32 a w') ?_ ?_
 ·refine wp_block (f_loop (fun (ys1 : List GScored) a w' => ∃ i1 : Nat, ∃ x1 : Int, ∃ x2 : Int, (∃ dn, Ab = dn ++ ys1 ∧ dn.length = i1) ∧ tumbref2_sumOf_tumbref2_AllPoints_c1_l1 Aa Ab j1 ys1 i1 x1 x2 = some r ∧ Sx w [] nov [.blk b3 [iV x1, iV x2] 36, .blk b2 [iV 0, iV 0] 36, .blk b1 [u1.val, iV Aa.Relay, iV Aa.Most] 27] [(1, O), (2, .func (.func 51) #[] #[]), (3, .pointer (some ⟨b1, 0, none⟩)), (6, .pointer (some ⟨b2, 0, none⟩)), (7, .pointer (some ⟨b3, 0, none⟩)), (11, O), (12, iV (Ab.length : Int)), (13, iV (i1 : Int))] 32 a w') List.length Ab ⟨0, 0, 1, ⟨[], rfl, rfl⟩, h, S.nf [true, true, true] rfl (subR rfl)⟩ ?_)
  clear S h;rintro ys1 a w5 ⟨i1, x1, x2, ⟨dn, hd1, hi1⟩, h, S⟩
  cases ys1 with
  | nil =>
   rw [tumbref2_sumOf_tumbref2_AllPoints_c1_l1.eq_1] at h
   refine Fs (Fg (lv S (rn_lss (S.tm rfl) (S.tm rfl)) rfl ?_));clear S;intro a S
   refine Ld ?_
   replace S := S.nk [.blk b3 [iV x1, iV x2] 36, .blk b2 [iV 0, iV 0] 36, .blk b1 [u1.val, iV Aa.Relay, iV Aa.Most] 27] [(1, O), (2, .func (.func 51) #[] #[]), (3, .pointer (some ⟨b1, 0, none⟩)), (6, .pointer (some ⟨b2, 0, none⟩)), (7, .pointer (some ⟨b3, 0, none⟩)), (11, O), (12, iV (Ab.length : Int)), (13, iV (i1 : Int)), (14, bV (decide ((i1 : Int) < (Ab.length : Int))))] [true, true, true] rfl (subR rfl)
   refine Tn (Fs (wp_cond_false ((S.tm rfl).trans (congrArg Value.bool (rng_nil hd1 hi1))) (wp_exit (then_x (then_x (x_same ?_))))))
   refine Tn ?_
   exact ⟨x1, x2, h, S.nf [true, true, true] rfl (subR rfl)⟩
  | cons y1 ys1 =>
   rw [tumbref2_sumOf_tumbref2_AllPoints_c1_l1.eq_2] at h
   refine Fs (Fg (lv S (rn_lss (S.tm rfl) (S.tm rfl)) rfl ?_));clear S;intro a S
   refine Ld ?_
   replace S := S.nk [.blk b3 [iV x1, iV x2] 36, .blk b2 [iV 0, iV 0] 36, .blk b1 [u1.val, iV Aa.Relay, iV Aa.Most] 27] [(1, O), (2, .func (.func 51) #[] #[]), (3, .pointer (some ⟨b1, 0, none⟩)), (6, .pointer (some ⟨b2, 0, none⟩)), (7, .pointer (some ⟨b3, 0, none⟩)), (11, O), (12, iV (Ab.length : Int)), (13, iV (i1 : Int)), (14, bV (decide ((i1 : Int) < (Ab.length : Int))))] [true, true, true] rfl (subR rfl)
   refine Tn (Fs (wp_cond_true ((S.tm rfl).trans (congrArg Value.bool (rng_cons hd1 hi1))) (wp_skip (Tn (Fs ?_)))))
   obtain ⟨j2, hj2, h⟩ := joinE h
   refine f_join (fun a w' => ∃ x3 : Int, ∃ x4 : Int, j2 x3 x4 = some r ∧ Sx w [] nov [.blk b3 [iV x3, iV x4] 36, .blk b2 [iV 0, iV 0] 36, .blk b1 [u1.val, iV Aa.Relay, iV Aa.Most] 27] [(1, O), (2, .func (.func 51) #[] #[]), (3, .pointer (some ⟨b1, 0, none⟩)), (6, .pointer (some ⟨b2, 0, none⟩)), (7, .pointer (some ⟨b3, 0, none⟩)), (11, O), (12, iV (Ab.length : Int)), (13, iV (i1 : Int))] 32 a w') ?_ ?_
   ·refine wp_block (Fs (Fg ?_))
    obtain ⟨b4, o1, hm1, hr1⟩ := rn_indexT (a := a) (x := .tmp 11) (y := .tmp 13) (ty := 0) sl_29 Ad (get_mid hd1 hi1) rfl (S.tm rfl) (S.tm rfl)
    refine lv S (hr1 _) rfl ?_;clear S;intro a S
    clear hr1
    refine lv S (rn_ldA Tryz.isAgg54 Tryz.sizeOf54 (off := o1) (o := 0) (part := (GScored.enc y1)) rfl rfl (S.tm rfl) (hm1.at S.emb0)) rfl ?_;clear S;intro a S
    refine l_alloc S Tryz.zeroValue54 (cs := [sV k_empty, sV k_empty, sV k_empty, iV 0, bV false]) rfl rfl ?_;clear S;intro a w8 b5 hz4 hk5 S
    refine l_store S (S.tm rfl) (S.tm rfl) (i := 0) (off := 0) rfl Tryz.sizeOf54 (vs := (GScored.enc y1)) rfl rfl rfl rfl ?_;clear S;intro w9 hk6 S
    refine Ld (Tn (Fs (Fg (lv S (rn_ldA Tryz.isAgg54 Tryz.sizeOf54 (off := 0) (o := 0) (part := (GScored.enc y1)) rfl rfl (S.tm rfl) (S.cellsAt (i := 0) rfl)) rfl ?_))));clear S;intro a S
    refine l_enter S (fun _ => run_call (vs := [.agg (GScored.enc y1).toArray]) ⟨(S.tm rfl), trivial⟩ Tryz.call43) (tumbref2_counted_ok _ y1 _ rfl) rfl ?_;clear S;intro v1 a w10 hv1 hk7 hn1 S
    subst hv1
    refine lv S (Rm (S.tm rfl)) rfl ?_;clear S;intro a S
    refine f_cutm 4 (fun a w' => Keep [] w10 w' ∧ Sx w [] nov [.blk b5 (GScored.enc y1) 54, .blk b3 [iV x1, iV x2] 36, .blk b2 [iV 0, iV 0] 36, .blk b1 [u1.val, iV Aa.Relay, iV Aa.Most] 27] [(1, O), (2, .func (.func 51) #[] #[]), (3, .pointer (some ⟨b1, 0, none⟩)), (6, .pointer (some ⟨b2, 0, none⟩)), (7, .pointer (some ⟨b3, 0, none⟩)), (9, .pointer (some ⟨b5, 0, none⟩)), (11, O), (12, iV (Ab.length : Int)), (13, iV (i1 : Int)), (23, bV ((tumbref2_counted y1) && (tumbref2_AllPoints_c1 y1)))] 32 a w') ?_ ?_
    ·rcases Bool.eq_false_or_eq_true (tumbref2_counted y1) with hb1 | hb1
     ·refine l_want S rfl rfl rfl hb1 (lv S (Rm (S.tm rfl)) rfl ?_);clear S;intro a S
      refine l_want S rfl rfl rfl hb1 (lv S (rn_ldA Tryz.isAgg54 Tryz.sizeOf54 (off := 0) (o := 0) (part := (GScored.enc y1)) rfl rfl (S.tm rfl) (S.cellsAt (i := 0) rfl)) rfl ?_);clear S;intro a S
      refine l_want S rfl rfl rfl hb1 (l_enter S (fun _ => run_callV (cap := []) (S.tm rfl) (vs := [.agg (GScored.enc y1).toArray]) ⟨(S.tm rfl), trivial⟩ Tryz.call51) (tumbref2_AllPoints_c1_ok _ y1 _ rfl) rfl ?_);clear S;intro v2 a w12 hv2 hk8 hn2 S
      subst hv2
      refine lv S (rn_and_t hb1 (S.tm rfl) (S.tm rfl)) rfl ?_;clear S;intro a S
      refine Ld (Tn ?_)
      exact ⟨hk8, S.nf [true, true, true, true] rfl (subR rfl)⟩
     ·iterate 3 (refine l_skip S rfl rfl rfl (neq_f hb1) rfl ?_ rfl;clear S;intro a S)
      refine lv S (rn_and_f (tumbref2_AllPoints_c1 y1) hb1 (S.tm rfl) rfl) rfl ?_;clear S;intro a S
      refine Ld (Tn ?_)
      exact ⟨Keep.refl _ _, S.nf [true, true, true, true] rfl (subR rfl)⟩
    clear S;rintro a w11 ⟨hk9, S⟩
    refine Ld (Tn ?_)
    obtain ⟨j3, hj3, h⟩ := joinE h
    refine f_join (fun a w' => ∃ x5 : Int, ∃ x6 : Int, j3 x5 x6 = some r ∧ Sx w [] nov [.blk b3 [iV x5, iV x6] 36, .blk b2 [iV 0, iV 0] 36, .blk b1 [u1.val, iV Aa.Relay, iV Aa.Most] 27] [(1, O), (2, .func (.func 51) #[] #[]), (3, .pointer (some ⟨b1, 0, none⟩)), (6, .pointer (some ⟨b2, 0, none⟩)), (7, .pointer (some ⟨b3, 0, none⟩)), (11, O), (12, iV (Ab.length : Int)), (13, iV (i1 : Int))] 32 a w') ?_ ?_
    ·refine f_cond (S.tm rfl) (fun hb2 => ?_) (fun hb2 => ?_)
     ·replace h := iteT h hb2
      obtain ⟨r1, hr2, h⟩ := bindE h
      obtain ⟨r2, hr3, h⟩ := bindE h
      refine d_region [6] ([]) Tryz.mixed S rfl (by kernel_rfl) ?_;clear S;intro w17 hk13 hsel S
      refine d_quiet 0 S hsel rfl (by kernel_rfl) (by kernel_rfl) (by kernel_rfl) (by kernel_rfl) rfl (fun _ hw => (rn_ldA Tryz.isAgg36 Tryz.sizeOf36 (off := 0) (o := 0) (part := [iV x1, iV x2]) rfl rfl (S.tm rfl) ((S.blk_mem (i := 1) (cells := [iV x1, iV x2]) (b := b3) (T := 36) rfl (ne_nil (e' := .blk b3 [iV x1, iV x2] 36))).kept hw))) ?_;clear S;intro a S
      refine d_quiet 1 S hsel rfl (by kernel_rfl) (by kernel_rfl) (by kernel_rfl) (by kernel_rfl) rfl (fun _ hw => (rn_ldA Tryz.isAgg27 Tryz.sizeOf27 (off := 0) (o := 0) (part := [u1.val, iV Aa.Relay, iV Aa.Most]) rfl rfl (S.tm rfl) ((S.blk_mem (i := 3) (cells := [u1.val, iV Aa.Relay, iV Aa.Most]) (b := b1) (T := 27) rfl (ne_nil (e' := .blk b1 [u1.val, iV Aa.Relay, iV Aa.Most] 27))).kept hw))) ?_;clear S;intro a S
      refine d_pure 2 S hsel rfl rfl (by kernel_rfl) (by kernel_rfl) rfl (fun _ => (Rm (S.tm rfl))) ?_;clear S;intro a S
      refine d_quiet 3 S hsel rfl (by kernel_rfl) (by kernel_rfl) (by kernel_rfl) (by kernel_rfl) rfl (fun _ hw => (rn_ldA Tryz.isAgg54 Tryz.sizeOf54 (off := 0) (o := 0) (part := (GScored.enc y1)) rfl rfl (S.tm rfl) ((S.blk_mem (i := 0) (cells := (GScored.enc y1)) (b := b5) (T := 54) rfl (ne_nil (e' := .blk b5 (GScored.enc y1) 54))).kept hw))) ?_;clear S;intro a S
      refine d_loud1 4 (by kernel_rfl) rfl (l_enter S (fun _ => run_call (vs := [.agg (R27.enc (R27.mk u1 Aa.Relay Aa.Most)).toArray, O, .agg (GScored.enc y1).toArray]) ⟨(S.tm rfl), (S.tm rfl), (S.tm rfl), trivial⟩ Tryz.call44) (tumbref2_shareOf_ok _ Aa (R27.mk u1 Aa.Relay Aa.Most) ⟨u1, rfl, (hs1.mono (S.le_arg nil_sub))⟩ O Ab (Ad.mono (S.le_arg nil_sub)) y1 _ hr2) rfl ?_);clear S;intro v5 a w18 hv5 hk14 hn5 S
      subst hv5
      refine Ld (d_next hk14 (d_loud1 5 (by kernel_rfl) rfl (l_enter S (fun _ => run_call (vs := [.agg (GFraction.enc (GFraction.mk x1 x2)).toArray, .agg (GFraction.enc r1).toArray]) ⟨(S.tm rfl), (S.tm rfl), trivial⟩ Tryz.call77) (tumbref2_plus_ok _ (GFraction.mk x1 x2) r1 _ hr3) rfl ?_)));clear S;intro v6 a w19 hv6 hk15 hn6 S
      subst hv6
      refine Ld (d_next hk15 (d_loudB 6 ([b3]) rfl (by kernel_rfl) rfl (l_store S (S.tm rfl) (S.tm rfl) (i := 1) (off := 0) rfl Tryz.sizeOf36 (vs := (GFraction.enc r2)) rfl rfl rfl rfl ?_)));clear S;intro w20 hk16 S
      refine Ld (d_nextB (d_end (by kernel_rfl) ?_))
      clear hsel
      replace S := S.nk [.blk b3 (GFraction.enc r2) 36, .blk b2 [iV 0, iV 0] 36, .blk b1 [u1.val, iV Aa.Relay, iV Aa.Most] 27] [(1, O), (2, .func (.func 51) #[] #[]), (3, .pointer (some ⟨b1, 0, none⟩)), (6, .pointer (some ⟨b2, 0, none⟩)), (7, .pointer (some ⟨b3, 0, none⟩)), (11, O), (12, iV (Ab.length : Int)), (13, iV (i1 : Int))] [false, true, true, true] rfl (subR rfl)
      refine Tn ?_
      exact ⟨r2.Num, r2.Den, h, S.nf [true, true, true] rfl (subR rfl)⟩
     ·replace h := iteF h hb2
      refine wp_skip (Tn ?_)
      exact ⟨x1, x2, h, S.nf [false, true, true, true] rfl (subR rfl)⟩
    clear S h;rintro a w13 ⟨x5, x6, h, S⟩;rw [hj3] at h;clear hj3 j3
    refine blk_n (Tn ?_)
    exact ⟨x5, x6, h, S.nf [true, true, true] rfl (subR rfl)⟩
   clear S h;rintro a w7 ⟨x3, x4, h, S⟩;rw [hj2] at h;clear hj2 j2
   refine Tn (Fg (lv S (rn_add (S.tm rfl) rfl) rfl ?_));clear S;intro a S
   refine lv S (Rm (S.tm rfl)) rfl ?_;clear S;intro a S
   refine Ld (Tn ?_)
   exact ⟨ys1, ⟨i1 + 1, x3, x4, ⟨_, (hd1).trans (List.append_cons _ _ _), by simp [hi1]⟩, h, S.nf [true, true, true] rfl ⟨rfl, rfl, rfl, rfl, rfl, rfl, rfl, (congrArg (fun z => some (Value.int .i64 z)) (rng_next hd1 hi1 (slc_max Ad))), trivial⟩⟩, Nat.lt_succ_self _⟩
 clear S h;rintro a w6 ⟨x1, x2, h, S⟩;rw [hj1] at h;clear hj1 j1
 refine Tn (Fs (Fg (lv S (rn_ldA Tryz.isAgg36 Tryz.sizeOf36 (off := 0) (o := 0) (part := [iV x1, iV x2]) rfl rfl (S.tm rfl) (S.cellsAt (i := 0) rfl)) rfl ?_)));clear S;intro a S
 refine l_store S (S.tm rfl) (S.tm rfl) (i := 1) (off := 0) rfl Tryz.sizeOf36 (vs := [iV x1, iV x2]) rfl rfl rfl rfl ?_;clear S;intro w21 hk17 S
 refine Ld (Tn (wp_ret ?_))
 obtain rfl := Option.some.inj h
 exact f_retG S (rs := [.cell 6 36]) (vs := [.agg #[iV x1, iV x2]]) Tryz.results47 ⟨(res_cell (off := 0) S rfl Tryz.isAgg36 Tryz.sizeOf36 rfl (S.cellsAt (i := 1) rfl)), trivial⟩ rfl rfl
theorem tumbref2_AllPoints_ok (w : World) (Aa : GTable) (Ar : R27) (At : rel_27 (view w []) Aa Ar) (O : Value) (Ab : List GScored) (Ad : Slc (view w []) 5 O (Ab.map GScored.enc)) (r : GFraction) (h : tumbref2_AllPoints Aa Ab = some r) :
    Calls Tryz.prog 20 [.agg (R27.enc Ar).toArray, O].toArray w (Ret w [] fun _ v _ => v = .agg (GFraction.enc r).toArray) := by
 obtain ⟨u1, rfl, hs1⟩ := At
 refine f_enter [] [] Tryz.func20 rfl Tryz.ntmps20 rfl (by simp) (by simp [fps]) (by simp [fps]) fun a S => ?_
 unfold tumbref2_AllPoints at h
 replace S := S.nk [] [(0, .agg #[u1.val, iV Aa.Relay, iV Aa.Most]), (1, O)] [] rfl (subR rfl)
 refine Fs (Fg (l_box S (S.tm rfl) (cs := [u1.val, iV Aa.Relay, iV Aa.Most]) rfl rfl ?_));clear S;intro a w1 b1 hz1 hk1 S
 refine l_alloc S Tryz.zeroValue36 (cs := [iV 0, iV 0]) rfl rfl ?_;clear S;intro a w2 b2 hz2 hk2 S
 refine Ld (Tn (Fs (Fg (lv S (rn_ldA Tryz.isAgg27 Tryz.sizeOf27 (off := 0) (o := 0) (part := [u1.val, iV Aa.Relay, iV Aa.Most]) rfl rfl (S.tm rfl) (S.cellsAt (i := 1) rfl)) rfl ?_))));clear S;intro a S
 refine lv S (Rm (S.tm rfl)) rfl ?_;clear S;intro a S
 obtain ⟨r1, hr1, h⟩ := bindE h
 refine l_enter S (fun _ => run_call (vs := [.agg (R27.enc (R27.mk u1 Aa.Relay Aa.Most)).toArray, O, .func (.func 51) #[] #[]]) ⟨(S.tm rfl), (S.tm rfl), rfl, trivial⟩ Tryz.call47) (tumbref2_sumOf_tumbref2_AllPoints_c1_ok _ Aa (R27.mk u1 Aa.Relay Aa.Most) ⟨u1, rfl, (hs1.mono (S.le_arg nil_sub))⟩ O Ab (Ad.mono (S.le_arg nil_sub)) _ hr1) rfl ?_;clear S;intro v1 a w3 hv1 hk3 hn1 S
 subst hv1
 refine l_store S (S.tm rfl) (S.tm rfl) (i := 0) (off := 0) rfl Tryz.sizeOf36 (vs := (GFraction.enc r1)) rfl rfl rfl rfl ?_;clear S;intro w4 hk4 S
 refine Ld (Tn (wp_ret ?_))
 obtain rfl := Option.some.inj h
 exact f_retG S (rs := [.cell 4 36]) (vs := [.agg #[iV r1.Num, iV r1.Den]]) Tryz.results20 ⟨(res_cell (off := 0) S rfl Tryz.isAgg36 Tryz.sizeOf36 rfl (S.cellsAt (i := 0) rfl)), trivial⟩ rfl rfl
set_option maxHeartbeats 8000000 in
set_option maxRecDepth 20000 in
theorem tumblaw2_RanksBringPoints_ok (w : World) (O : Value) (Ab : List Int) (Ad : Slc (view w []) 1 O (Ab.map eInt)) (r : Bool) (h : tumblaw2_RanksBringPoints Ab = some r) :
    Calls Tryz.prog 3 [O].toArray w (Ret w [] fun _ v _ => v = bV r) := by
 refine f_enter [] [] Tryz.func3 rfl Tryz.ntmps3 rfl (by simp) (by simp [fps]) (by simp [fps]) fun a S => ?_
 unfold tumblaw2_RanksBringPoints at h
 replace S := S.nk [] [(0, O)] [] rfl ⟨rfl, trivial⟩
 refine Fs (Fg (lv S (Ra rfl) rfl ?_));clear S;intro a S
 refine Ld (Tn (Fs (Fg (lv S (Rm (S.tm rfl)) rfl ?_))));clear S;intro a S
 refine lv S (rn_bld bt_25 (pv := [(0, O)]) ⟨rfl, (S.tm rfl), trivial⟩ (cs := [O, iV 0]) (by obtain ⟨_, _, hv⟩ := (slc_len Ad);rw [hv];clear hv;kernel_rfl)) rfl ?_;clear S;intro a S
 refine l_box S (S.tm rfl) (cs := [O, iV 0]) rfl rfl ?_;clear S;intro a w1 b1 hz1 hk1 S
 refine lv S (Ra (S.tm rfl)) rfl ?_;clear S;intro a S
 refine Ld (Tn (Fs (Fg (lv S (Rm (S.tm rfl)) rfl ?_))));clear S;intro a S
 obtain ⟨r1, hr1, h⟩ := bindE h
 have hz2 := S.keep.size
 refine l_enter1 0 S (b := b1) rfl rfl (fun _ => .blk b1 [O, iV r1.2] 25) (fun _ => run_call (vs := [.pointer (some ⟨b1, 0, none⟩)]) ⟨(S.tm rfl), trivial⟩ Tryz.call4) (Stream_Table_ok _ b1 O Ab (Ad.mono (S.le_arg (fp_sub (i := 0) (e := .blk b1 [O, iV 0] 25) rfl))) 0 (S.holds _ (List.mem_of_getElem? (i := 0) rfl)) _ hr1) rfl (fun _ _ _ h => ⟨h.1, fun _ hc => by cases hc;rfl⟩) ?_;clear S;intro v1 a w2 hv1 hk2 hn1 S
 replace hv1 := hv1.2
 obtain ⟨q1, rfl, hq1⟩ := hv1
 obtain ⟨φ1, hl1, hm1, S⟩ := S.see' hn1 hz2
 obtain ⟨u2, rfl, hs1⟩ := rel_27_mono hm1 _ _ hq1
 refine lv S (Rm (S.tm rfl)) rfl ?_;clear S;intro a S
 obtain ⟨r2, hr2, h⟩ := bindE h
 have hz3 := S.keep.size
 refine l_enter1 0 S (b := b1) rfl rfl (fun _ => .blk b1 [O, iV r2.2] 25) (fun _ => run_call (vs := [.pointer (some ⟨b1, 0, none⟩)]) ⟨(S.tm rfl), trivial⟩ Tryz.call5) (Stream_Scored_ok _ b1 O Ab (Ad.mono (S.le_arg (fp_sub (i := 0) (e := .blk b1 [O, iV r1.2] 25) rfl))) r1.2 (S.holds _ (List.mem_of_getElem? (i := 0) rfl)) _ hr2) rfl (fun _ _ _ h => ⟨h.1, fun _ hc => by cases hc;rfl⟩) ?_;clear S;intro v2 a w3 hv2 hk3 hn2 S
 replace hv2 := hv2.2
 obtain ⟨φ2, hl2, hm2, S⟩ := S.see' hn2 hz3
 have hs2 := hv2.mono hm2
 refine l_alloc S Tryz.zeroValue27 (cs := [.slice none 0 0, iV 0, iV 0]) rfl rfl ?_;clear S;intro a w4 b2 hz4 hk4 S
 refine l_store S (S.tm rfl) (S.tm rfl) (i := 0) (off := 0) rfl Tryz.sizeOf27 (vs := [u2.val, iV r1.1.Relay, iV r1.1.Most]) rfl rfl rfl (all1 (SlcLen.one (slc_len hs1)) (all1 rfl (all1 rfl rfl))) ?_;clear S;intro w5 hk5 S
 refine lv S (Ra (S.tm rfl)) rfl ?_;clear S;intro a S
 refine Ld (Tn (Fs (Fg (lv S (rn_ldA Tryz.isAgg27 Tryz.sizeOf27 (off := 0) (o := 0) (part := [u2.val, iV r1.1.Relay, iV r1.1.Most]) rfl rfl (S.tm rfl) (S.cellsAt (i := 0) rfl)) rfl ?_))));clear S;intro a S
 refine lv S (Rm (S.tm rfl)) rfl ?_;clear S;intro a S
 obtain ⟨r3, hr3, h⟩ := bindE h
 have hz5 := S.keep.size
 refine l_enter S (fun _ => run_call (vs := [.agg (R27.enc (R27.mk u2 r1.1.Relay r1.1.Most)).toArray, v2]) ⟨(S.tm rfl), (S.tm rfl), trivial⟩ Tryz.call6) (points_Given_ok _ r1.1 (R27.mk u2 r1.1.Relay r1.1.Most) ⟨u2, rfl, (hs1.mono (View.le_trans hl2 (S.le_new nil_sub)))⟩ v2 r2.1 ((ownV_slcT GScored.enc_ok hs2).mono (S.le_new nil_sub)) _ hr3) rfl ?_;clear S;intro v3 a w6 hv3 hk6 hn3 S
 obtain ⟨u4, rfl, ho3⟩ := hv3
 obtain ⟨φ3, hl3, hm3, S⟩ := S.see' hn3 hz5
 have hs3 := ho3.mono hm3
 refine lv S (Rm (S.tm rfl)) rfl ?_;clear S;intro a S
 refine lv S (rn_extract (S.tm rfl) rfl) rfl ?_;clear S;intro a S
 refine lv S (rn_extract (S.tm rfl) rfl) rfl ?_;clear S;intro a S
 refine lv S (Ra (S.tm rfl)) rfl ?_;clear S;intro a S
 refine lv S (Ra (S.tm rfl)) rfl ?_;clear S;intro a S
 refine Ld ?_
 replace S := S.nk [.blk b2 [u2.val, iV r1.1.Relay, iV r1.1.Most] 27] [(4, .pointer (some ⟨b2, 0, none⟩)), (5, v2), (6, u4), (7, iV r3.2)] [true, false] rfl (subR rfl)
 refine Tn (Fs (Fg (lv S (rn_ldA Tryz.isAgg27 Tryz.sizeOf27 (off := 0) (o := 0) (part := [u2.val, iV r1.1.Relay, iV r1.1.Most]) rfl rfl (S.tm rfl) (S.cellsAt (i := 0) rfl)) rfl ?_)));clear S;intro a S
 refine lv S (Rm (S.tm rfl)) rfl ?_;clear S;intro a S
 obtain ⟨r4, hr4, h⟩ := bindE h
 have hz6 := S.keep.size
 refine l_enter S (fun _ => run_call (vs := [.agg (R27.enc (R27.mk u2 r1.1.Relay r1.1.Most)).toArray, v2]) ⟨(S.tm rfl), (S.tm rfl), trivial⟩ Tryz.call7) (points_Clubs_ok _ r1.1 (R27.mk u2 r1.1.Relay r1.1.Most) ⟨u2, rfl, (hs1.mono (View.le_trans (View.le_trans hl2 hl3) (S.le_new nil_sub)))⟩ v2 r2.1 ((ownV_slcT GScored.enc_ok hs2).mono (View.le_trans hl3 (S.le_new nil_sub))) _ hr4) rfl ?_;clear S;intro v4 a w7 hv4 hk7 hn4 S
 obtain ⟨u5, rfl, ho4⟩ := hv4
 obtain ⟨φ4, hl4, hm4, S⟩ := S.see' hn4 hz6
 have hs4 := ho4.mono hm4
 refine lv S (Rm (S.tm rfl)) rfl ?_;clear S;intro a S
 refine lv S (rn_extract (S.tm rfl) rfl) rfl ?_;clear S;intro a S
 refine lv S (rn_extract (S.tm rfl) rfl) rfl ?_;clear S;intro a S
 refine lv S (Ra (S.tm rfl)) rfl ?_;clear S;intro a S
 refine lv S (Ra (S.tm rfl)) rfl ?_;clear S;intro a S
 refine Ld (Tn (Fs (Fg (lv S (rn_ldA Tryz.isAgg27 Tryz.sizeOf27 (off := 0) (o := 0) (part := [u2.val, iV r1.1.Relay, iV r1.1.Most]) rfl rfl (S.tm rfl) (S.cellsAt (i := 0) rfl)) rfl ?_))));clear S;intro a S
 refine lv S (Rm (S.tm rfl)) rfl ?_;clear S;intro a S
 obtain ⟨r5, hr5, h⟩ := bindE h
 have hz7 := S.keep.size
 refine l_enter S (fun _ => run_call (vs := [.agg (R27.enc (R27.mk u2 r1.1.Relay r1.1.Most)).toArray, v2]) ⟨(S.tm rfl), (S.tm rfl), trivial⟩ Tryz.call8) (points_Swimmers_ok _ r1.1 (R27.mk u2 r1.1.Relay r1.1.Most) ⟨u2, rfl, (hs1.mono (View.le_trans (View.le_trans (View.le_trans hl2 hl3) hl4) (S.le_new nil_sub)))⟩ v2 r2.1 ((ownV_slcT GScored.enc_ok hs2).mono (View.le_trans (View.le_trans hl3 hl4) (S.le_new nil_sub))) _ hr5) rfl ?_;clear S;intro v5 a w8 hv5 hk8 hn5 S
 obtain ⟨u6, rfl, ho5⟩ := hv5
 obtain ⟨φ5, hl5, hm5, S⟩ := S.see' hn5 hz7
 have hs5 := ho5.mono hm5
 refine lv S (Rm (S.tm rfl)) rfl ?_;clear S;intro a S
 refine lv S (rn_extract (S.tm rfl) rfl) rfl ?_;clear S;intro a S
 refine lv S (rn_extract (S.tm rfl) rfl) rfl ?_;clear S;intro a S
 refine lv S (Ra (S.tm rfl)) rfl ?_;clear S;intro a S
 refine lv S (Ra (S.tm rfl)) rfl ?_;clear S;intro a S
 refine Ld ?_
 replace S := S.nk [.blk b2 [u2.val, iV r1.1.Relay, iV r1.1.Most] 27] [(4, .pointer (some ⟨b2, 0, none⟩)), (5, v2), (6, u4), (7, iV r3.2), (8, u5), (9, iV r4.2), (10, u6), (11, iV r5.2)] [true] rfl (subR rfl)
 refine Tn (Fs (Fg (lv S (rn_ldA Tryz.isAgg27 Tryz.sizeOf27 (off := 0) (o := 0) (part := [u2.val, iV r1.1.Relay, iV r1.1.Most]) rfl rfl (S.tm rfl) (S.cellsAt (i := 0) rfl)) rfl ?_)));clear S;intro a S
 refine lv S (Rm (S.tm rfl)) rfl ?_;clear S;intro a S
 obtain ⟨r6, hr6, h⟩ := bindE h
 refine l_enter S (fun _ => run_call (vs := [.agg (R27.enc (R27.mk u2 r1.1.Relay r1.1.Most)).toArray, v2]) ⟨(S.tm rfl), (S.tm rfl), trivial⟩ Tryz.call9) (points_All_ok _ r1.1 (R27.mk u2 r1.1.Relay r1.1.Most) ⟨u2, rfl, (hs1.mono (View.le_trans (View.le_trans (View.le_trans (View.le_trans hl2 hl3) hl4) hl5) (S.le_new nil_sub)))⟩ v2 r2.1 ((ownV_slcT GScored.enc_ok hs2).mono (View.le_trans (View.le_trans (View.le_trans hl3 hl4) hl5) (S.le_new nil_sub))) _ hr6) rfl ?_;clear S;intro v6 a w9 hv6 hk9 hn6 S
 subst hv6
 refine lv S (Rm (S.tm rfl)) rfl ?_;clear S;intro a S
 refine lv S (rn_extract (S.tm rfl) rfl) rfl ?_;clear S;intro a S
 refine lv S (rn_extract (S.tm rfl) rfl) rfl ?_;clear S;intro a S
 refine l_alloc S Tryz.zeroValue36 (cs := [iV 0, iV 0]) rfl rfl ?_;clear S;intro a w10 b3 hz8 hk10 S
 refine l_store S (S.tm rfl) (S.tm rfl) (i := 0) (off := 0) rfl Tryz.sizeOf36 (vs := (GFraction.enc r6.1)) rfl rfl rfl rfl ?_;clear S;intro w11 hk11 S
 refine lv S (Ra (S.tm rfl)) rfl ?_;clear S;intro a S
 refine Ld ?_
 replace S := S.nk [.blk b3 (GFraction.enc r6.1) 36, .blk b2 [u2.val, iV r1.1.Relay, iV r1.1.Most] 27] [(4, .pointer (some ⟨b2, 0, none⟩)), (5, v2), (6, u4), (7, iV r3.2), (8, u5), (9, iV r4.2), (10, u6), (11, iV r5.2), (12, .pointer (some ⟨b3, 0, none⟩)), (13, iV r6.2)] [true, true] rfl (subR rfl)
 refine Tn (Fs (Fg (lv S (rn_ldA Tryz.isAgg27 Tryz.sizeOf27 (off := 0) (o := 0) (part := [u2.val, iV r1.1.Relay, iV r1.1.Most]) rfl rfl (S.tm rfl) (S.cellsAt (i := 1) rfl)) rfl ?_)));clear S;intro a S
 obtain ⟨r7, hr7, h⟩ := bindE h
 refine l_enter S (fun _ => run_call (vs := [.agg (R27.enc (R27.mk u2 r1.1.Relay r1.1.Most)).toArray]) ⟨(S.tm rfl), trivial⟩ Tryz.call11) (tumbref2_TableFault_ok _ r1.1 (R27.mk u2 r1.1.Relay r1.1.Most) ⟨u2, rfl, (hs1.mono (View.le_trans (View.le_trans (View.le_trans (View.le_trans hl2 hl3) hl4) hl5) (S.le_new nil_sub)))⟩ _ hr7) rfl ?_;clear S;intro v7 a w12 hv7 hk12 hn7 S
 subst hv7
 refine lv S (Rm (S.tm rfl)) rfl ?_;clear S;intro a S
 obtain ⟨r8, hr8, h⟩ := bindE h
 refine l_enter S (fun _ => run_call (vs := [v2]) ⟨(S.tm rfl), trivial⟩ Tryz.call12) (tumbref2_ScoredFault_ok _ v2 r2.1 ((ownV_slcT GScored.enc_ok hs2).mono (View.le_trans (View.le_trans (View.le_trans hl3 hl4) hl5) (S.le_new nil_sub))) _ hr8) rfl ?_;clear S;intro v8 a w13 hv8 hk13 hn8 S
 subst hv8
 refine l_buildSlice S Tryz.underlying68 Tryz.sizeOf32 Tryz.zeroValue32 rfl rfl (pv := [(0, iV r7), (1, iV r8)]) ⟨rfl, (S.tm rfl), rfl, (S.tm rfl), trivial⟩ (cs := [iV r7, iV r8]) (by kernel_rfl) rfl ?_;clear S;intro a w14 b4 hz9 hk14 S
 refine l_enter S (fun _ => run_call (vs := [.slice (some ⟨b4, 0, none⟩) 2 2]) ⟨(S.tm rfl), trivial⟩ Tryz.call10) (tumblaw2_errs_ok _ (.slice (some ⟨b4, 0, none⟩) 2 2) [r7, r8] (lit_slcT enc_int S (i := 0) rfl rfl rfl rfl ((ne_nil (e' := .blk b4 [iV r7, iV r8] 32)) _ rfl)) _ rfl) rfl ?_;clear S;intro v9 a w15 hv9 hk15 hn9 S
 subst hv9
 refine lv S (Ra (S.tm rfl)) rfl ?_;clear S;intro a S
 refine Ld ?_
 replace S := S.nk [.blk b3 (GFraction.enc r6.1) 36, .blk b2 [u2.val, iV r1.1.Relay, iV r1.1.Most] 27] [(4, .pointer (some ⟨b2, 0, none⟩)), (5, v2), (6, u4), (7, iV r3.2), (8, u5), (9, iV r4.2), (10, u6), (11, iV r5.2), (12, .pointer (some ⟨b3, 0, none⟩)), (13, iV r6.2), (14, iV (tumblaw2_errs [r7, r8]))] [false, true, true] rfl (subR rfl)
 refine Tn (Fs (Fs ?_))
 obtain ⟨j1, hj1, h⟩ := joinE h
 refine f_join (fun a w' => ∃ x1 : Bool, j1 x1 = some r ∧ Sx w [] φ5 [.blk b3 (GFraction.enc r6.1) 36, .blk b2 [u2.val, iV r1.1.Relay, iV r1.1.Most] 27] [(4, .pointer (some ⟨b2, 0, none⟩)), (5, v2), (6, u4), (8, u5), (10, u6), (12, .pointer (some ⟨b3, 0, none⟩)), (14, iV (tumblaw2_errs [r7, r8])), (83, bV x1)] 132 a w') ?_ ?_
 ·obtain ⟨r9, hr9, h⟩ := bindE h
  obtain ⟨r10, hr10, h⟩ := bindE h
  rcases Bool.eq_false_or_eq_true (!decide (r9 = r10)) with hb1 | hb1
  ·replace h := iteT h hb1
   refine d_region [] ([]) Tryz.mixed S rfl (by kernel_rfl) ?_;clear S;intro w21 hk20 hsel S
   refine d_quiet 0 S hsel rfl rfl rfl (by kernel_rfl) (by kernel_rfl) rfl (fun _ hw => (rn_ldA Tryz.isAgg27 Tryz.sizeOf27 (off := 0) (o := 0) (part := [u2.val, iV r1.1.Relay, iV r1.1.Most]) rfl rfl (S.tm rfl) ((S.blk_mem (i := 1) (cells := [u2.val, iV r1.1.Relay, iV r1.1.Most]) (b := b2) (T := 27) rfl (ne_nil (e' := .blk b2 [u2.val, iV r1.1.Relay, iV r1.1.Most] 27))).kept hw))) ?_;clear S;intro a S
   refine d_quiet 2 S hsel rfl rfl rfl (by kernel_rfl) (by kernel_rfl) rfl (fun _ hw => (rn_ldA Tryz.isAgg27 Tryz.sizeOf27 (off := 0) (o := 0) (part := [u2.val, iV r1.1.Relay, iV r1.1.Most]) rfl rfl (S.tm rfl) ((S.blk_mem (i := 1) (cells := [u2.val, iV r1.1.Relay, iV r1.1.Most]) (b := b2) (T := 27) rfl (ne_nil (e' := .blk b2 [u2.val, iV r1.1.Relay, iV r1.1.Most] 27))).kept hw))) ?_;clear S;intro a S
   refine d_loud1 1 (by kernel_rfl) rfl (l_enter S (fun _ => run_call (vs := [.agg (R27.enc (R27.mk u2 r1.1.Relay r1.1.Most)).toArray]) ⟨(S.tm rfl), trivial⟩ Tryz.call13) (points_CheckTable_ok _ r1.1 (R27.mk u2 r1.1.Relay r1.1.Most) ⟨u2, rfl, (hs1.mono (View.le_trans (View.le_trans (View.le_trans (View.le_trans hl2 hl3) hl4) hl5) (S.le_new nil_sub)))⟩ _ hr9) rfl ?_);clear S;intro v14 a w22 hv14 hk21 hn14 S
   subst hv14
   refine Ld (d_next hk21 (d_loud1 3 (by kernel_rfl) rfl (l_enter S (fun _ => run_call (vs := [.agg (R27.enc (R27.mk u2 r1.1.Relay r1.1.Most)).toArray]) ⟨(S.tm rfl), trivial⟩ Tryz.call11) (tumbref2_TableFault_ok _ r1.1 (R27.mk u2 r1.1.Relay r1.1.Most) ⟨u2, rfl, (hs1.mono (View.le_trans (View.le_trans (View.le_trans (View.le_trans hl2 hl3) hl4) hl5) (S.le_new nil_sub)))⟩ _ hr10) rfl ?_)));clear S;intro v15 a w23 hv15 hk22 hn15 S
   subst hv15
   refine Ld (d_next hk22 (d_rest [4, 5, 6, 7, 8, 9, 10, 11, 12, 13, 14, 15, 16, 17, 18, 19, 20, 21, 22, 23, 24, 25, 26, 27, 28, 29, 30, 31] hsel (by kernel_rfl) rfl ?_))
   clear hsel
   refine s_lv S rfl (rn_neq (S.tm rfl) (S.tm rfl)) rfl ?_;clear S;intro a S
   refine s_lv S rfl (Rm (S.tm rfl)) rfl ?_;clear S;intro a S
   iterate 5 (refine s_skip S rfl rfl rfl rfl (neq_t hb1) rfl ?_ rfl;clear S;intro a S)
   refine s_lv S rfl (rn_pick_b hb1 (S.tm rfl) rfl) rfl ?_;clear S;intro a S
   refine s_lv S rfl (Rm (S.tm rfl)) rfl ?_;clear S;intro a S
   refine s_cutm 4 (fun a w' => Keep [] w23 w' ∧ Sx w [] φ5 [.blk b3 (GFraction.enc r6.1) 36, .blk b2 [u2.val, iV r1.1.Relay, iV r1.1.Most] 27] [(4, .pointer (some ⟨b2, 0, none⟩)), (5, v2), (6, u4), (8, u5), (9, iV r4.2), (10, u6), (11, iV r5.2), (12, .pointer (some ⟨b3, 0, none⟩)), (13, iV r6.2), (14, iV (tumblaw2_errs [r7, r8])), (68, bV (true || (!decide (r3.2 = (tumblaw2_errs [r7, r8])))))] 132 a w') ?_ ?_
   ·rcases Bool.eq_false_or_eq_true true with hb2 | hb2
    ·iterate 3 (refine s_skip S rfl rfl rfl rfl (neq_t hb2) rfl ?_ rfl;clear S;intro a S)
     refine s_lv S rfl (rn_or_t (!decide (r3.2 = (tumblaw2_errs [r7, r8]))) hb2 (S.tm rfl) rfl) rfl ?_;clear S;intro a S
     refine s_done ?_
     exact ⟨Keep.refl _ _, S.nf [true, true] rfl (subR rfl)⟩
    ·refine s_want S rfl rfl rfl rfl hb2 (s_lv0 S (Rm (S.tm rfl)) rfl ?_);clear S;intro a S
     refine s_want S rfl rfl rfl rfl hb2 (s_lv0 S (Rm (S.tm rfl)) rfl ?_);clear S;intro a S
     refine s_want S rfl rfl rfl rfl hb2 (s_lv0 S (rn_neq (S.tm rfl) (S.tm rfl)) rfl ?_);clear S;intro a S
     refine s_lv S rfl (rn_or_f hb2 (S.tm rfl) (S.tm rfl)) rfl ?_;clear S;intro a S
     refine s_done ?_
     exact ⟨Keep.refl _ _, S.nf [true, true] rfl (subR rfl)⟩
   clear S;rintro a w24 ⟨hk23, S⟩
   refine s_lv S rfl (Rm (S.tm rfl)) rfl ?_;clear S;intro a S
   refine s_cutm 4 (fun a w' => Keep [] w24 w' ∧ Sx w [] φ5 [.blk b3 (GFraction.enc r6.1) 36, .blk b2 [u2.val, iV r1.1.Relay, iV r1.1.Most] 27] [(4, .pointer (some ⟨b2, 0, none⟩)), (5, v2), (6, u4), (8, u5), (10, u6), (11, iV r5.2), (12, .pointer (some ⟨b3, 0, none⟩)), (13, iV r6.2), (14, iV (tumblaw2_errs [r7, r8])), (73, bV ((true || (!decide (r3.2 = (tumblaw2_errs [r7, r8])))) || (!decide (r4.2 = (tumblaw2_errs [r7, r8])))))] 132 a w') ?_ ?_
   ·rcases Bool.eq_false_or_eq_true (true || (!decide (r3.2 = (tumblaw2_errs [r7, r8])))) with hb3 | hb3
    ·iterate 3 (refine s_skip S rfl rfl rfl rfl (neq_t hb3) rfl ?_ rfl;clear S;intro a S)
     refine s_lv S rfl (rn_or_t (!decide (r4.2 = (tumblaw2_errs [r7, r8]))) hb3 (S.tm rfl) rfl) rfl ?_;clear S;intro a S
     refine s_done ?_
     exact ⟨Keep.refl _ _, S.nf [true, true] rfl (subR rfl)⟩
    ·refine s_want S rfl rfl rfl rfl hb3 (s_lv0 S (Rm (S.tm rfl)) rfl ?_);clear S;intro a S
     refine s_want S rfl rfl rfl rfl hb3 (s_lv0 S (Rm (S.tm rfl)) rfl ?_);clear S;intro a S
     refine s_want S rfl rfl rfl rfl hb3 (s_lv0 S (rn_neq (S.tm rfl) (S.tm rfl)) rfl ?_);clear S;intro a S
     refine s_lv S rfl (rn_or_f hb3 (S.tm rfl) (S.tm rfl)) rfl ?_;clear S;intro a S
     refine s_done ?_
     exact ⟨Keep.refl _ _, S.nf [true, true] rfl (subR rfl)⟩
   clear S;rintro a w25 ⟨hk24, S⟩
   refine s_lv S rfl (Rm (S.tm rfl)) rfl ?_;clear S;intro a S
   refine s_cutm 4 (fun a w' => Keep [] w25 w' ∧ Sx w [] φ5 [.blk b3 (GFraction.enc r6.1) 36, .blk b2 [u2.val, iV r1.1.Relay, iV r1.1.Most] 27] [(4, .pointer (some ⟨b2, 0, none⟩)), (5, v2), (6, u4), (8, u5), (10, u6), (12, .pointer (some ⟨b3, 0, none⟩)), (13, iV r6.2), (14, iV (tumblaw2_errs [r7, r8])), (78, bV (((true || (!decide (r3.2 = (tumblaw2_errs [r7, r8])))) || (!decide (r4.2 = (tumblaw2_errs [r7, r8])))) || (!decide (r5.2 = (tumblaw2_errs [r7, r8])))))] 132 a w') ?_ ?_
   ·rcases Bool.eq_false_or_eq_true ((true || (!decide (r3.2 = (tumblaw2_errs [r7, r8])))) || (!decide (r4.2 = (tumblaw2_errs [r7, r8])))) with hb4 | hb4
    ·iterate 3 (refine s_skip S rfl rfl rfl rfl (neq_t hb4) rfl ?_ rfl;clear S;intro a S)
     refine s_lv S rfl (rn_or_t (!decide (r5.2 = (tumblaw2_errs [r7, r8]))) hb4 (S.tm rfl) rfl) rfl ?_;clear S;intro a S
     refine s_done ?_
     exact ⟨Keep.refl _ _, S.nf [true, true] rfl (subR rfl)⟩
    ·refine s_want S rfl rfl rfl rfl hb4 (s_lv0 S (Rm (S.tm rfl)) rfl ?_);clear S;intro a S
     refine s_want S rfl rfl rfl rfl hb4 (s_lv0 S (Rm (S.tm rfl)) rfl ?_);clear S;intro a S
     refine s_want S rfl rfl rfl rfl hb4 (s_lv0 S (rn_neq (S.tm rfl) (S.tm rfl)) rfl ?_);clear S;intro a S
     refine s_lv S rfl (rn_or_f hb4 (S.tm rfl) (S.tm rfl)) rfl ?_;clear S;intro a S
     refine s_done ?_
     exact ⟨Keep.refl _ _, S.nf [true, true] rfl (subR rfl)⟩
   clear S;rintro a w26 ⟨hk25, S⟩
   refine s_lv S rfl (Rm (S.tm rfl)) rfl ?_;clear S;intro a S
   refine s_cutm 4 (fun a w' => Keep [] w26 w' ∧ Sx w [] φ5 [.blk b3 (GFraction.enc r6.1) 36, .blk b2 [u2.val, iV r1.1.Relay, iV r1.1.Most] 27] [(4, .pointer (some ⟨b2, 0, none⟩)), (5, v2), (6, u4), (8, u5), (10, u6), (12, .pointer (some ⟨b3, 0, none⟩)), (14, iV (tumblaw2_errs [r7, r8])), (83, bV ((((true || (!decide (r3.2 = (tumblaw2_errs [r7, r8])))) || (!decide (r4.2 = (tumblaw2_errs [r7, r8])))) || (!decide (r5.2 = (tumblaw2_errs [r7, r8])))) || (!decide (r6.2 = (tumblaw2_errs [r7, r8])))))] 132 a w') ?_ ?_
   ·rcases Bool.eq_false_or_eq_true (((true || (!decide (r3.2 = (tumblaw2_errs [r7, r8])))) || (!decide (r4.2 = (tumblaw2_errs [r7, r8])))) || (!decide (r5.2 = (tumblaw2_errs [r7, r8])))) with hb5 | hb5
    ·iterate 3 (refine s_skip S rfl rfl rfl rfl (neq_t hb5) rfl ?_ rfl;clear S;intro a S)
     refine s_lv S rfl (rn_or_t (!decide (r6.2 = (tumblaw2_errs [r7, r8]))) hb5 (S.tm rfl) rfl) rfl ?_;clear S;intro a S
     refine s_done ?_
     exact ⟨Keep.refl _ _, S.nf [true, true] rfl (subR rfl)⟩
    ·refine s_want S rfl rfl rfl rfl hb5 (s_lv0 S (Rm (S.tm rfl)) rfl ?_);clear S;intro a S
     refine s_want S rfl rfl rfl rfl hb5 (s_lv0 S (Rm (S.tm rfl)) rfl ?_);clear S;intro a S
     refine s_want S rfl rfl rfl rfl hb5 (s_lv0 S (rn_neq (S.tm rfl) (S.tm rfl)) rfl ?_);clear S;intro a S
     refine s_lv S rfl (rn_or_f hb5 (S.tm rfl) (S.tm rfl)) rfl ?_;clear S;intro a S
     refine s_done ?_
     exact ⟨Keep.refl _ _, S.nf [true, true] rfl (subR rfl)⟩
   clear S;rintro a w27 ⟨hk26, S⟩
   refine s_done ?_
   replace S := S.nk [.blk b3 (GFraction.enc r6.1) 36, .blk b2 [u2.val, iV r1.1.Relay, iV r1.1.Most] 27] [(4, .pointer (some ⟨b2, 0, none⟩)), (5, v2), (6, u4), (8, u5), (10, u6), (12, .pointer (some ⟨b3, 0, none⟩)), (14, iV (tumblaw2_errs [r7, r8])), (83, bV ((((true || (!decide (r3.2 = (tumblaw2_errs [r7, r8])))) || (!decide (r4.2 = (tumblaw2_errs [r7, r8])))) || (!decide (r5.2 = (tumblaw2_errs [r7, r8])))) || (!decide (r6.2 = (tumblaw2_errs [r7, r8])))))] [true, true] rfl (subR rfl)
   refine Tn ?_
   exact ⟨((((true || (!decide (r3.2 = (tumblaw2_errs [r7, r8])))) || (!decide (r4.2 = (tumblaw2_errs [r7, r8])))) || (!decide (r5.2 = (tumblaw2_errs [r7, r8])))) || (!decide (r6.2 = (tumblaw2_errs [r7, r8])))), h, S.nf [true, true] rfl (subR rfl)⟩
  ·replace h := iteF h hb1
   obtain ⟨r11, hr11, h⟩ := bindE h
   obtain ⟨r12, hr12, h⟩ := bindE h
   refine d_region [] ([]) Tryz.mixed S rfl (by kernel_rfl) ?_;clear S;intro w32 hk31 hsel S
   refine d_quiet 0 S hsel rfl rfl rfl (by kernel_rfl) (by kernel_rfl) rfl (fun _ hw => (rn_ldA Tryz.isAgg27 Tryz.sizeOf27 (off := 0) (o := 0) (part := [u2.val, iV r1.1.Relay, iV r1.1.Most]) rfl rfl (S.tm rfl) ((S.blk_mem (i := 1) (cells := [u2.val, iV r1.1.Relay, iV r1.1.Most]) (b := b2) (T := 27) rfl (ne_nil (e' := .blk b2 [u2.val, iV r1.1.Relay, iV r1.1.Most] 27))).kept hw))) ?_;clear S;intro a S
   refine d_quiet 2 S hsel rfl rfl rfl (by kernel_rfl) (by kernel_rfl) rfl (fun _ hw => (rn_ldA Tryz.isAgg27 Tryz.sizeOf27 (off := 0) (o := 0) (part := [u2.val, iV r1.1.Relay, iV r1.1.Most]) rfl rfl (S.tm rfl) ((S.blk_mem (i := 1) (cells := [u2.val, iV r1.1.Relay, iV r1.1.Most]) (b := b2) (T := 27) rfl (ne_nil (e' := .blk b2 [u2.val, iV r1.1.Relay, iV r1.1.Most] 27))).kept hw))) ?_;clear S;intro a S
   refine d_loud1 1 (by kernel_rfl) rfl (l_enter S (fun _ => run_call (vs := [.agg (R27.enc (R27.mk u2 r1.1.Relay r1.1.Most)).toArray]) ⟨(S.tm rfl), trivial⟩ Tryz.call13) (points_CheckTable_ok _ r1.1 (R27.mk u2 r1.1.Relay r1.1.Most) ⟨u2, rfl, (hs1.mono (View.le_trans (View.le_trans (View.le_trans (View.le_trans hl2 hl3) hl4) hl5) (S.le_new nil_sub)))⟩ _ hr9) rfl ?_);clear S;intro v20 a w33 hv20 hk32 hn20 S
   subst hv20
   refine Ld (d_next hk32 (d_loud1 3 (by kernel_rfl) rfl (l_enter S (fun _ => run_call (vs := [.agg (R27.enc (R27.mk u2 r1.1.Relay r1.1.Most)).toArray]) ⟨(S.tm rfl), trivial⟩ Tryz.call11) (tumbref2_TableFault_ok _ r1.1 (R27.mk u2 r1.1.Relay r1.1.Most) ⟨u2, rfl, (hs1.mono (View.le_trans (View.le_trans (View.le_trans (View.le_trans hl2 hl3) hl4) hl5) (S.le_new nil_sub)))⟩ _ hr10) rfl ?_)));clear S;intro v21 a w34 hv21 hk33 hn21 S
   subst hv21
   refine Ld (d_next hk33 (d_quiet 4 S hsel rfl rfl rfl (by kernel_rfl) (by kernel_rfl) rfl (fun _ hw => (rn_neq (S.tm rfl) (S.tm rfl))) ?_));clear S;intro a S
   refine d_quiet 5 S hsel rfl rfl rfl (by kernel_rfl) (by kernel_rfl) rfl (fun _ hw => (Rm (S.tm rfl))) ?_;clear S;intro a S
   refine d_quiet_g 6 S hsel rfl rfl rfl rfl hb1 rfl rfl (by kernel_rfl) (by kernel_rfl) rfl (fun _ hw => (Rm (S.tm rfl))) ?_;clear S;intro a S
   refine d_quiet_g 8 S hsel rfl rfl rfl rfl hb1 rfl rfl (by kernel_rfl) (by kernel_rfl) rfl (fun _ hw => (Rm (S.tm rfl))) ?_;clear S;intro a S
   refine d_loud1 7 (by kernel_rfl) rfl (l_want S rfl rfl rfl hb1 (l_enter S (fun _ => run_call (vs := [v2]) ⟨(S.tm rfl), trivial⟩ Tryz.call14) (points_CheckScored_ok _ v2 r2.1 ((ownV_slcT GScored.enc_ok hs2).mono (View.le_trans (View.le_trans (View.le_trans hl3 hl4) hl5) (S.le_new nil_sub))) _ hr11) rfl ?_));clear S;intro v22 a w35 hv22 hk34 hn22 S
   subst hv22
   refine Ld (d_next hk34 (d_loud1 9 (by kernel_rfl) rfl (l_want S rfl rfl rfl hb1 (l_enter S (fun _ => run_call (vs := [v2]) ⟨(S.tm rfl), trivial⟩ Tryz.call12) (tumbref2_ScoredFault_ok _ v2 r2.1 ((ownV_slcT GScored.enc_ok hs2).mono (View.le_trans (View.le_trans (View.le_trans hl3 hl4) hl5) (S.le_new nil_sub))) _ hr12) rfl ?_))));clear S;intro v23 a w36 hv23 hk35 hn23 S
   subst hv23
   refine Ld (d_next hk35 (d_rest [10, 11, 12, 13, 14, 15, 16, 17, 18, 19, 20, 21, 22, 23, 24, 25, 26, 27, 28, 29, 30, 31] hsel (by kernel_rfl) rfl ?_))
   clear hsel
   refine s_want S rfl rfl rfl rfl hb1 (s_lv0 S (rn_neq (S.tm rfl) (S.tm rfl)) rfl ?_);clear S;intro a S
   refine s_lv S rfl (rn_pick_c hb1 (S.tm rfl) (S.tm rfl)) rfl ?_;clear S;intro a S
   refine s_lv S rfl (Rm (S.tm rfl)) rfl ?_;clear S;intro a S
   refine s_cutm 4 (fun a w' => Keep [] w36 w' ∧ Sx w [] φ5 [.blk b3 (GFraction.enc r6.1) 36, .blk b2 [u2.val, iV r1.1.Relay, iV r1.1.Most] 27] [(4, .pointer (some ⟨b2, 0, none⟩)), (5, v2), (6, u4), (8, u5), (9, iV r4.2), (10, u6), (11, iV r5.2), (12, .pointer (some ⟨b3, 0, none⟩)), (13, iV r6.2), (14, iV (tumblaw2_errs [r7, r8])), (68, bV ((!decide (r11 = r12)) || (!decide (r3.2 = (tumblaw2_errs [r7, r8])))))] 132 a w') ?_ ?_
   ·rcases Bool.eq_false_or_eq_true (!decide (r11 = r12)) with hb6 | hb6
    ·iterate 3 (refine s_skip S rfl rfl rfl rfl (neq_t hb6) rfl ?_ rfl;clear S;intro a S)
     refine s_lv S rfl (rn_or_t (!decide (r3.2 = (tumblaw2_errs [r7, r8]))) hb6 (S.tm rfl) rfl) rfl ?_;clear S;intro a S
     refine s_done ?_
     exact ⟨Keep.refl _ _, S.nf [true, true] rfl (subR rfl)⟩
    ·refine s_want S rfl rfl rfl rfl hb6 (s_lv0 S (Rm (S.tm rfl)) rfl ?_);clear S;intro a S
     refine s_want S rfl rfl rfl rfl hb6 (s_lv0 S (Rm (S.tm rfl)) rfl ?_);clear S;intro a S
     refine s_want S rfl rfl rfl rfl hb6 (s_lv0 S (rn_neq (S.tm rfl) (S.tm rfl)) rfl ?_);clear S;intro a S
     refine s_lv S rfl (rn_or_f hb6 (S.tm rfl) (S.tm rfl)) rfl ?_;clear S;intro a S
     refine s_done ?_
     exact ⟨Keep.refl _ _, S.nf [true, true] rfl (subR rfl)⟩
   clear S;rintro a w37 ⟨hk36, S⟩
   refine s_lv S rfl (Rm (S.tm rfl)) rfl ?_;clear S;intro a S
   refine s_cutm 4 (fun a w' => Keep [] w37 w' ∧ Sx w [] φ5 [.blk b3 (GFraction.enc r6.1) 36, .blk b2 [u2.val, iV r1.1.Relay, iV r1.1.Most] 27] [(4, .pointer (some ⟨b2, 0, none⟩)), (5, v2), (6, u4), (8, u5), (10, u6), (11, iV r5.2), (12, .pointer (some ⟨b3, 0, none⟩)), (13, iV r6.2), (14, iV (tumblaw2_errs [r7, r8])), (73, bV (((!decide (r11 = r12)) || (!decide (r3.2 = (tumblaw2_errs [r7, r8])))) || (!decide (r4.2 = (tumblaw2_errs [r7, r8])))))] 132 a w') ?_ ?_
   ·rcases Bool.eq_false_or_eq_true ((!decide (r11 = r12)) || (!decide (r3.2 = (tumblaw2_errs [r7, r8])))) with hb7 | hb7
    ·iterate 3 (refine s_skip S rfl rfl rfl rfl (neq_t hb7) rfl ?_ rfl;clear S;intro a S)
     refine s_lv S rfl (rn_or_t (!decide (r4.2 = (tumblaw2_errs [r7, r8]))) hb7 (S.tm rfl) rfl) rfl ?_;clear S;intro a S
     refine s_done ?_
     exact ⟨Keep.refl _ _, S.nf [true, true] rfl (subR rfl)⟩
    ·refine s_want S rfl rfl rfl rfl hb7 (s_lv0 S (Rm (S.tm rfl)) rfl ?_);clear S;intro a S
     refine s_want S rfl rfl rfl rfl hb7 (s_lv0 S (Rm (S.tm rfl)) rfl ?_);clear S;intro a S
     refine s_want S rfl rfl rfl rfl hb7 (s_lv0 S (rn_neq (S.tm rfl) (S.tm rfl)) rfl ?_);clear S;intro a S
     refine s_lv S rfl (rn_or_f hb7 (S.tm rfl) (S.tm rfl)) rfl ?_;clear S;intro a S
     refine s_done ?_
     exact ⟨Keep.refl _ _, S.nf [true, true] rfl (subR rfl)⟩
   clear S;rintro a w38 ⟨hk37, S⟩
   refine s_lv S rfl (Rm (S.tm rfl)) rfl ?_;clear S;intro a S
   refine s_cutm 4 (fun a w' => Keep [] w38 w' ∧ Sx w [] φ5 [.blk b3 (GFraction.enc r6.1) 36, .blk b2 [u2.val, iV r1.1.Relay, iV r1.1.Most] 27] [(4, .pointer (some ⟨b2, 0, none⟩)), (5, v2), (6, u4), (8, u5), (10, u6), (12, .pointer (some ⟨b3, 0, none⟩)), (13, iV r6.2), (14, iV (tumblaw2_errs [r7, r8])), (78, bV ((((!decide (r11 = r12)) || (!decide (r3.2 = (tumblaw2_errs [r7, r8])))) || (!decide (r4.2 = (tumblaw2_errs [r7, r8])))) || (!decide (r5.2 = (tumblaw2_errs [r7, r8])))))] 132 a w') ?_ ?_
   ·rcases Bool.eq_false_or_eq_true (((!decide (r11 = r12)) || (!decide (r3.2 = (tumblaw2_errs [r7, r8])))) || (!decide (r4.2 = (tumblaw2_errs [r7, r8])))) with hb8 | hb8
    ·iterate 3 (refine s_skip S rfl rfl rfl rfl (neq_t hb8) rfl ?_ rfl;clear S;intro a S)
     refine s_lv S rfl (rn_or_t (!decide (r5.2 = (tumblaw2_errs [r7, r8]))) hb8 (S.tm rfl) rfl) rfl ?_;clear S;intro a S
     refine s_done ?_
     exact ⟨Keep.refl _ _, S.nf [true, true] rfl (subR rfl)⟩
    ·refine s_want S rfl rfl rfl rfl hb8 (s_lv0 S (Rm (S.tm rfl)) rfl ?_);clear S;intro a S
     refine s_want S rfl rfl rfl rfl hb8 (s_lv0 S (Rm (S.tm rfl)) rfl ?_);clear S;intro a S
     refine s_want S rfl rfl rfl rfl hb8 (s_lv0 S (rn_neq (S.tm rfl) (S.tm rfl)) rfl ?_);clear S;intro a S
     refine s_lv S rfl (rn_or_f hb8 (S.tm rfl) (S.tm rfl)) rfl ?_;clear S;intro a S
     refine s_done ?_
     exact ⟨Keep.refl _ _, S.nf [true, true] rfl (subR rfl)⟩
   clear S;rintro a w39 ⟨hk38, S⟩
   refine s_lv S rfl (Rm (S.tm rfl)) rfl ?_;clear S;intro a S
   refine s_cutm 4 (fun a w' => Keep [] w39 w' ∧ Sx w [] φ5 [.blk b3 (GFraction.enc r6.1) 36, .blk b2 [u2.val, iV r1.1.Relay, iV r1.1.Most] 27] [(4, .pointer (some ⟨b2, 0, none⟩)), (5, v2), (6, u4), (8, u5), (10, u6), (12, .pointer (some ⟨b3, 0, none⟩)), (14, iV (tumblaw2_errs [r7, r8])), (83, bV (((((!decide (r11 = r12)) || (!decide (r3.2 = (tumblaw2_errs [r7, r8])))) || (!decide (r4.2 = (tumblaw2_errs [r7, r8])))) || (!decide (r5.2 = (tumblaw2_errs [r7, r8])))) || (!decide (r6.2 = (tumblaw2_errs [r7, r8])))))] 132 a w') ?_ ?_
   ·rcases Bool.eq_false_or_eq_true ((((!decide (r11 = r12)) || (!decide (r3.2 = (tumblaw2_errs [r7, r8])))) || (!decide (r4.2 = (tumblaw2_errs [r7, r8])))) || (!decide (r5.2 = (tumblaw2_errs [r7, r8])))) with hb9 | hb9
    ·iterate 3 (refine s_skip S rfl rfl rfl rfl (neq_t hb9) rfl ?_ rfl;clear S;intro a S)
     refine s_lv S rfl (rn_or_t (!decide (r6.2 = (tumblaw2_errs [r7, r8]))) hb9 (S.tm rfl) rfl) rfl ?_;clear S;intro a S
     refine s_done ?_
     exact ⟨Keep.refl _ _, S.nf [true, true] rfl (subR rfl)⟩
    ·refine s_want S rfl rfl rfl rfl hb9 (s_lv0 S (Rm (S.tm rfl)) rfl ?_);clear S;intro a S
     refine s_want S rfl rfl rfl rfl hb9 (s_lv0 S (Rm (S.tm rfl)) rfl ?_);clear S;intro a S
     refine s_want S rfl rfl rfl rfl hb9 (s_lv0 S (rn_neq (S.tm rfl) (S.tm rfl)) rfl ?_);clear S;intro a S
     refine s_lv S rfl (rn_or_f hb9 (S.tm rfl) (S.tm rfl)) rfl ?_;clear S;intro a S
     refine s_done ?_
     exact ⟨Keep.refl _ _, S.nf [true, true] rfl (subR rfl)⟩
   clear S;rintro a w40 ⟨hk39, S⟩
   refine s_done ?_
   replace S := S.nk [.blk b3 (GFraction.enc r6.1) 36, .blk b2 [u2.val, iV r1.1.Relay, iV r1.1.Most] 27] [(4, .pointer (some ⟨b2, 0, none⟩)), (5, v2), (6, u4), (8, u5), (10, u6), (12, .pointer (some ⟨b3, 0, none⟩)), (14, iV (tumblaw2_errs [r7, r8])), (83, bV (((((!decide (r11 = r12)) || (!decide (r3.2 = (tumblaw2_errs [r7, r8])))) || (!decide (r4.2 = (tumblaw2_errs [r7, r8])))) || (!decide (r5.2 = (tumblaw2_errs [r7, r8])))) || (!decide (r6.2 = (tumblaw2_errs [r7, r8])))))] [true, true] rfl (subR rfl)
   refine Tn ?_
   exact ⟨(((((!decide (r11 = r12)) || (!decide (r3.2 = (tumblaw2_errs [r7, r8])))) || (!decide (r4.2 = (tumblaw2_errs [r7, r8])))) || (!decide (r5.2 = (tumblaw2_errs [r7, r8])))) || (!decide (r6.2 = (tumblaw2_errs [r7, r8])))), h, S.nf [true, true] rfl (subR rfl)⟩
 clear S h;rintro a w16 ⟨x1, h, S⟩;rw [hj1] at h;clear hj1 j1
 refine Tn (f_cond (S.tm rfl) (fun hb10 => ?_) (fun hb10 => ?_))
 ·replace h := iteT h hb10
  refine Fs (Fg (lv S (Ra rfl) rfl ?_));clear S;intro a S
  refine Ld (Tn (wp_ret (then_r ?_)))
  obtain rfl := Option.some.inj h
  exact f_ret S Tryz.results3 rfl rfl
 ·replace h := iteF h hb10
  refine wp_skip (Tn (Fs (Fs (Fg (lv S (Rm (S.tm rfl)) rfl ?_)))));clear S;intro a S
  refine lv S (rn_neq (S.tm rfl) rfl) rfl ?_;clear S;intro a S
  refine Ld (Tn (f_cond (S.tm rfl) (fun hb11 => ?_) (fun hb11 => ?_)))
  ·replace h := iteT h hb11
   refine Fs (Fg (lv S (Rm (S.tm rfl)) rfl ?_));clear S;intro a S
   refine lv S (rn_lenT sl_31 (S.tm rfl) (slc_len (ownV_slcT GGiven.enc_ok hs3))) rfl ?_;clear S;intro a S
   refine lv S (Rm (S.tm rfl)) rfl ?_;clear S;intro a S
   refine lv S (rn_lenT sl_31 (S.tm rfl) (slc_len (ownV_slcT GGiven.enc_ok hs4))) rfl ?_;clear S;intro a S
   refine lv S (rn_add (S.tm rfl) (S.tm rfl)) rfl ?_;clear S;intro a S
   refine lv S (Rm (S.tm rfl)) rfl ?_;clear S;intro a S
   refine lv S (rn_lenT sl_31 (S.tm rfl) (slc_len (ownV_slcT GGiven.enc_ok hs5))) rfl ?_;clear S;intro a S
   refine lv S (rn_add (S.tm rfl) (S.tm rfl)) rfl ?_;clear S;intro a S
   refine lv S (rn_eql (S.tm rfl) rfl) rfl ?_;clear S;intro a S
   refine lv S (Rm (S.tm rfl)) rfl ?_;clear S;intro a S
   refine f_cutm 4 (fun a w' => Keep [] w16 w' ∧ Sx w [] φ5 [.blk b3 (GFraction.enc r6.1) 36, .blk b2 [u2.val, iV r1.1.Relay, iV r1.1.Most] 27] [(99, bV ((decide ((W ((W ((r3.1.length : Int) + (r4.1.length : Int))) + (r5.1.length : Int))) = 0)) && (decide (r6.1 = (GFraction.mk 0 0)))))] 132 a w') ?_ ?_
   ·rcases Bool.eq_false_or_eq_true (decide ((W ((W ((r3.1.length : Int) + (r4.1.length : Int))) + (r5.1.length : Int))) = 0)) with hb12 | hb12
    ·refine l_want S rfl rfl rfl hb12 (lv S (rn_ldA Tryz.isAgg36 Tryz.sizeOf36 (off := 0) (o := 0) (part := (GFraction.enc r6.1)) rfl rfl (S.tm rfl) (S.cellsAt (i := 0) rfl)) rfl ?_);clear S;intro a S
     refine l_want S rfl rfl rfl hb12 (lv S (rn_bld bt_36 (pv := []) trivial (cs := [iV 0, iV 0]) (by kernel_rfl)) rfl ?_);clear S;intro a S
     refine l_want S rfl rfl rfl hb12 (lv S (rn_eql_36 (m := r6.1) (n := (GFraction.mk 0 0)) (S.tm rfl) (S.tm rfl)) rfl ?_);clear S;intro a S
     refine lv S (rn_and_t hb12 (S.tm rfl) (S.tm rfl)) rfl ?_;clear S;intro a S
     refine Ld (Tn ?_)
     exact ⟨Keep.refl _ _, S.nf [true, true] rfl ⟨rfl, trivial⟩⟩
    ·iterate 3 (refine l_skip S rfl rfl rfl (neq_f hb12) rfl ?_ rfl;clear S;intro a S)
     refine lv S (rn_and_f (decide (r6.1 = (GFraction.mk 0 0))) hb12 (S.tm rfl) rfl) rfl ?_;clear S;intro a S
     refine Ld (Tn ?_)
     exact ⟨Keep.refl _ _, S.nf [true, true] rfl ⟨rfl, trivial⟩⟩
   clear S;rintro a w41 ⟨hk40, S⟩
   refine lv S (Rm (S.tm rfl)) rfl ?_;clear S;intro a S
   obtain ⟨j2, hj2, h⟩ := joinE h
   refine f_cutm 2 (fun a w' => ∃ c1, j2 c1 = some r ∧ Keep [] w41 w' ∧ Sx w [] φ5 [.blk b3 (GFraction.enc r6.1) 36, .blk b2 [u2.val, iV r1.1.Relay, iV r1.1.Most] 27] [(102, bV c1)] 132 a w') ?_ ?_
   ·rcases Bool.eq_false_or_eq_true ((decide ((W ((W ((r3.1.length : Int) + (r4.1.length : Int))) + (r5.1.length : Int))) = 0)) && (decide (r6.1 = (GFraction.mk 0 0)))) with hb13 | hb13
    ·replace h := iteT h hb13
     refine l_want S rfl rfl rfl hb13 ?_
     obtain ⟨r13, hr13, h⟩ := bindE h
     refine l_enter S (fun _ => run_call (vs := []) trivial Tryz.call15) (tumblaw2_pointed_ok _ _ hr13) rfl ?_;clear S;intro v24 a w43 hv24 hk41 hn24 S
     subst hv24
     refine lv S (rn_and_t hb13 (S.tm rfl) (S.tm rfl)) rfl ?_;clear S;intro a S
     refine Ld (Tn ?_)
     exact ⟨_, h, hk41, S.nf [true, true] rfl ⟨rfl, trivial⟩⟩
    ·replace h := iteF h hb13
     refine l_skip S rfl rfl rfl (neq_f hb13) rfl ?_ rfl;clear S;intro a S
     refine lv S (rn_and_f true hb13 (S.tm rfl) rfl) rfl ?_;clear S;intro a S
     refine Ld (Tn ?_)
     exact ⟨_, h, Keep.refl _ _, S.nf [true, true] rfl ⟨rfl, trivial⟩⟩
   clear S h;rintro a w42 ⟨c1, h, hk42, S⟩;rw [hj2] at h;clear hj2 j2
   refine lv S (Ra (S.tm rfl)) rfl ?_;clear S;intro a S
   refine Ld (Tn (wp_ret (then_r ?_)))
   obtain rfl := Option.some.inj h
   exact f_ret S Tryz.results3 rfl rfl
  ·replace h := iteF h hb11
   refine wp_skip (Tn (Fs ?_))
   obtain ⟨j3, hj3, h⟩ := joinE h
   refine f_join (fun a w' => ∃ x2 : Bool, ∃ φ6 : View, j3 x2 = some r ∧ View.le φ5 φ6 ∧ Sx w [] φ6 [] [(2, bV x2)] 132 a w') ?_ ?_
   ·obtain ⟨r14, hr14, h⟩ := bindE h
    obtain ⟨r15, hr15, h⟩ := bindE h
    rcases Bool.eq_false_or_eq_true r15 with hb14 | hb14
    ·replace h := iteT h hb14
     obtain ⟨r16, hr16, h⟩ := bindE h
     obtain ⟨r17, hr17, h⟩ := bindE h
     rcases Bool.eq_false_or_eq_true r17 with hb15 | hb15
     ·replace h := iteT h hb15
      obtain ⟨r18, hr18, h⟩ := bindE h
      obtain ⟨r19, hr19, h⟩ := bindE h
      rcases Bool.eq_false_or_eq_true r19 with hb16 | hb16
      ·replace h := iteT h hb16
       obtain ⟨r20, hr20, h⟩ := bindE h
       rcases Bool.eq_false_or_eq_true (decide (r6.1 = r20)) with hb17 | hb17
       ·replace h := iteT h hb17
        obtain ⟨r21, hr21, h⟩ := bindE h
        refine d_region [] ([]) Tryz.mixed S rfl (by kernel_rfl) ?_;clear S;intro w72 hk70 hsel S
        refine d_quiet 0 S hsel rfl rfl rfl (by kernel_rfl) (by kernel_rfl) rfl (fun _ hw => (Rm (S.tm rfl))) ?_;clear S;intro a S
        refine d_quiet 1 S hsel rfl rfl rfl (by kernel_rfl) (by kernel_rfl) rfl (fun _ hw => (rn_ldA Tryz.isAgg27 Tryz.sizeOf27 (off := 0) (o := 0) (part := [u2.val, iV r1.1.Relay, iV r1.1.Most]) rfl rfl (S.tm rfl) ((S.blk_mem (i := 1) (cells := [u2.val, iV r1.1.Relay, iV r1.1.Most]) (b := b2) (T := 27) rfl (ne_nil (e' := .blk b2 [u2.val, iV r1.1.Relay, iV r1.1.Most] 27))).kept hw))) ?_;clear S;intro a S
        refine d_quiet 2 S hsel rfl rfl rfl (by kernel_rfl) (by kernel_rfl) rfl (fun _ hw => (Rm (S.tm rfl))) ?_;clear S;intro a S
        refine d_loud1 3 (by kernel_rfl) rfl ?_
        have hz22 := S.keep.size
        refine l_enter S (fun _ => run_call (vs := [.agg (R27.enc (R27.mk u2 r1.1.Relay r1.1.Most)).toArray, v2]) ⟨(S.tm rfl), (S.tm rfl), trivial⟩ Tryz.call17) (tumbref2_GivenOf_ok _ r1.1 (R27.mk u2 r1.1.Relay r1.1.Most) ⟨u2, rfl, (hs1.mono (View.le_trans (View.le_trans (View.le_trans (View.le_trans hl2 hl3) hl4) hl5) (S.le_new nil_sub)))⟩ v2 r2.1 ((ownV_slcT GScored.enc_ok hs2).mono (View.le_trans (View.le_trans (View.le_trans hl3 hl4) hl5) (S.le_new nil_sub))) _ hr14) rfl ?_;clear S;intro v52 a w73 hv52 hk71 hn52 S
        obtain ⟨φ19, hl19, hm18, S⟩ := S.see' hn52 hz22
        have hs18 := hv52.mono hm18
        refine Ld (d_next hk71 (d_loud1 4 (by kernel_rfl) rfl (l_enter S (fun _ => run_call (vs := [u4, v52]) ⟨(S.tm rfl), (S.tm rfl), trivial⟩ Tryz.call16) (slices_Equal_Given_ok _ u4 r3.1 ((ownV_slcT GGiven.enc_ok hs3).mono (View.le_trans (View.le_trans (View.le_trans hl4 hl5) hl19) (S.le_new nil_sub))) v52 r14 ((ownV_slcT GGiven.enc_ok hs18).mono (S.le_new nil_sub)) _ hr15) rfl ?_)));clear S;intro v53 a w74 hv53 hk72 hn53 S
        subst hv53
        refine Ld (d_next hk72 (d_quiet 5 S hsel rfl rfl rfl (by kernel_rfl) (by kernel_rfl) rfl (fun _ hw => (Rm (S.tm rfl))) ?_));clear S;intro a S
        refine d_quiet_g 6 S hsel rfl rfl rfl rfl hb14 rfl rfl (by kernel_rfl) (by kernel_rfl) rfl (fun _ hw => (Rm (S.tm rfl))) ?_;clear S;intro a S
        refine d_quiet_g 7 S hsel rfl rfl rfl rfl hb14 rfl rfl (by kernel_rfl) (by kernel_rfl) rfl (fun _ hw => (rn_ldA Tryz.isAgg27 Tryz.sizeOf27 (off := 0) (o := 0) (part := [u2.val, iV r1.1.Relay, iV r1.1.Most]) rfl rfl (S.tm rfl) ((S.blk_mem (i := 1) (cells := [u2.val, iV r1.1.Relay, iV r1.1.Most]) (b := b2) (T := 27) rfl (ne_nil (e' := .blk b2 [u2.val, iV r1.1.Relay, iV r1.1.Most] 27))).kept hw))) ?_;clear S;intro a S
        refine d_quiet_g 8 S hsel rfl rfl rfl rfl hb14 rfl rfl (by kernel_rfl) (by kernel_rfl) rfl (fun _ hw => (Rm (S.tm rfl))) ?_;clear S;intro a S
        refine d_loud1 9 (by kernel_rfl) rfl (l_want S rfl rfl rfl hb14 ?_)
        have hz23 := S.keep.size
        refine l_enter S (fun _ => run_call (vs := [.agg (R27.enc (R27.mk u2 r1.1.Relay r1.1.Most)).toArray, v2]) ⟨(S.tm rfl), (S.tm rfl), trivial⟩ Tryz.call18) (tumbref2_ClubSums_ok _ r1.1 (R27.mk u2 r1.1.Relay r1.1.Most) ⟨u2, rfl, (hs1.mono (View.le_trans (View.le_trans (View.le_trans (View.le_trans (View.le_trans hl2 hl3) hl4) hl5) hl19) (S.le_new nil_sub)))⟩ v2 r2.1 ((ownV_slcT GScored.enc_ok hs2).mono (View.le_trans (View.le_trans (View.le_trans (View.le_trans hl3 hl4) hl5) hl19) (S.le_new nil_sub))) _ hr16) rfl ?_;clear S;intro v54 a w75 hv54 hk73 hn54 S
        obtain ⟨φ20, hl20, hm19, S⟩ := S.see' hn54 hz23
        have hs19 := hv54.mono hm19
        refine Ld (d_next hk73 (d_loud1 10 (by kernel_rfl) rfl (l_want S rfl rfl rfl hb14 (l_enter S (fun _ => run_call (vs := [u5, v54]) ⟨(S.tm rfl), (S.tm rfl), trivial⟩ Tryz.call16) (slices_Equal_Given_ok _ u5 r4.1 ((ownV_slcT GGiven.enc_ok hs4).mono (View.le_trans (View.le_trans (View.le_trans hl5 hl19) hl20) (S.le_new nil_sub))) v54 r16 ((ownV_slcT GGiven.enc_ok hs19).mono (S.le_new nil_sub)) _ hr17) rfl ?_))));clear S;intro v55 a w76 hv55 hk74 hn55 S
        subst hv55
        refine Ld (d_next hk74 (d_quiet 11 S hsel rfl rfl rfl (by kernel_rfl) (by kernel_rfl) rfl (fun _ hw => (rn_pick_b hb14 (S.tm rfl) (S.tm rfl))) ?_));clear S;intro a S
        refine d_quiet 12 S hsel rfl rfl rfl (by kernel_rfl) (by kernel_rfl) rfl (fun _ hw => (Rm (S.tm rfl))) ?_;clear S;intro a S
        refine d_quiet_g 13 S hsel rfl rfl rfl rfl hb15 rfl rfl (by kernel_rfl) (by kernel_rfl) rfl (fun _ hw => (Rm (S.tm rfl))) ?_;clear S;intro a S
        refine d_quiet_g 14 S hsel rfl rfl rfl rfl hb15 rfl rfl (by kernel_rfl) (by kernel_rfl) rfl (fun _ hw => (rn_ldA Tryz.isAgg27 Tryz.sizeOf27 (off := 0) (o := 0) (part := [u2.val, iV r1.1.Relay, iV r1.1.Most]) rfl rfl (S.tm rfl) ((S.blk_mem (i := 1) (cells := [u2.val, iV r1.1.Relay, iV r1.1.Most]) (b := b2) (T := 27) rfl (ne_nil (e' := .blk b2 [u2.val, iV r1.1.Relay, iV r1.1.Most] 27))).kept hw))) ?_;clear S;intro a S
        refine d_quiet_g 15 S hsel rfl rfl rfl rfl hb15 rfl rfl (by kernel_rfl) (by kernel_rfl) rfl (fun _ hw => (Rm (S.tm rfl))) ?_;clear S;intro a S
        refine d_loud1 16 (by kernel_rfl) rfl (l_want S rfl rfl rfl hb15 ?_)
        have hz24 := S.keep.size
        refine l_enter S (fun _ => run_call (vs := [.agg (R27.enc (R27.mk u2 r1.1.Relay r1.1.Most)).toArray, v2]) ⟨(S.tm rfl), (S.tm rfl), trivial⟩ Tryz.call19) (tumbref2_SwimmerSums_ok _ r1.1 (R27.mk u2 r1.1.Relay r1.1.Most) ⟨u2, rfl, (hs1.mono (View.le_trans (View.le_trans (View.le_trans (View.le_trans (View.le_trans (View.le_trans hl2 hl3) hl4) hl5) hl19) hl20) (S.le_new nil_sub)))⟩ v2 r2.1 ((ownV_slcT GScored.enc_ok hs2).mono (View.le_trans (View.le_trans (View.le_trans (View.le_trans (View.le_trans hl3 hl4) hl5) hl19) hl20) (S.le_new nil_sub))) _ hr18) rfl ?_;clear S;intro v56 a w77 hv56 hk75 hn56 S
        obtain ⟨φ21, hl21, hm20, S⟩ := S.see' hn56 hz24
        have hs20 := hv56.mono hm20
        refine Ld (d_next hk75 (d_loud1 17 (by kernel_rfl) rfl (l_want S rfl rfl rfl hb15 (l_enter S (fun _ => run_call (vs := [u6, v56]) ⟨(S.tm rfl), (S.tm rfl), trivial⟩ Tryz.call16) (slices_Equal_Given_ok _ u6 r5.1 ((ownV_slcT GGiven.enc_ok hs5).mono (View.le_trans (View.le_trans (View.le_trans hl19 hl20) hl21) (S.le_new nil_sub))) v56 r18 ((ownV_slcT GGiven.enc_ok hs20).mono (S.le_new nil_sub)) _ hr19) rfl ?_))));clear S;intro v57 a w78 hv57 hk76 hn57 S
        subst hv57
        refine Ld (d_next hk76 (d_quiet 18 S hsel rfl rfl rfl (by kernel_rfl) (by kernel_rfl) rfl (fun _ hw => (rn_pick_b hb15 (S.tm rfl) (S.tm rfl))) ?_));clear S;intro a S
        refine d_quiet 19 S hsel rfl rfl rfl (by kernel_rfl) (by kernel_rfl) rfl (fun _ hw => (Rm (S.tm rfl))) ?_;clear S;intro a S
        refine d_quiet_g 20 S hsel rfl rfl rfl rfl hb16 rfl rfl (by kernel_rfl) (by kernel_rfl) rfl (fun _ hw => (rn_ldA Tryz.isAgg36 Tryz.sizeOf36 (off := 0) (o := 0) (part := (GFraction.enc r6.1)) rfl rfl (S.tm rfl) ((S.blk_mem (i := 0) (cells := (GFraction.enc r6.1)) (b := b3) (T := 36) rfl (ne_nil (e' := .blk b3 (GFraction.enc r6.1) 36))).kept hw))) ?_;clear S;intro a S
        refine d_quiet_g 21 S hsel rfl rfl rfl rfl hb16 rfl rfl (by kernel_rfl) (by kernel_rfl) rfl (fun _ hw => (rn_ldA Tryz.isAgg27 Tryz.sizeOf27 (off := 0) (o := 0) (part := [u2.val, iV r1.1.Relay, iV r1.1.Most]) rfl rfl (S.tm rfl) ((S.blk_mem (i := 1) (cells := [u2.val, iV r1.1.Relay, iV r1.1.Most]) (b := b2) (T := 27) rfl (ne_nil (e' := .blk b2 [u2.val, iV r1.1.Relay, iV r1.1.Most] 27))).kept hw))) ?_;clear S;intro a S
        refine d_quiet_g 22 S hsel rfl rfl rfl rfl hb16 rfl rfl (by kernel_rfl) (by kernel_rfl) rfl (fun _ hw => (Rm (S.tm rfl))) ?_;clear S;intro a S
        refine d_loud1 23 (by kernel_rfl) rfl (l_want S rfl rfl rfl hb16 (l_enter S (fun _ => run_call (vs := [.agg (R27.enc (R27.mk u2 r1.1.Relay r1.1.Most)).toArray, v2]) ⟨(S.tm rfl), (S.tm rfl), trivial⟩ Tryz.call20) (tumbref2_AllPoints_ok _ r1.1 (R27.mk u2 r1.1.Relay r1.1.Most) ⟨u2, rfl, (hs1.mono (View.le_trans (View.le_trans (View.le_trans (View.le_trans (View.le_trans (View.le_trans (View.le_trans hl2 hl3) hl4) hl5) hl19) hl20) hl21) (S.le_new nil_sub)))⟩ v2 r2.1 ((ownV_slcT GScored.enc_ok hs2).mono (View.le_trans (View.le_trans (View.le_trans (View.le_trans (View.le_trans (View.le_trans hl3 hl4) hl5) hl19) hl20) hl21) (S.le_new nil_sub))) _ hr20) rfl ?_));clear S;intro v58 a w79 hv58 hk77 hn58 S
        subst hv58
        refine Ld (d_next hk77 (d_quiet_g 24 S hsel rfl rfl rfl rfl hb16 rfl rfl (by kernel_rfl) (by kernel_rfl) rfl (fun _ hw => (rn_eql_36 (m := r6.1) (n := r20) (S.tm rfl) (S.tm rfl))) ?_));clear S;intro a S
        refine d_quiet 25 S hsel rfl rfl rfl (by kernel_rfl) (by kernel_rfl) rfl (fun _ hw => (rn_pick_b hb16 (S.tm rfl) (S.tm rfl))) ?_;clear S;intro a S
        refine d_quiet 26 S hsel rfl rfl rfl (by kernel_rfl) (by kernel_rfl) rfl (fun _ hw => (Rm (S.tm rfl))) ?_;clear S;intro a S
        refine d_loud1 27 (by kernel_rfl) rfl (l_want S rfl rfl rfl hb17 (l_enter S (fun _ => run_call (vs := []) trivial Tryz.call15) (tumblaw2_pointed_ok _ _ hr21) rfl ?_));clear S;intro v59 a w80 hv59 hk78 hn59 S
        subst hv59
        refine Ld (d_next hk78 (d_rest [28, 29] hsel (by kernel_rfl) rfl ?_))
        clear hsel
        refine s_lv S rfl (rn_pick_b hb17 (S.tm rfl) (S.tm rfl)) rfl ?_;clear S;intro a S
        refine s_lv S rfl (Ra (S.tm rfl)) rfl ?_;clear S;intro a S
        refine s_done ?_
        replace S := S.nk [] [(2, bV r21)] [false, false] rfl ⟨rfl, trivial⟩
        refine Tn ?_
        exact ⟨r21, φ21, h, (View.le_trans (View.le_trans hl19 hl20) hl21), S.nf [] rfl ⟨rfl, trivial⟩⟩
       ·replace h := iteF h hb17
        refine d_region [] ([]) Tryz.mixed S rfl (by kernel_rfl) ?_;clear S;intro w88 hk86 hsel S
        refine d_quiet 0 S hsel rfl rfl rfl (by kernel_rfl) (by kernel_rfl) rfl (fun _ hw => (Rm (S.tm rfl))) ?_;clear S;intro a S
        refine d_quiet 1 S hsel rfl rfl rfl (by kernel_rfl) (by kernel_rfl) rfl (fun _ hw => (rn_ldA Tryz.isAgg27 Tryz.sizeOf27 (off := 0) (o := 0) (part := [u2.val, iV r1.1.Relay, iV r1.1.Most]) rfl rfl (S.tm rfl) ((S.blk_mem (i := 1) (cells := [u2.val, iV r1.1.Relay, iV r1.1.Most]) (b := b2) (T := 27) rfl (ne_nil (e' := .blk b2 [u2.val, iV r1.1.Relay, iV r1.1.Most] 27))).kept hw))) ?_;clear S;intro a S
        refine d_quiet 2 S hsel rfl rfl rfl (by kernel_rfl) (by kernel_rfl) rfl (fun _ hw => (Rm (S.tm rfl))) ?_;clear S;intro a S
        refine d_loud1 3 (by kernel_rfl) rfl ?_
        have hz28 := S.keep.size
        refine l_enter S (fun _ => run_call (vs := [.agg (R27.enc (R27.mk u2 r1.1.Relay r1.1.Most)).toArray, v2]) ⟨(S.tm rfl), (S.tm rfl), trivial⟩ Tryz.call17) (tumbref2_GivenOf_ok _ r1.1 (R27.mk u2 r1.1.Relay r1.1.Most) ⟨u2, rfl, (hs1.mono (View.le_trans (View.le_trans (View.le_trans (View.le_trans hl2 hl3) hl4) hl5) (S.le_new nil_sub)))⟩ v2 r2.1 ((ownV_slcT GScored.enc_ok hs2).mono (View.le_trans (View.le_trans (View.le_trans hl3 hl4) hl5) (S.le_new nil_sub))) _ hr14) rfl ?_;clear S;intro v67 a w89 hv67 hk87 hn67 S
        obtain ⟨φ25, hl25, hm24, S⟩ := S.see' hn67 hz28
        have hs24 := hv67.mono hm24
        refine Ld (d_next hk87 (d_loud1 4 (by kernel_rfl) rfl (l_enter S (fun _ => run_call (vs := [u4, v67]) ⟨(S.tm rfl), (S.tm rfl), trivial⟩ Tryz.call16) (slices_Equal_Given_ok _ u4 r3.1 ((ownV_slcT GGiven.enc_ok hs3).mono (View.le_trans (View.le_trans (View.le_trans hl4 hl5) hl25) (S.le_new nil_sub))) v67 r14 ((ownV_slcT GGiven.enc_ok hs24).mono (S.le_new nil_sub)) _ hr15) rfl ?_)));clear S;intro v68 a w90 hv68 hk88 hn68 S
        subst hv68
        refine Ld (d_next hk88 (d_quiet 5 S hsel rfl rfl rfl (by kernel_rfl) (by kernel_rfl) rfl (fun _ hw => (Rm (S.tm rfl))) ?_));clear S;intro a S
        refine d_quiet_g 6 S hsel rfl rfl rfl rfl hb14 rfl rfl (by kernel_rfl) (by kernel_rfl) rfl (fun _ hw => (Rm (S.tm rfl))) ?_;clear S;intro a S
        refine d_quiet_g 7 S hsel rfl rfl rfl rfl hb14 rfl rfl (by kernel_rfl) (by kernel_rfl) rfl (fun _ hw => (rn_ldA Tryz.isAgg27 Tryz.sizeOf27 (off := 0) (o := 0) (part := [u2.val, iV r1.1.Relay, iV r1.1.Most]) rfl rfl (S.tm rfl) ((S.blk_mem (i := 1) (cells := [u2.val, iV r1.1.Relay, iV r1.1.Most]) (b := b2) (T := 27) rfl (ne_nil (e' := .blk b2 [u2.val, iV r1.1.Relay, iV r1.1.Most] 27))).kept hw))) ?_;clear S;intro a S
        refine d_quiet_g 8 S hsel rfl rfl rfl rfl hb14 rfl rfl (by kernel_rfl) (by kernel_rfl) rfl (fun _ hw => (Rm (S.tm rfl))) ?_;clear S;intro a S
        refine d_loud1 9 (by kernel_rfl) rfl (l_want S rfl rfl rfl hb14 ?_)
        have hz29 := S.keep.size
        refine l_enter S (fun _ => run_call (vs := [.agg (R27.enc (R27.mk u2 r1.1.Relay r1.1.Most)).toArray, v2]) ⟨(S.tm rfl), (S.tm rfl), trivial⟩ Tryz.call18) (tumbref2_ClubSums_ok _ r1.1 (R27.mk u2 r1.1.Relay r1.1.Most) ⟨u2, rfl, (hs1.mono (View.le_trans (View.le_trans (View.le_trans (View.le_trans (View.le_trans hl2 hl3) hl4) hl5) hl25) (S.le_new nil_sub)))⟩ v2 r2.1 ((ownV_slcT GScored.enc_ok hs2).mono (View.le_trans (View.le_trans (View.le_trans (View.le_trans hl3 hl4) hl5) hl25) (S.le_new nil_sub))) _ hr16) rfl ?_;clear S;intro v69 a w91 hv69 hk89 hn69 S
        obtain ⟨φ26, hl26, hm25, S⟩ := S.see' hn69 hz29
        have hs25 := hv69.mono hm25
        refine Ld (d_next hk89 (d_loud1 10 (by kernel_rfl) rfl (l_want S rfl rfl rfl hb14 (l_enter S (fun _ => run_call (vs := [u5, v69]) ⟨(S.tm rfl), (S.tm rfl), trivial⟩ Tryz.call16) (slices_Equal_Given_ok _ u5 r4.1 ((ownV_slcT GGiven.enc_ok hs4).mono (View.le_trans (View.le_trans (View.le_trans hl5 hl25) hl26) (S.le_new nil_sub))) v69 r16 ((ownV_slcT GGiven.enc_ok hs25).mono (S.le_new nil_sub)) _ hr17) rfl ?_))));clear S;intro v70 a w92 hv70 hk90 hn70 S
        subst hv70
        refine Ld (d_next hk90 (d_quiet 11 S hsel rfl rfl rfl (by kernel_rfl) (by kernel_rfl) rfl (fun _ hw => (rn_pick_b hb14 (S.tm rfl) (S.tm rfl))) ?_));clear S;intro a S
        refine d_quiet 12 S hsel rfl rfl rfl (by kernel_rfl) (by kernel_rfl) rfl (fun _ hw => (Rm (S.tm rfl))) ?_;clear S;intro a S
        refine d_quiet_g 13 S hsel rfl rfl rfl rfl hb15 rfl rfl (by kernel_rfl) (by kernel_rfl) rfl (fun _ hw => (Rm (S.tm rfl))) ?_;clear S;intro a S
        refine d_quiet_g 14 S hsel rfl rfl rfl rfl hb15 rfl rfl (by kernel_rfl) (by kernel_rfl) rfl (fun _ hw => (rn_ldA Tryz.isAgg27 Tryz.sizeOf27 (off := 0) (o := 0) (part := [u2.val, iV r1.1.Relay, iV r1.1.Most]) rfl rfl (S.tm rfl) ((S.blk_mem (i := 1) (cells := [u2.val, iV r1.1.Relay, iV r1.1.Most]) (b := b2) (T := 27) rfl (ne_nil (e' := .blk b2 [u2.val, iV r1.1.Relay, iV r1.1.Most] 27))).kept hw))) ?_;clear S;intro a S
        refine d_quiet_g 15 S hsel rfl rfl rfl rfl hb15 rfl rfl (by kernel_rfl) (by kernel_rfl) rfl (fun _ hw => (Rm (S.tm rfl))) ?_;clear S;intro a S
        refine d_loud1 16 (by kernel_rfl) rfl (l_want S rfl rfl rfl hb15 ?_)
        have hz30 := S.keep.size
        refine l_enter S (fun _ => run_call (vs := [.agg (R27.enc (R27.mk u2 r1.1.Relay r1.1.Most)).toArray, v2]) ⟨(S.tm rfl), (S.tm rfl), trivial⟩ Tryz.call19) (tumbref2_SwimmerSums_ok _ r1.1 (R27.mk u2 r1.1.Relay r1.1.Most) ⟨u2, rfl, (hs1.mono (View.le_trans (View.le_trans (View.le_trans (View.le_trans (View.le_trans (View.le_trans hl2 hl3) hl4) hl5) hl25) hl26) (S.le_new nil_sub)))⟩ v2 r2.1 ((ownV_slcT GScored.enc_ok hs2).mono (View.le_trans (View.le_trans (View.le_trans (View.le_trans (View.le_trans hl3 hl4) hl5) hl25) hl26) (S.le_new nil_sub))) _ hr18) rfl ?_;clear S;intro v71 a w93 hv71 hk91 hn71 S
        obtain ⟨φ27, hl27, hm26, S⟩ := S.see' hn71 hz30
        have hs26 := hv71.mono hm26
        refine Ld (d_next hk91 (d_loud1 17 (by kernel_rfl) rfl (l_want S rfl rfl rfl hb15 (l_enter S (fun _ => run_call (vs := [u6, v71]) ⟨(S.tm rfl), (S.tm rfl), trivial⟩ Tryz.call16) (slices_Equal_Given_ok _ u6 r5.1 ((ownV_slcT GGiven.enc_ok hs5).mono (View.le_trans (View.le_trans (View.le_trans hl25 hl26) hl27) (S.le_new nil_sub))) v71 r18 ((ownV_slcT GGiven.enc_ok hs26).mono (S.le_new nil_sub)) _ hr19) rfl ?_))));clear S;intro v72 a w94 hv72 hk92 hn72 S
        subst hv72
        refine Ld (d_next hk92 (d_quiet 18 S hsel rfl rfl rfl (by kernel_rfl) (by kernel_rfl) rfl (fun _ hw => (rn_pick_b hb15 (S.tm rfl) (S.tm rfl))) ?_));clear S;intro a S
        refine d_quiet 19 S hsel rfl rfl rfl (by kernel_rfl) (by kernel_rfl) rfl (fun _ hw => (Rm (S.tm rfl))) ?_;clear S;intro a S
        refine d_quiet_g 20 S hsel rfl rfl rfl rfl hb16 rfl rfl (by kernel_rfl) (by kernel_rfl) rfl (fun _ hw => (rn_ldA Tryz.isAgg36 Tryz.sizeOf36 (off := 0) (o := 0) (part := (GFraction.enc r6.1)) rfl rfl (S.tm rfl) ((S.blk_mem (i := 0) (cells := (GFraction.enc r6.1)) (b := b3) (T := 36) rfl (ne_nil (e' := .blk b3 (GFraction.enc r6.1) 36))).kept hw))) ?_;clear S;intro a S
        refine d_quiet_g 21 S hsel rfl rfl rfl rfl hb16 rfl rfl (by kernel_rfl) (by kernel_rfl) rfl (fun _ hw => (rn_ldA Tryz.isAgg27 Tryz.sizeOf27 (off := 0) (o := 0) (part := [u2.val, iV r1.1.Relay, iV r1.1.Most]) rfl rfl (S.tm rfl) ((S.blk_mem (i := 1) (cells := [u2.val, iV r1.1.Relay, iV r1.1.Most]) (b := b2) (T := 27) rfl (ne_nil (e' := .blk b2 [u2.val, iV r1.1.Relay, iV r1.1.Most] 27))).kept hw))) ?_;clear S;intro a S
        refine d_quiet_g 22 S hsel rfl rfl rfl rfl hb16 rfl rfl (by kernel_rfl) (by kernel_rfl) rfl (fun _ hw => (Rm (S.tm rfl))) ?_;clear S;intro a S
        refine d_loud1 23 (by kernel_rfl) rfl (l_want S rfl rfl rfl hb16 (l_enter S (fun _ => run_call (vs := [.agg (R27.enc (R27.mk u2 r1.1.Relay r1.1.Most)).toArray, v2]) ⟨(S.tm rfl), (S.tm rfl), trivial⟩ Tryz.call20) (tumbref2_AllPoints_ok _ r1.1 (R27.mk u2 r1.1.Relay r1.1.Most) ⟨u2, rfl, (hs1.mono (View.le_trans (View.le_trans (View.le_trans (View.le_trans (View.le_trans (View.le_trans (View.le_trans hl2 hl3) hl4) hl5) hl25) hl26) hl27) (S.le_new nil_sub)))⟩ v2 r2.1 ((ownV_slcT GScored.enc_ok hs2).mono (View.le_trans (View.le_trans (View.le_trans (View.le_trans (View.le_trans (View.le_trans hl3 hl4) hl5) hl25) hl26) hl27) (S.le_new nil_sub))) _ hr20) rfl ?_));clear S;intro v73 a w95 hv73 hk93 hn73 S
        subst hv73
        refine Ld (d_next hk93 (d_rest [24, 25, 26, 27, 28, 29] hsel (by kernel_rfl) rfl ?_))
        clear hsel
        refine s_want S rfl rfl rfl rfl hb16 (s_lv0 S (rn_eql_36 (m := r6.1) (n := r20) (S.tm rfl) (S.tm rfl)) rfl ?_);clear S;intro a S
        refine s_lv S rfl (rn_pick_b hb16 (S.tm rfl) (S.tm rfl)) rfl ?_;clear S;intro a S
        refine s_lv S rfl (Rm (S.tm rfl)) rfl ?_;clear S;intro a S
        refine s_skip S rfl rfl rfl rfl (neq_f hb17) rfl ?_ rfl;clear S;intro a S
        refine s_lv S rfl (rn_pick_c hb17 (S.tm rfl) rfl) rfl ?_;clear S;intro a S
        refine s_lv S rfl (Ra (S.tm rfl)) rfl ?_;clear S;intro a S
        refine s_done ?_
        replace S := S.nk [] [(2, bV false)] [false, false] rfl ⟨rfl, trivial⟩
        refine Tn ?_
        exact ⟨false, φ27, h, (View.le_trans (View.le_trans hl25 hl26) hl27), S.nf [] rfl ⟨rfl, trivial⟩⟩
      ·replace h := iteF h hb16
       rcases Bool.eq_false_or_eq_true false with hb18 | hb18
       ·replace h := iteT h hb18
        obtain ⟨r22, hr22, h⟩ := bindE h
        refine d_region [] ([]) Tryz.mixed S rfl (by kernel_rfl) ?_;clear S;intro w109 hk107 hsel S
        refine d_quiet 0 S hsel rfl rfl rfl (by kernel_rfl) (by kernel_rfl) rfl (fun _ hw => (Rm (S.tm rfl))) ?_;clear S;intro a S
        refine d_quiet 1 S hsel rfl rfl rfl (by kernel_rfl) (by kernel_rfl) rfl (fun _ hw => (rn_ldA Tryz.isAgg27 Tryz.sizeOf27 (off := 0) (o := 0) (part := [u2.val, iV r1.1.Relay, iV r1.1.Most]) rfl rfl (S.tm rfl) ((S.blk_mem (i := 1) (cells := [u2.val, iV r1.1.Relay, iV r1.1.Most]) (b := b2) (T := 27) rfl (ne_nil (e' := .blk b2 [u2.val, iV r1.1.Relay, iV r1.1.Most] 27))).kept hw))) ?_;clear S;intro a S
        refine d_quiet 2 S hsel rfl rfl rfl (by kernel_rfl) (by kernel_rfl) rfl (fun _ hw => (Rm (S.tm rfl))) ?_;clear S;intro a S
        refine d_loud1 3 (by kernel_rfl) rfl ?_
        have hz37 := S.keep.size
        refine l_enter S (fun _ => run_call (vs := [.agg (R27.enc (R27.mk u2 r1.1.Relay r1.1.Most)).toArray, v2]) ⟨(S.tm rfl), (S.tm rfl), trivial⟩ Tryz.call17) (tumbref2_GivenOf_ok _ r1.1 (R27.mk u2 r1.1.Relay r1.1.Most) ⟨u2, rfl, (hs1.mono (View.le_trans (View.le_trans (View.le_trans (View.le_trans hl2 hl3) hl4) hl5) (S.le_new nil_sub)))⟩ v2 r2.1 ((ownV_slcT GScored.enc_ok hs2).mono (View.le_trans (View.le_trans (View.le_trans hl3 hl4) hl5) (S.le_new nil_sub))) _ hr14) rfl ?_;clear S;intro v87 a w110 hv87 hk108 hn87 S
        obtain ⟨φ34, hl34, hm33, S⟩ := S.see' hn87 hz37
        have hs33 := hv87.mono hm33
        refine Ld (d_next hk108 (d_loud1 4 (by kernel_rfl) rfl (l_enter S (fun _ => run_call (vs := [u4, v87]) ⟨(S.tm rfl), (S.tm rfl), trivial⟩ Tryz.call16) (slices_Equal_Given_ok _ u4 r3.1 ((ownV_slcT GGiven.enc_ok hs3).mono (View.le_trans (View.le_trans (View.le_trans hl4 hl5) hl34) (S.le_new nil_sub))) v87 r14 ((ownV_slcT GGiven.enc_ok hs33).mono (S.le_new nil_sub)) _ hr15) rfl ?_)));clear S;intro v88 a w111 hv88 hk109 hn88 S
        subst hv88
        refine Ld (d_next hk109 (d_quiet 5 S hsel rfl rfl rfl (by kernel_rfl) (by kernel_rfl) rfl (fun _ hw => (Rm (S.tm rfl))) ?_));clear S;intro a S
        refine d_quiet_g 6 S hsel rfl rfl rfl rfl hb14 rfl rfl (by kernel_rfl) (by kernel_rfl) rfl (fun _ hw => (Rm (S.tm rfl))) ?_;clear S;intro a S
        refine d_quiet_g 7 S hsel rfl rfl rfl rfl hb14 rfl rfl (by kernel_rfl) (by kernel_rfl) rfl (fun _ hw => (rn_ldA Tryz.isAgg27 Tryz.sizeOf27 (off := 0) (o := 0) (part := [u2.val, iV r1.1.Relay, iV r1.1.Most]) rfl rfl (S.tm rfl) ((S.blk_mem (i := 1) (cells := [u2.val, iV r1.1.Relay, iV r1.1.Most]) (b := b2) (T := 27) rfl (ne_nil (e' := .blk b2 [u2.val, iV r1.1.Relay, iV r1.1.Most] 27))).kept hw))) ?_;clear S;intro a S
        refine d_quiet_g 8 S hsel rfl rfl rfl rfl hb14 rfl rfl (by kernel_rfl) (by kernel_rfl) rfl (fun _ hw => (Rm (S.tm rfl))) ?_;clear S;intro a S
        refine d_loud1 9 (by kernel_rfl) rfl (l_want S rfl rfl rfl hb14 ?_)
        have hz38 := S.keep.size
        refine l_enter S (fun _ => run_call (vs := [.agg (R27.enc (R27.mk u2 r1.1.Relay r1.1.Most)).toArray, v2]) ⟨(S.tm rfl), (S.tm rfl), trivial⟩ Tryz.call18) (tumbref2_ClubSums_ok _ r1.1 (R27.mk u2 r1.1.Relay r1.1.Most) ⟨u2, rfl, (hs1.mono (View.le_trans (View.le_trans (View.le_trans (View.le_trans (View.le_trans hl2 hl3) hl4) hl5) hl34) (S.le_new nil_sub)))⟩ v2 r2.1 ((ownV_slcT GScored.enc_ok hs2).mono (View.le_trans (View.le_trans (View.le_trans (View.le_trans hl3 hl4) hl5) hl34) (S.le_new nil_sub))) _ hr16) rfl ?_;clear S;intro v89 a w112 hv89 hk110 hn89 S
        obtain ⟨φ35, hl35, hm34, S⟩ := S.see' hn89 hz38
        have hs34 := hv89.mono hm34
        refine Ld (d_next hk110 (d_loud1 10 (by kernel_rfl) rfl (l_want S rfl rfl rfl hb14 (l_enter S (fun _ => run_call (vs := [u5, v89]) ⟨(S.tm rfl), (S.tm rfl), trivial⟩ Tryz.call16) (slices_Equal_Given_ok _ u5 r4.1 ((ownV_slcT GGiven.enc_ok hs4).mono (View.le_trans (View.le_trans (View.le_trans hl5 hl34) hl35) (S.le_new nil_sub))) v89 r16 ((ownV_slcT GGiven.enc_ok hs34).mono (S.le_new nil_sub)) _ hr17) rfl ?_))));clear S;intro v90 a w113 hv90 hk111 hn90 S
        subst hv90
        refine Ld (d_next hk111 (d_quiet 11 S hsel rfl rfl rfl (by kernel_rfl) (by kernel_rfl) rfl (fun _ hw => (rn_pick_b hb14 (S.tm rfl) (S.tm rfl))) ?_));clear S;intro a S
        refine d_quiet 12 S hsel rfl rfl rfl (by kernel_rfl) (by kernel_rfl) rfl (fun _ hw => (Rm (S.tm rfl))) ?_;clear S;intro a S
        refine d_quiet_g 13 S hsel rfl rfl rfl rfl hb15 rfl rfl (by kernel_rfl) (by kernel_rfl) rfl (fun _ hw => (Rm (S.tm rfl))) ?_;clear S;intro a S
        refine d_quiet_g 14 S hsel rfl rfl rfl rfl hb15 rfl rfl (by kernel_rfl) (by kernel_rfl) rfl (fun _ hw => (rn_ldA Tryz.isAgg27 Tryz.sizeOf27 (off := 0) (o := 0) (part := [u2.val, iV r1.1.Relay, iV r1.1.Most]) rfl rfl (S.tm rfl) ((S.blk_mem (i := 1) (cells := [u2.val, iV r1.1.Relay, iV r1.1.Most]) (b := b2) (T := 27) rfl (ne_nil (e' := .blk b2 [u2.val, iV r1.1.Relay, iV r1.1.Most] 27))).kept hw))) ?_;clear S;intro a S
        refine d_quiet_g 15 S hsel rfl rfl rfl rfl hb15 rfl rfl (by kernel_rfl) (by kernel_rfl) rfl (fun _ hw => (Rm (S.tm rfl))) ?_;clear S;intro a S
        refine d_loud1 16 (by kernel_rfl) rfl (l_want S rfl rfl rfl hb15 ?_)
        have hz39 := S.keep.size
        refine l_enter S (fun _ => run_call (vs := [.agg (R27.enc (R27.mk u2 r1.1.Relay r1.1.Most)).toArray, v2]) ⟨(S.tm rfl), (S.tm rfl), trivial⟩ Tryz.call19) (tumbref2_SwimmerSums_ok _ r1.1 (R27.mk u2 r1.1.Relay r1.1.Most) ⟨u2, rfl, (hs1.mono (View.le_trans (View.le_trans (View.le_trans (View.le_trans (View.le_trans (View.le_trans hl2 hl3) hl4) hl5) hl34) hl35) (S.le_new nil_sub)))⟩ v2 r2.1 ((ownV_slcT GScored.enc_ok hs2).mono (View.le_trans (View.le_trans (View.le_trans (View.le_trans (View.le_trans hl3 hl4) hl5) hl34) hl35) (S.le_new nil_sub))) _ hr18) rfl ?_;clear S;intro v91 a w114 hv91 hk112 hn91 S
        obtain ⟨φ36, hl36, hm35, S⟩ := S.see' hn91 hz39
        have hs35 := hv91.mono hm35
        refine Ld (d_next hk112 (d_loud1 17 (by kernel_rfl) rfl (l_want S rfl rfl rfl hb15 (l_enter S (fun _ => run_call (vs := [u6, v91]) ⟨(S.tm rfl), (S.tm rfl), trivial⟩ Tryz.call16) (slices_Equal_Given_ok _ u6 r5.1 ((ownV_slcT GGiven.enc_ok hs5).mono (View.le_trans (View.le_trans (View.le_trans hl34 hl35) hl36) (S.le_new nil_sub))) v91 r18 ((ownV_slcT GGiven.enc_ok hs35).mono (S.le_new nil_sub)) _ hr19) rfl ?_))));clear S;intro v92 a w115 hv92 hk113 hn92 S
        subst hv92
        refine Ld (d_next hk113 (d_quiet 18 S hsel rfl rfl rfl (by kernel_rfl) (by kernel_rfl) rfl (fun _ hw => (rn_pick_b hb15 (S.tm rfl) (S.tm rfl))) ?_));clear S;intro a S
        refine d_quiet 19 S hsel rfl rfl rfl (by kernel_rfl) (by kernel_rfl) rfl (fun _ hw => (Rm (S.tm rfl))) ?_;clear S;intro a S
        refine d_skip 20 S hsel rfl rfl rfl rfl (neq_f hb16) rfl (by kernel_rfl) (by kernel_rfl) rfl ?_;clear S;intro a S
        refine d_skip 21 S hsel rfl rfl rfl rfl (neq_f hb16) rfl (by kernel_rfl) (by kernel_rfl) rfl ?_;clear S;intro a S
        refine d_skip 22 S hsel rfl rfl rfl rfl (neq_f hb16) rfl (by kernel_rfl) (by kernel_rfl) rfl ?_;clear S;intro a S
        refine d_skip 23 S hsel rfl rfl rfl rfl (neq_f hb16) rfl (by kernel_rfl) (by kernel_rfl) rfl ?_;clear S;intro a S
        refine d_skip 24 S hsel rfl rfl rfl rfl (neq_f hb16) rfl (by kernel_rfl) (by kernel_rfl) rfl ?_;clear S;intro a S
        refine d_quiet 25 S hsel rfl rfl rfl (by kernel_rfl) (by kernel_rfl) rfl (fun _ hw => (rn_pick_c hb16 (S.tm rfl) rfl)) ?_;clear S;intro a S
        refine d_quiet 26 S hsel rfl rfl rfl (by kernel_rfl) (by kernel_rfl) rfl (fun _ hw => (Rm (S.tm rfl))) ?_;clear S;intro a S
        refine d_loud1 27 (by kernel_rfl) rfl (l_want S rfl rfl rfl hb18 (l_enter S (fun _ => run_call (vs := []) trivial Tryz.call15) (tumblaw2_pointed_ok _ _ hr22) rfl ?_));clear S;intro v93 a w116 hv93 hk114 hn93 S
        subst hv93
        refine Ld (d_next hk114 (d_rest [28, 29] hsel (by kernel_rfl) rfl ?_))
        clear hsel
        refine s_lv S rfl (rn_pick_b hb18 (S.tm rfl) (S.tm rfl)) rfl ?_;clear S;intro a S
        refine s_lv S rfl (Ra (S.tm rfl)) rfl ?_;clear S;intro a S
        refine s_done ?_
        replace S := S.nk [] [(2, bV r22)] [false, false] rfl ⟨rfl, trivial⟩
        refine Tn ?_
        exact ⟨r22, φ36, h, (View.le_trans (View.le_trans hl34 hl35) hl36), S.nf [] rfl ⟨rfl, trivial⟩⟩
       ·replace h := iteF h hb18
        refine d_region [] ([]) Tryz.mixed S rfl (by kernel_rfl) ?_;clear S;intro w123 hk121 hsel S
        refine d_quiet 0 S hsel rfl rfl rfl (by kernel_rfl) (by kernel_rfl) rfl (fun _ hw => (Rm (S.tm rfl))) ?_;clear S;intro a S
        refine d_quiet 1 S hsel rfl rfl rfl (by kernel_rfl) (by kernel_rfl) rfl (fun _ hw => (rn_ldA Tryz.isAgg27 Tryz.sizeOf27 (off := 0) (o := 0) (part := [u2.val, iV r1.1.Relay, iV r1.1.Most]) rfl rfl (S.tm rfl) ((S.blk_mem (i := 1) (cells := [u2.val, iV r1.1.Relay, iV r1.1.Most]) (b := b2) (T := 27) rfl (ne_nil (e' := .blk b2 [u2.val, iV r1.1.Relay, iV r1.1.Most] 27))).kept hw))) ?_;clear S;intro a S
        refine d_quiet 2 S hsel rfl rfl rfl (by kernel_rfl) (by kernel_rfl) rfl (fun _ hw => (Rm (S.tm rfl))) ?_;clear S;intro a S
        refine d_loud1 3 (by kernel_rfl) rfl ?_
        have hz43 := S.keep.size
        refine l_enter S (fun _ => run_call (vs := [.agg (R27.enc (R27.mk u2 r1.1.Relay r1.1.Most)).toArray, v2]) ⟨(S.tm rfl), (S.tm rfl), trivial⟩ Tryz.call17) (tumbref2_GivenOf_ok _ r1.1 (R27.mk u2 r1.1.Relay r1.1.Most) ⟨u2, rfl, (hs1.mono (View.le_trans (View.le_trans (View.le_trans (View.le_trans hl2 hl3) hl4) hl5) (S.le_new nil_sub)))⟩ v2 r2.1 ((ownV_slcT GScored.enc_ok hs2).mono (View.le_trans (View.le_trans (View.le_trans hl3 hl4) hl5) (S.le_new nil_sub))) _ hr14) rfl ?_;clear S;intro v100 a w124 hv100 hk122 hn100 S
        obtain ⟨φ40, hl40, hm39, S⟩ := S.see' hn100 hz43
        have hs39 := hv100.mono hm39
        refine Ld (d_next hk122 (d_loud1 4 (by kernel_rfl) rfl (l_enter S (fun _ => run_call (vs := [u4, v100]) ⟨(S.tm rfl), (S.tm rfl), trivial⟩ Tryz.call16) (slices_Equal_Given_ok _ u4 r3.1 ((ownV_slcT GGiven.enc_ok hs3).mono (View.le_trans (View.le_trans (View.le_trans hl4 hl5) hl40) (S.le_new nil_sub))) v100 r14 ((ownV_slcT GGiven.enc_ok hs39).mono (S.le_new nil_sub)) _ hr15) rfl ?_)));clear S;intro v101 a w125 hv101 hk123 hn101 S
        subst hv101
        refine Ld (d_next hk123 (d_quiet 5 S hsel rfl rfl rfl (by kernel_rfl) (by kernel_rfl) rfl (fun _ hw => (Rm (S.tm rfl))) ?_));clear S;intro a S
        refine d_quiet_g 6 S hsel rfl rfl rfl rfl hb14 rfl rfl (by kernel_rfl) (by kernel_rfl) rfl (fun _ hw => (Rm (S.tm rfl))) ?_;clear S;intro a S
        refine d_quiet_g 7 S hsel rfl rfl rfl rfl hb14 rfl rfl (by kernel_rfl) (by kernel_rfl) rfl (fun _ hw => (rn_ldA Tryz.isAgg27 Tryz.sizeOf27 (off := 0) (o := 0) (part := [u2.val, iV r1.1.Relay, iV r1.1.Most]) rfl rfl (S.tm rfl) ((S.blk_mem (i := 1) (cells := [u2.val, iV r1.1.Relay, iV r1.1.Most]) (b := b2) (T := 27) rfl (ne_nil (e' := .blk b2 [u2.val, iV r1.1.Relay, iV r1.1.Most] 27))).kept hw))) ?_;clear S;intro a S
        refine d_quiet_g 8 S hsel rfl rfl rfl rfl hb14 rfl rfl (by kernel_rfl) (by kernel_rfl) rfl (fun _ hw => (Rm (S.tm rfl))) ?_;clear S;intro a S
        refine d_loud1 9 (by kernel_rfl) rfl (l_want S rfl rfl rfl hb14 ?_)
        have hz44 := S.keep.size
        refine l_enter S (fun _ => run_call (vs := [.agg (R27.enc (R27.mk u2 r1.1.Relay r1.1.Most)).toArray, v2]) ⟨(S.tm rfl), (S.tm rfl), trivial⟩ Tryz.call18) (tumbref2_ClubSums_ok _ r1.1 (R27.mk u2 r1.1.Relay r1.1.Most) ⟨u2, rfl, (hs1.mono (View.le_trans (View.le_trans (View.le_trans (View.le_trans (View.le_trans hl2 hl3) hl4) hl5) hl40) (S.le_new nil_sub)))⟩ v2 r2.1 ((ownV_slcT GScored.enc_ok hs2).mono (View.le_trans (View.le_trans (View.le_trans (View.le_trans hl3 hl4) hl5) hl40) (S.le_new nil_sub))) _ hr16) rfl ?_;clear S;intro v102 a w126 hv102 hk124 hn102 S
        obtain ⟨φ41, hl41, hm40, S⟩ := S.see' hn102 hz44
        have hs40 := hv102.mono hm40
        refine Ld (d_next hk124 (d_loud1 10 (by kernel_rfl) rfl (l_want S rfl rfl rfl hb14 (l_enter S (fun _ => run_call (vs := [u5, v102]) ⟨(S.tm rfl), (S.tm rfl), trivial⟩ Tryz.call16) (slices_Equal_Given_ok _ u5 r4.1 ((ownV_slcT GGiven.enc_ok hs4).mono (View.le_trans (View.le_trans (View.le_trans hl5 hl40) hl41) (S.le_new nil_sub))) v102 r16 ((ownV_slcT GGiven.enc_ok hs40).mono (S.le_new nil_sub)) _ hr17) rfl ?_))));clear S;intro v103 a w127 hv103 hk125 hn103 S
        subst hv103
        refine Ld (d_next hk125 (d_quiet 11 S hsel rfl rfl rfl (by kernel_rfl) (by kernel_rfl) rfl (fun _ hw => (rn_pick_b hb14 (S.tm rfl) (S.tm rfl))) ?_));clear S;intro a S
        refine d_quiet 12 S hsel rfl rfl rfl (by kernel_rfl) (by kernel_rfl) rfl (fun _ hw => (Rm (S.tm rfl))) ?_;clear S;intro a S
        refine d_quiet_g 13 S hsel rfl rfl rfl rfl hb15 rfl rfl (by kernel_rfl) (by kernel_rfl) rfl (fun _ hw => (Rm (S.tm rfl))) ?_;clear S;intro a S
        refine d_quiet_g 14 S hsel rfl rfl rfl rfl hb15 rfl rfl (by kernel_rfl) (by kernel_rfl) rfl (fun _ hw => (rn_ldA Tryz.isAgg27 Tryz.sizeOf27 (off := 0) (o := 0) (part := [u2.val, iV r1.1.Relay, iV r1.1.Most]) rfl rfl (S.tm rfl) ((S.blk_mem (i := 1) (cells := [u2.val, iV r1.1.Relay, iV r1.1.Most]) (b := b2) (T := 27) rfl (ne_nil (e' := .blk b2 [u2.val, iV r1.1.Relay, iV r1.1.Most] 27))).kept hw))) ?_;clear S;intro a S
        refine d_quiet_g 15 S hsel rfl rfl rfl rfl hb15 rfl rfl (by kernel_rfl) (by kernel_rfl) rfl (fun _ hw => (Rm (S.tm rfl))) ?_;clear S;intro a S
        refine d_loud1 16 (by kernel_rfl) rfl (l_want S rfl rfl rfl hb15 ?_)
        have hz45 := S.keep.size
        refine l_enter S (fun _ => run_call (vs := [.agg (R27.enc (R27.mk u2 r1.1.Relay r1.1.Most)).toArray, v2]) ⟨(S.tm rfl), (S.tm rfl), trivial⟩ Tryz.call19) (tumbref2_SwimmerSums_ok _ r1.1 (R27.mk u2 r1.1.Relay r1.1.Most) ⟨u2, rfl, (hs1.mono (View.le_trans (View.le_trans (View.le_trans (View.le_trans (View.le_trans (View.le_trans hl2 hl3) hl4) hl5) hl40) hl41) (S.le_new nil_sub)))⟩ v2 r2.1 ((ownV_slcT GScored.enc_ok hs2).mono (View.le_trans (View.le_trans (View.le_trans (View.le_trans (View.le_trans hl3 hl4) hl5) hl40) hl41) (S.le_new nil_sub))) _ hr18) rfl ?_;clear S;intro v104 a w128 hv104 hk126 hn104 S
        obtain ⟨φ42, hl42, hm41, S⟩ := S.see' hn104 hz45
        have hs41 := hv104.mono hm41
        refine Ld (d_next hk126 (d_loud1 17 (by kernel_rfl) rfl (l_want S rfl rfl rfl hb15 (l_enter S (fun _ => run_call (vs := [u6, v104]) ⟨(S.tm rfl), (S.tm rfl), trivial⟩ Tryz.call16) (slices_Equal_Given_ok _ u6 r5.1 ((ownV_slcT GGiven.enc_ok hs5).mono (View.le_trans (View.le_trans (View.le_trans hl40 hl41) hl42) (S.le_new nil_sub))) v104 r18 ((ownV_slcT GGiven.enc_ok hs41).mono (S.le_new nil_sub)) _ hr19) rfl ?_))));clear S;intro v105 a w129 hv105 hk127 hn105 S
        subst hv105
        refine Ld (d_next hk127 (d_rest [18, 19, 20, 21, 22, 23, 24, 25, 26, 27, 28, 29] hsel (by kernel_rfl) rfl ?_))
        clear hsel
        refine s_lv S rfl (rn_pick_b hb15 (S.tm rfl) (S.tm rfl)) rfl ?_;clear S;intro a S
        refine s_lv S rfl (Rm (S.tm rfl)) rfl ?_;clear S;intro a S
        iterate 5 (refine s_skip S rfl rfl rfl rfl (neq_f hb16) rfl ?_ rfl;clear S;intro a S)
        refine s_lv S rfl (rn_pick_c hb16 (S.tm rfl) rfl) rfl ?_;clear S;intro a S
        refine s_lv S rfl (Rm (S.tm rfl)) rfl ?_;clear S;intro a S
        refine s_skip S rfl rfl rfl rfl (neq_f hb18) rfl ?_ rfl;clear S;intro a S
        refine s_lv S rfl (rn_pick_c hb18 (S.tm rfl) rfl) rfl ?_;clear S;intro a S
        refine s_lv S rfl (Ra (S.tm rfl)) rfl ?_;clear S;intro a S
        refine s_done ?_
        replace S := S.nk [] [(2, bV false)] [false, false] rfl ⟨rfl, trivial⟩
        refine Tn ?_
        exact ⟨false, φ42, h, (View.le_trans (View.le_trans hl40 hl41) hl42), S.nf [] rfl ⟨rfl, trivial⟩⟩
     ·replace h := iteF h hb15
      rcases Bool.eq_false_or_eq_true false with hb19 | hb19
      ·replace h := iteT h hb19
       obtain ⟨r23, hr23, h⟩ := bindE h
       rcases Bool.eq_false_or_eq_true (decide (r6.1 = r23)) with hb20 | hb20
       ·replace h := iteT h hb20
        obtain ⟨r24, hr24, h⟩ := bindE h
        refine d_region [] ([]) Tryz.mixed S rfl (by kernel_rfl) ?_;clear S;intro w145 hk143 hsel S
        refine d_quiet 0 S hsel rfl rfl rfl (by kernel_rfl) (by kernel_rfl) rfl (fun _ hw => (Rm (S.tm rfl))) ?_;clear S;intro a S
        refine d_quiet 1 S hsel rfl rfl rfl (by kernel_rfl) (by kernel_rfl) rfl (fun _ hw => (rn_ldA Tryz.isAgg27 Tryz.sizeOf27 (off := 0) (o := 0) (part := [u2.val, iV r1.1.Relay, iV r1.1.Most]) rfl rfl (S.tm rfl) ((S.blk_mem (i := 1) (cells := [u2.val, iV r1.1.Relay, iV r1.1.Most]) (b := b2) (T := 27) rfl (ne_nil (e' := .blk b2 [u2.val, iV r1.1.Relay, iV r1.1.Most] 27))).kept hw))) ?_;clear S;intro a S
        refine d_quiet 2 S hsel rfl rfl rfl (by kernel_rfl) (by kernel_rfl) rfl (fun _ hw => (Rm (S.tm rfl))) ?_;clear S;intro a S
        refine d_loud1 3 (by kernel_rfl) rfl ?_
        have hz52 := S.keep.size
        refine l_enter S (fun _ => run_call (vs := [.agg (R27.enc (R27.mk u2 r1.1.Relay r1.1.Most)).toArray, v2]) ⟨(S.tm rfl), (S.tm rfl), trivial⟩ Tryz.call17) (tumbref2_GivenOf_ok _ r1.1 (R27.mk u2 r1.1.Relay r1.1.Most) ⟨u2, rfl, (hs1.mono (View.le_trans (View.le_trans (View.le_trans (View.le_trans hl2 hl3) hl4) hl5) (S.le_new nil_sub)))⟩ v2 r2.1 ((ownV_slcT GScored.enc_ok hs2).mono (View.le_trans (View.le_trans (View.le_trans hl3 hl4) hl5) (S.le_new nil_sub))) _ hr14) rfl ?_;clear S;intro v121 a w146 hv121 hk144 hn121 S
        obtain ⟨φ49, hl49, hm48, S⟩ := S.see' hn121 hz52
        have hs48 := hv121.mono hm48
        refine Ld (d_next hk144 (d_loud1 4 (by kernel_rfl) rfl (l_enter S (fun _ => run_call (vs := [u4, v121]) ⟨(S.tm rfl), (S.tm rfl), trivial⟩ Tryz.call16) (slices_Equal_Given_ok _ u4 r3.1 ((ownV_slcT GGiven.enc_ok hs3).mono (View.le_trans (View.le_trans (View.le_trans hl4 hl5) hl49) (S.le_new nil_sub))) v121 r14 ((ownV_slcT GGiven.enc_ok hs48).mono (S.le_new nil_sub)) _ hr15) rfl ?_)));clear S;intro v122 a w147 hv122 hk145 hn122 S
        subst hv122
        refine Ld (d_next hk145 (d_quiet 5 S hsel rfl rfl rfl (by kernel_rfl) (by kernel_rfl) rfl (fun _ hw => (Rm (S.tm rfl))) ?_));clear S;intro a S
        refine d_quiet_g 6 S hsel rfl rfl rfl rfl hb14 rfl rfl (by kernel_rfl) (by kernel_rfl) rfl (fun _ hw => (Rm (S.tm rfl))) ?_;clear S;intro a S
        refine d_quiet_g 7 S hsel rfl rfl rfl rfl hb14 rfl rfl (by kernel_rfl) (by kernel_rfl) rfl (fun _ hw => (rn_ldA Tryz.isAgg27 Tryz.sizeOf27 (off := 0) (o := 0) (part := [u2.val, iV r1.1.Relay, iV r1.1.Most]) rfl rfl (S.tm rfl) ((S.blk_mem (i := 1) (cells := [u2.val, iV r1.1.Relay, iV r1.1.Most]) (b := b2) (T := 27) rfl (ne_nil (e' := .blk b2 [u2.val, iV r1.1.Relay, iV r1.1.Most] 27))).kept hw))) ?_;clear S;intro a S
        refine d_quiet_g 8 S hsel rfl rfl rfl rfl hb14 rfl rfl (by kernel_rfl) (by kernel_rfl) rfl (fun _ hw => (Rm (S.tm rfl))) ?_;clear S;intro a S
        refine d_loud1 9 (by kernel_rfl) rfl (l_want S rfl rfl rfl hb14 ?_)
        have hz53 := S.keep.size
        refine l_enter S (fun _ => run_call (vs := [.agg (R27.enc (R27.mk u2 r1.1.Relay r1.1.Most)).toArray, v2]) ⟨(S.tm rfl), (S.tm rfl), trivial⟩ Tryz.call18) (tumbref2_ClubSums_ok _ r1.1 (R27.mk u2 r1.1.Relay r1.1.Most) ⟨u2, rfl, (hs1.mono (View.le_trans (View.le_trans (View.le_trans (View.le_trans (View.le_trans hl2 hl3) hl4) hl5) hl49) (S.le_new nil_sub)))⟩ v2 r2.1 ((ownV_slcT GScored.enc_ok hs2).mono (View.le_trans (View.le_trans (View.le_trans (View.le_trans hl3 hl4) hl5) hl49) (S.le_new nil_sub))) _ hr16) rfl ?_;clear S;intro v123 a w148 hv123 hk146 hn123 S
        obtain ⟨φ50, hl50, hm49, S⟩ := S.see' hn123 hz53
        have hs49 := hv123.mono hm49
        refine Ld (d_next hk146 (d_loud1 10 (by kernel_rfl) rfl (l_want S rfl rfl rfl hb14 (l_enter S (fun _ => run_call (vs := [u5, v123]) ⟨(S.tm rfl), (S.tm rfl), trivial⟩ Tryz.call16) (slices_Equal_Given_ok _ u5 r4.1 ((ownV_slcT GGiven.enc_ok hs4).mono (View.le_trans (View.le_trans (View.le_trans hl5 hl49) hl50) (S.le_new nil_sub))) v123 r16 ((ownV_slcT GGiven.enc_ok hs49).mono (S.le_new nil_sub)) _ hr17) rfl ?_))));clear S;intro v124 a w149 hv124 hk147 hn124 S
        subst hv124
        refine Ld (d_next hk147 (d_quiet 11 S hsel rfl rfl rfl (by kernel_rfl) (by kernel_rfl) rfl (fun _ hw => (rn_pick_b hb14 (S.tm rfl) (S.tm rfl))) ?_));clear S;intro a S
        refine d_quiet 12 S hsel rfl rfl rfl (by kernel_rfl) (by kernel_rfl) rfl (fun _ hw => (Rm (S.tm rfl))) ?_;clear S;intro a S
        refine d_skip 13 S hsel rfl rfl rfl rfl (neq_f hb15) rfl (by kernel_rfl) (by kernel_rfl) rfl ?_;clear S;intro a S
        refine d_skip 14 S hsel rfl rfl rfl rfl (neq_f hb15) rfl (by kernel_rfl) (by kernel_rfl) rfl ?_;clear S;intro a S
        refine d_skip 15 S hsel rfl rfl rfl rfl (neq_f hb15) rfl (by kernel_rfl) (by kernel_rfl) rfl ?_;clear S;intro a S
        refine d_skip 16 S hsel rfl rfl rfl rfl (neq_f hb15) rfl (by kernel_rfl) (by kernel_rfl) rfl ?_;clear S;intro a S
        refine d_skip 17 S hsel rfl rfl rfl rfl (neq_f hb15) rfl (by kernel_rfl) (by kernel_rfl) rfl ?_;clear S;intro a S
        refine d_quiet 18 S hsel rfl rfl rfl (by kernel_rfl) (by kernel_rfl) rfl (fun _ hw => (rn_pick_c hb15 (S.tm rfl) rfl)) ?_;clear S;intro a S
        refine d_quiet 19 S hsel rfl rfl rfl (by kernel_rfl) (by kernel_rfl) rfl (fun _ hw => (Rm (S.tm rfl))) ?_;clear S;intro a S
        refine d_quiet_g 20 S hsel rfl rfl rfl rfl hb19 rfl rfl (by kernel_rfl) (by kernel_rfl) rfl (fun _ hw => (rn_ldA Tryz.isAgg36 Tryz.sizeOf36 (off := 0) (o := 0) (part := (GFraction.enc r6.1)) rfl rfl (S.tm rfl) ((S.blk_mem (i := 0) (cells := (GFraction.enc r6.1)) (b := b3) (T := 36) rfl (ne_nil (e' := .blk b3 (GFraction.enc r6.1) 36))).kept hw))) ?_;clear S;intro a S
        refine d_quiet_g 21 S hsel rfl rfl rfl rfl hb19 rfl rfl (by kernel_rfl) (by kernel_rfl) rfl (fun _ hw => (rn_ldA Tryz.isAgg27 Tryz.sizeOf27 (off := 0) (o := 0) (part := [u2.val, iV r1.1.Relay, iV r1.1.Most]) rfl rfl (S.tm rfl) ((S.blk_mem (i := 1) (cells := [u2.val, iV r1.1.Relay, iV r1.1.Most]) (b := b2) (T := 27) rfl (ne_nil (e' := .blk b2 [u2.val, iV r1.1.Relay, iV r1.1.Most] 27))).kept hw))) ?_;clear S;intro a S
        refine d_quiet_g 22 S hsel rfl rfl rfl rfl hb19 rfl rfl (by kernel_rfl) (by kernel_rfl) rfl (fun _ hw => (Rm (S.tm rfl))) ?_;clear S;intro a S
        refine d_loud1 23 (by kernel_rfl) rfl (l_want S rfl rfl rfl hb19 (l_enter S (fun _ => run_call (vs := [.agg (R27.enc (R27.mk u2 r1.1.Relay r1.1.Most)).toArray, v2]) ⟨(S.tm rfl), (S.tm rfl), trivial⟩ Tryz.call20) (tumbref2_AllPoints_ok _ r1.1 (R27.mk u2 r1.1.Relay r1.1.Most) ⟨u2, rfl, (hs1.mono (View.le_trans (View.le_trans (View.le_trans (View.le_trans (View.le_trans (View.le_trans hl2 hl3) hl4) hl5) hl49) hl50) (S.le_new nil_sub)))⟩ v2 r2.1 ((ownV_slcT GScored.enc_ok hs2).mono (View.le_trans (View.le_trans (View.le_trans (View.le_trans (View.le_trans hl3 hl4) hl5) hl49) hl50) (S.le_new nil_sub))) _ hr23) rfl ?_));clear S;intro v125 a w150 hv125 hk148 hn125 S
        subst hv125
        refine Ld (d_next hk148 (d_quiet_g 24 S hsel rfl rfl rfl rfl hb19 rfl rfl (by kernel_rfl) (by kernel_rfl) rfl (fun _ hw => (rn_eql_36 (m := r6.1) (n := r23) (S.tm rfl) (S.tm rfl))) ?_));clear S;intro a S
        refine d_quiet 25 S hsel rfl rfl rfl (by kernel_rfl) (by kernel_rfl) rfl (fun _ hw => (rn_pick_b hb19 (S.tm rfl) (S.tm rfl))) ?_;clear S;intro a S
        refine d_quiet 26 S hsel rfl rfl rfl (by kernel_rfl) (by kernel_rfl) rfl (fun _ hw => (Rm (S.tm rfl))) ?_;clear S;intro a S
        refine d_loud1 27 (by kernel_rfl) rfl (l_want S rfl rfl rfl hb20 (l_enter S (fun _ => run_call (vs := []) trivial Tryz.call15) (tumblaw2_pointed_ok _ _ hr24) rfl ?_));clear S;intro v126 a w151 hv126 hk149 hn126 S
        subst hv126
        refine Ld (d_next hk149 (d_rest [28, 29] hsel (by kernel_rfl) rfl ?_))
        clear hsel
        refine s_lv S rfl (rn_pick_b hb20 (S.tm rfl) (S.tm rfl)) rfl ?_;clear S;intro a S
        refine s_lv S rfl (Ra (S.tm rfl)) rfl ?_;clear S;intro a S
        refine s_done ?_
        replace S := S.nk [] [(2, bV r24)] [false, false] rfl ⟨rfl, trivial⟩
        refine Tn ?_
        exact ⟨r24, φ50, h, (View.le_trans hl49 hl50), S.nf [] rfl ⟨rfl, trivial⟩⟩
       ·replace h := iteF h hb20
        refine d_region [] ([]) Tryz.mixed S rfl (by kernel_rfl) ?_;clear S;intro w157 hk155 hsel S
        refine d_quiet 0 S hsel rfl rfl rfl (by kernel_rfl) (by kernel_rfl) rfl (fun _ hw => (Rm (S.tm rfl))) ?_;clear S;intro a S
        refine d_quiet 1 S hsel rfl rfl rfl (by kernel_rfl) (by kernel_rfl) rfl (fun _ hw => (rn_ldA Tryz.isAgg27 Tryz.sizeOf27 (off := 0) (o := 0) (part := [u2.val, iV r1.1.Relay, iV r1.1.Most]) rfl rfl (S.tm rfl) ((S.blk_mem (i := 1) (cells := [u2.val, iV r1.1.Relay, iV r1.1.Most]) (b := b2) (T := 27) rfl (ne_nil (e' := .blk b2 [u2.val, iV r1.1.Relay, iV r1.1.Most] 27))).kept hw))) ?_;clear S;intro a S
        refine d_quiet 2 S hsel rfl rfl rfl (by kernel_rfl) (by kernel_rfl) rfl (fun _ hw => (Rm (S.tm rfl))) ?_;clear S;intro a S
        refine d_loud1 3 (by kernel_rfl) rfl ?_
        have hz56 := S.keep.size
        refine l_enter S (fun _ => run_call (vs := [.agg (R27.enc (R27.mk u2 r1.1.Relay r1.1.Most)).toArray, v2]) ⟨(S.tm rfl), (S.tm rfl), trivial⟩ Tryz.call17) (tumbref2_GivenOf_ok _ r1.1 (R27.mk u2 r1.1.Relay r1.1.Most) ⟨u2, rfl, (hs1.mono (View.le_trans (View.le_trans (View.le_trans (View.le_trans hl2 hl3) hl4) hl5) (S.le_new nil_sub)))⟩ v2 r2.1 ((ownV_slcT GScored.enc_ok hs2).mono (View.le_trans (View.le_trans (View.le_trans hl3 hl4) hl5) (S.le_new nil_sub))) _ hr14) rfl ?_;clear S;intro v132 a w158 hv132 hk156 hn132 S
        obtain ⟨φ53, hl53, hm52, S⟩ := S.see' hn132 hz56
        have hs52 := hv132.mono hm52
        refine Ld (d_next hk156 (d_loud1 4 (by kernel_rfl) rfl (l_enter S (fun _ => run_call (vs := [u4, v132]) ⟨(S.tm rfl), (S.tm rfl), trivial⟩ Tryz.call16) (slices_Equal_Given_ok _ u4 r3.1 ((ownV_slcT GGiven.enc_ok hs3).mono (View.le_trans (View.le_trans (View.le_trans hl4 hl5) hl53) (S.le_new nil_sub))) v132 r14 ((ownV_slcT GGiven.enc_ok hs52).mono (S.le_new nil_sub)) _ hr15) rfl ?_)));clear S;intro v133 a w159 hv133 hk157 hn133 S
        subst hv133
        refine Ld (d_next hk157 (d_quiet 5 S hsel rfl rfl rfl (by kernel_rfl) (by kernel_rfl) rfl (fun _ hw => (Rm (S.tm rfl))) ?_));clear S;intro a S
        refine d_quiet_g 6 S hsel rfl rfl rfl rfl hb14 rfl rfl (by kernel_rfl) (by kernel_rfl) rfl (fun _ hw => (Rm (S.tm rfl))) ?_;clear S;intro a S
        refine d_quiet_g 7 S hsel rfl rfl rfl rfl hb14 rfl rfl (by kernel_rfl) (by kernel_rfl) rfl (fun _ hw => (rn_ldA Tryz.isAgg27 Tryz.sizeOf27 (off := 0) (o := 0) (part := [u2.val, iV r1.1.Relay, iV r1.1.Most]) rfl rfl (S.tm rfl) ((S.blk_mem (i := 1) (cells := [u2.val, iV r1.1.Relay, iV r1.1.Most]) (b := b2) (T := 27) rfl (ne_nil (e' := .blk b2 [u2.val, iV r1.1.Relay, iV r1.1.Most] 27))).kept hw))) ?_;clear S;intro a S
        refine d_quiet_g 8 S hsel rfl rfl rfl rfl hb14 rfl rfl (by kernel_rfl) (by kernel_rfl) rfl (fun _ hw => (Rm (S.tm rfl))) ?_;clear S;intro a S
        refine d_loud1 9 (by kernel_rfl) rfl (l_want S rfl rfl rfl hb14 ?_)
        have hz57 := S.keep.size
        refine l_enter S (fun _ => run_call (vs := [.agg (R27.enc (R27.mk u2 r1.1.Relay r1.1.Most)).toArray, v2]) ⟨(S.tm rfl), (S.tm rfl), trivial⟩ Tryz.call18) (tumbref2_ClubSums_ok _ r1.1 (R27.mk u2 r1.1.Relay r1.1.Most) ⟨u2, rfl, (hs1.mono (View.le_trans (View.le_trans (View.le_trans (View.le_trans (View.le_trans hl2 hl3) hl4) hl5) hl53) (S.le_new nil_sub)))⟩ v2 r2.1 ((ownV_slcT GScored.enc_ok hs2).mono (View.le_trans (View.le_trans (View.le_trans (View.le_trans hl3 hl4) hl5) hl53) (S.le_new nil_sub))) _ hr16) rfl ?_;clear S;intro v134 a w160 hv134 hk158 hn134 S
        obtain ⟨φ54, hl54, hm53, S⟩ := S.see' hn134 hz57
        have hs53 := hv134.mono hm53
        refine Ld (d_next hk158 (d_loud1 10 (by kernel_rfl) rfl (l_want S rfl rfl rfl hb14 (l_enter S (fun _ => run_call (vs := [u5, v134]) ⟨(S.tm rfl), (S.tm rfl), trivial⟩ Tryz.call16) (slices_Equal_Given_ok _ u5 r4.1 ((ownV_slcT GGiven.enc_ok hs4).mono (View.le_trans (View.le_trans (View.le_trans hl5 hl53) hl54) (S.le_new nil_sub))) v134 r16 ((ownV_slcT GGiven.enc_ok hs53).mono (S.le_new nil_sub)) _ hr17) rfl ?_))));clear S;intro v135 a w161 hv135 hk159 hn135 S
        subst hv135
        refine Ld (d_next hk159 (d_quiet 11 S hsel rfl rfl rfl (by kernel_rfl) (by kernel_rfl) rfl (fun _ hw => (rn_pick_b hb14 (S.tm rfl) (S.tm rfl))) ?_));clear S;intro a S
        refine d_quiet 12 S hsel rfl rfl rfl (by kernel_rfl) (by kernel_rfl) rfl (fun _ hw => (Rm (S.tm rfl))) ?_;clear S;intro a S
        refine d_skip 13 S hsel rfl rfl rfl rfl (neq_f hb15) rfl (by kernel_rfl) (by kernel_rfl) rfl ?_;clear S;intro a S
        refine d_skip 14 S hsel rfl rfl rfl rfl (neq_f hb15) rfl (by kernel_rfl) (by kernel_rfl) rfl ?_;clear S;intro a S
        refine d_skip 15 S hsel rfl rfl rfl rfl (neq_f hb15) rfl (by kernel_rfl) (by kernel_rfl) rfl ?_;clear S;intro a S
        refine d_skip 16 S hsel rfl rfl rfl rfl (neq_f hb15) rfl (by kernel_rfl) (by kernel_rfl) rfl ?_;clear S;intro a S
        refine d_skip 17 S hsel rfl rfl rfl rfl (neq_f hb15) rfl (by kernel_rfl) (by kernel_rfl) rfl ?_;clear S;intro a S
        refine d_quiet 18 S hsel rfl rfl rfl (by kernel_rfl) (by kernel_rfl) rfl (fun _ hw => (rn_pick_c hb15 (S.tm rfl) rfl)) ?_;clear S;intro a S
        refine d_quiet 19 S hsel rfl rfl rfl (by kernel_rfl) (by kernel_rfl) rfl (fun _ hw => (Rm (S.tm rfl))) ?_;clear S;intro a S
        refine d_quiet_g 20 S hsel rfl rfl rfl rfl hb19 rfl rfl (by kernel_rfl) (by kernel_rfl) rfl (fun _ hw => (rn_ldA Tryz.isAgg36 Tryz.sizeOf36 (off := 0) (o := 0) (part := (GFraction.enc r6.1)) rfl rfl (S.tm rfl) ((S.blk_mem (i := 0) (cells := (GFraction.enc r6.1)) (b := b3) (T := 36) rfl (ne_nil (e' := .blk b3 (GFraction.enc r6.1) 36))).kept hw))) ?_;clear S;intro a S
        refine d_quiet_g 21 S hsel rfl rfl rfl rfl hb19 rfl rfl (by kernel_rfl) (by kernel_rfl) rfl (fun _ hw => (rn_ldA Tryz.isAgg27 Tryz.sizeOf27 (off := 0) (o := 0) (part := [u2.val, iV r1.1.Relay, iV r1.1.Most]) rfl rfl (S.tm rfl) ((S.blk_mem (i := 1) (cells := [u2.val, iV r1.1.Relay, iV r1.1.Most]) (b := b2) (T := 27) rfl (ne_nil (e' := .blk b2 [u2.val, iV r1.1.Relay, iV r1.1.Most] 27))).kept hw))) ?_;clear S;intro a S
        refine d_quiet_g 22 S hsel rfl rfl rfl rfl hb19 rfl rfl (by kernel_rfl) (by kernel_rfl) rfl (fun _ hw => (Rm (S.tm rfl))) ?_;clear S;intro a S
        refine d_loud1 23 (by kernel_rfl) rfl (l_want S rfl rfl rfl hb19 (l_enter S (fun _ => run_call (vs := [.agg (R27.enc (R27.mk u2 r1.1.Relay r1.1.Most)).toArray, v2]) ⟨(S.tm rfl), (S.tm rfl), trivial⟩ Tryz.call20) (tumbref2_AllPoints_ok _ r1.1 (R27.mk u2 r1.1.Relay r1.1.Most) ⟨u2, rfl, (hs1.mono (View.le_trans (View.le_trans (View.le_trans (View.le_trans (View.le_trans (View.le_trans hl2 hl3) hl4) hl5) hl53) hl54) (S.le_new nil_sub)))⟩ v2 r2.1 ((ownV_slcT GScored.enc_ok hs2).mono (View.le_trans (View.le_trans (View.le_trans (View.le_trans (View.le_trans hl3 hl4) hl5) hl53) hl54) (S.le_new nil_sub))) _ hr23) rfl ?_));clear S;intro v136 a w162 hv136 hk160 hn136 S
        subst hv136
        refine Ld (d_next hk160 (d_rest [24, 25, 26, 27, 28, 29] hsel (by kernel_rfl) rfl ?_))
        clear hsel
        refine s_want S rfl rfl rfl rfl hb19 (s_lv0 S (rn_eql_36 (m := r6.1) (n := r23) (S.tm rfl) (S.tm rfl)) rfl ?_);clear S;intro a S
        refine s_lv S rfl (rn_pick_b hb19 (S.tm rfl) (S.tm rfl)) rfl ?_;clear S;intro a S
        refine s_lv S rfl (Rm (S.tm rfl)) rfl ?_;clear S;intro a S
        refine s_skip S rfl rfl rfl rfl (neq_f hb20) rfl ?_ rfl;clear S;intro a S
        refine s_lv S rfl (rn_pick_c hb20 (S.tm rfl) rfl) rfl ?_;clear S;intro a S
        refine s_lv S rfl (Ra (S.tm rfl)) rfl ?_;clear S;intro a S
        refine s_done ?_
        replace S := S.nk [] [(2, bV false)] [false, false] rfl ⟨rfl, trivial⟩
        refine Tn ?_
        exact ⟨false, φ54, h, (View.le_trans hl53 hl54), S.nf [] rfl ⟨rfl, trivial⟩⟩
      ·replace h := iteF h hb19
       rcases Bool.eq_false_or_eq_true false with hb21 | hb21
       ·replace h := iteT h hb21
        obtain ⟨r25, hr25, h⟩ := bindE h
        refine d_region [] ([]) Tryz.mixed S rfl (by kernel_rfl) ?_;clear S;intro w172 hk170 hsel S
        refine d_quiet 0 S hsel rfl rfl rfl (by kernel_rfl) (by kernel_rfl) rfl (fun _ hw => (Rm (S.tm rfl))) ?_;clear S;intro a S
        refine d_quiet 1 S hsel rfl rfl rfl (by kernel_rfl) (by kernel_rfl) rfl (fun _ hw => (rn_ldA Tryz.isAgg27 Tryz.sizeOf27 (off := 0) (o := 0) (part := [u2.val, iV r1.1.Relay, iV r1.1.Most]) rfl rfl (S.tm rfl) ((S.blk_mem (i := 1) (cells := [u2.val, iV r1.1.Relay, iV r1.1.Most]) (b := b2) (T := 27) rfl (ne_nil (e' := .blk b2 [u2.val, iV r1.1.Relay, iV r1.1.Most] 27))).kept hw))) ?_;clear S;intro a S
        refine d_quiet 2 S hsel rfl rfl rfl (by kernel_rfl) (by kernel_rfl) rfl (fun _ hw => (Rm (S.tm rfl))) ?_;clear S;intro a S
        refine d_loud1 3 (by kernel_rfl) rfl ?_
        have hz62 := S.keep.size
        refine l_enter S (fun _ => run_call (vs := [.agg (R27.enc (R27.mk u2 r1.1.Relay r1.1.Most)).toArray, v2]) ⟨(S.tm rfl), (S.tm rfl), trivial⟩ Tryz.call17) (tumbref2_GivenOf_ok _ r1.1 (R27.mk u2 r1.1.Relay r1.1.Most) ⟨u2, rfl, (hs1.mono (View.le_trans (View.le_trans (View.le_trans (View.le_trans hl2 hl3) hl4) hl5) (S.le_new nil_sub)))⟩ v2 r2.1 ((ownV_slcT GScored.enc_ok hs2).mono (View.le_trans (View.le_trans (View.le_trans hl3 hl4) hl5) (S.le_new nil_sub))) _ hr14) rfl ?_;clear S;intro v146 a w173 hv146 hk171 hn146 S
        obtain ⟨φ59, hl59, hm58, S⟩ := S.see' hn146 hz62
        have hs58 := hv146.mono hm58
        refine Ld (d_next hk171 (d_loud1 4 (by kernel_rfl) rfl (l_enter S (fun _ => run_call (vs := [u4, v146]) ⟨(S.tm rfl), (S.tm rfl), trivial⟩ Tryz.call16) (slices_Equal_Given_ok _ u4 r3.1 ((ownV_slcT GGiven.enc_ok hs3).mono (View.le_trans (View.le_trans (View.le_trans hl4 hl5) hl59) (S.le_new nil_sub))) v146 r14 ((ownV_slcT GGiven.enc_ok hs58).mono (S.le_new nil_sub)) _ hr15) rfl ?_)));clear S;intro v147 a w174 hv147 hk172 hn147 S
        subst hv147
        refine Ld (d_next hk172 (d_quiet 5 S hsel rfl rfl rfl (by kernel_rfl) (by kernel_rfl) rfl (fun _ hw => (Rm (S.tm rfl))) ?_));clear S;intro a S
        refine d_quiet_g 6 S hsel rfl rfl rfl rfl hb14 rfl rfl (by kernel_rfl) (by kernel_rfl) rfl (fun _ hw => (Rm (S.tm rfl))) ?_;clear S;intro a S
        refine d_quiet_g 7 S hsel rfl rfl rfl rfl hb14 rfl rfl (by kernel_rfl) (by kernel_rfl) rfl (fun _ hw => (rn_ldA Tryz.isAgg27 Tryz.sizeOf27 (off := 0) (o := 0) (part := [u2.val, iV r1.1.Relay, iV r1.1.Most]) rfl rfl (S.tm rfl) ((S.blk_mem (i := 1) (cells := [u2.val, iV r1.1.Relay, iV r1.1.Most]) (b := b2) (T := 27) rfl (ne_nil (e' := .blk b2 [u2.val, iV r1.1.Relay, iV r1.1.Most] 27))).kept hw))) ?_;clear S;intro a S
        refine d_quiet_g 8 S hsel rfl rfl rfl rfl hb14 rfl rfl (by kernel_rfl) (by kernel_rfl) rfl (fun _ hw => (Rm (S.tm rfl))) ?_;clear S;intro a S
        refine d_loud1 9 (by kernel_rfl) rfl (l_want S rfl rfl rfl hb14 ?_)
        have hz63 := S.keep.size
        refine l_enter S (fun _ => run_call (vs := [.agg (R27.enc (R27.mk u2 r1.1.Relay r1.1.Most)).toArray, v2]) ⟨(S.tm rfl), (S.tm rfl), trivial⟩ Tryz.call18) (tumbref2_ClubSums_ok _ r1.1 (R27.mk u2 r1.1.Relay r1.1.Most) ⟨u2, rfl, (hs1.mono (View.le_trans (View.le_trans (View.le_trans (View.le_trans (View.le_trans hl2 hl3) hl4) hl5) hl59) (S.le_new nil_sub)))⟩ v2 r2.1 ((ownV_slcT GScored.enc_ok hs2).mono (View.le_trans (View.le_trans (View.le_trans (View.le_trans hl3 hl4) hl5) hl59) (S.le_new nil_sub))) _ hr16) rfl ?_;clear S;intro v148 a w175 hv148 hk173 hn148 S
        obtain ⟨φ60, hl60, hm59, S⟩ := S.see' hn148 hz63
        have hs59 := hv148.mono hm59
        refine Ld (d_next hk173 (d_loud1 10 (by kernel_rfl) rfl (l_want S rfl rfl rfl hb14 (l_enter S (fun _ => run_call (vs := [u5, v148]) ⟨(S.tm rfl), (S.tm rfl), trivial⟩ Tryz.call16) (slices_Equal_Given_ok _ u5 r4.1 ((ownV_slcT GGiven.enc_ok hs4).mono (View.le_trans (View.le_trans (View.le_trans hl5 hl59) hl60) (S.le_new nil_sub))) v148 r16 ((ownV_slcT GGiven.enc_ok hs59).mono (S.le_new nil_sub)) _ hr17) rfl ?_))));clear S;intro v149 a w176 hv149 hk174 hn149 S
        subst hv149
        refine Ld (d_next hk174 (d_quiet 11 S hsel rfl rfl rfl (by kernel_rfl) (by kernel_rfl) rfl (fun _ hw => (rn_pick_b hb14 (S.tm rfl) (S.tm rfl))) ?_));clear S;intro a S
        refine d_quiet 12 S hsel rfl rfl rfl (by kernel_rfl) (by kernel_rfl) rfl (fun _ hw => (Rm (S.tm rfl))) ?_;clear S;intro a S
        refine d_skip 13 S hsel rfl rfl rfl rfl (neq_f hb15) rfl (by kernel_rfl) (by kernel_rfl) rfl ?_;clear S;intro a S
        refine d_skip 14 S hsel rfl rfl rfl rfl (neq_f hb15) rfl (by kernel_rfl) (by kernel_rfl) rfl ?_;clear S;intro a S
        refine d_skip 15 S hsel rfl rfl rfl rfl (neq_f hb15) rfl (by kernel_rfl) (by kernel_rfl) rfl ?_;clear S;intro a S
        refine d_skip 16 S hsel rfl rfl rfl rfl (neq_f hb15) rfl (by kernel_rfl) (by kernel_rfl) rfl ?_;clear S;intro a S
        refine d_skip 17 S hsel rfl rfl rfl rfl (neq_f hb15) rfl (by kernel_rfl) (by kernel_rfl) rfl ?_;clear S;intro a S
        refine d_quiet 18 S hsel rfl rfl rfl (by kernel_rfl) (by kernel_rfl) rfl (fun _ hw => (rn_pick_c hb15 (S.tm rfl) rfl)) ?_;clear S;intro a S
        refine d_quiet 19 S hsel rfl rfl rfl (by kernel_rfl) (by kernel_rfl) rfl (fun _ hw => (Rm (S.tm rfl))) ?_;clear S;intro a S
        refine d_skip 20 S hsel rfl rfl rfl rfl (neq_f hb19) rfl (by kernel_rfl) (by kernel_rfl) rfl ?_;clear S;intro a S
        refine d_skip 21 S hsel rfl rfl rfl rfl (neq_f hb19) rfl (by kernel_rfl) (by kernel_rfl) rfl ?_;clear S;intro a S
        refine d_skip 22 S hsel rfl rfl rfl rfl (neq_f hb19) rfl (by kernel_rfl) (by kernel_rfl) rfl ?_;clear S;intro a S
        refine d_skip 23 S hsel rfl rfl rfl rfl (neq_f hb19) rfl (by kernel_rfl) (by kernel_rfl) rfl ?_;clear S;intro a S
        refine d_skip 24 S hsel rfl rfl rfl rfl (neq_f hb19) rfl (by kernel_rfl) (by kernel_rfl) rfl ?_;clear S;intro a S
        refine d_quiet 25 S hsel rfl rfl rfl (by kernel_rfl) (by kernel_rfl) rfl (fun _ hw => (rn_pick_c hb19 (S.tm rfl) rfl)) ?_;clear S;intro a S
        refine d_quiet 26 S hsel rfl rfl rfl (by kernel_rfl) (by kernel_rfl) rfl (fun _ hw => (Rm (S.tm rfl))) ?_;clear S;intro a S
        refine d_loud1 27 (by kernel_rfl) rfl (l_want S rfl rfl rfl hb21 (l_enter S (fun _ => run_call (vs := []) trivial Tryz.call15) (tumblaw2_pointed_ok _ _ hr25) rfl ?_));clear S;intro v150 a w177 hv150 hk175 hn150 S
        subst hv150
        refine Ld (d_next hk175 (d_rest [28, 29] hsel (by kernel_rfl) rfl ?_))
        clear hsel
        refine s_lv S rfl (rn_pick_b hb21 (S.tm rfl) (S.tm rfl)) rfl ?_;clear S;intro a S
        refine s_lv S rfl (Ra (S.tm rfl)) rfl ?_;clear S;intro a S
        refine s_done ?_
        replace S := S.nk [] [(2, bV r25)] [false, false] rfl ⟨rfl, trivial⟩
        refine Tn ?_
        exact ⟨r25, φ60, h, (View.le_trans hl59 hl60), S.nf [] rfl ⟨rfl, trivial⟩⟩
       ·replace h := iteF h hb21
        refine d_region [] ([]) Tryz.mixed S rfl (by kernel_rfl) ?_;clear S;intro w182 hk180 hsel S
        refine d_quiet 0 S hsel rfl rfl rfl (by kernel_rfl) (by kernel_rfl) rfl (fun _ hw => (Rm (S.tm rfl))) ?_;clear S;intro a S
        refine d_quiet 1 S hsel rfl rfl rfl (by kernel_rfl) (by kernel_rfl) rfl (fun _ hw => (rn_ldA Tryz.isAgg27 Tryz.sizeOf27 (off := 0) (o := 0) (part := [u2.val, iV r1.1.Relay, iV r1.1.Most]) rfl rfl (S.tm rfl) ((S.blk_mem (i := 1) (cells := [u2.val, iV r1.1.Relay, iV r1.1.Most]) (b := b2) (T := 27) rfl (ne_nil (e' := .blk b2 [u2.val, iV r1.1.Relay, iV r1.1.Most] 27))).kept hw))) ?_;clear S;intro a S
        refine d_quiet 2 S hsel rfl rfl rfl (by kernel_rfl) (by kernel_rfl) rfl (fun _ hw => (Rm (S.tm rfl))) ?_;clear S;intro a S
        refine d_loud1 3 (by kernel_rfl) rfl ?_
        have hz66 := S.keep.size
        refine l_enter S (fun _ => run_call (vs := [.agg (R27.enc (R27.mk u2 r1.1.Relay r1.1.Most)).toArray, v2]) ⟨(S.tm rfl), (S.tm rfl), trivial⟩ Tryz.call17) (tumbref2_GivenOf_ok _ r1.1 (R27.mk u2 r1.1.Relay r1.1.Most) ⟨u2, rfl, (hs1.mono (View.le_trans (View.le_trans (View.le_trans (View.le_trans hl2 hl3) hl4) hl5) (S.le_new nil_sub)))⟩ v2 r2.1 ((ownV_slcT GScored.enc_ok hs2).mono (View.le_trans (View.le_trans (View.le_trans hl3 hl4) hl5) (S.le_new nil_sub))) _ hr14) rfl ?_;clear S;intro v155 a w183 hv155 hk181 hn155 S
        obtain ⟨φ63, hl63, hm62, S⟩ := S.see' hn155 hz66
        have hs62 := hv155.mono hm62
        refine Ld (d_next hk181 (d_loud1 4 (by kernel_rfl) rfl (l_enter S (fun _ => run_call (vs := [u4, v155]) ⟨(S.tm rfl), (S.tm rfl), trivial⟩ Tryz.call16) (slices_Equal_Given_ok _ u4 r3.1 ((ownV_slcT GGiven.enc_ok hs3).mono (View.le_trans (View.le_trans (View.le_trans hl4 hl5) hl63) (S.le_new nil_sub))) v155 r14 ((ownV_slcT GGiven.enc_ok hs62).mono (S.le_new nil_sub)) _ hr15) rfl ?_)));clear S;intro v156 a w184 hv156 hk182 hn156 S
        subst hv156
        refine Ld (d_next hk182 (d_quiet 5 S hsel rfl rfl rfl (by kernel_rfl) (by kernel_rfl) rfl (fun _ hw => (Rm (S.tm rfl))) ?_));clear S;intro a S
        refine d_quiet_g 6 S hsel rfl rfl rfl rfl hb14 rfl rfl (by kernel_rfl) (by kernel_rfl) rfl (fun _ hw => (Rm (S.tm rfl))) ?_;clear S;intro a S
        refine d_quiet_g 7 S hsel rfl rfl rfl rfl hb14 rfl rfl (by kernel_rfl) (by kernel_rfl) rfl (fun _ hw => (rn_ldA Tryz.isAgg27 Tryz.sizeOf27 (off := 0) (o := 0) (part := [u2.val, iV r1.1.Relay, iV r1.1.Most]) rfl rfl (S.tm rfl) ((S.blk_mem (i := 1) (cells := [u2.val, iV r1.1.Relay, iV r1.1.Most]) (b := b2) (T := 27) rfl (ne_nil (e' := .blk b2 [u2.val, iV r1.1.Relay, iV r1.1.Most] 27))).kept hw))) ?_;clear S;intro a S
        refine d_quiet_g 8 S hsel rfl rfl rfl rfl hb14 rfl rfl (by kernel_rfl) (by kernel_rfl) rfl (fun _ hw => (Rm (S.tm rfl))) ?_;clear S;intro a S
        refine d_loud1 9 (by kernel_rfl) rfl (l_want S rfl rfl rfl hb14 ?_)
        have hz67 := S.keep.size
        refine l_enter S (fun _ => run_call (vs := [.agg (R27.enc (R27.mk u2 r1.1.Relay r1.1.Most)).toArray, v2]) ⟨(S.tm rfl), (S.tm rfl), trivial⟩ Tryz.call18) (tumbref2_ClubSums_ok _ r1.1 (R27.mk u2 r1.1.Relay r1.1.Most) ⟨u2, rfl, (hs1.mono (View.le_trans (View.le_trans (View.le_trans (View.le_trans (View.le_trans hl2 hl3) hl4) hl5) hl63) (S.le_new nil_sub)))⟩ v2 r2.1 ((ownV_slcT GScored.enc_ok hs2).mono (View.le_trans (View.le_trans (View.le_trans (View.le_trans hl3 hl4) hl5) hl63) (S.le_new nil_sub))) _ hr16) rfl ?_;clear S;intro v157 a w185 hv157 hk183 hn157 S
        obtain ⟨φ64, hl64, hm63, S⟩ := S.see' hn157 hz67
        have hs63 := hv157.mono hm63
        refine Ld (d_next hk183 (d_loud1 10 (by kernel_rfl) rfl (l_want S rfl rfl rfl hb14 (l_enter S (fun _ => run_call (vs := [u5, v157]) ⟨(S.tm rfl), (S.tm rfl), trivial⟩ Tryz.call16) (slices_Equal_Given_ok _ u5 r4.1 ((ownV_slcT GGiven.enc_ok hs4).mono (View.le_trans (View.le_trans (View.le_trans hl5 hl63) hl64) (S.le_new nil_sub))) v157 r16 ((ownV_slcT GGiven.enc_ok hs63).mono (S.le_new nil_sub)) _ hr17) rfl ?_))));clear S;intro v158 a w186 hv158 hk184 hn158 S
        subst hv158
        refine Ld (d_next hk184 (d_rest [11, 12, 13, 14, 15, 16, 17, 18, 19, 20, 21, 22, 23, 24, 25, 26, 27, 28, 29] hsel (by kernel_rfl) rfl ?_))
        clear hsel
        refine s_lv S rfl (rn_pick_b hb14 (S.tm rfl) (S.tm rfl)) rfl ?_;clear S;intro a S
        refine s_lv S rfl (Rm (S.tm rfl)) rfl ?_;clear S;intro a S
        iterate 5 (refine s_skip S rfl rfl rfl rfl (neq_f hb15) rfl ?_ rfl;clear S;intro a S)
        refine s_lv S rfl (rn_pick_c hb15 (S.tm rfl) rfl) rfl ?_;clear S;intro a S
        refine s_lv S rfl (Rm (S.tm rfl)) rfl ?_;clear S;intro a S
        iterate 5 (refine s_skip S rfl rfl rfl rfl (neq_f hb19) rfl ?_ rfl;clear S;intro a S)
        refine s_lv S rfl (rn_pick_c hb19 (S.tm rfl) rfl) rfl ?_;clear S;intro a S
        refine s_lv S rfl (Rm (S.tm rfl)) rfl ?_;clear S;intro a S
        refine s_skip S rfl rfl rfl rfl (neq_f hb21) rfl ?_ rfl;clear S;intro a S
        refine s_lv S rfl (rn_pick_c hb21 (S.tm rfl) rfl) rfl ?_;clear S;intro a S
        refine s_lv S rfl (Ra (S.tm rfl)) rfl ?_;clear S;intro a S
        refine s_done ?_
        replace S := S.nk [] [(2, bV false)] [false, false] rfl ⟨rfl, trivial⟩
        refine Tn ?_
        exact ⟨false, φ64, h, (View.le_trans hl63 hl64), S.nf [] rfl ⟨rfl, trivial⟩⟩
    ·replace h := iteF h hb14
     rcases Bool.eq_false_or_eq_true false with hb22 | hb22
     ·replace h := iteT h hb22
      obtain ⟨r26, hr26, h⟩ := bindE h
      obtain ⟨r27, hr27, h⟩ := bindE h
      rcases Bool.eq_false_or_eq_true r27 with hb23 | hb23
      ·replace h := iteT h hb23
       obtain ⟨r28, hr28, h⟩ := bindE h
       rcases Bool.eq_false_or_eq_true (decide (r6.1 = r28)) with hb24 | hb24
       ·replace h := iteT h hb24
        obtain ⟨r29, hr29, h⟩ := bindE h
        refine d_region [] ([]) Tryz.mixed S rfl (by kernel_rfl) ?_;clear S;intro w204 hk202 hsel S
        refine d_quiet 0 S hsel rfl rfl rfl (by kernel_rfl) (by kernel_rfl) rfl (fun _ hw => (Rm (S.tm rfl))) ?_;clear S;intro a S
        refine d_quiet 1 S hsel rfl rfl rfl (by kernel_rfl) (by kernel_rfl) rfl (fun _ hw => (rn_ldA Tryz.isAgg27 Tryz.sizeOf27 (off := 0) (o := 0) (part := [u2.val, iV r1.1.Relay, iV r1.1.Most]) rfl rfl (S.tm rfl) ((S.blk_mem (i := 1) (cells := [u2.val, iV r1.1.Relay, iV r1.1.Most]) (b := b2) (T := 27) rfl (ne_nil (e' := .blk b2 [u2.val, iV r1.1.Relay, iV r1.1.Most] 27))).kept hw))) ?_;clear S;intro a S
        refine d_quiet 2 S hsel rfl rfl rfl (by kernel_rfl) (by kernel_rfl) rfl (fun _ hw => (Rm (S.tm rfl))) ?_;clear S;intro a S
        refine d_loud1 3 (by kernel_rfl) rfl ?_
        have hz75 := S.keep.size
        refine l_enter S (fun _ => run_call (vs := [.agg (R27.enc (R27.mk u2 r1.1.Relay r1.1.Most)).toArray, v2]) ⟨(S.tm rfl), (S.tm rfl), trivial⟩ Tryz.call17) (tumbref2_GivenOf_ok _ r1.1 (R27.mk u2 r1.1.Relay r1.1.Most) ⟨u2, rfl, (hs1.mono (View.le_trans (View.le_trans (View.le_trans (View.le_trans hl2 hl3) hl4) hl5) (S.le_new nil_sub)))⟩ v2 r2.1 ((ownV_slcT GScored.enc_ok hs2).mono (View.le_trans (View.le_trans (View.le_trans hl3 hl4) hl5) (S.le_new nil_sub))) _ hr14) rfl ?_;clear S;intro v176 a w205 hv176 hk203 hn176 S
        obtain ⟨φ72, hl72, hm71, S⟩ := S.see' hn176 hz75
        have hs71 := hv176.mono hm71
        refine Ld (d_next hk203 (d_loud1 4 (by kernel_rfl) rfl (l_enter S (fun _ => run_call (vs := [u4, v176]) ⟨(S.tm rfl), (S.tm rfl), trivial⟩ Tryz.call16) (slices_Equal_Given_ok _ u4 r3.1 ((ownV_slcT GGiven.enc_ok hs3).mono (View.le_trans (View.le_trans (View.le_trans hl4 hl5) hl72) (S.le_new nil_sub))) v176 r14 ((ownV_slcT GGiven.enc_ok hs71).mono (S.le_new nil_sub)) _ hr15) rfl ?_)));clear S;intro v177 a w206 hv177 hk204 hn177 S
        subst hv177
        refine Ld (d_next hk204 (d_quiet 5 S hsel rfl rfl rfl (by kernel_rfl) (by kernel_rfl) rfl (fun _ hw => (Rm (S.tm rfl))) ?_));clear S;intro a S
        refine d_skip 6 S hsel rfl rfl rfl rfl (neq_f hb14) rfl (by kernel_rfl) (by kernel_rfl) rfl ?_;clear S;intro a S
        refine d_skip 7 S hsel rfl rfl rfl rfl (neq_f hb14) rfl (by kernel_rfl) (by kernel_rfl) rfl ?_;clear S;intro a S
        refine d_skip 8 S hsel rfl rfl rfl rfl (neq_f hb14) rfl (by kernel_rfl) (by kernel_rfl) rfl ?_;clear S;intro a S
        refine d_skip 9 S hsel rfl rfl rfl rfl (neq_f hb14) rfl (by kernel_rfl) (by kernel_rfl) rfl ?_;clear S;intro a S
        refine d_skip 10 S hsel rfl rfl rfl rfl (neq_f hb14) rfl (by kernel_rfl) (by kernel_rfl) rfl ?_;clear S;intro a S
        refine d_quiet 11 S hsel rfl rfl rfl (by kernel_rfl) (by kernel_rfl) rfl (fun _ hw => (rn_pick_c hb14 (S.tm rfl) rfl)) ?_;clear S;intro a S
        refine d_quiet 12 S hsel rfl rfl rfl (by kernel_rfl) (by kernel_rfl) rfl (fun _ hw => (Rm (S.tm rfl))) ?_;clear S;intro a S
        refine d_quiet_g 13 S hsel rfl rfl rfl rfl hb22 rfl rfl (by kernel_rfl) (by kernel_rfl) rfl (fun _ hw => (Rm (S.tm rfl))) ?_;clear S;intro a S
        refine d_quiet_g 14 S hsel rfl rfl rfl rfl hb22 rfl rfl (by kernel_rfl) (by kernel_rfl) rfl (fun _ hw => (rn_ldA Tryz.isAgg27 Tryz.sizeOf27 (off := 0) (o := 0) (part := [u2.val, iV r1.1.Relay, iV r1.1.Most]) rfl rfl (S.tm rfl) ((S.blk_mem (i := 1) (cells := [u2.val, iV r1.1.Relay, iV r1.1.Most]) (b := b2) (T := 27) rfl (ne_nil (e' := .blk b2 [u2.val, iV r1.1.Relay, iV r1.1.Most] 27))).kept hw))) ?_;clear S;intro a S
        refine d_quiet_g 15 S hsel rfl rfl rfl rfl hb22 rfl rfl (by kernel_rfl) (by kernel_rfl) rfl (fun _ hw => (Rm (S.tm rfl))) ?_;clear S;intro a S
        refine d_loud1 16 (by kernel_rfl) rfl (l_want S rfl rfl rfl hb22 ?_)
        have hz76 := S.keep.size
        refine l_enter S (fun _ => run_call (vs := [.agg (R27.enc (R27.mk u2 r1.1.Relay r1.1.Most)).toArray, v2]) ⟨(S.tm rfl), (S.tm rfl), trivial⟩ Tryz.call19) (tumbref2_SwimmerSums_ok _ r1.1 (R27.mk u2 r1.1.Relay r1.1.Most) ⟨u2, rfl, (hs1.mono (View.le_trans (View.le_trans (View.le_trans (View.le_trans (View.le_trans hl2 hl3) hl4) hl5) hl72) (S.le_new nil_sub)))⟩ v2 r2.1 ((ownV_slcT GScored.enc_ok hs2).mono (View.le_trans (View.le_trans (View.le_trans (View.le_trans hl3 hl4) hl5) hl72) (S.le_new nil_sub))) _ hr26) rfl ?_;clear S;intro v178 a w207 hv178 hk205 hn178 S
        obtain ⟨φ73, hl73, hm72, S⟩ := S.see' hn178 hz76
        have hs72 := hv178.mono hm72
        refine Ld (d_next hk205 (d_loud1 17 (by kernel_rfl) rfl (l_want S rfl rfl rfl hb22 (l_enter S (fun _ => run_call (vs := [u6, v178]) ⟨(S.tm rfl), (S.tm rfl), trivial⟩ Tryz.call16) (slices_Equal_Given_ok _ u6 r5.1 ((ownV_slcT GGiven.enc_ok hs5).mono (View.le_trans (View.le_trans hl72 hl73) (S.le_new nil_sub))) v178 r26 ((ownV_slcT GGiven.enc_ok hs72).mono (S.le_new nil_sub)) _ hr27) rfl ?_))));clear S;intro v179 a w208 hv179 hk206 hn179 S
        subst hv179
        refine Ld (d_next hk206 (d_quiet 18 S hsel rfl rfl rfl (by kernel_rfl) (by kernel_rfl) rfl (fun _ hw => (rn_pick_b hb22 (S.tm rfl) (S.tm rfl))) ?_));clear S;intro a S
        refine d_quiet 19 S hsel rfl rfl rfl (by kernel_rfl) (by kernel_rfl) rfl (fun _ hw => (Rm (S.tm rfl))) ?_;clear S;intro a S
        refine d_quiet_g 20 S hsel rfl rfl rfl rfl hb23 rfl rfl (by kernel_rfl) (by kernel_rfl) rfl (fun _ hw => (rn_ldA Tryz.isAgg36 Tryz.sizeOf36 (off := 0) (o := 0) (part := (GFraction.enc r6.1)) rfl rfl (S.tm rfl) ((S.blk_mem (i := 0) (cells := (GFraction.enc r6.1)) (b := b3) (T := 36) rfl (ne_nil (e' := .blk b3 (GFraction.enc r6.1) 36))).kept hw))) ?_;clear S;intro a S
        refine d_quiet_g 21 S hsel rfl rfl rfl rfl hb23 rfl rfl (by kernel_rfl) (by kernel_rfl) rfl (fun _ hw => (rn_ldA Tryz.isAgg27 Tryz.sizeOf27 (off := 0) (o := 0) (part := [u2.val, iV r1.1.Relay, iV r1.1.Most]) rfl rfl (S.tm rfl) ((S.blk_mem (i := 1) (cells := [u2.val, iV r1.1.Relay, iV r1.1.Most]) (b := b2) (T := 27) rfl (ne_nil (e' := .blk b2 [u2.val, iV r1.1.Relay, iV r1.1.Most] 27))).kept hw))) ?_;clear S;intro a S
        refine d_quiet_g 22 S hsel rfl rfl rfl rfl hb23 rfl rfl (by kernel_rfl) (by kernel_rfl) rfl (fun _ hw => (Rm (S.tm rfl))) ?_;clear S;intro a S
        refine d_loud1 23 (by kernel_rfl) rfl (l_want S rfl rfl rfl hb23 (l_enter S (fun _ => run_call (vs := [.agg (R27.enc (R27.mk u2 r1.1.Relay r1.1.Most)).toArray, v2]) ⟨(S.tm rfl), (S.tm rfl), trivial⟩ Tryz.call20) (tumbref2_AllPoints_ok _ r1.1 (R27.mk u2 r1.1.Relay r1.1.Most) ⟨u2, rfl, (hs1.mono (View.le_trans (View.le_trans (View.le_trans (View.le_trans (View.le_trans (View.le_trans hl2 hl3) hl4) hl5) hl72) hl73) (S.le_new nil_sub)))⟩ v2 r2.1 ((ownV_slcT GScored.enc_ok hs2).mono (View.le_trans (View.le_trans (View.le_trans (View.le_trans (View.le_trans hl3 hl4) hl5) hl72) hl73) (S.le_new nil_sub))) _ hr28) rfl ?_));clear S;intro v180 a w209 hv180 hk207 hn180 S
        subst hv180
        refine Ld (d_next hk207 (d_quiet_g 24 S hsel rfl rfl rfl rfl hb23 rfl rfl (by kernel_rfl) (by kernel_rfl) rfl (fun _ hw => (rn_eql_36 (m := r6.1) (n := r28) (S.tm rfl) (S.tm rfl))) ?_));clear S;intro a S
        refine d_quiet 25 S hsel rfl rfl rfl (by kernel_rfl) (by kernel_rfl) rfl (fun _ hw => (rn_pick_b hb23 (S.tm rfl) (S.tm rfl))) ?_;clear S;intro a S
        refine d_quiet 26 S hsel rfl rfl rfl (by kernel_rfl) (by kernel_rfl) rfl (fun _ hw => (Rm (S.tm rfl))) ?_;clear S;intro a S
        refine d_loud1 27 (by kernel_rfl) rfl (l_want S rfl rfl rfl hb24 (l_enter S (fun _ => run_call (vs := []) trivial Tryz.call15) (tumblaw2_pointed_ok _ _ hr29) rfl ?_));clear S;intro v181 a w210 hv181 hk208 hn181 S
        subst hv181
        refine Ld (d_next hk208 (d_rest [28, 29] hsel (by kernel_rfl) rfl ?_))
        clear hsel
        refine s_lv S rfl (rn_pick_b hb24 (S.tm rfl) (S.tm rfl)) rfl ?_;clear S;intro a S
        refine s_lv S rfl (Ra (S.tm rfl)) rfl ?_;clear S;intro a S
        refine s_done ?_
        replace S := S.nk [] [(2, bV r29)] [false, false] rfl ⟨rfl, trivial⟩
        refine Tn ?_
        exact ⟨r29, φ73, h, (View.le_trans hl72 hl73), S.nf [] rfl ⟨rfl, trivial⟩⟩
       ·replace h := iteF h hb24
        refine d_region [] ([]) Tryz.mixed S rfl (by kernel_rfl) ?_;clear S;intro w216 hk214 hsel S
        refine d_quiet 0 S hsel rfl rfl rfl (by kernel_rfl) (by kernel_rfl) rfl (fun _ hw => (Rm (S.tm rfl))) ?_;clear S;intro a S
        refine d_quiet 1 S hsel rfl rfl rfl (by kernel_rfl) (by kernel_rfl) rfl (fun _ hw => (rn_ldA Tryz.isAgg27 Tryz.sizeOf27 (off := 0) (o := 0) (part := [u2.val, iV r1.1.Relay, iV r1.1.Most]) rfl rfl (S.tm rfl) ((S.blk_mem (i := 1) (cells := [u2.val, iV r1.1.Relay, iV r1.1.Most]) (b := b2) (T := 27) rfl (ne_nil (e' := .blk b2 [u2.val, iV r1.1.Relay, iV r1.1.Most] 27))).kept hw))) ?_;clear S;intro a S
        refine d_quiet 2 S hsel rfl rfl rfl (by kernel_rfl) (by kernel_rfl) rfl (fun _ hw => (Rm (S.tm rfl))) ?_;clear S;intro a S
        refine d_loud1 3 (by kernel_rfl) rfl ?_
        have hz79 := S.keep.size
        refine l_enter S (fun _ => run_call (vs := [.agg (R27.enc (R27.mk u2 r1.1.Relay r1.1.Most)).toArray, v2]) ⟨(S.tm rfl), (S.tm rfl), trivial⟩ Tryz.call17) (tumbref2_GivenOf_ok _ r1.1 (R27.mk u2 r1.1.Relay r1.1.Most) ⟨u2, rfl, (hs1.mono (View.le_trans (View.le_trans (View.le_trans (View.le_trans hl2 hl3) hl4) hl5) (S.le_new nil_sub)))⟩ v2 r2.1 ((ownV_slcT GScored.enc_ok hs2).mono (View.le_trans (View.le_trans (View.le_trans hl3 hl4) hl5) (S.le_new nil_sub))) _ hr14) rfl ?_;clear S;intro v187 a w217 hv187 hk215 hn187 S
        obtain ⟨φ76, hl76, hm75, S⟩ := S.see' hn187 hz79
        have hs75 := hv187.mono hm75
        refine Ld (d_next hk215 (d_loud1 4 (by kernel_rfl) rfl (l_enter S (fun _ => run_call (vs := [u4, v187]) ⟨(S.tm rfl), (S.tm rfl), trivial⟩ Tryz.call16) (slices_Equal_Given_ok _ u4 r3.1 ((ownV_slcT GGiven.enc_ok hs3).mono (View.le_trans (View.le_trans (View.le_trans hl4 hl5) hl76) (S.le_new nil_sub))) v187 r14 ((ownV_slcT GGiven.enc_ok hs75).mono (S.le_new nil_sub)) _ hr15) rfl ?_)));clear S;intro v188 a w218 hv188 hk216 hn188 S
        subst hv188
        refine Ld (d_next hk216 (d_quiet 5 S hsel rfl rfl rfl (by kernel_rfl) (by kernel_rfl) rfl (fun _ hw => (Rm (S.tm rfl))) ?_));clear S;intro a S
        refine d_skip 6 S hsel rfl rfl rfl rfl (neq_f hb14) rfl (by kernel_rfl) (by kernel_rfl) rfl ?_;clear S;intro a S
        refine d_skip 7 S hsel rfl rfl rfl rfl (neq_f hb14) rfl (by kernel_rfl) (by kernel_rfl) rfl ?_;clear S;intro a S
        refine d_skip 8 S hsel rfl rfl rfl rfl (neq_f hb14) rfl (by kernel_rfl) (by kernel_rfl) rfl ?_;clear S;intro a S
        refine d_skip 9 S hsel rfl rfl rfl rfl (neq_f hb14) rfl (by kernel_rfl) (by kernel_rfl) rfl ?_;clear S;intro a S
        refine d_skip 10 S hsel rfl rfl rfl rfl (neq_f hb14) rfl (by kernel_rfl) (by kernel_rfl) rfl ?_;clear S;intro a S
        refine d_quiet 11 S hsel rfl rfl rfl (by kernel_rfl) (by kernel_rfl) rfl (fun _ hw => (rn_pick_c hb14 (S.tm rfl) rfl)) ?_;clear S;intro a S
        refine d_quiet 12 S hsel rfl rfl rfl (by kernel_rfl) (by kernel_rfl) rfl (fun _ hw => (Rm (S.tm rfl))) ?_;clear S;intro a S
        refine d_quiet_g 13 S hsel rfl rfl rfl rfl hb22 rfl rfl (by kernel_rfl) (by kernel_rfl) rfl (fun _ hw => (Rm (S.tm rfl))) ?_;clear S;intro a S
        refine d_quiet_g 14 S hsel rfl rfl rfl rfl hb22 rfl rfl (by kernel_rfl) (by kernel_rfl) rfl (fun _ hw => (rn_ldA Tryz.isAgg27 Tryz.sizeOf27 (off := 0) (o := 0) (part := [u2.val, iV r1.1.Relay, iV r1.1.Most]) rfl rfl (S.tm rfl) ((S.blk_mem (i := 1) (cells := [u2.val, iV r1.1.Relay, iV r1.1.Most]) (b := b2) (T := 27) rfl (ne_nil (e' := .blk b2 [u2.val, iV r1.1.Relay, iV r1.1.Most] 27))).kept hw))) ?_;clear S;intro a S
        refine d_quiet_g 15 S hsel rfl rfl rfl rfl hb22 rfl rfl (by kernel_rfl) (by kernel_rfl) rfl (fun _ hw => (Rm (S.tm rfl))) ?_;clear S;intro a S
        refine d_loud1 16 (by kernel_rfl) rfl (l_want S rfl rfl rfl hb22 ?_)
        have hz80 := S.keep.size
        refine l_enter S (fun _ => run_call (vs := [.agg (R27.enc (R27.mk u2 r1.1.Relay r1.1.Most)).toArray, v2]) ⟨(S.tm rfl), (S.tm rfl), trivial⟩ Tryz.call19) (tumbref2_SwimmerSums_ok _ r1.1 (R27.mk u2 r1.1.Relay r1.1.Most) ⟨u2, rfl, (hs1.mono (View.le_trans (View.le_trans (View.le_trans (View.le_trans (View.le_trans hl2 hl3) hl4) hl5) hl76) (S.le_new nil_sub)))⟩ v2 r2.1 ((ownV_slcT GScored.enc_ok hs2).mono (View.le_trans (View.le_trans (View.le_trans (View.le_trans hl3 hl4) hl5) hl76) (S.le_new nil_sub))) _ hr26) rfl ?_;clear S;intro v189 a w219 hv189 hk217 hn189 S
        obtain ⟨φ77, hl77, hm76, S⟩ := S.see' hn189 hz80
        have hs76 := hv189.mono hm76
        refine Ld (d_next hk217 (d_loud1 17 (by kernel_rfl) rfl (l_want S rfl rfl rfl hb22 (l_enter S (fun _ => run_call (vs := [u6, v189]) ⟨(S.tm rfl), (S.tm rfl), trivial⟩ Tryz.call16) (slices_Equal_Given_ok _ u6 r5.1 ((ownV_slcT GGiven.enc_ok hs5).mono (View.le_trans (View.le_trans hl76 hl77) (S.le_new nil_sub))) v189 r26 ((ownV_slcT GGiven.enc_ok hs76).mono (S.le_new nil_sub)) _ hr27) rfl ?_))));clear S;intro v190 a w220 hv190 hk218 hn190 S
        subst hv190
        refine Ld (d_next hk218 (d_quiet 18 S hsel rfl rfl rfl (by kernel_rfl) (by kernel_rfl) rfl (fun _ hw => (rn_pick_b hb22 (S.tm rfl) (S.tm rfl))) ?_));clear S;intro a S
        refine d_quiet 19 S hsel rfl rfl rfl (by kernel_rfl) (by kernel_rfl) rfl (fun _ hw => (Rm (S.tm rfl))) ?_;clear S;intro a S
        refine d_quiet_g 20 S hsel rfl rfl rfl rfl hb23 rfl rfl (by kernel_rfl) (by kernel_rfl) rfl (fun _ hw => (rn_ldA Tryz.isAgg36 Tryz.sizeOf36 (off := 0) (o := 0) (part := (GFraction.enc r6.1)) rfl rfl (S.tm rfl) ((S.blk_mem (i := 0) (cells := (GFraction.enc r6.1)) (b := b3) (T := 36) rfl (ne_nil (e' := .blk b3 (GFraction.enc r6.1) 36))).kept hw))) ?_;clear S;intro a S
        refine d_quiet_g 21 S hsel rfl rfl rfl rfl hb23 rfl rfl (by kernel_rfl) (by kernel_rfl) rfl (fun _ hw => (rn_ldA Tryz.isAgg27 Tryz.sizeOf27 (off := 0) (o := 0) (part := [u2.val, iV r1.1.Relay, iV r1.1.Most]) rfl rfl (S.tm rfl) ((S.blk_mem (i := 1) (cells := [u2.val, iV r1.1.Relay, iV r1.1.Most]) (b := b2) (T := 27) rfl (ne_nil (e' := .blk b2 [u2.val, iV r1.1.Relay, iV r1.1.Most] 27))).kept hw))) ?_;clear S;intro a S
        refine d_quiet_g 22 S hsel rfl rfl rfl rfl hb23 rfl rfl (by kernel_rfl) (by kernel_rfl) rfl (fun _ hw => (Rm (S.tm rfl))) ?_;clear S;intro a S
        refine d_loud1 23 (by kernel_rfl) rfl (l_want S rfl rfl rfl hb23 (l_enter S (fun _ => run_call (vs := [.agg (R27.enc (R27.mk u2 r1.1.Relay r1.1.Most)).toArray, v2]) ⟨(S.tm rfl), (S.tm rfl), trivial⟩ Tryz.call20) (tumbref2_AllPoints_ok _ r1.1 (R27.mk u2 r1.1.Relay r1.1.Most) ⟨u2, rfl, (hs1.mono (View.le_trans (View.le_trans (View.le_trans (View.le_trans (View.le_trans (View.le_trans hl2 hl3) hl4) hl5) hl76) hl77) (S.le_new nil_sub)))⟩ v2 r2.1 ((ownV_slcT GScored.enc_ok hs2).mono (View.le_trans (View.le_trans (View.le_trans (View.le_trans (View.le_trans hl3 hl4) hl5) hl76) hl77) (S.le_new nil_sub))) _ hr28) rfl ?_));clear S;intro v191 a w221 hv191 hk219 hn191 S
        subst hv191
        refine Ld (d_next hk219 (d_rest [24, 25, 26, 27, 28, 29] hsel (by kernel_rfl) rfl ?_))
        clear hsel
        refine s_want S rfl rfl rfl rfl hb23 (s_lv0 S (rn_eql_36 (m := r6.1) (n := r28) (S.tm rfl) (S.tm rfl)) rfl ?_);clear S;intro a S
        refine s_lv S rfl (rn_pick_b hb23 (S.tm rfl) (S.tm rfl)) rfl ?_;clear S;intro a S
        refine s_lv S rfl (Rm (S.tm rfl)) rfl ?_;clear S;intro a S
        refine s_skip S rfl rfl rfl rfl (neq_f hb24) rfl ?_ rfl;clear S;intro a S
        refine s_lv S rfl (rn_pick_c hb24 (S.tm rfl) rfl) rfl ?_;clear S;intro a S
        refine s_lv S rfl (Ra (S.tm rfl)) rfl ?_;clear S;intro a S
        refine s_done ?_
        replace S := S.nk [] [(2, bV false)] [false, false] rfl ⟨rfl, trivial⟩
        refine Tn ?_
        exact ⟨false, φ77, h, (View.le_trans hl76 hl77), S.nf [] rfl ⟨rfl, trivial⟩⟩
      ·replace h := iteF h hb23
       rcases Bool.eq_false_or_eq_true false with hb25 | hb25
       ·replace h := iteT h hb25
        obtain ⟨r30, hr30, h⟩ := bindE h
        refine d_region [] ([]) Tryz.mixed S rfl (by kernel_rfl) ?_;clear S;intro w231 hk229 hsel S
        refine d_quiet 0 S hsel rfl rfl rfl (by kernel_rfl) (by kernel_rfl) rfl (fun _ hw => (Rm (S.tm rfl))) ?_;clear S;intro a S
        refine d_quiet 1 S hsel rfl rfl rfl (by kernel_rfl) (by kernel_rfl) rfl (fun _ hw => (rn_ldA Tryz.isAgg27 Tryz.sizeOf27 (off := 0) (o := 0) (part := [u2.val, iV r1.1.Relay, iV r1.1.Most]) rfl rfl (S.tm rfl) ((S.blk_mem (i := 1) (cells := [u2.val, iV r1.1.Relay, iV r1.1.Most]) (b := b2) (T := 27) rfl (ne_nil (e' := .blk b2 [u2.val, iV r1.1.Relay, iV r1.1.Most] 27))).kept hw))) ?_;clear S;intro a S
        refine d_quiet 2 S hsel rfl rfl rfl (by kernel_rfl) (by kernel_rfl) rfl (fun _ hw => (Rm (S.tm rfl))) ?_;clear S;intro a S
        refine d_loud1 3 (by kernel_rfl) rfl ?_
        have hz85 := S.keep.size
        refine l_enter S (fun _ => run_call (vs := [.agg (R27.enc (R27.mk u2 r1.1.Relay r1.1.Most)).toArray, v2]) ⟨(S.tm rfl), (S.tm rfl), trivial⟩ Tryz.call17) (tumbref2_GivenOf_ok _ r1.1 (R27.mk u2 r1.1.Relay r1.1.Most) ⟨u2, rfl, (hs1.mono (View.le_trans (View.le_trans (View.le_trans (View.le_trans hl2 hl3) hl4) hl5) (S.le_new nil_sub)))⟩ v2 r2.1 ((ownV_slcT GScored.enc_ok hs2).mono (View.le_trans (View.le_trans (View.le_trans hl3 hl4) hl5) (S.le_new nil_sub))) _ hr14) rfl ?_;clear S;intro v201 a w232 hv201 hk230 hn201 S
        obtain ⟨φ82, hl82, hm81, S⟩ := S.see' hn201 hz85
        have hs81 := hv201.mono hm81
        refine Ld (d_next hk230 (d_loud1 4 (by kernel_rfl) rfl (l_enter S (fun _ => run_call (vs := [u4, v201]) ⟨(S.tm rfl), (S.tm rfl), trivial⟩ Tryz.call16) (slices_Equal_Given_ok _ u4 r3.1 ((ownV_slcT GGiven.enc_ok hs3).mono (View.le_trans (View.le_trans (View.le_trans hl4 hl5) hl82) (S.le_new nil_sub))) v201 r14 ((ownV_slcT GGiven.enc_ok hs81).mono (S.le_new nil_sub)) _ hr15) rfl ?_)));clear S;intro v202 a w233 hv202 hk231 hn202 S
        subst hv202
        refine Ld (d_next hk231 (d_quiet 5 S hsel rfl rfl rfl (by kernel_rfl) (by kernel_rfl) rfl (fun _ hw => (Rm (S.tm rfl))) ?_));clear S;intro a S
        refine d_skip 6 S hsel rfl rfl rfl rfl (neq_f hb14) rfl (by kernel_rfl) (by kernel_rfl) rfl ?_;clear S;intro a S
        refine d_skip 7 S hsel rfl rfl rfl rfl (neq_f hb14) rfl (by kernel_rfl) (by kernel_rfl) rfl ?_;clear S;intro a S
        refine d_skip 8 S hsel rfl rfl rfl rfl (neq_f hb14) rfl (by kernel_rfl) (by kernel_rfl) rfl ?_;clear S;intro a S
        refine d_skip 9 S hsel rfl rfl rfl rfl (neq_f hb14) rfl (by kernel_rfl) (by kernel_rfl) rfl ?_;clear S;intro a S
        refine d_skip 10 S hsel rfl rfl rfl rfl (neq_f hb14) rfl (by kernel_rfl) (by kernel_rfl) rfl ?_;clear S;intro a S
        refine d_quiet 11 S hsel rfl rfl rfl (by kernel_rfl) (by kernel_rfl) rfl (fun _ hw => (rn_pick_c hb14 (S.tm rfl) rfl)) ?_;clear S;intro a S
        refine d_quiet 12 S hsel rfl rfl rfl (by kernel_rfl) (by kernel_rfl) rfl (fun _ hw => (Rm (S.tm rfl))) ?_;clear S;intro a S
        refine d_quiet_g 13 S hsel rfl rfl rfl rfl hb22 rfl rfl (by kernel_rfl) (by kernel_rfl) rfl (fun _ hw => (Rm (S.tm rfl))) ?_;clear S;intro a S
        refine d_quiet_g 14 S hsel rfl rfl rfl rfl hb22 rfl rfl (by kernel_rfl) (by kernel_rfl) rfl (fun _ hw => (rn_ldA Tryz.isAgg27 Tryz.sizeOf27 (off := 0) (o := 0) (part := [u2.val, iV r1.1.Relay, iV r1.1.Most]) rfl rfl (S.tm rfl) ((S.blk_mem (i := 1) (cells := [u2.val, iV r1.1.Relay, iV r1.1.Most]) (b := b2) (T := 27) rfl (ne_nil (e' := .blk b2 [u2.val, iV r1.1.Relay, iV r1.1.Most] 27))).kept hw))) ?_;clear S;intro a S
        refine d_quiet_g 15 S hsel rfl rfl rfl rfl hb22 rfl rfl (by kernel_rfl) (by kernel_rfl) rfl (fun _ hw => (Rm (S.tm rfl))) ?_;clear S;intro a S
        refine d_loud1 16 (by kernel_rfl) rfl (l_want S rfl rfl rfl hb22 ?_)
        have hz86 := S.keep.size
        refine l_enter S (fun _ => run_call (vs := [.agg (R27.enc (R27.mk u2 r1.1.Relay r1.1.Most)).toArray, v2]) ⟨(S.tm rfl), (S.tm rfl), trivial⟩ Tryz.call19) (tumbref2_SwimmerSums_ok _ r1.1 (R27.mk u2 r1.1.Relay r1.1.Most) ⟨u2, rfl, (hs1.mono (View.le_trans (View.le_trans (View.le_trans (View.le_trans (View.le_trans hl2 hl3) hl4) hl5) hl82) (S.le_new nil_sub)))⟩ v2 r2.1 ((ownV_slcT GScored.enc_ok hs2).mono (View.le_trans (View.le_trans (View.le_trans (View.le_trans hl3 hl4) hl5) hl82) (S.le_new nil_sub))) _ hr26) rfl ?_;clear S;intro v203 a w234 hv203 hk232 hn203 S
        obtain ⟨φ83, hl83, hm82, S⟩ := S.see' hn203 hz86
        have hs82 := hv203.mono hm82
        refine Ld (d_next hk232 (d_loud1 17 (by kernel_rfl) rfl (l_want S rfl rfl rfl hb22 (l_enter S (fun _ => run_call (vs := [u6, v203]) ⟨(S.tm rfl), (S.tm rfl), trivial⟩ Tryz.call16) (slices_Equal_Given_ok _ u6 r5.1 ((ownV_slcT GGiven.enc_ok hs5).mono (View.le_trans (View.le_trans hl82 hl83) (S.le_new nil_sub))) v203 r26 ((ownV_slcT GGiven.enc_ok hs82).mono (S.le_new nil_sub)) _ hr27) rfl ?_))));clear S;intro v204 a w235 hv204 hk233 hn204 S
        subst hv204
        refine Ld (d_next hk233 (d_quiet 18 S hsel rfl rfl rfl (by kernel_rfl) (by kernel_rfl) rfl (fun _ hw => (rn_pick_b hb22 (S.tm rfl) (S.tm rfl))) ?_));clear S;intro a S
        refine d_quiet 19 S hsel rfl rfl rfl (by kernel_rfl) (by kernel_rfl) rfl (fun _ hw => (Rm (S.tm rfl))) ?_;clear S;intro a S
        refine d_skip 20 S hsel rfl rfl rfl rfl (neq_f hb23) rfl (by kernel_rfl) (by kernel_rfl) rfl ?_;clear S;intro a S
        refine d_skip 21 S hsel rfl rfl rfl rfl (neq_f hb23) rfl (by kernel_rfl) (by kernel_rfl) rfl ?_;clear S;intro a S
        refine d_skip 22 S hsel rfl rfl rfl rfl (neq_f hb23) rfl (by kernel_rfl) (by kernel_rfl) rfl ?_;clear S;intro a S
        refine d_skip 23 S hsel rfl rfl rfl rfl (neq_f hb23) rfl (by kernel_rfl) (by kernel_rfl) rfl ?_;clear S;intro a S
        refine d_skip 24 S hsel rfl rfl rfl rfl (neq_f hb23) rfl (by kernel_rfl) (by kernel_rfl) rfl ?_;clear S;intro a S
        refine d_quiet 25 S hsel rfl rfl rfl (by kernel_rfl) (by kernel_rfl) rfl (fun _ hw => (rn_pick_c hb23 (S.tm rfl) rfl)) ?_;clear S;intro a S
        refine d_quiet 26 S hsel rfl rfl rfl (by kernel_rfl) (by kernel_rfl) rfl (fun _ hw => (Rm (S.tm rfl))) ?_;clear S;intro a S
        refine d_loud1 27 (by kernel_rfl) rfl (l_want S rfl rfl rfl hb25 (l_enter S (fun _ => run_call (vs := []) trivial Tryz.call15) (tumblaw2_pointed_ok _ _ hr30) rfl ?_));clear S;intro v205 a w236 hv205 hk234 hn205 S
        subst hv205
        refine Ld (d_next hk234 (d_rest [28, 29] hsel (by kernel_rfl) rfl ?_))
        clear hsel
        refine s_lv S rfl (rn_pick_b hb25 (S.tm rfl) (S.tm rfl)) rfl ?_;clear S;intro a S
        refine s_lv S rfl (Ra (S.tm rfl)) rfl ?_;clear S;intro a S
        refine s_done ?_
        replace S := S.nk [] [(2, bV r30)] [false, false] rfl ⟨rfl, trivial⟩
        refine Tn ?_
        exact ⟨r30, φ83, h, (View.le_trans hl82 hl83), S.nf [] rfl ⟨rfl, trivial⟩⟩
       ·replace h := iteF h hb25
        refine d_region [] ([]) Tryz.mixed S rfl (by kernel_rfl) ?_;clear S;intro w241 hk239 hsel S
        refine d_quiet 0 S hsel rfl rfl rfl (by kernel_rfl) (by kernel_rfl) rfl (fun _ hw => (Rm (S.tm rfl))) ?_;clear S;intro a S
        refine d_quiet 1 S hsel rfl rfl rfl (by kernel_rfl) (by kernel_rfl) rfl (fun _ hw => (rn_ldA Tryz.isAgg27 Tryz.sizeOf27 (off := 0) (o := 0) (part := [u2.val, iV r1.1.Relay, iV r1.1.Most]) rfl rfl (S.tm rfl) ((S.blk_mem (i := 1) (cells := [u2.val, iV r1.1.Relay, iV r1.1.Most]) (b := b2) (T := 27) rfl (ne_nil (e' := .blk b2 [u2.val, iV r1.1.Relay, iV r1.1.Most] 27))).kept hw))) ?_;clear S;intro a S
        refine d_quiet 2 S hsel rfl rfl rfl (by kernel_rfl) (by kernel_rfl) rfl (fun _ hw => (Rm (S.tm rfl))) ?_;clear S;intro a S
        refine d_loud1 3 (by kernel_rfl) rfl ?_
        have hz89 := S.keep.size
        refine l_enter S (fun _ => run_call (vs := [.agg (R27.enc (R27.mk u2 r1.1.Relay r1.1.Most)).toArray, v2]) ⟨(S.tm rfl), (S.tm rfl), trivial⟩ Tryz.call17) (tumbref2_GivenOf_ok _ r1.1 (R27.mk u2 r1.1.Relay r1.1.Most) ⟨u2, rfl, (hs1.mono (View.le_trans (View.le_trans (View.le_trans (View.le_trans hl2 hl3) hl4) hl5) (S.le_new nil_sub)))⟩ v2 r2.1 ((ownV_slcT GScored.enc_ok hs2).mono (View.le_trans (View.le_trans (View.le_trans hl3 hl4) hl5) (S.le_new nil_sub))) _ hr14) rfl ?_;clear S;intro v210 a w242 hv210 hk240 hn210 S
        obtain ⟨φ86, hl86, hm85, S⟩ := S.see' hn210 hz89
        have hs85 := hv210.mono hm85
        refine Ld (d_next hk240 (d_loud1 4 (by kernel_rfl) rfl (l_enter S (fun _ => run_call (vs := [u4, v210]) ⟨(S.tm rfl), (S.tm rfl), trivial⟩ Tryz.call16) (slices_Equal_Given_ok _ u4 r3.1 ((ownV_slcT GGiven.enc_ok hs3).mono (View.le_trans (View.le_trans (View.le_trans hl4 hl5) hl86) (S.le_new nil_sub))) v210 r14 ((ownV_slcT GGiven.enc_ok hs85).mono (S.le_new nil_sub)) _ hr15) rfl ?_)));clear S;intro v211 a w243 hv211 hk241 hn211 S
        subst hv211
        refine Ld (d_next hk241 (d_quiet 5 S hsel rfl rfl rfl (by kernel_rfl) (by kernel_rfl) rfl (fun _ hw => (Rm (S.tm rfl))) ?_));clear S;intro a S
        refine d_skip 6 S hsel rfl rfl rfl rfl (neq_f hb14) rfl (by kernel_rfl) (by kernel_rfl) rfl ?_;clear S;intro a S
        refine d_skip 7 S hsel rfl rfl rfl rfl (neq_f hb14) rfl (by kernel_rfl) (by kernel_rfl) rfl ?_;clear S;intro a S
        refine d_skip 8 S hsel rfl rfl rfl rfl (neq_f hb14) rfl (by kernel_rfl) (by kernel_rfl) rfl ?_;clear S;intro a S
        refine d_skip 9 S hsel rfl rfl rfl rfl (neq_f hb14) rfl (by kernel_rfl) (by kernel_rfl) rfl ?_;clear S;intro a S
        refine d_skip 10 S hsel rfl rfl rfl rfl (neq_f hb14) rfl (by kernel_rfl) (by kernel_rfl) rfl ?_;clear S;intro a S
        refine d_quiet 11 S hsel rfl rfl rfl (by kernel_rfl) (by kernel_rfl) rfl (fun _ hw => (rn_pick_c hb14 (S.tm rfl) rfl)) ?_;clear S;intro a S
        refine d_quiet 12 S hsel rfl rfl rfl (by kernel_rfl) (by kernel_rfl) rfl (fun _ hw => (Rm (S.tm rfl))) ?_;clear S;intro a S
        refine d_quiet_g 13 S hsel rfl rfl rfl rfl hb22 rfl rfl (by kernel_rfl) (by kernel_rfl) rfl (fun _ hw => (Rm (S.tm rfl))) ?_;clear S;intro a S
        refine d_quiet_g 14 S hsel rfl rfl rfl rfl hb22 rfl rfl (by kernel_rfl) (by kernel_rfl) rfl (fun _ hw => (rn_ldA Tryz.isAgg27 Tryz.sizeOf27 (off := 0) (o := 0) (part := [u2.val, iV r1.1.Relay, iV r1.1.Most]) rfl rfl (S.tm rfl) ((S.blk_mem (i := 1) (cells := [u2.val, iV r1.1.Relay, iV r1.1.Most]) (b := b2) (T := 27) rfl (ne_nil (e' := .blk b2 [u2.val, iV r1.1.Relay, iV r1.1.Most] 27))).kept hw))) ?_;clear S;intro a S
        refine d_quiet_g 15 S hsel rfl rfl rfl rfl hb22 rfl rfl (by kernel_rfl) (by kernel_rfl) rfl (fun _ hw => (Rm (S.tm rfl))) ?_;clear S;intro a S
        refine d_loud1 16 (by kernel_rfl) rfl (l_want S rfl rfl rfl hb22 ?_)
        have hz90 := S.keep.size
        refine l_enter S (fun _ => run_call (vs := [.agg (R27.enc (R27.mk u2 r1.1.Relay r1.1.Most)).toArray, v2]) ⟨(S.tm rfl), (S.tm rfl), trivial⟩ Tryz.call19) (tumbref2_SwimmerSums_ok _ r1.1 (R27.mk u2 r1.1.Relay r1.1.Most) ⟨u2, rfl, (hs1.mono (View.le_trans (View.le_trans (View.le_trans (View.le_trans (View.le_trans hl2 hl3) hl4) hl5) hl86) (S.le_new nil_sub)))⟩ v2 r2.1 ((ownV_slcT GScored.enc_ok hs2).mono (View.le_trans (View.le_trans (View.le_trans (View.le_trans hl3 hl4) hl5) hl86) (S.le_new nil_sub))) _ hr26) rfl ?_;clear S;intro v212 a w244 hv212 hk242 hn212 S
        obtain ⟨φ87, hl87, hm86, S⟩ := S.see' hn212 hz90
        have hs86 := hv212.mono hm86
        refine Ld (d_next hk242 (d_loud1 17 (by kernel_rfl) rfl (l_want S rfl rfl rfl hb22 (l_enter S (fun _ => run_call (vs := [u6, v212]) ⟨(S.tm rfl), (S.tm rfl), trivial⟩ Tryz.call16) (slices_Equal_Given_ok _ u6 r5.1 ((ownV_slcT GGiven.enc_ok hs5).mono (View.le_trans (View.le_trans hl86 hl87) (S.le_new nil_sub))) v212 r26 ((ownV_slcT GGiven.enc_ok hs86).mono (S.le_new nil_sub)) _ hr27) rfl ?_))));clear S;intro v213 a w245 hv213 hk243 hn213 S
        subst hv213
        refine Ld (d_next hk243 (d_rest [18, 19, 20, 21, 22, 23, 24, 25, 26, 27, 28, 29] hsel (by kernel_rfl) rfl ?_))
        clear hsel
        refine s_lv S rfl (rn_pick_b hb22 (S.tm rfl) (S.tm rfl)) rfl ?_;clear S;intro a S
        refine s_lv S rfl (Rm (S.tm rfl)) rfl ?_;clear S;intro a S
        iterate 5 (refine s_skip S rfl rfl rfl rfl (neq_f hb23) rfl ?_ rfl;clear S;intro a S)
        refine s_lv S rfl (rn_pick_c hb23 (S.tm rfl) rfl) rfl ?_;clear S;intro a S
        refine s_lv S rfl (Rm (S.tm rfl)) rfl ?_;clear S;intro a S
        refine s_skip S rfl rfl rfl rfl (neq_f hb25) rfl ?_ rfl;clear S;intro a S
        refine s_lv S rfl (rn_pick_c hb25 (S.tm rfl) rfl) rfl ?_;clear S;intro a S
        refine s_lv S rfl (Ra (S.tm rfl)) rfl ?_;clear S;intro a S
        refine s_done ?_
        replace S := S.nk [] [(2, bV false)] [false, false] rfl ⟨rfl, trivial⟩
        refine Tn ?_
        exact ⟨false, φ87, h, (View.le_trans hl86 hl87), S.nf [] rfl ⟨rfl, trivial⟩⟩
     ·replace h := iteF h hb22
      rcases Bool.eq_false_or_eq_true false with hb26 | hb26
      ·replace h := iteT h hb26
       obtain ⟨r31, hr31, h⟩ := bindE h
       rcases Bool.eq_false_or_eq_true (decide (r6.1 = r31)) with hb27 | hb27
       ·replace h := iteT h hb27
        obtain ⟨r32, hr32, h⟩ := bindE h
        refine d_region [] ([]) Tryz.mixed S rfl (by kernel_rfl) ?_;clear S;intro w255 hk253 hsel S
        refine d_quiet 0 S hsel rfl rfl rfl (by kernel_rfl) (by kernel_rfl) rfl (fun _ hw => (Rm (S.tm rfl))) ?_;clear S;intro a S
        refine d_quiet 1 S hsel rfl rfl rfl (by kernel_rfl) (by kernel_rfl) rfl (fun _ hw => (rn_ldA Tryz.isAgg27 Tryz.sizeOf27 (off := 0) (o := 0) (part := [u2.val, iV r1.1.Relay, iV r1.1.Most]) rfl rfl (S.tm rfl) ((S.blk_mem (i := 1) (cells := [u2.val, iV r1.1.Relay, iV r1.1.Most]) (b := b2) (T := 27) rfl (ne_nil (e' := .blk b2 [u2.val, iV r1.1.Relay, iV r1.1.Most] 27))).kept hw))) ?_;clear S;intro a S
        refine d_quiet 2 S hsel rfl rfl rfl (by kernel_rfl) (by kernel_rfl) rfl (fun _ hw => (Rm (S.tm rfl))) ?_;clear S;intro a S
        refine d_loud1 3 (by kernel_rfl) rfl ?_
        have hz94 := S.keep.size
        refine l_enter S (fun _ => run_call (vs := [.agg (R27.enc (R27.mk u2 r1.1.Relay r1.1.Most)).toArray, v2]) ⟨(S.tm rfl), (S.tm rfl), trivial⟩ Tryz.call17) (tumbref2_GivenOf_ok _ r1.1 (R27.mk u2 r1.1.Relay r1.1.Most) ⟨u2, rfl, (hs1.mono (View.le_trans (View.le_trans (View.le_trans (View.le_trans hl2 hl3) hl4) hl5) (S.le_new nil_sub)))⟩ v2 r2.1 ((ownV_slcT GScored.enc_ok hs2).mono (View.le_trans (View.le_trans (View.le_trans hl3 hl4) hl5) (S.le_new nil_sub))) _ hr14) rfl ?_;clear S;intro v223 a w256 hv223 hk254 hn223 S
        obtain ⟨φ91, hl91, hm90, S⟩ := S.see' hn223 hz94
        have hs90 := hv223.mono hm90
        refine Ld (d_next hk254 (d_loud1 4 (by kernel_rfl) rfl (l_enter S (fun _ => run_call (vs := [u4, v223]) ⟨(S.tm rfl), (S.tm rfl), trivial⟩ Tryz.call16) (slices_Equal_Given_ok _ u4 r3.1 ((ownV_slcT GGiven.enc_ok hs3).mono (View.le_trans (View.le_trans (View.le_trans hl4 hl5) hl91) (S.le_new nil_sub))) v223 r14 ((ownV_slcT GGiven.enc_ok hs90).mono (S.le_new nil_sub)) _ hr15) rfl ?_)));clear S;intro v224 a w257 hv224 hk255 hn224 S
        subst hv224
        refine Ld (d_next hk255 (d_quiet 5 S hsel rfl rfl rfl (by kernel_rfl) (by kernel_rfl) rfl (fun _ hw => (Rm (S.tm rfl))) ?_));clear S;intro a S
        refine d_skip 6 S hsel rfl rfl rfl rfl (neq_f hb14) rfl (by kernel_rfl) (by kernel_rfl) rfl ?_;clear S;intro a S
        refine d_skip 7 S hsel rfl rfl rfl rfl (neq_f hb14) rfl (by kernel_rfl) (by kernel_rfl) rfl ?_;clear S;intro a S
        refine d_skip 8 S hsel rfl rfl rfl rfl (neq_f hb14) rfl (by kernel_rfl) (by kernel_rfl) rfl ?_;clear S;intro a S
        refine d_skip 9 S hsel rfl rfl rfl rfl (neq_f hb14) rfl (by kernel_rfl) (by kernel_rfl) rfl ?_;clear S;intro a S
        refine d_skip 10 S hsel rfl rfl rfl rfl (neq_f hb14) rfl (by kernel_rfl) (by kernel_rfl) rfl ?_;clear S;intro a S
        refine d_quiet 11 S hsel rfl rfl rfl (by kernel_rfl) (by kernel_rfl) rfl (fun _ hw => (rn_pick_c hb14 (S.tm rfl) rfl)) ?_;clear S;intro a S
        refine d_quiet 12 S hsel rfl rfl rfl (by kernel_rfl) (by kernel_rfl) rfl (fun _ hw => (Rm (S.tm rfl))) ?_;clear S;intro a S
        refine d_skip 13 S hsel rfl rfl rfl rfl (neq_f hb22) rfl (by kernel_rfl) (by kernel_rfl) rfl ?_;clear S;intro a S
        refine d_skip 14 S hsel rfl rfl rfl rfl (neq_f hb22) rfl (by kernel_rfl) (by kernel_rfl) rfl ?_;clear S;intro a S
        refine d_skip 15 S hsel rfl rfl rfl rfl (neq_f hb22) rfl (by kernel_rfl) (by kernel_rfl) rfl ?_;clear S;intro a S
        refine d_skip 16 S hsel rfl rfl rfl rfl (neq_f hb22) rfl (by kernel_rfl) (by kernel_rfl) rfl ?_;clear S;intro a S
        refine d_skip 17 S hsel rfl rfl rfl rfl (neq_f hb22) rfl (by kernel_rfl) (by kernel_rfl) rfl ?_;clear S;intro a S
        refine d_quiet 18 S hsel rfl rfl rfl (by kernel_rfl) (by kernel_rfl) rfl (fun _ hw => (rn_pick_c hb22 (S.tm rfl) rfl)) ?_;clear S;intro a S
        refine d_quiet 19 S hsel rfl rfl rfl (by kernel_rfl) (by kernel_rfl) rfl (fun _ hw => (Rm (S.tm rfl))) ?_;clear S;intro a S
        refine d_quiet_g 20 S hsel rfl rfl rfl rfl hb26 rfl rfl (by kernel_rfl) (by kernel_rfl) rfl (fun _ hw => (rn_ldA Tryz.isAgg36 Tryz.sizeOf36 (off := 0) (o := 0) (part := (GFraction.enc r6.1)) rfl rfl (S.tm rfl) ((S.blk_mem (i := 0) (cells := (GFraction.enc r6.1)) (b := b3) (T := 36) rfl (ne_nil (e' := .blk b3 (GFraction.enc r6.1) 36))).kept hw))) ?_;clear S;intro a S
        refine d_quiet_g 21 S hsel rfl rfl rfl rfl hb26 rfl rfl (by kernel_rfl) (by kernel_rfl) rfl (fun _ hw => (rn_ldA Tryz.isAgg27 Tryz.sizeOf27 (off := 0) (o := 0) (part := [u2.val, iV r1.1.Relay, iV r1.1.Most]) rfl rfl (S.tm rfl) ((S.blk_mem (i := 1) (cells := [u2.val, iV r1.1.Relay, iV r1.1.Most]) (b := b2) (T := 27) rfl (ne_nil (e' := .blk b2 [u2.val, iV r1.1.Relay, iV r1.1.Most] 27))).kept hw))) ?_;clear S;intro a S
        refine d_quiet_g 22 S hsel rfl rfl rfl rfl hb26 rfl rfl (by kernel_rfl) (by kernel_rfl) rfl (fun _ hw => (Rm (S.tm rfl))) ?_;clear S;intro a S
        refine d_loud1 23 (by kernel_rfl) rfl (l_want S rfl rfl rfl hb26 (l_enter S (fun _ => run_call (vs := [.agg (R27.enc (R27.mk u2 r1.1.Relay r1.1.Most)).toArray, v2]) ⟨(S.tm rfl), (S.tm rfl), trivial⟩ Tryz.call20) (tumbref2_AllPoints_ok _ r1.1 (R27.mk u2 r1.1.Relay r1.1.Most) ⟨u2, rfl, (hs1.mono (View.le_trans (View.le_trans (View.le_trans (View.le_trans (View.le_trans hl2 hl3) hl4) hl5) hl91) (S.le_new nil_sub)))⟩ v2 r2.1 ((ownV_slcT GScored.enc_ok hs2).mono (View.le_trans (View.le_trans (View.le_trans (View.le_trans hl3 hl4) hl5) hl91) (S.le_new nil_sub))) _ hr31) rfl ?_));clear S;intro v225 a w258 hv225 hk256 hn225 S
        subst hv225
        refine Ld (d_next hk256 (d_quiet_g 24 S hsel rfl rfl rfl rfl hb26 rfl rfl (by kernel_rfl) (by kernel_rfl) rfl (fun _ hw => (rn_eql_36 (m := r6.1) (n := r31) (S.tm rfl) (S.tm rfl))) ?_));clear S;intro a S
        refine d_quiet 25 S hsel rfl rfl rfl (by kernel_rfl) (by kernel_rfl) rfl (fun _ hw => (rn_pick_b hb26 (S.tm rfl) (S.tm rfl))) ?_;clear S;intro a S
        refine d_quiet 26 S hsel rfl rfl rfl (by kernel_rfl) (by kernel_rfl) rfl (fun _ hw => (Rm (S.tm rfl))) ?_;clear S;intro a S
        refine d_loud1 27 (by kernel_rfl) rfl (l_want S rfl rfl rfl hb27 (l_enter S (fun _ => run_call (vs := []) trivial Tryz.call15) (tumblaw2_pointed_ok _ _ hr32) rfl ?_));clear S;intro v226 a w259 hv226 hk257 hn226 S
        subst hv226
        refine Ld (d_next hk257 (d_rest [28, 29] hsel (by kernel_rfl) rfl ?_))
        clear hsel
        refine s_lv S rfl (rn_pick_b hb27 (S.tm rfl) (S.tm rfl)) rfl ?_;clear S;intro a S
        refine s_lv S rfl (Ra (S.tm rfl)) rfl ?_;clear S;intro a S
        refine s_done ?_
        replace S := S.nk [] [(2, bV r32)] [false, false] rfl ⟨rfl, trivial⟩
        refine Tn ?_
        exact ⟨r32, φ91, h, hl91, S.nf [] rfl ⟨rfl, trivial⟩⟩
       ·replace h := iteF h hb27
        refine d_region [] ([]) Tryz.mixed S rfl (by kernel_rfl) ?_;clear S;intro w263 hk261 hsel S
        refine d_quiet 0 S hsel rfl rfl rfl (by kernel_rfl) (by kernel_rfl) rfl (fun _ hw => (Rm (S.tm rfl))) ?_;clear S;intro a S
        refine d_quiet 1 S hsel rfl rfl rfl (by kernel_rfl) (by kernel_rfl) rfl (fun _ hw => (rn_ldA Tryz.isAgg27 Tryz.sizeOf27 (off := 0) (o := 0) (part := [u2.val, iV r1.1.Relay, iV r1.1.Most]) rfl rfl (S.tm rfl) ((S.blk_mem (i := 1) (cells := [u2.val, iV r1.1.Relay, iV r1.1.Most]) (b := b2) (T := 27) rfl (ne_nil (e' := .blk b2 [u2.val, iV r1.1.Relay, iV r1.1.Most] 27))).kept hw))) ?_;clear S;intro a S
        refine d_quiet 2 S hsel rfl rfl rfl (by kernel_rfl) (by kernel_rfl) rfl (fun _ hw => (Rm (S.tm rfl))) ?_;clear S;intro a S
        refine d_loud1 3 (by kernel_rfl) rfl ?_
        have hz96 := S.keep.size
        refine l_enter S (fun _ => run_call (vs := [.agg (R27.enc (R27.mk u2 r1.1.Relay r1.1.Most)).toArray, v2]) ⟨(S.tm rfl), (S.tm rfl), trivial⟩ Tryz.call17) (tumbref2_GivenOf_ok _ r1.1 (R27.mk u2 r1.1.Relay r1.1.Most) ⟨u2, rfl, (hs1.mono (View.le_trans (View.le_trans (View.le_trans (View.le_trans hl2 hl3) hl4) hl5) (S.le_new nil_sub)))⟩ v2 r2.1 ((ownV_slcT GScored.enc_ok hs2).mono (View.le_trans (View.le_trans (View.le_trans hl3 hl4) hl5) (S.le_new nil_sub))) _ hr14) rfl ?_;clear S;intro v230 a w264 hv230 hk262 hn230 S
        obtain ⟨φ93, hl93, hm92, S⟩ := S.see' hn230 hz96
        have hs92 := hv230.mono hm92
        refine Ld (d_next hk262 (d_loud1 4 (by kernel_rfl) rfl (l_enter S (fun _ => run_call (vs := [u4, v230]) ⟨(S.tm rfl), (S.tm rfl), trivial⟩ Tryz.call16) (slices_Equal_Given_ok _ u4 r3.1 ((ownV_slcT GGiven.enc_ok hs3).mono (View.le_trans (View.le_trans (View.le_trans hl4 hl5) hl93) (S.le_new nil_sub))) v230 r14 ((ownV_slcT GGiven.enc_ok hs92).mono (S.le_new nil_sub)) _ hr15) rfl ?_)));clear S;intro v231 a w265 hv231 hk263 hn231 S
        subst hv231
        refine Ld (d_next hk263 (d_quiet 5 S hsel rfl rfl rfl (by kernel_rfl) (by kernel_rfl) rfl (fun _ hw => (Rm (S.tm rfl))) ?_));clear S;intro a S
        refine d_skip 6 S hsel rfl rfl rfl rfl (neq_f hb14) rfl (by kernel_rfl) (by kernel_rfl) rfl ?_;clear S;intro a S
        refine d_skip 7 S hsel rfl rfl rfl rfl (neq_f hb14) rfl (by kernel_rfl) (by kernel_rfl) rfl ?_;clear S;intro a S
        refine d_skip 8 S hsel rfl rfl rfl rfl (neq_f hb14) rfl (by kernel_rfl) (by kernel_rfl) rfl ?_;clear S;intro a S
        refine d_skip 9 S hsel rfl rfl rfl rfl (neq_f hb14) rfl (by kernel_rfl) (by kernel_rfl) rfl ?_;clear S;intro a S
        refine d_skip 10 S hsel rfl rfl rfl rfl (neq_f hb14) rfl (by kernel_rfl) (by kernel_rfl) rfl ?_;clear S;intro a S
        refine d_quiet 11 S hsel rfl rfl rfl (by kernel_rfl) (by kernel_rfl) rfl (fun _ hw => (rn_pick_c hb14 (S.tm rfl) rfl)) ?_;clear S;intro a S
        refine d_quiet 12 S hsel rfl rfl rfl (by kernel_rfl) (by kernel_rfl) rfl (fun _ hw => (Rm (S.tm rfl))) ?_;clear S;intro a S
        refine d_skip 13 S hsel rfl rfl rfl rfl (neq_f hb22) rfl (by kernel_rfl) (by kernel_rfl) rfl ?_;clear S;intro a S
        refine d_skip 14 S hsel rfl rfl rfl rfl (neq_f hb22) rfl (by kernel_rfl) (by kernel_rfl) rfl ?_;clear S;intro a S
        refine d_skip 15 S hsel rfl rfl rfl rfl (neq_f hb22) rfl (by kernel_rfl) (by kernel_rfl) rfl ?_;clear S;intro a S
        refine d_skip 16 S hsel rfl rfl rfl rfl (neq_f hb22) rfl (by kernel_rfl) (by kernel_rfl) rfl ?_;clear S;intro a S
        refine d_skip 17 S hsel rfl rfl rfl rfl (neq_f hb22) rfl (by kernel_rfl) (by kernel_rfl) rfl ?_;clear S;intro a S
        refine d_quiet 18 S hsel rfl rfl rfl (by kernel_rfl) (by kernel_rfl) rfl (fun _ hw => (rn_pick_c hb22 (S.tm rfl) rfl)) ?_;clear S;intro a S
        refine d_quiet 19 S hsel rfl rfl rfl (by kernel_rfl) (by kernel_rfl) rfl (fun _ hw => (Rm (S.tm rfl))) ?_;clear S;intro a S
        refine d_quiet_g 20 S hsel rfl rfl rfl rfl hb26 rfl rfl (by kernel_rfl) (by kernel_rfl) rfl (fun _ hw => (rn_ldA Tryz.isAgg36 Tryz.sizeOf36 (off := 0) (o := 0) (part := (GFraction.enc r6.1)) rfl rfl (S.tm rfl) ((S.blk_mem (i := 0) (cells := (GFraction.enc r6.1)) (b := b3) (T := 36) rfl (ne_nil (e' := .blk b3 (GFraction.enc r6.1) 36))).kept hw))) ?_;clear S;intro a S
        refine d_quiet_g 21 S hsel rfl rfl rfl rfl hb26 rfl rfl (by kernel_rfl) (by kernel_rfl) rfl (fun _ hw => (rn_ldA Tryz.isAgg27 Tryz.sizeOf27 (off := 0) (o := 0) (part := [u2.val, iV r1.1.Relay, iV r1.1.Most]) rfl rfl (S.tm rfl) ((S.blk_mem (i := 1) (cells := [u2.val, iV r1.1.Relay, iV r1.1.Most]) (b := b2) (T := 27) rfl (ne_nil (e' := .blk b2 [u2.val, iV r1.1.Relay, iV r1.1.Most] 27))).kept hw))) ?_;clear S;intro a S
        refine d_quiet_g 22 S hsel rfl rfl rfl rfl hb26 rfl rfl (by kernel_rfl) (by kernel_rfl) rfl (fun _ hw => (Rm (S.tm rfl))) ?_;clear S;intro a S
        refine d_loud1 23 (by kernel_rfl) rfl (l_want S rfl rfl rfl hb26 (l_enter S (fun _ => run_call (vs := [.agg (R27.enc (R27.mk u2 r1.1.Relay r1.1.Most)).toArray, v2]) ⟨(S.tm rfl), (S.tm rfl), trivial⟩ Tryz.call20) (tumbref2_AllPoints_ok _ r1.1 (R27.mk u2 r1.1.Relay r1.1.Most) ⟨u2, rfl, (hs1.mono (View.le_trans (View.le_trans (View.le_trans (View.le_trans (View.le_trans hl2 hl3) hl4) hl5) hl93) (S.le_new nil_sub)))⟩ v2 r2.1 ((ownV_slcT GScored.enc_ok hs2).mono (View.le_trans (View.le_trans (View.le_trans (View.le_trans hl3 hl4) hl5) hl93) (S.le_new nil_sub))) _ hr31) rfl ?_));clear S;intro v232 a w266 hv232 hk264 hn232 S
        subst hv232
        refine Ld (d_next hk264 (d_rest [24, 25, 26, 27, 28, 29] hsel (by kernel_rfl) rfl ?_))
        clear hsel
        refine s_want S rfl rfl rfl rfl hb26 (s_lv0 S (rn_eql_36 (m := r6.1) (n := r31) (S.tm rfl) (S.tm rfl)) rfl ?_);clear S;intro a S
        refine s_lv S rfl (rn_pick_b hb26 (S.tm rfl) (S.tm rfl)) rfl ?_;clear S;intro a S
        refine s_lv S rfl (Rm (S.tm rfl)) rfl ?_;clear S;intro a S
        refine s_skip S rfl rfl rfl rfl (neq_f hb27) rfl ?_ rfl;clear S;intro a S
        refine s_lv S rfl (rn_pick_c hb27 (S.tm rfl) rfl) rfl ?_;clear S;intro a S
        refine s_lv S rfl (Ra (S.tm rfl)) rfl ?_;clear S;intro a S
        refine s_done ?_
        replace S := S.nk [] [(2, bV false)] [false, false] rfl ⟨rfl, trivial⟩
        refine Tn ?_
        exact ⟨false, φ93, h, hl93, S.nf [] rfl ⟨rfl, trivial⟩⟩
      ·replace h := iteF h hb26
       rcases Bool.eq_false_or_eq_true false with hb28 | hb28
       ·replace h := iteT h hb28
        obtain ⟨r33, hr33, h⟩ := bindE h
        refine d_region [] ([]) Tryz.mixed S rfl (by kernel_rfl) ?_;clear S;intro w272 hk270 hsel S
        refine d_quiet 0 S hsel rfl rfl rfl (by kernel_rfl) (by kernel_rfl) rfl (fun _ hw => (Rm (S.tm rfl))) ?_;clear S;intro a S
        refine d_quiet 1 S hsel rfl rfl rfl (by kernel_rfl) (by kernel_rfl) rfl (fun _ hw => (rn_ldA Tryz.isAgg27 Tryz.sizeOf27 (off := 0) (o := 0) (part := [u2.val, iV r1.1.Relay, iV r1.1.Most]) rfl rfl (S.tm rfl) ((S.blk_mem (i := 1) (cells := [u2.val, iV r1.1.Relay, iV r1.1.Most]) (b := b2) (T := 27) rfl (ne_nil (e' := .blk b2 [u2.val, iV r1.1.Relay, iV r1.1.Most] 27))).kept hw))) ?_;clear S;intro a S
        refine d_quiet 2 S hsel rfl rfl rfl (by kernel_rfl) (by kernel_rfl) rfl (fun _ hw => (Rm (S.tm rfl))) ?_;clear S;intro a S
        refine d_loud1 3 (by kernel_rfl) rfl ?_
        have hz99 := S.keep.size
        refine l_enter S (fun _ => run_call (vs := [.agg (R27.enc (R27.mk u2 r1.1.Relay r1.1.Most)).toArray, v2]) ⟨(S.tm rfl), (S.tm rfl), trivial⟩ Tryz.call17) (tumbref2_GivenOf_ok _ r1.1 (R27.mk u2 r1.1.Relay r1.1.Most) ⟨u2, rfl, (hs1.mono (View.le_trans (View.le_trans (View.le_trans (View.le_trans hl2 hl3) hl4) hl5) (S.le_new nil_sub)))⟩ v2 r2.1 ((ownV_slcT GScored.enc_ok hs2).mono (View.le_trans (View.le_trans (View.le_trans hl3 hl4) hl5) (S.le_new nil_sub))) _ hr14) rfl ?_;clear S;intro v238 a w273 hv238 hk271 hn238 S
        obtain ⟨φ96, hl96, hm95, S⟩ := S.see' hn238 hz99
        have hs95 := hv238.mono hm95
        refine Ld (d_next hk271 (d_loud1 4 (by kernel_rfl) rfl (l_enter S (fun _ => run_call (vs := [u4, v238]) ⟨(S.tm rfl), (S.tm rfl), trivial⟩ Tryz.call16) (slices_Equal_Given_ok _ u4 r3.1 ((ownV_slcT GGiven.enc_ok hs3).mono (View.le_trans (View.le_trans (View.le_trans hl4 hl5) hl96) (S.le_new nil_sub))) v238 r14 ((ownV_slcT GGiven.enc_ok hs95).mono (S.le_new nil_sub)) _ hr15) rfl ?_)));clear S;intro v239 a w274 hv239 hk272 hn239 S
        subst hv239
        refine Ld (d_next hk272 (d_quiet 5 S hsel rfl rfl rfl (by kernel_rfl) (by kernel_rfl) rfl (fun _ hw => (Rm (S.tm rfl))) ?_));clear S;intro a S
        refine d_skip 6 S hsel rfl rfl rfl rfl (neq_f hb14) rfl (by kernel_rfl) (by kernel_rfl) rfl ?_;clear S;intro a S
        refine d_skip 7 S hsel rfl rfl rfl rfl (neq_f hb14) rfl (by kernel_rfl) (by kernel_rfl) rfl ?_;clear S;intro a S
        refine d_skip 8 S hsel rfl rfl rfl rfl (neq_f hb14) rfl (by kernel_rfl) (by kernel_rfl) rfl ?_;clear S;intro a S
        refine d_skip 9 S hsel rfl rfl rfl rfl (neq_f hb14) rfl (by kernel_rfl) (by kernel_rfl) rfl ?_;clear S;intro a S
        refine d_skip 10 S hsel rfl rfl rfl rfl (neq_f hb14) rfl (by kernel_rfl) (by kernel_rfl) rfl ?_;clear S;intro a S
        refine d_quiet 11 S hsel rfl rfl rfl (by kernel_rfl) (by kernel_rfl) rfl (fun _ hw => (rn_pick_c hb14 (S.tm rfl) rfl)) ?_;clear S;intro a S
        refine d_quiet 12 S hsel rfl rfl rfl (by kernel_rfl) (by kernel_rfl) rfl (fun _ hw => (Rm (S.tm rfl))) ?_;clear S;intro a S
        refine d_skip 13 S hsel rfl rfl rfl rfl (neq_f hb22) rfl (by kernel_rfl) (by kernel_rfl) rfl ?_;clear S;intro a S
        refine d_skip 14 S hsel rfl rfl rfl rfl (neq_f hb22) rfl (by kernel_rfl) (by kernel_rfl) rfl ?_;clear S;intro a S
        refine d_skip 15 S hsel rfl rfl rfl rfl (neq_f hb22) rfl (by kernel_rfl) (by kernel_rfl) rfl ?_;clear S;intro a S
        refine d_skip 16 S hsel rfl rfl rfl rfl (neq_f hb22) rfl (by kernel_rfl) (by kernel_rfl) rfl ?_;clear S;intro a S
        refine d_skip 17 S hsel rfl rfl rfl rfl (neq_f hb22) rfl (by kernel_rfl) (by kernel_rfl) rfl ?_;clear S;intro a S
        refine d_quiet 18 S hsel rfl rfl rfl (by kernel_rfl) (by kernel_rfl) rfl (fun _ hw => (rn_pick_c hb22 (S.tm rfl) rfl)) ?_;clear S;intro a S
        refine d_quiet 19 S hsel rfl rfl rfl (by kernel_rfl) (by kernel_rfl) rfl (fun _ hw => (Rm (S.tm rfl))) ?_;clear S;intro a S
        refine d_skip 20 S hsel rfl rfl rfl rfl (neq_f hb26) rfl (by kernel_rfl) (by kernel_rfl) rfl ?_;clear S;intro a S
        refine d_skip 21 S hsel rfl rfl rfl rfl (neq_f hb26) rfl (by kernel_rfl) (by kernel_rfl) rfl ?_;clear S;intro a S
        refine d_skip 22 S hsel rfl rfl rfl rfl (neq_f hb26) rfl (by kernel_rfl) (by kernel_rfl) rfl ?_;clear S;intro a S
        refine d_skip 23 S hsel rfl rfl rfl rfl (neq_f hb26) rfl (by kernel_rfl) (by kernel_rfl) rfl ?_;clear S;intro a S
        refine d_skip 24 S hsel rfl rfl rfl rfl (neq_f hb26) rfl (by kernel_rfl) (by kernel_rfl) rfl ?_;clear S;intro a S
        refine d_quiet 25 S hsel rfl rfl rfl (by kernel_rfl) (by kernel_rfl) rfl (fun _ hw => (rn_pick_c hb26 (S.tm rfl) rfl)) ?_;clear S;intro a S
        refine d_quiet 26 S hsel rfl rfl rfl (by kernel_rfl) (by kernel_rfl) rfl (fun _ hw => (Rm (S.tm rfl))) ?_;clear S;intro a S
        refine d_loud1 27 (by kernel_rfl) rfl (l_want S rfl rfl rfl hb28 (l_enter S (fun _ => run_call (vs := []) trivial Tryz.call15) (tumblaw2_pointed_ok _ _ hr33) rfl ?_));clear S;intro v240 a w275 hv240 hk273 hn240 S
        subst hv240
        refine Ld (d_next hk273 (d_rest [28, 29] hsel (by kernel_rfl) rfl ?_))
        clear hsel
        refine s_lv S rfl (rn_pick_b hb28 (S.tm rfl) (S.tm rfl)) rfl ?_;clear S;intro a S
        refine s_lv S rfl (Ra (S.tm rfl)) rfl ?_;clear S;intro a S
        refine s_done ?_
        replace S := S.nk [] [(2, bV r33)] [false, false] rfl ⟨rfl, trivial⟩
        refine Tn ?_
        exact ⟨r33, φ96, h, hl96, S.nf [] rfl ⟨rfl, trivial⟩⟩
       ·replace h := iteF h hb28
        refine d_region [] ([]) Tryz.mixed S rfl (by kernel_rfl) ?_;clear S;intro w278 hk276 hsel S
        refine d_quiet 0 S hsel rfl rfl rfl (by kernel_rfl) (by kernel_rfl) rfl (fun _ hw => (Rm (S.tm rfl))) ?_;clear S;intro a S
        refine d_quiet 1 S hsel rfl rfl rfl (by kernel_rfl) (by kernel_rfl) rfl (fun _ hw => (rn_ldA Tryz.isAgg27 Tryz.sizeOf27 (off := 0) (o := 0) (part := [u2.val, iV r1.1.Relay, iV r1.1.Most]) rfl rfl (S.tm rfl) ((S.blk_mem (i := 1) (cells := [u2.val, iV r1.1.Relay, iV r1.1.Most]) (b := b2) (T := 27) rfl (ne_nil (e' := .blk b2 [u2.val, iV r1.1.Relay, iV r1.1.Most] 27))).kept hw))) ?_;clear S;intro a S
        refine d_quiet 2 S hsel rfl rfl rfl (by kernel_rfl) (by kernel_rfl) rfl (fun _ hw => (Rm (S.tm rfl))) ?_;clear S;intro a S
        refine d_loud1 3 (by kernel_rfl) rfl ?_
        have hz101 := S.keep.size
        refine l_enter S (fun _ => run_call (vs := [.agg (R27.enc (R27.mk u2 r1.1.Relay r1.1.Most)).toArray, v2]) ⟨(S.tm rfl), (S.tm rfl), trivial⟩ Tryz.call17) (tumbref2_GivenOf_ok _ r1.1 (R27.mk u2 r1.1.Relay r1.1.Most) ⟨u2, rfl, (hs1.mono (View.le_trans (View.le_trans (View.le_trans (View.le_trans hl2 hl3) hl4) hl5) (S.le_new nil_sub)))⟩ v2 r2.1 ((ownV_slcT GScored.enc_ok hs2).mono (View.le_trans (View.le_trans (View.le_trans hl3 hl4) hl5) (S.le_new nil_sub))) _ hr14) rfl ?_;clear S;intro v243 a w279 hv243 hk277 hn243 S
        obtain ⟨φ98, hl98, hm97, S⟩ := S.see' hn243 hz101
        have hs97 := hv243.mono hm97
        refine Ld (d_next hk277 (d_loud1 4 (by kernel_rfl) rfl (l_enter S (fun _ => run_call (vs := [u4, v243]) ⟨(S.tm rfl), (S.tm rfl), trivial⟩ Tryz.call16) (slices_Equal_Given_ok _ u4 r3.1 ((ownV_slcT GGiven.enc_ok hs3).mono (View.le_trans (View.le_trans (View.le_trans hl4 hl5) hl98) (S.le_new nil_sub))) v243 r14 ((ownV_slcT GGiven.enc_ok hs97).mono (S.le_new nil_sub)) _ hr15) rfl ?_)));clear S;intro v244 a w280 hv244 hk278 hn244 S
        subst hv244
        refine Ld (d_next hk278 (d_rest [5, 6, 7, 8, 9, 10, 11, 12, 13, 14, 15, 16, 17, 18, 19, 20, 21, 22, 23, 24, 25, 26, 27, 28, 29] hsel (by kernel_rfl) rfl ?_))
        clear hsel
        refine s_lv S rfl (Rm (S.tm rfl)) rfl ?_;clear S;intro a S
        iterate 5 (refine s_skip S rfl rfl rfl rfl (neq_f hb14) rfl ?_ rfl;clear S;intro a S)
        refine s_lv S rfl (rn_pick_c hb14 (S.tm rfl) rfl) rfl ?_;clear S;intro a S
        refine s_lv S rfl (Rm (S.tm rfl)) rfl ?_;clear S;intro a S
        iterate 5 (refine s_skip S rfl rfl rfl rfl (neq_f hb22) rfl ?_ rfl;clear S;intro a S)
        refine s_lv S rfl (rn_pick_c hb22 (S.tm rfl) rfl) rfl ?_;clear S;intro a S
        refine s_lv S rfl (Rm (S.tm rfl)) rfl ?_;clear S;intro a S
        iterate 5 (refine s_skip S rfl rfl rfl rfl (neq_f hb26) rfl ?_ rfl;clear S;intro a S)
        refine s_lv S rfl (rn_pick_c hb26 (S.tm rfl) rfl) rfl ?_;clear S;intro a S
        refine s_lv S rfl (Rm (S.tm rfl)) rfl ?_;clear S;intro a S
        refine s_skip S rfl rfl rfl rfl (neq_f hb28) rfl ?_ rfl;clear S;intro a S
        refine s_lv S rfl (rn_pick_c hb28 (S.tm rfl) rfl) rfl ?_;clear S;intro a S
        refine s_lv S rfl (Ra (S.tm rfl)) rfl ?_;clear S;intro a S
        refine s_done ?_
        replace S := S.nk [] [(2, bV false)] [false, false] rfl ⟨rfl, trivial⟩
        refine Tn ?_
        exact ⟨false, φ98, h, hl98, S.nf [] rfl ⟨rfl, trivial⟩⟩
   clear S h;rintro a w44 ⟨x2, φ6, h, hl6, S⟩;rw [hj3] at h;clear hj3 j3
   refine Tn (wp_ret ?_)
   obtain rfl := Option.some.inj h
   exact f_ret S Tryz.results3 rfl rfl
end Go.Proofs.YtmdjmbbmlohnlaaGreatDoor
