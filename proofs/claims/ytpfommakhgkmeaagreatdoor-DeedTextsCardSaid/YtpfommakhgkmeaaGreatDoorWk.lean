/- Each Go function computes its plain twin, by program. -/
import Derived.Test.YtpfommakhgkmeaaGreatDoorWk3
namespace Go.Proofs.YtpfommakhgkmeaaGreatDoor
open Go
theorem tumblaw2_met_ok (w : World) (r : Bool) (h : tumblaw2_met = some r) :
    Calls Tryz.prog 13 [].toArray w (Ret w [] fun _ v _ => v = bV r) := by
 refine f_enter [] [] Tryz.func13 rfl Tryz.ntmps13 rfl (by simp) (by simp [fps]) (by simp [fps]) fun a S => ?_
 unfold tumblaw2_met at h
 replace S := S.nk [] [] [] rfl trivial
 refine Fs (Fg (lv S (Ra rfl) rfl ?_));clear S;intro a S
 refine Ld (Tn (Fs (Fg (lv S (rn_bld bt_80 (pv := [(0, sV k_r), (1, iV 50), (2, iV 1), (3, iV 50), (4, iV 1)]) ⟨rfl, rfl, rfl, rfl, rfl, rfl, rfl, rfl, rfl, rfl, trivial⟩ (cs := [sV k_r, iV 50, iV 1, iV 50, iV 1, iV 0, iV 0, iV 0]) (by kernel_rfl)) rfl ?_))));clear S;intro a S
 refine l_buildSlice S Tryz.underlying81 Tryz.sizeOf80 Tryz.zeroValue80 rfl rfl (pv := [(0, .agg (GRace.enc (GRace.mk k_r 50 1 50 1 0 0 0)).toArray)]) ⟨rfl, (S.tm rfl), trivial⟩ (cs := [sV k_r, iV 50, iV 1, iV 50, iV 1, iV 0, iV 0, iV 0]) (by kernel_rfl) rfl ?_;clear S;intro a w1 b1 hz1 hk1 S
 refine lv S (rn_bld bt_83 (pv := [(1, iV 1)]) ⟨rfl, rfl, trivial⟩ (cs := [.slice none 0 0, iV 1, iV 0]) (by kernel_rfl)) rfl ?_;clear S;intro a S
 refine lv S (rn_bld bt_85 (pv := [(0, iV 1), (1, iV 1)]) ⟨rfl, rfl, rfl, rfl, trivial⟩ (cs := [iV 1, iV 1, iV 0]) (by kernel_rfl)) rfl ?_;clear S;intro a S
 refine lv S (rn_bld bt_87 (pv := [(0, .slice (some ⟨b1, 0, none⟩) 1 1), (1, .agg #[.slice none 0 0, iV 1, iV 0]), (2, .agg #[iV 1, iV 1, iV 0])]) ⟨rfl, (S.tm rfl), rfl, (S.tm rfl), rfl, (S.tm rfl), trivial⟩ (cs := [.slice (some ⟨b1, 0, none⟩) 1 1, .slice none 0 0, iV 1, iV 0, iV 1, iV 1, iV 0]) (by kernel_rfl)) rfl ?_;clear S;intro a S
 refine l_alloc S Tryz.zeroValue87 (cs := [.slice none 0 0, .slice none 0 0, iV 0, iV 0, iV 0, iV 0, iV 0]) rfl rfl ?_;clear S;intro a w2 b2 hz2 hk2 S
 refine l_store S (S.tm rfl) (S.tm rfl) (i := 0) (off := 0) rfl Tryz.sizeOf87 (vs := [.slice (some ⟨b1, 0, none⟩) 1 1, .slice none 0 0, iV 1, iV 0, iV 1, iV 1, iV 0]) rfl rfl rfl rfl ?_;clear S;intro w3 hk3 S
 refine Ld (Tn (Fs (Fg (lv S (rn_ldA Tryz.isAgg87 Tryz.sizeOf87 (off := 0) (o := 0) (part := [.slice (some ⟨b1, 0, none⟩) 1 1, .slice none 0 0, iV 1, iV 0, iV 1, iV 1, iV 0]) rfl rfl (S.tm rfl) (S.cellsAt (i := 0) rfl)) rfl ?_))));clear S;intro a S
 refine lv S (rn_bld bt_39 (pv := [(0, sV k_s), (1, iV 1), (3, iV 1), (4, sV k_a), (6, sV k_r), (7, iV 5)]) ⟨rfl, rfl, rfl, rfl, rfl, rfl, rfl, rfl, rfl, rfl, rfl, rfl, trivial⟩ (cs := [sV k_s, iV 1, iV 0, iV 1, sV k_a, sV k_empty, sV k_r, iV 5, iV 0, sV k_empty, iV 0]) (by kernel_rfl)) rfl ?_;clear S;intro a S
 refine l_buildSlice S Tryz.underlying26 Tryz.sizeOf39 Tryz.zeroValue39 rfl rfl (pv := [(0, .agg (GDeed.enc (GDeed.mk k_s 1 0 1 k_a k_empty k_r 5 0 k_empty 0)).toArray)]) ⟨rfl, (S.tm rfl), trivial⟩ (cs := [sV k_s, iV 1, iV 0, iV 1, sV k_a, sV k_empty, sV k_r, iV 5, iV 0, sV k_empty, iV 0]) (by kernel_rfl) rfl ?_;clear S;intro a w4 b3 hz3 hk4 S
 replace S := S.litOwn (i := 2) (xs := [(GRace.mk k_r 50 1 50 1 0 0 0)]) rfl GRace.enc_ok rfl rfl rfl
 replace S := S.nk [.blk b3 (GDeed.enc (GDeed.mk k_s 1 0 1 k_a k_empty k_r 5 0 k_empty 0)) 39, .blk b2 [(.slice (some ⟨b1, 0, none⟩) 1 1), .slice none 0 0, iV 1, iV 0, iV 1, iV 1, iV 0] 87, .own (.slice (some ⟨b1, 0, none⟩) 1 1) 80 8 ([(GRace.mk k_r 50 1 50 1 0 0 0)] : List GRace).length (([(GRace.mk k_r 50 1 50 1 0 0 0)] : List GRace).flatMap GRace.enc)] [(0, bV false), (1, .pointer (some ⟨b2, 0, none⟩)), (4, .agg (GRace.enc (GRace.mk k_r 50 1 50 1 0 0 0)).toArray), (5, (.slice (some ⟨b1, 0, none⟩) 1 1)), (6, .agg #[.slice none 0 0, iV 1, iV 0]), (7, .agg #[iV 1, iV 1, iV 0]), (8, .agg #[(.slice (some ⟨b1, 0, none⟩) 1 1), .slice none 0 0, iV 1, iV 0, iV 1, iV 1, iV 0]), (10, .agg #[(.slice (some ⟨b1, 0, none⟩) 1 1), .slice none 0 0, iV 1, iV 0, iV 1, iV 1, iV 0]), (11, .agg (GDeed.enc (GDeed.mk k_s 1 0 1 k_a k_empty k_r 5 0 k_empty 0)).toArray), (12, .slice (some ⟨b3, 0, none⟩) 1 1)] [] rfl (subR rfl)
 obtain ⟨r1, hr1, h⟩ := bindE h
 have hz4 := S.keep.size
 refine l_enter S (fun _ => run_call (vs := [.agg (R87.enc (R87.mk ⟨(.slice (some ⟨b1, 0, none⟩) 1 1), SlcLen.one (own_len (S.own_at (i := 2) rfl))⟩ (R83.mk ⟨.slice none 0 0, rfl⟩ 1 0) (GFinal.mk 1 1 0))).toArray, .slice (some ⟨b3, 0, none⟩) 1 1, sV k_r, iV 0]) ⟨(S.tm rfl), (S.tm rfl), rfl, rfl, trivial⟩ Tryz.call48) (meet_Entered_ok _ (GPlan.mk ([(GRace.mk k_r 50 1 50 1 0 0 0)] : List GRace) (GTable.mk ([] : List Int) 1 0) (GFinal.mk 1 1 0)) (R87.mk ⟨(.slice (some ⟨b1, 0, none⟩) 1 1), SlcLen.one (own_len (S.own_at (i := 2) rfl))⟩ (R83.mk ⟨.slice none 0 0, rfl⟩ 1 0) (GFinal.mk 1 1 0)) ⟨⟨(.slice (some ⟨b1, 0, none⟩) 1 1), SlcLen.one (own_len (S.own_at (i := 2) rfl))⟩, (R83.mk ⟨.slice none 0 0, rfl⟩ 1 0), rfl, (own_slcT GRace.enc_ok S (i := 2) rfl (ne_nil (e' := .own (.slice (some ⟨b1, 0, none⟩) 1 1) 80 8 ([(GRace.mk k_r 50 1 50 1 0 0 0)] : List GRace).length (([(GRace.mk k_r 50 1 50 1 0 0 0)] : List GRace).flatMap GRace.enc)))), ⟨⟨.slice none 0 0, rfl⟩, rfl, (slc_nil _ _)⟩⟩ (.slice (some ⟨b3, 0, none⟩) 1 1) [(GDeed.mk k_s 1 0 1 k_a k_empty k_r 5 0 k_empty 0)] (lit_slcT GDeed.enc_ok S (i := 0) rfl rfl rfl rfl ((ne_nil (e' := .blk b3 (GDeed.enc (GDeed.mk k_s 1 0 1 k_a k_empty k_r 5 0 k_empty 0)) 39)) _ rfl)) k_r 0 _ hr1) rfl ?_;clear S;intro v1 a w5 hv1 hk5 hn1 S
 obtain ⟨u1, rfl, ho1⟩ := hv1
 obtain ⟨φ1, hl1, hm1, S⟩ := S.see' hn1 hz4
 have hs1 := ho1.mono hm1
 refine lv S (Rm (S.tm rfl)) rfl ?_;clear S;intro a S
 refine lv S (rn_extract (S.tm rfl) rfl) rfl ?_;clear S;intro a S
 refine lv S (rn_extract (S.tm rfl) rfl) rfl ?_;clear S;intro a S
 refine lv S (Ra (S.tm rfl)) rfl ?_;clear S;intro a S
 refine lv S (Ra (S.tm rfl)) rfl ?_;clear S;intro a S
 refine Ld ?_
 replace S := S.nk [] [(2, u1), (3, iV r1.2)] [false, false, false] rfl (subR rfl)
 refine Tn (Fs (Fg (lv S (Rm (S.tm rfl)) rfl ?_)));clear S;intro a S
 refine lv S (rn_eql (S.tm rfl) rfl) rfl ?_;clear S;intro a S
 refine lv S (Rm (S.tm rfl)) rfl ?_;clear S;intro a S
 refine f_cutm 4 (fun a w' => Keep [] w5 w' ∧ Sx w [] φ1 [] [(2, u1), (22, bV ((decide (r1.2 = 0)) && (decide ((r1.1.length : Int) = 1))))] 30 a w') ?_ ?_
 ·rcases Bool.eq_false_or_eq_true (decide (r1.2 = 0)) with hb1 | hb1
  ·refine l_want S rfl rfl rfl hb1 (lv S (Rm (S.tm rfl)) rfl ?_);clear S;intro a S
   refine l_want S rfl rfl rfl hb1 (lv S (rn_lenT sl_88 (S.tm rfl) (slc_len (ownV_slcT GSeed.enc_ok hs1))) rfl ?_);clear S;intro a S
   refine l_want S rfl rfl rfl hb1 (lv S (rn_eql (S.tm rfl) rfl) rfl ?_);clear S;intro a S
   refine lv S (rn_and_t hb1 (S.tm rfl) (S.tm rfl)) rfl ?_;clear S;intro a S
   refine Ld (Tn ?_)
   exact ⟨Keep.refl _ _, S.nf [] rfl (subR rfl)⟩
  ·iterate 3 (refine l_skip S rfl rfl rfl (neq_f hb1) rfl ?_ rfl;clear S;intro a S)
   refine lv S (rn_and_f (decide ((r1.1.length : Int) = 1)) hb1 (S.tm rfl) rfl) rfl ?_;clear S;intro a S
   refine Ld (Tn ?_)
   exact ⟨Keep.refl _ _, S.nf [] rfl (subR rfl)⟩
 clear S;rintro a w6 ⟨hk6, S⟩
 refine lv S (Rm (S.tm rfl)) rfl ?_;clear S;intro a S
 obtain ⟨j1, hj1, h⟩ := joinE h
 refine f_cutm 6 (fun a w' => ∃ c1, j1 c1 = some r ∧ Keep [] w6 w' ∧ Sx w [] φ1 [] [(29, bV c1)] 30 a w') ?_ ?_
 ·rcases Bool.eq_false_or_eq_true ((decide (r1.2 = 0)) && (decide ((r1.1.length : Int) = 1))) with hb2 | hb2
  ·replace h := iteT h hb2
   refine l_want S rfl rfl rfl hb2 (lv S (Rm (S.tm rfl)) rfl ?_);clear S;intro a S
   refine l_want S rfl rfl rfl hb2 ?_
   obtain ⟨hc1, h⟩ := chkE h
   obtain ⟨b4, o1, hm2, hr2⟩ := rn_indexT (a := a) (x := .tmp 24) (y := .const (iV 0)) (ty := 0) sl_88 (ownV_slcT GSeed.enc_ok hs1) (inB_get hc1).1 (inB_get hc1).2 (S.tm rfl) rfl
   refine lv S (hr2 _) rfl ?_;clear S;intro a S
   clear hr2
   refine l_want S rfl rfl rfl hb2 (lv S (rn_fld fa_92_1 (S.tm rfl)) rfl ?_);clear S;intro a S
   refine l_want S rfl rfl rfl hb2 (lv S (rn_ld Tryz.isAgg3 (off := o1) (o := 1) (S.tm rfl) (hm2.at S.emb) rfl) rfl ?_);clear S;intro a S
   refine l_want S rfl rfl rfl hb2 (lv S (rn_eql (S.tm rfl) rfl) rfl ?_);clear S;intro a S
   refine lv S (rn_and_t hb2 (S.tm rfl) (S.tm rfl)) rfl ?_;clear S;intro a S
   refine Ld (Tn ?_)
   exact ⟨_, h, Keep.refl _ _, S.nf [] rfl ⟨rfl, trivial⟩⟩
  ·replace h := iteF h hb2
   iterate 5 (refine l_skip S rfl rfl rfl (neq_f hb2) rfl ?_ rfl;clear S;intro a S)
   refine lv S (rn_and_f true hb2 (S.tm rfl) rfl) rfl ?_;clear S;intro a S
   refine Ld (Tn ?_)
   exact ⟨_, h, Keep.refl _ _, S.nf [] rfl ⟨rfl, trivial⟩⟩
 clear S h;rintro a w7 ⟨c1, h, hk7, S⟩;rw [hj1] at h;clear hj1 j1
 refine lv S (Ra (S.tm rfl)) rfl ?_;clear S;intro a S
 refine Ld (Tn (wp_ret ?_))
 obtain rfl := Option.some.inj h
 exact f_ret S Tryz.results13 rfl rfl
theorem tumblaw2_DeedTexts_ok (w : World) (Ab : Value) (Ac : List Int) (Ao : Slc (view w []) 1 Ab (Ac.map eInt)) (hg_maxlen : GlobI (view w []) 0) (hg_pow10 : Glob (view w []) 1 pow10Cells) (r : Bool) (h : tumblaw2_DeedTexts Ac = some r) :
    Calls Tryz.prog 3 [Ab].toArray w (Ret w [] fun _ v _ => v = bV r) := by
 refine f_enter [] [] Tryz.func3 rfl Tryz.ntmps3 rfl (by simp) (by simp [fps]) (by simp [fps]) fun a S => ?_
 unfold tumblaw2_DeedTexts at h
 replace S := S.nk [] [(0, Ab)] [] rfl ⟨rfl, trivial⟩
 refine Fs (Fg (lv S (Ra rfl) rfl ?_));clear S;intro a S
 refine Ld (Tn (Fs (Fg (lv S (Rm (S.tm rfl)) rfl ?_))));clear S;intro a S
 refine lv S (rn_bld bt_25 (pv := [(0, Ab)]) ⟨rfl, (S.tm rfl), trivial⟩ (cs := [Ab, iV 0]) (by obtain ⟨_, _, hv⟩ := (slc_len Ao);rw [hv];clear hv;kernel_rfl)) rfl ?_;clear S;intro a S
 refine l_box S (S.tm rfl) (cs := [Ab, iV 0]) rfl rfl ?_;clear S;intro a w1 b1 hz1 hk1 S
 refine lv S (Ra (S.tm rfl)) rfl ?_;clear S;intro a S
 refine Ld (Tn (Fs (Fg (lv S (Rm (S.tm rfl)) rfl ?_))));clear S;intro a S
 refine lv S (Rm (S.tm rfl)) rfl ?_;clear S;intro a S
 obtain ⟨r1, hr1, h⟩ := bindE h
 refine l_enter1 0 S (b := b1) rfl rfl (fun _ => .blk b1 [Ab, iV r1.2] 25) (fun _ => run_call (vs := [.pointer (some ⟨b1, 0, none⟩), iV 0, iV 6]) ⟨(S.tm rfl), rfl, rfl, trivial⟩ Tryz.call5) (Stream_Range_ok _ b1 Ab Ac (Ao.mono (S.le_arg (fp_sub (i := 0) (e := .blk b1 [Ab, iV 0] 25) rfl))) 0 (S.holds _ (List.mem_of_getElem? (i := 0) rfl)) 0 6 _ hr1) rfl (fun _ _ _ h => ⟨h.1, fun _ hc => by cases hc;rfl⟩) ?_;clear S;intro v1 a w2 hv1 hk2 hn1 S
 replace hv1 := hv1.2
 subst hv1
 obtain ⟨r2, hr2, h⟩ := bindE h
 have hz2 := S.keep.size
 refine l_enter1 0 S (b := b1) rfl rfl (fun _ => .blk b1 [Ab, iV r2.2] 25) (fun _ => run_call (vs := [.pointer (some ⟨b1, 0, none⟩), iV r1.1]) ⟨(S.tm rfl), (S.tm rfl), trivial⟩ Tryz.call4) (Stream_Deeds_ok _ b1 Ab Ac (Ao.mono (S.le_arg (fp_sub (i := 0) (e := .blk b1 [Ab, iV r1.2] 25) rfl))) r1.2 (S.holds _ (List.mem_of_getElem? (i := 0) rfl)) r1.1 _ hr2) rfl (fun _ _ _ h => ⟨h.1, fun _ hc => by cases hc;rfl⟩) ?_;clear S;intro v2 a w3 hv2 hk3 hn2 S
 replace hv2 := hv2.2
 obtain ⟨φ1, hl1, hm1, S⟩ := S.see' hn2 hz2
 have hs1 := hv2.mono hm1
 refine lv S (Rm (S.tm rfl)) rfl ?_;clear S;intro a S
 obtain ⟨r3, hr3, h⟩ := bindE h
 refine l_enter1 0 S (b := b1) rfl rfl (fun _ => .blk b1 [Ab, iV r3.2] 25) (fun _ => run_call (vs := [.pointer (some ⟨b1, 0, none⟩)]) ⟨(S.tm rfl), trivial⟩ Tryz.call6) (Stream_DeedText_ok _ b1 Ab Ac (Ao.mono (S.le_arg (fp_sub (i := 0) (e := .blk b1 [Ab, iV r2.2] 25) rfl))) r2.2 (S.holds _ (List.mem_of_getElem? (i := 0) rfl)) (hg_pow10.mono (S.le_arg (fp_sub (i := 0) (e := .blk b1 [Ab, iV r2.2] 25) rfl))) _ hr3) rfl (fun _ _ _ h => ⟨h.1, fun _ hc => by cases hc;rfl⟩) ?_;clear S;intro v3 a w4 hv3 hk4 hn3 S
 replace hv3 := hv3.2
 subst hv3
 refine lv S (Ra (S.tm rfl)) rfl ?_;clear S;intro a S
 refine lv S (Ra (S.tm rfl)) rfl ?_;clear S;intro a S
 refine Ld (Tn (Fs (Fg (lv S (Rm (S.tm rfl)) rfl ?_))));clear S;intro a S
 obtain ⟨r4, hr4, h⟩ := bindE h
 refine l_enter S (fun _ => run_call (vs := [v2]) ⟨(S.tm rfl), trivial⟩ Tryz.call7) (meet_Text_ok _ v2 r2.1 ((ownV_slcT GDeed.enc_ok hs1).mono (S.le_new nil_sub)) (hg_pow10.mono (S.le_arg nil_sub)) _ hr4) rfl ?_;clear S;intro v4 a w5 hv4 hk5 hn4 S
 subst hv4
 refine lv S (Rm (S.tm rfl)) rfl ?_;clear S;intro a S
 refine lv S (rn_extract (S.tm rfl) rfl) rfl ?_;clear S;intro a S
 refine lv S (rn_extract (S.tm rfl) rfl) rfl ?_;clear S;intro a S
 refine lv S (Ra (S.tm rfl)) rfl ?_;clear S;intro a S
 refine lv S (Ra (S.tm rfl)) rfl ?_;clear S;intro a S
 refine Ld ?_
 replace S := S.nk [] [(4, v2), (5, sV r3.1), (6, sV r4.1), (7, iV r4.2)] [false] rfl (subR rfl)
 refine Tn (Fs (Fg (lv S (Rm (S.tm rfl)) rfl ?_)));clear S;intro a S
 obtain ⟨r5, hr5, h⟩ := bindE h
 refine l_enter S (fun _ => run_call (vs := [v2]) ⟨(S.tm rfl), trivial⟩ Tryz.call8) (tumbref2_DeedsFault_ok _ v2 r2.1 ((ownV_slcT GDeed.enc_ok hs1).mono (S.le_new nil_sub)) _ hr5) rfl ?_;clear S;intro v5 a w6 hv5 hk6 hn5 S
 subst hv5
 refine lv S (Ra (S.tm rfl)) rfl ?_;clear S;intro a S
 refine lv S (Ra rfl) rfl ?_;clear S;intro a S
 refine Ld (Tn (Fs (Fs (Fg (lv S (Rm (S.tm rfl)) rfl ?_)))));clear S;intro a S
 refine lv S (rn_eql (S.tm rfl) rfl) rfl ?_;clear S;intro a S
 refine Ld (Tn ?_)
 obtain ⟨j1, hj1, h⟩ := joinE h
 refine f_join (fun a w' => ∃ x1 : ByteArray, j1 x1 = some r ∧ Sx w [] φ1 [] [(5, sV r3.1), (6, sV r4.1), (7, iV r4.2), (8, iV r5), (9, sV x1)] 74 a w') ?_ ?_
 ·refine f_cond (S.tm rfl) (fun hb1 => ?_) (fun hb1 => ?_)
  ·replace h := iteT h hb1
   refine Fg (lv S (Rm (S.tm rfl)) rfl ?_);clear S;intro a S
   obtain ⟨r6, hr6, h⟩ := bindE h
   refine l_enter S (fun _ => run_call (vs := [v2]) ⟨(S.tm rfl), trivial⟩ Tryz.call9) (tumbref2_DeedLines_ok _ v2 r2.1 ((ownV_slcT GDeed.enc_ok hs1).mono (S.le_new nil_sub)) (hg_pow10.mono (S.le_arg nil_sub)) _ hr6) rfl ?_;clear S;intro v6 a w8 hv6 hk7 hn6 S
   subst hv6
   refine lv S (Ra (S.tm rfl)) rfl ?_;clear S;intro a S
   refine Ld (Tn ?_)
   exact ⟨r6, h, S.nf [] rfl (subR rfl)⟩
  ·replace h := iteF h hb1
   refine wp_skip (Tn ?_)
   exact ⟨k_empty, h, S.nf [] rfl (subR rfl)⟩
 clear S h;rintro a w7 ⟨x1, h, S⟩;rw [hj1] at h;clear hj1 j1
 refine Tn (Fs (Fg (lv S (Rm (S.tm rfl)) rfl ?_)));clear S;intro a S
 obtain ⟨r7, hr7, h⟩ := bindE h
 have hz3 := S.keep.size
 refine l_enter S (fun _ => run_call (vs := [sV r3.1]) ⟨(S.tm rfl), trivial⟩ Tryz.call10) (meet_Read_ok _ r3.1 (hg_maxlen.mono (S.le_arg nil_sub)) _ hr7) rfl ?_;clear S;intro v7 a w9 hv7 hk8 hn7 S
 obtain ⟨u2, rfl, ho2⟩ := hv7
 obtain ⟨φ2, hl2, hm2, S⟩ := S.see' hn7 hz3
 have hs2 := ho2.mono hm2
 refine lv S (Rm (S.tm rfl)) rfl ?_;clear S;intro a S
 iterate 3 (refine lv S (rn_extract (S.tm rfl) rfl) rfl ?_;clear S;intro a S)
 iterate 3 (refine lv S (Ra (S.tm rfl)) rfl ?_;clear S;intro a S)
 refine Ld (Tn (Fs (Fg (lv S (Rm (S.tm rfl)) rfl ?_))));clear S;intro a S
 obtain ⟨r8, hr8, h⟩ := bindE h
 have hz4 := S.keep.size
 refine l_enter S (fun _ => run_call (vs := [sV r3.1]) ⟨(S.tm rfl), trivial⟩ Tryz.call11) (tumbref2_DeedsRead_ok _ r3.1 (hg_maxlen.mono (S.le_arg nil_sub)) (hg_pow10.mono (S.le_arg nil_sub)) _ hr8) rfl ?_;clear S;intro v8 a w10 hv8 hk9 hn8 S
 obtain ⟨u3, rfl, ho3⟩ := hv8
 obtain ⟨φ3, hl3, hm3, S⟩ := S.see' hn8 hz4
 have hs3 := ho3.mono hm3
 refine lv S (Rm (S.tm rfl)) rfl ?_;clear S;intro a S
 iterate 3 (refine lv S (rn_extract (S.tm rfl) rfl) rfl ?_;clear S;intro a S)
 iterate 3 (refine lv S (Ra (S.tm rfl)) rfl ?_;clear S;intro a S)
 refine Ld ?_
 replace S := S.nk [] [(6, sV r4.1), (7, iV r4.2), (8, iV r5), (9, sV x1), (10, u2), (11, iV r7.2.1), (12, iV r7.2.2), (13, u3), (14, iV r8.2.1), (15, iV r8.2.2)] [] rfl (subR rfl)
 refine Tn (Fs (Fg (lv S (Rm (S.tm rfl)) rfl ?_)));clear S;intro a S
 refine lv S (Rm (S.tm rfl)) rfl ?_;clear S;intro a S
 refine lv S (rn_eql (S.tm rfl) (S.tm rfl)) rfl ?_;clear S;intro a S
 refine lv S (Rm (S.tm rfl)) rfl ?_;clear S;intro a S
 refine f_cutm 4 (fun a w' => Keep [] w10 w' ∧ Sx w [] φ3 [] [(10, u2), (11, iV r7.2.1), (12, iV r7.2.2), (13, u3), (14, iV r8.2.1), (15, iV r8.2.2), (55, bV ((decide (r4.2 = r5)) && (decide (r4.1 = x1))))] 74 a w') ?_ ?_
 ·rcases Bool.eq_false_or_eq_true (decide (r4.2 = r5)) with hb2 | hb2
  ·refine l_want S rfl rfl rfl hb2 (lv S (Rm (S.tm rfl)) rfl ?_);clear S;intro a S
   refine l_want S rfl rfl rfl hb2 (lv S (Rm (S.tm rfl)) rfl ?_);clear S;intro a S
   refine l_want S rfl rfl rfl hb2 (lv S (rn_seql (S.tm rfl) (S.tm rfl)) rfl ?_);clear S;intro a S
   refine lv S (rn_and_t hb2 (S.tm rfl) (S.tm rfl)) rfl ?_;clear S;intro a S
   refine Ld (Tn ?_)
   exact ⟨Keep.refl _ _, S.nf [] rfl (subR rfl)⟩
  ·iterate 3 (refine l_skip S rfl rfl rfl (neq_f hb2) rfl ?_ rfl;clear S;intro a S)
   refine lv S (rn_and_f (decide (r4.1 = x1)) hb2 (S.tm rfl) rfl) rfl ?_;clear S;intro a S
   refine Ld (Tn ?_)
   exact ⟨Keep.refl _ _, S.nf [] rfl (subR rfl)⟩
 clear S;rintro a w11 ⟨hk10, S⟩
 refine lv S (Rm (S.tm rfl)) rfl ?_;clear S;intro a S
 obtain ⟨j2, hj2, h⟩ := joinE h
 refine f_cutm 4 (fun a w' => ∃ c1, j2 c1 = some r ∧ Keep [] w11 w' ∧ Sx w [] φ3 [] [(11, iV r7.2.1), (12, iV r7.2.2), (14, iV r8.2.1), (15, iV r8.2.2), (60, bV c1)] 74 a w') ?_ ?_
 ·rcases Bool.eq_false_or_eq_true ((decide (r4.2 = r5)) && (decide (r4.1 = x1))) with hb3 | hb3
  ·replace h := iteT h hb3
   refine l_want S rfl rfl rfl hb3 (lv S (Rm (S.tm rfl)) rfl ?_);clear S;intro a S
   refine l_want S rfl rfl rfl hb3 (lv S (Rm (S.tm rfl)) rfl ?_);clear S;intro a S
   refine l_want S rfl rfl rfl hb3 ?_
   obtain ⟨r9, hr9, h⟩ := bindE h
   refine l_enter S (fun _ => run_call (vs := [u2, u3]) ⟨(S.tm rfl), (S.tm rfl), trivial⟩ Tryz.call12) (slices_Equal_Deed_ok _ u2 r7.1 ((ownV_slcT GDeed.enc_ok hs2).mono (View.le_trans hl3 (S.le_new nil_sub))) u3 r8.1 ((ownV_slcT GDeed.enc_ok hs3).mono (S.le_new nil_sub)) _ hr9) rfl ?_;clear S;intro v9 a w13 hv9 hk11 hn9 S
   subst hv9
   refine lv S (rn_and_t hb3 (S.tm rfl) (S.tm rfl)) rfl ?_;clear S;intro a S
   refine Ld (Tn ?_)
   exact ⟨_, h, hk11, S.nf [] rfl (subR rfl)⟩
  ·replace h := iteF h hb3
   iterate 3 (refine l_skip S rfl rfl rfl (neq_f hb3) rfl ?_ rfl;clear S;intro a S)
   refine lv S (rn_and_f true hb3 (S.tm rfl) rfl) rfl ?_;clear S;intro a S
   refine Ld (Tn ?_)
   exact ⟨_, h, Keep.refl _ _, S.nf [] rfl (subR rfl)⟩
 clear S h;rintro a w12 ⟨c1, h, hk12, S⟩;rw [hj2] at h;clear hj2 j2
 refine lv S (Rm (S.tm rfl)) rfl ?_;clear S;intro a S
 refine f_cutm 4 (fun a w' => Keep [] w12 w' ∧ Sx w [] φ3 [] [(12, iV r7.2.2), (15, iV r8.2.2), (65, bV (c1 && (decide (r7.2.1 = r8.2.1))))] 74 a w') ?_ ?_
 ·rcases Bool.eq_false_or_eq_true c1 with hb4 | hb4
  ·refine l_want S rfl rfl rfl hb4 (lv S (Rm (S.tm rfl)) rfl ?_);clear S;intro a S
   refine l_want S rfl rfl rfl hb4 (lv S (Rm (S.tm rfl)) rfl ?_);clear S;intro a S
   refine l_want S rfl rfl rfl hb4 (lv S (rn_eql (S.tm rfl) (S.tm rfl)) rfl ?_);clear S;intro a S
   refine lv S (rn_and_t hb4 (S.tm rfl) (S.tm rfl)) rfl ?_;clear S;intro a S
   refine Ld (Tn ?_)
   exact ⟨Keep.refl _ _, S.nf [] rfl (subR rfl)⟩
  ·iterate 3 (refine l_skip S rfl rfl rfl (neq_f hb4) rfl ?_ rfl;clear S;intro a S)
   refine lv S (rn_and_f (decide (r7.2.1 = r8.2.1)) hb4 (S.tm rfl) rfl) rfl ?_;clear S;intro a S
   refine Ld (Tn ?_)
   exact ⟨Keep.refl _ _, S.nf [] rfl (subR rfl)⟩
 clear S;rintro a w14 ⟨hk13, S⟩
 refine lv S (Rm (S.tm rfl)) rfl ?_;clear S;intro a S
 refine f_cutm 4 (fun a w' => Keep [] w14 w' ∧ Sx w [] φ3 [] [(70, bV ((c1 && (decide (r7.2.1 = r8.2.1))) && (decide (r7.2.2 = r8.2.2))))] 74 a w') ?_ ?_
 ·rcases Bool.eq_false_or_eq_true (c1 && (decide (r7.2.1 = r8.2.1))) with hb5 | hb5
  ·refine l_want S rfl rfl rfl hb5 (lv S (Rm (S.tm rfl)) rfl ?_);clear S;intro a S
   refine l_want S rfl rfl rfl hb5 (lv S (Rm (S.tm rfl)) rfl ?_);clear S;intro a S
   refine l_want S rfl rfl rfl hb5 (lv S (rn_eql (S.tm rfl) (S.tm rfl)) rfl ?_);clear S;intro a S
   refine lv S (rn_and_t hb5 (S.tm rfl) (S.tm rfl)) rfl ?_;clear S;intro a S
   refine Ld (Tn ?_)
   exact ⟨Keep.refl _ _, S.nf [] rfl ⟨rfl, trivial⟩⟩
  ·iterate 3 (refine l_skip S rfl rfl rfl (neq_f hb5) rfl ?_ rfl;clear S;intro a S)
   refine lv S (rn_and_f (decide (r7.2.2 = r8.2.2)) hb5 (S.tm rfl) rfl) rfl ?_;clear S;intro a S
   refine Ld (Tn ?_)
   exact ⟨Keep.refl _ _, S.nf [] rfl ⟨rfl, trivial⟩⟩
 clear S;rintro a w15 ⟨hk14, S⟩
 refine lv S (Rm (S.tm rfl)) rfl ?_;clear S;intro a S
 obtain ⟨j3, hj3, h⟩ := joinE h
 refine f_cutm 2 (fun a w' => ∃ c2, j3 c2 = some r ∧ Keep [] w15 w' ∧ Sx w [] φ3 [] [(73, bV c2)] 74 a w') ?_ ?_
 ·rcases Bool.eq_false_or_eq_true ((c1 && (decide (r7.2.1 = r8.2.1))) && (decide (r7.2.2 = r8.2.2))) with hb6 | hb6
  ·replace h := iteT h hb6
   refine l_want S rfl rfl rfl hb6 ?_
   obtain ⟨r10, hr10, h⟩ := bindE h
   refine l_enter S (fun _ => run_call (vs := []) trivial Tryz.call13) (tumblaw2_met_ok _ _ hr10) rfl ?_;clear S;intro v10 a w17 hv10 hk15 hn10 S
   subst hv10
   refine lv S (rn_and_t hb6 (S.tm rfl) (S.tm rfl)) rfl ?_;clear S;intro a S
   refine Ld (Tn ?_)
   exact ⟨_, h, hk15, S.nf [] rfl ⟨rfl, trivial⟩⟩
  ·replace h := iteF h hb6
   refine l_skip S rfl rfl rfl (neq_f hb6) rfl ?_ rfl;clear S;intro a S
   refine lv S (rn_and_f true hb6 (S.tm rfl) rfl) rfl ?_;clear S;intro a S
   refine Ld (Tn ?_)
   exact ⟨_, h, Keep.refl _ _, S.nf [] rfl ⟨rfl, trivial⟩⟩
 clear S h;rintro a w16 ⟨c2, h, hk16, S⟩;rw [hj3] at h;clear hj3 j3
 refine lv S (Ra (S.tm rfl)) rfl ?_;clear S;intro a S
 refine Ld (Tn (wp_ret ?_))
 obtain rfl := Option.some.inj h
 exact f_ret S Tryz.results3 rfl rfl
end Go.Proofs.YtpfommakhgkmeaaGreatDoor
