/- Each Go function computes its plain twin, by program. -/
import Derived.Test.YtpfommakhgkmeaaGreatDoorWk2
namespace Go.Proofs.YtpfommakhgkmeaaGreatDoor
open Go
theorem tumbref2_DeedsRead_c1_ok (w : World) (X : List Nat) (Bt : ByteArray) (Aj : Nat) (Ak : Value) (Al : List GDeed) (Di : (LEnt.own Ak 39 11 Al.length (Al.flatMap GDeed.enc)).holds w) (Ck : (LEnt.blk Aj [Ak] 26).holds w) (hg_maxlen : GlobI (view w X) 0) (hg_pow10 : Glob (view w X) 1 pow10Cells) (hXn : X.Nodup) (hXe : X = fps [.blk Aj [Ak] 26, .own Ak 39 11 Al.length (Al.flatMap GDeed.enc)]) (r : Bool × (List GDeed)) (h : tumbref2_DeedsRead_c1 Bt Al = some r) :
    Calls Tryz.prog 44 [sV Bt, .pointer (some ⟨Aj, 0, none⟩)].toArray w (Ret w X fun _ v w' => ∃ y1 : Value, Grp w w' X [.blk Aj [y1] 26, .own y1 39 11 r.2.length (r.2.flatMap GDeed.enc)] ∧ v = bV r.1) := by
 refine f_enter X [.blk Aj [Ak] 26, .own Ak 39 11 Al.length (Al.flatMap GDeed.enc)] Tryz.func44 rfl Tryz.ntmps44 rfl (fun e he => by simp only [List.mem_cons, List.not_mem_nil, or_false] at he;rcases he with rfl | rfl <;> assumption) (by rw [← hXe];exact hXn) (fun b hb => by rw [hXe];exact hb) fun a S => ?_
 unfold tumbref2_DeedsRead_c1 at h
 replace S := S.nk [.blk Aj [Ak] 26, .own Ak 39 11 Al.length (Al.flatMap GDeed.enc)] [(0, sV Bt), (1, .pointer (some ⟨Aj, 0, none⟩))] [true, true] rfl (subR rfl)
 refine Fs (Fg (lv S (Ra rfl) rfl ?_));clear S;intro a S
 refine Ld (Tn (Fs (Fg (lv S (Rm (S.tm rfl)) rfl ?_))));clear S;intro a S
 obtain ⟨r1, hr1, h⟩ := bindE h
 have hz1 := S.keep.size
 refine l_enter S (fun _ => run_call (vs := [sV Bt]) ⟨(S.tm rfl), trivial⟩ Tryz.call45) (tumbref2_Words_ok _ Bt (hg_maxlen.mono (S.le_arg nil_sub)) _ hr1) rfl ?_;clear S;intro v1 a w1 hv1 hk1 hn1 S
 obtain ⟨u1, rfl, ho1⟩ := hv1
 obtain ⟨φ1, hl1, hm1, S⟩ := S.see' hn1 hz1
 have hs1 := ho1.mono hm1
 refine lv S (Rm (S.tm rfl)) rfl ?_;clear S;intro a S
 refine lv S (rn_extract (S.tm rfl) rfl) rfl ?_;clear S;intro a S
 refine lv S (rn_extract (S.tm rfl) rfl) rfl ?_;clear S;intro a S
 refine lv S (Ra (S.tm rfl)) rfl ?_;clear S;intro a S
 refine lv S (Ra (S.tm rfl)) rfl ?_;clear S;intro a S
 refine Ld (Tn (Fs (Fs (Fg (lv S (Rm (S.tm rfl)) rfl ?_)))));clear S;intro a S
 refine lv S (rn_not (S.tm rfl)) rfl ?_;clear S;intro a S
 refine lv S (Rm (S.tm rfl)) rfl ?_;clear S;intro a S
 refine f_cutm 4 (fun a w' => Keep [] w1 w' ∧ Sx w X φ1 [.blk Aj [Ak] 26, .own Ak 39 11 Al.length (Al.flatMap GDeed.enc)] [(1, .pointer (some ⟨Aj, 0, none⟩)), (4, u1), (22, bV ((!r1.2) || (decide ((r1.1.length : Int) < 6))))] 137 a w') ?_ ?_
 ·rcases Bool.eq_false_or_eq_true (!r1.2) with hb1 | hb1
  ·iterate 3 (refine l_skip S rfl rfl rfl (neq_t hb1) rfl ?_ rfl;clear S;intro a S)
   refine lv S (rn_or_t (decide ((r1.1.length : Int) < 6)) hb1 (S.tm rfl) rfl) rfl ?_;clear S;intro a S
   refine Ld (Tn ?_)
   exact ⟨Keep.refl _ _, S.nf [true, true] rfl (subR rfl)⟩
  ·refine l_want S rfl rfl rfl hb1 (lv S (Rm (S.tm rfl)) rfl ?_);clear S;intro a S
   refine l_want S rfl rfl rfl hb1 (lv S (rn_lenT sl_55 (S.tm rfl) (slc_len (ownV_slcT enc_str hs1))) rfl ?_);clear S;intro a S
   refine l_want S rfl rfl rfl hb1 (lv S (rn_lss (S.tm rfl) rfl) rfl ?_);clear S;intro a S
   refine lv S (rn_or_f hb1 (S.tm rfl) (S.tm rfl)) rfl ?_;clear S;intro a S
   refine Ld (Tn ?_)
   exact ⟨Keep.refl _ _, S.nf [true, true] rfl (subR rfl)⟩
 clear S;rintro a w2 ⟨hk2, S⟩
 refine Ld (Tn (f_cond (S.tm rfl) (fun hb2 => ?_) (fun hb2 => ?_)))
 ·replace h := iteT h hb2
  refine Fs (Fg (lv S (Ra rfl) rfl ?_));clear S;intro a S
  refine Ld (Tn (wp_ret (then_r ?_)))
  obtain rfl := Option.some.inj h
  exact f_ret S Tryz.results44 rfl ⟨Ak, S.grp [0, 1] [] rfl rfl rfl, rfl⟩
 ·replace h := iteF h hb2
  refine wp_skip (Tn (Fs (Fg (lv S (Rm (S.tm rfl)) rfl ?_))));clear S;intro a S
  obtain ⟨hc1, h⟩ := chkE h
  obtain ⟨v2, hs2, hr2⟩ := rn_cutT2 (a := a) (x := .tmp 24) (y := .const (iV 1)) (y' := .const (iV 3)) (ty := 55) sl_55 (ownV_slcT enc_str hs1) (S.tm rfl) rfl rfl hc1
  refine lv S (hr2 _) rfl ?_;clear S;intro a S
  clear hr2
  obtain ⟨r2, hr3, h⟩ := bindE h
  have hz2 := S.keep.size
  refine l_enter S (fun _ => run_call (vs := [v2, iV 15]) ⟨(S.tm rfl), rfl, trivial⟩ Tryz.call46) (tumbref2_numbersIn_ok _ v2 (cut r1.1 1 3) (hs2.mono (S.le_new nil_sub)) 15 (hg_pow10.mono (S.le_arg nil_sub)) _ hr3) rfl ?_;clear S;intro v3 a w3 hv2 hk3 hn2 S
  obtain ⟨u2, rfl, ho2⟩ := hv2
  obtain ⟨φ2, hl2, hm2, S⟩ := S.see' hn2 hz2
  have hs3 := ho2.mono hm2
  refine lv S (Rm (S.tm rfl)) rfl ?_;clear S;intro a S
  refine lv S (rn_extract (S.tm rfl) rfl) rfl ?_;clear S;intro a S
  refine lv S (rn_extract (S.tm rfl) rfl) rfl ?_;clear S;intro a S
  refine lv S (Ra (S.tm rfl)) rfl ?_;clear S;intro a S
  refine lv S (Ra (S.tm rfl)) rfl ?_;clear S;intro a S
  refine Ld (Tn (Fs ?_))
  obtain ⟨hc2, h⟩ := chkE h
  obtain ⟨hc3, h⟩ := chkE h
  obtain ⟨hc4, h⟩ := chkE h
  refine d_region [] ([]) Tryz.mixed S rfl (by kernel_rfl) ?_;clear S;intro w6 hk6 hsel S
  refine d_quiet 0 S hsel rfl rfl rfl (by kernel_rfl) (by kernel_rfl) rfl (fun _ hw => (Rm (S.tm rfl))) ?_;clear S;intro a S
  obtain ⟨b5, o4, hm6, hr7⟩ := rn_indexT (a := a) (x := .tmp 29) (y := .const (iV 0)) (ty := 0) sl_55 ((ownV_slcT enc_str hs1).mono (View.le_trans hl2 (S.le_new nil_sub))) (inB_get hc2).1 (inB_get hc2).2 (S.tm rfl) rfl
  refine d_quiet 1 S hsel rfl rfl rfl (by kernel_rfl) (by kernel_rfl) rfl (fun _ hw => hr7 _) ?_;clear S;intro a S
  clear hr7
  refine d_quiet 2 S hsel rfl rfl rfl (by kernel_rfl) (by kernel_rfl) rfl (fun _ hw => (rn_ld Tryz.isAgg9 (off := o4) (o := 0) (S.tm rfl) (hm6.kept hw) rfl)) ?_;clear S;intro a S
  refine d_quiet 3 S hsel rfl rfl rfl (by kernel_rfl) (by kernel_rfl) rfl (fun _ hw => (Rm (S.tm rfl))) ?_;clear S;intro a S
  obtain ⟨b6, o5, hm7, hr8⟩ := rn_indexT (a := a) (x := .tmp 32) (y := .const (iV 0)) (ty := 0) sl_22 ((ownV_slcT enc_int hs3).mono (S.le_new nil_sub)) (inB_get hc3).1 (inB_get hc3).2 (S.tm rfl) rfl
  refine d_quiet 4 S hsel rfl rfl rfl (by kernel_rfl) (by kernel_rfl) rfl (fun _ hw => hr8 _) ?_;clear S;intro a S
  clear hr8
  refine d_quiet 5 S hsel rfl rfl rfl (by kernel_rfl) (by kernel_rfl) rfl (fun _ hw => (rn_ld Tryz.isAgg3 (off := o5) (o := 0) (S.tm rfl) (hm7.kept hw) rfl)) ?_;clear S;intro a S
  refine d_quiet 6 S hsel rfl rfl rfl (by kernel_rfl) (by kernel_rfl) rfl (fun _ hw => (Rm (S.tm rfl))) ?_;clear S;intro a S
  obtain ⟨b7, o6, hm8, hr9⟩ := rn_indexT (a := a) (x := .tmp 35) (y := .const (iV 1)) (ty := 0) sl_22 ((ownV_slcT enc_int hs3).mono (S.le_new nil_sub)) (inB_get hc4).1 (inB_get hc4).2 (S.tm rfl) rfl
  refine d_quiet 7 S hsel rfl rfl rfl (by kernel_rfl) (by kernel_rfl) rfl (fun _ hw => hr9 _) ?_;clear S;intro a S
  clear hr9
  refine d_quiet 8 S hsel rfl rfl rfl (by kernel_rfl) (by kernel_rfl) rfl (fun _ hw => (rn_ld Tryz.isAgg3 (off := o6) (o := 0) (S.tm rfl) (hm8.kept hw) rfl)) ?_;clear S;intro a S
  refine d_quiet 9 S hsel rfl rfl rfl (by kernel_rfl) (by kernel_rfl) rfl (fun _ hw => (rn_bld bt_39 (pv := [(0, sV (nth r1.1 0)), (1, iV (nth r2.1 0)), (2, iV (nth r2.1 1))]) ⟨rfl, (S.tm rfl), rfl, (S.tm rfl), rfl, (S.tm rfl), trivial⟩ (cs := [sV (nth r1.1 0), iV (nth r2.1 0), iV (nth r2.1 1), iV 0, sV k_empty, sV k_empty, sV k_empty, iV 0, iV 0, sV k_empty, iV 0]) (by kernel_rfl))) ?_;clear S;intro a S
  refine d_loud1 10 (by kernel_rfl) rfl (l_alloc S Tryz.zeroValue39 (cs := [sV k_empty, iV 0, iV 0, iV 0, sV k_empty, sV k_empty, sV k_empty, iV 0, iV 0, sV k_empty, iV 0]) rfl rfl ?_);clear S;intro a w7 b8 hz4 hk7 S
  refine Ld (d_nextN ([b8]) hk7 (new1 hz4) (d_loud1 11 (by kernel_rfl) rfl (l_store S (S.tm rfl) (S.tm rfl) (i := 0) (off := 0) rfl Tryz.sizeOf39 (vs := (GDeed.enc (GDeed.mk (nth r1.1 0) (nth r2.1 0) (nth r2.1 1) 0 k_empty k_empty k_empty 0 0 k_empty 0))) rfl rfl rfl rfl ?_)));clear S;intro w8 hk8 S
  refine Ld (d_next hk8 (d_end (by kernel_rfl) ?_))
  clear hsel
  replace S := S.nk [.blk b8 (GDeed.enc (GDeed.mk (nth r1.1 0) (nth r2.1 0) (nth r2.1 1) 0 k_empty k_empty k_empty 0 0 k_empty 0)) 39, .blk Aj [Ak] 26, .own Ak 39 11 Al.length (Al.flatMap GDeed.enc)] [(1, .pointer (some ⟨Aj, 0, none⟩)), (4, u1), (7, bV r2.2), (8, .pointer (some ⟨b8, 0, none⟩))] [true, true, true] rfl (subR rfl)
  refine Tn (Fs (Fs (Fg (lv S (Rm (S.tm rfl)) rfl ?_))));clear S;intro a S
  refine lv S (rn_lenT sl_55 (S.tm rfl) (slc_len (ownV_slcT enc_str hs1))) rfl ?_;clear S;intro a S
  refine l_makeMap (κ := ByteArray) (ν := Int) S rfl Value.string (Value.int .i64) ?_;clear S;intro a w9 b9 hz5 hk9 S
  refine l_insert (kv := Value.string) (vv := (Value.int .i64)) (m := ([] : List (ByteArray × Int))) (key := k_enter) (val := 8) S (i := 0) rfl Tryz.underlying42 (keyT_str Tryz.underlying9) (S.tm rfl) rfl rfl ?_;clear S;intro w10 hk10 S
  refine l_insert (kv := Value.string) (vv := (Value.int .i64)) (m := (mput ([] : List (ByteArray × Int)) k_enter 8)) (key := k_scratch) (val := 6) S (i := 0) rfl Tryz.underlying42 (keyT_str Tryz.underlying9) (S.tm rfl) rfl rfl ?_;clear S;intro w11 hk11 S
  refine l_insert (kv := Value.string) (vv := (Value.int .i64)) (m := (mput (mput ([] : List (ByteArray × Int)) k_enter 8) k_scratch 6)) (key := k_swum) (val := 8) S (i := 0) rfl Tryz.underlying42 (keyT_str Tryz.underlying9) (S.tm rfl) rfl rfl ?_;clear S;intro w12 hk12 S
  refine l_insert (kv := Value.string) (vv := (Value.int .i64)) (m := (mput (mput (mput ([] : List (ByteArray × Int)) k_enter 8) k_scratch 6) k_swum 8)) (key := k_undo) (val := 6) S (i := 0) rfl Tryz.underlying42 (keyT_str Tryz.underlying9) (S.tm rfl) rfl rfl ?_;clear S;intro w13 hk13 S
  refine lv S (Rm (S.tm rfl)) rfl ?_;clear S;intro a S
  refine lv S (Rm (S.tm rfl)) rfl ?_;clear S;intro a S
  obtain ⟨hc5, h⟩ := chkE h
  obtain ⟨b10, o7, hm9, hr10⟩ := rn_indexT (a := a) (x := .tmp 43) (y := .const (iV 3)) (ty := 0) sl_55 (ownV_slcT enc_str hs1) (inB_get hc5).1 (inB_get hc5).2 (S.tm rfl) rfl
  refine lv S (hr10 _) rfl ?_;clear S;intro a S
  clear hr10
  refine lv S (rn_ld Tryz.isAgg9 (off := o7) (o := 0) (S.tm rfl) ((hm9.mono hl2).at S.emb) rfl) rfl ?_;clear S;intro a S
  refine lv S (rn_lookup (kv := Value.string) (vv := (Value.int .i64)) (m := (mput (mput (mput (mput ([] : List (ByteArray × Int)) k_enter 8) k_scratch 6) k_swum 8) k_undo 6)) (key := (nth r1.1 3)) (z := 0) (S.map_at (i := 0) rfl) Tryz.underlying42 (keyT_str Tryz.underlying9) Tryz.zeroValue3 (S.tm rfl) (S.tm rfl)) rfl ?_;clear S;intro a S
  refine lv S (rn_neq (S.tm rfl) (S.tm rfl)) rfl ?_;clear S;intro a S
  refine Ld (Tn (f_cond (S.tm rfl) (fun hb3 => ?_) (fun hb3 => ?_)))
  ·replace h := iteT h hb3
   refine Fs (Fg (lv S (Ra rfl) rfl ?_));clear S;intro a S
   refine Ld (Tn (wp_ret (then_r ?_)))
   obtain rfl := Option.some.inj h
   exact f_ret S Tryz.results44 rfl ⟨Ak, S.grp [2, 3] [0, 1] rfl rfl rfl, rfl⟩
  ·replace h := iteF h hb3
   refine wp_skip (Tn (Fs (Fg (l_buildSlice S Tryz.underlying22 Tryz.sizeOf3 Tryz.zeroValue3 rfl rfl (pv := [(0, iV 0), (1, iV 0)]) ⟨rfl, rfl, rfl, rfl, trivial⟩ (cs := [iV 0, iV 0]) (by kernel_rfl) rfl ?_))));clear S;intro a w14 b11 hz6 hk14 S
   refine lv S (Ra (S.tm rfl)) rfl ?_;clear S;intro a S
   refine Ld ?_
   replace S := S.nk [.blk b8 (GDeed.enc (GDeed.mk (nth r1.1 0) (nth r2.1 0) (nth r2.1 1) 0 k_empty k_empty k_empty 0 0 k_empty 0)) 39, .blk Aj [Ak] 26, .own Ak 39 11 Al.length (Al.flatMap GDeed.enc)] [(1, .pointer (some ⟨Aj, 0, none⟩)), (4, u1), (7, bV r2.2), (8, .pointer (some ⟨b8, 0, none⟩))] [false, false, true, true, true] rfl (subR rfl)
   refine Tn (Fs (Fg (lv S (Ra rfl) rfl ?_)));clear S;intro a S
   refine Ld (Tn (Fs (Fs (Fg (lv S (Rm (S.tm rfl)) rfl ?_)))));clear S;intro a S
   obtain ⟨hc6, h⟩ := chkE h
   obtain ⟨b12, o8, hm10, hr11⟩ := rn_indexT (a := a) (x := .tmp 49) (y := .const (iV 3)) (ty := 0) sl_55 (ownV_slcT enc_str hs1) (inB_get hc6).1 (inB_get hc6).2 (S.tm rfl) rfl
   refine lv S (hr11 _) rfl ?_;clear S;intro a S
   clear hr11
   refine lv S (rn_ld Tryz.isAgg9 (off := o8) (o := 0) (S.tm rfl) ((hm10.mono hl2).at S.emb) rfl) rfl ?_;clear S;intro a S
   refine Ld (Tn ?_)
   obtain ⟨j1, hj1, h⟩ := joinE h
   refine f_join (fun a w' => ∃ x1 : Int, ∃ x2 : ByteArray, ∃ x3 : ByteArray, ∃ x4 : ByteArray, ∃ x5 : Int, ∃ x6 : Int, ∃ x7 : ByteArray, ∃ x8 : Int, ∃ x9 : Bool, ∃ φ3 : View, j1 x1 x2 x3 x4 x5 x6 x7 x8 x9 = some r ∧ View.le φ2 φ3 ∧ Sx w X φ3 [.blk b8 (GDeed.enc (GDeed.mk (nth r1.1 0) (nth r2.1 0) (nth r2.1 1) x1 x2 x3 x4 x5 x6 x7 x8)) 39, .blk Aj [Ak] 26, .own Ak 39 11 Al.length (Al.flatMap GDeed.enc)] [(1, .pointer (some ⟨Aj, 0, none⟩)), (7, bV r2.2), (8, .pointer (some ⟨b8, 0, none⟩)), (10, bV x9)] 137 a w') ?_ ?_
   ·refine wp_block (Fs (Fg (lv S (rn_seql (S.tm rfl) rfl) rfl ?_)));clear S;intro a S
    refine lv S (Ra (S.tm rfl)) rfl ?_;clear S;intro a S
    refine Ld (Tn ?_)
    obtain ⟨j2, hj2, h⟩ := joinE h
    refine f_join (fun a w' => ∃ x10 : Int, ∃ x11 : ByteArray, ∃ x12 : ByteArray, ∃ x13 : ByteArray, ∃ x14 : Int, ∃ x15 : Int, ∃ x16 : ByteArray, ∃ x17 : Int, ∃ x18 : Bool, ∃ φ4 : View, j2 x10 x11 x12 x13 x14 x15 x16 x17 x18 = some r ∧ View.le φ2 φ4 ∧ Sx w X φ4 [.blk b8 (GDeed.enc (GDeed.mk (nth r1.1 0) (nth r2.1 0) (nth r2.1 1) x10 x11 x12 x13 x14 x15 x16 x17)) 39, .blk Aj [Ak] 26, .own Ak 39 11 Al.length (Al.flatMap GDeed.enc)] [(1, .pointer (some ⟨Aj, 0, none⟩)), (7, bV r2.2), (8, .pointer (some ⟨b8, 0, none⟩)), (10, bV x18)] 137 a w') ?_ ?_
    ·refine f_cond (S.tm rfl) (fun hb4 => ?_) (fun hb4 => ?_)
     ·replace h := iteT h hb4
      refine Fs (Fg (lv S (Rm (S.tm rfl)) rfl ?_));clear S;intro a S
      obtain ⟨hc7, h⟩ := chkE h
      obtain ⟨v4, hs4, hr12⟩ := rn_cutTl (a := a) (x := .tmp 70) (y := .const (iV 7)) (ty := 55) sl_55 (ownV_slcT enc_str hs1) (S.tm rfl) rfl hc7
      refine lv S (hr12 _) rfl ?_;clear S;intro a S
      clear hr12
      obtain ⟨r3, hr13, h⟩ := bindE h
      have hz7 := S.keep.size
      refine l_enter S (fun _ => run_call (vs := [v4, iV 15]) ⟨(S.tm rfl), rfl, trivial⟩ Tryz.call46) (tumbref2_numbersIn_ok _ v4 (cut r1.1 7 r1.1.length) (hs4.mono (View.le_trans hl2 (S.le_new nil_sub))) 15 (hg_pow10.mono (S.le_arg nil_sub)) _ hr13) rfl ?_;clear S;intro v5 a w17 hv3 hk15 hn3 S
      obtain ⟨u3, rfl, ho3⟩ := hv3
      obtain ⟨φ5, hl5, hm11, S⟩ := S.see' hn3 hz7
      have hs5 := ho3.mono hm11
      refine lv S (Rm (S.tm rfl)) rfl ?_;clear S;intro a S
      refine lv S (rn_extract (S.tm rfl) rfl) rfl ?_;clear S;intro a S
      refine lv S (rn_extract (S.tm rfl) rfl) rfl ?_;clear S;intro a S
      refine lv S (Ra (S.tm rfl)) rfl ?_;clear S;intro a S
      refine lv S (Ra (S.tm rfl)) rfl ?_;clear S;intro a S
      refine Ld ?_
      replace S := S.nk [.blk b8 (GDeed.enc (GDeed.mk (nth r1.1 0) (nth r2.1 0) (nth r2.1 1) 0 k_empty k_empty k_empty 0 0 k_empty 0)) 39, .blk Aj [Ak] 26, .own Ak 39 11 Al.length (Al.flatMap GDeed.enc)] [(1, .pointer (some ⟨Aj, 0, none⟩)), (4, u1), (7, bV r2.2), (8, .pointer (some ⟨b8, 0, none⟩)), (9, u3), (10, bV r3.2)] [true, true, true] rfl (subR rfl)
      refine Tn ?_
      obtain ⟨hc8, h⟩ := chkE h
      obtain ⟨hc9, h⟩ := chkE h
      obtain ⟨hc10, h⟩ := chkE h
      obtain ⟨hc11, h⟩ := chkE h
      refine d_region [] ([b8]) Tryz.mixed S rfl (by kernel_rfl) ?_;clear S;intro w24 hk22 hsel S
      refine d_quiet 0 S hsel rfl rfl rfl (by kernel_rfl) (by kernel_rfl) rfl (fun _ hw => (Rm (S.tm rfl))) ?_;clear S;intro a S
      obtain ⟨b17, o13, hm16, hr18⟩ := rn_indexT (a := a) (x := .tmp 75) (y := .const (iV 4)) (ty := 0) sl_55 ((ownV_slcT enc_str hs1).mono (View.le_trans (View.le_trans hl2 hl5) (S.le_new (fp_sub (i := 0) (e := .blk b8 (GDeed.enc (GDeed.mk (nth r1.1 0) (nth r2.1 0) (nth r2.1 1) 0 k_empty k_empty k_empty 0 0 k_empty 0)) 39) rfl)))) (inB_get hc8).1 (inB_get hc8).2 (S.tm rfl) rfl
      refine d_quiet 1 S hsel rfl rfl rfl (by kernel_rfl) (by kernel_rfl) rfl (fun _ hw => hr18 _) ?_;clear S;intro a S
      clear hr18
      refine d_quiet 2 S hsel rfl rfl rfl (by kernel_rfl) (by kernel_rfl) rfl (fun _ hw => (rn_ld Tryz.isAgg9 (off := o13) (o := 0) (S.tm rfl) (hm16.kept hw) rfl)) ?_;clear S;intro a S
      refine d_quiet 3 S hsel rfl rfl rfl (by kernel_rfl) (by kernel_rfl) rfl (fun _ hw => (Rm (S.tm rfl))) ?_;clear S;intro a S
      obtain ⟨b18, o14, hm17, hr19⟩ := rn_indexT (a := a) (x := .tmp 78) (y := .const (iV 5)) (ty := 0) sl_55 ((ownV_slcT enc_str hs1).mono (View.le_trans (View.le_trans hl2 hl5) (S.le_new (fp_sub (i := 0) (e := .blk b8 (GDeed.enc (GDeed.mk (nth r1.1 0) (nth r2.1 0) (nth r2.1 1) 0 k_empty k_empty k_empty 0 0 k_empty 0)) 39) rfl)))) (inB_get hc9).1 (inB_get hc9).2 (S.tm rfl) rfl
      refine d_quiet 4 S hsel rfl rfl rfl (by kernel_rfl) (by kernel_rfl) rfl (fun _ hw => hr19 _) ?_;clear S;intro a S
      clear hr19
      refine d_quiet 5 S hsel rfl rfl rfl (by kernel_rfl) (by kernel_rfl) rfl (fun _ hw => (rn_ld Tryz.isAgg9 (off := o14) (o := 0) (S.tm rfl) (hm17.kept hw) rfl)) ?_;clear S;intro a S
      refine d_quiet 7 S hsel rfl rfl rfl (by kernel_rfl) (by kernel_rfl) rfl (fun _ hw => (Rm (S.tm rfl))) ?_;clear S;intro a S
      obtain ⟨b19, o15, hm18, hr20⟩ := rn_indexT (a := a) (x := .tmp 82) (y := .const (iV 6)) (ty := 0) sl_55 ((ownV_slcT enc_str hs1).mono (View.le_trans (View.le_trans hl2 hl5) (S.le_new (fp_sub (i := 0) (e := .blk b8 (GDeed.enc (GDeed.mk (nth r1.1 0) (nth r2.1 0) (nth r2.1 1) 0 k_empty k_empty k_empty 0 0 k_empty 0)) 39) rfl)))) (inB_get hc10).1 (inB_get hc10).2 (S.tm rfl) rfl
      refine d_quiet 8 S hsel rfl rfl rfl (by kernel_rfl) (by kernel_rfl) rfl (fun _ hw => hr20 _) ?_;clear S;intro a S
      clear hr20
      refine d_quiet 9 S hsel rfl rfl rfl (by kernel_rfl) (by kernel_rfl) rfl (fun _ hw => (rn_ld Tryz.isAgg9 (off := o15) (o := 0) (S.tm rfl) (hm18.kept hw) rfl)) ?_;clear S;intro a S
      refine d_quiet 10 S hsel rfl rfl rfl (by kernel_rfl) (by kernel_rfl) rfl (fun _ hw => (Rm (S.tm rfl))) ?_;clear S;intro a S
      obtain ⟨b20, o16, hm19, hr21⟩ := rn_indexT (a := a) (x := .tmp 85) (y := .const (iV 0)) (ty := 0) sl_22 ((ownV_slcT enc_int hs5).mono (S.le_new (fp_sub (i := 0) (e := .blk b8 (GDeed.enc (GDeed.mk (nth r1.1 0) (nth r2.1 0) (nth r2.1 1) 0 k_empty k_empty k_empty 0 0 k_empty 0)) 39) rfl))) (inB_get hc11).1 (inB_get hc11).2 (S.tm rfl) rfl
      refine d_quiet 11 S hsel rfl rfl rfl (by kernel_rfl) (by kernel_rfl) rfl (fun _ hw => hr21 _) ?_;clear S;intro a S
      clear hr21
      refine d_quiet 12 S hsel rfl rfl rfl (by kernel_rfl) (by kernel_rfl) rfl (fun _ hw => (rn_ld Tryz.isAgg3 (off := o16) (o := 0) (S.tm rfl) (hm19.kept hw) rfl)) ?_;clear S;intro a S
      refine d_quiet 13 S hsel rfl rfl rfl (by kernel_rfl) (by kernel_rfl) rfl (fun _ hw => (rn_fld fa_39_3 (S.tm rfl))) ?_;clear S;intro a S
      refine d_loud1 6 (by kernel_rfl) rfl (l_enter S (fun _ => run_call (vs := [sV (nth r1.1 5)]) ⟨(S.tm rfl), trivial⟩ Tryz.call47) (tumbref2_undash_ok _ (nth r1.1 5) _ rfl) rfl ?_);clear S;intro v7 a w25 hv5 hk23 hn5 S
      subst hv5
      refine Ld (d_next (Keep.none hk23) (d_loud1 14 (by kernel_rfl) rfl (l_store S (S.tm rfl) rfl (i := 0) (off := 3) rfl Tryz.sizeOf3 (vs := [iV 1]) rfl rfl rfl rfl ?_)));clear S;intro w26 hk24 S
      refine Ld (d_next hk24 (d_quiet 15 S hsel rfl rfl rfl (by kernel_rfl) (by kernel_rfl) rfl (fun _ hw => (rn_fld fa_39_4 (S.tm rfl))) ?_));clear S;intro a S
      refine d_loud1 16 (by kernel_rfl) rfl (l_store S (S.tm rfl) (S.tm rfl) (i := 0) (off := 4) rfl Tryz.sizeOf9 (vs := [sV (nth r1.1 4)]) rfl rfl rfl rfl ?_);clear S;intro w27 hk25 S
      refine Ld (d_next hk25 (d_quiet 17 S hsel rfl rfl rfl (by kernel_rfl) (by kernel_rfl) rfl (fun _ hw => (rn_fld fa_39_5 (S.tm rfl))) ?_));clear S;intro a S
      refine d_loud1 18 (by kernel_rfl) rfl (l_store S (S.tm rfl) (S.tm rfl) (i := 0) (off := 5) rfl Tryz.sizeOf9 (vs := [sV (tumbref2_undash (nth r1.1 5))]) rfl rfl rfl rfl ?_);clear S;intro w28 hk26 S
      refine Ld (d_next hk26 (d_quiet 19 S hsel rfl rfl rfl (by kernel_rfl) (by kernel_rfl) rfl (fun _ hw => (rn_fld fa_39_6 (S.tm rfl))) ?_));clear S;intro a S
      refine d_loud1 20 (by kernel_rfl) rfl (l_store S (S.tm rfl) (S.tm rfl) (i := 0) (off := 6) rfl Tryz.sizeOf9 (vs := [sV (nth r1.1 6)]) rfl rfl rfl rfl ?_);clear S;intro w29 hk27 S
      refine Ld (d_next hk27 (d_quiet 21 S hsel rfl rfl rfl (by kernel_rfl) (by kernel_rfl) rfl (fun _ hw => (rn_fld fa_39_7 (S.tm rfl))) ?_));clear S;intro a S
      refine d_loud1 22 (by kernel_rfl) rfl (l_store S (S.tm rfl) (S.tm rfl) (i := 0) (off := 7) rfl Tryz.sizeOf3 (vs := [iV (nth r3.1 0)]) rfl rfl rfl rfl ?_);clear S;intro w30 hk28 S
      refine Ld (d_next hk28 (d_end (by kernel_rfl) ?_))
      clear hsel
      replace S := S.nk [.blk b8 (GDeed.enc (GDeed.mk (nth r1.1 0) (nth r2.1 0) (nth r2.1 1) 1 (nth r1.1 4) (tumbref2_undash (nth r1.1 5)) (nth r1.1 6) (nth r3.1 0) 0 k_empty 0)) 39, .blk Aj [Ak] 26, .own Ak 39 11 Al.length (Al.flatMap GDeed.enc)] [(1, .pointer (some ⟨Aj, 0, none⟩)), (7, bV r2.2), (8, .pointer (some ⟨b8, 0, none⟩)), (10, bV r3.2)] [true, true, true] rfl (subR rfl)
      refine Tn ?_
      exact ⟨1, (nth r1.1 4), (tumbref2_undash (nth r1.1 5)), (nth r1.1 6), (nth r3.1 0), 0, k_empty, 0, r3.2, φ5, h, hl5, S.nf [true, true, true] rfl (subR rfl)⟩
     ·replace h := iteF h hb4
      refine Fs (Fg (lv S (rn_seql (S.tm rfl) rfl) rfl ?_));clear S;intro a S
      refine lv S (Ra (S.tm rfl)) rfl ?_;clear S;intro a S
      refine Ld (Tn ?_)
      obtain ⟨j3, hj3, h⟩ := joinE h
      refine f_join (fun a w' => ∃ x19 : Int, ∃ x20 : ByteArray, ∃ x21 : ByteArray, ∃ x22 : Int, ∃ x23 : Int, ∃ x24 : ByteArray, ∃ x25 : Int, ∃ x26 : Bool, ∃ φ6 : View, j3 x19 x20 x21 x22 x23 x24 x25 x26 = some r ∧ View.le φ2 φ6 ∧ Sx w X φ6 [.blk b8 (GDeed.enc (GDeed.mk (nth r1.1 0) (nth r2.1 0) (nth r2.1 1) x19 x20 k_empty x21 x22 x23 x24 x25)) 39, .blk Aj [Ak] 26, .own Ak 39 11 Al.length (Al.flatMap GDeed.enc)] [(1, .pointer (some ⟨Aj, 0, none⟩)), (7, bV r2.2), (8, .pointer (some ⟨b8, 0, none⟩)), (10, bV x26)] 137 a w') ?_ ?_
      ·refine f_cond (S.tm rfl) (fun hb5 => ?_) (fun hb5 => ?_)
       ·replace h := iteT h hb5
        obtain ⟨hc12, h⟩ := chkE h
        obtain ⟨hc13, h⟩ := chkE h
        refine d_region [] ([b8]) Tryz.mixed S rfl (by kernel_rfl) ?_;clear S;intro w35 hk32 hsel S
        refine d_quiet 0 S hsel rfl rfl rfl (by kernel_rfl) (by kernel_rfl) rfl (fun _ hw => (Rm (S.tm rfl))) ?_;clear S;intro a S
        obtain ⟨b23, o19, hm22, hr24⟩ := rn_indexT (a := a) (x := .tmp 95) (y := .const (iV 4)) (ty := 0) sl_55 ((ownV_slcT enc_str hs1).mono (View.le_trans hl2 (S.le_new (fp_sub (i := 0) (e := .blk b8 (GDeed.enc (GDeed.mk (nth r1.1 0) (nth r2.1 0) (nth r2.1 1) 0 k_empty k_empty k_empty 0 0 k_empty 0)) 39) rfl)))) (inB_get hc12).1 (inB_get hc12).2 (S.tm rfl) rfl
        refine d_quiet 1 S hsel rfl rfl rfl (by kernel_rfl) (by kernel_rfl) rfl (fun _ hw => hr24 _) ?_;clear S;intro a S
        clear hr24
        refine d_quiet 2 S hsel rfl rfl rfl (by kernel_rfl) (by kernel_rfl) rfl (fun _ hw => (rn_ld Tryz.isAgg9 (off := o19) (o := 0) (S.tm rfl) (hm22.kept hw) rfl)) ?_;clear S;intro a S
        refine d_quiet 3 S hsel rfl rfl rfl (by kernel_rfl) (by kernel_rfl) rfl (fun _ hw => (Rm (S.tm rfl))) ?_;clear S;intro a S
        obtain ⟨b24, o20, hm23, hr25⟩ := rn_indexT (a := a) (x := .tmp 98) (y := .const (iV 5)) (ty := 0) sl_55 ((ownV_slcT enc_str hs1).mono (View.le_trans hl2 (S.le_new (fp_sub (i := 0) (e := .blk b8 (GDeed.enc (GDeed.mk (nth r1.1 0) (nth r2.1 0) (nth r2.1 1) 0 k_empty k_empty k_empty 0 0 k_empty 0)) 39) rfl)))) (inB_get hc13).1 (inB_get hc13).2 (S.tm rfl) rfl
        refine d_quiet 4 S hsel rfl rfl rfl (by kernel_rfl) (by kernel_rfl) rfl (fun _ hw => hr25 _) ?_;clear S;intro a S
        clear hr25
        refine d_quiet 5 S hsel rfl rfl rfl (by kernel_rfl) (by kernel_rfl) rfl (fun _ hw => (rn_ld Tryz.isAgg9 (off := o20) (o := 0) (S.tm rfl) (hm23.kept hw) rfl)) ?_;clear S;intro a S
        refine d_quiet 6 S hsel rfl rfl rfl (by kernel_rfl) (by kernel_rfl) rfl (fun _ hw => (rn_fld fa_39_3 (S.tm rfl))) ?_;clear S;intro a S
        refine d_loud1 7 (by kernel_rfl) rfl (l_store S (S.tm rfl) rfl (i := 0) (off := 3) rfl Tryz.sizeOf3 (vs := [iV 2]) rfl rfl rfl rfl ?_);clear S;intro w36 hk33 S
        refine Ld (d_next hk33 (d_quiet 8 S hsel rfl rfl rfl (by kernel_rfl) (by kernel_rfl) rfl (fun _ hw => (rn_fld fa_39_4 (S.tm rfl))) ?_));clear S;intro a S
        refine d_loud1 9 (by kernel_rfl) rfl (l_store S (S.tm rfl) (S.tm rfl) (i := 0) (off := 4) rfl Tryz.sizeOf9 (vs := [sV (nth r1.1 4)]) rfl rfl rfl rfl ?_);clear S;intro w37 hk34 S
        refine Ld (d_next hk34 (d_quiet 10 S hsel rfl rfl rfl (by kernel_rfl) (by kernel_rfl) rfl (fun _ hw => (rn_fld fa_39_6 (S.tm rfl))) ?_));clear S;intro a S
        refine d_loud1 11 (by kernel_rfl) rfl (l_store S (S.tm rfl) (S.tm rfl) (i := 0) (off := 6) rfl Tryz.sizeOf9 (vs := [sV (nth r1.1 5)]) rfl rfl rfl rfl ?_);clear S;intro w38 hk35 S
        refine Ld (d_next hk35 (d_end (by kernel_rfl) ?_))
        clear hsel
        replace S := S.nk [.blk b8 (GDeed.enc (GDeed.mk (nth r1.1 0) (nth r2.1 0) (nth r2.1 1) 2 (nth r1.1 4) k_empty (nth r1.1 5) 0 0 k_empty 0)) 39, .blk Aj [Ak] 26, .own Ak 39 11 Al.length (Al.flatMap GDeed.enc)] [(1, .pointer (some ⟨Aj, 0, none⟩)), (7, bV r2.2), (8, .pointer (some ⟨b8, 0, none⟩)), (10, bV true)] [true, true, true] rfl (subR rfl)
        refine Tn ?_
        exact ⟨2, (nth r1.1 4), (nth r1.1 5), 0, 0, k_empty, 0, true, φ2, h, (View.le_refl _), S.nf [true, true, true] rfl (subR rfl)⟩
       ·replace h := iteF h hb5
        refine Fs (Fg (lv S (rn_seql (S.tm rfl) rfl) rfl ?_));clear S;intro a S
        refine lv S (Ra (S.tm rfl)) rfl ?_;clear S;intro a S
        refine Ld (Tn ?_)
        obtain ⟨j4, hj4, h⟩ := joinE h
        refine f_join (fun a w' => ∃ x27 : Int, ∃ x28 : ByteArray, ∃ x29 : ByteArray, ∃ x30 : Int, ∃ x31 : Int, ∃ x32 : ByteArray, ∃ x33 : Int, ∃ x34 : Bool, ∃ φ7 : View, j4 x27 x28 x29 x30 x31 x32 x33 x34 = some r ∧ View.le φ2 φ7 ∧ Sx w X φ7 [.blk b8 (GDeed.enc (GDeed.mk (nth r1.1 0) (nth r2.1 0) (nth r2.1 1) x27 x28 k_empty x29 x30 x31 x32 x33)) 39, .blk Aj [Ak] 26, .own Ak 39 11 Al.length (Al.flatMap GDeed.enc)] [(1, .pointer (some ⟨Aj, 0, none⟩)), (7, bV r2.2), (8, .pointer (some ⟨b8, 0, none⟩)), (10, bV x34)] 137 a w') ?_ ?_
        ·refine f_cond (S.tm rfl) (fun hb6 => ?_) (fun hb6 => ?_)
         ·replace h := iteT h hb6
          refine Fs (Fg (lv S (Rm (S.tm rfl)) rfl ?_));clear S;intro a S
          obtain ⟨hc14, h⟩ := chkE h
          obtain ⟨v8, hs6, hr26⟩ := rn_cutTl (a := a) (x := .tmp 107) (y := .const (iV 6)) (ty := 55) sl_55 (ownV_slcT enc_str hs1) (S.tm rfl) rfl hc14
          refine lv S (hr26 _) rfl ?_;clear S;intro a S
          clear hr26
          obtain ⟨r4, hr27, h⟩ := bindE h
          have hz8 := S.keep.size
          refine l_enter S (fun _ => run_call (vs := [v8, iV 15]) ⟨(S.tm rfl), rfl, trivial⟩ Tryz.call46) (tumbref2_numbersIn_ok _ v8 (cut r1.1 6 r1.1.length) (hs6.mono (View.le_trans hl2 (S.le_new nil_sub))) 15 (hg_pow10.mono (S.le_arg nil_sub)) _ hr27) rfl ?_;clear S;intro v9 a w40 hv6 hk36 hn6 S
          obtain ⟨u4, rfl, ho4⟩ := hv6
          obtain ⟨φ8, hl8, hm24, S⟩ := S.see' hn6 hz8
          have hs7 := ho4.mono hm24
          refine lv S (Rm (S.tm rfl)) rfl ?_;clear S;intro a S
          refine lv S (rn_extract (S.tm rfl) rfl) rfl ?_;clear S;intro a S
          refine lv S (rn_extract (S.tm rfl) rfl) rfl ?_;clear S;intro a S
          refine lv S (Ra (S.tm rfl)) rfl ?_;clear S;intro a S
          refine lv S (Ra (S.tm rfl)) rfl ?_;clear S;intro a S
          refine Ld ?_
          replace S := S.nk [.blk b8 (GDeed.enc (GDeed.mk (nth r1.1 0) (nth r2.1 0) (nth r2.1 1) 0 k_empty k_empty k_empty 0 0 k_empty 0)) 39, .blk Aj [Ak] 26, .own Ak 39 11 Al.length (Al.flatMap GDeed.enc)] [(1, .pointer (some ⟨Aj, 0, none⟩)), (4, u1), (7, bV r2.2), (8, .pointer (some ⟨b8, 0, none⟩)), (9, u4), (10, bV r4.2)] [true, true, true] rfl (subR rfl)
          refine Tn ?_
          obtain ⟨hc15, h⟩ := chkE h
          obtain ⟨hc16, h⟩ := chkE h
          obtain ⟨hc17, h⟩ := chkE h
          obtain ⟨hc18, h⟩ := chkE h
          refine d_region [] ([b8]) Tryz.mixed S rfl (by kernel_rfl) ?_;clear S;intro w46 hk42 hsel S
          refine d_quiet 0 S hsel rfl rfl rfl (by kernel_rfl) (by kernel_rfl) rfl (fun _ hw => (Rm (S.tm rfl))) ?_;clear S;intro a S
          obtain ⟨b29, o25, hm29, hr32⟩ := rn_indexT (a := a) (x := .tmp 112) (y := .const (iV 4)) (ty := 0) sl_55 ((ownV_slcT enc_str hs1).mono (View.le_trans (View.le_trans hl2 hl8) (S.le_new (fp_sub (i := 0) (e := .blk b8 (GDeed.enc (GDeed.mk (nth r1.1 0) (nth r2.1 0) (nth r2.1 1) 0 k_empty k_empty k_empty 0 0 k_empty 0)) 39) rfl)))) (inB_get hc15).1 (inB_get hc15).2 (S.tm rfl) rfl
          refine d_quiet 1 S hsel rfl rfl rfl (by kernel_rfl) (by kernel_rfl) rfl (fun _ hw => hr32 _) ?_;clear S;intro a S
          clear hr32
          refine d_quiet 2 S hsel rfl rfl rfl (by kernel_rfl) (by kernel_rfl) rfl (fun _ hw => (rn_ld Tryz.isAgg9 (off := o25) (o := 0) (S.tm rfl) (hm29.kept hw) rfl)) ?_;clear S;intro a S
          refine d_quiet 3 S hsel rfl rfl rfl (by kernel_rfl) (by kernel_rfl) rfl (fun _ hw => (Rm (S.tm rfl))) ?_;clear S;intro a S
          obtain ⟨b30, o26, hm30, hr33⟩ := rn_indexT (a := a) (x := .tmp 115) (y := .const (iV 5)) (ty := 0) sl_55 ((ownV_slcT enc_str hs1).mono (View.le_trans (View.le_trans hl2 hl8) (S.le_new (fp_sub (i := 0) (e := .blk b8 (GDeed.enc (GDeed.mk (nth r1.1 0) (nth r2.1 0) (nth r2.1 1) 0 k_empty k_empty k_empty 0 0 k_empty 0)) 39) rfl)))) (inB_get hc16).1 (inB_get hc16).2 (S.tm rfl) rfl
          refine d_quiet 4 S hsel rfl rfl rfl (by kernel_rfl) (by kernel_rfl) rfl (fun _ hw => hr33 _) ?_;clear S;intro a S
          clear hr33
          refine d_quiet 5 S hsel rfl rfl rfl (by kernel_rfl) (by kernel_rfl) rfl (fun _ hw => (rn_ld Tryz.isAgg9 (off := o26) (o := 0) (S.tm rfl) (hm30.kept hw) rfl)) ?_;clear S;intro a S
          refine d_quiet 6 S hsel rfl rfl rfl (by kernel_rfl) (by kernel_rfl) rfl (fun _ hw => (Rm (S.tm rfl))) ?_;clear S;intro a S
          obtain ⟨b31, o27, hm31, hr34⟩ := rn_indexT (a := a) (x := .tmp 118) (y := .const (iV 0)) (ty := 0) sl_22 ((ownV_slcT enc_int hs7).mono (S.le_new (fp_sub (i := 0) (e := .blk b8 (GDeed.enc (GDeed.mk (nth r1.1 0) (nth r2.1 0) (nth r2.1 1) 0 k_empty k_empty k_empty 0 0 k_empty 0)) 39) rfl))) (inB_get hc17).1 (inB_get hc17).2 (S.tm rfl) rfl
          refine d_quiet 7 S hsel rfl rfl rfl (by kernel_rfl) (by kernel_rfl) rfl (fun _ hw => hr34 _) ?_;clear S;intro a S
          clear hr34
          refine d_quiet 8 S hsel rfl rfl rfl (by kernel_rfl) (by kernel_rfl) rfl (fun _ hw => (rn_ld Tryz.isAgg3 (off := o27) (o := 0) (S.tm rfl) (hm31.kept hw) rfl)) ?_;clear S;intro a S
          refine d_quiet 9 S hsel rfl rfl rfl (by kernel_rfl) (by kernel_rfl) rfl (fun _ hw => (Rm (S.tm rfl))) ?_;clear S;intro a S
          obtain ⟨b32, o28, hm32, hr35⟩ := rn_indexT (a := a) (x := .tmp 121) (y := .const (iV 1)) (ty := 0) sl_22 ((ownV_slcT enc_int hs7).mono (S.le_new (fp_sub (i := 0) (e := .blk b8 (GDeed.enc (GDeed.mk (nth r1.1 0) (nth r2.1 0) (nth r2.1 1) 0 k_empty k_empty k_empty 0 0 k_empty 0)) 39) rfl))) (inB_get hc18).1 (inB_get hc18).2 (S.tm rfl) rfl
          refine d_quiet 10 S hsel rfl rfl rfl (by kernel_rfl) (by kernel_rfl) rfl (fun _ hw => hr35 _) ?_;clear S;intro a S
          clear hr35
          refine d_quiet 11 S hsel rfl rfl rfl (by kernel_rfl) (by kernel_rfl) rfl (fun _ hw => (rn_ld Tryz.isAgg3 (off := o28) (o := 0) (S.tm rfl) (hm32.kept hw) rfl)) ?_;clear S;intro a S
          refine d_quiet 12 S hsel rfl rfl rfl (by kernel_rfl) (by kernel_rfl) rfl (fun _ hw => (rn_fld fa_39_3 (S.tm rfl))) ?_;clear S;intro a S
          refine d_loud1 13 (by kernel_rfl) rfl (l_store S (S.tm rfl) rfl (i := 0) (off := 3) rfl Tryz.sizeOf3 (vs := [iV 3]) rfl rfl rfl rfl ?_);clear S;intro w47 hk43 S
          refine Ld (d_next hk43 (d_quiet 14 S hsel rfl rfl rfl (by kernel_rfl) (by kernel_rfl) rfl (fun _ hw => (rn_fld fa_39_4 (S.tm rfl))) ?_));clear S;intro a S
          refine d_loud1 15 (by kernel_rfl) rfl (l_store S (S.tm rfl) (S.tm rfl) (i := 0) (off := 4) rfl Tryz.sizeOf9 (vs := [sV (nth r1.1 4)]) rfl rfl rfl rfl ?_);clear S;intro w48 hk44 S
          refine Ld (d_next hk44 (d_quiet 16 S hsel rfl rfl rfl (by kernel_rfl) (by kernel_rfl) rfl (fun _ hw => (rn_fld fa_39_6 (S.tm rfl))) ?_));clear S;intro a S
          refine d_loud1 17 (by kernel_rfl) rfl (l_store S (S.tm rfl) (S.tm rfl) (i := 0) (off := 6) rfl Tryz.sizeOf9 (vs := [sV (nth r1.1 5)]) rfl rfl rfl rfl ?_);clear S;intro w49 hk45 S
          refine Ld (d_next hk45 (d_quiet 18 S hsel rfl rfl rfl (by kernel_rfl) (by kernel_rfl) rfl (fun _ hw => (rn_fld fa_39_7 (S.tm rfl))) ?_));clear S;intro a S
          refine d_loud1 19 (by kernel_rfl) rfl (l_store S (S.tm rfl) (S.tm rfl) (i := 0) (off := 7) rfl Tryz.sizeOf3 (vs := [iV (nth r4.1 0)]) rfl rfl rfl rfl ?_);clear S;intro w50 hk46 S
          refine Ld (d_next hk46 (d_quiet 20 S hsel rfl rfl rfl (by kernel_rfl) (by kernel_rfl) rfl (fun _ hw => (rn_fld fa_39_8 (S.tm rfl))) ?_));clear S;intro a S
          refine d_loud1 21 (by kernel_rfl) rfl (l_store S (S.tm rfl) (S.tm rfl) (i := 0) (off := 8) rfl Tryz.sizeOf3 (vs := [iV (nth r4.1 1)]) rfl rfl rfl rfl ?_);clear S;intro w51 hk47 S
          refine Ld (d_next hk47 (d_end (by kernel_rfl) ?_))
          clear hsel
          replace S := S.nk [.blk b8 (GDeed.enc (GDeed.mk (nth r1.1 0) (nth r2.1 0) (nth r2.1 1) 3 (nth r1.1 4) k_empty (nth r1.1 5) (nth r4.1 0) (nth r4.1 1) k_empty 0)) 39, .blk Aj [Ak] 26, .own Ak 39 11 Al.length (Al.flatMap GDeed.enc)] [(1, .pointer (some ⟨Aj, 0, none⟩)), (7, bV r2.2), (8, .pointer (some ⟨b8, 0, none⟩)), (10, bV r4.2)] [true, true, true] rfl (subR rfl)
          refine Tn ?_
          exact ⟨3, (nth r1.1 4), (nth r1.1 5), (nth r4.1 0), (nth r4.1 1), k_empty, 0, r4.2, φ8, h, hl8, S.nf [true, true, true] rfl (subR rfl)⟩
         ·replace h := iteF h hb6
          refine Fs (Fg (lv S (Rm (S.tm rfl)) rfl ?_));clear S;intro a S
          obtain ⟨hc19, h⟩ := chkE h
          obtain ⟨v10, hs8, hr36⟩ := rn_cutTl (a := a) (x := .tmp 53) (y := .const (iV 5)) (ty := 55) sl_55 (ownV_slcT enc_str hs1) (S.tm rfl) rfl hc19
          refine lv S (hr36 _) rfl ?_;clear S;intro a S
          clear hr36
          obtain ⟨r5, hr37, h⟩ := bindE h
          have hz9 := S.keep.size
          refine l_enter S (fun _ => run_call (vs := [v10, iV 15]) ⟨(S.tm rfl), rfl, trivial⟩ Tryz.call46) (tumbref2_numbersIn_ok _ v10 (cut r1.1 5 r1.1.length) (hs8.mono (View.le_trans hl2 (S.le_new nil_sub))) 15 (hg_pow10.mono (S.le_arg nil_sub)) _ hr37) rfl ?_;clear S;intro v11 a w52 hv7 hk48 hn7 S
          obtain ⟨u5, rfl, ho5⟩ := hv7
          obtain ⟨φ9, hl9, hm33, S⟩ := S.see' hn7 hz9
          have hs9 := ho5.mono hm33
          refine lv S (Rm (S.tm rfl)) rfl ?_;clear S;intro a S
          refine lv S (rn_extract (S.tm rfl) rfl) rfl ?_;clear S;intro a S
          refine lv S (rn_extract (S.tm rfl) rfl) rfl ?_;clear S;intro a S
          refine lv S (Ra (S.tm rfl)) rfl ?_;clear S;intro a S
          refine lv S (Ra (S.tm rfl)) rfl ?_;clear S;intro a S
          refine Ld ?_
          replace S := S.nk [.blk b8 (GDeed.enc (GDeed.mk (nth r1.1 0) (nth r2.1 0) (nth r2.1 1) 0 k_empty k_empty k_empty 0 0 k_empty 0)) 39, .blk Aj [Ak] 26, .own Ak 39 11 Al.length (Al.flatMap GDeed.enc)] [(1, .pointer (some ⟨Aj, 0, none⟩)), (4, u1), (7, bV r2.2), (8, .pointer (some ⟨b8, 0, none⟩)), (9, u5), (10, bV r5.2)] [true, true, true] rfl (subR rfl)
          refine Tn ?_
          obtain ⟨hc20, h⟩ := chkE h
          obtain ⟨hc21, h⟩ := chkE h
          refine d_region [] ([b8]) Tryz.mixed S rfl (by kernel_rfl) ?_;clear S;intro w56 hk52 hsel S
          refine d_quiet 0 S hsel rfl rfl rfl (by kernel_rfl) (by kernel_rfl) rfl (fun _ hw => (Rm (S.tm rfl))) ?_;clear S;intro a S
          obtain ⟨b35, o31, hm36, hr40⟩ := rn_indexT (a := a) (x := .tmp 58) (y := .const (iV 4)) (ty := 0) sl_55 ((ownV_slcT enc_str hs1).mono (View.le_trans (View.le_trans hl2 hl9) (S.le_new (fp_sub (i := 0) (e := .blk b8 (GDeed.enc (GDeed.mk (nth r1.1 0) (nth r2.1 0) (nth r2.1 1) 0 k_empty k_empty k_empty 0 0 k_empty 0)) 39) rfl)))) (inB_get hc20).1 (inB_get hc20).2 (S.tm rfl) rfl
          refine d_quiet 1 S hsel rfl rfl rfl (by kernel_rfl) (by kernel_rfl) rfl (fun _ hw => hr40 _) ?_;clear S;intro a S
          clear hr40
          refine d_quiet 2 S hsel rfl rfl rfl (by kernel_rfl) (by kernel_rfl) rfl (fun _ hw => (rn_ld Tryz.isAgg9 (off := o31) (o := 0) (S.tm rfl) (hm36.kept hw) rfl)) ?_;clear S;intro a S
          refine d_quiet 3 S hsel rfl rfl rfl (by kernel_rfl) (by kernel_rfl) rfl (fun _ hw => (Rm (S.tm rfl))) ?_;clear S;intro a S
          obtain ⟨b36, o32, hm37, hr41⟩ := rn_indexT (a := a) (x := .tmp 61) (y := .const (iV 0)) (ty := 0) sl_22 ((ownV_slcT enc_int hs9).mono (S.le_new (fp_sub (i := 0) (e := .blk b8 (GDeed.enc (GDeed.mk (nth r1.1 0) (nth r2.1 0) (nth r2.1 1) 0 k_empty k_empty k_empty 0 0 k_empty 0)) 39) rfl))) (inB_get hc21).1 (inB_get hc21).2 (S.tm rfl) rfl
          refine d_quiet 4 S hsel rfl rfl rfl (by kernel_rfl) (by kernel_rfl) rfl (fun _ hw => hr41 _) ?_;clear S;intro a S
          clear hr41
          refine d_quiet 5 S hsel rfl rfl rfl (by kernel_rfl) (by kernel_rfl) rfl (fun _ hw => (rn_ld Tryz.isAgg3 (off := o32) (o := 0) (S.tm rfl) (hm37.kept hw) rfl)) ?_;clear S;intro a S
          refine d_quiet 6 S hsel rfl rfl rfl (by kernel_rfl) (by kernel_rfl) rfl (fun _ hw => (rn_fld fa_39_3 (S.tm rfl))) ?_;clear S;intro a S
          refine d_loud1 7 (by kernel_rfl) rfl (l_store S (S.tm rfl) rfl (i := 0) (off := 3) rfl Tryz.sizeOf3 (vs := [iV 4]) rfl rfl rfl rfl ?_);clear S;intro w57 hk53 S
          refine Ld (d_next hk53 (d_quiet 8 S hsel rfl rfl rfl (by kernel_rfl) (by kernel_rfl) rfl (fun _ hw => (rn_fld fa_39_9 (S.tm rfl))) ?_));clear S;intro a S
          refine d_loud1 9 (by kernel_rfl) rfl (l_store S (S.tm rfl) (S.tm rfl) (i := 0) (off := 9) rfl Tryz.sizeOf9 (vs := [sV (nth r1.1 4)]) rfl rfl rfl rfl ?_);clear S;intro w58 hk54 S
          refine Ld (d_next hk54 (d_quiet 10 S hsel rfl rfl rfl (by kernel_rfl) (by kernel_rfl) rfl (fun _ hw => (rn_fld fa_39_10 (S.tm rfl))) ?_));clear S;intro a S
          refine d_loud1 11 (by kernel_rfl) rfl (l_store S (S.tm rfl) (S.tm rfl) (i := 0) (off := 10) rfl Tryz.sizeOf3 (vs := [iV (nth r5.1 0)]) rfl rfl rfl rfl ?_);clear S;intro w59 hk55 S
          refine Ld (d_next hk55 (d_end (by kernel_rfl) ?_))
          clear hsel
          replace S := S.nk [.blk b8 (GDeed.enc (GDeed.mk (nth r1.1 0) (nth r2.1 0) (nth r2.1 1) 4 k_empty k_empty k_empty 0 0 (nth r1.1 4) (nth r5.1 0))) 39, .blk Aj [Ak] 26, .own Ak 39 11 Al.length (Al.flatMap GDeed.enc)] [(1, .pointer (some ⟨Aj, 0, none⟩)), (7, bV r2.2), (8, .pointer (some ⟨b8, 0, none⟩)), (10, bV r5.2)] [true, true, true] rfl (subR rfl)
          refine Tn ?_
          exact ⟨4, k_empty, k_empty, 0, 0, (nth r1.1 4), (nth r5.1 0), r5.2, φ9, h, hl9, S.nf [true, true, true] rfl (subR rfl)⟩
        clear S h;rintro a w39 ⟨x27, x28, x29, x30, x31, x32, x33, x34, φ7, h, hl7, S⟩;rw [hj4] at h;clear hj4 j4
        refine Tn ?_
        exact ⟨x27, x28, x29, x30, x31, x32, x33, x34, φ7, h, hl7, S.nf [true, true, true] rfl (subR rfl)⟩
      clear S h;rintro a w31 ⟨x19, x20, x21, x22, x23, x24, x25, x26, φ6, h, hl6, S⟩;rw [hj3] at h;clear hj3 j3
      refine Tn ?_
      exact ⟨x19, x20, k_empty, x21, x22, x23, x24, x25, x26, φ6, h, hl6, S.nf [true, true, true] rfl (subR rfl)⟩
    clear S h;rintro a w16 ⟨x10, x11, x12, x13, x14, x15, x16, x17, x18, φ4, h, hl4, S⟩;rw [hj2] at h;clear hj2 j2
    refine blk_n (Tn ?_)
    exact ⟨x10, x11, x12, x13, x14, x15, x16, x17, x18, φ4, h, hl4, S.nf [true, true, true] rfl (subR rfl)⟩
   clear S h;rintro a w15 ⟨x1, x2, x3, x4, x5, x6, x7, x8, x9, φ3, h, hl3, S⟩;rw [hj1] at h;clear hj1 j1
   refine Tn (Fs (Fg (lv S (rn_load Tryz.isAgg26 (S.tm rfl) (S.cell (i := 1) rfl rfl)) rfl ?_)));clear S;intro a S
   refine lv S (rn_ldA Tryz.isAgg39 Tryz.sizeOf39 (off := 0) (o := 0) (part := (GDeed.enc (GDeed.mk (nth r1.1 0) (nth r2.1 0) (nth r2.1 1) x1 x2 x3 x4 x5 x6 x7 x8))) rfl rfl (S.tm rfl) (S.cellsAt (i := 0) rfl)) rfl ?_;clear S;intro a S
   refine l_buildSlice S Tryz.underlying26 Tryz.sizeOf39 Tryz.zeroValue39 rfl rfl (pv := [(0, .agg (GDeed.enc (GDeed.mk (nth r1.1 0) (nth r2.1 0) (nth r2.1 1) x1 x2 x3 x4 x5 x6 x7 x8)).toArray)]) ⟨rfl, (S.tm rfl), trivial⟩ (cs := [sV (nth r1.1 0), iV (nth r2.1 0), iV (nth r2.1 1), iV x1, sV x2, sV x3, sV x4, iV x5, iV x6, sV x7, iV x8]) (by kernel_rfl) rfl ?_;clear S;intro a w60 b37 hz10 hk56 S
   obtain ⟨hc22, h⟩ := chkE h
   refine l_appendT sl_26 GDeed.enc_ok S (S.tm rfl) (i := 3) rfl (S.tm rfl) (j := 0) rfl (ys := [(GDeed.mk (nth r1.1 0) (nth r2.1 0) (nth r2.1 1) x1 x2 x3 x4 x5 x6 x7 x8)]) rfl rfl rfl rfl (by have := room_lt hc22;omega) rfl ?_;clear S;intro v12 a w61 hk57 S
   refine l_store S (S.tm rfl) (S.tm rfl) (i := 2) (off := 0) rfl Tryz.sizeOf26 (vs := [v12]) (SlcLen.cells (own_len (S.own_at (i := 3) rfl))) rfl rfl (all1 (SlcLen.one (own_len (S.own_at (i := 3) rfl))) rfl) ?_;clear S;intro w62 hk58 S
   refine Ld (Tn (Fs (Fg (lv S (Rm (S.tm rfl)) rfl ?_))));clear S;intro a S
   refine lv S (Rm (S.tm rfl)) rfl ?_;clear S;intro a S
   refine f_cutm 2 (fun a w' => Keep [] w62 w' ∧ Sx w X φ3 [.blk b37 (GDeed.enc (GDeed.mk (nth r1.1 0) (nth r2.1 0) (nth r2.1 1) x1 x2 x3 x4 x5 x6 x7 x8)) 39, .blk b8 (GDeed.enc (GDeed.mk (nth r1.1 0) (nth r2.1 0) (nth r2.1 1) x1 x2 x3 x4 x5 x6 x7 x8)) 39, .blk Aj [v12] 26, .own v12 39 11 (Al ++ [(GDeed.mk (nth r1.1 0) (nth r2.1 0) (nth r2.1 1) x1 x2 x3 x4 x5 x6 x7 x8)]).length ((Al ++ [(GDeed.mk (nth r1.1 0) (nth r2.1 0) (nth r2.1 1) x1 x2 x3 x4 x5 x6 x7 x8)]).flatMap GDeed.enc)] [(136, bV (r2.2 && x9))] 137 a w') ?_ ?_
   ·rcases Bool.eq_false_or_eq_true r2.2 with hb7 | hb7
    ·refine l_want S rfl rfl rfl hb7 (lv S (Rm (S.tm rfl)) rfl ?_);clear S;intro a S
     refine lv S (rn_and_t hb7 (S.tm rfl) (S.tm rfl)) rfl ?_;clear S;intro a S
     refine Ld (Tn ?_)
     exact ⟨Keep.refl _ _, S.nf [true, true, true, true] rfl ⟨rfl, trivial⟩⟩
    ·refine l_skip S rfl rfl rfl (neq_f hb7) rfl ?_ rfl;clear S;intro a S
     refine lv S (rn_and_f x9 hb7 (S.tm rfl) rfl) rfl ?_;clear S;intro a S
     refine Ld (Tn ?_)
     exact ⟨Keep.refl _ _, S.nf [true, true, true, true] rfl ⟨rfl, trivial⟩⟩
   clear S;rintro a w63 ⟨hk59, S⟩
   refine lv S (Ra (S.tm rfl)) rfl ?_;clear S;intro a S
   refine Ld (Tn (wp_ret ?_))
   obtain rfl := Option.some.inj h
   exact f_ret S Tryz.results44 rfl ⟨v12, S.grp [2, 3] [0, 1] rfl rfl rfl, rfl⟩
theorem tumbref2_Lines_tumbref2_DeedsRead_c1_ok (w : World) (X : List Nat) (Bw : ByteArray) (Ag : Nat) (Az : Value) (Bg : List GDeed) (Dc : (LEnt.own Az 39 11 Bg.length (Bg.flatMap GDeed.enc)).holds w) (Dd : (LEnt.blk Ag [Az] 26).holds w) (hg_maxlen : GlobI (view w X) 0) (hg_pow10 : Glob (view w X) 1 pow10Cells) (hXn : X.Nodup) (hXe : X = fps [.blk Ag [Az] 26, .own Az 39 11 Bg.length (Bg.flatMap GDeed.enc)]) (r : Int × Bool × (List GDeed)) (h : tumbref2_Lines_tumbref2_DeedsRead_c1 Bw Bg = some r) :
    Calls Tryz.prog 43 [sV Bw, .func (.func 44) #[] #[.pointer (some ⟨Ag, 0, none⟩)]].toArray w (Ret w X fun _ v w' => ∃ y1 : Value, Grp w w' X [.blk Ag [y1] 26, .own y1 39 11 r.2.2.length (r.2.2.flatMap GDeed.enc)] ∧ v = .tuple #[iV r.1, bV r.2.1]) := by
 refine f_enter X [.blk Ag [Az] 26, .own Az 39 11 Bg.length (Bg.flatMap GDeed.enc)] Tryz.func43 rfl Tryz.ntmps43 rfl (fun e he => by simp only [List.mem_cons, List.not_mem_nil, or_false] at he;rcases he with rfl | rfl <;> assumption) (by rw [← hXe];exact hXn) (fun b hb => by rw [hXe];exact hb) fun a S => ?_
 unfold tumbref2_Lines_tumbref2_DeedsRead_c1 at h
 replace S := S.nk [.blk Ag [Az] 26, .own Az 39 11 Bg.length (Bg.flatMap GDeed.enc)] [(0, sV Bw), (1, .func (.func 44) #[] #[.pointer (some ⟨Ag, 0, none⟩)])] [true, true] rfl (subR rfl)
 refine Fs (Fg (lv S (Ra rfl) rfl ?_));clear S;intro a S
 refine lv S (Ra rfl) rfl ?_;clear S;intro a S
 refine Ld (Tn (Fs (Fs (Fg (lv S (Ra rfl) rfl ?_)))));clear S;intro a S
 refine Ld (Tn ?_)
 replace S := S.nk [.blk Ag [Az] 26, .own Az 39 11 Bg.length (Bg.flatMap GDeed.enc)] [(0, sV Bw), (1, .func (.func 44) #[] #[.pointer (some ⟨Ag, 0, none⟩)]), (6, iV 0)] [true, true] rfl (subR rfl)
 obtain ⟨j1, hj1, h⟩ := joinE h
 refine f_join (fun a w' => ∃ x1 : List GDeed, ∃ v1 : Value, j1 x1 = some r ∧ Sx w X nov [.blk Ag [v1] 26, .own v1 39 11 x1.length (x1.flatMap GDeed.enc)] [] 30 a w') ?_ ?_
 ·refine wp_block (f_loop (fun (m1 : Nat) a w' => ∃ x1 : List GDeed, ∃ x2 : ByteArray, ∃ x3 : Int, ∃ v1 : Value, tumbref2_Lines_tumbref2_DeedsRead_c1_l1 j1 m1 x1 x2 x3 = some r ∧ Sx w X nov [.blk Ag [v1] 26, .own v1 39 11 x1.length (x1.flatMap GDeed.enc)] [(0, sV x2), (1, .func (.func 44) #[] #[.pointer (some ⟨Ag, 0, none⟩)]), (6, iV x3)] 30 a w') id 4611686018427387904 ⟨Bg, Bw, 0, Az, h, S.nf [true, true] rfl (subR rfl)⟩ ?_)
  clear S h;rintro m1 a w1 ⟨x1, x2, x3, v1, h, S⟩
  cases m1 with
  | zero => rw [tumbref2_Lines_tumbref2_DeedsRead_c1_l1.eq_1] at h;cases h
  | succ m1 =>
   rw [tumbref2_Lines_tumbref2_DeedsRead_c1_l1.eq_2] at h
   refine Fs (Fs (Fg (lv S (Rm (S.tm rfl)) rfl ?_)));clear S;intro a S
   refine lv S (rn_sneq (S.tm rfl) rfl) rfl ?_;clear S;intro a S
   refine Ld (Tn (f_cond (S.tm rfl) (fun hb1 => ?_) (fun hb1 => ?_)))
   ·replace h := iteT h hb1
    refine wp_skip (Tn (Fs (wp_block (Fs (Fg (lv S (Rm (S.tm rfl)) rfl ?_))))));clear S;intro a S
    obtain ⟨r1, hr1, h⟩ := bindE h
    refine l_enter S (fun _ => run_call (vs := [sV x2, sV k__0a]) ⟨(S.tm rfl), rfl, trivial⟩ Tryz.call63) (strings_Cut_ok _ x2 k__0a (hg_maxlen.mono (S.le_arg nil_sub)) _ hr1) rfl ?_;clear S;intro v2 a w3 hv1 hk1 hn1 S
    subst hv1
    refine lv S (Rm (S.tm rfl)) rfl ?_;clear S;intro a S
    iterate 3 (refine lv S (rn_extract (S.tm rfl) rfl) rfl ?_;clear S;intro a S)
    iterate 3 (refine lv S (Ra (S.tm rfl)) rfl ?_;clear S;intro a S)
    refine Ld (Tn (Fs (Fs (Fg (lv S (Rm (S.tm rfl)) rfl ?_)))));clear S;intro a S
    refine lv S (rn_not (S.tm rfl)) rfl ?_;clear S;intro a S
    refine lv S (Rm (S.tm rfl)) rfl ?_;clear S;intro a S
    obtain ⟨j2, hj2, h⟩ := joinE h
    refine f_cutm 5 (fun a w' => ∃ x4 : List GDeed, ∃ x5 : Bool, ∃ v3 : Value, j2 x4 x5 = some r ∧ Sx w X nov [.blk Ag [v3] 26, .own v3 39 11 x4.length (x4.flatMap GDeed.enc)] [(1, .func (.func 44) #[] #[.pointer (some ⟨Ag, 0, none⟩)]), (6, iV x3), (8, sV r1.2.1), (27, bV x5)] 30 a w') ?_ ?_
    ·rcases Bool.eq_false_or_eq_true (!r1.2.2) with hb2 | hb2
     ·replace h := iteT h hb2
      iterate 4 (refine l_skip S rfl rfl rfl (neq_t hb2) rfl ?_ rfl;clear S;intro a S)
      refine lv S (rn_pick_b hb2 (S.tm rfl) rfl) rfl ?_;clear S;intro a S
      refine Ld (Tn ?_)
      exact ⟨x1, true, v1, h, S.nf [true, true] rfl (subR rfl)⟩
     ·replace h := iteF h hb2
      refine l_want S rfl rfl rfl hb2 (lv S (Rm (S.tm rfl)) rfl ?_);clear S;intro a S
      refine l_want S rfl rfl rfl hb2 (lv S (Rm (S.tm rfl)) rfl ?_);clear S;intro a S
      refine l_want S rfl rfl rfl hb2 ?_
      obtain ⟨r2, hr2, h⟩ := bindE h
      refine l_enterG [0, 1] [] (Ls := [.blk Ag [v1] 26, .own v1 39 11 x1.length (x1.flatMap GDeed.enc)]) (Lr := []) (Y := [Ag] ++ v1.ownBlock.toList) S rfl rfl rfl (by simp [fps_cons, fps_nil, LEnt.fp]) (fun _ => run_callV (cap := [.pointer (some ⟨Ag, 0, none⟩)]) (S.tm rfl) (vs := [sV r1.1]) ⟨(S.tm rfl), trivial⟩ Tryz.call44) (tumbref2_DeedsRead_c1_ok _ ([Ag] ++ v1.ownBlock.toList) r1.1 Ag v1 x1 (S.holds _ (List.mem_of_getElem? (i := 1) rfl)) (S.holds _ (List.mem_of_getElem? (i := 0) rfl)) (hg_maxlen.mono (S.le_arg (app_sub (fp_sub (i := 0) (e := .blk Ag [v1] 26) rfl) (fp_sub (i := 1) (e := .own v1 39 11 x1.length (x1.flatMap GDeed.enc)) rfl)))) (hg_pow10.mono (S.le_arg (app_sub (fp_sub (i := 0) (e := .blk Ag [v1] 26) rfl) (fp_sub (i := 1) (e := .own v1 39 11 x1.length (x1.flatMap GDeed.enc)) rfl)))) (S.ndg [0, 1] [] rfl rfl rfl (by simp [fps_cons, fps_nil, LEnt.fp])) (by simp [fps_cons, fps_nil, LEnt.fp]) _ hr2) rfl ?_;clear S;intro v4 a w5 hv2 hk2 hn2 S
      obtain ⟨v5, hg1, hv2⟩ := hv2;replace S := S _ hg1;clear hg1
      subst hv2
      refine l_want S rfl rfl rfl hb2 (lv S (rn_not (S.tm rfl)) rfl ?_);clear S;intro a S
      refine lv S (rn_pick_c hb2 (S.tm rfl) (S.tm rfl)) rfl ?_;clear S;intro a S
      refine Ld (Tn ?_)
      exact ⟨r2.2, !r2.1, v5, h, S.nf [true, true] rfl (subR rfl)⟩
    clear S h;rintro a w4 ⟨x4, x5, v3, h, S⟩;rw [hj2] at h;clear hj2 j2
    refine Ld (Tn (f_cond (S.tm rfl) (fun hb3 => ?_) (fun hb3 => ?_)))
    ·replace h := iteT h hb3
     refine Fs (Fg (lv S (Rm (S.tm rfl)) rfl ?_));clear S;intro a S
     refine lv S (Ra (S.tm rfl)) rfl ?_;clear S;intro a S
     refine lv S (Ra rfl) rfl ?_;clear S;intro a S
     refine Ld (Tn (wp_ret (then_r (blk_r (then_r (then_r ?_))))))
     refine blk_r (then_r (then_r ?_))
     obtain rfl := Option.some.inj h
     exact f_ret2 S Tryz.results43 rfl rfl ⟨v3, S.grp [0, 1] [] rfl rfl rfl, rfl⟩
    ·replace h := iteF h hb3
     refine wp_skip (Tn (Fg (lv S (Rm (S.tm rfl)) rfl ?_)));clear S;intro a S
     refine lv S (Ra (S.tm rfl)) rfl ?_;clear S;intro a S
     refine Ld (blk_n (Tn (Fg (lv S (Rm (S.tm rfl)) rfl ?_))));clear S;intro a S
     refine lv S (rn_add (S.tm rfl) rfl) rfl ?_;clear S;intro a S
     refine lv S (Ra (S.tm rfl)) rfl ?_;clear S;intro a S
     refine Ld (Tn ?_)
     exact ⟨m1, ⟨x4, r1.2.1, W (x3 + 1), v3, h, S.nf [true, true] rfl ⟨rfl, rfl, rfl, trivial⟩⟩, Nat.lt_succ_self _⟩
   ·replace h := iteF h hb1
    refine wp_exit (then_x (then_x (x_same (Tn ?_))))
    exact ⟨x1, v1, h, S.nf [true, true] rfl trivial⟩
 clear S h;rintro a w2 ⟨x1, v1, h, S⟩;rw [hj1] at h;clear hj1 j1
 refine Tn (Fs (Fg (lv S (Ra rfl) rfl ?_)));clear S;intro a S
 refine lv S (Ra rfl) rfl ?_;clear S;intro a S
 refine Ld (Tn (wp_ret ?_))
 obtain rfl := Option.some.inj h
 exact f_ret2 S Tryz.results43 rfl rfl ⟨v1, S.grp [0, 1] [] rfl rfl rfl, rfl⟩
theorem tumbref2_DeedsRead_ok (w : World) (Bw : ByteArray) (hg_maxlen : GlobI (view w []) 0) (hg_pow10 : Glob (view w []) 1 pow10Cells) (r : (List GDeed) × Int × Int) (h : tumbref2_DeedsRead Bw = some r) :
    Calls Tryz.prog 11 [sV Bw].toArray w (Ret w [] fun τ v _ => ∃ u1 : Value, v = .tuple #[u1, iV r.2.1, iV r.2.2] ∧ OwnV τ 39 11 u1 r.1.length (r.1.flatMap GDeed.enc)) := by
 refine f_enter [] [] Tryz.func11 rfl Tryz.ntmps11 rfl (by simp) (by simp [fps]) (by simp [fps]) fun a S => ?_
 unfold tumbref2_DeedsRead at h
 replace S := S.nk [] [(0, sV Bw)] [] rfl ⟨rfl, trivial⟩
 refine Fs (Fg (lv S (Ra rfl) rfl ?_));clear S;intro a S
 refine lv S (Ra rfl) rfl ?_;clear S;intro a S
 refine lv S (Ra rfl) rfl ?_;clear S;intro a S
 refine Ld (Tn (Fs (Fs (Fg (lv S (Rm (S.tm rfl)) rfl ?_)))));clear S;intro a S
 refine lv S (rn_len_str Tryz.underlying9 (S.tm rfl)) rfl ?_;clear S;intro a S
 refine lv S (rn_gtr (S.tm rfl) rfl) rfl ?_;clear S;intro a S
 refine Ld (Tn (f_cond (S.tm rfl) (fun hb1 => ?_) (fun hb1 => ?_)))
 ·replace h := iteT h hb1
  refine Fs (Fg (lv S (Ra rfl) rfl ?_));clear S;intro a S
  refine lv S (Ra rfl) rfl ?_;clear S;intro a S
  refine lv S (Ra rfl) rfl ?_;clear S;intro a S
  refine Ld (Tn (wp_ret (then_r ?_)))
  obtain rfl := Option.some.inj h
  exact f_ret3 S Tryz.results11 rfl rfl rfl ⟨_, rfl, (ownV_nil _ _ _)⟩
 ·replace h := iteF h hb1
  refine wp_skip (Tn (Fs (Fg (l_alloc S Tryz.zeroValue26 (cs := [.slice none 0 0]) rfl rfl ?_))));clear S;intro a w1 b1 hz1 hk1 S
  refine Ld (Tn (Fs (Fg (lv S (Rm (S.tm rfl)) rfl ?_))));clear S;intro a S
  refine lv S (rn_makeFunc (us := #[]) (xs := [].toArray) (ys := [.tmp 5].toArray) (by simp) (evA ⟨(S.tm rfl), trivial⟩ (vs := [.pointer (some ⟨b1, 0, none⟩)]))) rfl ?_;clear S;intro a S
  replace S := S.nil 39 11
  obtain ⟨r1, hr1, h⟩ := bindE h
  refine l_enterG [1, 0] [] (Ls := [.blk b1 [(.slice none 0 0)] 26, .own (.slice none 0 0) 39 11 ([] : List GDeed).length (([] : List GDeed).flatMap GDeed.enc)]) (Lr := []) (Y := [b1] ++ (Value.ownBlock (.slice none 0 0)).toList) S rfl rfl rfl (by simp [fps_cons, fps_nil, LEnt.fp]) (fun _ => run_call (vs := [sV Bw, .func (.func 44) #[] #[.pointer (some ⟨b1, 0, none⟩)]]) ⟨(S.tm rfl), (S.tm rfl), trivial⟩ Tryz.call43) (tumbref2_Lines_tumbref2_DeedsRead_c1_ok _ ([b1] ++ (Value.ownBlock (.slice none 0 0)).toList) Bw b1 (.slice none 0 0) ([] : List GDeed) (S.holds _ (List.mem_of_getElem? (i := 0) rfl)) (S.holds _ (List.mem_of_getElem? (i := 1) rfl)) (hg_maxlen.mono (S.le_arg (app_sub (fp_sub (i := 1) (e := .blk b1 [(.slice none 0 0)] 26) rfl) (fp_sub (i := 0) (e := .own (.slice none 0 0) 39 11 ([] : List GDeed).length (([] : List GDeed).flatMap GDeed.enc)) rfl)))) (hg_pow10.mono (S.le_arg (app_sub (fp_sub (i := 1) (e := .blk b1 [(.slice none 0 0)] 26) rfl) (fp_sub (i := 0) (e := .own (.slice none 0 0) 39 11 ([] : List GDeed).length (([] : List GDeed).flatMap GDeed.enc)) rfl)))) (S.ndg [1, 0] [] rfl rfl rfl (by simp [fps_cons, fps_nil, LEnt.fp])) (by simp [fps_cons, fps_nil, LEnt.fp]) _ hr1) rfl ?_;clear S;intro v1 a w2 hv1 hk2 hn1 S
  obtain ⟨v2, hg1, hv1⟩ := hv1;replace S := S _ hg1;clear hg1
  subst hv1
  refine lv S (Rm (S.tm rfl)) rfl ?_;clear S;intro a S
  refine lv S (rn_extract (S.tm rfl) rfl) rfl ?_;clear S;intro a S
  refine lv S (rn_extract (S.tm rfl) rfl) rfl ?_;clear S;intro a S
  refine lv S (Ra (S.tm rfl)) rfl ?_;clear S;intro a S
  refine lv S (Ra (S.tm rfl)) rfl ?_;clear S;intro a S
  refine Ld ?_
  replace S := S.nk [.blk b1 [v2] 26, .own v2 39 11 r1.2.2.length (r1.2.2.flatMap GDeed.enc)] [(5, .pointer (some ⟨b1, 0, none⟩)), (6, iV r1.1), (7, bV r1.2.1)] [true, true] rfl (subR rfl)
  refine Tn (Fs (Fs (Fg (lv S (Rm (S.tm rfl)) rfl ?_))));clear S;intro a S
  refine lv S (rn_not (S.tm rfl)) rfl ?_;clear S;intro a S
  refine Ld (Tn (f_cond (S.tm rfl) (fun hb2 => ?_) (fun hb2 => ?_)))
  ·replace h := iteT h hb2
   refine Fs (Fg (lv S (Rm (S.tm rfl)) rfl ?_));clear S;intro a S
   refine lv S (Ra rfl) rfl ?_;clear S;intro a S
   refine lv S (Ra (S.tm rfl)) rfl ?_;clear S;intro a S
   refine lv S (Ra rfl) rfl ?_;clear S;intro a S
   refine Ld (Tn (wp_ret (then_r ?_)))
   obtain rfl := Option.some.inj h
   exact f_ret3 S Tryz.results11 rfl rfl rfl ⟨_, rfl, (ownV_nil _ _ _)⟩
  ·replace h := iteF h hb2
   refine wp_skip (Tn (Fs (Fs (Fg (lv S (rn_load Tryz.isAgg26 (S.tm rfl) (S.cell (i := 0) rfl rfl)) rfl ?_)))));clear S;intro a S
   obtain ⟨r2, hr2, h⟩ := bindE h
   refine l_enter S (fun _ => run_call (vs := [v2]) ⟨(S.tm rfl), trivial⟩ Tryz.call8) (tumbref2_DeedsFault_ok _ v2 r1.2.2 (own_slcT GDeed.enc_ok S (i := 1) rfl (ne_nil (e' := .own v2 39 11 r1.2.2.length (r1.2.2.flatMap GDeed.enc)))) _ hr2) rfl ?_;clear S;intro v3 a w3 hv2 hk3 hn2 S
   subst hv2
   refine lv S (Ra (S.tm rfl)) rfl ?_;clear S;intro a S
   refine Ld (Tn (Fs (Fg (lv S (Rm (S.tm rfl)) rfl ?_))));clear S;intro a S
   refine lv S (rn_neq (S.tm rfl) rfl) rfl ?_;clear S;intro a S
   refine Ld (Tn (f_cond (S.tm rfl) (fun hb3 => ?_) (fun hb3 => ?_)))
   ·replace h := iteT h hb3
    refine Fs (Fg (lv S (Rm (S.tm rfl)) rfl ?_));clear S;intro a S
    refine lv S (Ra rfl) rfl ?_;clear S;intro a S
    refine lv S (Ra rfl) rfl ?_;clear S;intro a S
    refine lv S (Ra (S.tm rfl)) rfl ?_;clear S;intro a S
    refine Ld (Tn (wp_ret (then_r ?_)))
    obtain rfl := Option.some.inj h
    exact f_ret3 S Tryz.results11 rfl rfl rfl ⟨_, rfl, (ownV_nil _ _ _)⟩
   ·replace h := iteF h hb3
    refine wp_skip (Tn (Fs (Fg (lv S (rn_load Tryz.isAgg26 (S.tm rfl) (S.cell (i := 0) rfl rfl)) rfl ?_))));clear S;intro a S
    refine lv S (Ra (S.tm rfl)) rfl ?_;clear S;intro a S
    refine lv S (Ra rfl) rfl ?_;clear S;intro a S
    refine lv S (Ra rfl) rfl ?_;clear S;intro a S
    refine Ld (Tn (wp_ret ?_))
    obtain rfl := Option.some.inj h
    exact f_ret3 S Tryz.results11 rfl rfl rfl ⟨_, rfl, (own_retT S (i := 1) rfl rfl)⟩
set_option maxRecDepth 20000 in
theorem slices_Equal_Deed_ok (w : World) (Cr : Value) (Ct : List GDeed) (Da : Slc (view w []) 11 Cr (Ct.map GDeed.enc)) (Cs : Value) (Db : List GDeed) (Dh : Slc (view w []) 11 Cs (Db.map GDeed.enc)) (r : Bool) (h : slices_Equal_Deed Ct Db = some r) :
    Calls Tryz.prog 12 [Cr, Cs].toArray w (Ret w [] fun _ v _ => v = bV r) := by
 refine f_enter [] [] Tryz.func12 rfl Tryz.ntmps12 rfl (by simp) (by simp [fps]) (by simp [fps]) fun a S => ?_
 unfold slices_Equal_Deed at h
 replace S := S.nk [] [(0, Cr), (1, Cs)] [] rfl (subR rfl)
 refine Fs (Fg (lv S (Ra rfl) rfl ?_));clear S;intro a S
 refine Ld (Tn (Fs (Fs (Fg (lv S (Rm (S.tm rfl)) rfl ?_)))));clear S;intro a S
 refine lv S (rn_lenT sl_26 (S.tm rfl) (slc_len Da)) rfl ?_;clear S;intro a S
 refine lv S (Rm (S.tm rfl)) rfl ?_;clear S;intro a S
 refine lv S (rn_lenT sl_26 (S.tm rfl) (slc_len Dh)) rfl ?_;clear S;intro a S
 refine lv S (rn_neq (S.tm rfl) (S.tm rfl)) rfl ?_;clear S;intro a S
 refine Ld (Tn (f_cond (S.tm rfl) (fun hb1 => ?_) (fun hb1 => ?_)))
 ·replace h := iteT h hb1
  refine Fs (Fg (lv S (Ra rfl) rfl ?_));clear S;intro a S
  refine Ld (Tn (wp_ret (then_r ?_)))
  obtain rfl := Option.some.inj h
  exact f_ret S Tryz.results12 rfl rfl
 ·replace h := iteF h hb1
  refine wp_skip (Tn (Fs (Fs (Fg (lv S (Rm (S.tm rfl)) rfl ?_)))));clear S;intro a S
  refine lv S (rn_lenT sl_26 (S.tm rfl) (slc_len Da)) rfl ?_;clear S;intro a S
  refine lv S (Rm rfl) rfl ?_;clear S;intro a S
  refine Ld (Tn ?_)
  replace S := S.nk [] [(0, Cr), (1, Cs), (12, iV (Ct.length : Int)), (13, iV 0)] [] rfl (subR rfl)
  obtain ⟨j1, hj1, h⟩ := joinE h
  refine f_join (fun a w' => j1 = some r ∧ Sx w [] nov [] [] 26 a w') ?_ ?_
  ·refine wp_block (f_loop (fun (ys1 : List GDeed) a w' => ∃ i1 : Nat, (∃ dn, Ct = dn ++ ys1 ∧ dn.length = i1) ∧ slices_Equal_Deed_l1 Db j1 ys1 i1 = some r ∧ Sx w [] nov [] [(0, Cr), (1, Cs), (12, iV (Ct.length : Int)), (13, iV (i1 : Int))] 26 a w') List.length Ct ⟨0, ⟨[], rfl, rfl⟩, h, S.nf [] rfl (subR rfl)⟩ ?_)
   clear S h;rintro ys1 a w1 ⟨i1, ⟨dn, hd1, hi1⟩, h, S⟩
   cases ys1 with
   | nil =>
    rw [slices_Equal_Deed_l1.eq_1] at h
    refine Fs (Fg (lv S (rn_lss (S.tm rfl) (S.tm rfl)) rfl ?_));clear S;intro a S
    refine Ld ?_
    replace S := S.nk [] [(0, Cr), (1, Cs), (12, iV (Ct.length : Int)), (13, iV (i1 : Int)), (14, bV (decide ((i1 : Int) < (Ct.length : Int))))] [] rfl (subR rfl)
    refine Tn (Fs (wp_cond_false ((S.tm rfl).trans (congrArg Value.bool (rng_nil hd1 hi1))) (wp_exit (then_x (then_x (x_same ?_))))))
    refine Tn ?_
    exact ⟨h, S.nf [] rfl trivial⟩
   | cons y1 ys1 =>
    rw [slices_Equal_Deed_l1.eq_2] at h
    refine Fs (Fg (lv S (rn_lss (S.tm rfl) (S.tm rfl)) rfl ?_));clear S;intro a S
    refine Ld ?_
    replace S := S.nk [] [(0, Cr), (1, Cs), (12, iV (Ct.length : Int)), (13, iV (i1 : Int)), (14, bV (decide ((i1 : Int) < (Ct.length : Int))))] [] rfl (subR rfl)
    refine Tn (Fs (wp_cond_true ((S.tm rfl).trans (congrArg Value.bool (rng_cons hd1 hi1))) (wp_skip (Tn (Fs (wp_block ?_))))))
    refine Fs (Fg (lv S (Rm (S.tm rfl)) rfl ?_));clear S;intro a S
    refine lv S (Ra (S.tm rfl)) rfl ?_;clear S;intro a S
    refine Ld (Tn (Fs (d_region [] ([]) Tryz.mixed S rfl (by kernel_rfl) ?_)));clear S;intro w3 hk1 hsel S
    refine d_rest [0, 1, 2, 3, 4, 5, 6, 7, 8] hsel (by kernel_rfl) rfl ?_
    clear hsel
    refine s_lv S rfl (Rm (S.tm rfl)) rfl ?_;clear S;intro a S
    refine s_lv S rfl (Rm (S.tm rfl)) rfl ?_;clear S;intro a S
    obtain ⟨b1, o1, hm1, hr1⟩ := rn_indexT (a := a) (x := .tmp 16) (y := .tmp 17) (ty := 0) sl_26 Da (get_mid hd1 hi1) rfl (S.tm rfl) (S.tm rfl)
    refine s_lv S rfl (hr1 _) rfl ?_;clear S;intro a S
    clear hr1
    refine s_lv S rfl (rn_ldA Tryz.isAgg39 Tryz.sizeOf39 (off := o1) (o := 0) (part := (GDeed.enc y1)) rfl rfl (S.tm rfl) (hm1.at S.emb0)) rfl ?_;clear S;intro a S
    refine s_lv S rfl (Rm (S.tm rfl)) rfl ?_;clear S;intro a S
    refine s_lv S rfl (Rm (S.tm rfl)) rfl ?_;clear S;intro a S
    obtain ⟨hc1, h⟩ := chkE h
    obtain ⟨b2, o2, hm2, hr2⟩ := rn_indexT (a := a) (x := .tmp 20) (y := .tmp 21) (ty := 0) sl_26 Dh (inB_get hc1).1 (inB_get hc1).2 (S.tm rfl) (S.tm rfl)
    refine s_lv S rfl (hr2 _) rfl ?_;clear S;intro a S
    clear hr2
    refine s_lv S rfl (rn_ldA Tryz.isAgg39 Tryz.sizeOf39 (off := o2) (o := 0) (part := (GDeed.enc (nth Db (i1 : Int)))) rfl rfl (S.tm rfl) (hm2.at S.emb0)) rfl ?_;clear S;intro a S
    refine s_lv S rfl (rn_neq_39 (m := y1) (n := (nth Db (i1 : Int))) (S.tm rfl) (S.tm rfl)) rfl ?_;clear S;intro a S
    refine s_done ?_
    replace S := S.nk [] [(0, Cr), (1, Cs), (12, iV (Ct.length : Int)), (13, iV (i1 : Int)), (24, bV (!decide (y1 = (nth Db (i1 : Int)))))] [] rfl (subR rfl)
    refine Tn (f_cond (S.tm rfl) (fun hb2 => ?_) (fun hb2 => ?_))
    ·replace h := iteT h hb2
     refine Fs (Fg (lv S (Ra rfl) rfl ?_));clear S;intro a S
     refine Ld (Tn (wp_ret (blk_r (then_r (then_r (blk_r ?_))))))
     refine then_r (then_r ?_)
     obtain rfl := Option.some.inj h
     exact f_ret S Tryz.results12 rfl rfl
    ·replace h := iteF h hb2
     refine wp_skip (blk_n (Tn (Fg (lv S (rn_add (S.tm rfl) rfl) rfl ?_))));clear S;intro a S
     refine lv S (Rm (S.tm rfl)) rfl ?_;clear S;intro a S
     refine Ld (Tn ?_)
     exact ⟨ys1, ⟨i1 + 1, ⟨_, (hd1).trans (List.append_cons _ _ _), by simp [hi1]⟩, h, S.nf [] rfl ⟨rfl, rfl, rfl, (congrArg (fun z => some (Value.int .i64 z)) (rng_next hd1 hi1 (slc_max Da))), trivial⟩⟩, Nat.lt_succ_self _⟩
  clear S h;rintro a w2 ⟨h, S⟩;rw [hj1] at h;clear hj1 j1
  refine Tn (Fs (Fg (lv S (Ra rfl) rfl ?_)));clear S;intro a S
  refine Ld (Tn (wp_ret ?_))
  obtain rfl := Option.some.inj h
  exact f_ret S Tryz.results12 rfl rfl
theorem timing_CheckRace_ok (w : World) (Ap : GRace) (r : Int) (h : timing_CheckRace Ap = some r) :
    Calls Tryz.prog 144 [.agg (GRace.enc Ap).toArray].toArray w (Ret w [] fun _ v _ => v = iV r) := by
 refine f_enter [] [] Tryz.func144 rfl Tryz.ntmps144 rfl (by simp) (by simp [fps]) (by simp [fps]) fun a S => ?_
 unfold timing_CheckRace at h
 replace S := S.nk [] [(0, .agg (GRace.enc Ap).toArray)] [] rfl ⟨rfl, trivial⟩
 refine Fs (Fg (l_box S (S.tm rfl) (cs := (GRace.enc Ap)) rfl rfl ?_));clear S;intro a w1 b1 hz1 hk1 S
 refine lv S (Ra rfl) rfl ?_;clear S;intro a S
 refine Ld (Tn (Fs (wp_block (Fs (Fg (lv S (rn_fld fa_80_0 (S.tm rfl)) rfl ?_))))));clear S;intro a S
 refine lv S (rn_load Tryz.isAgg9 (S.tm rfl) (S.cell (i := 0) rfl rfl)) rfl ?_;clear S;intro a S
 obtain ⟨r1, hr1, h⟩ := bindE h
 refine l_enter S (fun _ => run_call (vs := [sV Ap.Key]) ⟨(S.tm rfl), trivial⟩ Tryz.call74) (words_IsKey_ok _ Ap.Key _ hr1) rfl ?_;clear S;intro v1 a w2 hv1 hk2 hn1 S
 subst hv1
 refine lv S (rn_not (S.tm rfl)) rfl ?_;clear S;intro a S
 refine lv S (Ra (S.tm rfl)) rfl ?_;clear S;intro a S
 refine Ld (Tn (f_cond (S.tm rfl) (fun hb1 => ?_) (fun hb1 => ?_)))
 ·replace h := iteT h hb1
  refine Fs (Fg (lv S (Ra rfl) rfl ?_));clear S;intro a S
  refine Ld (Tn (wp_ret (blk_r (then_r ?_))))
  obtain rfl := Option.some.inj h
  exact f_ret S Tryz.results144 rfl rfl
 ·replace h := iteF h hb1
  refine Fs (Fg (lv S (rn_fld fa_80_2 (S.tm rfl)) rfl ?_));clear S;intro a S
  refine lv S (rn_load Tryz.isAgg3 (S.tm rfl) (S.cell (i := 0) rfl rfl)) rfl ?_;clear S;intro a S
  refine l_enter S (fun _ => run_call (vs := [iV Ap.Stroke, iV 1, iV 5]) ⟨(S.tm rfl), rfl, rfl, trivial⟩ Tryz.call75) (words_Within_ok _ Ap.Stroke 1 5 _ rfl) rfl ?_;clear S;intro v2 a w3 hv2 hk3 hn2 S
  subst hv2
  refine lv S (rn_not (S.tm rfl)) rfl ?_;clear S;intro a S
  refine lv S (Rm (S.tm rfl)) rfl ?_;clear S;intro a S
  refine f_cutm 5 (fun a w' => Keep [] w3 w' ∧ Sx w [] nov [.blk b1 (GRace.enc Ap) 80] [(1, .pointer (some ⟨b1, 0, none⟩)), (18, bV ((!(words_Within Ap.Stroke 1 5)) || (!(words_Within Ap.Sex 0 2))))] 95 a w') ?_ ?_
  ·rcases Bool.eq_false_or_eq_true (!(words_Within Ap.Stroke 1 5)) with hb2 | hb2
   ·iterate 4 (refine l_skip S rfl rfl rfl (neq_t hb2) rfl ?_ rfl;clear S;intro a S)
    refine lv S (rn_or_t (!(words_Within Ap.Sex 0 2)) hb2 (S.tm rfl) rfl) rfl ?_;clear S;intro a S
    refine Ld (Tn ?_)
    exact ⟨Keep.refl _ _, S.nf [true] rfl (subR rfl)⟩
   ·refine l_want S rfl rfl rfl hb2 (lv S (rn_fld fa_80_5 (S.tm rfl)) rfl ?_);clear S;intro a S
    refine l_want S rfl rfl rfl hb2 (lv S (rn_load Tryz.isAgg3 (S.tm rfl) (S.cell (i := 0) rfl rfl)) rfl ?_);clear S;intro a S
    refine l_want S rfl rfl rfl hb2 (l_enter S (fun _ => run_call (vs := [iV Ap.Sex, iV 0, iV 2]) ⟨(S.tm rfl), rfl, rfl, trivial⟩ Tryz.call75) (words_Within_ok _ Ap.Sex 0 2 _ rfl) rfl ?_);clear S;intro v3 a w5 hv3 hk4 hn3 S
    subst hv3
    refine l_want S rfl rfl rfl hb2 (lv S (rn_not (S.tm rfl)) rfl ?_);clear S;intro a S
    refine lv S (rn_or_f hb2 (S.tm rfl) (S.tm rfl)) rfl ?_;clear S;intro a S
    refine Ld (Tn ?_)
    exact ⟨hk4, S.nf [true] rfl (subR rfl)⟩
  clear S;rintro a w4 ⟨hk5, S⟩
  refine lv S (Ra (S.tm rfl)) rfl ?_;clear S;intro a S
  refine Ld (Tn (f_cond (S.tm rfl) (fun hb3 => ?_) (fun hb3 => ?_)))
  ·replace h := iteT h hb3
   refine Fs (Fg (lv S (Ra rfl) rfl ?_));clear S;intro a S
   refine Ld (Tn (wp_ret (blk_r (then_r ?_))))
   obtain rfl := Option.some.inj h
   exact f_ret S Tryz.results144 rfl rfl
  ·replace h := iteF h hb3
   refine Fs (Fg (lv S (rn_fld fa_80_3 (S.tm rfl)) rfl ?_));clear S;intro a S
   refine lv S (rn_load Tryz.isAgg3 (S.tm rfl) (S.cell (i := 0) rfl rfl)) rfl ?_;clear S;intro a S
   refine lv S (rn_neq (S.tm rfl) rfl) rfl ?_;clear S;intro a S
   refine lv S (Rm (S.tm rfl)) rfl ?_;clear S;intro a S
   refine f_cutm 4 (fun a w' => Keep [] w4 w' ∧ Sx w [] nov [.blk b1 (GRace.enc Ap) 80] [(1, .pointer (some ⟨b1, 0, none⟩)), (27, bV ((!decide (Ap.Course = 25)) && (!decide (Ap.Course = 50))))] 95 a w') ?_ ?_
   ·rcases Bool.eq_false_or_eq_true (!decide (Ap.Course = 25)) with hb4 | hb4
    ·refine l_want S rfl rfl rfl hb4 (lv S (rn_fld fa_80_3 (S.tm rfl)) rfl ?_);clear S;intro a S
     refine l_want S rfl rfl rfl hb4 (lv S (rn_load Tryz.isAgg3 (S.tm rfl) (S.cell (i := 0) rfl rfl)) rfl ?_);clear S;intro a S
     refine l_want S rfl rfl rfl hb4 (lv S (rn_neq (S.tm rfl) rfl) rfl ?_);clear S;intro a S
     refine lv S (rn_and_t hb4 (S.tm rfl) (S.tm rfl)) rfl ?_;clear S;intro a S
     refine Ld (Tn ?_)
     exact ⟨Keep.refl _ _, S.nf [true] rfl (subR rfl)⟩
    ·iterate 3 (refine l_skip S rfl rfl rfl (neq_f hb4) rfl ?_ rfl;clear S;intro a S)
     refine lv S (rn_and_f (!decide (Ap.Course = 50)) hb4 (S.tm rfl) rfl) rfl ?_;clear S;intro a S
     refine Ld (Tn ?_)
     exact ⟨Keep.refl _ _, S.nf [true] rfl (subR rfl)⟩
   clear S;rintro a w6 ⟨hk6, S⟩
   refine lv S (Rm (S.tm rfl)) rfl ?_;clear S;intro a S
   refine f_cutm 5 (fun a w' => Keep [] w6 w' ∧ Sx w [] nov [.blk b1 (GRace.enc Ap) 80] [(1, .pointer (some ⟨b1, 0, none⟩)), (33, bV (((!decide (Ap.Course = 25)) && (!decide (Ap.Course = 50))) || (!(words_Within Ap.Legs 1 4))))] 95 a w') ?_ ?_
   ·rcases Bool.eq_false_or_eq_true ((!decide (Ap.Course = 25)) && (!decide (Ap.Course = 50))) with hb5 | hb5
    ·iterate 4 (refine l_skip S rfl rfl rfl (neq_t hb5) rfl ?_ rfl;clear S;intro a S)
     refine lv S (rn_or_t (!(words_Within Ap.Legs 1 4)) hb5 (S.tm rfl) rfl) rfl ?_;clear S;intro a S
     refine Ld (Tn ?_)
     exact ⟨Keep.refl _ _, S.nf [true] rfl (subR rfl)⟩
    ·refine l_want S rfl rfl rfl hb5 (lv S (rn_fld fa_80_4 (S.tm rfl)) rfl ?_);clear S;intro a S
     refine l_want S rfl rfl rfl hb5 (lv S (rn_load Tryz.isAgg3 (S.tm rfl) (S.cell (i := 0) rfl rfl)) rfl ?_);clear S;intro a S
     refine l_want S rfl rfl rfl hb5 (l_enter S (fun _ => run_call (vs := [iV Ap.Legs, iV 1, iV 4]) ⟨(S.tm rfl), rfl, rfl, trivial⟩ Tryz.call75) (words_Within_ok _ Ap.Legs 1 4 _ rfl) rfl ?_);clear S;intro v4 a w8 hv4 hk7 hn4 S
     subst hv4
     refine l_want S rfl rfl rfl hb5 (lv S (rn_not (S.tm rfl)) rfl ?_);clear S;intro a S
     refine lv S (rn_or_f hb5 (S.tm rfl) (S.tm rfl)) rfl ?_;clear S;intro a S
     refine Ld (Tn ?_)
     exact ⟨hk7, S.nf [true] rfl (subR rfl)⟩
   clear S;rintro a w7 ⟨hk8, S⟩
   refine lv S (Rm (S.tm rfl)) rfl ?_;clear S;intro a S
   refine f_cutm 5 (fun a w' => Keep [] w7 w' ∧ Sx w [] nov [.blk b1 (GRace.enc Ap) 80] [(1, .pointer (some ⟨b1, 0, none⟩)), (39, bV ((((!decide (Ap.Course = 25)) && (!decide (Ap.Course = 50))) || (!(words_Within Ap.Legs 1 4))) || (!(words_Within Ap.Metres 25 1500))))] 95 a w') ?_ ?_
   ·rcases Bool.eq_false_or_eq_true (((!decide (Ap.Course = 25)) && (!decide (Ap.Course = 50))) || (!(words_Within Ap.Legs 1 4))) with hb6 | hb6
    ·iterate 4 (refine l_skip S rfl rfl rfl (neq_t hb6) rfl ?_ rfl;clear S;intro a S)
     refine lv S (rn_or_t (!(words_Within Ap.Metres 25 1500)) hb6 (S.tm rfl) rfl) rfl ?_;clear S;intro a S
     refine Ld (Tn ?_)
     exact ⟨Keep.refl _ _, S.nf [true] rfl (subR rfl)⟩
    ·refine l_want S rfl rfl rfl hb6 (lv S (rn_fld fa_80_1 (S.tm rfl)) rfl ?_);clear S;intro a S
     refine l_want S rfl rfl rfl hb6 (lv S (rn_load Tryz.isAgg3 (S.tm rfl) (S.cell (i := 0) rfl rfl)) rfl ?_);clear S;intro a S
     refine l_want S rfl rfl rfl hb6 (l_enter S (fun _ => run_call (vs := [iV Ap.Metres, iV 25, iV 1500]) ⟨(S.tm rfl), rfl, rfl, trivial⟩ Tryz.call75) (words_Within_ok _ Ap.Metres 25 1500 _ rfl) rfl ?_);clear S;intro v5 a w10 hv5 hk9 hn5 S
     subst hv5
     refine l_want S rfl rfl rfl hb6 (lv S (rn_not (S.tm rfl)) rfl ?_);clear S;intro a S
     refine lv S (rn_or_f hb6 (S.tm rfl) (S.tm rfl)) rfl ?_;clear S;intro a S
     refine Ld (Tn ?_)
     exact ⟨hk9, S.nf [true] rfl (subR rfl)⟩
   clear S;rintro a w9 ⟨hk10, S⟩
   refine lv S (Rm (S.tm rfl)) rfl ?_;clear S;intro a S
   refine f_cutm 4 (fun a w' => Keep [] w9 w' ∧ Sx w [] nov [.blk b1 (GRace.enc Ap) 80] [(1, .pointer (some ⟨b1, 0, none⟩)), (44, bV (((((!decide (Ap.Course = 25)) && (!decide (Ap.Course = 50))) || (!(words_Within Ap.Legs 1 4))) || (!(words_Within Ap.Metres 25 1500))) || (decide (Ap.Young < 0))))] 95 a w') ?_ ?_
   ·rcases Bool.eq_false_or_eq_true ((((!decide (Ap.Course = 25)) && (!decide (Ap.Course = 50))) || (!(words_Within Ap.Legs 1 4))) || (!(words_Within Ap.Metres 25 1500))) with hb7 | hb7
    ·iterate 3 (refine l_skip S rfl rfl rfl (neq_t hb7) rfl ?_ rfl;clear S;intro a S)
     refine lv S (rn_or_t (decide (Ap.Young < 0)) hb7 (S.tm rfl) rfl) rfl ?_;clear S;intro a S
     refine Ld (Tn ?_)
     exact ⟨Keep.refl _ _, S.nf [true] rfl (subR rfl)⟩
    ·refine l_want S rfl rfl rfl hb7 (lv S (rn_fld fa_80_6 (S.tm rfl)) rfl ?_);clear S;intro a S
     refine l_want S rfl rfl rfl hb7 (lv S (rn_load Tryz.isAgg3 (S.tm rfl) (S.cell (i := 0) rfl rfl)) rfl ?_);clear S;intro a S
     refine l_want S rfl rfl rfl hb7 (lv S (rn_lss (S.tm rfl) rfl) rfl ?_);clear S;intro a S
     refine lv S (rn_or_f hb7 (S.tm rfl) (S.tm rfl)) rfl ?_;clear S;intro a S
     refine Ld (Tn ?_)
     exact ⟨Keep.refl _ _, S.nf [true] rfl (subR rfl)⟩
   clear S;rintro a w11 ⟨hk11, S⟩
   refine lv S (Rm (S.tm rfl)) rfl ?_;clear S;intro a S
   refine f_cutm 6 (fun a w' => Keep [] w11 w' ∧ Sx w [] nov [.blk b1 (GRace.enc Ap) 80] [(1, .pointer (some ⟨b1, 0, none⟩)), (51, bV ((((((!decide (Ap.Course = 25)) && (!decide (Ap.Course = 50))) || (!(words_Within Ap.Legs 1 4))) || (!(words_Within Ap.Metres 25 1500))) || (decide (Ap.Young < 0))) || (decide (Ap.Old < Ap.Young))))] 95 a w') ?_ ?_
   ·rcases Bool.eq_false_or_eq_true (((((!decide (Ap.Course = 25)) && (!decide (Ap.Course = 50))) || (!(words_Within Ap.Legs 1 4))) || (!(words_Within Ap.Metres 25 1500))) || (decide (Ap.Young < 0))) with hb8 | hb8
    ·iterate 5 (refine l_skip S rfl rfl rfl (neq_t hb8) rfl ?_ rfl;clear S;intro a S)
     refine lv S (rn_or_t (decide (Ap.Old < Ap.Young)) hb8 (S.tm rfl) rfl) rfl ?_;clear S;intro a S
     refine Ld (Tn ?_)
     exact ⟨Keep.refl _ _, S.nf [true] rfl (subR rfl)⟩
    ·refine l_want S rfl rfl rfl hb8 (lv S (rn_fld fa_80_6 (S.tm rfl)) rfl ?_);clear S;intro a S
     refine l_want S rfl rfl rfl hb8 (lv S (rn_load Tryz.isAgg3 (S.tm rfl) (S.cell (i := 0) rfl rfl)) rfl ?_);clear S;intro a S
     refine l_want S rfl rfl rfl hb8 (lv S (rn_fld fa_80_7 (S.tm rfl)) rfl ?_);clear S;intro a S
     refine l_want S rfl rfl rfl hb8 (lv S (rn_load Tryz.isAgg3 (S.tm rfl) (S.cell (i := 0) rfl rfl)) rfl ?_);clear S;intro a S
     refine l_want S rfl rfl rfl hb8 (lv S (rn_gtr (S.tm rfl) (S.tm rfl)) rfl ?_);clear S;intro a S
     refine lv S (rn_or_f hb8 (S.tm rfl) (S.tm rfl)) rfl ?_;clear S;intro a S
     refine Ld (Tn ?_)
     exact ⟨Keep.refl _ _, S.nf [true] rfl (subR rfl)⟩
   clear S;rintro a w12 ⟨hk12, S⟩
   refine lv S (Rm (S.tm rfl)) rfl ?_;clear S;intro a S
   refine f_cutm 4 (fun a w' => Keep [] w12 w' ∧ Sx w [] nov [.blk b1 (GRace.enc Ap) 80] [(1, .pointer (some ⟨b1, 0, none⟩)), (56, bV (((((((!decide (Ap.Course = 25)) && (!decide (Ap.Course = 50))) || (!(words_Within Ap.Legs 1 4))) || (!(words_Within Ap.Metres 25 1500))) || (decide (Ap.Young < 0))) || (decide (Ap.Old < Ap.Young))) || (decide (120 < Ap.Old))))] 95 a w') ?_ ?_
   ·rcases Bool.eq_false_or_eq_true ((((((!decide (Ap.Course = 25)) && (!decide (Ap.Course = 50))) || (!(words_Within Ap.Legs 1 4))) || (!(words_Within Ap.Metres 25 1500))) || (decide (Ap.Young < 0))) || (decide (Ap.Old < Ap.Young))) with hb9 | hb9
    ·iterate 3 (refine l_skip S rfl rfl rfl (neq_t hb9) rfl ?_ rfl;clear S;intro a S)
     refine lv S (rn_or_t (decide (120 < Ap.Old)) hb9 (S.tm rfl) rfl) rfl ?_;clear S;intro a S
     refine Ld (Tn ?_)
     exact ⟨Keep.refl _ _, S.nf [true] rfl (subR rfl)⟩
    ·refine l_want S rfl rfl rfl hb9 (lv S (rn_fld fa_80_7 (S.tm rfl)) rfl ?_);clear S;intro a S
     refine l_want S rfl rfl rfl hb9 (lv S (rn_load Tryz.isAgg3 (S.tm rfl) (S.cell (i := 0) rfl rfl)) rfl ?_);clear S;intro a S
     refine l_want S rfl rfl rfl hb9 (lv S (rn_gtr (S.tm rfl) rfl) rfl ?_);clear S;intro a S
     refine lv S (rn_or_f hb9 (S.tm rfl) (S.tm rfl)) rfl ?_;clear S;intro a S
     refine Ld (Tn ?_)
     exact ⟨Keep.refl _ _, S.nf [true] rfl (subR rfl)⟩
   clear S;rintro a w13 ⟨hk13, S⟩
   refine lv S (Ra (S.tm rfl)) rfl ?_;clear S;intro a S
   refine Ld (Tn (f_cond (S.tm rfl) (fun hb10 => ?_) (fun hb10 => ?_)))
   ·replace h := iteT h hb10
    refine Fs (Fg (lv S (Ra rfl) rfl ?_));clear S;intro a S
    refine Ld (Tn (wp_ret (blk_r (then_r ?_))))
    obtain rfl := Option.some.inj h
    exact f_ret S Tryz.results144 rfl rfl
   ·replace h := iteF h hb10
    refine Fs (Fg (lv S (rn_fld fa_80_1 (S.tm rfl)) rfl ?_));clear S;intro a S
    refine lv S (rn_load Tryz.isAgg3 (S.tm rfl) (S.cell (i := 0) rfl rfl)) rfl ?_;clear S;intro a S
    refine lv S (rn_fld fa_80_3 (S.tm rfl)) rfl ?_;clear S;intro a S
    refine lv S (rn_load Tryz.isAgg3 (S.tm rfl) (S.cell (i := 0) rfl rfl)) rfl ?_;clear S;intro a S
    obtain ⟨hc1, h⟩ := chkE h
    refine lv S (rn_rem (S.tm rfl) (S.tm rfl) (ne0_of hc1)) rfl ?_;clear S;intro a S
    refine lv S (rn_neq (S.tm rfl) rfl) rfl ?_;clear S;intro a S
    refine lv S (Ra (S.tm rfl)) rfl ?_;clear S;intro a S
    refine Ld (Tn (f_cond (S.tm rfl) (fun hb11 => ?_) (fun hb11 => ?_)))
    ·replace h := iteT h hb11
     refine Fs (Fg (lv S (Ra rfl) rfl ?_));clear S;intro a S
     refine Ld (Tn (wp_ret (blk_r (then_r ?_))))
     obtain rfl := Option.some.inj h
     exact f_ret S Tryz.results144 rfl rfl
    ·replace h := iteF h hb11
     refine Fs (Fs (Fg (lv S (rn_fld fa_80_2 (S.tm rfl)) rfl ?_)));clear S;intro a S
     refine lv S (rn_load Tryz.isAgg3 (S.tm rfl) (S.cell (i := 0) rfl rfl)) rfl ?_;clear S;intro a S
     refine lv S (rn_eql (S.tm rfl) rfl) rfl ?_;clear S;intro a S
     refine lv S (Rm (S.tm rfl)) rfl ?_;clear S;intro a S
     refine f_cutm 4 (fun a w' => Keep [] w13 w' ∧ Sx w [] nov [.blk b1 (GRace.enc Ap) 80] [(1, .pointer (some ⟨b1, 0, none⟩)), (72, bV ((decide (Ap.Stroke = 5)) && (decide (Ap.Legs = 1))))] 95 a w') ?_ ?_
     ·rcases Bool.eq_false_or_eq_true (decide (Ap.Stroke = 5)) with hb12 | hb12
      ·refine l_want S rfl rfl rfl hb12 (lv S (rn_fld fa_80_4 (S.tm rfl)) rfl ?_);clear S;intro a S
       refine l_want S rfl rfl rfl hb12 (lv S (rn_load Tryz.isAgg3 (S.tm rfl) (S.cell (i := 0) rfl rfl)) rfl ?_);clear S;intro a S
       refine l_want S rfl rfl rfl hb12 (lv S (rn_eql (S.tm rfl) rfl) rfl ?_);clear S;intro a S
       refine lv S (rn_and_t hb12 (S.tm rfl) (S.tm rfl)) rfl ?_;clear S;intro a S
       refine Ld (Tn ?_)
       exact ⟨Keep.refl _ _, S.nf [true] rfl (subR rfl)⟩
      ·iterate 3 (refine l_skip S rfl rfl rfl (neq_f hb12) rfl ?_ rfl;clear S;intro a S)
       refine lv S (rn_and_f (decide (Ap.Legs = 1)) hb12 (S.tm rfl) rfl) rfl ?_;clear S;intro a S
       refine Ld (Tn ?_)
       exact ⟨Keep.refl _ _, S.nf [true] rfl (subR rfl)⟩
     clear S;rintro a w14 ⟨hk14, S⟩
     refine lv S (Rm (S.tm rfl)) rfl ?_;clear S;intro a S
     obtain ⟨j1, hj1, h⟩ := joinE h
     refine f_cutm 8 (fun a w' => ∃ c1, j1 c1 = some r ∧ Keep [] w14 w' ∧ Sx w [] nov [.blk b1 (GRace.enc Ap) 80] [(1, .pointer (some ⟨b1, 0, none⟩)), (81, bV c1)] 95 a w') ?_ ?_
     ·rcases Bool.eq_false_or_eq_true ((decide (Ap.Stroke = 5)) && (decide (Ap.Legs = 1))) with hb13 | hb13
      ·replace h := iteT h hb13
       refine l_want S rfl rfl rfl hb13 (lv S (rn_fld fa_80_1 (S.tm rfl)) rfl ?_);clear S;intro a S
       refine l_want S rfl rfl rfl hb13 (lv S (rn_load Tryz.isAgg3 (S.tm rfl) (S.cell (i := 0) rfl rfl)) rfl ?_);clear S;intro a S
       refine l_want S rfl rfl rfl hb13 (lv S (rn_fld fa_80_3 (S.tm rfl)) rfl ?_);clear S;intro a S
       refine l_want S rfl rfl rfl hb13 (lv S (rn_load Tryz.isAgg3 (S.tm rfl) (S.cell (i := 0) rfl rfl)) rfl ?_);clear S;intro a S
       refine l_want S rfl rfl rfl hb13 (lv S (rn_mul rfl (S.tm rfl)) rfl ?_);clear S;intro a S
       refine l_want S rfl rfl rfl hb13 ?_
       obtain ⟨hc2, h⟩ := chkE h
       refine lv S (rn_rem (S.tm rfl) (S.tm rfl) (ne0_of hc2)) rfl ?_;clear S;intro a S
       refine l_want S rfl rfl rfl hb13 (lv S (rn_neq (S.tm rfl) rfl) rfl ?_);clear S;intro a S
       refine lv S (rn_and_t hb13 (S.tm rfl) (S.tm rfl)) rfl ?_;clear S;intro a S
       refine Ld (Tn ?_)
       exact ⟨_, h, Keep.refl _ _, S.nf [true] rfl (subR rfl)⟩
      ·replace h := iteF h hb13
       iterate 7 (refine l_skip S rfl rfl rfl (neq_f hb13) rfl ?_ rfl;clear S;intro a S)
       refine lv S (rn_and_f true hb13 (S.tm rfl) rfl) rfl ?_;clear S;intro a S
       refine Ld (Tn ?_)
       exact ⟨_, h, Keep.refl _ _, S.nf [true] rfl (subR rfl)⟩
     clear S h;rintro a w15 ⟨c1, h, hk15, S⟩;rw [hj1] at h;clear hj1 j1
     refine lv S (Ra (S.tm rfl)) rfl ?_;clear S;intro a S
     refine Ld (Tn ?_)
     obtain ⟨j2, hj2, h⟩ := joinE h
     refine f_join (fun a w' => ∃ x1 : Bool, j2 x1 = some r ∧ Sx w [] nov [.blk b1 (GRace.enc Ap) 80] [(64, bV x1)] 95 a w') ?_ ?_
     ·refine f_cond (S.tm rfl) (fun hb14 => ?_) (fun hb14 => ?_)
      ·replace h := iteT h hb14
       refine wp_skip (Tn ?_)
       exact ⟨c1, h, S.nf [true] rfl ⟨rfl, trivial⟩⟩
      ·replace h := iteF h hb14
       refine Fg (lv S (rn_fld fa_80_2 (S.tm rfl)) rfl ?_);clear S;intro a S
       refine lv S (rn_load Tryz.isAgg3 (S.tm rfl) (S.cell (i := 0) rfl rfl)) rfl ?_;clear S;intro a S
       refine lv S (rn_eql (S.tm rfl) rfl) rfl ?_;clear S;intro a S
       refine lv S (Rm (S.tm rfl)) rfl ?_;clear S;intro a S
       refine f_cutm 4 (fun a w' => Keep [] w15 w' ∧ Sx w [] nov [.blk b1 (GRace.enc Ap) 80] [(1, .pointer (some ⟨b1, 0, none⟩)), (89, bV ((decide (Ap.Stroke = 5)) && (decide (1 < Ap.Legs))))] 95 a w') ?_ ?_
       ·rcases Bool.eq_false_or_eq_true (decide (Ap.Stroke = 5)) with hb15 | hb15
        ·refine l_want S rfl rfl rfl hb15 (lv S (rn_fld fa_80_4 (S.tm rfl)) rfl ?_);clear S;intro a S
         refine l_want S rfl rfl rfl hb15 (lv S (rn_load Tryz.isAgg3 (S.tm rfl) (S.cell (i := 0) rfl rfl)) rfl ?_);clear S;intro a S
         refine l_want S rfl rfl rfl hb15 (lv S (rn_gtr (S.tm rfl) rfl) rfl ?_);clear S;intro a S
         refine lv S (rn_and_t hb15 (S.tm rfl) (S.tm rfl)) rfl ?_;clear S;intro a S
         refine Ld (Tn ?_)
         exact ⟨Keep.refl _ _, S.nf [true] rfl (subR rfl)⟩
        ·iterate 3 (refine l_skip S rfl rfl rfl (neq_f hb15) rfl ?_ rfl;clear S;intro a S)
         refine lv S (rn_and_f (decide (1 < Ap.Legs)) hb15 (S.tm rfl) rfl) rfl ?_;clear S;intro a S
         refine Ld (Tn ?_)
         exact ⟨Keep.refl _ _, S.nf [true] rfl (subR rfl)⟩
       clear S;rintro a w17 ⟨hk16, S⟩
       refine lv S (Rm (S.tm rfl)) rfl ?_;clear S;intro a S
       refine f_cutm 4 (fun a w' => Keep [] w17 w' ∧ Sx w [] nov [.blk b1 (GRace.enc Ap) 80] [(94, bV (((decide (Ap.Stroke = 5)) && (decide (1 < Ap.Legs))) && (!decide (Ap.Legs = 4))))] 95 a w') ?_ ?_
       ·rcases Bool.eq_false_or_eq_true ((decide (Ap.Stroke = 5)) && (decide (1 < Ap.Legs))) with hb16 | hb16
        ·refine l_want S rfl rfl rfl hb16 (lv S (rn_fld fa_80_4 (S.tm rfl)) rfl ?_);clear S;intro a S
         refine l_want S rfl rfl rfl hb16 (lv S (rn_load Tryz.isAgg3 (S.tm rfl) (S.cell (i := 0) rfl rfl)) rfl ?_);clear S;intro a S
         refine l_want S rfl rfl rfl hb16 (lv S (rn_neq (S.tm rfl) rfl) rfl ?_);clear S;intro a S
         refine lv S (rn_and_t hb16 (S.tm rfl) (S.tm rfl)) rfl ?_;clear S;intro a S
         refine Ld (Tn ?_)
         exact ⟨Keep.refl _ _, S.nf [true] rfl ⟨rfl, trivial⟩⟩
        ·iterate 3 (refine l_skip S rfl rfl rfl (neq_f hb16) rfl ?_ rfl;clear S;intro a S)
         refine lv S (rn_and_f (!decide (Ap.Legs = 4)) hb16 (S.tm rfl) rfl) rfl ?_;clear S;intro a S
         refine Ld (Tn ?_)
         exact ⟨Keep.refl _ _, S.nf [true] rfl ⟨rfl, trivial⟩⟩
       clear S;rintro a w18 ⟨hk17, S⟩
       refine lv S (Ra (S.tm rfl)) rfl ?_;clear S;intro a S
       refine Ld (Tn ?_)
       exact ⟨(((decide (Ap.Stroke = 5)) && (decide (1 < Ap.Legs))) && (!decide (Ap.Legs = 4))), h, S.nf [true] rfl ⟨rfl, trivial⟩⟩
     clear S h;rintro a w16 ⟨x1, h, S⟩;rw [hj2] at h;clear hj2 j2
     refine Tn (f_cond (S.tm rfl) (fun hb17 => ?_) (fun hb17 => ?_))
     ·replace h := iteT h hb17
      refine Fs (Fg (lv S (Ra rfl) rfl ?_));clear S;intro a S
      refine Ld (Tn (wp_ret (blk_r (then_r ?_))))
      obtain rfl := Option.some.inj h
      exact f_ret S Tryz.results144 rfl rfl
     ·replace h := iteF h hb17
      refine wp_skip (blk_n (Tn (Fs (Fg (lv S (Ra rfl) rfl ?_)))));clear S;intro a S
      refine Ld (Tn (wp_ret ?_))
      obtain rfl := Option.some.inj h
      exact f_ret S Tryz.results144 rfl rfl
theorem meet_CheckPlan_c1_ok (w : World) (V : GRace) (Aj : Nat) (Al : GRace) (Ck : (view w []) Aj = some (.cells [sV Al.Key, iV Al.Metres, iV Al.Stroke, iV Al.Course, iV Al.Legs, iV Al.Sex, iV Al.Young, iV Al.Old].toArray 80 (0, 0))) (r : Bool) (h : meet_CheckPlan_c1 V Al = r) :
    Calls Tryz.prog 146 [.agg (GRace.enc V).toArray, .pointer (some ⟨Aj, 0, none⟩)].toArray w (Ret w [] fun _ v _ => v = bV r) := by
 refine f_enter [] [] Tryz.func146 rfl Tryz.ntmps146 rfl (by simp) (by simp [fps]) (by simp [fps]) fun a S => ?_
 unfold meet_CheckPlan_c1 at h
 replace S := S.nk [] [(0, .agg (GRace.enc V).toArray), (1, .pointer (some ⟨Aj, 0, none⟩))] [] rfl (subR rfl)
 refine Fs (Fg (l_box S (S.tm rfl) (cs := (GRace.enc V)) rfl rfl ?_));clear S;intro a w1 b1 hz1 hk1 S
 refine lv S (Ra rfl) rfl ?_;clear S;intro a S
 refine Ld (Tn (Fs (Fg (lv S (rn_fld fa_80_0 (S.tm rfl)) rfl ?_))));clear S;intro a S
 refine lv S (rn_load Tryz.isAgg9 (S.tm rfl) (S.cell (i := 0) rfl rfl)) rfl ?_;clear S;intro a S
 refine lv S (rn_fld fa_80_0 (S.tm rfl)) rfl ?_;clear S;intro a S
 refine lv S (rn_ld Tryz.isAgg9 (off := 0) (o := 0) (S.tm rfl) ((mem_blk Ck).at S.emb0) rfl) rfl ?_;clear S;intro a S
 refine lv S (rn_seql (S.tm rfl) (S.tm rfl)) rfl ?_;clear S;intro a S
 refine lv S (Ra (S.tm rfl)) rfl ?_;clear S;intro a S
 refine Ld (Tn (wp_ret ?_))
 subst h
 exact f_ret S Tryz.results146 rfl rfl
theorem slices_IndexFunc_Race_meet_CheckPlan_c1_ok (w : World) (Am : Value) (Ad : List GRace) (By : Slc (view w []) 8 Am (Ad.map GRace.enc)) (Au : Nat) (Av : GRace) (Cc : (view w []) Au = some (.cells [sV Av.Key, iV Av.Metres, iV Av.Stroke, iV Av.Course, iV Av.Legs, iV Av.Sex, iV Av.Young, iV Av.Old].toArray 80 (0, 0))) (r : Int) (h : slices_IndexFunc_Race_meet_CheckPlan_c1 Ad Av = r) :
    Calls Tryz.prog 118 [Am, .func (.func 146) #[] #[.pointer (some ⟨Au, 0, none⟩)]].toArray w (Ret w [] fun _ v _ => v = iV r) := by
 refine f_enter [] [] Tryz.func118 rfl Tryz.ntmps118 rfl (by simp) (by simp [fps]) (by simp [fps]) fun a S => ?_
 unfold slices_IndexFunc_Race_meet_CheckPlan_c1 at h
 replace S := S.nk [] [(0, Am), (1, .func (.func 146) #[] #[.pointer (some ⟨Au, 0, none⟩)])] [] rfl (subR rfl)
 refine Fs (Fg (lv S (Ra rfl) rfl ?_));clear S;intro a S
 refine Ld (Tn (Fs (Fs (Fg (lv S (Rm (S.tm rfl)) rfl ?_)))));clear S;intro a S
 refine lv S (rn_lenT sl_81 (S.tm rfl) (slc_len By)) rfl ?_;clear S;intro a S
 refine lv S (Rm rfl) rfl ?_;clear S;intro a S
 refine Ld (Tn ?_)
 replace S := S.nk [] [(0, Am), (1, .func (.func 146) #[] #[.pointer (some ⟨Au, 0, none⟩)]), (7, iV (Ad.length : Int)), (8, iV 0)] [] rfl (subR rfl)
 obtain ⟨j1, hj1, h⟩ := joinE h
 refine f_join (fun a w' => j1 = r ∧ Sx w [] nov [] [] 19 a w') ?_ ?_
 ·refine wp_block (f_loop (fun (ys1 : List GRace) a w' => ∃ i1 : Nat, (∃ dn, Ad = dn ++ ys1 ∧ dn.length = i1) ∧ slices_IndexFunc_Race_meet_CheckPlan_c1_l1 Av j1 ys1 i1 = r ∧ Sx w [] nov [] [(0, Am), (1, .func (.func 146) #[] #[.pointer (some ⟨Au, 0, none⟩)]), (7, iV (Ad.length : Int)), (8, iV (i1 : Int))] 19 a w') List.length Ad ⟨0, ⟨[], rfl, rfl⟩, h, S.nf [] rfl (subR rfl)⟩ ?_)
  clear S h;rintro ys1 a w1 ⟨i1, ⟨dn, hd1, hi1⟩, h, S⟩
  cases ys1 with
  | nil =>
   rw [slices_IndexFunc_Race_meet_CheckPlan_c1_l1.eq_1] at h
   refine Fs (Fg (lv S (rn_lss (S.tm rfl) (S.tm rfl)) rfl ?_));clear S;intro a S
   refine Ld ?_
   replace S := S.nk [] [(0, Am), (1, .func (.func 146) #[] #[.pointer (some ⟨Au, 0, none⟩)]), (7, iV (Ad.length : Int)), (8, iV (i1 : Int)), (9, bV (decide ((i1 : Int) < (Ad.length : Int))))] [] rfl (subR rfl)
   refine Tn (Fs (wp_cond_false ((S.tm rfl).trans (congrArg Value.bool (rng_nil hd1 hi1))) (wp_exit (then_x (then_x (x_same ?_))))))
   refine Tn ?_
   exact ⟨h, S.nf [] rfl trivial⟩
  | cons y1 ys1 =>
   rw [slices_IndexFunc_Race_meet_CheckPlan_c1_l1.eq_2] at h
   refine Fs (Fg (lv S (rn_lss (S.tm rfl) (S.tm rfl)) rfl ?_));clear S;intro a S
   refine Ld ?_
   replace S := S.nk [] [(0, Am), (1, .func (.func 146) #[] #[.pointer (some ⟨Au, 0, none⟩)]), (7, iV (Ad.length : Int)), (8, iV (i1 : Int)), (9, bV (decide ((i1 : Int) < (Ad.length : Int))))] [] rfl (subR rfl)
   refine Tn (Fs (wp_cond_true ((S.tm rfl).trans (congrArg Value.bool (rng_cons hd1 hi1))) (wp_skip (Tn (Fs (wp_block ?_))))))
   refine Fs (Fg (lv S (Rm (S.tm rfl)) rfl ?_));clear S;intro a S
   refine lv S (Ra (S.tm rfl)) rfl ?_;clear S;intro a S
   refine Ld (Tn (Fs (Fg (lv S (Rm (S.tm rfl)) rfl ?_))));clear S;intro a S
   refine lv S (Rm (S.tm rfl)) rfl ?_;clear S;intro a S
   refine lv S (Rm (S.tm rfl)) rfl ?_;clear S;intro a S
   obtain ⟨b1, o1, hm1, hr1⟩ := rn_indexT (a := a) (x := .tmp 12) (y := .tmp 13) (ty := 0) sl_81 By (get_mid hd1 hi1) rfl (S.tm rfl) (S.tm rfl)
   refine lv S (hr1 _) rfl ?_;clear S;intro a S
   clear hr1
   refine lv S (rn_ldA Tryz.isAgg80 Tryz.sizeOf80 (off := o1) (o := 0) (part := (GRace.enc y1)) rfl rfl (S.tm rfl) (hm1.at S.emb0)) rfl ?_;clear S;intro a S
   refine l_enter S (fun _ => run_callV (cap := [.pointer (some ⟨Au, 0, none⟩)]) (S.tm rfl) (vs := [.agg (GRace.enc y1).toArray]) ⟨(S.tm rfl), trivial⟩ Tryz.call146) (meet_CheckPlan_c1_ok _ y1 Au Av ((S.le_arg nil_sub) _ _ Cc) _ rfl) rfl ?_;clear S;intro v1 a w3 hv1 hk1 hn1 S
   subst hv1
   refine Ld (Tn (f_cond (S.tm rfl) (fun hb1 => ?_) (fun hb1 => ?_)))
   ·replace h := iteT h hb1
    refine Fs (Fg (lv S (Rm (S.tm rfl)) rfl ?_));clear S;intro a S
    refine lv S (Ra (S.tm rfl)) rfl ?_;clear S;intro a S
    refine Ld ?_
    replace S := S.nk [] [(4, iV (i1 : Int))] [] rfl ⟨rfl, trivial⟩
    refine Tn (wp_ret (blk_r (then_r (then_r (blk_r (then_r ?_))))))
    refine then_r ?_
    subst h
    exact f_ret S Tryz.results118 rfl rfl
   ·replace h := iteF h hb1
    refine wp_skip (blk_n (Tn (Fg (lv S (rn_add (S.tm rfl) rfl) rfl ?_))));clear S;intro a S
    refine lv S (Rm (S.tm rfl)) rfl ?_;clear S;intro a S
    refine Ld (Tn ?_)
    exact ⟨ys1, ⟨i1 + 1, ⟨_, (hd1).trans (List.append_cons _ _ _), by simp [hi1]⟩, h, S.nf [] rfl ⟨rfl, rfl, rfl, (congrArg (fun z => some (Value.int .i64 z)) (rng_next hd1 hi1 (slc_max By))), trivial⟩⟩, Nat.lt_succ_self _⟩
 clear S h;rintro a w2 ⟨h, S⟩;rw [hj1] at h;clear hj1 j1
 refine Tn (Fs (Fg (lv S (Ra rfl) rfl ?_)));clear S;intro a S
 refine Ld (Tn (wp_ret ?_))
 subst h
 exact f_ret S Tryz.results118 rfl rfl
theorem slices_ContainsFunc_Race_meet_CheckPlan_c1_ok (w : World) (Am : Value) (Ad : List GRace) (By : Slc (view w []) 8 Am (Ad.map GRace.enc)) (Au : Nat) (Av : GRace) (Cc : (view w []) Au = some (.cells [sV Av.Key, iV Av.Metres, iV Av.Stroke, iV Av.Course, iV Av.Legs, iV Av.Sex, iV Av.Young, iV Av.Old].toArray 80 (0, 0))) (r : Bool) (h : slices_ContainsFunc_Race_meet_CheckPlan_c1 Ad Av = r) :
    Calls Tryz.prog 145 [Am, .func (.func 146) #[] #[.pointer (some ⟨Au, 0, none⟩)]].toArray w (Ret w [] fun _ v _ => v = bV r) := by
 refine f_enter [] [] Tryz.func145 rfl Tryz.ntmps145 rfl (by simp) (by simp [fps]) (by simp [fps]) fun a S => ?_
 unfold slices_ContainsFunc_Race_meet_CheckPlan_c1 at h
 replace S := S.nk [] [(0, Am), (1, .func (.func 146) #[] #[.pointer (some ⟨Au, 0, none⟩)])] [] rfl (subR rfl)
 refine Fs (Fg (lv S (Ra rfl) rfl ?_));clear S;intro a S
 refine Ld (Tn (Fs (Fg (lv S (Rm (S.tm rfl)) rfl ?_))));clear S;intro a S
 refine lv S (Rm (S.tm rfl)) rfl ?_;clear S;intro a S
 refine l_enter S (fun _ => run_call (vs := [Am, .func (.func 146) #[] #[.pointer (some ⟨Au, 0, none⟩)]]) ⟨(S.tm rfl), (S.tm rfl), trivial⟩ Tryz.call118) (slices_IndexFunc_Race_meet_CheckPlan_c1_ok _ Am Ad (By.mono (S.le_arg nil_sub)) Au Av ((S.le_arg nil_sub) _ _ Cc) _ rfl) rfl ?_;clear S;intro v1 a w1 hv1 hk1 hn1 S
 subst hv1
 refine lv S (rn_geq (S.tm rfl) rfl) rfl ?_;clear S;intro a S
 refine lv S (Ra (S.tm rfl)) rfl ?_;clear S;intro a S
 refine Ld (Tn (wp_ret ?_))
 subst h
 exact f_ret S Tryz.results145 rfl rfl
theorem points_CheckTable_ok (w : World) (Bh : GTable) (Dk : R83) (Dl : rel_83 (view w []) Bh Dk) (r : Int) (h : points_CheckTable Bh = some r) :
    Calls Tryz.prog 147 [.agg (R83.enc Dk).toArray].toArray w (Ret w [] fun _ v _ => v = iV r) := by
 obtain ⟨u1, rfl, hs1⟩ := Dl
 refine f_enter [] [] Tryz.func147 rfl Tryz.ntmps147 rfl (by simp) (by simp [fps]) (by simp [fps]) fun a S => ?_
 unfold points_CheckTable at h
 replace S := S.nk [] [(0, .agg #[u1.val, iV Bh.Relay, iV Bh.Most])] [] rfl ⟨rfl, trivial⟩
 refine Fs (Fg (l_box S (S.tm rfl) (cs := [u1.val, iV Bh.Relay, iV Bh.Most]) rfl rfl ?_));clear S;intro a w1 b1 hz1 hk1 S
 refine lv S (Ra rfl) rfl ?_;clear S;intro a S
 refine Ld (Tn (Fs (Fs (Fg (lv S (rn_fld fa_83_0 (S.tm rfl)) rfl ?_)))));clear S;intro a S
 refine lv S (rn_load Tryz.isAgg22 (S.tm rfl) (S.cell (i := 0) rfl rfl)) rfl ?_;clear S;intro a S
 refine lv S (rn_lenT sl_22 (S.tm rfl) (slc_len hs1)) rfl ?_;clear S;intro a S
 refine lv S (rn_gtr (S.tm rfl) rfl) rfl ?_;clear S;intro a S
 refine Ld (Tn (f_cond (S.tm rfl) (fun hb1 => ?_) (fun hb1 => ?_)))
 ·replace h := iteT h hb1
  refine Fs (Fg (lv S (Ra rfl) rfl ?_));clear S;intro a S
  refine Ld (Tn (wp_ret (then_r ?_)))
  obtain rfl := Option.some.inj h
  exact f_ret S Tryz.results147 rfl rfl
 ·replace h := iteF h hb1
  refine wp_skip (Tn (Fs (Fs (Fg (lv S (rn_fld fa_83_0 (S.tm rfl)) rfl ?_)))));clear S;intro a S
  refine lv S (rn_load Tryz.isAgg22 (S.tm rfl) (S.cell (i := 0) rfl rfl)) rfl ?_;clear S;intro a S
  refine lv S (rn_lenT sl_22 (S.tm rfl) (slc_len hs1)) rfl ?_;clear S;intro a S
  refine lv S (Rm rfl) rfl ?_;clear S;intro a S
  refine Ld (Tn ?_)
  replace S := S.nk [.blk b1 [u1.val, iV Bh.Relay, iV Bh.Most] 83] [(1, .pointer (some ⟨b1, 0, none⟩)), (10, u1.val), (11, iV (Bh.Points.length : Int)), (12, iV 0)] [true] rfl (subR rfl)
  obtain ⟨j1, hj1, h⟩ := joinE h
  refine f_join (fun a w' => j1 = some r ∧ Sx w [] nov [.blk b1 [u1.val, iV Bh.Relay, iV Bh.Most] 83] [(1, .pointer (some ⟨b1, 0, none⟩))] 43 a w') ?_ ?_
  ·refine wp_block (f_loop (fun (ys1 : List Int) a w' => ∃ i1 : Nat, (∃ dn, Bh.Points = dn ++ ys1 ∧ dn.length = i1) ∧ points_CheckTable_l1 Bh j1 ys1 i1 = some r ∧ Sx w [] nov [.blk b1 [u1.val, iV Bh.Relay, iV Bh.Most] 83] [(1, .pointer (some ⟨b1, 0, none⟩)), (10, u1.val), (11, iV (Bh.Points.length : Int)), (12, iV (i1 : Int))] 43 a w') List.length Bh.Points ⟨0, ⟨[], rfl, rfl⟩, h, S.nf [true] rfl (subR rfl)⟩ ?_)
   clear S h;rintro ys1 a w2 ⟨i1, ⟨dn, hd1, hi1⟩, h, S⟩
   cases ys1 with
   | nil =>
    rw [points_CheckTable_l1.eq_1] at h
    refine Fs (Fg (lv S (rn_lss (S.tm rfl) (S.tm rfl)) rfl ?_));clear S;intro a S
    refine Ld ?_
    replace S := S.nk [.blk b1 [u1.val, iV Bh.Relay, iV Bh.Most] 83] [(1, .pointer (some ⟨b1, 0, none⟩)), (10, u1.val), (11, iV (Bh.Points.length : Int)), (12, iV (i1 : Int)), (13, bV (decide ((i1 : Int) < (Bh.Points.length : Int))))] [true] rfl (subR rfl)
    refine Tn (Fs (wp_cond_false ((S.tm rfl).trans (congrArg Value.bool (rng_nil hd1 hi1))) (wp_exit (then_x (then_x (x_same ?_))))))
    refine Tn ?_
    exact ⟨h, S.nf [true] rfl ⟨rfl, trivial⟩⟩
   | cons y1 ys1 =>
    rw [points_CheckTable_l1.eq_2] at h
    refine Fs (Fg (lv S (rn_lss (S.tm rfl) (S.tm rfl)) rfl ?_));clear S;intro a S
    refine Ld ?_
    replace S := S.nk [.blk b1 [u1.val, iV Bh.Relay, iV Bh.Most] 83] [(1, .pointer (some ⟨b1, 0, none⟩)), (10, u1.val), (11, iV (Bh.Points.length : Int)), (12, iV (i1 : Int)), (13, bV (decide ((i1 : Int) < (Bh.Points.length : Int))))] [true] rfl (subR rfl)
    refine Tn (Fs (wp_cond_true ((S.tm rfl).trans (congrArg Value.bool (rng_cons hd1 hi1))) (wp_skip (Tn (Fs (wp_block ?_))))))
    refine Fs (Fg (lv S (Rm (S.tm rfl)) rfl ?_));clear S;intro a S
    obtain ⟨b2, o1, hm1, hr1⟩ := rn_indexT (a := a) (x := .tmp 10) (y := .tmp 12) (ty := 0) sl_22 hs1 (get_mid hd1 hi1) rfl (S.tm rfl) (S.tm rfl)
    refine lv S (hr1 _) rfl ?_;clear S;intro a S
    clear hr1
    refine lv S (rn_ld Tryz.isAgg3 (off := o1) (o := 0) (S.tm rfl) (hm1.at S.emb0) rfl) rfl ?_;clear S;intro a S
    refine lv S (Ra (S.tm rfl)) rfl ?_;clear S;intro a S
    refine lv S (Ra (S.tm rfl)) rfl ?_;clear S;intro a S
    refine Ld (Tn (Fs (Fs (Fg (lv S (Rm (S.tm rfl)) rfl ?_)))));clear S;intro a S
    refine l_enter S (fun _ => run_call (vs := [iV y1, iV 0, iV 10000]) ⟨(S.tm rfl), rfl, rfl, trivial⟩ Tryz.call75) (words_Within_ok _ y1 0 10000 _ rfl) rfl ?_;clear S;intro v1 a w4 hv1 hk2 hn1 S
    subst hv1
    refine lv S (rn_not (S.tm rfl)) rfl ?_;clear S;intro a S
    refine Ld (Tn (f_cond (S.tm rfl) (fun hb2 => ?_) (fun hb2 => ?_)))
    ·replace h := iteT h hb2
     refine Fs (Fg (lv S (Ra rfl) rfl ?_));clear S;intro a S
     refine Ld (Tn (wp_ret (then_r (blk_r (then_r (then_r ?_))))))
     refine blk_r (then_r (then_r ?_))
     obtain rfl := Option.some.inj h
     exact f_ret S Tryz.results147 rfl rfl
    ·replace h := iteF h hb2
     refine wp_skip (Tn (Fs (Fg (lv S (Rm (S.tm rfl)) rfl ?_))));clear S;intro a S
     refine lv S (rn_gtr (S.tm rfl) rfl) rfl ?_;clear S;intro a S
     refine lv S (Rm (S.tm rfl)) rfl ?_;clear S;intro a S
     obtain ⟨j2, hj2, h⟩ := joinE h
     refine f_cutm 9 (fun a w' => ∃ c1, j2 c1 = some r ∧ Keep [] w4 w' ∧ Sx w [] nov [.blk b1 [u1.val, iV Bh.Relay, iV Bh.Most] 83] [(1, .pointer (some ⟨b1, 0, none⟩)), (10, u1.val), (11, iV (Bh.Points.length : Int)), (12, iV (i1 : Int)), (31, bV c1)] 43 a w') ?_ ?_
     ·rcases Bool.eq_false_or_eq_true (decide (0 < (i1 : Int))) with hb3 | hb3
      ·replace h := iteT h hb3
       refine l_want S rfl rfl rfl hb3 (lv S (Rm (S.tm rfl)) rfl ?_);clear S;intro a S
       refine l_want S rfl rfl rfl hb3 (lv S (rn_fld fa_83_0 (S.tm rfl)) rfl ?_);clear S;intro a S
       refine l_want S rfl rfl rfl hb3 (lv S (rn_load Tryz.isAgg22 (S.tm rfl) (S.cell (i := 0) rfl rfl)) rfl ?_);clear S;intro a S
       refine l_want S rfl rfl rfl hb3 (lv S (Rm (S.tm rfl)) rfl ?_);clear S;intro a S
       refine l_want S rfl rfl rfl hb3 (lv S (rn_sub (S.tm rfl) rfl) rfl ?_);clear S;intro a S
       refine l_want S rfl rfl rfl hb3 ?_
       obtain ⟨hc1, h⟩ := chkE h
       obtain ⟨b3, o2, hm2, hr2⟩ := rn_indexT (a := a) (x := .tmp 25) (y := .tmp 27) (ty := 0) sl_22 hs1 (inB_get hc1).1 (inB_get hc1).2 (S.tm rfl) (S.tm rfl)
       refine lv S (hr2 _) rfl ?_;clear S;intro a S
       clear hr2
       refine l_want S rfl rfl rfl hb3 (lv S (rn_ld Tryz.isAgg3 (off := o2) (o := 0) (S.tm rfl) (hm2.at S.emb0) rfl) rfl ?_);clear S;intro a S
       refine l_want S rfl rfl rfl hb3 (lv S (rn_gtr (S.tm rfl) (S.tm rfl)) rfl ?_);clear S;intro a S
       refine lv S (rn_and_t hb3 (S.tm rfl) (S.tm rfl)) rfl ?_;clear S;intro a S
       refine Ld (Tn ?_)
       exact ⟨_, h, Keep.refl _ _, S.nf [true] rfl (subR rfl)⟩
      ·replace h := iteF h hb3
       iterate 8 (refine l_skip S rfl rfl rfl (neq_f hb3) rfl ?_ rfl;clear S;intro a S)
       refine lv S (rn_and_f true hb3 (S.tm rfl) rfl) rfl ?_;clear S;intro a S
       refine Ld (Tn ?_)
       exact ⟨_, h, Keep.refl _ _, S.nf [true] rfl (subR rfl)⟩
     clear S h;rintro a w5 ⟨c1, h, hk3, S⟩;rw [hj2] at h;clear hj2 j2
     refine Ld (Tn (f_cond (S.tm rfl) (fun hb4 => ?_) (fun hb4 => ?_)))
     ·replace h := iteT h hb4
      refine Fs (Fg (lv S (Ra rfl) rfl ?_));clear S;intro a S
      refine Ld (Tn (wp_ret (blk_r (then_r (then_r (blk_r ?_))))))
      refine then_r (then_r ?_)
      obtain rfl := Option.some.inj h
      exact f_ret S Tryz.results147 rfl rfl
     ·replace h := iteF h hb4
      refine wp_skip (blk_n (Tn (Fg (lv S (rn_add (S.tm rfl) rfl) rfl ?_))));clear S;intro a S
      refine lv S (Rm (S.tm rfl)) rfl ?_;clear S;intro a S
      refine Ld (Tn ?_)
      exact ⟨ys1, ⟨i1 + 1, ⟨_, (hd1).trans (List.append_cons _ _ _), by simp [hi1]⟩, h, S.nf [true] rfl ⟨rfl, rfl, rfl, (congrArg (fun z => some (Value.int .i64 z)) (rng_next hd1 hi1 (slc_max hs1))), trivial⟩⟩, Nat.lt_succ_self _⟩
  clear S h;rintro a w3 ⟨h, S⟩;rw [hj1] at h;clear hj1 j1
  refine Tn (Fs (Fs (Fg (lv S (rn_fld fa_83_1 (S.tm rfl)) rfl ?_))));clear S;intro a S
  refine lv S (rn_load Tryz.isAgg3 (S.tm rfl) (S.cell (i := 0) rfl rfl)) rfl ?_;clear S;intro a S
  refine l_enter S (fun _ => run_call (vs := [iV Bh.Relay, iV 1, iV 10]) ⟨(S.tm rfl), rfl, rfl, trivial⟩ Tryz.call75) (words_Within_ok _ Bh.Relay 1 10 _ rfl) rfl ?_;clear S;intro v2 a w6 hv2 hk4 hn2 S
  subst hv2
  refine lv S (rn_not (S.tm rfl)) rfl ?_;clear S;intro a S
  refine lv S (Rm (S.tm rfl)) rfl ?_;clear S;intro a S
  refine f_cutm 5 (fun a w' => Keep [] w6 w' ∧ Sx w [] nov [.blk b1 [u1.val, iV Bh.Relay, iV Bh.Most] 83] [(42, bV ((!(words_Within Bh.Relay 1 10)) || (!(words_Within Bh.Most 0 10))))] 43 a w') ?_ ?_
  ·rcases Bool.eq_false_or_eq_true (!(words_Within Bh.Relay 1 10)) with hb5 | hb5
   ·iterate 4 (refine l_skip S rfl rfl rfl (neq_t hb5) rfl ?_ rfl;clear S;intro a S)
    refine lv S (rn_or_t (!(words_Within Bh.Most 0 10)) hb5 (S.tm rfl) rfl) rfl ?_;clear S;intro a S
    refine Ld (Tn ?_)
    exact ⟨Keep.refl _ _, S.nf [true] rfl ⟨rfl, trivial⟩⟩
   ·refine l_want S rfl rfl rfl hb5 (lv S (rn_fld fa_83_2 (S.tm rfl)) rfl ?_);clear S;intro a S
    refine l_want S rfl rfl rfl hb5 (lv S (rn_load Tryz.isAgg3 (S.tm rfl) (S.cell (i := 0) rfl rfl)) rfl ?_);clear S;intro a S
    refine l_want S rfl rfl rfl hb5 (l_enter S (fun _ => run_call (vs := [iV Bh.Most, iV 0, iV 10]) ⟨(S.tm rfl), rfl, rfl, trivial⟩ Tryz.call75) (words_Within_ok _ Bh.Most 0 10 _ rfl) rfl ?_);clear S;intro v3 a w8 hv3 hk5 hn3 S
    subst hv3
    refine l_want S rfl rfl rfl hb5 (lv S (rn_not (S.tm rfl)) rfl ?_);clear S;intro a S
    refine lv S (rn_or_f hb5 (S.tm rfl) (S.tm rfl)) rfl ?_;clear S;intro a S
    refine Ld (Tn ?_)
    exact ⟨hk5, S.nf [true] rfl ⟨rfl, trivial⟩⟩
  clear S;rintro a w7 ⟨hk6, S⟩
  refine Ld (Tn (f_cond (S.tm rfl) (fun hb6 => ?_) (fun hb6 => ?_)))
  ·replace h := iteT h hb6
   refine Fs (Fg (lv S (Ra rfl) rfl ?_));clear S;intro a S
   refine Ld (Tn (wp_ret (then_r ?_)))
   obtain rfl := Option.some.inj h
   exact f_ret S Tryz.results147 rfl rfl
  ·replace h := iteF h hb6
   refine wp_skip (Tn (Fs (Fg (lv S (Ra rfl) rfl ?_))));clear S;intro a S
   refine Ld (Tn (wp_ret ?_))
   obtain rfl := Option.some.inj h
   exact f_ret S Tryz.results147 rfl rfl
theorem heat_CheckFinal_ok (w : World) (Cl : GFinal) (r : Int) (h : heat_CheckFinal Cl = r) :
    Calls Tryz.prog 148 [.agg (GFinal.enc Cl).toArray].toArray w (Ret w [] fun _ v _ => v = iV r) := by
 refine f_enter [] [] Tryz.func148 rfl Tryz.ntmps148 rfl (by simp) (by simp [fps]) (by simp [fps]) fun a S => ?_
 unfold heat_CheckFinal at h
 replace S := S.nk [] [(0, .agg (GFinal.enc Cl).toArray)] [] rfl ⟨rfl, trivial⟩
 refine Fs (Fg (l_box S (S.tm rfl) (cs := (GFinal.enc Cl)) rfl rfl ?_));clear S;intro a w1 b1 hz1 hk1 S
 refine lv S (Ra rfl) rfl ?_;clear S;intro a S
 refine Ld (Tn (Fs (Fs (Fg (lv S (rn_fld fa_85_0 (S.tm rfl)) rfl ?_)))));clear S;intro a S
 refine lv S (rn_load Tryz.isAgg3 (S.tm rfl) (S.cell (i := 0) rfl rfl)) rfl ?_;clear S;intro a S
 refine l_enter S (fun _ => run_call (vs := [iV Cl.Size, iV 1, iV 10]) ⟨(S.tm rfl), rfl, rfl, trivial⟩ Tryz.call75) (words_Within_ok _ Cl.Size 1 10 _ rfl) rfl ?_;clear S;intro v1 a w2 hv1 hk2 hn1 S
 subst hv1
 refine lv S (rn_not (S.tm rfl)) rfl ?_;clear S;intro a S
 refine lv S (Rm (S.tm rfl)) rfl ?_;clear S;intro a S
 refine f_cutm 5 (fun a w' => Keep [] w2 w' ∧ Sx w [] nov [.blk b1 (GFinal.enc Cl) 85] [(1, .pointer (some ⟨b1, 0, none⟩)), (12, bV ((!(words_Within Cl.Size 1 10)) || (!(words_Within Cl.Many 1 5))))] 19 a w') ?_ ?_
 ·rcases Bool.eq_false_or_eq_true (!(words_Within Cl.Size 1 10)) with hb1 | hb1
  ·iterate 4 (refine l_skip S rfl rfl rfl (neq_t hb1) rfl ?_ rfl;clear S;intro a S)
   refine lv S (rn_or_t (!(words_Within Cl.Many 1 5)) hb1 (S.tm rfl) rfl) rfl ?_;clear S;intro a S
   refine Ld (Tn ?_)
   exact ⟨Keep.refl _ _, S.nf [true] rfl (subR rfl)⟩
  ·refine l_want S rfl rfl rfl hb1 (lv S (rn_fld fa_85_1 (S.tm rfl)) rfl ?_);clear S;intro a S
   refine l_want S rfl rfl rfl hb1 (lv S (rn_load Tryz.isAgg3 (S.tm rfl) (S.cell (i := 0) rfl rfl)) rfl ?_);clear S;intro a S
   refine l_want S rfl rfl rfl hb1 (l_enter S (fun _ => run_call (vs := [iV Cl.Many, iV 1, iV 5]) ⟨(S.tm rfl), rfl, rfl, trivial⟩ Tryz.call75) (words_Within_ok _ Cl.Many 1 5 _ rfl) rfl ?_);clear S;intro v2 a w4 hv2 hk3 hn2 S
   subst hv2
   refine l_want S rfl rfl rfl hb1 (lv S (rn_not (S.tm rfl)) rfl ?_);clear S;intro a S
   refine lv S (rn_or_f hb1 (S.tm rfl) (S.tm rfl)) rfl ?_;clear S;intro a S
   refine Ld (Tn ?_)
   exact ⟨hk3, S.nf [true] rfl (subR rfl)⟩
 clear S;rintro a w3 ⟨hk4, S⟩
 refine lv S (Rm (S.tm rfl)) rfl ?_;clear S;intro a S
 refine f_cutm 5 (fun a w' => Keep [] w3 w' ∧ Sx w [] nov [.blk b1 (GFinal.enc Cl) 85] [(18, bV (((!(words_Within Cl.Size 1 10)) || (!(words_Within Cl.Many 1 5))) || (!(words_Within Cl.Reserves 0 10))))] 19 a w') ?_ ?_
 ·rcases Bool.eq_false_or_eq_true ((!(words_Within Cl.Size 1 10)) || (!(words_Within Cl.Many 1 5))) with hb2 | hb2
  ·iterate 4 (refine l_skip S rfl rfl rfl (neq_t hb2) rfl ?_ rfl;clear S;intro a S)
   refine lv S (rn_or_t (!(words_Within Cl.Reserves 0 10)) hb2 (S.tm rfl) rfl) rfl ?_;clear S;intro a S
   refine Ld (Tn ?_)
   exact ⟨Keep.refl _ _, S.nf [true] rfl ⟨rfl, trivial⟩⟩
  ·refine l_want S rfl rfl rfl hb2 (lv S (rn_fld fa_85_2 (S.tm rfl)) rfl ?_);clear S;intro a S
   refine l_want S rfl rfl rfl hb2 (lv S (rn_load Tryz.isAgg3 (S.tm rfl) (S.cell (i := 0) rfl rfl)) rfl ?_);clear S;intro a S
   refine l_want S rfl rfl rfl hb2 (l_enter S (fun _ => run_call (vs := [iV Cl.Reserves, iV 0, iV 10]) ⟨(S.tm rfl), rfl, rfl, trivial⟩ Tryz.call75) (words_Within_ok _ Cl.Reserves 0 10 _ rfl) rfl ?_);clear S;intro v3 a w6 hv3 hk5 hn3 S
   subst hv3
   refine l_want S rfl rfl rfl hb2 (lv S (rn_not (S.tm rfl)) rfl ?_);clear S;intro a S
   refine lv S (rn_or_f hb2 (S.tm rfl) (S.tm rfl)) rfl ?_;clear S;intro a S
   refine Ld (Tn ?_)
   exact ⟨hk5, S.nf [true] rfl ⟨rfl, trivial⟩⟩
 clear S;rintro a w5 ⟨hk6, S⟩
 refine Ld (Tn (f_cond (S.tm rfl) (fun hb3 => ?_) (fun hb3 => ?_)))
 ·replace h := iteT h hb3
  refine Fs (Fg (lv S (Ra rfl) rfl ?_));clear S;intro a S
  refine Ld (Tn (wp_ret (then_r ?_)))
  subst h
  exact f_ret S Tryz.results148 rfl rfl
 ·replace h := iteF h hb3
  refine wp_skip (Tn (Fs (Fg (lv S (Ra rfl) rfl ?_))));clear S;intro a S
  refine Ld (Tn (wp_ret ?_))
  subst h
  exact f_ret S Tryz.results148 rfl rfl
theorem meet_CheckPlan_ok (w : World) (Aa : GPlan) (Ci : R87) (Cp : rel_87 (view w []) Aa Ci) (r : Int) (h : meet_CheckPlan Aa = some r) :
    Calls Tryz.prog 116 [.agg (R87.enc Ci).toArray].toArray w (Ret w [] fun _ v _ => v = iV r) := by
 obtain ⟨u1, u2, rfl, hs1, ⟨u3, rfl, hs2⟩⟩ := Cp
 refine f_enter [] [] Tryz.func116 rfl Tryz.ntmps116 rfl (by simp) (by simp [fps]) (by simp [fps]) fun a S => ?_
 unfold meet_CheckPlan at h
 replace S := S.nk [] [(0, .agg #[u1.val, u3.val, iV Aa.Table.Relay, iV Aa.Table.Most, iV Aa.Final.Size, iV Aa.Final.Many, iV Aa.Final.Reserves])] [] rfl ⟨rfl, trivial⟩
 refine Fs (Fg (l_box S (S.tm rfl) (cs := [u1.val, u3.val, iV Aa.Table.Relay, iV Aa.Table.Most, iV Aa.Final.Size, iV Aa.Final.Many, iV Aa.Final.Reserves]) rfl rfl ?_));clear S;intro a w1 b1 hz1 hk1 S
 refine lv S (Ra rfl) rfl ?_;clear S;intro a S
 refine Ld (Tn (Fs (Fs (Fg (lv S (rn_fld fa_87_0 (S.tm rfl)) rfl ?_)))));clear S;intro a S
 refine lv S (rn_load Tryz.isAgg81 (S.tm rfl) (S.cell (i := 0) rfl rfl)) rfl ?_;clear S;intro a S
 refine lv S (rn_lenT sl_81 (S.tm rfl) (slc_len hs1)) rfl ?_;clear S;intro a S
 refine lv S (rn_gtr (S.tm rfl) rfl) rfl ?_;clear S;intro a S
 refine Ld (Tn (f_cond (S.tm rfl) (fun hb1 => ?_) (fun hb1 => ?_)))
 ·replace h := iteT h hb1
  refine Fs (Fg (lv S (Ra rfl) rfl ?_));clear S;intro a S
  refine Ld (Tn (wp_ret (then_r ?_)))
  obtain rfl := Option.some.inj h
  exact f_ret S Tryz.results116 rfl rfl
 ·replace h := iteF h hb1
  refine wp_skip (Tn (Fs (Fs (Fg (lv S (rn_fld fa_87_0 (S.tm rfl)) rfl ?_)))));clear S;intro a S
  refine lv S (rn_load Tryz.isAgg81 (S.tm rfl) (S.cell (i := 0) rfl rfl)) rfl ?_;clear S;intro a S
  refine lv S (rn_lenT sl_81 (S.tm rfl) (slc_len hs1)) rfl ?_;clear S;intro a S
  refine lv S (Rm rfl) rfl ?_;clear S;intro a S
  refine Ld (Tn ?_)
  replace S := S.nk [.blk b1 [u1.val, u3.val, iV Aa.Table.Relay, iV Aa.Table.Most, iV Aa.Final.Size, iV Aa.Final.Many, iV Aa.Final.Reserves] 87] [(1, .pointer (some ⟨b1, 0, none⟩)), (12, u1.val), (13, iV (Aa.Races.length : Int)), (14, iV 0)] [true] rfl (subR rfl)
  obtain ⟨j1, hj1, h⟩ := joinE h
  refine f_join (fun a w' => j1 = some r ∧ Sx w [] nov [.blk b1 [u1.val, u3.val, iV Aa.Table.Relay, iV Aa.Table.Most, iV Aa.Final.Size, iV Aa.Final.Many, iV Aa.Final.Reserves] 87] [(1, .pointer (some ⟨b1, 0, none⟩))] 40 a w') ?_ ?_
  ·refine wp_block (f_loop (fun (ys1 : List GRace) a w' => ∃ i1 : Nat, (∃ dn, Aa.Races = dn ++ ys1 ∧ dn.length = i1) ∧ meet_CheckPlan_l1 Aa j1 ys1 i1 = some r ∧ Sx w [] nov [.blk b1 [u1.val, u3.val, iV Aa.Table.Relay, iV Aa.Table.Most, iV Aa.Final.Size, iV Aa.Final.Many, iV Aa.Final.Reserves] 87] [(1, .pointer (some ⟨b1, 0, none⟩)), (12, u1.val), (13, iV (Aa.Races.length : Int)), (14, iV (i1 : Int))] 40 a w') List.length Aa.Races ⟨0, ⟨[], rfl, rfl⟩, h, S.nf [true] rfl (subR rfl)⟩ ?_)
   clear S h;rintro ys1 a w2 ⟨i1, ⟨dn, hd1, hi1⟩, h, S⟩
   cases ys1 with
   | nil =>
    rw [meet_CheckPlan_l1.eq_1] at h
    refine Fs (Fg (lv S (rn_lss (S.tm rfl) (S.tm rfl)) rfl ?_));clear S;intro a S
    refine Ld ?_
    replace S := S.nk [.blk b1 [u1.val, u3.val, iV Aa.Table.Relay, iV Aa.Table.Most, iV Aa.Final.Size, iV Aa.Final.Many, iV Aa.Final.Reserves] 87] [(1, .pointer (some ⟨b1, 0, none⟩)), (12, u1.val), (13, iV (Aa.Races.length : Int)), (14, iV (i1 : Int)), (15, bV (decide ((i1 : Int) < (Aa.Races.length : Int))))] [true] rfl (subR rfl)
    refine Tn (Fs (wp_cond_false ((S.tm rfl).trans (congrArg Value.bool (rng_nil hd1 hi1))) (wp_exit (then_x (then_x (x_same ?_))))))
    refine Tn ?_
    exact ⟨h, S.nf [true] rfl ⟨rfl, trivial⟩⟩
   | cons y1 ys1 =>
    rw [meet_CheckPlan_l1.eq_2] at h
    refine Fs (Fg (lv S (rn_lss (S.tm rfl) (S.tm rfl)) rfl ?_));clear S;intro a S
    refine Ld ?_
    replace S := S.nk [.blk b1 [u1.val, u3.val, iV Aa.Table.Relay, iV Aa.Table.Most, iV Aa.Final.Size, iV Aa.Final.Many, iV Aa.Final.Reserves] 87] [(1, .pointer (some ⟨b1, 0, none⟩)), (12, u1.val), (13, iV (Aa.Races.length : Int)), (14, iV (i1 : Int)), (15, bV (decide ((i1 : Int) < (Aa.Races.length : Int))))] [true] rfl (subR rfl)
    refine Tn (Fs (wp_cond_true ((S.tm rfl).trans (congrArg Value.bool (rng_cons hd1 hi1))) (wp_skip (Tn (Fs (wp_block ?_))))))
    refine Fs (Fg (lv S (Rm (S.tm rfl)) rfl ?_));clear S;intro a S
    obtain ⟨b2, o1, hm1, hr1⟩ := rn_indexT (a := a) (x := .tmp 12) (y := .tmp 14) (ty := 0) sl_81 hs1 (get_mid hd1 hi1) rfl (S.tm rfl) (S.tm rfl)
    refine lv S (hr1 _) rfl ?_;clear S;intro a S
    clear hr1
    refine lv S (rn_ldA Tryz.isAgg80 Tryz.sizeOf80 (off := o1) (o := 0) (part := (GRace.enc y1)) rfl rfl (S.tm rfl) (hm1.at S.emb0)) rfl ?_;clear S;intro a S
    refine l_alloc S Tryz.zeroValue80 (cs := [sV k_empty, iV 0, iV 0, iV 0, iV 0, iV 0, iV 0, iV 0]) rfl rfl ?_;clear S;intro a w4 b3 hz2 hk2 S
    refine lv S (Ra (S.tm rfl)) rfl ?_;clear S;intro a S
    refine l_store S (S.tm rfl) (S.tm rfl) (i := 0) (off := 0) rfl Tryz.sizeOf80 (vs := (GRace.enc y1)) rfl rfl rfl rfl ?_;clear S;intro w5 hk3 S
    refine Ld (Tn (Fs (Fs (Fg (lv S (rn_ldA Tryz.isAgg80 Tryz.sizeOf80 (off := 0) (o := 0) (part := (GRace.enc y1)) rfl rfl (S.tm rfl) (S.cellsAt (i := 0) rfl)) rfl ?_)))));clear S;intro a S
    obtain ⟨r1, hr2, h⟩ := bindE h
    refine l_enter S (fun _ => run_call (vs := [.agg (GRace.enc y1).toArray]) ⟨(S.tm rfl), trivial⟩ Tryz.call144) (timing_CheckRace_ok _ y1 _ hr2) rfl ?_;clear S;intro v1 a w6 hv1 hk4 hn1 S
    subst hv1
    refine lv S (Ra (S.tm rfl)) rfl ?_;clear S;intro a S
    refine Ld (Tn (Fs (Fg (lv S (Rm (S.tm rfl)) rfl ?_))));clear S;intro a S
    refine lv S (rn_neq (S.tm rfl) rfl) rfl ?_;clear S;intro a S
    refine Ld ?_
    replace S := S.nk [.blk b3 (GRace.enc y1) 80, .blk b1 [u1.val, u3.val, iV Aa.Table.Relay, iV Aa.Table.Most, iV Aa.Final.Size, iV Aa.Final.Many, iV Aa.Final.Reserves] 87] [(1, .pointer (some ⟨b1, 0, none⟩)), (3, iV (i1 : Int)), (4, .pointer (some ⟨b3, 0, none⟩)), (5, iV r1), (12, u1.val), (13, iV (Aa.Races.length : Int)), (14, iV (i1 : Int)), (22, bV (!decide (r1 = 0)))] [true, true] rfl (subR rfl)
    refine Tn (f_cond (S.tm rfl) (fun hb2 => ?_) (fun hb2 => ?_))
    ·replace h := iteT h hb2
     refine Fs (Fg (lv S (Rm (S.tm rfl)) rfl ?_));clear S;intro a S
     refine lv S (Ra (S.tm rfl)) rfl ?_;clear S;intro a S
     refine Ld (Tn (wp_ret (then_r (blk_r (then_r (then_r ?_))))))
     refine blk_r (then_r (then_r ?_))
     obtain rfl := Option.some.inj h
     exact f_ret S Tryz.results116 rfl rfl
    ·replace h := iteF h hb2
     refine wp_skip (Tn (Fs (Fg (lv S (rn_fld fa_87_0 (S.tm rfl)) rfl ?_))));clear S;intro a S
     refine lv S (rn_load Tryz.isAgg81 (S.tm rfl) (S.cell (i := 1) rfl rfl)) rfl ?_;clear S;intro a S
     refine lv S (Rm (S.tm rfl)) rfl ?_;clear S;intro a S
     obtain ⟨hc1, h⟩ := chkE h
     obtain ⟨v2, hs3, hr3⟩ := rn_cutTh (a := a) (x := .tmp 25) (y' := .tmp 26) (ty := 81) sl_81 hs1 (S.tm rfl) (S.tm rfl) hc1
     refine lv S (hr3 _) rfl ?_;clear S;intro a S
     clear hr3
     refine lv S (rn_makeFunc (us := #[]) (xs := [].toArray) (ys := [.tmp 4].toArray) (by simp) (evA ⟨(S.tm rfl), trivial⟩ (vs := [.pointer (some ⟨b3, 0, none⟩)]))) rfl ?_;clear S;intro a S
     refine l_enter S (fun _ => run_call (vs := [v2, .func (.func 146) #[] #[.pointer (some ⟨b3, 0, none⟩)]]) ⟨(S.tm rfl), (S.tm rfl), trivial⟩ Tryz.call145) (slices_ContainsFunc_Race_meet_CheckPlan_c1_ok _ v2 (cut Aa.Races 0 (i1 : Int)) (hs3.mono (S.le_arg nil_sub)) b3 y1 (S.blk_view (i := 0) rfl ((ne_nil (e' := .blk b3 (GRace.enc y1) 80)) _ rfl)) _ rfl) rfl ?_;clear S;intro v3 a w7 hv2 hk5 hn2 S
     subst hv2
     refine Ld (Tn (f_cond (S.tm rfl) (fun hb3 => ?_) (fun hb3 => ?_)))
     ·replace h := iteT h hb3
      refine Fs (Fg (lv S (Ra rfl) rfl ?_));clear S;intro a S
      refine Ld ?_
      replace S := S.nk [] [(2, iV 6)] [false, false] rfl ⟨rfl, trivial⟩
      refine Tn (wp_ret (blk_r (then_r (then_r (blk_r (then_r ?_))))))
      refine then_r ?_
      obtain rfl := Option.some.inj h
      exact f_ret S Tryz.results116 rfl rfl
     ·replace h := iteF h hb3
      refine wp_skip (blk_n (Tn (Fg (lv S (rn_add (S.tm rfl) rfl) rfl ?_))));clear S;intro a S
      refine lv S (Rm (S.tm rfl)) rfl ?_;clear S;intro a S
      refine Ld ?_
      replace S := S.nk [.blk b1 [u1.val, u3.val, iV Aa.Table.Relay, iV Aa.Table.Most, iV Aa.Final.Size, iV Aa.Final.Many, iV Aa.Final.Reserves] 87] [(1, .pointer (some ⟨b1, 0, none⟩)), (12, u1.val), (13, iV (Aa.Races.length : Int)), (14, iV (W ((i1 : Int) + 1)))] [false, true] rfl (subR rfl)
      refine Tn ?_
      exact ⟨ys1, ⟨i1 + 1, ⟨_, (hd1).trans (List.append_cons _ _ _), by simp [hi1]⟩, h, S.nf [true] rfl ⟨rfl, rfl, rfl, (congrArg (fun z => some (Value.int .i64 z)) (rng_next hd1 hi1 (slc_max hs1))), trivial⟩⟩, Nat.lt_succ_self _⟩
  clear S h;rintro a w3 ⟨h, S⟩;rw [hj1] at h;clear hj1 j1
  refine Tn (Fs (Fs (Fg (lv S (rn_fld fa_87_1 (S.tm rfl)) rfl ?_))));clear S;intro a S
  refine lv S (rn_ldA Tryz.isAgg83 Tryz.sizeOf83 (off := 0) (o := 1) (part := [u3.val, iV Aa.Table.Relay, iV Aa.Table.Most]) rfl rfl (S.tm rfl) (S.cellsAt (i := 0) rfl)) rfl ?_;clear S;intro a S
  obtain ⟨r2, hr4, h⟩ := bindE h
  refine l_enter S (fun _ => run_call (vs := [.agg (R83.enc (R83.mk u3 Aa.Table.Relay Aa.Table.Most)).toArray]) ⟨(S.tm rfl), trivial⟩ Tryz.call147) (points_CheckTable_ok _ Aa.Table (R83.mk u3 Aa.Table.Relay Aa.Table.Most) ⟨u3, rfl, (hs2.mono (S.le_arg nil_sub))⟩ _ hr4) rfl ?_;clear S;intro v4 a w8 hv3 hk6 hn3 S
  subst hv3
  refine lv S (Ra (S.tm rfl)) rfl ?_;clear S;intro a S
  refine Ld (Tn (Fs (Fg (lv S (Rm (S.tm rfl)) rfl ?_))));clear S;intro a S
  refine lv S (rn_neq (S.tm rfl) rfl) rfl ?_;clear S;intro a S
  refine Ld (Tn (f_cond (S.tm rfl) (fun hb4 => ?_) (fun hb4 => ?_)))
  ·replace h := iteT h hb4
   refine Fs (Fg (lv S (Rm (S.tm rfl)) rfl ?_));clear S;intro a S
   refine lv S (Ra (S.tm rfl)) rfl ?_;clear S;intro a S
   refine Ld (Tn (wp_ret (then_r ?_)))
   obtain rfl := Option.some.inj h
   exact f_ret S Tryz.results116 rfl rfl
  ·replace h := iteF h hb4
   refine wp_skip (Tn (Fs (Fg (lv S (rn_fld fa_87_2 (S.tm rfl)) rfl ?_))));clear S;intro a S
   refine lv S (rn_ldA Tryz.isAgg85 Tryz.sizeOf85 (off := 0) (o := 4) (part := (GFinal.enc Aa.Final)) rfl rfl (S.tm rfl) (S.cellsAt (i := 0) rfl)) rfl ?_;clear S;intro a S
   refine l_enter S (fun _ => run_call (vs := [.agg (GFinal.enc Aa.Final).toArray]) ⟨(S.tm rfl), trivial⟩ Tryz.call148) (heat_CheckFinal_ok _ Aa.Final _ rfl) rfl ?_;clear S;intro v5 a w9 hv4 hk7 hn4 S
   subst hv4
   refine lv S (Ra (S.tm rfl)) rfl ?_;clear S;intro a S
   refine Ld (Tn (wp_ret ?_))
   obtain rfl := Option.some.inj h
   exact f_ret S Tryz.results116 rfl rfl
theorem slices_Reverse_int_ok (w : World) (Am : Value) (Ad : List Int) (Dm : (LEnt.own Am 3 1 Ad.length (Ad.flatMap eInt)).holds w) (r : (List Int)) (h : slices_Reverse_int Ad = some r) :
    Calls Tryz.prog 163 [Am].toArray w (Ret w (Am.ownBlock.toList) fun _ v w' => (LEnt.own Am 3 1 r.length (r.flatMap eInt)).holds w' ∧ v = .tuple #[]) := by
 refine f_enter (Am.ownBlock.toList) [.own Am 3 1 Ad.length (Ad.flatMap eInt)] Tryz.func163 rfl Tryz.ntmps163 rfl (fun e he => by simp only [List.mem_singleton] at he;subst he;exact Dm) (fps_one_nodup _) (fps_one_sub _) fun a S => ?_
 unfold slices_Reverse_int at h
 replace S := S.nk [.own Am 3 1 Ad.length (Ad.flatMap eInt)] [(0, Am)] [true] rfl ⟨rfl, trivial⟩
 refine Fs (Fg (lv S (Rm (S.tm rfl)) rfl ?_));clear S;intro a S
 refine lv S (rn_lenT sl_22 (S.tm rfl) (own_len (S.own_at (i := 0) rfl))) rfl ?_;clear S;intro a S
 refine lv S (rn_sub (S.tm rfl) rfl) rfl ?_;clear S;intro a S
 refine lv S (Ra rfl) rfl ?_;clear S;intro a S
 refine lv S (Ra (S.tm rfl)) rfl ?_;clear S;intro a S
 refine Ld (Tn ?_)
 replace S := S.nk [.own Am 3 1 Ad.length (Ad.flatMap eInt)] [(0, Am), (2, iV 0), (3, iV (W ((Ad.length : Int) - 1)))] [true] rfl (subR rfl)
 obtain ⟨j1, hj1, h⟩ := joinE h
 refine f_join (fun a w' => ∃ x1 : List Int, j1 x1 = some r ∧ Sx w (Am.ownBlock.toList) nov [.own Am 3 1 x1.length (x1.flatMap eInt)] [] 28 a w') ?_ ?_
 ·refine wp_block (f_loop (fun (m1 : Nat) a w' => ∃ x1 : List Int, ∃ x2 : Int, ∃ x3 : Int, slices_Reverse_int_l1 j1 m1 x1 x2 x3 = some r ∧ Sx w (Am.ownBlock.toList) nov [.own Am 3 1 x1.length (x1.flatMap eInt)] [(0, Am), (2, iV x2), (3, iV x3)] 28 a w') id (((W ((Ad.length : Int) - 1)) - 0).toNat + 2) ⟨Ad, 0, W ((Ad.length : Int) - 1), h, S.nf [true] rfl (subR rfl)⟩ ?_)
  clear S h;rintro m1 a w1 ⟨x1, x2, x3, h, S⟩
  cases m1 with
  | zero => rw [slices_Reverse_int_l1.eq_1] at h;cases h
  | succ m1 =>
   rw [slices_Reverse_int_l1.eq_2] at h
   refine Fs (Fs (Fg (lv S (Rm (S.tm rfl)) rfl ?_)));clear S;intro a S
   refine lv S (Rm (S.tm rfl)) rfl ?_;clear S;intro a S
   refine lv S (rn_lss (S.tm rfl) (S.tm rfl)) rfl ?_;clear S;intro a S
   refine Ld (Tn (f_cond (S.tm rfl) (fun hb1 => ?_) (fun hb1 => ?_)))
   ·replace h := iteT h hb1
    refine wp_skip (Tn (Fs (wp_block ?_)))
    obtain ⟨hc1, h⟩ := chkE h
    obtain ⟨hc2, h⟩ := chkE h
    obtain ⟨hc3, h⟩ := chkE h
    obtain ⟨hc4, h⟩ := chkE h
    refine d_region [13, 15] ([]) Tryz.mixed S rfl (by kernel_rfl) ?_;clear S;intro w7 hk5 hsel S
    refine d_pure 0 S hsel rfl rfl (by kernel_rfl) (by kernel_rfl) rfl (fun _ => (Rm (S.tm rfl))) ?_;clear S;intro a S
    refine d_pure 1 S hsel rfl rfl (by kernel_rfl) (by kernel_rfl) rfl (fun _ => (Rm (S.tm rfl))) ?_;clear S;intro a S
    refine d_pure 2 S hsel rfl rfl (by kernel_rfl) (by kernel_rfl) rfl (fun _ => (Rm (S.tm rfl))) ?_;clear S;intro a S
    refine d_pure 3 S hsel rfl rfl (by kernel_rfl) (by kernel_rfl) rfl (fun _ => (Rm (S.tm rfl))) ?_;clear S;intro a S
    refine d_pure 4 S hsel rfl rfl (by kernel_rfl) (by kernel_rfl) rfl (fun _ => (Rm (S.tm rfl))) ?_;clear S;intro a S
    refine d_pure 5 S hsel rfl rfl (by kernel_rfl) (by kernel_rfl) rfl (fun _ => (Rm (S.tm rfl))) ?_;clear S;intro a S
    obtain ⟨b5, hg5, hr5⟩ := rn_indexS (a := a) (x := .tmp 18) (y := .tmp 19) (ty := 0) sl_22 enc_int S (i := 0) rfl (inB_get hc1).1 (inB_get hc1).2 (S.tm rfl) (S.tm rfl)
    refine d_pure 6 S hsel rfl rfl (by kernel_rfl) (by kernel_rfl) rfl (fun _ => (hr5 _)) ?_;clear S;intro a S
    clear hr5
    refine d_quiet 7 S hsel rfl (by kernel_rfl) (by kernel_rfl) (by kernel_rfl) (by kernel_rfl) rfl (fun _ hw => (rn_ld Tryz.isAgg3 (off := x3.toNat * 1) (o := 0) (S.tm rfl) ((own_mem enc_int S (i := 0) rfl hg5 (inB_get hc1).1 (ne_nil (e' := .own Am 3 1 x1.length (x1.flatMap eInt)))).kept hw) rfl)) ?_;clear S;intro a S
    refine d_pure 8 S hsel rfl rfl (by kernel_rfl) (by kernel_rfl) rfl (fun _ => (Rm (S.tm rfl))) ?_;clear S;intro a S
    refine d_pure 9 S hsel rfl rfl (by kernel_rfl) (by kernel_rfl) rfl (fun _ => (Rm (S.tm rfl))) ?_;clear S;intro a S
    obtain ⟨b6, hg6, hr6⟩ := rn_indexS (a := a) (x := .tmp 22) (y := .tmp 23) (ty := 0) sl_22 enc_int S (i := 0) rfl (inB_get hc2).1 (inB_get hc2).2 (S.tm rfl) (S.tm rfl)
    refine d_pure 10 S hsel rfl rfl (by kernel_rfl) (by kernel_rfl) rfl (fun _ => (hr6 _)) ?_;clear S;intro a S
    clear hr6
    refine d_quiet 11 S hsel rfl (by kernel_rfl) (by kernel_rfl) (by kernel_rfl) (by kernel_rfl) rfl (fun _ hw => (rn_ld Tryz.isAgg3 (off := x2.toNat * 1) (o := 0) (S.tm rfl) ((own_mem enc_int S (i := 0) rfl hg6 (inB_get hc2).1 (ne_nil (e' := .own Am 3 1 x1.length (x1.flatMap eInt)))).kept hw) rfl)) ?_;clear S;intro a S
    obtain ⟨b7, hg7, hr7⟩ := rn_indexS (a := a) (x := .tmp 14) (y := .tmp 15) (ty := 0) sl_22 enc_int S (i := 0) rfl (inB_get hc3).1 (inB_get hc3).2 (S.tm rfl) (S.tm rfl)
    refine d_pure 12 S hsel rfl rfl (by kernel_rfl) (by kernel_rfl) rfl (fun _ => (hr7 _)) ?_;clear S;intro a S
    clear hr7
    refine d_loudB 13 (Am.ownBlock.toList) rfl (by kernel_rfl) rfl (l_storeO (c := 0) (j := x2.toNat) (nth x1 x3) enc_int S (S.tm rfl) (S.tm rfl) (i := 0) rfl hg7 (inB_get hc3).1 Tryz.sizeOf3 (vs := [iV (nth x1 x3)]) rfl rfl rfl rfl rfl ?_);clear S;intro w9 hk7 S
    refine Ld (d_nextB ?_)
    obtain ⟨b8, hg8, hr8⟩ := rn_indexS (a := a) (x := .tmp 16) (y := .tmp 17) (ty := 0) sl_22 enc_int S (i := 0) rfl (inB_get hc4).1 (inB_get hc4).2 (S.tm rfl) (S.tm rfl)
    refine d_quiet 14 S hsel rfl rfl rfl (by kernel_rfl) (by kernel_rfl) rfl (fun _ hw => (hr8 _)) ?_;clear S;intro a S
    clear hr8
    refine d_loud1 15 (by kernel_rfl) rfl (l_storeO (c := 0) (j := x3.toNat) (nth x1 x2) enc_int S (S.tm rfl) (S.tm rfl) (i := 0) rfl hg8 (inB_get hc4).1 Tryz.sizeOf3 (vs := [iV (nth x1 x2)]) rfl rfl rfl rfl rfl ?_);clear S;intro w11 hk9 S
    refine Ld (d_next hk9 (d_end (by kernel_rfl) ?_))
    clear hsel
    replace S := S.nk [.own Am 3 1 ((x1.set x2.toNat (nth x1 x3)).set x3.toNat (nth x1 x2)).length (((x1.set x2.toNat (nth x1 x3)).set x3.toNat (nth x1 x2)).flatMap eInt)] [(0, Am), (2, iV x2), (3, iV x3)] [true] rfl (subR rfl)
    refine blk_n (Tn (Fg (lv S (Rm (S.tm rfl)) rfl ?_)));clear S;intro a S
    refine lv S (rn_add (S.tm rfl) rfl) rfl ?_;clear S;intro a S
    refine lv S (Rm (S.tm rfl)) rfl ?_;clear S;intro a S
    refine lv S (rn_sub (S.tm rfl) rfl) rfl ?_;clear S;intro a S
    refine lv S (Ra (S.tm rfl)) rfl ?_;clear S;intro a S
    refine lv S (Ra (S.tm rfl)) rfl ?_;clear S;intro a S
    refine Ld (Tn ?_)
    exact ⟨m1, ⟨((x1.set x2.toNat (nth x1 x3)).set x3.toNat (nth x1 x2)), W (x2 + 1), W (x3 - 1), h, S.nf [true] rfl ⟨rfl, rfl, rfl, trivial⟩⟩, Nat.lt_succ_self _⟩
   ·replace h := iteF h hb1
    refine wp_exit (then_x (then_x (x_same (Tn ?_))))
    exact ⟨x1, h, S.nf [true] rfl trivial⟩
 clear S h;rintro a w2 ⟨x1, h, S⟩;rw [hj1] at h;clear hj1 j1
 obtain rfl := Option.some.inj h
 exact f_ret0 S Tryz.results163 ⟨(S.holds _ (List.mem_of_getElem? (i := 0) rfl)), rfl⟩
def bkEnc (xs : List GDeed) (j : Nat) : Array Value := #[iV (j : Int), .agg (GDeed.enc (nth xs (j : Int))).toArray]
theorem back_in (φ ξ : View) (n Bs : Nat) (sv : Value) (xs : List GDeed) (hB : φ Bs = some (.cells [sv].toArray 26 (0, 0))) (hs : Slc ξ 11 sv (xs.map GDeed.enc)) (l : Nat) (J : Nat → World → Prop) (w : World) (hJ : ∀ k w, J k w → Emb φ w ∧ Emb ξ w) (h0 : J 0 w)
    (hr : ∀ k x w1, (revI xs.length)[k]? = some x → J k w1 → YieldAt (WF none) (n - 1) Tryz.prog l (bkEnc xs x) w1 fun e w' => e = .returned (.bool true) ∧ J (k + 1) w') :
    CallsIn (WF none) n Tryz.prog 175 (#[.func (.yield l) #[] #[]] ++ #[.pointer (some ⟨Bs, 0, none⟩)]) w fun e w' => (∃ v, e = .returned v) ∧ J (revI xs.length).length w' := by
  refine i_enter (vs := [.func (.yield l) #[] #[], .pointer (some ⟨Bs, 0, none⟩)]) Tryz.func175 rfl Tryz.ntmps175 rfl fun a S => ?_
  have hlen : (revI xs.length).length = xs.length := by simp [revI]
  have hmx := slc_max hs
  have hQ : ∀ fn a w, ¬ bodyPost Tryz.prog fn (fun e w' => (∃ v, e = .returned v) ∧ J (revI xs.length).length w') .outgrown a w := fun _ _ _ ⟨⟨_, e⟩, _⟩ => by cases e
  have hbox : ∀ {k : Nat} {w : World}, J k w → CellsAt w Bs 0 [sv] := fun hj => (mem_blk hB).at (hJ _ _ hj).1
  have hw : ∀ k : Nat, k ≤ xs.length → W ((xs.length : Int) - 1 - (k : Int)) = (xs.length : Int) - 1 - (k : Int) := fun k hk => W_in (by omega) (by omega)
  refine i_seq (i_region (hQ Tryz.f175) rfl (lv S (rn_ld Tryz.isAgg26 (off := 0) (o := 0) (S.tm rfl) (hbox h0) rfl) rfl ?_));clear S;intro a S
  refine lv S (rn_lenT sl_26 (S.tm rfl) (slc_len hs)) rfl ?_;clear S;intro a S
  refine lv S (rn_sub (S.tm rfl) rfl) rfl ?_;clear S;intro a S
  refine lv S (Ra (S.tm rfl)) rfl ?_;clear S;intro a S
  refine Ld (Tn (wpIn_block (i_loop (fun m a w' => ∃ k : Nat, k ≤ xs.length ∧ m = xs.length - k ∧ J k w' ∧ Sx w' [] nov [] [(0, .func (.yield l) #[] #[]), (1, .pointer (some ⟨Bs, 0, none⟩)), (3, iV ((xs.length : Int) - 1 - (k : Int)))] 19 a w') xs.length ⟨0, Nat.zero_le _, rfl, h0, ?_⟩ ?_)))
  · have h1 := (S.rebase (w' := w)).sub (K' := [(0, .func (.yield l) #[] #[]), (1, .pointer (some ⟨Bs, 0, none⟩)), (3, iV (W ((xs.length : Int) - 1)))]) (subR rfl)
    have h2 := hw 0 (Nat.zero_le _)
    rw [show (((0 : Nat) : Int)) = 0 from rfl, Int.sub_zero] at h2 ⊢
    rw [h2] at h1
    exact h1
  · clear S;rintro m a w1 ⟨k, hk, rfl, hj, S⟩
    refine i_seq (i_seq (i_region (hQ Tryz.f175) rfl (lv S (Rm (S.tm rfl)) rfl ?_)));clear S;intro a S
    refine lv S (rn_geq (S.tm rfl) rfl) rfl ?_;clear S;intro a S
    refine Ld (Tn (i_cond (S.tm rfl) (fun hb => ?_) (fun hb => ?_)))
    · have hb' : (0 : Int) ≤ (xs.length : Int) - 1 - (k : Int) := by simpa using hb
      have hlt : k < xs.length := by omega
      have hx := revI_at hlt
      have hy := hr k _ w1 hx hj
      have hidx : ((xs.length - 1 - k : Nat) : Int) = (xs.length : Int) - 1 - (k : Int) := by omega
      refine wpIn_skip (Tn (i_seq (wpIn_block (i_seq (wpIn_region_lit (n_lv S (Rm (S.tm rfl)) (fun _ h => by cases h) rfl ?_))))));clear S;intro a S
      refine n_lv S (Rm (S.tm rfl)) (fun _ h => by cases h) rfl ?_;clear S;intro a S
      refine n_lv S (rn_ld Tryz.isAgg26 (off := 0) (o := 0) (S.tm rfl) (hbox hj) rfl) (fun _ h => by cases h) rfl ?_;clear S;intro a S
      refine n_lv S (Rm (S.tm rfl)) (fun _ h => by cases h) rfl ?_;clear S;intro a S
      obtain ⟨b1, o1, hm1, hr1⟩ := rn_indexT (a := a) (x := .tmp 13) (y := .tmp 14) (ty := 0) sl_26 hs (nth_q (show xs.length - 1 - k < xs.length by omega)) rfl (S.tm rfl) (S.tm (by rw [hidx];rfl))
      refine n_lv S (hr1 _) (fun _ h => by cases h) rfl ?_;clear S;intro a S
      refine n_lv S (rn_ldA Tryz.isAgg39 Tryz.sizeOf39 (off := o1) (o := 0) (part := (GDeed.enc (nth xs ((xs.length - 1 - k : Nat) : Int)))) rfl rfl (S.tm rfl) (hm1.at (hJ _ _ hj).2)) (fun _ h => by cases h) rfl ?_;clear S;intro a S
      have h12 : a.eval (.tmp 12) = iV (((xs.length - 1 - k : Nat)) : Int) := by rw [hidx];exact S.tm rfl
      have h16 := S.tm (t := 16) rfl
      refine n_yield S (S.tm rfl) (vs := bkEnc xs (xs.length - 1 - k)) (by simp [bkEnc, h12, h16]) rfl hy ?_ (fun e w' h => ⟨_, h.1⟩)
      clear S;rintro v w2 a ⟨hv, hj2⟩ S
      obtain rfl : v = .bool true := by injection hv
      refine n_lv S (rn_not (S.tm rfl)) (fun _ h => by cases h) rfl ?_;clear S;intro a S
      refine n_done (Tn (i_cond (S.tm rfl) (fun h => by cases h) (fun _ => wpIn_skip (blk_n (Tn ?_)))))
      refine i_region (fun a w h => hQ Tryz.f175 a w h) rfl (lv S (Rm (S.tm rfl)) rfl ?_);clear S;intro a S
      refine lv S (rn_sub (S.tm rfl) rfl) rfl ?_;clear S;intro a S
      refine lv S (Ra (S.tm rfl)) rfl ?_;clear S;intro a S
      refine Ld (Tn ⟨xs.length - (k + 1), a, by omega, rfl, k + 1, hlt, rfl, hj2, ?_⟩)
      have h1 := S.sub (K' := [(0, .func (.yield l) #[] #[]), (1, .pointer (some ⟨Bs, 0, none⟩)), (3, iV (W ((xs.length : Int) - 1 - (k : Int) - 1)))]) (subR rfl)
      have h2 := hw (k + 1) hlt
      have h3 : (xs.length : Int) - 1 - ((k + 1 : Nat) : Int) = (xs.length : Int) - 1 - (k : Int) - 1 := by omega
      rw [h3] at h2 ⊢
      rw [h2] at h1
      exact h1
    · have hb' : ¬ (0 : Int) ≤ (xs.length : Int) - 1 - (k : Int) := by simpa using hb
      obtain rfl : k = xs.length := by omega
      refine wpIn_exit (then_x (then_x (x_same ?_)))
      show bodyPost _ _ _ .normal _ _
      rw [addD_nil]
      refine ⟨S.nodefer, .tuple #[], by rw [results_none Tryz.results175], ⟨_, rfl⟩, ?_⟩
      rw [hlen]
      exact hj
theorem back_ok (w : World) (sv : Value) (m : Nat) (hsl : SlcLen sv m) : Calls Tryz.prog 162 [sv].toArray w (Ret w [] fun τ v _ => ∃ Bs, v = .func (.func 175) #[] #[.pointer (some ⟨Bs, 0, none⟩)] ∧ τ Bs = some (.cells [sv].toArray 26 (0, 0))) := by
  refine f_enter [] [] Tryz.func162 rfl Tryz.ntmps162 rfl (by simp) (by simp [fps]) (by simp [fps]) fun a S => (Fs (Fg (l_box S (S.tm rfl) (cs := [sv]) (SlcLen.cells hsl) rfl ?_)));clear S;intro a w1 b1 hz1 hk1 S
  refine lv S (Ra rfl) rfl ?_;clear S;intro a S
  refine Ld (Tn (Fs (Fg (lv S (rn_makeFunc (us := #[]) (vs := #[.pointer (some ⟨b1, 0, none⟩)]) (by simp) (by simp [S.tm (t := 1) rfl])) rfl ?_))));clear S;intro a S
  refine lv S (Ra (S.tm rfl)) rfl ?_;clear S;intro a S
  refine Ld (Tn (wp_ret ?_))
  exact f_ret S Tryz.results162 rfl ⟨b1, rfl, blk_ret S (i := 0) rfl rfl⟩
abbrev kvP : Gmeet_place → Value := fun x => Value.agg (Gmeet_place.enc x).toArray
abbrev cntL (b1 b2 b3 b4 : Nat) (at_ : Int) (m : List (Gmeet_place × Bool)) (x : List Int) (v : Value) : List LEnt :=
  [.own v 3 1 x.length (x.flatMap eInt), .blk b4 [v] 22, .blk b3 [.map (some b2)] 95, .map b2 (ments kvP Value.bool m) m.length, .blk b1 [iV at_] 3]
set_option maxRecDepth 20000 in
theorem meet_counting_ok (w : World) (v_l : Value) (l : List GDeed) (hs_l : Slc (view w []) 11 v_l (l.map GDeed.enc)) (at_ : Int) (r : List Int) (h : meet_counting l at_ = some r) :
    Calls Tryz.prog 149 [v_l, iV at_].toArray w (Ret w [] fun τ v _ => OwnV τ 3 1 v r.length (r.flatMap eInt)) := by
  have hcons : ∀ {dn is : List Nat} {i : Nat} {k : Nat}, revI l.length = dn ++ i :: is → dn.length = k → (revI l.length)[k]? = some i := fun hd hk => by rw [hd, ← hk];simp
  have hQ : ∀ fn a w', ¬ bodyPostM (WF none) 3 Tryz.prog fn (Ret w [] fun τ v _ => OwnV τ 3 1 v r.length (r.flatMap eInt)) .outgrown a w' := fun _ _ _ ⟨_, e, _⟩ => by cases e
  refine i_enterM 3 Tryz.func149 rfl Tryz.ntmps149 rfl fun a S => ?_
  replace S := S.nk [] [(0, v_l), (1, iV at_)] [] rfl (subR rfl)
  refine i_seq (i_region (hQ Tryz.f149) rfl (l_box S (S.tm rfl) (cs := [iV at_]) rfl rfl ?_));clear S;intro a w1 b1 hz1 hk1 S
  refine lv S (Ra rfl) rfl ?_;clear S;intro a S
  refine Ld (Tn (i_seq (i_region (hQ Tryz.f149) rfl (l_makeMap (κ := Gmeet_place) (ν := Bool) S rfl kvP Value.bool ?_))));clear S;intro a w2 b2 hz2 hk2 S
  refine l_alloc S Tryz.zeroValue95 (cs := [.map none]) rfl rfl ?_;clear S;intro a w3 b3 hz3 hk3 S
  refine l_store S (S.tm rfl) (S.tm rfl) (i := 0) (off := 0) rfl Tryz.sizeOf95 (vs := [.map (some b2)]) rfl rfl rfl rfl ?_;clear S;intro w4 hk4 S
  refine Ld (Tn (i_seq (i_region (hQ Tryz.f149) rfl (l_alloc S Tryz.zeroValue22 (cs := [.slice none 0 0]) rfl rfl ?_))));clear S;intro a w5 b4 hz5 hk5 S
  replace S := S.nil 3 1
  refine Ld (Tn (i_seq (i_seq (i_region (hQ Tryz.f149) rfl (lv S (Rm (S.tm rfl)) rfl ?_)))));clear S;intro a S
  have hz6 := S.keep.size
  refine l_enter S (fun _ => run_call (vs := [v_l]) ⟨(S.tm rfl), trivial⟩ Tryz.call162) (back_ok _ v_l _ (slc_len hs_l)) rfl ?_;clear S;intro v1 a w6 hv1 hk6 hn1 S
  obtain ⟨φ1, hl1, hm1, S⟩ := S.see' hn1 hz6
  obtain ⟨Bs, rfl, hB⟩ := hv1
  replace hB := hm1 _ _ hB
  refine Ld (Tn (wpIn_block ?_))
  replace S := S.nk (cntL b1 b2 b3 b4 at_ [] [] (.slice none 0 0)) [(3, .pointer (some ⟨b1, 0, none⟩)), (5, .pointer (some ⟨b3, 0, none⟩)), (6, .pointer (some ⟨b4, 0, none⟩)), (11, .func (.func 175) #[] #[.pointer (some ⟨Bs, 0, none⟩)])] [true, true, true, true, true] rfl (subR rfl)
  rw [addD_nil]
  refine i_range (n := 3) (revI l.length) (bkEnc l) S (S.tm rfl) (fun args w => Tryz.call175 args w) (fun _ => rfl)
    (fun ll J W hJ h0 hr => back_in φ1 (view w []) (3 - 1) Bs v_l l hB hs_l ll J W hJ h0 hr)
    (fun k L' => ∃ m x v, (∃ dn is, revI l.length = dn ++ is ∧ dn.length = k ∧ meet_counting_l1 l at_ is m x = some r) ∧ L' = cntL b1 b2 b3 b4 at_ m x v)
    ⟨[], [], .slice none 0 0, ⟨[], _, rfl, rfl, h⟩, rfl⟩ ?_ ?_
  · clear h
    rintro ll D rec k i L' w7 hst hss hx ⟨m, x, v, ⟨dn, is, hd, hk, h⟩, rfl⟩ S0
    have hact := prms2 a 12 13 (iV (i : Int)) (.agg (GDeed.enc (nth l (i : Int))).toArray) S0.nodefer
    obtain ⟨is', rfl⟩ : ∃ is', is = i :: is' := by
      cases is with
      | nil => rw [hd, List.append_nil, ← hk] at hx;simp at hx
      | cons j is' =>
        have := hcons hd hk
        rw [hx] at this
        exact ⟨is', by rw [Option.some.inj this]⟩
    unfold bkEnc
    rw [hact]
    have S := (S0.put (d := 12) (v := iV (i : Int)) (by decide)).put (d := 13) (v := .agg (GDeed.enc (nth l (i : Int))).toArray) (by decide)
    generalize ((a.put (some 12) (iV (i : Int))).put (some 13) (.agg (GDeed.enc (nth l (i : Int))).toArray)) = a' at S
    refine i_seq (i_region (fun _ _ h => h) rfl (lv S (Ra (S.tm rfl)) rfl ?_));clear S;intro a S
    refine Ld (Tn (i_region (fun _ _ h => h) rfl (l_alloc S Tryz.zeroValue39 (cs := [sV k_empty, iV 0, iV 0, iV 0, sV k_empty, sV k_empty, sV k_empty, iV 0, iV 0, sV k_empty, iV 0]) rfl rfl ?_)));clear S;intro a w8 b5 hz8 hk8 S
    refine l_store S (S.tm rfl) (S.tm rfl) (i := 0) (off := 0) rfl Tryz.sizeOf39 (vs := (GDeed.enc (nth l (i : Int)))) rfl rfl rfl rfl ?_;clear S;intro w9 hk9 S
    refine Ld (Tn (i_begin S (i := 1) rfl (hst _) ?_));clear S;intro w10 S
    rw [hss] at S
    replace S := S.nk (.blk b5 (GDeed.enc (nth l (i : Int))) 39 :: .obj ll (.loop (rec .busy)) :: .obj D (.deferred (some [])) :: cntL b1 b2 b3 b4 at_ m x v) [(3, .pointer (some ⟨b1, 0, none⟩)), (5, .pointer (some ⟨b3, 0, none⟩)), (6, .pointer (some ⟨b4, 0, none⟩)), (7, iV (i : Int)), (8, .pointer (some ⟨b5, 0, none⟩))] [true, true, true, true, true, true, true, true] rfl (subR rfl)
    rw [meet_counting_l1] at h
    refine wpIn_block (i_seq (i_mid (fun b w' => ∃ a, b = addD [] a ∧ Sx w [] φ1 (.blk b5 (GDeed.enc (nth l (i : Int))) 39 :: .obj ll (.loop (rec .busy)) :: .obj D (.deferred (some [])) :: cntL b1 b2 b3 b4 at_ m x v) [(3, .pointer (some ⟨b1, 0, none⟩)), (5, .pointer (some ⟨b3, 0, none⟩)), (6, .pointer (some ⟨b4, 0, none⟩)), (7, iV (i : Int)), (8, .pointer (some ⟨b5, 0, none⟩)), (23, bV (meet_cntQ l at_ i m))] 40 a w') ?_ ?_))
    · rcases Bool.eq_false_or_eq_true (decide (at_ < ((nth l (i : Int)).At))) with hb1 | hb1
      · refine i_d_region [] [] Tryz.mixed rfl S rfl (by kernel_rfl) ?_;clear S;intro w11 hk11 hsel S
        refine d_rest [0, 1, 2, 3, 4, 5, 6, 7, 8, 9] hsel (by kernel_rfl) rfl (s_lv S rfl (rn_fld fa_39_2 (S.tm rfl)) rfl ?_);clear S;intro a S
        refine s_lv S rfl (rn_load Tryz.isAgg3 (S.tm rfl) (S.cell (i := 0) rfl rfl)) rfl ?_;clear S;intro a S
        refine s_lv S rfl (rn_load Tryz.isAgg3 (S.tm rfl) (S.cell (i := 7) rfl rfl)) rfl ?_;clear S;intro a S
        refine s_lv S rfl (rn_gtr (S.tm rfl) (S.tm rfl)) rfl ?_;clear S;intro a S
        refine s_lv S rfl (Rm (S.tm rfl)) rfl ?_;clear S;intro a S
        iterate 4 (refine s_skip S rfl rfl rfl rfl (neq_t hb1) rfl ?_ rfl;clear S;intro a S)
        refine s_lv S rfl (rn_pick_b hb1 (S.tm rfl) rfl) rfl ?_;clear S;intro a S
        refine s_done ?_
        have hq : meet_cntQ l at_ i m = true := by unfold meet_cntQ;rw [hb1];rfl
        refine Tn ⟨a, rfl, ?_⟩
        rw [hq]
        exact S.nk (.blk b5 (GDeed.enc (nth l (i : Int))) 39 :: .obj ll (.loop (rec .busy)) :: .obj D (.deferred (some [])) :: cntL b1 b2 b3 b4 at_ m x v) [(3, .pointer (some ⟨b1, 0, none⟩)), (5, .pointer (some ⟨b3, 0, none⟩)), (6, .pointer (some ⟨b4, 0, none⟩)), (7, iV (i : Int)), (8, .pointer (some ⟨b5, 0, none⟩)), (23, bV true)] [true, true, true, true, true, true, true, true] rfl (subR rfl)
      · refine i_d_region [] [] Tryz.mixed rfl S rfl (by kernel_rfl) ?_;clear S;intro w11 hk11 hsel S
        refine d_quiet 0 S hsel rfl rfl rfl (by kernel_rfl) (by kernel_rfl) rfl (fun _ hw => (rn_fld fa_39_2 (S.tm rfl))) ?_;clear S;intro a S
        refine d_quiet 1 S hsel rfl rfl rfl (by kernel_rfl) (by kernel_rfl) rfl (fun _ hw => (rn_ld Tryz.isAgg3 (off := 0) (o := 2) (S.tm rfl) ((S.blk_mem (i := 0) (cells := (GDeed.enc (nth l (i : Int)))) (b := b5) (T := 39) rfl (ne_nil (e' := .blk b5 (GDeed.enc (nth l (i : Int))) 39))).kept hw) rfl)) ?_;clear S;intro a S
        refine d_quiet 2 S hsel rfl rfl rfl (by kernel_rfl) (by kernel_rfl) rfl (fun _ hw => (rn_ld Tryz.isAgg3 (off := 0) (o := 0) (S.tm rfl) ((S.blk_mem (i := 7) (cells := [iV at_]) (b := b1) (T := 3) rfl (ne_nil (e' := .blk b1 [iV at_] 3))).kept hw) rfl)) ?_;clear S;intro a S
        refine d_quiet 3 S hsel rfl rfl rfl (by kernel_rfl) (by kernel_rfl) rfl (fun _ hw => (rn_gtr (S.tm rfl) (S.tm rfl))) ?_;clear S;intro a S
        refine d_quiet 4 S hsel rfl rfl rfl (by kernel_rfl) (by kernel_rfl) rfl (fun _ hw => (Rm (S.tm rfl))) ?_;clear S;intro a S
        refine d_quiet_g 5 S hsel rfl rfl rfl rfl hb1 rfl rfl (by kernel_rfl) (by kernel_rfl) rfl (fun _ hw => (rn_ld Tryz.isAgg95 (off := 0) (o := 0) (S.tm rfl) ((S.blk_mem (i := 5) (cells := [.map (some b2)]) (b := b3) (T := 95) rfl (ne_nil (e' := .blk b3 [.map (some b2)] 95))).kept hw) rfl)) ?_;clear S;intro a S
        refine d_quiet_g 6 S hsel rfl rfl rfl rfl hb1 rfl rfl (by kernel_rfl) (by kernel_rfl) rfl (fun _ hw => (rn_ldA Tryz.isAgg39 Tryz.sizeOf39 (off := 0) (o := 0) (part := (GDeed.enc (nth l (i : Int)))) rfl rfl (S.tm rfl) ((S.blk_mem (i := 0) (cells := (GDeed.enc (nth l (i : Int)))) (b := b5) (T := 39) rfl (ne_nil (e' := .blk b5 (GDeed.enc (nth l (i : Int))) 39))).kept hw))) ?_;clear S;intro a S
        refine d_loud1 7 (by kernel_rfl) rfl (l_want S rfl rfl rfl hb1 (l_enter S (fun _ => run_call (vs := [.agg (GDeed.enc (nth l (i : Int))).toArray]) ⟨(S.tm rfl), trivial⟩ Tryz.call55) (meet_placeOf_ok _ (nth l (i : Int)) _ rfl) rfl ?_));clear S;intro v3 a w12 hv2 hk9 hn2 S
        subst hv2
        refine Ld (d_next hk9 (d_rest [8, 9] hsel (by kernel_rfl) rfl ?_))
        refine s_want S rfl rfl rfl rfl hb1 (s_lv0 S (rn_lookup (kv := kvP) (vv := Value.bool) (m := m) (key := (meet_placeOf (nth l (i : Int)))) (z := false) (S.map_at (i := 6) rfl) Tryz.underlying95 keyT_97 Tryz.zeroValue4 (S.tm rfl) (S.tm rfl)) rfl ?_);clear S;intro a S
        refine s_lv S rfl (rn_pick_c hb1 (S.tm rfl) (S.tm rfl)) rfl ?_;clear S;intro a S
        refine s_done ?_
        have hq : meet_cntQ l at_ i m = mgetD m (meet_placeOf (nth l (i : Int))) false := by unfold meet_cntQ;rw [hb1];rfl
        refine Tn ⟨a, rfl, ?_⟩
        rw [hq]
        exact S.nk (.blk b5 (GDeed.enc (nth l (i : Int))) 39 :: .obj ll (.loop (rec .busy)) :: .obj D (.deferred (some [])) :: cntL b1 b2 b3 b4 at_ m x v) [(3, .pointer (some ⟨b1, 0, none⟩)), (5, .pointer (some ⟨b3, 0, none⟩)), (6, .pointer (some ⟨b4, 0, none⟩)), (7, iV (i : Int)), (8, .pointer (some ⟨b5, 0, none⟩)), (23, bV (mgetD m (meet_placeOf (nth l (i : Int))) false))] [true, true, true, true, true, true, true, true] rfl (subR rfl)
    · clear S;rintro _ w11 ⟨a, rfl, S⟩
      refine i_cond (S.tm rfl) (fun hb2 => ?_) (fun hb2 => ?_)
      · rw [if_pos hb2] at h
        refine wpIn_exit (then_x (x_same ?_))
        exact ⟨_, ⟨m, x, v, ⟨dn ++ [i], is', by rw [hd];simp, by simp [hk], h⟩, rfl⟩, S0.back (S.nk (.obj ll (.loop (rec .busy)) :: .obj D (.deferred (some [])) :: cntL b1 b2 b3 b4 at_ m x v) [] [false, true, true, true, true, true, true, true] rfl (subR rfl))⟩
      · rw [if_neg (by rw [hb2];simp)] at h
        obtain ⟨hc2, h⟩ := chkE h
        refine wpIn_skip (Tn (i_mid (fun b w' => ∃ a, b = addD [] a ∧ Sx w [] φ1 (.blk b5 (GDeed.enc (nth l (i : Int))) 39 :: .obj ll (.loop (rec .busy)) :: .obj D (.deferred (some [])) :: cntL b1 b2 b3 b4 at_ (if decide ((nth l (i : Int)).Kind = 4) = true then mput m (Gmeet_place.mk ((nth l (i : Int)).Of) ((nth l (i : Int)).Other)) true else m) x v) [(6, .pointer (some ⟨b4, 0, none⟩)), (7, iV (i : Int)), (8, .pointer (some ⟨b5, 0, none⟩))] 40 a w') ?_ ?_))
        · refine i_seq (i_region (fun _ _ h => h) rfl (lv S (rn_fld fa_39_3 (S.tm rfl)) rfl ?_));clear S;intro a S
          refine lv S (rn_load Tryz.isAgg3 (S.tm rfl) (S.cell (i := 0) rfl rfl)) rfl ?_;clear S;intro a S
          refine lv S (rn_eql (S.tm rfl) rfl) rfl ?_;clear S;intro a S
          refine Ld (Tn (i_cond (S.tm rfl) (fun hb3 => ?_) (fun hb3 => ?_)))
          · rw [if_pos hb3]
            refine i_region (fun _ _ h => h) rfl (lv S (rn_load Tryz.isAgg95 (S.tm rfl) (S.cell (i := 5) rfl rfl)) rfl ?_);clear S;intro a S
            refine lv S (rn_fld fa_39_9 (S.tm rfl)) rfl ?_;clear S;intro a S
            refine lv S (rn_load Tryz.isAgg9 (S.tm rfl) (S.cell (i := 0) rfl rfl)) rfl ?_;clear S;intro a S
            refine lv S (rn_fld fa_39_10 (S.tm rfl)) rfl ?_;clear S;intro a S
            refine lv S (rn_load Tryz.isAgg3 (S.tm rfl) (S.cell (i := 0) rfl rfl)) rfl ?_;clear S;intro a S
            refine lv S (rn_bld bt_97 (pv := [(0, sV ((nth l (i : Int)).Of)), (1, iV ((nth l (i : Int)).Other))]) ⟨rfl, (S.tm rfl), rfl, (S.tm rfl), trivial⟩ (cs := [sV ((nth l (i : Int)).Of), iV ((nth l (i : Int)).Other)]) (by kernel_rfl)) rfl ?_;clear S;intro a S
            refine l_mapUpdate (kv := kvP) (vv := Value.bool) (m := m) (key := (Gmeet_place.mk ((nth l (i : Int)).Of) ((nth l (i : Int)).Other))) (val := true) S (i := 6) rfl Tryz.underlying95 keyT_97 (S.tm rfl) (S.tm rfl) rfl ?_;clear S;intro w13 hk10 S
            refine Ld (Tn ⟨a, rfl, ?_⟩)
            exact S.nk (.blk b5 (GDeed.enc (nth l (i : Int))) 39 :: .obj ll (.loop (rec .busy)) :: .obj D (.deferred (some [])) :: cntL b1 b2 b3 b4 at_ (mput m (Gmeet_place.mk ((nth l (i : Int)).Of) ((nth l (i : Int)).Other)) true) x v) [(6, .pointer (some ⟨b4, 0, none⟩)), (7, iV (i : Int)), (8, .pointer (some ⟨b5, 0, none⟩))] [true, true, true, true, true, true, true, true] rfl (subR rfl)
          · rw [if_neg (by rw [hb3];simp)]
            refine wpIn_skip (Tn ⟨a, rfl, ?_⟩)
            exact S.nk (.blk b5 (GDeed.enc (nth l (i : Int))) 39 :: .obj ll (.loop (rec .busy)) :: .obj D (.deferred (some [])) :: cntL b1 b2 b3 b4 at_ m x v) [(6, .pointer (some ⟨b4, 0, none⟩)), (7, iV (i : Int)), (8, .pointer (some ⟨b5, 0, none⟩))] [true, true, true, true, true, true, true, true] rfl (subR rfl)
        · clear S;rintro _ w12 ⟨a, rfl, S⟩
          generalize (if decide ((nth l (i : Int)).Kind = 4) = true then mput m (Gmeet_place.mk ((nth l (i : Int)).Of) ((nth l (i : Int)).Other)) true else m) = m2 at h S
          refine i_region (fun _ _ h => h) rfl (lv S (rn_load Tryz.isAgg22 (S.tm rfl) (S.cell (i := 4) rfl rfl)) rfl ?_);clear S;intro a S
          refine lv S (Rm (S.tm rfl)) rfl ?_;clear S;intro a S
          refine l_buildSlice S Tryz.underlying22 Tryz.sizeOf3 Tryz.zeroValue3 rfl rfl (pv := [(0, iV (i : Int))]) ⟨rfl, (S.tm rfl), trivial⟩ (cs := [iV (i : Int)]) (by kernel_rfl) rfl ?_;clear S;intro a w14 b6 hz5 hk11 S
          refine l_appendT sl_22 enc_int S (S.tm rfl) (i := 4) rfl (S.tm rfl) (j := 0) rfl (ys := [(i : Int)]) rfl rfl rfl rfl (by have := room_lt hc2;omega) rfl ?_;clear S;intro v4 a w15 hk12 S
          refine l_store S (S.tm rfl) (S.tm rfl) (i := 5) (off := 0) rfl Tryz.sizeOf22 (vs := [v4]) (SlcLen.cells (own_len (S.own_at (i := 4) rfl))) rfl rfl (all1 (SlcLen.one (own_len (S.own_at (i := 4) rfl))) rfl) ?_;clear S;intro w16 hk13 S
          refine Ld (blk_n ?_)
          exact ⟨_, ⟨m2, x ++ [(i : Int)], v4, ⟨dn ++ [i], is', by rw [hd];simp, by simp [hk], h⟩, rfl⟩, S0.back (S.nk (.obj ll (.loop (rec .busy)) :: .obj D (.deferred (some [])) :: cntL b1 b2 b3 b4 at_ m2 (x ++ [(i : Int)]) v4) [] [false, false, true, true, true, true, true, true, true] rfl (subR rfl))⟩
  · rintro D ll o L' w7 ⟨m, x, v, ⟨dn, is, hd, hk, h⟩, rfl⟩ S
    obtain rfl : is = [] := by
      have h1 := congrArg List.length hd
      rw [List.length_append] at h1
      exact List.length_eq_zero_iff.1 (by omega)
    rw [meet_counting_l1] at h
    refine blk_n (Tn (i_seq (i_region (hQ Tryz.f149) rfl (lv S (rn_load Tryz.isAgg22 (S.tm rfl) (S.cell (i := 3) rfl rfl)) rfl ?_))));clear S;intro a S
    refine l_enterO 2 S rfl (fun _ => .own v 3 1 r.length (r.flatMap eInt)) (fun _ => run_call (vs := [v]) ⟨(S.tm rfl), trivial⟩ Tryz.call163) (slices_Reverse_int_ok _ v x (S.holds _ (List.mem_of_getElem? (i := 2) rfl)) _ h) rfl (fun _ _ _ h => ⟨h.1, fun _ hc => hc⟩) ?_;clear S;intro v5 a w17 hv3 hk14 hn3 S
    replace hv3 := hv3.2
    subst hv3
    refine Ld (Tn (i_seq (i_region (hQ Tryz.f149) rfl (lv S (rn_load Tryz.isAgg22 (S.tm rfl) (S.cell (i := 3) rfl rfl)) rfl ?_))));clear S;intro a S
    refine lv S (Ra (S.tm rfl)) rfl ?_;clear S;intro a S
    refine Ld (Tn (wpIn_ret ?_))
    exact i_ret S (i := 1) rfl Tryz.results149 rfl (fun w' S => own_retT S (i := 2) rfl rfl)
theorem meet_stateAt_ok (w : World) (ψ : View) (hψ : View.le ψ (view w [])) (Aa : GPlan) (Ci : R87) (Cp : rel_87 ψ Aa Ci) (Ab : Value) (Ac : List GDeed) (Ao : Slc ψ 11 Ab (Ac.map GDeed.enc)) (Bm : Int) (r : (Option Gmeet_state)) (h : meet_stateAt Aa Ac Bm = some r) :
    Calls Tryz.prog 117 [.agg (R87.enc Ci).toArray, Ab, iV Bm].toArray w (Ret w [] fun τ v _ => PtrV (join ψ τ) 148 R148.enc rel_148 v r) := by
 obtain ⟨u1, u2, rfl, hs1, ⟨u3, rfl, hs2⟩⟩ := Cp
 refine f_enter [] [] Tryz.func117 rfl Tryz.ntmps117 rfl (by simp) (by simp [fps]) (by simp [fps]) fun a S => ?_
 unfold meet_stateAt at h
 replace S := S.nk [] [(0, .agg #[u1.val, u3.val, iV Aa.Table.Relay, iV Aa.Table.Most, iV Aa.Final.Size, iV Aa.Final.Many, iV Aa.Final.Reserves]), (1, Ab), (2, iV Bm)] [] rfl (subR rfl)
 refine Fs (Fg (l_box S (S.tm rfl) (cs := [u1.val, u3.val, iV Aa.Table.Relay, iV Aa.Table.Most, iV Aa.Final.Size, iV Aa.Final.Many, iV Aa.Final.Reserves]) rfl rfl ?_));clear S;intro a w1 b1 hz1 hk1 S
 refine lv S (Ra rfl) rfl ?_;clear S;intro a S
 refine Ld (Tn (Fs (Fg (lv S (rn_ldA Tryz.isAgg87 Tryz.sizeOf87 (off := 0) (o := 0) (part := [u1.val, u3.val, iV Aa.Table.Relay, iV Aa.Table.Most, iV Aa.Final.Size, iV Aa.Final.Many, iV Aa.Final.Reserves]) rfl rfl (S.tm rfl) (S.cellsAt (i := 0) rfl)) rfl ?_))));clear S;intro a S
 refine lv S (rn_bld bt_148 (pv := [(0, .agg #[u1.val, u3.val, iV Aa.Table.Relay, iV Aa.Table.Most, iV Aa.Final.Size, iV Aa.Final.Many, iV Aa.Final.Reserves])]) ⟨rfl, (S.tm rfl), trivial⟩ (cs := [u1.val, u3.val, iV Aa.Table.Relay, iV Aa.Table.Most, iV Aa.Final.Size, iV Aa.Final.Many, iV Aa.Final.Reserves, .slice none 0 0]) (by obtain ⟨_, _, hv⟩ := (slc_len hs1);rw [hv];clear hv;obtain ⟨_, _, hv⟩ := (slc_len hs2);rw [hv];clear hv;kernel_rfl)) rfl ?_;clear S;intro a S
 refine l_box S (S.tm rfl) (cs := [u1.val, u3.val, iV Aa.Table.Relay, iV Aa.Table.Most, iV Aa.Final.Size, iV Aa.Final.Many, iV Aa.Final.Reserves, .slice none 0 0]) rfl rfl ?_;clear S;intro a w2 b2 hz2 hk2 S
 replace S := S.nil 39 11
 refine lv S (Ra (S.tm rfl)) rfl ?_;clear S;intro a S
 refine Ld (Tn (Fs (Fs (Fg (lv S (Rm (S.tm rfl)) rfl ?_)))));clear S;intro a S
 refine lv S (Rm (S.tm rfl)) rfl ?_;clear S;intro a S
 obtain ⟨r1, hr1, h⟩ := bindE h
 have hz3 := S.keep.size
 refine l_enter S (fun _ => run_call (vs := [Ab, iV Bm]) ⟨(S.tm rfl), (S.tm rfl), trivial⟩ Tryz.call149) (meet_counting_ok _ Ab Ac (Ao.mono (View.le_trans hψ (S.le_arg nil_sub))) Bm _ hr1) rfl ?_;clear S;intro v1 a w3 hv1 hk3 hn1 S
 obtain ⟨φ1, hl1, hm1, S⟩ := S.see' hn1 hz3
 have hs3 := hv1.mono hm1
 refine lv S (rn_lenT sl_22 (S.tm rfl) (slc_len (ownV_slcT enc_int hs3))) rfl ?_;clear S;intro a S
 refine lv S (Rm rfl) rfl ?_;clear S;intro a S
 refine Ld (Tn ?_)
 replace S := S.nk [.own (.slice none 0 0) 39 11 ([] : List GDeed).length (([] : List GDeed).flatMap GDeed.enc), .blk b2 [u1.val, u3.val, iV Aa.Table.Relay, iV Aa.Table.Most, iV Aa.Final.Size, iV Aa.Final.Many, iV Aa.Final.Reserves, (.slice none 0 0)] 148] [(1, Ab), (7, .pointer (some ⟨b2, 0, none⟩)), (15, v1), (16, iV (r1.length : Int)), (17, iV 0)] [true, true, false] rfl (subR rfl)
 obtain ⟨j1, hj1, h⟩ := joinE h
 refine f_join (fun a w' => ∃ x1 : List GDeed, ∃ v2 : Value, j1 x1 = some r ∧ Sx w [] φ1 [.own v2 39 11 x1.length (x1.flatMap GDeed.enc), .blk b2 [u1.val, u3.val, iV Aa.Table.Relay, iV Aa.Table.Most, iV Aa.Final.Size, iV Aa.Final.Many, iV Aa.Final.Reserves, v2] 148] [(7, .pointer (some ⟨b2, 0, none⟩))] 36 a w') ?_ ?_
 ·refine wp_block (f_loop (fun (ys1 : List Int) a w' => ∃ i1 : Nat, ∃ x1 : List GDeed, ∃ v2 : Value, (∃ dn, r1 = dn ++ ys1 ∧ dn.length = i1) ∧ meet_stateAt_l1 Ac j1 ys1 i1 x1 = some r ∧ Sx w [] φ1 [.own v2 39 11 x1.length (x1.flatMap GDeed.enc), .blk b2 [u1.val, u3.val, iV Aa.Table.Relay, iV Aa.Table.Most, iV Aa.Final.Size, iV Aa.Final.Many, iV Aa.Final.Reserves, v2] 148] [(1, Ab), (7, .pointer (some ⟨b2, 0, none⟩)), (15, v1), (16, iV (r1.length : Int)), (17, iV (i1 : Int))] 36 a w') List.length r1 ⟨0, ([] : List GDeed), (.slice none 0 0), ⟨[], rfl, rfl⟩, h, S.nf [true, true] rfl (subR rfl)⟩ ?_)
  clear S h;rintro ys1 a w4 ⟨i1, x1, v2, ⟨dn, hd1, hi1⟩, h, S⟩
  cases ys1 with
  | nil =>
   rw [meet_stateAt_l1.eq_1] at h
   refine Fs (Fg (lv S (rn_lss (S.tm rfl) (S.tm rfl)) rfl ?_));clear S;intro a S
   refine Ld ?_
   replace S := S.nk [.own v2 39 11 x1.length (x1.flatMap GDeed.enc), .blk b2 [u1.val, u3.val, iV Aa.Table.Relay, iV Aa.Table.Most, iV Aa.Final.Size, iV Aa.Final.Many, iV Aa.Final.Reserves, v2] 148] [(1, Ab), (7, .pointer (some ⟨b2, 0, none⟩)), (15, v1), (16, iV (r1.length : Int)), (17, iV (i1 : Int)), (18, bV (decide ((i1 : Int) < (r1.length : Int))))] [true, true] rfl (subR rfl)
   refine Tn (Fs (wp_cond_false ((S.tm rfl).trans (congrArg Value.bool (rng_nil hd1 hi1))) (wp_exit (then_x (then_x (x_same ?_))))))
   refine Tn ?_
   exact ⟨x1, v2, h, S.nf [true, true] rfl ⟨rfl, trivial⟩⟩
  | cons y1 ys1 =>
   rw [meet_stateAt_l1.eq_2] at h
   refine Fs (Fg (lv S (rn_lss (S.tm rfl) (S.tm rfl)) rfl ?_));clear S;intro a S
   refine Ld ?_
   replace S := S.nk [.own v2 39 11 x1.length (x1.flatMap GDeed.enc), .blk b2 [u1.val, u3.val, iV Aa.Table.Relay, iV Aa.Table.Most, iV Aa.Final.Size, iV Aa.Final.Many, iV Aa.Final.Reserves, v2] 148] [(1, Ab), (7, .pointer (some ⟨b2, 0, none⟩)), (15, v1), (16, iV (r1.length : Int)), (17, iV (i1 : Int)), (18, bV (decide ((i1 : Int) < (r1.length : Int))))] [true, true] rfl (subR rfl)
   refine Tn (Fs (wp_cond_true ((S.tm rfl).trans (congrArg Value.bool (rng_cons hd1 hi1))) (wp_skip (Tn (Fs (wp_block ?_))))))
   refine Fs (Fg ?_)
   obtain ⟨b3, o1, hm2, hr2⟩ := rn_indexT (a := a) (x := .tmp 15) (y := .tmp 17) (ty := 0) sl_22 (ownV_slcT enc_int hs3) (get_mid hd1 hi1) rfl (S.tm rfl) (S.tm rfl)
   refine lv S (hr2 _) rfl ?_;clear S;intro a S
   clear hr2
   refine lv S (rn_ld Tryz.isAgg3 (off := o1) (o := 0) (S.tm rfl) (hm2.at S.emb) rfl) rfl ?_;clear S;intro a S
   refine lv S (Ra (S.tm rfl)) rfl ?_;clear S;intro a S
   refine Ld (Tn ?_)
   obtain ⟨hc1, h⟩ := chkE h
   obtain ⟨hc2, h⟩ := chkE h
   refine d_region [13] (v2.ownBlock.toList) Tryz.mixed S rfl (by kernel_rfl) ?_;clear S;intro w9 hk7 hsel S
   refine d_pure 0 S hsel rfl rfl (by kernel_rfl) (by kernel_rfl) rfl (fun _ => (Rm (S.tm rfl))) ?_;clear S;intro a S
   refine d_pure 1 S hsel rfl rfl (by kernel_rfl) (by kernel_rfl) rfl (fun _ => (Rm (S.tm rfl))) ?_;clear S;intro a S
   refine d_pure 2 S hsel rfl rfl (by kernel_rfl) (by kernel_rfl) rfl (fun _ => (rn_nilCheck (S.tm rfl))) ?_;clear S;intro a S
   refine d_pure 3 S hsel rfl rfl (by kernel_rfl) (by kernel_rfl) rfl (fun _ => (rn_fld fa_148_1 (S.tm rfl))) ?_;clear S;intro a S
   refine d_quiet 4 S hsel rfl (by kernel_rfl) (by kernel_rfl) (by kernel_rfl) (by kernel_rfl) rfl (fun _ hw => (rn_ld Tryz.isAgg26 (off := 0) (o := 7) (S.tm rfl) ((S.blk_mem (i := 1) (cells := [u1.val, u3.val, iV Aa.Table.Relay, iV Aa.Table.Most, iV Aa.Final.Size, iV Aa.Final.Many, iV Aa.Final.Reserves, v2]) (b := b2) (T := 148) rfl (ne_fp (i := 0) (j := 1) (e := .own v2 39 11 x1.length (x1.flatMap GDeed.enc)) (e' := .blk b2 [u1.val, u3.val, iV Aa.Table.Relay, iV Aa.Table.Most, iV Aa.Final.Size, iV Aa.Final.Many, iV Aa.Final.Reserves, v2] 148) S rfl rfl rfl)).kept hw) rfl)) ?_;clear S;intro a S
   refine d_pure 5 S hsel rfl rfl (by kernel_rfl) (by kernel_rfl) rfl (fun _ => (Rm (S.tm rfl))) ?_;clear S;intro a S
   refine d_pure 6 S hsel rfl rfl (by kernel_rfl) (by kernel_rfl) rfl (fun _ => (Rm (S.tm rfl))) ?_;clear S;intro a S
   obtain ⟨b6, o3, hm4, hr4⟩ := rn_indexT (a := a) (x := .tmp 26) (y := .tmp 27) (ty := 0) sl_26 (Ao.mono (View.le_trans hψ (S.le_arg (fp_sub (i := 0) (e := .own v2 39 11 x1.length (x1.flatMap GDeed.enc)) rfl)))) (inB_get hc1).1 (inB_get hc1).2 (S.tm rfl) (S.tm rfl)
   refine d_pure 7 S hsel rfl rfl (by kernel_rfl) (by kernel_rfl) rfl (fun _ => hr4 _) ?_;clear S;intro a S
   clear hr4
   refine d_quiet 8 S hsel rfl (by kernel_rfl) (by kernel_rfl) (by kernel_rfl) (by kernel_rfl) rfl (fun _ hw => (rn_ldA Tryz.isAgg39 Tryz.sizeOf39 (off := o3) (o := 0) (part := (GDeed.enc (nth Ac y1))) rfl rfl (S.tm rfl) (hm4.kept hw))) ?_;clear S;intro a S
   refine d_loud1 9 (by kernel_rfl) rfl (l_buildSlice S Tryz.underlying26 Tryz.sizeOf39 Tryz.zeroValue39 rfl rfl (pv := [(0, .agg (GDeed.enc (nth Ac y1)).toArray)]) ⟨rfl, (S.tm rfl), trivial⟩ (cs := [sV ((nth Ac y1).Site), iV ((nth Ac y1).No), iV ((nth Ac y1).At), iV ((nth Ac y1).Kind), sV ((nth Ac y1).Who), sV ((nth Ac y1).Club), sV ((nth Ac y1).Race), iV ((nth Ac y1).Time), iV ((nth Ac y1).Fault), sV ((nth Ac y1).Of), iV ((nth Ac y1).Other)]) (by kernel_rfl) rfl ?_);clear S;intro a w10 b7 hz5 hk8 S
   refine Ld (d_next (Keep.none hk8) (d_loud1 10 (by kernel_rfl) rfl ?_))
   refine l_appendT sl_26 GDeed.enc_ok S (S.tm rfl) (i := 1) rfl (S.tm rfl) (j := 0) rfl (ys := [(nth Ac y1)]) rfl rfl rfl rfl (by have := room_lt hc2;omega) rfl ?_;clear S;intro v4 a w11 hk9 S
   refine Ld (d_next hk9 (d_pure 11 S hsel rfl rfl (by kernel_rfl) (by kernel_rfl) rfl (fun _ => (rn_nilCheck (S.tm rfl))) ?_));clear S;intro a S
   refine d_pure 12 S hsel rfl rfl (by kernel_rfl) (by kernel_rfl) rfl (fun _ => (rn_fld fa_148_1 (S.tm rfl))) ?_;clear S;intro a S
   refine d_loudB 13 (v4.ownBlock.toList ++ [b2]) rfl (by kernel_rfl) rfl (l_store S (S.tm rfl) (S.tm rfl) (i := 2) (off := 7) rfl Tryz.sizeOf26 (vs := [v4]) (SlcLen.cells (own_len (S.own_at (i := 1) rfl))) rfl rfl (all1 (SlcLen.one (own_len (S.own_at (i := 1) rfl))) rfl) ?_);clear S;intro w12 hk10 S
   refine Ld (d_nextB (d_end (by kernel_rfl) ?_))
   clear hsel
   replace S := S.nk [.own v4 39 11 (x1 ++ [(nth Ac y1)]).length ((x1 ++ [(nth Ac y1)]).flatMap GDeed.enc), .blk b2 [u1.val, u3.val, iV Aa.Table.Relay, iV Aa.Table.Most, iV Aa.Final.Size, iV Aa.Final.Many, iV Aa.Final.Reserves, v4] 148] [(1, Ab), (7, .pointer (some ⟨b2, 0, none⟩)), (15, v1), (16, iV (r1.length : Int)), (17, iV (i1 : Int))] [false, true, true] rfl (subR rfl)
   refine blk_n (Tn (Fg (lv S (rn_add (S.tm rfl) rfl) rfl ?_)));clear S;intro a S
   refine lv S (Rm (S.tm rfl)) rfl ?_;clear S;intro a S
   refine Ld (Tn ?_)
   exact ⟨ys1, ⟨i1 + 1, (x1 ++ [(nth Ac y1)]), v4, ⟨_, (hd1).trans (List.append_cons _ _ _), by simp [hi1]⟩, h, S.nf [true, true] rfl ⟨rfl, rfl, rfl, rfl, (congrArg (fun z => some (Value.int .i64 z)) (rng_next hd1 hi1 (slc_max (ownV_slcT enc_int hs3)))), trivial⟩⟩, Nat.lt_succ_self _⟩
 clear S h;rintro a w5 ⟨x1, v2, h, S⟩;rw [hj1] at h;clear hj1 j1
 refine Tn (Fs (Fg (lv S (Rm (S.tm rfl)) rfl ?_)));clear S;intro a S
 refine lv S (Ra (S.tm rfl)) rfl ?_;clear S;intro a S
 refine Ld (Tn (wp_ret ?_))
 obtain ⟨φ2, hl2, hs4, S⟩ := S.freezeT (xs := x1) (enc := GDeed.enc) (i := 0) rfl (fun _ h => by cases h)
 replace S := S.nk [.blk b2 [u1.val, u3.val, iV Aa.Table.Relay, iV Aa.Table.Most, iV Aa.Final.Size, iV Aa.Final.Many, iV Aa.Final.Reserves, v2] 148] [(6, .pointer (some ⟨b2, 0, none⟩)), (7, .pointer (some ⟨b2, 0, none⟩)), (35, .pointer (some ⟨b2, 0, none⟩))] [] rfl (subR rfl)
 obtain ⟨φ3, hl3, hb1, S⟩ := S.freezeB (i := 0) rfl (by simp)
 replace S := S.nk [] [(6, .pointer (some ⟨b2, 0, none⟩)), (7, .pointer (some ⟨b2, 0, none⟩)), (35, .pointer (some ⟨b2, 0, none⟩))] [] rfl (subR rfl)
 obtain rfl := Option.some.inj h
 exact f_ret S Tryz.results117 rfl (PtrV.mk (R148.mk (R87.mk u1 (R83.mk u3 Aa.Table.Relay Aa.Table.Most) Aa.Final) ⟨v2, SlcLen.one (slc_len (ownV_slcT GDeed.enc_ok hs4))⟩) (rel_148_mono (all_out hψ S.le_newer) _ _ ⟨(R87.mk u1 (R83.mk u3 Aa.Table.Relay Aa.Table.Most) Aa.Final), ⟨v2, SlcLen.one (slc_len (ownV_slcT GDeed.enc_ok hs4))⟩, rfl, ⟨u1, (R83.mk u3 Aa.Table.Relay Aa.Table.Most), rfl, (hs1.mono (le_join_left _ _)), ⟨u3, rfl, (hs2.mono (le_join_left _ _))⟩⟩, ((ownV_slcT GDeed.enc_ok hs4).mono (View.le_trans hl3 (S.all_right hψ)))⟩) ((all_out hψ S.le_newer) _ _ ((S.all_right hψ) _ _ hb1)))
set_option maxRecDepth 20000 in
theorem meet_open_ok (w : World) (ψ : View) (hψ : View.le ψ (view w [])) (Aa : GPlan) (Ci : R87) (Cp : rel_87 ψ Aa Ci) (Ab : Value) (Ac : List GDeed) (Ao : Slc ψ 11 Ab (Ac.map GDeed.enc)) (Cg : Value) (Bm : List Int) (Cw : Slc ψ 1 Cg (Bm.map eInt)) (r : (Option Gmeet_state) × Int) (h : meet_open Aa Ac Bm = some r) :
    Calls Tryz.prog 89 [.agg (R87.enc Ci).toArray, Ab, Cg].toArray w (Ret w [] fun τ v _ => ∃ u1 : Value, v = .tuple #[u1, iV r.2] ∧ PtrV (join ψ τ) 148 R148.enc rel_148 u1 r.1) := by
 obtain ⟨u1, u2, rfl, hs1, ⟨u3, rfl, hs2⟩⟩ := Cp
 refine f_enter [] [] Tryz.func89 rfl Tryz.ntmps89 rfl (by simp) (by simp [fps]) (by simp [fps]) fun a S => ?_
 unfold meet_open at h
 replace S := S.nk [] [(0, .agg #[u1.val, u3.val, iV Aa.Table.Relay, iV Aa.Table.Most, iV Aa.Final.Size, iV Aa.Final.Many, iV Aa.Final.Reserves]), (1, Ab), (2, Cg)] [] rfl (subR rfl)
 refine Fs (Fg (l_box S (S.tm rfl) (cs := [u1.val, u3.val, iV Aa.Table.Relay, iV Aa.Table.Most, iV Aa.Final.Size, iV Aa.Final.Many, iV Aa.Final.Reserves]) rfl rfl ?_));clear S;intro a w1 b1 hz1 hk1 S
 refine lv S (Ra rfl) rfl ?_;clear S;intro a S
 refine lv S (Ra rfl) rfl ?_;clear S;intro a S
 refine Ld (Tn (Fs (Fs (Fg (lv S (rn_ldA Tryz.isAgg87 Tryz.sizeOf87 (off := 0) (o := 0) (part := [u1.val, u3.val, iV Aa.Table.Relay, iV Aa.Table.Most, iV Aa.Final.Size, iV Aa.Final.Many, iV Aa.Final.Reserves]) rfl rfl (S.tm rfl) (S.cellsAt (i := 0) rfl)) rfl ?_)))));clear S;intro a S
 obtain ⟨r1, hr1, h⟩ := bindE h
 refine l_enter S (fun _ => run_call (vs := [.agg (R87.enc (R87.mk u1 (R83.mk u3 Aa.Table.Relay Aa.Table.Most) Aa.Final)).toArray]) ⟨(S.tm rfl), trivial⟩ Tryz.call116) (meet_CheckPlan_ok _ Aa (R87.mk u1 (R83.mk u3 Aa.Table.Relay Aa.Table.Most) Aa.Final) ⟨u1, (R83.mk u3 Aa.Table.Relay Aa.Table.Most), rfl, (hs1.mono (View.le_trans hψ (S.le_arg nil_sub))), ⟨u3, rfl, (hs2.mono (View.le_trans hψ (S.le_arg nil_sub)))⟩⟩ _ hr1) rfl ?_;clear S;intro v1 a w2 hv1 hk2 hn1 S
 subst hv1
 refine lv S (Ra (S.tm rfl)) rfl ?_;clear S;intro a S
 refine Ld (Tn (Fs (Fg (lv S (Rm (S.tm rfl)) rfl ?_))));clear S;intro a S
 refine lv S (rn_neq (S.tm rfl) rfl) rfl ?_;clear S;intro a S
 refine Ld (Tn (f_cond (S.tm rfl) (fun hb1 => ?_) (fun hb1 => ?_)))
 ·replace h := iteT h hb1
  refine Fs (Fg (lv S (Rm (S.tm rfl)) rfl ?_));clear S;intro a S
  refine lv S (Ra rfl) rfl ?_;clear S;intro a S
  refine lv S (Ra (S.tm rfl)) rfl ?_;clear S;intro a S
  refine Ld (Tn (wp_ret (then_r ?_)))
  obtain rfl := Option.some.inj h
  exact f_ret2 S Tryz.results89 rfl rfl ⟨_, rfl, rfl⟩
 ·replace h := iteF h hb1
  refine wp_skip (Tn (Fs (Fs (Fg (lv S (Rm (S.tm rfl)) rfl ?_)))));clear S;intro a S
  obtain ⟨r2, hr2, h⟩ := bindE h
  refine l_enter S (fun _ => run_call (vs := [Ab]) ⟨(S.tm rfl), trivial⟩ Tryz.call23) (meet_CheckDeeds_ok _ Ab Ac (Ao.mono (View.le_trans hψ (S.le_arg nil_sub))) _ hr2) rfl ?_;clear S;intro v2 a w3 hv2 hk3 hn2 S
  subst hv2
  refine lv S (Ra (S.tm rfl)) rfl ?_;clear S;intro a S
  refine Ld (Tn (Fs (Fg (lv S (Rm (S.tm rfl)) rfl ?_))));clear S;intro a S
  refine lv S (rn_neq (S.tm rfl) rfl) rfl ?_;clear S;intro a S
  refine Ld ?_
  replace S := S.nk [.blk b1 [u1.val, u3.val, iV Aa.Table.Relay, iV Aa.Table.Most, iV Aa.Final.Size, iV Aa.Final.Many, iV Aa.Final.Reserves] 87] [(1, Ab), (2, Cg), (3, .pointer (some ⟨b1, 0, none⟩)), (9, iV r2), (20, bV (!decide (r2 = 0)))] [true] rfl (subR rfl)
  refine Tn (f_cond (S.tm rfl) (fun hb2 => ?_) (fun hb2 => ?_))
  ·replace h := iteT h hb2
   refine Fs (Fg (lv S (Rm (S.tm rfl)) rfl ?_));clear S;intro a S
   refine lv S (Ra rfl) rfl ?_;clear S;intro a S
   refine lv S (Ra (S.tm rfl)) rfl ?_;clear S;intro a S
   refine Ld (Tn (wp_ret (then_r ?_)))
   obtain rfl := Option.some.inj h
   exact f_ret2 S Tryz.results89 rfl rfl ⟨_, rfl, rfl⟩
  ·replace h := iteF h hb2
   refine wp_skip (Tn (Fs (Fs (Fg (lv S (Rm (S.tm rfl)) rfl ?_)))));clear S;intro a S
   refine lv S (rn_lenT sl_22 (S.tm rfl) (slc_len Cw)) rfl ?_;clear S;intro a S
   refine lv S (Rm rfl) rfl ?_;clear S;intro a S
   refine Ld (Tn ?_)
   replace S := S.nk [.blk b1 [u1.val, u3.val, iV Aa.Table.Relay, iV Aa.Table.Most, iV Aa.Final.Size, iV Aa.Final.Many, iV Aa.Final.Reserves] 87] [(1, Ab), (2, Cg), (3, .pointer (some ⟨b1, 0, none⟩)), (22, Cg), (23, iV (Bm.length : Int)), (24, iV 0)] [true] rfl (subR rfl)
   obtain ⟨j1, hj1, h⟩ := joinE h
   refine f_join (fun a w' => j1 = some r ∧ Sx w [] nov [.blk b1 [u1.val, u3.val, iV Aa.Table.Relay, iV Aa.Table.Most, iV Aa.Final.Size, iV Aa.Final.Many, iV Aa.Final.Reserves] 87] [(1, Ab), (2, Cg), (3, .pointer (some ⟨b1, 0, none⟩))] 41 a w') ?_ ?_
   ·refine wp_block (f_loop (fun (ys1 : List Int) a w' => ∃ i1 : Nat, (∃ dn, Bm = dn ++ ys1 ∧ dn.length = i1) ∧ meet_open_l1 j1 ys1 i1 = some r ∧ Sx w [] nov [.blk b1 [u1.val, u3.val, iV Aa.Table.Relay, iV Aa.Table.Most, iV Aa.Final.Size, iV Aa.Final.Many, iV Aa.Final.Reserves] 87] [(1, Ab), (2, Cg), (3, .pointer (some ⟨b1, 0, none⟩)), (22, Cg), (23, iV (Bm.length : Int)), (24, iV (i1 : Int))] 41 a w') List.length Bm ⟨0, ⟨[], rfl, rfl⟩, h, S.nf [true] rfl (subR rfl)⟩ ?_)
    clear S h;rintro ys1 a w4 ⟨i1, ⟨dn, hd1, hi1⟩, h, S⟩
    cases ys1 with
    | nil =>
     rw [meet_open_l1.eq_1] at h
     refine Fs (Fg (lv S (rn_lss (S.tm rfl) (S.tm rfl)) rfl ?_));clear S;intro a S
     refine Ld ?_
     replace S := S.nk [.blk b1 [u1.val, u3.val, iV Aa.Table.Relay, iV Aa.Table.Most, iV Aa.Final.Size, iV Aa.Final.Many, iV Aa.Final.Reserves] 87] [(1, Ab), (2, Cg), (3, .pointer (some ⟨b1, 0, none⟩)), (22, Cg), (23, iV (Bm.length : Int)), (24, iV (i1 : Int)), (25, bV (decide ((i1 : Int) < (Bm.length : Int))))] [true] rfl (subR rfl)
     refine Tn (Fs (wp_cond_false ((S.tm rfl).trans (congrArg Value.bool (rng_nil hd1 hi1))) (wp_exit (then_x (then_x (x_same ?_))))))
     refine Tn ?_
     exact ⟨h, S.nf [true] rfl (subR rfl)⟩
    | cons y1 ys1 =>
     rw [meet_open_l1.eq_2] at h
     refine Fs (Fg (lv S (rn_lss (S.tm rfl) (S.tm rfl)) rfl ?_));clear S;intro a S
     refine Ld ?_
     replace S := S.nk [.blk b1 [u1.val, u3.val, iV Aa.Table.Relay, iV Aa.Table.Most, iV Aa.Final.Size, iV Aa.Final.Many, iV Aa.Final.Reserves] 87] [(1, Ab), (2, Cg), (3, .pointer (some ⟨b1, 0, none⟩)), (22, Cg), (23, iV (Bm.length : Int)), (24, iV (i1 : Int)), (25, bV (decide ((i1 : Int) < (Bm.length : Int))))] [true] rfl (subR rfl)
     refine Tn (Fs (wp_cond_true ((S.tm rfl).trans (congrArg Value.bool (rng_cons hd1 hi1))) (wp_skip (Tn (Fs (wp_block ?_))))))
     refine Fs (Fg ?_)
     obtain ⟨b2, o1, hm1, hr3⟩ := rn_indexT (a := a) (x := .tmp 22) (y := .tmp 24) (ty := 0) sl_22 Cw (get_mid hd1 hi1) rfl (S.tm rfl) (S.tm rfl)
     refine lv S (hr3 _) rfl ?_;clear S;intro a S
     clear hr3
     refine lv S (rn_ld Tryz.isAgg3 (off := o1) (o := 0) (S.tm rfl) (hm1.at (emb_le hψ S.emb0)) rfl) rfl ?_;clear S;intro a S
     refine lv S (Ra (S.tm rfl)) rfl ?_;clear S;intro a S
     refine Ld (Tn (Fs (Fg (lv S (Rm (S.tm rfl)) rfl ?_))));clear S;intro a S
     refine l_enter S (fun _ => run_call (vs := [iV y1]) ⟨(S.tm rfl), trivial⟩ Tryz.call76) (words_IsMoment_ok _ y1 _ rfl) rfl ?_;clear S;intro v3 a w6 hv3 hk4 hn3 S
     subst hv3
     refine lv S (rn_not (S.tm rfl)) rfl ?_;clear S;intro a S
     refine Ld (Tn (f_cond (S.tm rfl) (fun hb3 => ?_) (fun hb3 => ?_)))
     ·replace h := iteT h hb3
      refine Fs (Fg (lv S (Ra rfl) rfl ?_));clear S;intro a S
      refine lv S (Ra rfl) rfl ?_;clear S;intro a S
      refine Ld ?_
      replace S := S.nk [] [(6, .pointer none), (7, iV 1)] [false] rfl (subR rfl)
      refine Tn (wp_ret (blk_r (then_r (then_r (blk_r (then_r ?_))))))
      refine then_r ?_
      obtain rfl := Option.some.inj h
      exact f_ret2 S Tryz.results89 rfl rfl ⟨_, rfl, rfl⟩
     ·replace h := iteF h hb3
      refine wp_skip (blk_n (Tn (Fg (lv S (rn_add (S.tm rfl) rfl) rfl ?_))));clear S;intro a S
      refine lv S (Rm (S.tm rfl)) rfl ?_;clear S;intro a S
      refine Ld (Tn ?_)
      exact ⟨ys1, ⟨i1 + 1, ⟨_, (hd1).trans (List.append_cons _ _ _), by simp [hi1]⟩, h, S.nf [true] rfl ⟨rfl, rfl, rfl, rfl, rfl, (congrArg (fun z => some (Value.int .i64 z)) (rng_next hd1 hi1 (slc_max Cw))), trivial⟩⟩, Nat.lt_succ_self _⟩
   clear S h;rintro a w5 ⟨h, S⟩;rw [hj1] at h;clear hj1 j1
   refine Tn (Fs ?_)
   obtain ⟨hc1, h⟩ := chkE h
   obtain ⟨r3, hr5, h⟩ := bindE h
   refine d_region [] ([]) Tryz.mixed S rfl (by kernel_rfl) ?_;clear S;intro w8 hk6 hsel S
   refine d_quiet 0 S hsel rfl rfl rfl (by kernel_rfl) (by kernel_rfl) rfl (fun _ hw => (rn_ldA Tryz.isAgg87 Tryz.sizeOf87 (off := 0) (o := 0) (part := [u1.val, u3.val, iV Aa.Table.Relay, iV Aa.Table.Most, iV Aa.Final.Size, iV Aa.Final.Many, iV Aa.Final.Reserves]) rfl rfl (S.tm rfl) ((S.blk_mem (i := 0) (cells := [u1.val, u3.val, iV Aa.Table.Relay, iV Aa.Table.Most, iV Aa.Final.Size, iV Aa.Final.Many, iV Aa.Final.Reserves]) (b := b1) (T := 87) rfl (ne_nil (e' := .blk b1 [u1.val, u3.val, iV Aa.Table.Relay, iV Aa.Table.Most, iV Aa.Final.Size, iV Aa.Final.Many, iV Aa.Final.Reserves] 87))).kept hw))) ?_;clear S;intro a S
   refine d_quiet 1 S hsel rfl rfl rfl (by kernel_rfl) (by kernel_rfl) rfl (fun _ hw => (Rm (S.tm rfl))) ?_;clear S;intro a S
   refine d_quiet 2 S hsel rfl rfl rfl (by kernel_rfl) (by kernel_rfl) rfl (fun _ hw => (Rm (S.tm rfl))) ?_;clear S;intro a S
   refine d_quiet 3 S hsel rfl rfl rfl (by kernel_rfl) (by kernel_rfl) rfl (fun _ hw => (Rm (S.tm rfl))) ?_;clear S;intro a S
   refine d_quiet 4 S hsel rfl rfl rfl (by kernel_rfl) (by kernel_rfl) rfl (fun _ hw => (rn_lenT sl_22 (S.tm rfl) (slc_len Cw))) ?_;clear S;intro a S
   refine d_quiet 5 S hsel rfl rfl rfl (by kernel_rfl) (by kernel_rfl) rfl (fun _ hw => (rn_sub (S.tm rfl) rfl)) ?_;clear S;intro a S
   obtain ⟨b4, o3, hm4, hr6⟩ := rn_indexT (a := a) (x := .tmp 34) (y := .tmp 37) (ty := 0) sl_22 (Cw.mono (View.le_trans hψ (S.le_arg nil_sub))) (inB_get hc1).1 (inB_get hc1).2 (S.tm rfl) (S.tm rfl)
   refine d_quiet 6 S hsel rfl rfl rfl (by kernel_rfl) (by kernel_rfl) rfl (fun _ hw => hr6 _) ?_;clear S;intro a S
   clear hr6
   refine d_quiet 7 S hsel rfl rfl rfl (by kernel_rfl) (by kernel_rfl) rfl (fun _ hw => (rn_ld Tryz.isAgg3 (off := o3) (o := 0) (S.tm rfl) (hm4.kept hw) rfl)) ?_;clear S;intro a S
   refine d_loud1 8 (by kernel_rfl) rfl ?_
   have hz3 := S.keep.size
   refine l_enter S (fun _ => run_call (vs := [.agg (R87.enc (R87.mk u1 (R83.mk u3 Aa.Table.Relay Aa.Table.Most) Aa.Final)).toArray, Ab, iV (nth Bm (W ((Bm.length : Int) - 1)))]) ⟨(S.tm rfl), (S.tm rfl), (S.tm rfl), trivial⟩ Tryz.call117) (meet_stateAt_ok _ (join ψ nov) (join_le (View.le_trans hψ (S.le_arg nil_sub)) (S.le_new nil_sub)) Aa (R87.mk u1 (R83.mk u3 Aa.Table.Relay Aa.Table.Most) Aa.Final) ⟨u1, (R83.mk u3 Aa.Table.Relay Aa.Table.Most), rfl, (hs1.mono (le_join_left _ _)), ⟨u3, rfl, (hs2.mono (le_join_left _ _))⟩⟩ Ab Ac (Ao.mono (le_join_left _ _)) (nth Bm (W ((Bm.length : Int) - 1))) _ hr5) rfl ?_;clear S;intro v5 a w9 hv5 hk7 hn5 S
   obtain ⟨φ2, hl2, hm5, S⟩ := S.see' hn5 hz3
   have hq2 := PtrV.mono (rel_148_mono (all_step hl2 hm5)) (all_step hl2 hm5) hv5
   refine Ld (d_next hk7 (d_rest [9, 10] hsel (by kernel_rfl) rfl ?_))
   clear hsel
   refine s_lv S rfl (Ra (S.tm rfl)) rfl ?_;clear S;intro a S
   refine s_lv S rfl (Ra rfl) rfl ?_;clear S;intro a S
   refine s_done ?_
   replace S := S.nk [] [(6, v5), (7, iV 0)] [false] rfl (subR rfl)
   refine Tn (wp_ret ?_)
   obtain rfl := Option.some.inj h
   exact f_ret2 S Tryz.results89 rfl rfl ⟨_, rfl, (PtrV.mono (rel_148_mono (all_out hψ S.le_newer)) (all_out hψ S.le_newer) hq2)⟩
theorem state_race_c1_ok (w : World) (Ap : GRace) (Aj : Nat) (Al : ByteArray) (Ck : (view w []) Aj = some (.cells [sV Al].toArray 9 (0, 0))) (r : Bool) (h : state_race_c1 Ap Al = r) :
    Calls Tryz.prog 119 [.agg (GRace.enc Ap).toArray, .pointer (some ⟨Aj, 0, none⟩)].toArray w (Ret w [] fun _ v _ => v = bV r) := by
 refine f_enter [] [] Tryz.func119 rfl Tryz.ntmps119 rfl (by simp) (by simp [fps]) (by simp [fps]) fun a S => ?_
 unfold state_race_c1 at h
 replace S := S.nk [] [(0, .agg (GRace.enc Ap).toArray), (1, .pointer (some ⟨Aj, 0, none⟩))] [] rfl (subR rfl)
 refine Fs (Fg (l_box S (S.tm rfl) (cs := (GRace.enc Ap)) rfl rfl ?_));clear S;intro a w1 b1 hz1 hk1 S
 refine lv S (Ra rfl) rfl ?_;clear S;intro a S
 refine Ld (Tn (Fs (Fg (lv S (rn_fld fa_80_0 (S.tm rfl)) rfl ?_))));clear S;intro a S
 refine lv S (rn_load Tryz.isAgg9 (S.tm rfl) (S.cell (i := 0) rfl rfl)) rfl ?_;clear S;intro a S
 refine lv S (rn_ld Tryz.isAgg9 (off := 0) (o := 0) (S.tm rfl) ((mem_blk Ck).at S.emb0) rfl) rfl ?_;clear S;intro a S
 refine lv S (rn_seql (S.tm rfl) (S.tm rfl)) rfl ?_;clear S;intro a S
 refine lv S (Ra (S.tm rfl)) rfl ?_;clear S;intro a S
 refine Ld (Tn (wp_ret ?_))
 subst h
 exact f_ret S Tryz.results119 rfl rfl
theorem slices_IndexFunc_Race_state_race_c1_ok (w : World) (Am : Value) (Ad : List GRace) (By : Slc (view w []) 8 Am (Ad.map GRace.enc)) (Au : Nat) (Av : ByteArray) (Cc : (view w []) Au = some (.cells [sV Av].toArray 9 (0, 0))) (r : Int) (h : slices_IndexFunc_Race_state_race_c1 Ad Av = r) :
    Calls Tryz.prog 118 [Am, .func (.func 119) #[] #[.pointer (some ⟨Au, 0, none⟩)]].toArray w (Ret w [] fun _ v _ => v = iV r) := by
 refine f_enter [] [] Tryz.func118 rfl Tryz.ntmps118 rfl (by simp) (by simp [fps]) (by simp [fps]) fun a S => ?_
 unfold slices_IndexFunc_Race_state_race_c1 at h
 replace S := S.nk [] [(0, Am), (1, .func (.func 119) #[] #[.pointer (some ⟨Au, 0, none⟩)])] [] rfl (subR rfl)
 refine Fs (Fg (lv S (Ra rfl) rfl ?_));clear S;intro a S
 refine Ld (Tn (Fs (Fs (Fg (lv S (Rm (S.tm rfl)) rfl ?_)))));clear S;intro a S
 refine lv S (rn_lenT sl_81 (S.tm rfl) (slc_len By)) rfl ?_;clear S;intro a S
 refine lv S (Rm rfl) rfl ?_;clear S;intro a S
 refine Ld (Tn ?_)
 replace S := S.nk [] [(0, Am), (1, .func (.func 119) #[] #[.pointer (some ⟨Au, 0, none⟩)]), (7, iV (Ad.length : Int)), (8, iV 0)] [] rfl (subR rfl)
 obtain ⟨j1, hj1, h⟩ := joinE h
 refine f_join (fun a w' => j1 = r ∧ Sx w [] nov [] [] 19 a w') ?_ ?_
 ·refine wp_block (f_loop (fun (ys1 : List GRace) a w' => ∃ i1 : Nat, (∃ dn, Ad = dn ++ ys1 ∧ dn.length = i1) ∧ slices_IndexFunc_Race_state_race_c1_l1 Av j1 ys1 i1 = r ∧ Sx w [] nov [] [(0, Am), (1, .func (.func 119) #[] #[.pointer (some ⟨Au, 0, none⟩)]), (7, iV (Ad.length : Int)), (8, iV (i1 : Int))] 19 a w') List.length Ad ⟨0, ⟨[], rfl, rfl⟩, h, S.nf [] rfl (subR rfl)⟩ ?_)
  clear S h;rintro ys1 a w1 ⟨i1, ⟨dn, hd1, hi1⟩, h, S⟩
  cases ys1 with
  | nil =>
   rw [slices_IndexFunc_Race_state_race_c1_l1.eq_1] at h
   refine Fs (Fg (lv S (rn_lss (S.tm rfl) (S.tm rfl)) rfl ?_));clear S;intro a S
   refine Ld ?_
   replace S := S.nk [] [(0, Am), (1, .func (.func 119) #[] #[.pointer (some ⟨Au, 0, none⟩)]), (7, iV (Ad.length : Int)), (8, iV (i1 : Int)), (9, bV (decide ((i1 : Int) < (Ad.length : Int))))] [] rfl (subR rfl)
   refine Tn (Fs (wp_cond_false ((S.tm rfl).trans (congrArg Value.bool (rng_nil hd1 hi1))) (wp_exit (then_x (then_x (x_same ?_))))))
   refine Tn ?_
   exact ⟨h, S.nf [] rfl trivial⟩
  | cons y1 ys1 =>
   rw [slices_IndexFunc_Race_state_race_c1_l1.eq_2] at h
   refine Fs (Fg (lv S (rn_lss (S.tm rfl) (S.tm rfl)) rfl ?_));clear S;intro a S
   refine Ld ?_
   replace S := S.nk [] [(0, Am), (1, .func (.func 119) #[] #[.pointer (some ⟨Au, 0, none⟩)]), (7, iV (Ad.length : Int)), (8, iV (i1 : Int)), (9, bV (decide ((i1 : Int) < (Ad.length : Int))))] [] rfl (subR rfl)
   refine Tn (Fs (wp_cond_true ((S.tm rfl).trans (congrArg Value.bool (rng_cons hd1 hi1))) (wp_skip (Tn (Fs (wp_block ?_))))))
   refine Fs (Fg (lv S (Rm (S.tm rfl)) rfl ?_));clear S;intro a S
   refine lv S (Ra (S.tm rfl)) rfl ?_;clear S;intro a S
   refine Ld (Tn (Fs (Fg (lv S (Rm (S.tm rfl)) rfl ?_))));clear S;intro a S
   refine lv S (Rm (S.tm rfl)) rfl ?_;clear S;intro a S
   refine lv S (Rm (S.tm rfl)) rfl ?_;clear S;intro a S
   obtain ⟨b1, o1, hm1, hr1⟩ := rn_indexT (a := a) (x := .tmp 12) (y := .tmp 13) (ty := 0) sl_81 By (get_mid hd1 hi1) rfl (S.tm rfl) (S.tm rfl)
   refine lv S (hr1 _) rfl ?_;clear S;intro a S
   clear hr1
   refine lv S (rn_ldA Tryz.isAgg80 Tryz.sizeOf80 (off := o1) (o := 0) (part := (GRace.enc y1)) rfl rfl (S.tm rfl) (hm1.at S.emb0)) rfl ?_;clear S;intro a S
   refine l_enter S (fun _ => run_callV (cap := [.pointer (some ⟨Au, 0, none⟩)]) (S.tm rfl) (vs := [.agg (GRace.enc y1).toArray]) ⟨(S.tm rfl), trivial⟩ Tryz.call119) (state_race_c1_ok _ y1 Au Av ((S.le_arg nil_sub) _ _ Cc) _ rfl) rfl ?_;clear S;intro v1 a w3 hv1 hk1 hn1 S
   subst hv1
   refine Ld (Tn (f_cond (S.tm rfl) (fun hb1 => ?_) (fun hb1 => ?_)))
   ·replace h := iteT h hb1
    refine Fs (Fg (lv S (Rm (S.tm rfl)) rfl ?_));clear S;intro a S
    refine lv S (Ra (S.tm rfl)) rfl ?_;clear S;intro a S
    refine Ld ?_
    replace S := S.nk [] [(4, iV (i1 : Int))] [] rfl ⟨rfl, trivial⟩
    refine Tn (wp_ret (blk_r (then_r (then_r (blk_r (then_r ?_))))))
    refine then_r ?_
    subst h
    exact f_ret S Tryz.results118 rfl rfl
   ·replace h := iteF h hb1
    refine wp_skip (blk_n (Tn (Fg (lv S (rn_add (S.tm rfl) rfl) rfl ?_))));clear S;intro a S
    refine lv S (Rm (S.tm rfl)) rfl ?_;clear S;intro a S
    refine Ld (Tn ?_)
    exact ⟨ys1, ⟨i1 + 1, ⟨_, (hd1).trans (List.append_cons _ _ _), by simp [hi1]⟩, h, S.nf [] rfl ⟨rfl, rfl, rfl, (congrArg (fun z => some (Value.int .i64 z)) (rng_next hd1 hi1 (slc_max By))), trivial⟩⟩, Nat.lt_succ_self _⟩
 clear S h;rintro a w2 ⟨h, S⟩;rw [hj1] at h;clear hj1 j1
 refine Tn (Fs (Fg (lv S (Ra rfl) rfl ?_)));clear S;intro a S
 refine Ld (Tn (wp_ret ?_))
 subst h
 exact f_ret S Tryz.results118 rfl rfl
set_option maxRecDepth 20000 in
theorem bits_Len32_ok (w : World) (V : Int) (r : Int) (h : bits_Len32 V = some r) :
    Calls Tryz.prog 171 [.int .u32 V].toArray w (Ret w [] fun _ v _ => v = iV r) := by
 refine f_enter [] [] Tryz.func171 rfl Tryz.ntmps171 rfl (by simp) (by simp [fps]) (by simp [fps]) fun a S => ?_
 unfold bits_Len32 at h
 replace S := S.nk [] [(0, .int .u32 V)] [] rfl ⟨rfl, trivial⟩
 refine Fs (Fg (lv S (Ra rfl) rfl ?_));clear S;intro a S
 refine Ld (Tn (Fs (Fs (Fg (lv S (Rm (S.tm rfl)) rfl ?_)))));clear S;intro a S
 refine lv S (rn_geq (S.tm rfl) rfl) rfl ?_;clear S;intro a S
 refine Ld (Tn ?_)
 obtain ⟨j1, hj1, h⟩ := joinE h
 refine f_join (fun a w' => ∃ x1 : Int, ∃ x2 : Int, j1 x1 x2 = some r ∧ Sx w [] nov [] [(0, .int .u32 x1), (2, iV x2)] 19 a w') ?_ ?_
 ·refine f_cond (S.tm rfl) (fun hb1 => ?_) (fun hb1 => ?_)
  ·replace h := iteT h hb1
   refine Fs (Fg (lv S (Rm (S.tm rfl)) rfl ?_));clear S;intro a S
   refine lv S (rn_shr (S.tm rfl) rfl (by decide)) rfl ?_;clear S;intro a S
   refine lv S (Ra (S.tm rfl)) rfl ?_;clear S;intro a S
   refine Ld (Tn (Fg (lv S (Ra rfl) rfl ?_)));clear S;intro a S
   refine Ld (Tn ?_)
   exact ⟨bitShr .u32 V 16, 16, h, S.nf [] rfl (subR rfl)⟩
  ·replace h := iteF h hb1
   refine wp_skip (Tn ?_)
   exact ⟨V, 0, h, S.nf [] rfl (subR rfl)⟩
 clear S h;rintro a w1 ⟨x1, x2, h, S⟩;rw [hj1] at h;clear hj1 j1
 refine Tn (Fs (Fs (Fg (lv S (Rm (S.tm rfl)) rfl ?_))));clear S;intro a S
 refine lv S (rn_geq (S.tm rfl) rfl) rfl ?_;clear S;intro a S
 refine Ld (Tn ?_)
 obtain ⟨j2, hj2, h⟩ := joinE h
 refine f_join (fun a w' => ∃ x3 : Int, ∃ x4 : Int, j2 x3 x4 = some r ∧ Sx w [] nov [] [(0, .int .u32 x3), (2, iV x4)] 19 a w') ?_ ?_
 ·refine f_cond (S.tm rfl) (fun hb2 => ?_) (fun hb2 => ?_)
  ·replace h := iteT h hb2
   refine Fs (Fg (lv S (Rm (S.tm rfl)) rfl ?_));clear S;intro a S
   refine lv S (rn_shr (S.tm rfl) rfl (by decide)) rfl ?_;clear S;intro a S
   refine lv S (Ra (S.tm rfl)) rfl ?_;clear S;intro a S
   refine Ld (Tn (Fg (lv S (Rm (S.tm rfl)) rfl ?_)));clear S;intro a S
   refine lv S (rn_add (S.tm rfl) rfl) rfl ?_;clear S;intro a S
   refine lv S (Ra (S.tm rfl)) rfl ?_;clear S;intro a S
   refine Ld (Tn ?_)
   exact ⟨bitShr .u32 x1 8, W (x2 + 8), h, S.nf [] rfl (subR rfl)⟩
  ·replace h := iteF h hb2
   refine wp_skip (Tn ?_)
   exact ⟨x1, x2, h, S.nf [] rfl (subR rfl)⟩
 clear S h;rintro a w2 ⟨x3, x4, h, S⟩;rw [hj2] at h;clear hj2 j2
 refine Tn (Fs (Fg (lv S (Rm (S.tm rfl)) rfl ?_)));clear S;intro a S
 refine lv S (Rm (S.tm rfl)) rfl ?_;clear S;intro a S
 refine lv S (rn_conv Tryz.underlying153 Tryz.underlying5 (S.tm rfl)) rfl ?_;clear S;intro a S
 obtain ⟨hc1, h⟩ := chkE h
 refine lv S (rn_sindexT Tryz.underlying9 rfl (S.tm rfl) hc1) rfl ?_;clear S;intro a S
 refine lv S (rn_conv Tryz.underlying5 Tryz.underlying3 (S.tm rfl)) rfl ?_;clear S;intro a S
 refine lv S (rn_add (S.tm rfl) (S.tm rfl)) rfl ?_;clear S;intro a S
 refine lv S (Ra (S.tm rfl)) rfl ?_;clear S;intro a S
 refine Ld (Tn (wp_ret ?_))
 obtain rfl := Option.some.inj h
 exact f_ret S Tryz.results171 rfl rfl
set_option maxRecDepth 20000 in
theorem bits_Len64_ok (w : World) (V : Int) (r : Int) (h : bits_Len64 V = some r) :
    Calls Tryz.prog 124 [.int .u64 V].toArray w (Ret w [] fun _ v _ => v = iV r) := by
 refine f_enter [] [] Tryz.func124 rfl Tryz.ntmps124 rfl (by simp) (by simp [fps]) (by simp [fps]) fun a S => ?_
 unfold bits_Len64 at h
 replace S := S.nk [] [(0, .int .u64 V)] [] rfl ⟨rfl, trivial⟩
 refine Fs (Fg (lv S (Ra rfl) rfl ?_));clear S;intro a S
 refine Ld (Tn (Fs (Fs (Fg (lv S (Rm (S.tm rfl)) rfl ?_)))));clear S;intro a S
 refine lv S (rn_geq (S.tm rfl) rfl) rfl ?_;clear S;intro a S
 refine Ld (Tn ?_)
 obtain ⟨j1, hj1, h⟩ := joinE h
 refine f_join (fun a w' => ∃ x1 : Int, ∃ x2 : Int, j1 x1 x2 = some r ∧ Sx w [] nov [] [(0, .int .u64 x1), (2, iV x2)] 25 a w') ?_ ?_
 ·refine f_cond (S.tm rfl) (fun hb1 => ?_) (fun hb1 => ?_)
  ·replace h := iteT h hb1
   refine Fs (Fg (lv S (Rm (S.tm rfl)) rfl ?_));clear S;intro a S
   refine lv S (rn_shr (S.tm rfl) rfl (by decide)) rfl ?_;clear S;intro a S
   refine lv S (Ra (S.tm rfl)) rfl ?_;clear S;intro a S
   refine Ld (Tn (Fg (lv S (Ra rfl) rfl ?_)));clear S;intro a S
   refine Ld (Tn ?_)
   exact ⟨bitShr .u64 V 32, 32, h, S.nf [] rfl (subR rfl)⟩
  ·replace h := iteF h hb1
   refine wp_skip (Tn ?_)
   exact ⟨V, 0, h, S.nf [] rfl (subR rfl)⟩
 clear S h;rintro a w1 ⟨x1, x2, h, S⟩;rw [hj1] at h;clear hj1 j1
 refine Tn (Fs (Fs (Fg (lv S (Rm (S.tm rfl)) rfl ?_))));clear S;intro a S
 refine lv S (rn_geq (S.tm rfl) rfl) rfl ?_;clear S;intro a S
 refine Ld (Tn ?_)
 obtain ⟨j2, hj2, h⟩ := joinE h
 refine f_join (fun a w' => ∃ x3 : Int, ∃ x4 : Int, j2 x3 x4 = some r ∧ Sx w [] nov [] [(0, .int .u64 x3), (2, iV x4)] 25 a w') ?_ ?_
 ·refine f_cond (S.tm rfl) (fun hb2 => ?_) (fun hb2 => ?_)
  ·replace h := iteT h hb2
   refine Fs (Fg (lv S (Rm (S.tm rfl)) rfl ?_));clear S;intro a S
   refine lv S (rn_shr (S.tm rfl) rfl (by decide)) rfl ?_;clear S;intro a S
   refine lv S (Ra (S.tm rfl)) rfl ?_;clear S;intro a S
   refine Ld (Tn (Fg (lv S (Rm (S.tm rfl)) rfl ?_)));clear S;intro a S
   refine lv S (rn_add (S.tm rfl) rfl) rfl ?_;clear S;intro a S
   refine lv S (Ra (S.tm rfl)) rfl ?_;clear S;intro a S
   refine Ld (Tn ?_)
   exact ⟨bitShr .u64 x1 16, W (x2 + 16), h, S.nf [] rfl (subR rfl)⟩
  ·replace h := iteF h hb2
   refine wp_skip (Tn ?_)
   exact ⟨x1, x2, h, S.nf [] rfl (subR rfl)⟩
 clear S h;rintro a w2 ⟨x3, x4, h, S⟩;rw [hj2] at h;clear hj2 j2
 refine Tn (Fs (Fs (Fg (lv S (Rm (S.tm rfl)) rfl ?_))));clear S;intro a S
 refine lv S (rn_geq (S.tm rfl) rfl) rfl ?_;clear S;intro a S
 refine Ld (Tn ?_)
 obtain ⟨j3, hj3, h⟩ := joinE h
 refine f_join (fun a w' => ∃ x5 : Int, ∃ x6 : Int, j3 x5 x6 = some r ∧ Sx w [] nov [] [(0, .int .u64 x5), (2, iV x6)] 25 a w') ?_ ?_
 ·refine f_cond (S.tm rfl) (fun hb3 => ?_) (fun hb3 => ?_)
  ·replace h := iteT h hb3
   refine Fs (Fg (lv S (Rm (S.tm rfl)) rfl ?_));clear S;intro a S
   refine lv S (rn_shr (S.tm rfl) rfl (by decide)) rfl ?_;clear S;intro a S
   refine lv S (Ra (S.tm rfl)) rfl ?_;clear S;intro a S
   refine Ld (Tn (Fg (lv S (Rm (S.tm rfl)) rfl ?_)));clear S;intro a S
   refine lv S (rn_add (S.tm rfl) rfl) rfl ?_;clear S;intro a S
   refine lv S (Ra (S.tm rfl)) rfl ?_;clear S;intro a S
   refine Ld (Tn ?_)
   exact ⟨bitShr .u64 x3 8, W (x4 + 8), h, S.nf [] rfl (subR rfl)⟩
  ·replace h := iteF h hb3
   refine wp_skip (Tn ?_)
   exact ⟨x3, x4, h, S.nf [] rfl (subR rfl)⟩
 clear S h;rintro a w3 ⟨x5, x6, h, S⟩;rw [hj3] at h;clear hj3 j3
 refine Tn (Fs (Fg (lv S (Rm (S.tm rfl)) rfl ?_)));clear S;intro a S
 refine lv S (Rm (S.tm rfl)) rfl ?_;clear S;intro a S
 refine lv S (rn_conv Tryz.underlying128 Tryz.underlying5 (S.tm rfl)) rfl ?_;clear S;intro a S
 obtain ⟨hc1, h⟩ := chkE h
 refine lv S (rn_sindexT Tryz.underlying9 rfl (S.tm rfl) hc1) rfl ?_;clear S;intro a S
 refine lv S (rn_conv Tryz.underlying5 Tryz.underlying3 (S.tm rfl)) rfl ?_;clear S;intro a S
 refine lv S (rn_add (S.tm rfl) (S.tm rfl)) rfl ?_;clear S;intro a S
 refine lv S (Ra (S.tm rfl)) rfl ?_;clear S;intro a S
 refine Ld (Tn (wp_ret ?_))
 obtain rfl := Option.some.inj h
 exact f_ret S Tryz.results124 rfl rfl
theorem bits_Len_ok (w : World) (V : Int) (r : Int) (h : bits_Len V = some r) :
    Calls Tryz.prog 151 [.int .u64 V].toArray w (Ret w [] fun _ v _ => v = iV r) := by
 refine f_enter [] [] Tryz.func151 rfl Tryz.ntmps151 rfl (by simp) (by simp [fps]) (by simp [fps]) fun a S => ?_
 unfold bits_Len at h
 replace S := S.nk [] [(0, .int .u64 V)] [] rfl ⟨rfl, trivial⟩
 refine Fs (Fg (lv S (Ra rfl) rfl ?_));clear S;intro a S
 refine Ld (Tn (Fs (f_cond rfl (fun hb1 => ?_) (fun hb1 => ?_))))
 ·replace h := iteT h hb1
  refine Fs (Fg (lv S (Rm (S.tm rfl)) rfl ?_));clear S;intro a S
  refine lv S (rn_conv Tryz.underlying126 Tryz.underlying153 (S.tm rfl)) rfl ?_;clear S;intro a S
  obtain ⟨r1, hr1, h⟩ := bindE h
  refine l_enter S (fun _ => run_call (vs := [.int .u32 (IntKind.wrap .u32 V)]) ⟨(S.tm rfl), trivial⟩ Tryz.call171) (bits_Len32_ok _ (IntKind.wrap .u32 V) _ hr1) rfl ?_;clear S;intro v1 a w1 hv1 hk1 hn1 S
  subst hv1
  refine lv S (Ra (S.tm rfl)) rfl ?_;clear S;intro a S
  refine Ld (Tn (wp_ret (then_r ?_)))
  obtain rfl := Option.some.inj h
  exact f_ret S Tryz.results151 rfl rfl
 ·replace h := iteF h hb1
  refine wp_skip (Tn (Fs (Fg (lv S (Rm (S.tm rfl)) rfl ?_))));clear S;intro a S
  obtain ⟨r2, hr2, h⟩ := bindE h
  refine l_enter S (fun _ => run_call (vs := [.int .u64 V]) ⟨(S.tm rfl), trivial⟩ Tryz.call124) (bits_Len64_ok _ V _ hr2) rfl ?_;clear S;intro v2 a w2 hv2 hk2 hn2 S
  subst hv2
  refine lv S (Ra (S.tm rfl)) rfl ?_;clear S;intro a S
  refine Ld (Tn (wp_ret ?_))
  obtain rfl := Option.some.inj h
  exact f_ret S Tryz.results151 rfl rfl
theorem state_entered_c1_ok (w : World) (Aq : GDeed) (Ar : GDeed) (r : Int) (h : state_entered_c1 Aq Ar = r) :
    Calls Tryz.prog 121 [.agg (GDeed.enc Aq).toArray, .agg (GDeed.enc Ar).toArray].toArray w (Ret w [] fun _ v _ => v = iV r) := by
 refine f_enter [] [] Tryz.func121 rfl Tryz.ntmps121 rfl (by simp) (by simp [fps]) (by simp [fps]) fun a S => ?_
 unfold state_entered_c1 at h
 replace S := S.nk [] [(0, .agg (GDeed.enc Aq).toArray), (1, .agg (GDeed.enc Ar).toArray)] [] rfl (subR rfl)
 refine Fs (Fg (l_box S (S.tm rfl) (cs := (GDeed.enc Aq)) rfl rfl ?_));clear S;intro a w1 b1 hz1 hk1 S
 refine l_box S (S.tm rfl) (cs := (GDeed.enc Ar)) rfl rfl ?_;clear S;intro a w2 b2 hz2 hk2 S
 refine lv S (Ra rfl) rfl ?_;clear S;intro a S
 refine Ld (Tn (Fs (Fg (lv S (rn_fld fa_39_4 (S.tm rfl)) rfl ?_))));clear S;intro a S
 refine lv S (rn_load Tryz.isAgg9 (S.tm rfl) (S.cell (i := 1) rfl rfl)) rfl ?_;clear S;intro a S
 refine lv S (rn_fld fa_39_4 (S.tm rfl)) rfl ?_;clear S;intro a S
 refine lv S (rn_load Tryz.isAgg9 (S.tm rfl) (S.cell (i := 0) rfl rfl)) rfl ?_;clear S;intro a S
 refine l_enter S (fun _ => run_call (vs := [sV Aq.Who, sV Ar.Who]) ⟨(S.tm rfl), (S.tm rfl), trivial⟩ Tryz.call52) (strings_Compare_ok _ Aq.Who Ar.Who _ rfl) rfl ?_;clear S;intro v1 a w3 hv1 hk3 hn1 S
 subst hv1
 refine lv S (Ra (S.tm rfl)) rfl ?_;clear S;intro a S
 refine Ld (Tn (wp_ret ?_))
 subst h
 exact f_ret S Tryz.results121 rfl rfl
set_option maxRecDepth 20000 in
theorem slices_insertionSortCmpFunc_Deed_state_entered_c1_ok (w : World) (Z : Value) (As : List GDeed) (Cj : (LEnt.own Z 39 11 As.length (As.flatMap GDeed.enc)).holds w) (Aq : Int) (Ar : Int) (r : (List GDeed)) (h : slices_insertionSortCmpFunc_Deed_state_entered_c1 As Aq Ar = some r) :
    Calls Tryz.prog 71 [Z, iV Aq, iV Ar, .func (.func 121) #[] #[]].toArray w (Ret w (Z.ownBlock.toList) fun _ v w' => (LEnt.own Z 39 11 r.length (r.flatMap GDeed.enc)).holds w' ∧ v = .tuple #[]) := by
 refine f_enter (Z.ownBlock.toList) [.own Z 39 11 As.length (As.flatMap GDeed.enc)] Tryz.func71 rfl Tryz.ntmps71 rfl (fun e he => by simp only [List.mem_singleton] at he;subst he;exact Cj) (fps_one_nodup _) (fps_one_sub _) fun a S => ?_
 unfold slices_insertionSortCmpFunc_Deed_state_entered_c1 at h
 replace S := S.nk [.own Z 39 11 As.length (As.flatMap GDeed.enc)] [(0, Z), (1, iV Aq), (2, iV Ar), (3, .func (.func 121) #[] #[])] [true] rfl (subR rfl)
 refine Fs (Fg (lv S (Rm (S.tm rfl)) rfl ?_));clear S;intro a S
 refine lv S (rn_add (S.tm rfl) rfl) rfl ?_;clear S;intro a S
 refine lv S (Ra (S.tm rfl)) rfl ?_;clear S;intro a S
 refine Ld (Tn ?_)
 replace S := S.nk [.own Z 39 11 As.length (As.flatMap GDeed.enc)] [(0, Z), (1, iV Aq), (2, iV Ar), (3, .func (.func 121) #[] #[]), (8, iV (W (Aq + 1)))] [true] rfl (subR rfl)
 obtain ⟨j1, hj1, h⟩ := joinE h
 refine f_join (fun a w' => ∃ x1 : List GDeed, j1 x1 = some r ∧ Sx w (Z.ownBlock.toList) nov [.own Z 39 11 x1.length (x1.flatMap GDeed.enc)] [] 53 a w') ?_ ?_
 ·refine wp_block (f_loop (fun (m1 : Nat) a w' => ∃ x1 : List GDeed, ∃ x2 : Int, slices_insertionSortCmpFunc_Deed_state_entered_c1_l1 Ar Aq j1 m1 x1 x2 = some r ∧ Sx w (Z.ownBlock.toList) nov [.own Z 39 11 x1.length (x1.flatMap GDeed.enc)] [(0, Z), (1, iV Aq), (2, iV Ar), (3, .func (.func 121) #[] #[]), (8, iV x2)] 53 a w') id ((Ar - (W (Aq + 1))).toNat + 2) ⟨As, W (Aq + 1), h, S.nf [true] rfl (subR rfl)⟩ ?_)
  clear S h;rintro m1 a w1 ⟨x1, x2, h, S⟩
  cases m1 with
  | zero => rw [slices_insertionSortCmpFunc_Deed_state_entered_c1_l1.eq_1] at h;cases h
  | succ m1 =>
   rw [slices_insertionSortCmpFunc_Deed_state_entered_c1_l1.eq_2] at h
   refine Fs (Fs (Fg (lv S (Rm (S.tm rfl)) rfl ?_)));clear S;intro a S
   refine lv S (Rm (S.tm rfl)) rfl ?_;clear S;intro a S
   refine lv S (rn_lss (S.tm rfl) (S.tm rfl)) rfl ?_;clear S;intro a S
   refine Ld (Tn (f_cond (S.tm rfl) (fun hb1 => ?_) (fun hb1 => ?_)))
   ·replace h := iteT h hb1
    refine wp_skip (Tn (Fs (wp_block (Fs (Fg (lv S (Rm (S.tm rfl)) rfl ?_))))));clear S;intro a S
    refine lv S (Ra (S.tm rfl)) rfl ?_;clear S;intro a S
    refine Ld (Tn ?_)
    replace S := S.nk [.own Z 39 11 x1.length (x1.flatMap GDeed.enc)] [(0, Z), (1, iV Aq), (2, iV Ar), (3, .func (.func 121) #[] #[]), (8, iV x2), (9, iV x2)] [true] rfl (subR rfl)
    obtain ⟨j2, hj2, h⟩ := joinE h
    refine f_join (fun a w' => ∃ x3 : List GDeed, j2 x3 = some r ∧ Sx w (Z.ownBlock.toList) nov [.own Z 39 11 x3.length (x3.flatMap GDeed.enc)] [(0, Z), (1, iV Aq), (2, iV Ar), (3, .func (.func 121) #[] #[]), (8, iV x2)] 53 a w') ?_ ?_
    ·refine wp_block (f_loop (fun (m2 : Nat) a w' => ∃ x3 : List GDeed, ∃ x4 : Int, slices_insertionSortCmpFunc_Deed_state_entered_c1_l2 Aq j2 m2 x3 x4 = some r ∧ Sx w (Z.ownBlock.toList) nov [.own Z 39 11 x3.length (x3.flatMap GDeed.enc)] [(0, Z), (1, iV Aq), (2, iV Ar), (3, .func (.func 121) #[] #[]), (8, iV x2), (9, iV x4)] 53 a w') id ((x2 - Aq).toNat + 2) ⟨x1, x2, h, S.nf [true] rfl (subR rfl)⟩ ?_)
     clear S h;rintro m2 a w3 ⟨x3, x4, h, S⟩
     cases m2 with
     | zero => rw [slices_insertionSortCmpFunc_Deed_state_entered_c1_l2.eq_1] at h;cases h
     | succ m2 =>
      rw [slices_insertionSortCmpFunc_Deed_state_entered_c1_l2.eq_2] at h
      refine Fs (Fs ?_)
      obtain ⟨j3, hj3, h⟩ := joinE h
      refine f_join (fun a w' => ∃ x5 : Bool, j3 x5 = some r ∧ Sx w (Z.ownBlock.toList) nov [.own Z 39 11 x3.length (x3.flatMap GDeed.enc)] [(0, Z), (1, iV Aq), (2, iV Ar), (3, .func (.func 121) #[] #[]), (8, iV x2), (9, iV x4), (34, bV x5)] 53 a w') ?_ ?_
      ·rcases Bool.eq_false_or_eq_true (decide (Aq < x4)) with hb2 | hb2
       ·replace h := iteT h hb2
        obtain ⟨hc1, h⟩ := chkE h
        obtain ⟨hc2, h⟩ := chkE h
        refine d_region [] ([]) Tryz.mixed S rfl (by kernel_rfl) ?_;clear S;intro w7 hk2 hsel S
        refine d_quiet 0 S hsel rfl rfl rfl (by kernel_rfl) (by kernel_rfl) rfl (fun _ hw => (Rm (S.tm rfl))) ?_;clear S;intro a S
        refine d_quiet 1 S hsel rfl rfl rfl (by kernel_rfl) (by kernel_rfl) rfl (fun _ hw => (Rm (S.tm rfl))) ?_;clear S;intro a S
        refine d_quiet 2 S hsel rfl rfl rfl (by kernel_rfl) (by kernel_rfl) rfl (fun _ hw => (rn_gtr (S.tm rfl) (S.tm rfl))) ?_;clear S;intro a S
        refine d_quiet 3 S hsel rfl rfl rfl (by kernel_rfl) (by kernel_rfl) rfl (fun _ hw => (Rm (S.tm rfl))) ?_;clear S;intro a S
        refine d_quiet_g 4 S hsel rfl rfl rfl rfl hb2 rfl rfl (by kernel_rfl) (by kernel_rfl) rfl (fun _ hw => (Rm (S.tm rfl))) ?_;clear S;intro a S
        refine d_quiet_g 5 S hsel rfl rfl rfl rfl hb2 rfl rfl (by kernel_rfl) (by kernel_rfl) rfl (fun _ hw => (Rm (S.tm rfl))) ?_;clear S;intro a S
        refine d_quiet_g 6 S hsel rfl rfl rfl rfl hb2 rfl rfl (by kernel_rfl) (by kernel_rfl) rfl (fun _ hw => (Rm (S.tm rfl))) ?_;clear S;intro a S
        obtain ⟨b3, hg3, hr3⟩ := rn_indexS (a := a) (x := .tmp 23) (y := .tmp 24) (ty := 0) sl_26 GDeed.enc_ok S (i := 0) rfl (inB_get hc1).1 (inB_get hc1).2 (S.tm rfl) (S.tm rfl)
        refine d_quiet_g 7 S hsel rfl rfl rfl rfl hb2 rfl rfl (by kernel_rfl) (by kernel_rfl) rfl (fun _ hw => (hr3 _)) ?_;clear S;intro a S
        clear hr3
        refine d_quiet_g 8 S hsel rfl rfl rfl rfl hb2 rfl rfl (by kernel_rfl) (by kernel_rfl) rfl (fun _ hw => (rn_ldA Tryz.isAgg39 Tryz.sizeOf39 (off := x4.toNat * 11) (o := 0) (part := (GDeed.enc (nth x3 x4))) rfl rfl (S.tm rfl) ((own_mem GDeed.enc_ok S (i := 0) rfl hg3 (inB_get hc1).1 (ne_nil (e' := .own Z 39 11 x3.length (x3.flatMap GDeed.enc)))).kept hw))) ?_;clear S;intro a S
        refine d_quiet_g 9 S hsel rfl rfl rfl rfl hb2 rfl rfl (by kernel_rfl) (by kernel_rfl) rfl (fun _ hw => (Rm (S.tm rfl))) ?_;clear S;intro a S
        refine d_quiet_g 10 S hsel rfl rfl rfl rfl hb2 rfl rfl (by kernel_rfl) (by kernel_rfl) rfl (fun _ hw => (Rm (S.tm rfl))) ?_;clear S;intro a S
        refine d_quiet_g 11 S hsel rfl rfl rfl rfl hb2 rfl rfl (by kernel_rfl) (by kernel_rfl) rfl (fun _ hw => (rn_sub (S.tm rfl) rfl)) ?_;clear S;intro a S
        obtain ⟨b4, hg4, hr4⟩ := rn_indexS (a := a) (x := .tmp 27) (y := .tmp 29) (ty := 0) sl_26 GDeed.enc_ok S (i := 0) rfl (inB_get hc2).1 (inB_get hc2).2 (S.tm rfl) (S.tm rfl)
        refine d_quiet_g 12 S hsel rfl rfl rfl rfl hb2 rfl rfl (by kernel_rfl) (by kernel_rfl) rfl (fun _ hw => (hr4 _)) ?_;clear S;intro a S
        clear hr4
        refine d_quiet_g 13 S hsel rfl rfl rfl rfl hb2 rfl rfl (by kernel_rfl) (by kernel_rfl) rfl (fun _ hw => (rn_ldA Tryz.isAgg39 Tryz.sizeOf39 (off := ((W (x4 - 1)).toNat) * 11) (o := 0) (part := (GDeed.enc (nth x3 (W (x4 - 1))))) rfl rfl (S.tm rfl) ((own_mem GDeed.enc_ok S (i := 0) rfl hg4 (inB_get hc2).1 (ne_nil (e' := .own Z 39 11 x3.length (x3.flatMap GDeed.enc)))).kept hw))) ?_;clear S;intro a S
        refine d_loud1 14 (by kernel_rfl) rfl (l_want S rfl rfl rfl hb2 (l_enter S (fun _ => run_callV (cap := []) (S.tm rfl) (vs := [.agg (GDeed.enc (nth x3 x4)).toArray, .agg (GDeed.enc (nth x3 (W (x4 - 1)))).toArray]) ⟨(S.tm rfl), (S.tm rfl), trivial⟩ Tryz.call121) (state_entered_c1_ok _ (nth x3 x4) (nth x3 (W (x4 - 1))) _ rfl) rfl ?_));clear S;intro v2 a w8 hv2 hk3 hn2 S
        subst hv2
        refine Ld (d_next hk3 (d_rest [15, 16] hsel (by kernel_rfl) rfl ?_))
        clear hsel
        refine s_want S rfl rfl rfl rfl hb2 (s_lv0 S (rn_lss (S.tm rfl) rfl) rfl ?_);clear S;intro a S
        refine s_lv S rfl (rn_pick_b hb2 (S.tm rfl) (S.tm rfl)) rfl ?_;clear S;intro a S
        refine s_done ?_
        replace S := S.nk [.own Z 39 11 x3.length (x3.flatMap GDeed.enc)] [(0, Z), (1, iV Aq), (2, iV Ar), (3, .func (.func 121) #[] #[]), (8, iV x2), (9, iV x4), (22, .func (.func 121) #[] #[]), (23, Z), (24, iV x4), (25, .pointer (some ⟨b3, x4.toNat * 11, none⟩)), (26, .agg (GDeed.enc (nth x3 x4)).toArray), (27, Z), (28, iV x4), (29, iV (W (x4 - 1))), (30, .pointer (some ⟨b4, ((W (x4 - 1)).toNat) * 11, none⟩)), (31, .agg (GDeed.enc (nth x3 (W (x4 - 1)))).toArray), (32, iV (state_entered_c1 (nth x3 x4) (nth x3 (W (x4 - 1))))), (33, bV (decide ((state_entered_c1 (nth x3 x4) (nth x3 (W (x4 - 1)))) < 0))), (34, bV (decide ((state_entered_c1 (nth x3 x4) (nth x3 (W (x4 - 1)))) < 0)))] [true] rfl (subR rfl)
        refine Tn ?_
        exact ⟨decide ((state_entered_c1 (nth x3 x4) (nth x3 (W (x4 - 1)))) < 0), h, S.nf [true] rfl (subR rfl)⟩
       ·replace h := iteF h hb2
        refine d_region [] ([]) Tryz.mixed S rfl (by kernel_rfl) ?_;clear S;intro w9 hk4 hsel S
        refine d_rest [0, 1, 2, 3, 4, 5, 6, 7, 8, 9, 10, 11, 12, 13, 14, 15, 16] hsel (by kernel_rfl) rfl ?_
        clear hsel
        refine s_lv S rfl (Rm (S.tm rfl)) rfl ?_;clear S;intro a S
        refine s_lv S rfl (Rm (S.tm rfl)) rfl ?_;clear S;intro a S
        refine s_lv S rfl (rn_gtr (S.tm rfl) (S.tm rfl)) rfl ?_;clear S;intro a S
        refine s_lv S rfl (Rm (S.tm rfl)) rfl ?_;clear S;intro a S
        iterate 12 (refine s_skip S rfl rfl rfl rfl (neq_f hb2) rfl ?_ rfl;clear S;intro a S)
        refine s_lv S rfl (rn_pick_c hb2 (S.tm rfl) rfl) rfl ?_;clear S;intro a S
        refine s_done ?_
        replace S := S.nk [.own Z 39 11 x3.length (x3.flatMap GDeed.enc)] [(0, Z), (1, iV Aq), (2, iV Ar), (3, .func (.func 121) #[] #[]), (8, iV x2), (9, iV x4), (34, bV false)] [true] rfl (subR rfl)
        refine Tn ?_
        exact ⟨false, h, S.nf [true] rfl (subR rfl)⟩
      clear S h;rintro a w5 ⟨x5, h, S⟩;rw [hj3] at h;clear hj3 j3
      refine Tn (f_cond (S.tm rfl) (fun hb3 => ?_) (fun hb3 => ?_))
      ·replace h := iteT h hb3
       refine wp_skip (Tn (Fs (wp_block ?_)))
       obtain ⟨hc3, h⟩ := chkE h
       obtain ⟨hc4, h⟩ := chkE h
       obtain ⟨hc5, h⟩ := chkE h
       obtain ⟨hc6, h⟩ := chkE h
       refine d_region [15, 17] ([]) Tryz.mixed S rfl (by kernel_rfl) ?_;clear S;intro w14 hk9 hsel S
       refine d_pure 0 S hsel rfl rfl (by kernel_rfl) (by kernel_rfl) rfl (fun _ => (Rm (S.tm rfl))) ?_;clear S;intro a S
       refine d_pure 1 S hsel rfl rfl (by kernel_rfl) (by kernel_rfl) rfl (fun _ => (Rm (S.tm rfl))) ?_;clear S;intro a S
       refine d_pure 2 S hsel rfl rfl (by kernel_rfl) (by kernel_rfl) rfl (fun _ => (Rm (S.tm rfl))) ?_;clear S;intro a S
       refine d_pure 3 S hsel rfl rfl (by kernel_rfl) (by kernel_rfl) rfl (fun _ => (Rm (S.tm rfl))) ?_;clear S;intro a S
       refine d_pure 4 S hsel rfl rfl (by kernel_rfl) (by kernel_rfl) rfl (fun _ => (rn_sub (S.tm rfl) rfl)) ?_;clear S;intro a S
       refine d_pure 5 S hsel rfl rfl (by kernel_rfl) (by kernel_rfl) rfl (fun _ => (Rm (S.tm rfl))) ?_;clear S;intro a S
       refine d_pure 6 S hsel rfl rfl (by kernel_rfl) (by kernel_rfl) rfl (fun _ => (Rm (S.tm rfl))) ?_;clear S;intro a S
       refine d_pure 7 S hsel rfl rfl (by kernel_rfl) (by kernel_rfl) rfl (fun _ => (rn_sub (S.tm rfl) rfl)) ?_;clear S;intro a S
       obtain ⟨b9, hg9, hr9⟩ := rn_indexS (a := a) (x := .tmp 42) (y := .tmp 44) (ty := 0) sl_26 GDeed.enc_ok S (i := 0) rfl (inB_get hc3).1 (inB_get hc3).2 (S.tm rfl) (S.tm rfl)
       refine d_pure 8 S hsel rfl rfl (by kernel_rfl) (by kernel_rfl) rfl (fun _ => (hr9 _)) ?_;clear S;intro a S
       clear hr9
       refine d_quiet 9 S hsel rfl (by kernel_rfl) (by kernel_rfl) (by kernel_rfl) (by kernel_rfl) rfl (fun _ hw => (rn_ldA Tryz.isAgg39 Tryz.sizeOf39 (off := ((W (x4 - 1)).toNat) * 11) (o := 0) (part := (GDeed.enc (nth x3 (W (x4 - 1))))) rfl rfl (S.tm rfl) ((own_mem GDeed.enc_ok S (i := 0) rfl hg9 (inB_get hc3).1 (ne_nil (e' := .own Z 39 11 x3.length (x3.flatMap GDeed.enc)))).kept hw))) ?_;clear S;intro a S
       refine d_pure 10 S hsel rfl rfl (by kernel_rfl) (by kernel_rfl) rfl (fun _ => (Rm (S.tm rfl))) ?_;clear S;intro a S
       refine d_pure 11 S hsel rfl rfl (by kernel_rfl) (by kernel_rfl) rfl (fun _ => (Rm (S.tm rfl))) ?_;clear S;intro a S
       obtain ⟨b10, hg10, hr10⟩ := rn_indexS (a := a) (x := .tmp 47) (y := .tmp 48) (ty := 0) sl_26 GDeed.enc_ok S (i := 0) rfl (inB_get hc4).1 (inB_get hc4).2 (S.tm rfl) (S.tm rfl)
       refine d_pure 12 S hsel rfl rfl (by kernel_rfl) (by kernel_rfl) rfl (fun _ => (hr10 _)) ?_;clear S;intro a S
       clear hr10
       refine d_quiet 13 S hsel rfl (by kernel_rfl) (by kernel_rfl) (by kernel_rfl) (by kernel_rfl) rfl (fun _ hw => (rn_ldA Tryz.isAgg39 Tryz.sizeOf39 (off := x4.toNat * 11) (o := 0) (part := (GDeed.enc (nth x3 x4))) rfl rfl (S.tm rfl) ((own_mem GDeed.enc_ok S (i := 0) rfl hg10 (inB_get hc4).1 (ne_nil (e' := .own Z 39 11 x3.length (x3.flatMap GDeed.enc)))).kept hw))) ?_;clear S;intro a S
       obtain ⟨b11, hg11, hr11⟩ := rn_indexS (a := a) (x := .tmp 37) (y := .tmp 38) (ty := 0) sl_26 GDeed.enc_ok S (i := 0) rfl (inB_get hc5).1 (inB_get hc5).2 (S.tm rfl) (S.tm rfl)
       refine d_pure 14 S hsel rfl rfl (by kernel_rfl) (by kernel_rfl) rfl (fun _ => (hr11 _)) ?_;clear S;intro a S
       clear hr11
       refine d_loudB 15 (Z.ownBlock.toList) rfl (by kernel_rfl) rfl (l_storeO (c := 0) (j := x4.toNat) (nth x3 (W (x4 - 1))) GDeed.enc_ok S (S.tm rfl) (S.tm rfl) (i := 0) rfl hg11 (inB_get hc5).1 Tryz.sizeOf39 (vs := [sV ((nth x3 (W (x4 - 1))).Site), iV ((nth x3 (W (x4 - 1))).No), iV ((nth x3 (W (x4 - 1))).At), iV ((nth x3 (W (x4 - 1))).Kind), sV ((nth x3 (W (x4 - 1))).Who), sV ((nth x3 (W (x4 - 1))).Club), sV ((nth x3 (W (x4 - 1))).Race), iV ((nth x3 (W (x4 - 1))).Time), iV ((nth x3 (W (x4 - 1))).Fault), sV ((nth x3 (W (x4 - 1))).Of), iV ((nth x3 (W (x4 - 1))).Other)]) rfl rfl rfl rfl rfl ?_);clear S;intro w16 hk11 S
       refine Ld (d_nextB ?_)
       obtain ⟨b12, hg12, hr12⟩ := rn_indexS (a := a) (x := .tmp 39) (y := .tmp 41) (ty := 0) sl_26 GDeed.enc_ok S (i := 0) rfl (inB_get hc6).1 (inB_get hc6).2 (S.tm rfl) (S.tm rfl)
       refine d_quiet 16 S hsel rfl rfl rfl (by kernel_rfl) (by kernel_rfl) rfl (fun _ hw => (hr12 _)) ?_;clear S;intro a S
       clear hr12
       refine d_loud1 17 (by kernel_rfl) rfl (l_storeO (c := 0) (j := (W (x4 - 1)).toNat) (nth x3 x4) GDeed.enc_ok S (S.tm rfl) (S.tm rfl) (i := 0) rfl hg12 (inB_get hc6).1 Tryz.sizeOf39 (vs := [sV ((nth x3 x4).Site), iV ((nth x3 x4).No), iV ((nth x3 x4).At), iV ((nth x3 x4).Kind), sV ((nth x3 x4).Who), sV ((nth x3 x4).Club), sV ((nth x3 x4).Race), iV ((nth x3 x4).Time), iV ((nth x3 x4).Fault), sV ((nth x3 x4).Of), iV ((nth x3 x4).Other)]) rfl rfl rfl rfl rfl ?_);clear S;intro w18 hk13 S
       refine Ld (d_next hk13 (d_end (by kernel_rfl) ?_))
       clear hsel
       replace S := S.nk [.own Z 39 11 ((x3.set x4.toNat (nth x3 (W (x4 - 1)))).set ((W (x4 - 1)).toNat) (nth x3 x4)).length (((x3.set x4.toNat (nth x3 (W (x4 - 1)))).set ((W (x4 - 1)).toNat) (nth x3 x4)).flatMap GDeed.enc)] [(0, Z), (1, iV Aq), (2, iV Ar), (3, .func (.func 121) #[] #[]), (8, iV x2), (9, iV x4)] [true] rfl (subR rfl)
       refine blk_n (Tn (Fg (lv S (Rm (S.tm rfl)) rfl ?_)));clear S;intro a S
       refine lv S (rn_sub (S.tm rfl) rfl) rfl ?_;clear S;intro a S
       refine lv S (Ra (S.tm rfl)) rfl ?_;clear S;intro a S
       refine Ld (Tn ?_)
       exact ⟨m2, ⟨((x3.set x4.toNat (nth x3 (W (x4 - 1)))).set ((W (x4 - 1)).toNat) (nth x3 x4)), W (x4 - 1), h, S.nf [true] rfl ⟨rfl, rfl, rfl, rfl, rfl, rfl, trivial⟩⟩, Nat.lt_succ_self _⟩
      ·replace h := iteF h hb3
       refine wp_exit (then_x (then_x (x_same (Tn ?_))))
       exact ⟨x3, h, S.nf [true] rfl (subR rfl)⟩
    clear S h;rintro a w4 ⟨x3, h, S⟩;rw [hj2] at h;clear hj2 j2
    refine blk_n (Tn (Fg (lv S (Rm (S.tm rfl)) rfl ?_)));clear S;intro a S
    refine lv S (rn_add (S.tm rfl) rfl) rfl ?_;clear S;intro a S
    refine lv S (Ra (S.tm rfl)) rfl ?_;clear S;intro a S
    refine Ld (Tn ?_)
    exact ⟨m1, ⟨x3, W (x2 + 1), h, S.nf [true] rfl ⟨rfl, rfl, rfl, rfl, rfl, trivial⟩⟩, Nat.lt_succ_self _⟩
   ·replace h := iteF h hb1
    refine wp_exit (then_x (then_x (x_same (Tn ?_))))
    exact ⟨x1, h, S.nf [true] rfl trivial⟩
 clear S h;rintro a w2 ⟨x1, h, S⟩;rw [hj1] at h;clear hj1 j1
 obtain rfl := Option.some.inj h
 exact f_ret0 S Tryz.results71 ⟨(S.holds _ (List.mem_of_getElem? (i := 0) rfl)), rfl⟩
theorem slices_pdqsortCmpFunc_Deed_state_entered_c1_ok (w : World) (Z : Value) (As : List GDeed) (Cj : (LEnt.own Z 39 11 As.length (As.flatMap GDeed.enc)).holds w) (Aq : Int) (Ar : Int) (Cx : Int) (r : (List GDeed)) (h : slices_pdqsortCmpFunc_Deed_state_entered_c1 As Aq Ar Cx = some r) :
    Calls Tryz.prog 150 [Z, iV Aq, iV Ar, iV Cx, .func (.func 121) #[] #[]].toArray w (Ret w (Z.ownBlock.toList) fun _ v w' => (LEnt.own Z 39 11 r.length (r.flatMap GDeed.enc)).holds w' ∧ v = .tuple #[]) := by
 refine f_enter (Z.ownBlock.toList) [.own Z 39 11 As.length (As.flatMap GDeed.enc)] Tryz.func150 rfl Tryz.ntmps150 rfl (fun e he => by simp only [List.mem_singleton] at he;subst he;exact Cj) (fps_one_nodup _) (fps_one_sub _) fun a S => ?_
 unfold slices_pdqsortCmpFunc_Deed_state_entered_c1 at h
 replace S := S.nk [.own Z 39 11 As.length (As.flatMap GDeed.enc)] [(0, Z), (1, iV Aq), (2, iV Ar), (3, iV Cx), (4, .func (.func 121) #[] #[])] [true] rfl (subR rfl)
 refine Fs (Fg (lv S (Ra rfl) rfl ?_));clear S;intro a S
 refine Ld (Tn (Fs (Fg (lv S (Ra rfl) rfl ?_))));clear S;intro a S
 refine Ld (Tn ?_)
 replace S := S.nk [.own Z 39 11 As.length (As.flatMap GDeed.enc)] [(0, Z), (1, iV Aq), (2, iV Ar), (3, iV Cx), (4, .func (.func 121) #[] #[]), (10, bV true)] [true] rfl (subR rfl)
 refine f_join (fun a w' => False) ?_ ?_
 ·refine wp_block (f_loop (fun (m1 : Nat) a w' => ∃ x1 : Int, ∃ x2 : Int, ∃ x3 : Int, ∃ x4 : Bool, slices_pdqsortCmpFunc_Deed_state_entered_c1_l1 As m1 x1 x2 x3 x4 = some r ∧ Sx w (Z.ownBlock.toList) nov [.own Z 39 11 As.length (As.flatMap GDeed.enc)] [(0, Z), (1, iV x1), (2, iV x2), (3, iV x3), (4, .func (.func 121) #[] #[]), (10, bV x4)] 148 a w') id 4611686018427387904 ⟨Aq, Ar, Cx, true, h, S.nf [true] rfl (subR rfl)⟩ ?_)
  clear S h;rintro m1 a w1 ⟨x1, x2, x3, x4, h, S⟩
  cases m1 with
  | zero => rw [slices_pdqsortCmpFunc_Deed_state_entered_c1_l1.eq_1] at h;cases h
  | succ m1 =>
   rw [slices_pdqsortCmpFunc_Deed_state_entered_c1_l1.eq_2] at h
   refine wp_block (Fs (Fg (lv S (Rm (S.tm rfl)) rfl ?_)));clear S;intro a S
   refine lv S (Rm (S.tm rfl)) rfl ?_;clear S;intro a S
   refine lv S (rn_sub (S.tm rfl) (S.tm rfl)) rfl ?_;clear S;intro a S
   refine lv S (Ra (S.tm rfl)) rfl ?_;clear S;intro a S
   refine Ld (Tn (Fs (Fs (Fg (lv S (Rm (S.tm rfl)) rfl ?_)))));clear S;intro a S
   refine lv S (rn_leq (S.tm rfl) rfl) rfl ?_;clear S;intro a S
   refine Ld (Tn (f_cond (S.tm rfl) (fun hb1 => ?_) (fun hb1 => ?_)))
   ·replace h := iteT h hb1
    refine Fs (Fg (lv S (Rm (S.tm rfl)) rfl ?_));clear S;intro a S
    iterate 3 (refine lv S (Rm (S.tm rfl)) rfl ?_;clear S;intro a S)
    obtain ⟨r1, hr1, h⟩ := bindE h
    refine l_enterO 0 S rfl (fun _ => .own Z 39 11 r1.length (r1.flatMap GDeed.enc)) (fun _ => run_call (vs := [Z, iV x1, iV x2, .func (.func 121) #[] #[]]) ⟨(S.tm rfl), (S.tm rfl), (S.tm rfl), (S.tm rfl), trivial⟩ Tryz.call71) (slices_insertionSortCmpFunc_Deed_state_entered_c1_ok _ Z As (S.holds _ (List.mem_of_getElem? (i := 0) rfl)) x1 x2 _ hr1) rfl (fun _ _ _ h => ⟨h.1, fun _ hc => hc⟩) ?_;clear S;intro v1 a w3 hv1 hk1 hn1 S
    replace hv1 := hv1.2
    subst hv1
    refine Ld ?_
    replace S := S.nk [.own Z 39 11 r1.length (r1.flatMap GDeed.enc)] [] [true] rfl trivial
    refine Tn (wp_ret (then_r (blk_r (then_r (blk_r (then_r ?_))))))
    obtain rfl := Option.some.inj h
    exact f_ret0 S Tryz.results150 ⟨(S.holds _ (List.mem_of_getElem? (i := 0) rfl)), rfl⟩
   ·replace h := iteF h hb1
    refine wp_skip (Tn (Fs (Fs (Fg (lv S (Rm (S.tm rfl)) rfl ?_)))));clear S;intro a S
    refine lv S (rn_eql (S.tm rfl) rfl) rfl ?_;clear S;intro a S
    refine Ld (Tn (f_cond (S.tm rfl) (fun hb2 => ?_) (fun hb2 => ?_)))
    ·replace h := iteT h hb2
     refine Fs ?_
     cases h
    ·replace h := iteF h hb2
     refine wp_skip (Tn (Fs (Fs (Fg (lv S (Rm (S.tm rfl)) rfl ?_)))));clear S;intro a S
     refine lv S (rn_not (S.tm rfl)) rfl ?_;clear S;intro a S
     refine Ld ?_
     replace S := S.nk [.own Z 39 11 As.length (As.flatMap GDeed.enc)] [(39, bV (!x4))] [true] rfl ⟨rfl, trivial⟩
     refine Tn (f_cond (S.tm rfl) (fun hb3 => ?_) (fun hb3 => ?_))
     ·replace h := iteT h hb3
      refine Fs ?_
      cases h
     ·replace h := iteF h hb3
      refine wp_skip (Tn (Fs ?_))
      cases h
 exact fun _ _ h => h.elim
theorem slices_SortFunc_Deed_state_entered_c1_ok (w : World) (Ca : Value) (V : List GDeed) (De : (LEnt.own Ca 39 11 V.length (V.flatMap GDeed.enc)).holds w) (r : (List GDeed)) (h : slices_SortFunc_Deed_state_entered_c1 V = some r) :
    Calls Tryz.prog 120 [Ca, .func (.func 121) #[] #[]].toArray w (Ret w (Ca.ownBlock.toList) fun _ v w' => (LEnt.own Ca 39 11 r.length (r.flatMap GDeed.enc)).holds w' ∧ v = .tuple #[]) := by
 refine f_enter (Ca.ownBlock.toList) [.own Ca 39 11 V.length (V.flatMap GDeed.enc)] Tryz.func120 rfl Tryz.ntmps120 rfl (fun e he => by simp only [List.mem_singleton] at he;subst he;exact De) (fps_one_nodup _) (fps_one_sub _) fun a S => ?_
 unfold slices_SortFunc_Deed_state_entered_c1 at h
 replace S := S.nk [.own Ca 39 11 V.length (V.flatMap GDeed.enc)] [(0, Ca), (1, .func (.func 121) #[] #[])] [true] rfl (subR rfl)
 refine Fs (Fg (lv S (Rm (S.tm rfl)) rfl ?_));clear S;intro a S
 refine lv S (rn_lenT sl_26 (S.tm rfl) (own_len (S.own_at (i := 0) rfl))) rfl ?_;clear S;intro a S
 refine lv S (Ra (S.tm rfl)) rfl ?_;clear S;intro a S
 refine Ld (Tn (Fg (lv S (Rm (S.tm rfl)) rfl ?_)));clear S;intro a S
 refine lv S (Rm (S.tm rfl)) rfl ?_;clear S;intro a S
 refine lv S (Rm (S.tm rfl)) rfl ?_;clear S;intro a S
 refine lv S (rn_conv Tryz.underlying3 Tryz.underlying126 (S.tm rfl)) rfl ?_;clear S;intro a S
 obtain ⟨r1, hr1, h⟩ := bindE h
 refine l_enter S (fun _ => run_call (vs := [.int .u64 (IntKind.wrap .u64 (V.length : Int))]) ⟨(S.tm rfl), trivial⟩ Tryz.call151) (bits_Len_ok _ (IntKind.wrap .u64 (V.length : Int)) _ hr1) rfl ?_;clear S;intro v1 a w1 hv1 hk1 hn1 S
 subst hv1
 refine lv S (Rm (S.tm rfl)) rfl ?_;clear S;intro a S
 obtain ⟨r2, hr2, h⟩ := bindE h
 refine l_enterO 0 S rfl (fun _ => .own Ca 39 11 r2.length (r2.flatMap GDeed.enc)) (fun _ => run_call (vs := [Ca, iV 0, iV (V.length : Int), iV r1, .func (.func 121) #[] #[]]) ⟨(S.tm rfl), rfl, (S.tm rfl), (S.tm rfl), (S.tm rfl), trivial⟩ Tryz.call150) (slices_pdqsortCmpFunc_Deed_state_entered_c1_ok _ Ca V (S.holds _ (List.mem_of_getElem? (i := 0) rfl)) 0 (V.length : Int) r1 _ hr2) rfl (fun _ _ _ h => ⟨h.1, fun _ hc => hc⟩) ?_;clear S;intro v2 a w2 hv2 hk2 hn2 S
 replace hv2 := hv2.2
 subst hv2
 refine Ld ?_
 obtain rfl := Option.some.inj h
 exact f_ret0 S Tryz.results120 ⟨(S.holds _ (List.mem_of_getElem? (i := 0) rfl)), rfl⟩
theorem state_entered_ok (w : World) (O : Nat) (Ba : GPlan) (Co : R87) (Cu : rel_87 (view w []) Ba Co) (Ay : Value) (Bf : List GDeed) (Cf : Slc (view w []) 11 Ay (Bf.map GDeed.enc)) (Aw : (view w []) O = some (.cells (R87.enc Co ++ [Ay]).toArray 148 (0, 0))) (Bd : ByteArray) (r : (List GDeed)) (h : state_entered Ba Bf Bd = some r) :
    Calls Tryz.prog 91 [.pointer (some ⟨O, 0, none⟩), sV Bd].toArray w (Ret w [] fun τ v _ => OwnV τ 39 11 v r.length (r.flatMap GDeed.enc)) := by
 obtain ⟨u1, u2, rfl, hs1, ⟨u3, rfl, hs2⟩⟩ := Cu
 replace Aw : (view w []) O = some (.cells [u1.val, u3.val, iV Ba.Table.Relay, iV Ba.Table.Most, iV Ba.Final.Size, iV Ba.Final.Many, iV Ba.Final.Reserves, Ay].toArray 148 (0, 0)) := Aw
 refine f_enter [] [] Tryz.func91 rfl Tryz.ntmps91 rfl (by simp) (by simp [fps]) (by simp [fps]) fun a S => ?_
 unfold state_entered at h
 replace S := S.nk [] [(0, .pointer (some ⟨O, 0, none⟩)), (1, sV Bd)] [] rfl (subR rfl)
 refine Fs (Fg (lv S (Ra rfl) rfl ?_));clear S;intro a S
 refine Ld (Tn (Fs (Fg (l_makeMapB (κ := ByteArray) (ν := GDeed) S rfl Value.string (fun x => Value.agg (GDeed.enc x).toArray) ?_))));clear S;intro a w1 b1 hz1 hk1 S
 refine lv S (Ra (S.tm rfl)) rfl ?_;clear S;intro a S
 refine Ld (Tn (Fs (Fs (Fg (lv S (Rm (S.tm rfl)) rfl ?_)))));clear S;intro a S
 refine lv S (rn_nilCheck (S.tm rfl)) rfl ?_;clear S;intro a S
 refine lv S (rn_fld fa_148_1 (S.tm rfl)) rfl ?_;clear S;intro a S
 refine lv S (rn_ld Tryz.isAgg26 (off := 0) (o := 7) (S.tm rfl) ((mem_blk Aw).at S.emb0) rfl) rfl ?_;clear S;intro a S
 refine lv S (rn_lenT sl_26 (S.tm rfl) (slc_len Cf)) rfl ?_;clear S;intro a S
 refine lv S (Rm rfl) rfl ?_;clear S;intro a S
 refine Ld (Tn ?_)
 replace S := S.nk [.map b1 (mentsB Value.string (fun x => Value.agg (GDeed.enc x).toArray) ([] : List (ByteArray × GDeed)) ([] : List Nat)) 0] [(1, sV Bd), (5, .map (some b1)), (15, Ay), (16, iV (Bf.length : Int)), (17, iV 0)] [true] rfl (subR rfl)
 obtain ⟨j1, hj1, h⟩ := joinE h
 refine f_join (fun a w' => ∃ x1 : List (ByteArray × GDeed), ∃ bs1 : List Nat, ∃ ck1 : Nat, j1 x1 = some r ∧ BornB x1.length bs1 ck1 ∧ Sx w [] nov [.map b1 (mentsB Value.string (fun x => Value.agg (GDeed.enc x).toArray) x1 bs1) ck1] [(5, .map (some b1))] 52 a w') ?_ ?_
 ·refine wp_block (f_loop (fun (ys1 : List GDeed) a w' => ∃ i1 : Nat, ∃ x1 : List (ByteArray × GDeed), ∃ bs1 : List Nat, ∃ ck1 : Nat, (∃ dn, Bf = dn ++ ys1 ∧ dn.length = i1) ∧ state_entered_l1 Bd j1 ys1 i1 x1 = some r ∧ BornB x1.length bs1 ck1 ∧ Sx w [] nov [.map b1 (mentsB Value.string (fun x => Value.agg (GDeed.enc x).toArray) x1 bs1) ck1] [(1, sV Bd), (5, .map (some b1)), (15, Ay), (16, iV (Bf.length : Int)), (17, iV (i1 : Int))] 52 a w') List.length Bf ⟨0, ([] : List (ByteArray × GDeed)), ([] : List Nat), 0, ⟨[], rfl, rfl⟩, h, (bornB_nil (κ := ByteArray) (ν := GDeed)), S.nf [true] rfl (subR rfl)⟩ ?_)
  clear S h;rintro ys1 a w2 ⟨i1, x1, bs1, ck1, ⟨dn, hd1, hi1⟩, h, hB1, S⟩
  cases ys1 with
  | nil =>
   rw [state_entered_l1.eq_1] at h
   refine Fs (Fg (lv S (rn_lss (S.tm rfl) (S.tm rfl)) rfl ?_));clear S;intro a S
   refine Ld ?_
   replace S := S.nk [.map b1 (mentsB Value.string (fun x => Value.agg (GDeed.enc x).toArray) x1 bs1) ck1] [(1, sV Bd), (5, .map (some b1)), (15, Ay), (16, iV (Bf.length : Int)), (17, iV (i1 : Int)), (18, bV (decide ((i1 : Int) < (Bf.length : Int))))] [true] rfl (subR rfl)
   refine Tn (Fs (wp_cond_false ((S.tm rfl).trans (congrArg Value.bool (rng_nil hd1 hi1))) (wp_exit (then_x (then_x (x_same ?_))))))
   refine Tn ?_
   exact ⟨x1, bs1, ck1, h, hB1, S.nf [true] rfl ⟨rfl, trivial⟩⟩
  | cons y1 ys1 =>
   rw [state_entered_l1.eq_2] at h
   refine Fs (Fg (lv S (rn_lss (S.tm rfl) (S.tm rfl)) rfl ?_));clear S;intro a S
   refine Ld ?_
   replace S := S.nk [.map b1 (mentsB Value.string (fun x => Value.agg (GDeed.enc x).toArray) x1 bs1) ck1] [(1, sV Bd), (5, .map (some b1)), (15, Ay), (16, iV (Bf.length : Int)), (17, iV (i1 : Int)), (18, bV (decide ((i1 : Int) < (Bf.length : Int))))] [true] rfl (subR rfl)
   refine Tn (Fs (wp_cond_true ((S.tm rfl).trans (congrArg Value.bool (rng_cons hd1 hi1))) (wp_skip (Tn (Fs ?_)))))
   obtain ⟨j2, hj2, h⟩ := joinE h
   refine f_join (fun a w' => ∃ x2 : List (ByteArray × GDeed), ∃ bs2 : List Nat, ∃ ck2 : Nat, j2 x2 = some r ∧ BornB x2.length bs2 ck2 ∧ Sx w [] nov [.map b1 (mentsB Value.string (fun x => Value.agg (GDeed.enc x).toArray) x2 bs2) ck2] [(1, sV Bd), (5, .map (some b1)), (15, Ay), (16, iV (Bf.length : Int)), (17, iV (i1 : Int))] 52 a w') ?_ ?_
   ·refine wp_block (Fs (Fg ?_))
    obtain ⟨b2, o1, hm1, hr1⟩ := rn_indexT (a := a) (x := .tmp 15) (y := .tmp 17) (ty := 0) sl_26 Cf (get_mid hd1 hi1) rfl (S.tm rfl) (S.tm rfl)
    refine lv S (hr1 _) rfl ?_;clear S;intro a S
    clear hr1
    refine lv S (rn_ldA Tryz.isAgg39 Tryz.sizeOf39 (off := o1) (o := 0) (part := (GDeed.enc y1)) rfl rfl (S.tm rfl) (hm1.at S.emb0)) rfl ?_;clear S;intro a S
    refine l_alloc S Tryz.zeroValue39 (cs := [sV k_empty, iV 0, iV 0, iV 0, sV k_empty, sV k_empty, sV k_empty, iV 0, iV 0, sV k_empty, iV 0]) rfl rfl ?_;clear S;intro a w5 b3 hz2 hk2 S
    refine l_store S (S.tm rfl) (S.tm rfl) (i := 0) (off := 0) rfl Tryz.sizeOf39 (vs := (GDeed.enc y1)) rfl rfl rfl rfl ?_;clear S;intro w6 hk3 S
    refine Ld (Tn (Fs (Fs (Fg (lv S (rn_fld fa_39_6 (S.tm rfl)) rfl ?_)))));clear S;intro a S
    refine lv S (rn_load Tryz.isAgg9 (S.tm rfl) (S.cell (i := 0) rfl rfl)) rfl ?_;clear S;intro a S
    refine lv S (Rm (S.tm rfl)) rfl ?_;clear S;intro a S
    refine lv S (rn_sneq (S.tm rfl) (S.tm rfl)) rfl ?_;clear S;intro a S
    refine Ld (Tn (f_cond (S.tm rfl) (fun hb1 => ?_) (fun hb1 => ?_)))
    ·replace h := iteT h hb1
     refine wp_exit (then_x (x_same (Tn ?_)))
     exact ⟨x1, bs1, ck1, h, hB1, S.nf [false, true] rfl (subR rfl)⟩
    ·replace h := iteF h hb1
     refine wp_skip (Tn (Fs (Fg (lv S (rn_fld fa_39_3 (S.tm rfl)) rfl ?_))));clear S;intro a S
     refine lv S (rn_load Tryz.isAgg3 (S.tm rfl) (S.cell (i := 0) rfl rfl)) rfl ?_;clear S;intro a S
     refine Ld ?_
     replace S := S.nk [.blk b3 (GDeed.enc y1) 39, .map b1 (mentsB Value.string (fun x => Value.agg (GDeed.enc x).toArray) x1 bs1) ck1] [(1, sV Bd), (5, .map (some b1)), (7, .pointer (some ⟨b3, 0, none⟩)), (15, Ay), (16, iV (Bf.length : Int)), (17, iV (i1 : Int)), (26, iV y1.Kind)] [true, true] rfl (subR rfl)
     refine Tn ?_
     obtain ⟨j3, hj3, h⟩ := joinE h
     refine f_join (fun a w' => ∃ x3 : List (ByteArray × GDeed), ∃ bs3 : List Nat, ∃ ck3 : Nat, j3 x3 = some r ∧ BornB x3.length bs3 ck3 ∧ Sx w [] nov [.blk b3 (GDeed.enc y1) 39, .map b1 (mentsB Value.string (fun x => Value.agg (GDeed.enc x).toArray) x3 bs3) ck3] [(1, sV Bd), (5, .map (some b1)), (15, Ay), (16, iV (Bf.length : Int)), (17, iV (i1 : Int))] 52 a w') ?_ ?_
     ·refine wp_block (Fs (Fg (lv S (rn_eql (S.tm rfl) rfl) rfl ?_)));clear S;intro a S
      refine lv S (Ra (S.tm rfl)) rfl ?_;clear S;intro a S
      refine Ld (Tn ?_)
      obtain ⟨j4, hj4, h⟩ := joinE h
      refine f_join (fun a w' => ∃ x4 : List (ByteArray × GDeed), ∃ bs4 : List Nat, ∃ ck4 : Nat, j4 x4 = some r ∧ BornB x4.length bs4 ck4 ∧ Sx w [] nov [.blk b3 (GDeed.enc y1) 39, .map b1 (mentsB Value.string (fun x => Value.agg (GDeed.enc x).toArray) x4 bs4) ck4] [(1, sV Bd), (5, .map (some b1)), (15, Ay), (16, iV (Bf.length : Int)), (17, iV (i1 : Int))] 52 a w') ?_ ?_
      ·refine f_cond (S.tm rfl) (fun hb2 => ?_) (fun hb2 => ?_)
       ·replace h := iteT h hb2
        refine Fg (lv S (Rm (S.tm rfl)) rfl ?_);clear S;intro a S
        refine lv S (rn_fld fa_39_4 (S.tm rfl)) rfl ?_;clear S;intro a S
        refine lv S (rn_load Tryz.isAgg9 (S.tm rfl) (S.cell (i := 0) rfl rfl)) rfl ?_;clear S;intro a S
        refine lv S (rn_ldA Tryz.isAgg39 Tryz.sizeOf39 (off := 0) (o := 0) (part := (GDeed.enc y1)) rfl rfl (S.tm rfl) (S.cellsAt (i := 0) rfl)) rfl ?_;clear S;intro a S
        refine l_mapUpdateB (kv := Value.string) (vv := (fun x => Value.agg (GDeed.enc x).toArray)) (m := x1) (key := y1.Who) (val := y1) S (i := 1) rfl hB1 Tryz.underlying150 (keyT_str Tryz.underlying9) (S.tm rfl) (S.tm rfl) (S.tm rfl) ?_;clear S;intro w9 bs5 ck5 hB5 hk4 S
        refine Ld (Tn ?_)
        exact ⟨(mput x1 y1.Who y1), bs5, ck5, h, hB5, S.nf [true, true] rfl (subR rfl)⟩
       ·replace h := iteF h hb2
        refine Fs (Fg (lv S (rn_eql (S.tm rfl) rfl) rfl ?_));clear S;intro a S
        refine lv S (Ra (S.tm rfl)) rfl ?_;clear S;intro a S
        refine Ld (Tn ?_)
        obtain ⟨j5, hj5, h⟩ := joinE h
        refine f_join (fun a w' => ∃ x5 : List (ByteArray × GDeed), ∃ bs6 : List Nat, ∃ ck6 : Nat, j5 x5 = some r ∧ BornB x5.length bs6 ck6 ∧ Sx w [] nov [.blk b3 (GDeed.enc y1) 39, .map b1 (mentsB Value.string (fun x => Value.agg (GDeed.enc x).toArray) x5 bs6) ck6] [(1, sV Bd), (5, .map (some b1)), (15, Ay), (16, iV (Bf.length : Int)), (17, iV (i1 : Int))] 52 a w') ?_ ?_
        ·refine f_cond (S.tm rfl) (fun hb3 => ?_) (fun hb3 => ?_)
         ·replace h := iteT h hb3
          refine Fg (lv S (Rm (S.tm rfl)) rfl ?_);clear S;intro a S
          refine lv S (rn_fld fa_39_4 (S.tm rfl)) rfl ?_;clear S;intro a S
          refine lv S (rn_load Tryz.isAgg9 (S.tm rfl) (S.cell (i := 0) rfl rfl)) rfl ?_;clear S;intro a S
          refine l_deleteB (kv := Value.string) (vv := (fun x => Value.agg (GDeed.enc x).toArray)) (m := x1) (key := y1.Who) S (i := 1) rfl hB1 rfl Tryz.underlying150 (keyT_str Tryz.underlying9) (S.tm rfl) (S.tm rfl) ?_;clear S;intro w11 bs7 ck7 hB7 hk5 S
          refine Ld (Tn ?_)
          exact ⟨(mdel x1 y1.Who), bs7, ck7, h, hB7, S.nf [true, true] rfl (subR rfl)⟩
         ·replace h := iteF h hb3
          refine wp_skip (Tn ?_)
          exact ⟨x1, bs1, ck1, h, hB1, S.nf [true, true] rfl (subR rfl)⟩
        clear S h;rintro a w10 ⟨x5, bs6, ck6, h, hB6, S⟩;rw [hj5] at h;clear hj5 j5
        refine Tn ?_
        exact ⟨x5, bs6, ck6, h, hB6, S.nf [true, true] rfl (subR rfl)⟩
      clear S h;rintro a w8 ⟨x4, bs4, ck4, h, hB4, S⟩;rw [hj4] at h;clear hj4 j4
      refine blk_n (Tn ?_)
      exact ⟨x4, bs4, ck4, h, hB4, S.nf [true, true] rfl (subR rfl)⟩
     clear S h;rintro a w7 ⟨x3, bs3, ck3, h, hB3, S⟩;rw [hj3] at h;clear hj3 j3
     refine blk_n (Tn ?_)
     exact ⟨x3, bs3, ck3, h, hB3, S.nf [false, true] rfl (subR rfl)⟩
   clear S h;rintro a w4 ⟨x2, bs2, ck2, h, hB2, S⟩;rw [hj2] at h;clear hj2 j2
   refine Tn (Fg (lv S (rn_add (S.tm rfl) rfl) rfl ?_));clear S;intro a S
   refine lv S (Rm (S.tm rfl)) rfl ?_;clear S;intro a S
   refine Ld (Tn ?_)
   exact ⟨ys1, ⟨i1 + 1, x2, bs2, ck2, ⟨_, (hd1).trans (List.append_cons _ _ _), by simp [hi1]⟩, h, hB2, S.nf [true] rfl ⟨rfl, rfl, rfl, rfl, (congrArg (fun z => some (Value.int .i64 z)) (rng_next hd1 hi1 (slc_max Cf))), trivial⟩⟩, Nat.lt_succ_self _⟩
 clear S h;rintro a w3 ⟨x1, bs1, ck1, h, hB1, S⟩;rw [hj1] at h;clear hj1 j1
 refine Tn (Fs (Fg (lv S (Ra rfl) rfl ?_)));clear S;intro a S
 replace S := S.nil 39 11
 refine Ld (Tn (Fs (Fs (Fg (lv S (Rm (S.tm rfl)) rfl ?_)))));clear S;intro a S
 refine l_range (es := mentsB Value.string (fun x => Value.agg (GDeed.enc x).toArray) x1 bs1) (clk := ck1) S (S.map_at (i := 1) rfl) Tryz.underlying150 (S.tm rfl) rfl ?_;clear S;intro a w12 b4 hz3 hk6 S
 refine Ld (Tn ?_)
 replace S := S.nk [.iter b4 b1 ck1 #[] ck1, .own (.slice none 0 0) 39 11 ([] : List GDeed).length (([] : List GDeed).flatMap GDeed.enc), .map b1 (mentsB Value.string (fun x => Value.agg (GDeed.enc x).toArray) x1 bs1) ck1] [(8, (.slice none 0 0)), (40, .pointer (some ⟨b4, 0, none⟩))] [true, true, true] rfl (subR rfl)
 obtain ⟨j6, hj6, h⟩ := joinE h
 replace h := allE h
 refine f_join (fun a w' => ∃ x6 : List GDeed, ∃ v1 : Value, j6 x6 = some r ∧ Sx w [] nov [.own v1 39 11 x6.length (x6.flatMap GDeed.enc), .map b1 (mentsB Value.string (fun x => Value.agg (GDeed.enc x).toArray) x1 bs1) ck1] [(8, v1)] 52 a w') ?_ ?_
 ·refine wp_block (f_loop (fun (q : List (ByteArray × GDeed)) a w' => ∃ x6 : List GDeed, ∃ v1 : Value, ∃ sn1 : Array Nat, leftB x1 bs1 sn1 = q ∧ (∀ p, p.Perm q → state_entered_l2 j6 p x6 = some r) ∧ Sx w [] nov [.iter b4 b1 ck1 sn1 ck1, .own v1 39 11 x6.length (x6.flatMap GDeed.enc), .map b1 (mentsB Value.string (fun x => Value.agg (GDeed.enc x).toArray) x1 bs1) ck1] [(8, v1), (40, .pointer (some ⟨b4, 0, none⟩))] 52 a w') List.length x1 ⟨([] : List GDeed), (.slice none 0 0), #[], (leftB_0 hB1), h, S.nf [true, true, true] rfl (subR rfl)⟩ ?_)
  clear S h;rintro q a w13 ⟨x6, v1, sn1, hq, h, S⟩
  refine Fs (Fg (l_nextB (kv := Value.string) (vv := (fun x => Value.agg (GDeed.enc x).toArray)) (m := x1) S (i := 0) rfl (S.map_at (i := 2) rfl) hB1 (S.tm rfl) rfl ?_ ?_))
  ·intro hn1;clear S;intro a S
   replace h := allp_nil h (hq.symm.trans hn1)
   rw [state_entered_l2.eq_1] at h
   refine lv S (rn_extract (S.tm rfl) rfl) rfl ?_;clear S;intro a S
   refine Ld ?_
   replace S := S.nk [.iter b4 b1 ck1 sn1 ck1, .own v1 39 11 x6.length (x6.flatMap GDeed.enc), .map b1 (mentsB Value.string (fun x => Value.agg (GDeed.enc x).toArray) x1 bs1) ck1] [(8, v1), (40, .pointer (some ⟨b4, 0, none⟩)), (42, bV false)] [true, true, true] rfl (subR rfl)
   refine Tn (Fs (wp_cond_false (S.tm rfl) (wp_exit (then_x (then_x (x_same ?_))))))
   refine Tn ?_
   exact ⟨x6, v1, h, S.nf [false, true, true] rfl ⟨rfl, trivial⟩⟩
  ·clear S;intro y2 sn2 a w15 hp1 hl1 hk7 S
   obtain ⟨sq1, h, hn2⟩ := allp_cons h (by rw [← hq];exact hp1) (fun _ => rfl)
   refine lv S (rn_extract (S.tm rfl) rfl) rfl ?_;clear S;intro a S
   refine Ld ?_
   replace S := S.nk [.iter b4 b1 ck1 sn2 ck1, .own v1 39 11 x6.length (x6.flatMap GDeed.enc), .map b1 (mentsB Value.string (fun x => Value.agg (GDeed.enc x).toArray) x1 bs1) ck1] [(8, v1), (40, .pointer (some ⟨b4, 0, none⟩)), (42, bV true)] [true, true, true] rfl (subR rfl)
   refine Tn (Fs (wp_cond_true (S.tm rfl) (wp_skip (Tn (wp_block (Fs ?_))))))
   refine Fg (lv S (rn_entryB (kv := Value.string) (vv := (fun x => Value.agg (GDeed.enc x).toArray)) (m := x1) (e := y2) (S.holds _ (List.mem_of_getElem? (i := 0) rfl)) (S.map_at (i := 2) rfl) hB1 hl1 (S.tm rfl)) rfl ?_);clear S;intro a S
   refine lv S (rn_extract (S.tm rfl) rfl) rfl ?_;clear S;intro a S
   refine l_alloc S Tryz.zeroValue39 (cs := [sV k_empty, iV 0, iV 0, iV 0, sV k_empty, sV k_empty, sV k_empty, iV 0, iV 0, sV k_empty, iV 0]) rfl rfl ?_;clear S;intro a w16 b5 hz4 hk8 S
   refine l_store S (S.tm rfl) (S.tm rfl) (i := 0) (off := 0) rfl Tryz.sizeOf39 (vs := (GDeed.enc y2.2)) rfl rfl rfl rfl ?_;clear S;intro w17 hk9 S
   refine Ld (Tn (Fg (lv S (Rm (S.tm rfl)) rfl ?_)));clear S;intro a S
   refine lv S (rn_ldA Tryz.isAgg39 Tryz.sizeOf39 (off := 0) (o := 0) (part := (GDeed.enc y2.2)) rfl rfl (S.tm rfl) (S.cellsAt (i := 0) rfl)) rfl ?_;clear S;intro a S
   refine l_buildSlice S Tryz.underlying26 Tryz.sizeOf39 Tryz.zeroValue39 rfl rfl (pv := [(0, .agg (GDeed.enc y2.2).toArray)]) ⟨rfl, (S.tm rfl), trivial⟩ (cs := [sV y2.2.Site, iV y2.2.No, iV y2.2.At, iV y2.2.Kind, sV y2.2.Who, sV y2.2.Club, sV y2.2.Race, iV y2.2.Time, iV y2.2.Fault, sV y2.2.Of, iV y2.2.Other]) (by kernel_rfl) rfl ?_;clear S;intro a w18 b6 hz5 hk10 S
   obtain ⟨hc1, h⟩ := chkE h
   refine l_appendT sl_26 GDeed.enc_ok S (S.tm rfl) (i := 3) rfl (S.tm rfl) (j := 0) rfl (ys := [y2.2]) rfl rfl rfl rfl (by have := room_lt hc1;omega) rfl ?_;clear S;intro v2 a w19 hk11 S
   refine lv S (Ra (S.tm rfl)) rfl ?_;clear S;intro a S
   refine Ld (blk_n (Tn ?_))
   obtain rfl := Option.some.inj h
   exact ⟨leftB x1 bs1 sn2, ⟨(x6 ++ [y2.2]), v2, sn2, rfl, hn2, S.nf [false, false, true, true, true] rfl (subR rfl)⟩, by have := hp1.length_eq;rw [hq] at this;simp only [List.length_cons] at this;omega⟩
 clear S h;rintro a w14 ⟨x6, v1, h, S⟩;rw [hj6] at h;clear hj6 j6
 refine Tn (Fs (Fg (lv S (Rm (S.tm rfl)) rfl ?_)));clear S;intro a S
 obtain ⟨r1, hr2, h⟩ := bindE h
 refine l_enterO 0 S rfl (fun _ => .own v1 39 11 r1.length (r1.flatMap GDeed.enc)) (fun _ => run_call (vs := [v1, .func (.func 121) #[] #[]]) ⟨(S.tm rfl), rfl, trivial⟩ Tryz.call120) (slices_SortFunc_Deed_state_entered_c1_ok _ v1 x6 (S.holds _ (List.mem_of_getElem? (i := 0) rfl)) _ hr2) rfl (fun _ _ _ h => ⟨h.1, fun _ hc => hc⟩) ?_;clear S;intro v3 a w20 hv1 hk12 hn3 S
 replace hv1 := hv1.2
 subst hv1
 refine Ld (Tn (Fs (Fg (lv S (Rm (S.tm rfl)) rfl ?_))));clear S;intro a S
 refine lv S (Ra (S.tm rfl)) rfl ?_;clear S;intro a S
 refine Ld (Tn (wp_ret ?_))
 obtain rfl := Option.some.inj h
 exact f_ret S Tryz.results91 rfl (own_retT S (i := 0) rfl rfl)
theorem state_race_ok (w : World) (O : Nat) (Ba : GPlan) (Co : R87) (Cu : rel_87 (view w []) Ba Co) (Ay : Value) (Bf : List GDeed) (Cf : Slc (view w []) 11 Ay (Bf.map GDeed.enc)) (Aw : (view w []) O = some (.cells (R87.enc Co ++ [Ay]).toArray 148 (0, 0))) (Ch : ByteArray) (r : GRace × Int) (h : state_race Ba Bf Ch = some r) :
    Calls Tryz.prog 90 [.pointer (some ⟨O, 0, none⟩), sV Ch].toArray w (Ret w [] fun _ v _ => v = .tuple #[.agg (GRace.enc r.1).toArray, iV r.2]) := by
 obtain ⟨u1, u2, rfl, hs1, ⟨u3, rfl, hs2⟩⟩ := Cu
 replace Aw : (view w []) O = some (.cells [u1.val, u3.val, iV Ba.Table.Relay, iV Ba.Table.Most, iV Ba.Final.Size, iV Ba.Final.Many, iV Ba.Final.Reserves, Ay].toArray 148 (0, 0)) := Aw
 refine f_enter [] [] Tryz.func90 rfl Tryz.ntmps90 rfl (by simp) (by simp [fps]) (by simp [fps]) fun a S => ?_
 unfold state_race at h
 replace S := S.nk [] [(0, .pointer (some ⟨O, 0, none⟩)), (1, sV Ch)] [] rfl (subR rfl)
 refine Fs (Fg (l_box S (S.tm rfl) (cs := [sV Ch]) rfl rfl ?_));clear S;intro a w1 b1 hz1 hk1 S
 refine l_alloc S Tryz.zeroValue80 (cs := [sV k_empty, iV 0, iV 0, iV 0, iV 0, iV 0, iV 0, iV 0]) rfl rfl ?_;clear S;intro a w2 b2 hz2 hk2 S
 refine lv S (Ra rfl) rfl ?_;clear S;intro a S
 refine Ld (Tn (Fs (Fg (lv S (Rm (S.tm rfl)) rfl ?_))));clear S;intro a S
 refine lv S (rn_nilCheck (S.tm rfl)) rfl ?_;clear S;intro a S
 refine lv S (rn_fld fa_148_0 (S.tm rfl)) rfl ?_;clear S;intro a S
 refine lv S (rn_fld fa_87_0 (S.tm rfl)) rfl ?_;clear S;intro a S
 refine lv S (rn_ld Tryz.isAgg81 (off := 0) (o := 0) (S.tm rfl) ((mem_blk Aw).at S.emb0) rfl) rfl ?_;clear S;intro a S
 refine lv S (rn_makeFunc (us := #[]) (xs := [].toArray) (ys := [.tmp 3].toArray) (by simp) (evA ⟨(S.tm rfl), trivial⟩ (vs := [.pointer (some ⟨b1, 0, none⟩)]))) rfl ?_;clear S;intro a S
 refine l_enter S (fun _ => run_call (vs := [u1.val, .func (.func 119) #[] #[.pointer (some ⟨b1, 0, none⟩)]]) ⟨(S.tm rfl), (S.tm rfl), trivial⟩ Tryz.call118) (slices_IndexFunc_Race_state_race_c1_ok _ u1.val Ba.Races (hs1.mono (S.le_arg nil_sub)) b1 Ch (S.blk_view (i := 1) rfl ((ne_nil (e' := .blk b1 [sV Ch] 9)) _ rfl)) _ rfl) rfl ?_;clear S;intro v1 a w3 hv1 hk3 hn1 S
 subst hv1
 refine lv S (Ra (S.tm rfl)) rfl ?_;clear S;intro a S
 refine Ld (Tn (Fs (Fs (Fg (lv S (Rm (S.tm rfl)) rfl ?_)))));clear S;intro a S
 refine lv S (rn_lss (S.tm rfl) rfl) rfl ?_;clear S;intro a S
 refine Ld ?_
 replace S := S.nk [.blk b2 (GRace.enc (GRace.mk k_empty 0 0 0 0 0 0 0)) 80, .blk b1 [sV Ch] 9] [(0, .pointer (some ⟨O, 0, none⟩)), (3, .pointer (some ⟨b1, 0, none⟩)), (4, .pointer (some ⟨b2, 0, none⟩)), (6, iV (slices_IndexFunc_Race_state_race_c1 Ba.Races Ch)), (15, bV (decide ((slices_IndexFunc_Race_state_race_c1 Ba.Races Ch) < 0)))] [true, true] rfl (subR rfl)
 refine Tn (f_cond (S.tm rfl) (fun hb1 => ?_) (fun hb1 => ?_))
 ·replace h := iteT h hb1
  refine Fs (Fg (lv S (rn_bld bt_80 (pv := []) trivial (cs := [sV k_empty, iV 0, iV 0, iV 0, iV 0, iV 0, iV 0, iV 0]) (by kernel_rfl)) rfl ?_));clear S;intro a S
  refine l_store S (S.tm rfl) (S.tm rfl) (i := 0) (off := 0) rfl Tryz.sizeOf80 (vs := (GRace.enc (GRace.mk k_empty 0 0 0 0 0 0 0))) rfl rfl rfl rfl ?_;clear S;intro w4 hk4 S
  refine lv S (Ra rfl) rfl ?_;clear S;intro a S
  refine Ld (Tn (wp_ret (then_r ?_)))
  obtain rfl := Option.some.inj h
  exact f_retG S (rs := [.cell 4 80, .tmp 5]) (vs := [.agg (GRace.enc (GRace.mk k_empty 0 0 0 0 0 0 0)).toArray, iV 8]) Tryz.results90 ⟨(res_cell (off := 0) S rfl Tryz.isAgg80 Tryz.sizeOf80 rfl (S.cellsAt (i := 0) rfl)), (res_tmp S rfl), trivial⟩ rfl rfl
 ·replace h := iteF h hb1
  refine wp_skip (Tn (Fs (Fs (Fg (lv S (Rm (S.tm rfl)) rfl ?_)))));clear S;intro a S
  refine lv S (rn_load Tryz.isAgg9 (S.tm rfl) (S.cell (i := 1) rfl rfl)) rfl ?_;clear S;intro a S
  obtain ⟨r1, hr1, h⟩ := bindE h
  have hz3 := S.keep.size
  refine l_enter S (fun _ => run_call (vs := [.pointer (some ⟨O, 0, none⟩), sV Ch]) ⟨(S.tm rfl), (S.tm rfl), trivial⟩ Tryz.call91) (state_entered_ok _ O Ba (R87.mk u1 (R83.mk u3 Ba.Table.Relay Ba.Table.Most) Ba.Final) ⟨u1, (R83.mk u3 Ba.Table.Relay Ba.Table.Most), rfl, (hs1.mono (S.le_arg nil_sub)), ⟨u3, rfl, (hs2.mono (S.le_arg nil_sub))⟩⟩ Ay Bf (Cf.mono (S.le_arg nil_sub)) ((S.le_arg nil_sub) _ _ Aw) Ch _ hr1) rfl ?_;clear S;intro v2 a w5 hv2 hk5 hn2 S
  obtain ⟨φ1, hl1, hm1, S⟩ := S.see' hn2 hz3
  have hs3 := hv2.mono hm1
  refine lv S (rn_lenT sl_26 (S.tm rfl) (slc_len (ownV_slcT GDeed.enc_ok hs3))) rfl ?_;clear S;intro a S
  refine lv S (rn_gtr (S.tm rfl) rfl) rfl ?_;clear S;intro a S
  refine Ld (Tn (f_cond (S.tm rfl) (fun hb2 => ?_) (fun hb2 => ?_)))
  ·replace h := iteT h hb2
   refine Fs (Fg (lv S (rn_bld bt_80 (pv := []) trivial (cs := [sV k_empty, iV 0, iV 0, iV 0, iV 0, iV 0, iV 0, iV 0]) (by kernel_rfl)) rfl ?_));clear S;intro a S
   refine l_store S (S.tm rfl) (S.tm rfl) (i := 0) (off := 0) rfl Tryz.sizeOf80 (vs := (GRace.enc (GRace.mk k_empty 0 0 0 0 0 0 0))) rfl rfl rfl rfl ?_;clear S;intro w6 hk6 S
   refine lv S (Ra rfl) rfl ?_;clear S;intro a S
   refine Ld (Tn (wp_ret (then_r ?_)))
   obtain rfl := Option.some.inj h
   exact f_retG S (rs := [.cell 4 80, .tmp 5]) (vs := [.agg (GRace.enc (GRace.mk k_empty 0 0 0 0 0 0 0)).toArray, iV 2]) Tryz.results90 ⟨(res_cell (off := 0) S rfl Tryz.isAgg80 Tryz.sizeOf80 rfl (S.cellsAt (i := 0) rfl)), (res_tmp S rfl), trivial⟩ rfl rfl
  ·replace h := iteF h hb2
   refine wp_skip (Tn (Fs (Fg (lv S (Rm (S.tm rfl)) rfl ?_))));clear S;intro a S
   refine lv S (rn_nilCheck (S.tm rfl)) rfl ?_;clear S;intro a S
   refine lv S (rn_fld fa_148_0 (S.tm rfl)) rfl ?_;clear S;intro a S
   refine lv S (rn_fld fa_87_0 (S.tm rfl)) rfl ?_;clear S;intro a S
   refine lv S (rn_ld Tryz.isAgg81 (off := 0) (o := 0) (S.tm rfl) ((mem_blk Aw).at S.emb0) rfl) rfl ?_;clear S;intro a S
   refine lv S (Rm (S.tm rfl)) rfl ?_;clear S;intro a S
   obtain ⟨hc1, h⟩ := chkE h
   obtain ⟨b3, o1, hm2, hr2⟩ := rn_indexT (a := a) (x := .tmp 27) (y := .tmp 28) (ty := 0) sl_81 hs1 (inB_get hc1).1 (inB_get hc1).2 (S.tm rfl) (S.tm rfl)
   refine lv S (hr2 _) rfl ?_;clear S;intro a S
   clear hr2
   refine lv S (rn_ldA Tryz.isAgg80 Tryz.sizeOf80 (off := o1) (o := 0) (part := (GRace.enc (nth Ba.Races (slices_IndexFunc_Race_state_race_c1 Ba.Races Ch)))) rfl rfl (S.tm rfl) (hm2.at S.emb0)) rfl ?_;clear S;intro a S
   refine l_store S (S.tm rfl) (S.tm rfl) (i := 0) (off := 0) rfl Tryz.sizeOf80 (vs := (GRace.enc (nth Ba.Races (slices_IndexFunc_Race_state_race_c1 Ba.Races Ch)))) rfl rfl rfl rfl ?_;clear S;intro w7 hk7 S
   refine lv S (Ra rfl) rfl ?_;clear S;intro a S
   refine Ld ?_
   replace S := S.nk [.blk b2 (GRace.enc (nth Ba.Races (slices_IndexFunc_Race_state_race_c1 Ba.Races Ch))) 80] [(4, .pointer (some ⟨b2, 0, none⟩)), (5, iV 0)] [true, false] rfl (subR rfl)
   refine Tn (wp_ret ?_)
   obtain rfl := Option.some.inj h
   exact f_retG S (rs := [.cell 4 80, .tmp 5]) (vs := [.agg (GRace.enc (nth Ba.Races (slices_IndexFunc_Race_state_race_c1 Ba.Races Ch))).toArray, iV 0]) Tryz.results90 ⟨(res_cell (off := 0) S rfl Tryz.isAgg80 Tryz.sizeOf80 rfl (S.cellsAt (i := 0) rfl)), (res_tmp S rfl), trivial⟩ rfl rfl
set_option maxRecDepth 20000 in
theorem meet_ask_ok (w : World) (ψ : View) (hψ : View.le ψ (view w [])) (Aa : GPlan) (Ci : R87) (Cp : rel_87 ψ Aa Ci) (Ab : Value) (Ac : List GDeed) (Ao : Slc ψ 11 Ab (Ac.map GDeed.enc)) (Bd : ByteArray) (Bm : Int) (r : (Option Gmeet_state) × GRace × Int) (h : meet_ask Aa Ac Bd Bm = some r) :
    Calls Tryz.prog 69 [.agg (R87.enc Ci).toArray, Ab, sV Bd, iV Bm].toArray w (Ret w [] fun τ v _ => ∃ u1 : Value, v = .tuple #[u1, .agg (GRace.enc r.2.1).toArray, iV r.2.2] ∧ PtrV (join ψ τ) 148 R148.enc rel_148 u1 r.1) := by
 obtain ⟨u1, u2, rfl, hs1, ⟨u3, rfl, hs2⟩⟩ := Cp
 refine f_enter [] [] Tryz.func69 rfl Tryz.ntmps69 rfl (by simp) (by simp [fps]) (by simp [fps]) fun a S => ?_
 unfold meet_ask at h
 replace S := S.nk [] [(0, .agg #[u1.val, u3.val, iV Aa.Table.Relay, iV Aa.Table.Most, iV Aa.Final.Size, iV Aa.Final.Many, iV Aa.Final.Reserves]), (1, Ab), (2, sV Bd), (3, iV Bm)] [] rfl (subR rfl)
 refine Fs (Fg (l_box S (S.tm rfl) (cs := [u1.val, u3.val, iV Aa.Table.Relay, iV Aa.Table.Most, iV Aa.Final.Size, iV Aa.Final.Many, iV Aa.Final.Reserves]) rfl rfl ?_));clear S;intro a w1 b1 hz1 hk1 S
 refine lv S (Ra rfl) rfl ?_;clear S;intro a S
 refine l_alloc S Tryz.zeroValue80 (cs := [sV k_empty, iV 0, iV 0, iV 0, iV 0, iV 0, iV 0, iV 0]) rfl rfl ?_;clear S;intro a w2 b2 hz2 hk2 S
 refine lv S (Ra rfl) rfl ?_;clear S;intro a S
 refine Ld (Tn (Fs (Fg (lv S (rn_ldA Tryz.isAgg87 Tryz.sizeOf87 (off := 0) (o := 0) (part := [u1.val, u3.val, iV Aa.Table.Relay, iV Aa.Table.Most, iV Aa.Final.Size, iV Aa.Final.Many, iV Aa.Final.Reserves]) rfl rfl (S.tm rfl) (S.cellsAt (i := 1) rfl)) rfl ?_))));clear S;intro a S
 refine lv S (Rm (S.tm rfl)) rfl ?_;clear S;intro a S
 refine lv S (Rm (S.tm rfl)) rfl ?_;clear S;intro a S
 refine l_buildSlice S Tryz.underlying22 Tryz.sizeOf3 Tryz.zeroValue3 rfl rfl (pv := [(0, iV Bm)]) ⟨rfl, (S.tm rfl), trivial⟩ (cs := [iV Bm]) (by kernel_rfl) rfl ?_;clear S;intro a w3 b3 hz3 hk3 S
 replace S := S.litOwn (i := 0) (xs := [Bm]) rfl enc_int rfl rfl rfl
 replace S := S.nk [.own (.slice (some ⟨b3, 0, none⟩) 1 1) 3 1 ([Bm] : List Int).length (([Bm] : List Int).flatMap eInt), .blk b2 (GRace.enc (GRace.mk k_empty 0 0 0 0 0 0 0)) 80, .blk b1 [u1.val, u3.val, iV Aa.Table.Relay, iV Aa.Table.Most, iV Aa.Final.Size, iV Aa.Final.Many, iV Aa.Final.Reserves] 87] [(0, .agg #[u1.val, u3.val, iV Aa.Table.Relay, iV Aa.Table.Most, iV Aa.Final.Size, iV Aa.Final.Many, iV Aa.Final.Reserves]), (1, Ab), (2, sV Bd), (3, iV Bm), (4, .pointer (some ⟨b1, 0, none⟩)), (8, .pointer none), (9, .pointer (some ⟨b2, 0, none⟩)), (10, iV 0), (15, .agg #[u1.val, u3.val, iV Aa.Table.Relay, iV Aa.Table.Most, iV Aa.Final.Size, iV Aa.Final.Many, iV Aa.Final.Reserves]), (16, Ab), (17, iV Bm), (18, (.slice (some ⟨b3, 0, none⟩) 1 1))] [] rfl (subR rfl)
 obtain ⟨φ1, hl1, hs3, S⟩ := S.freezeT (xs := ([Bm] : List Int)) (enc := eInt) (i := 0) rfl (fun _ h => by cases h)
 replace S := S.nk [.blk b2 (GRace.enc (GRace.mk k_empty 0 0 0 0 0 0 0)) 80, .blk b1 [u1.val, u3.val, iV Aa.Table.Relay, iV Aa.Table.Most, iV Aa.Final.Size, iV Aa.Final.Many, iV Aa.Final.Reserves] 87] [(0, .agg #[u1.val, u3.val, iV Aa.Table.Relay, iV Aa.Table.Most, iV Aa.Final.Size, iV Aa.Final.Many, iV Aa.Final.Reserves]), (1, Ab), (2, sV Bd), (3, iV Bm), (4, .pointer (some ⟨b1, 0, none⟩)), (8, .pointer none), (9, .pointer (some ⟨b2, 0, none⟩)), (10, iV 0), (15, .agg #[u1.val, u3.val, iV Aa.Table.Relay, iV Aa.Table.Most, iV Aa.Final.Size, iV Aa.Final.Many, iV Aa.Final.Reserves]), (16, Ab), (17, iV Bm), (18, (.slice (some ⟨b3, 0, none⟩) 1 1))] [] rfl (subR rfl)
 obtain ⟨r1, hr1, h⟩ := bindE h
 have hz4 := S.keep.size
 refine l_enter S (fun _ => run_call (vs := [.agg (R87.enc (R87.mk u1 (R83.mk u3 Aa.Table.Relay Aa.Table.Most) Aa.Final)).toArray, Ab, (.slice (some ⟨b3, 0, none⟩) 1 1)]) ⟨(S.tm rfl), (S.tm rfl), (S.tm rfl), trivial⟩ Tryz.call89) (meet_open_ok _ (join ψ φ1) (join_le (View.le_trans hψ (S.le_arg nil_sub)) (S.le_new nil_sub)) Aa (R87.mk u1 (R83.mk u3 Aa.Table.Relay Aa.Table.Most) Aa.Final) ⟨u1, (R83.mk u3 Aa.Table.Relay Aa.Table.Most), rfl, (hs1.mono (le_join_left _ _)), ⟨u3, rfl, (hs2.mono (le_join_left _ _))⟩⟩ Ab Ac (Ao.mono (le_join_left _ _)) (.slice (some ⟨b3, 0, none⟩) 1 1) ([Bm] : List Int) ((ownV_slcT enc_int hs3).mono (S.all_right hψ)) _ hr1) rfl ?_;clear S;intro v1 a w4 hv1 hk4 hn1 S
 obtain ⟨u4, rfl, ho1⟩ := hv1
 obtain ⟨φ2, hl2, hm1, S⟩ := S.see' hn1 hz4
 have hq1 := PtrV.mono (rel_148_mono (all_step hl2 hm1)) (all_step hl2 hm1) ho1
 refine lv S (Rm (S.tm rfl)) rfl ?_;clear S;intro a S
 refine lv S (rn_extract (S.tm rfl) rfl) rfl ?_;clear S;intro a S
 refine lv S (rn_extract (S.tm rfl) rfl) rfl ?_;clear S;intro a S
 refine lv S (Ra (S.tm rfl)) rfl ?_;clear S;intro a S
 refine lv S (Ra (S.tm rfl)) rfl ?_;clear S;intro a S
 refine Ld ?_
 replace S := S.nk [.blk b2 (GRace.enc (GRace.mk k_empty 0 0 0 0 0 0 0)) 80] [(2, sV Bd), (9, .pointer (some ⟨b2, 0, none⟩)), (11, u4), (12, iV r1.2)] [true, false] rfl (subR rfl)
 refine Tn (Fs (Fs (Fg (lv S (Rm (S.tm rfl)) rfl ?_))));clear S;intro a S
 refine lv S (rn_neq (S.tm rfl) rfl) rfl ?_;clear S;intro a S
 refine Ld (Tn (f_cond (S.tm rfl) (fun hb1 => ?_) (fun hb1 => ?_)))
 ·replace h := iteT h hb1
  refine Fs (Fg (lv S (rn_bld bt_80 (pv := []) trivial (cs := [sV k_empty, iV 0, iV 0, iV 0, iV 0, iV 0, iV 0, iV 0]) (by kernel_rfl)) rfl ?_));clear S;intro a S
  refine lv S (Rm (S.tm rfl)) rfl ?_;clear S;intro a S
  refine lv S (Ra rfl) rfl ?_;clear S;intro a S
  refine l_store S (S.tm rfl) (S.tm rfl) (i := 0) (off := 0) rfl Tryz.sizeOf80 (vs := (GRace.enc (GRace.mk k_empty 0 0 0 0 0 0 0))) rfl rfl rfl rfl ?_;clear S;intro w5 hk5 S
  refine lv S (Ra (S.tm rfl)) rfl ?_;clear S;intro a S
  refine Ld (Tn (wp_ret (then_r ?_)))
  obtain rfl := Option.some.inj h
  exact f_retG S (rs := [.tmp 8, .cell 9 80, .tmp 10]) (vs := [.pointer none, .agg (GRace.enc (GRace.mk k_empty 0 0 0 0 0 0 0)).toArray, iV r1.2]) Tryz.results69 ⟨(res_tmp S rfl), (res_cell (off := 0) S rfl Tryz.isAgg80 Tryz.sizeOf80 rfl (S.cellsAt (i := 0) rfl)), (res_tmp S rfl), trivial⟩ rfl ⟨_, rfl, rfl⟩
 ·replace h := iteF h hb1
  refine wp_skip (Tn (Fs (Fg (lv S (Rm (S.tm rfl)) rfl ?_))));clear S;intro a S
  refine lv S (Rm (S.tm rfl)) rfl ?_;clear S;intro a S
  obtain ⟨r2, hr2, h⟩ := bindE h
  obtain ⟨b4, q1, rfl, hq2, hb2⟩ := hq1.deref hr2
  obtain ⟨u5, u9, rfl, ⟨u6, u7, rfl, hs4, ⟨u8, rfl, hs5⟩⟩, hs6⟩ := hq2
  replace hb2 : (join ψ φ2) b4 = some (.cells [u6.val, u8.val, iV r2.p_.Table.Relay, iV r2.p_.Table.Most, iV r2.p_.Final.Size, iV r2.p_.Final.Many, iV r2.p_.Final.Reserves, u9.val].toArray 148 (0, 0)) := hb2
  obtain ⟨r3, hr3, h⟩ := bindE h
  refine l_enter S (fun _ => run_call (vs := [.pointer (some ⟨b4, 0, none⟩), sV Bd]) ⟨(S.tm rfl), (S.tm rfl), trivial⟩ Tryz.call90) (state_race_ok _ b4 r2.p_ (R87.mk u6 (R83.mk u8 r2.p_.Table.Relay r2.p_.Table.Most) r2.p_.Final) ⟨u6, (R83.mk u8 r2.p_.Table.Relay r2.p_.Table.Most), rfl, (hs4.mono (join_le (View.le_trans hψ (S.le_arg nil_sub)) (S.le_new nil_sub))), ⟨u8, rfl, (hs5.mono (join_le (View.le_trans hψ (S.le_arg nil_sub)) (S.le_new nil_sub)))⟩⟩ u9.val r2.deeds_ (hs6.mono (join_le (View.le_trans hψ (S.le_arg nil_sub)) (S.le_new nil_sub))) ((join_le (View.le_trans hψ (S.le_arg nil_sub)) (S.le_new nil_sub)) _ _ hb2) Bd _ hr3) rfl ?_;clear S;intro v2 a w6 hv2 hk6 hn2 S
  subst hv2
  refine lv S (Rm (S.tm rfl)) rfl ?_;clear S;intro a S
  refine lv S (rn_extract (S.tm rfl) rfl) rfl ?_;clear S;intro a S
  refine lv S (rn_extract (S.tm rfl) rfl) rfl ?_;clear S;intro a S
  refine l_alloc S Tryz.zeroValue80 (cs := [sV k_empty, iV 0, iV 0, iV 0, iV 0, iV 0, iV 0, iV 0]) rfl rfl ?_;clear S;intro a w7 b5 hz5 hk7 S
  refine l_store S (S.tm rfl) (S.tm rfl) (i := 0) (off := 0) rfl Tryz.sizeOf80 (vs := (GRace.enc r3.1)) rfl rfl rfl rfl ?_;clear S;intro w8 hk8 S
  refine lv S (Ra (S.tm rfl)) rfl ?_;clear S;intro a S
  refine Ld (Tn (Fs (d_region [] ([b2]) Tryz.mixed S rfl (by kernel_rfl) ?_)));clear S;intro w10 hk10 hsel S
  refine d_quiet 0 S hsel rfl rfl rfl (by kernel_rfl) (by kernel_rfl) rfl (fun _ hw => (Rm (S.tm rfl))) ?_;clear S;intro a S
  refine d_quiet 1 S hsel rfl rfl rfl (by kernel_rfl) (by kernel_rfl) rfl (fun _ hw => (rn_ldA Tryz.isAgg80 Tryz.sizeOf80 (off := 0) (o := 0) (part := (GRace.enc r3.1)) rfl rfl (S.tm rfl) ((S.blk_mem (i := 0) (cells := (GRace.enc r3.1)) (b := b5) (T := 80) rfl (ne_fp (i := 1) (j := 0) (e := .blk b2 (GRace.enc (GRace.mk k_empty 0 0 0 0 0 0 0)) 80) (e' := .blk b5 (GRace.enc r3.1) 80) S rfl rfl rfl)).kept hw))) ?_;clear S;intro a S
  refine d_quiet 2 S hsel rfl rfl rfl (by kernel_rfl) (by kernel_rfl) rfl (fun _ hw => (Rm (S.tm rfl))) ?_;clear S;intro a S
  refine d_quiet 3 S hsel rfl rfl rfl (by kernel_rfl) (by kernel_rfl) rfl (fun _ hw => (Ra (S.tm rfl))) ?_;clear S;intro a S
  refine d_loud1 4 (by kernel_rfl) rfl (l_store S (S.tm rfl) (S.tm rfl) (i := 1) (off := 0) rfl Tryz.sizeOf80 (vs := (GRace.enc r3.1)) rfl rfl rfl rfl ?_);clear S;intro w11 hk11 S
  refine Ld (d_next hk11 (d_rest [5] hsel (by kernel_rfl) rfl ?_))
  clear hsel
  refine s_lv S rfl (Ra (S.tm rfl)) rfl ?_;clear S;intro a S
  refine s_done ?_
  replace S := S.nk [.blk b2 (GRace.enc r3.1) 80] [(8, .pointer (some ⟨b4, 0, none⟩)), (9, .pointer (some ⟨b2, 0, none⟩)), (10, iV r3.2)] [false, true] rfl (subR rfl)
  refine Tn (wp_ret ?_)
  obtain rfl := Option.some.inj h
  exact f_retG S (rs := [.tmp 8, .cell 9 80, .tmp 10]) (vs := [.pointer (some ⟨b4, 0, none⟩), .agg (GRace.enc r3.1).toArray, iV r3.2]) Tryz.results69 ⟨(res_tmp S rfl), (res_cell (off := 0) S rfl Tryz.isAgg80 Tryz.sizeOf80 rfl (S.cellsAt (i := 0) rfl)), (res_tmp S rfl), trivial⟩ rfl ⟨_, rfl, (PtrV.mk (R148.mk (R87.mk u6 (R83.mk u8 r2.p_.Table.Relay r2.p_.Table.Most) r2.p_.Final) u9) (rel_148_mono (all_out hψ S.le_newer) _ _ ⟨(R87.mk u6 (R83.mk u8 r2.p_.Table.Relay r2.p_.Table.Most) r2.p_.Final), u9, rfl, ⟨u6, (R83.mk u8 r2.p_.Table.Relay r2.p_.Table.Most), rfl, hs4, ⟨u8, rfl, hs5⟩⟩, hs6⟩) ((all_out hψ S.le_newer) _ _ hb2))⟩
theorem state_seeds_ok (w : World) (O : Nat) (Ba : GPlan) (Co : R87) (Cu : rel_87 (view w []) Ba Co) (Ay : Value) (Bf : List GDeed) (Cf : Slc (view w []) 11 Ay (Bf.map GDeed.enc)) (Aw : (view w []) O = some (.cells (R87.enc Co ++ [Ay]).toArray 148 (0, 0))) (Bd : ByteArray) (r : (List GSeed)) (h : state_seeds Ba Bf Bd = some r) :
    Calls Tryz.prog 70 [.pointer (some ⟨O, 0, none⟩), sV Bd].toArray w (Ret w [] fun τ v _ => OwnV τ 92 2 v r.length (r.flatMap GSeed.enc)) := by
 obtain ⟨u1, u2, rfl, hs1, ⟨u3, rfl, hs2⟩⟩ := Cu
 replace Aw : (view w []) O = some (.cells [u1.val, u3.val, iV Ba.Table.Relay, iV Ba.Table.Most, iV Ba.Final.Size, iV Ba.Final.Many, iV Ba.Final.Reserves, Ay].toArray 148 (0, 0)) := Aw
 refine f_enter [] [] Tryz.func70 rfl Tryz.ntmps70 rfl (by simp) (by simp [fps]) (by simp [fps]) fun a S => ?_
 unfold state_seeds at h
 replace S := S.nk [] [(0, .pointer (some ⟨O, 0, none⟩)), (1, sV Bd)] [] rfl (subR rfl)
 refine Fs (Fg (lv S (Ra rfl) rfl ?_));clear S;intro a S
 refine Ld (Tn (Fs (Fg (lv S (Ra rfl) rfl ?_))));clear S;intro a S
 replace S := S.nil 92 2
 refine Ld (Tn (Fs (Fs (Fg (lv S (Rm (S.tm rfl)) rfl ?_)))));clear S;intro a S
 refine lv S (Rm (S.tm rfl)) rfl ?_;clear S;intro a S
 obtain ⟨r1, hr1, h⟩ := bindE h
 have hz1 := S.keep.size
 refine l_enter S (fun _ => run_call (vs := [.pointer (some ⟨O, 0, none⟩), sV Bd]) ⟨(S.tm rfl), (S.tm rfl), trivial⟩ Tryz.call91) (state_entered_ok _ O Ba (R87.mk u1 (R83.mk u3 Ba.Table.Relay Ba.Table.Most) Ba.Final) ⟨u1, (R83.mk u3 Ba.Table.Relay Ba.Table.Most), rfl, (hs1.mono (S.le_arg nil_sub)), ⟨u3, rfl, (hs2.mono (S.le_arg nil_sub))⟩⟩ Ay Bf (Cf.mono (S.le_arg nil_sub)) ((S.le_arg nil_sub) _ _ Aw) Bd _ hr1) rfl ?_;clear S;intro v1 a w1 hv1 hk1 hn1 S
 obtain ⟨φ1, hl1, hm1, S⟩ := S.see' hn1 hz1
 have hs3 := hv1.mono hm1
 refine lv S (rn_lenT sl_26 (S.tm rfl) (slc_len (ownV_slcT GDeed.enc_ok hs3))) rfl ?_;clear S;intro a S
 refine lv S (Rm rfl) rfl ?_;clear S;intro a S
 refine Ld (Tn ?_)
 replace S := S.nk [.own (.slice none 0 0) 92 2 ([] : List GSeed).length (([] : List GSeed).flatMap GSeed.enc)] [(5, (.slice none 0 0)), (10, v1), (11, iV (r1.length : Int)), (12, iV 0)] [true] rfl (subR rfl)
 obtain ⟨j1, hj1, h⟩ := joinE h
 refine f_join (fun a w' => ∃ x1 : List GSeed, ∃ v2 : Value, j1 x1 = some r ∧ Sx w [] φ1 [.own v2 92 2 x1.length (x1.flatMap GSeed.enc)] [(5, v2)] 26 a w') ?_ ?_
 ·refine wp_block (f_loop (fun (ys1 : List GDeed) a w' => ∃ i1 : Nat, ∃ x1 : List GSeed, ∃ v2 : Value, (∃ dn, r1 = dn ++ ys1 ∧ dn.length = i1) ∧ state_seeds_l1 j1 ys1 i1 x1 = some r ∧ Sx w [] φ1 [.own v2 92 2 x1.length (x1.flatMap GSeed.enc)] [(5, v2), (10, v1), (11, iV (r1.length : Int)), (12, iV (i1 : Int))] 26 a w') List.length r1 ⟨0, ([] : List GSeed), (.slice none 0 0), ⟨[], rfl, rfl⟩, h, S.nf [true] rfl (subR rfl)⟩ ?_)
  clear S h;rintro ys1 a w2 ⟨i1, x1, v2, ⟨dn, hd1, hi1⟩, h, S⟩
  cases ys1 with
  | nil =>
   rw [state_seeds_l1.eq_1] at h
   refine Fs (Fg (lv S (rn_lss (S.tm rfl) (S.tm rfl)) rfl ?_));clear S;intro a S
   refine Ld ?_
   replace S := S.nk [.own v2 92 2 x1.length (x1.flatMap GSeed.enc)] [(5, v2), (10, v1), (11, iV (r1.length : Int)), (12, iV (i1 : Int)), (13, bV (decide ((i1 : Int) < (r1.length : Int))))] [true] rfl (subR rfl)
   refine Tn (Fs (wp_cond_false ((S.tm rfl).trans (congrArg Value.bool (rng_nil hd1 hi1))) (wp_exit (then_x (then_x (x_same ?_))))))
   refine Tn ?_
   exact ⟨x1, v2, h, S.nf [true] rfl ⟨rfl, trivial⟩⟩
  | cons y1 ys1 =>
   rw [state_seeds_l1.eq_2] at h
   refine Fs (Fg (lv S (rn_lss (S.tm rfl) (S.tm rfl)) rfl ?_));clear S;intro a S
   refine Ld ?_
   replace S := S.nk [.own v2 92 2 x1.length (x1.flatMap GSeed.enc)] [(5, v2), (10, v1), (11, iV (r1.length : Int)), (12, iV (i1 : Int)), (13, bV (decide ((i1 : Int) < (r1.length : Int))))] [true] rfl (subR rfl)
   refine Tn (Fs (wp_cond_true ((S.tm rfl).trans (congrArg Value.bool (rng_cons hd1 hi1))) (wp_skip (Tn (Fs (wp_block ?_))))))
   refine Fs (Fg ?_)
   obtain ⟨b1, o1, hm2, hr2⟩ := rn_indexT (a := a) (x := .tmp 10) (y := .tmp 12) (ty := 0) sl_26 (ownV_slcT GDeed.enc_ok hs3) (get_mid hd1 hi1) rfl (S.tm rfl) (S.tm rfl)
   refine lv S (hr2 _) rfl ?_;clear S;intro a S
   clear hr2
   refine lv S (rn_ldA Tryz.isAgg39 Tryz.sizeOf39 (off := o1) (o := 0) (part := (GDeed.enc y1)) rfl rfl (S.tm rfl) (hm2.at S.emb)) rfl ?_;clear S;intro a S
   refine l_alloc S Tryz.zeroValue39 (cs := [sV k_empty, iV 0, iV 0, iV 0, sV k_empty, sV k_empty, sV k_empty, iV 0, iV 0, sV k_empty, iV 0]) rfl rfl ?_;clear S;intro a w4 b2 hz2 hk2 S
   refine l_store S (S.tm rfl) (S.tm rfl) (i := 0) (off := 0) rfl Tryz.sizeOf39 (vs := (GDeed.enc y1)) rfl rfl rfl rfl ?_;clear S;intro w5 hk3 S
   refine Ld (Tn (Fg (lv S (Rm (S.tm rfl)) rfl ?_)));clear S;intro a S
   refine lv S (rn_fld fa_39_4 (S.tm rfl)) rfl ?_;clear S;intro a S
   refine lv S (rn_load Tryz.isAgg9 (S.tm rfl) (S.cell (i := 0) rfl rfl)) rfl ?_;clear S;intro a S
   refine lv S (rn_fld fa_39_7 (S.tm rfl)) rfl ?_;clear S;intro a S
   refine lv S (rn_load Tryz.isAgg3 (S.tm rfl) (S.cell (i := 0) rfl rfl)) rfl ?_;clear S;intro a S
   refine lv S (rn_bld bt_92 (pv := [(0, sV y1.Who), (1, iV y1.Time)]) ⟨rfl, (S.tm rfl), rfl, (S.tm rfl), trivial⟩ (cs := [sV y1.Who, iV y1.Time]) (by kernel_rfl)) rfl ?_;clear S;intro a S
   refine l_buildSlice S Tryz.underlying88 Tryz.sizeOf92 Tryz.zeroValue92 rfl rfl (pv := [(0, .agg #[sV y1.Who, iV y1.Time])]) ⟨rfl, (S.tm rfl), trivial⟩ (cs := [sV y1.Who, iV y1.Time]) (by kernel_rfl) rfl ?_;clear S;intro a w6 b3 hz3 hk4 S
   obtain ⟨hc1, h⟩ := chkE h
   refine l_appendT sl_88 GSeed.enc_ok S (S.tm rfl) (i := 2) rfl (S.tm rfl) (j := 0) rfl (ys := [(GSeed.mk y1.Who y1.Time)]) rfl rfl rfl rfl (by have := room_lt hc1;omega) rfl ?_;clear S;intro v3 a w7 hk5 S
   refine lv S (Ra (S.tm rfl)) rfl ?_;clear S;intro a S
   refine Ld ?_
   replace S := S.nk [.own v3 92 2 (x1 ++ [(GSeed.mk y1.Who y1.Time)]).length ((x1 ++ [(GSeed.mk y1.Who y1.Time)]).flatMap GSeed.enc)] [(5, v3), (10, v1), (11, iV (r1.length : Int)), (12, iV (i1 : Int))] [false, false, true] rfl (subR rfl)
   refine blk_n (Tn (Fg (lv S (rn_add (S.tm rfl) rfl) rfl ?_)));clear S;intro a S
   refine lv S (Rm (S.tm rfl)) rfl ?_;clear S;intro a S
   refine Ld (Tn ?_)
   exact ⟨ys1, ⟨i1 + 1, (x1 ++ [(GSeed.mk y1.Who y1.Time)]), v3, ⟨_, (hd1).trans (List.append_cons _ _ _), by simp [hi1]⟩, h, S.nf [true] rfl ⟨rfl, rfl, rfl, (congrArg (fun z => some (Value.int .i64 z)) (rng_next hd1 hi1 (slc_max (ownV_slcT GDeed.enc_ok hs3)))), trivial⟩⟩, Nat.lt_succ_self _⟩
 clear S h;rintro a w3 ⟨x1, v2, h, S⟩;rw [hj1] at h;clear hj1 j1
 refine Tn (Fs (Fg (lv S (Rm (S.tm rfl)) rfl ?_)));clear S;intro a S
 refine lv S (Ra (S.tm rfl)) rfl ?_;clear S;intro a S
 refine Ld (Tn (wp_ret ?_))
 obtain rfl := Option.some.inj h
 exact f_ret S Tryz.results70 rfl (own_retT S (i := 0) rfl rfl)
theorem meet_Entered_ok (w : World) (Aa : GPlan) (Ci : R87) (Cp : rel_87 (view w []) Aa Ci) (Ab : Value) (Ac : List GDeed) (Ao : Slc (view w []) 11 Ab (Ac.map GDeed.enc)) (Bd : ByteArray) (Bm : Int) (r : (List GSeed) × Int) (h : meet_Entered Aa Ac Bd Bm = some r) :
    Calls Tryz.prog 48 [.agg (R87.enc Ci).toArray, Ab, sV Bd, iV Bm].toArray w (Ret w [] fun τ v _ => ∃ u1 : Value, v = .tuple #[u1, iV r.2] ∧ OwnV τ 92 2 u1 r.1.length (r.1.flatMap GSeed.enc)) := by
 obtain ⟨u1, u2, rfl, hs1, ⟨u3, rfl, hs2⟩⟩ := Cp
 refine f_enter [] [] Tryz.func48 rfl Tryz.ntmps48 rfl (by simp) (by simp [fps]) (by simp [fps]) fun a S => ?_
 unfold meet_Entered at h
 replace S := S.nk [] [(0, .agg #[u1.val, u3.val, iV Aa.Table.Relay, iV Aa.Table.Most, iV Aa.Final.Size, iV Aa.Final.Many, iV Aa.Final.Reserves]), (1, Ab), (2, sV Bd), (3, iV Bm)] [] rfl (subR rfl)
 refine Fs (Fg (l_box S (S.tm rfl) (cs := [u1.val, u3.val, iV Aa.Table.Relay, iV Aa.Table.Most, iV Aa.Final.Size, iV Aa.Final.Many, iV Aa.Final.Reserves]) rfl rfl ?_));clear S;intro a w1 b1 hz1 hk1 S
 refine lv S (Ra rfl) rfl ?_;clear S;intro a S
 refine lv S (Ra rfl) rfl ?_;clear S;intro a S
 refine Ld (Tn (Fs (Fg (lv S (rn_ldA Tryz.isAgg87 Tryz.sizeOf87 (off := 0) (o := 0) (part := [u1.val, u3.val, iV Aa.Table.Relay, iV Aa.Table.Most, iV Aa.Final.Size, iV Aa.Final.Many, iV Aa.Final.Reserves]) rfl rfl (S.tm rfl) (S.cellsAt (i := 0) rfl)) rfl ?_))));clear S;intro a S
 iterate 3 (refine lv S (Rm (S.tm rfl)) rfl ?_;clear S;intro a S)
 obtain ⟨r1, hr1, h⟩ := bindE h
 have hz2 := S.keep.size
 refine l_enter S (fun _ => run_call (vs := [.agg (R87.enc (R87.mk u1 (R83.mk u3 Aa.Table.Relay Aa.Table.Most) Aa.Final)).toArray, Ab, sV Bd, iV Bm]) ⟨(S.tm rfl), (S.tm rfl), (S.tm rfl), (S.tm rfl), trivial⟩ Tryz.call69) (meet_ask_ok _ (join (view w []) nov) (join_le (S.le_arg nil_sub) (S.le_new nil_sub)) Aa (R87.mk u1 (R83.mk u3 Aa.Table.Relay Aa.Table.Most) Aa.Final) ⟨u1, (R83.mk u3 Aa.Table.Relay Aa.Table.Most), rfl, (hs1.mono (le_join_left _ _)), ⟨u3, rfl, (hs2.mono (le_join_left _ _))⟩⟩ Ab Ac (Ao.mono (le_join_left _ _)) Bd Bm _ hr1) rfl ?_;clear S;intro v1 a w2 hv1 hk2 hn1 S
 obtain ⟨u4, rfl, ho1⟩ := hv1
 obtain ⟨φ1, hl1, hm1, S⟩ := S.see' hn1 hz2
 have hq1 := PtrV.mono (rel_148_mono (all_step hl1 hm1)) (all_step hl1 hm1) ho1
 refine lv S (Rm (S.tm rfl)) rfl ?_;clear S;intro a S
 iterate 3 (refine lv S (rn_extract (S.tm rfl) rfl) rfl ?_;clear S;intro a S)
 refine l_alloc S Tryz.zeroValue80 (cs := [sV k_empty, iV 0, iV 0, iV 0, iV 0, iV 0, iV 0, iV 0]) rfl rfl ?_;clear S;intro a w3 b2 hz3 hk3 S
 refine lv S (Ra (S.tm rfl)) rfl ?_;clear S;intro a S
 refine l_store S (S.tm rfl) (S.tm rfl) (i := 0) (off := 0) rfl Tryz.sizeOf80 (vs := (GRace.enc r1.2.1)) rfl rfl rfl rfl ?_;clear S;intro w4 hk4 S
 refine lv S (Ra (S.tm rfl)) rfl ?_;clear S;intro a S
 refine Ld ?_
 replace S := S.nk [] [(2, sV Bd), (10, u4), (12, iV r1.2.2)] [false, false] rfl (subR rfl)
 refine Tn (Fs (Fs (Fg (lv S (Rm (S.tm rfl)) rfl ?_))));clear S;intro a S
 refine lv S (rn_neq (S.tm rfl) rfl) rfl ?_;clear S;intro a S
 refine Ld (Tn (f_cond (S.tm rfl) (fun hb1 => ?_) (fun hb1 => ?_)))
 ·replace h := iteT h hb1
  refine Fs (Fg (lv S (Rm (S.tm rfl)) rfl ?_));clear S;intro a S
  refine lv S (Ra rfl) rfl ?_;clear S;intro a S
  refine lv S (Ra (S.tm rfl)) rfl ?_;clear S;intro a S
  refine Ld (Tn (wp_ret (then_r ?_)))
  obtain rfl := Option.some.inj h
  exact f_ret2 S Tryz.results48 rfl rfl ⟨_, rfl, (ownV_nil _ _ _)⟩
 ·replace h := iteF h hb1
  refine wp_skip (Tn (Fs (Fg (lv S (Rm (S.tm rfl)) rfl ?_))));clear S;intro a S
  refine lv S (Rm (S.tm rfl)) rfl ?_;clear S;intro a S
  obtain ⟨r2, hr2, h⟩ := bindE h
  obtain ⟨b3, q1, rfl, hq2, hb2⟩ := hq1.deref hr2
  obtain ⟨u5, u9, rfl, ⟨u6, u7, rfl, hs3, ⟨u8, rfl, hs4⟩⟩, hs5⟩ := hq2
  replace hb2 : (join (view w []) φ1) b3 = some (.cells [u6.val, u8.val, iV r2.p_.Table.Relay, iV r2.p_.Table.Most, iV r2.p_.Final.Size, iV r2.p_.Final.Many, iV r2.p_.Final.Reserves, u9.val].toArray 148 (0, 0)) := hb2
  obtain ⟨r3, hr3, h⟩ := bindE h
  have hz4 := S.keep.size
  refine l_enter S (fun _ => run_call (vs := [.pointer (some ⟨b3, 0, none⟩), sV Bd]) ⟨(S.tm rfl), (S.tm rfl), trivial⟩ Tryz.call70) (state_seeds_ok _ b3 r2.p_ (R87.mk u6 (R83.mk u8 r2.p_.Table.Relay r2.p_.Table.Most) r2.p_.Final) ⟨u6, (R83.mk u8 r2.p_.Table.Relay r2.p_.Table.Most), rfl, (hs3.mono (join_le (S.le_arg nil_sub) (S.le_new nil_sub))), ⟨u8, rfl, (hs4.mono (join_le (S.le_arg nil_sub) (S.le_new nil_sub)))⟩⟩ u9.val r2.deeds_ (hs5.mono (join_le (S.le_arg nil_sub) (S.le_new nil_sub))) ((join_le (S.le_arg nil_sub) (S.le_new nil_sub)) _ _ hb2) Bd _ hr3) rfl ?_;clear S;intro v2 a w5 hv2 hk5 hn2 S
  obtain ⟨φ2, hl2, hm2, S⟩ := S.see' hn2 hz4
  have hs6 := hv2.mono hm2
  refine lv S (Ra (S.tm rfl)) rfl ?_;clear S;intro a S
  refine lv S (Ra rfl) rfl ?_;clear S;intro a S
  refine Ld (Tn (wp_ret ?_))
  obtain rfl := Option.some.inj h
  exact f_ret2 S Tryz.results48 rfl rfl ⟨_, rfl, ((hs6).mono S.le_newer)⟩
end Go.Proofs.YtpfommakhgkmeaaGreatDoor
