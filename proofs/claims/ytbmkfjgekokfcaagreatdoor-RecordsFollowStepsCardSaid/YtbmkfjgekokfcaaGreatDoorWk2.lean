/- Each Go function computes its plain twin, by program. -/
import Derived.Test.YtbmkfjgekokfcaaGreatDoorWk1
namespace Go.Proofs.YtbmkfjgekokfcaaGreatDoor
open Go
set_option maxRecDepth 20000 in
theorem record_follow_ok (w : World) (V : Value) (Z : List GStep) (Ae : Slc (view w []) 8 V (Z.map GStep.enc)) (Aq : Int) (r : (List Grecord_swum) × (List Int)) (h : record_follow Z Aq = some r) :
    Calls Tryz.prog 23 [V, iV Aq].toArray w (Ret w [] fun τ v _ => ∃ u1 : Value, ∃ u2 : Value, v = .tuple #[u1, u2] ∧ SlcD τ 1 RP.enc rel_90 u1 r.1 ∧ OwnV τ 3 1 u2 r.2.length (r.2.flatMap eInt)) := by
 refine f_enter [] [] Tryz.func23 rfl Tryz.ntmps23 rfl (by simp) (by simp [fps]) (by simp [fps]) fun a S => ?_
 unfold record_follow at h
 replace S := S.nk [] [(0, V), (1, iV Aq)] [] rfl (subR rfl)
 refine Fs (Fg (lv S (Ra rfl) rfl ?_));clear S;intro a S
 refine lv S (Ra rfl) rfl ?_;clear S;intro a S
 refine Ld ?_
 replace S := S.nk [] [(0, V), (1, iV Aq)] [] rfl (subR rfl)
 refine Tn (Fs (Fg (lv S (Ra rfl) rfl ?_)));clear S;intro a S
 replace S := S.nil 90 1
 refine Ld ?_
 replace S := S.nk [.own (.slice none 0 0) 90 1 ([] : List Nat).length (([] : List Nat).flatMap RP.enc)] [(0, V), (1, iV Aq), (6, (.slice none 0 0))] [true] rfl (subR rfl)
 refine Tn (Fs (Fg (lv S (Ra rfl) rfl ?_)));clear S;intro a S
 replace S := S.nil 3 1
 refine Ld ?_
 replace S := S.nk [.own (.slice none 0 0) 3 1 ([] : List Int).length (([] : List Int).flatMap eInt), .own (.slice none 0 0) 90 1 ([] : List Nat).length (([] : List Nat).flatMap RP.enc)] [(0, V), (1, iV Aq), (6, (.slice none 0 0)), (7, (.slice none 0 0))] [true, true] rfl (subR rfl)
 refine Tn (Fs (Fg (l_makeMap (κ := ByteArray) (ν := Option Nat) S rfl Value.string PV ?_)));clear S;intro a w1 b1 hz1 hk1 S
 refine lv S (Ra (S.tm rfl)) rfl ?_;clear S;intro a S
 refine Ld ?_
 replace S := S.nk ([.map b1 (ments Value.string PV (idm (([] : List Grecord_swum).map fun x => x.s_.Id) ([] : List Nat))) (idm (([] : List Grecord_swum).map fun x => x.s_.Id) ([] : List Nat)).length, .own (.slice none 0 0) 3 1 ([] : List Int).length (([] : List Int).flatMap eInt), .own (.slice none 0 0) 90 1 ([] : List Nat).length (([] : List Nat).flatMap RP.enc)] ++ arena 92 Grecord_swum.enc ([] : List Nat) ([] : List Grecord_swum)) [(0, V), (1, iV Aq), (6, (.slice none 0 0)), (7, (.slice none 0 0)), (8, .map (some b1))] [true, true, true] rfl (subR rfl)
 refine Tn (Fs (Fs (Fg (lv S (Rm (S.tm rfl)) rfl ?_))));clear S;intro a S
 refine lv S (rn_lenT sl_28 (S.tm rfl) (slc_len Ae)) rfl ?_;clear S;intro a S
 refine lv S (Rm rfl) rfl ?_;clear S;intro a S
 refine Ld ?_
 replace S := S.nk ([.map b1 (ments Value.string PV (idm (([] : List Grecord_swum).map fun x => x.s_.Id) ([] : List Nat))) (idm (([] : List Grecord_swum).map fun x => x.s_.Id) ([] : List Nat)).length, .own (.slice none 0 0) 3 1 ([] : List Int).length (([] : List Int).flatMap eInt), .own (.slice none 0 0) 90 1 ([] : List Nat).length (([] : List Nat).flatMap RP.enc)] ++ arena 92 Grecord_swum.enc ([] : List Nat) ([] : List Grecord_swum)) [(1, iV Aq), (6, (.slice none 0 0)), (7, (.slice none 0 0)), (8, .map (some b1)), (13, V), (14, iV (Z.length : Int)), (15, iV 0)] [true, true, true] rfl (subR rfl)
 refine Tn ?_
 obtain ⟨j1, hj1, h⟩ := joinE h
 refine f_join (fun a w' => ∃ x1 : List Grecord_swum, ∃ x2 : List Int, ∃ bs1 : List Nat, ∃ v1 : Value, ∃ v2 : Value, j1 x1 x2 = some r ∧ bs1.length = x1.length ∧ Sx w [] nov ([.map b1 (ments Value.string PV (idm (x1.map fun x => x.s_.Id) bs1)) (idm (x1.map fun x => x.s_.Id) bs1).length, .own v1 3 1 x2.length (x2.flatMap eInt), .own v2 90 1 bs1.length (bs1.flatMap RP.enc)] ++ arena 92 Grecord_swum.enc bs1 x1) [(6, v2), (7, v1)] 97 a w') ?_ ?_
 ·refine wp_block (f_loop (fun (ys1 : List GStep) a w' => ∃ i1 : Nat, ∃ x1 : List Grecord_swum, ∃ x2 : List Int, ∃ bs1 : List Nat, ∃ v1 : Value, ∃ v2 : Value, (∃ dn, Z = dn ++ ys1 ∧ dn.length = i1) ∧ record_follow_l1 Aq j1 ys1 i1 x1 x2 = some r ∧ bs1.length = x1.length ∧ Sx w [] nov ([.map b1 (ments Value.string PV (idm (x1.map fun x => x.s_.Id) bs1)) (idm (x1.map fun x => x.s_.Id) bs1).length, .own v1 3 1 x2.length (x2.flatMap eInt), .own v2 90 1 bs1.length (bs1.flatMap RP.enc)] ++ arena 92 Grecord_swum.enc bs1 x1) [(1, iV Aq), (6, v2), (7, v1), (8, .map (some b1)), (13, V), (14, iV (Z.length : Int)), (15, iV (i1 : Int))] 97 a w') List.length Z ⟨0, ([] : List Grecord_swum), ([] : List Int), ([] : List Nat), (.slice none 0 0), (.slice none 0 0), ⟨[], rfl, rfl⟩, h, (rfl : ([] : List Nat).length = ([] : List Grecord_swum).length), S.nf [true, true, true] rfl (subR rfl)⟩ ?_)
  clear S h;rintro ys1 a w2 ⟨i1, x1, x2, bs1, v1, v2, ⟨dn, hd1, hi1⟩, h, hl1, S⟩
  cases ys1 with
  | nil =>
   rw [record_follow_l1.eq_1] at h
   refine Fs (Fg (lv S (rn_lss (S.tm rfl) (S.tm rfl)) rfl ?_));clear S;intro a S
   refine Ld ?_
   replace S := S.nk ([.map b1 (ments Value.string PV (idm (x1.map fun x => x.s_.Id) bs1)) (idm (x1.map fun x => x.s_.Id) bs1).length, .own v1 3 1 x2.length (x2.flatMap eInt), .own v2 90 1 bs1.length (bs1.flatMap RP.enc)] ++ arena 92 Grecord_swum.enc bs1 x1) [(1, iV Aq), (6, v2), (7, v1), (8, .map (some b1)), (13, V), (14, iV (Z.length : Int)), (15, iV (i1 : Int)), (16, bV (decide ((i1 : Int) < (Z.length : Int))))] [true, true, true] rfl (subR rfl)
   refine Tn (Fs (wp_cond_false ((S.tm rfl).trans (congrArg Value.bool (rng_nil hd1 hi1))) (wp_exit (then_x (then_x (x_same ?_))))))
   refine Tn ?_
   exact ⟨x1, x2, bs1, v1, v2, h, hl1, S.nf [true, true, true] rfl (subR rfl)⟩
  | cons y1 ys1 =>
   rw [record_follow_l1.eq_2] at h
   refine Fs (Fg (lv S (rn_lss (S.tm rfl) (S.tm rfl)) rfl ?_));clear S;intro a S
   refine Ld ?_
   replace S := S.nk ([.map b1 (ments Value.string PV (idm (x1.map fun x => x.s_.Id) bs1)) (idm (x1.map fun x => x.s_.Id) bs1).length, .own v1 3 1 x2.length (x2.flatMap eInt), .own v2 90 1 bs1.length (bs1.flatMap RP.enc)] ++ arena 92 Grecord_swum.enc bs1 x1) [(1, iV Aq), (6, v2), (7, v1), (8, .map (some b1)), (13, V), (14, iV (Z.length : Int)), (15, iV (i1 : Int)), (16, bV (decide ((i1 : Int) < (Z.length : Int))))] [true, true, true] rfl (subR rfl)
   refine Tn (Fs (wp_cond_true ((S.tm rfl).trans (congrArg Value.bool (rng_cons hd1 hi1))) (wp_skip (Tn (Fs (wp_block ?_))))))
   refine Fs (Fg (lv S (Rm (S.tm rfl)) rfl ?_));clear S;intro a S
   obtain ⟨b2, o1, hm1, hr1⟩ := rn_indexT (a := a) (x := .tmp 13) (y := .tmp 15) (ty := 0) sl_28 Ae (get_mid hd1 hi1) rfl (S.tm rfl) (S.tm rfl)
   refine lv S (hr1 _) rfl ?_;clear S;intro a S
   clear hr1
   refine lv S (rn_ldA Tryz.isAgg35 Tryz.sizeOf35 (off := o1) (o := 0) (part := (GStep.enc y1)) rfl rfl (S.tm rfl) (hm1.at S.emb0)) rfl ?_;clear S;intro a S
   refine l_alloc S Tryz.zeroValue35 (cs := [iV 0, iV 0, sV k_empty, sV k_empty, sV k_empty, sV k_empty, iV 0, iV 0]) rfl rfl ?_;clear S;intro a w4 b3 hz2 hk2 S
   refine lv S (Ra (S.tm rfl)) rfl ?_;clear S;intro a S
   refine l_store S (S.tm rfl) (S.tm rfl) (i := 0) (off := 0) rfl Tryz.sizeOf35 (vs := (GStep.enc y1)) rfl rfl rfl rfl ?_;clear S;intro w5 hk3 S
   refine Ld ?_
   replace S := S.nk ([.blk b3 (GStep.enc y1) 35, .map b1 (ments Value.string PV (idm (x1.map fun x => x.s_.Id) bs1)) (idm (x1.map fun x => x.s_.Id) bs1).length, .own v1 3 1 x2.length (x2.flatMap eInt), .own v2 90 1 bs1.length (bs1.flatMap RP.enc)] ++ arena 92 Grecord_swum.enc bs1 x1) [(1, iV Aq), (6, v2), (7, v1), (8, .map (some b1)), (9, iV (i1 : Int)), (10, .pointer (some ⟨b3, 0, none⟩)), (13, V), (14, iV (Z.length : Int)), (15, iV (i1 : Int))] [true, true, true, true] rfl (subR rfl)
   refine Tn (Fs (Fs (Fg (lv S (rn_fld fa_35_0 (S.tm rfl)) rfl ?_))));clear S;intro a S
   refine lv S (rn_load Tryz.isAgg3 (S.tm rfl) (S.cell (i := 0) rfl rfl)) rfl ?_;clear S;intro a S
   refine lv S (Rm (S.tm rfl)) rfl ?_;clear S;intro a S
   refine lv S (rn_gtr (S.tm rfl) (S.tm rfl)) rfl ?_;clear S;intro a S
   refine Ld ?_
   replace S := S.nk ([.blk b3 (GStep.enc y1) 35, .map b1 (ments Value.string PV (idm (x1.map fun x => x.s_.Id) bs1)) (idm (x1.map fun x => x.s_.Id) bs1).length, .own v1 3 1 x2.length (x2.flatMap eInt), .own v2 90 1 bs1.length (bs1.flatMap RP.enc)] ++ arena 92 Grecord_swum.enc bs1 x1) [(1, iV Aq), (6, v2), (7, v1), (8, .map (some b1)), (9, iV (i1 : Int)), (10, .pointer (some ⟨b3, 0, none⟩)), (13, V), (14, iV (Z.length : Int)), (15, iV (i1 : Int)), (23, bV (decide (Aq < y1.At)))] [true, true, true, true] rfl (subR rfl)
   refine Tn (f_cond (S.tm rfl) (fun hb1 => ?_) (fun hb1 => ?_))
   ·replace h := iteT h hb1
    refine wp_exit (then_x (x_other rfl (then_x (then_x (x_same (Tn ?_))))))
    exact ⟨x1, x2, bs1, v1, v2, h, hl1, S.nf [false, true, true, true] rfl (subR rfl)⟩
   ·replace h := iteF h hb1
    refine wp_skip (Tn (Fs (Fg (lv S (Rm (S.tm rfl)) rfl ?_))));clear S;intro a S
    refine lv S (rn_fld fa_35_2 (S.tm rfl)) rfl ?_;clear S;intro a S
    refine lv S (rn_load Tryz.isAgg9 (S.tm rfl) (S.cell (i := 0) rfl rfl)) rfl ?_;clear S;intro a S
    refine lv S (rn_lookup (kv := Value.string) (vv := PV) (m := idm (x1.map fun x => x.s_.Id) bs1) (key := y1.Id) (z := none) (S.map_at (i := 1) rfl) Tryz.underlying89 (keyT_str Tryz.underlying9) Tryz.zeroValue90 (S.tm rfl) (S.tm rfl)) rfl ?_;clear S;intro a S
    generalize ho : mgetD (idm (x1.map fun x => x.s_.Id) bs1) y1.Id none = o2 at S
    obtain ⟨hN, hS⟩ : (swFind x1 y1.Id).isNone = o2.isNone ∧ (swFind x1 y1.Id).isSome = o2.isSome := find_o hl1 ho
    simp only [hN, hS] at h
    refine lv S (Ra (S.tm rfl)) rfl ?_;clear S;intro a S
    refine Ld ?_
    replace S := S.nk ([.blk b3 (GStep.enc y1) 35, .map b1 (ments Value.string PV (idm (x1.map fun x => x.s_.Id) bs1)) (idm (x1.map fun x => x.s_.Id) bs1).length, .own v1 3 1 x2.length (x2.flatMap eInt), .own v2 90 1 bs1.length (bs1.flatMap RP.enc)] ++ arena 92 Grecord_swum.enc bs1 x1) [(1, iV Aq), (6, v2), (7, v1), (8, .map (some b1)), (9, iV (i1 : Int)), (10, .pointer (some ⟨b3, 0, none⟩)), (11, PV o2), (13, V), (14, iV (Z.length : Int)), (15, iV (i1 : Int))] [true, true, true, true] rfl (subR rfl)
    refine Tn ?_
    obtain ⟨j2, hj2, h⟩ := joinE h
    refine f_join (fun a w' => ∃ x3 : List Grecord_swum, ∃ x4 : List Int, ∃ bs2 : List Nat, ∃ v3 : Value, ∃ v4 : Value, j2 x3 x4 = some r ∧ bs2.length = x3.length ∧ Sx w [] nov ([.map b1 (ments Value.string PV (idm (x3.map fun x => x.s_.Id) bs2)) (idm (x3.map fun x => x.s_.Id) bs2).length, .own v3 3 1 x4.length (x4.flatMap eInt), .own v4 90 1 bs2.length (bs2.flatMap RP.enc)] ++ arena 92 Grecord_swum.enc bs2 x3) [(1, iV Aq), (6, v4), (7, v3), (8, .map (some b1)), (13, V), (14, iV (Z.length : Int)), (15, iV (i1 : Int))] 97 a w') ?_ ?_
    ·refine wp_block (Fs (Fg (lv S (rn_fld fa_35_1 (S.tm rfl)) rfl ?_)));clear S;intro a S
     refine lv S (rn_load Tryz.isAgg3 (S.tm rfl) (S.cell (i := 0) rfl rfl)) rfl ?_;clear S;intro a S
     refine lv S (rn_eql (S.tm rfl) rfl) rfl ?_;clear S;intro a S
     refine lv S (Rm (S.tm rfl)) rfl ?_;clear S;intro a S
     refine f_cutm 3 (fun a w' => Keep [] w5 w' ∧ Sx w [] nov ([.blk b3 (GStep.enc y1) 35, .map b1 (ments Value.string PV (idm (x1.map fun x => x.s_.Id) bs1)) (idm (x1.map fun x => x.s_.Id) bs1).length, .own v1 3 1 x2.length (x2.flatMap eInt), .own v2 90 1 bs1.length (bs1.flatMap RP.enc)] ++ arena 92 Grecord_swum.enc bs1 x1) [(1, iV Aq), (6, v2), (7, v1), (8, .map (some b1)), (9, iV (i1 : Int)), (10, .pointer (some ⟨b3, 0, none⟩)), (11, PV o2), (13, V), (14, iV (Z.length : Int)), (15, iV (i1 : Int)), (39, bV ((decide (y1.Kind = 1)) && o2.isNone))] 97 a w') ?_ ?_
     ·rcases Bool.eq_false_or_eq_true (decide (y1.Kind = 1)) with hb2 | hb2
      ·refine l_want S rfl rfl rfl hb2 (lv S (Rm (S.tm rfl)) rfl ?_);clear S;intro a S
       refine l_want S rfl rfl rfl hb2 (lv S (rn_peql Tryz.underlying90 (S.tm rfl) rfl) rfl ?_);clear S;intro a S
       refine lv S (rn_and_t hb2 (S.tm rfl) (S.tm rfl)) rfl ?_;clear S;intro a S
       refine Ld (Tn ?_)
       exact ⟨Keep.refl _ _, S.nf [true, true, true, true] rfl (subR rfl)⟩
      ·refine l_skip S rfl rfl rfl (neq_f hb2) rfl ?_ rfl;clear S;intro a S
       refine l_skip S rfl rfl rfl (neq_f hb2) rfl ?_ rfl;clear S;intro a S
       refine lv S (rn_and_f o2.isNone hb2 (S.tm rfl) rfl) rfl ?_;clear S;intro a S
       refine Ld (Tn ?_)
       exact ⟨Keep.refl _ _, S.nf [true, true, true, true] rfl (subR rfl)⟩
     clear S;rintro a w7 ⟨hk4, S⟩
     refine lv S (Ra (S.tm rfl)) rfl ?_;clear S;intro a S
     refine Ld ?_
     replace S := S.nk ([.blk b3 (GStep.enc y1) 35, .map b1 (ments Value.string PV (idm (x1.map fun x => x.s_.Id) bs1)) (idm (x1.map fun x => x.s_.Id) bs1).length, .own v1 3 1 x2.length (x2.flatMap eInt), .own v2 90 1 bs1.length (bs1.flatMap RP.enc)] ++ arena 92 Grecord_swum.enc bs1 x1) [(1, iV Aq), (6, v2), (7, v1), (8, .map (some b1)), (9, iV (i1 : Int)), (10, .pointer (some ⟨b3, 0, none⟩)), (11, PV o2), (13, V), (14, iV (Z.length : Int)), (15, iV (i1 : Int)), (32, bV ((decide (y1.Kind = 1)) && o2.isNone))] [true, true, true, true] rfl (subR rfl)
     refine Tn ?_
     obtain ⟨j3, hj3, h⟩ := joinE h
     refine f_join (fun a w' => ∃ x5 : List Grecord_swum, ∃ x6 : List Int, ∃ bs3 : List Nat, ∃ v5 : Value, ∃ v6 : Value, j3 x5 x6 = some r ∧ bs3.length = x5.length ∧ Sx w [] nov ([.map b1 (ments Value.string PV (idm (x5.map fun x => x.s_.Id) bs3)) (idm (x5.map fun x => x.s_.Id) bs3).length, .own v5 3 1 x6.length (x6.flatMap eInt), .own v6 90 1 bs3.length (bs3.flatMap RP.enc)] ++ arena 92 Grecord_swum.enc bs3 x5) [(1, iV Aq), (6, v6), (7, v5), (8, .map (some b1)), (13, V), (14, iV (Z.length : Int)), (15, iV (i1 : Int))] 97 a w') ?_ ?_
     ·refine f_cond (S.tm rfl) (fun hb3 => ?_) (fun hb3 => ?_)
      ·replace h := iteT h hb3
       refine Fs (Fg (lv S (rn_ldA Tryz.isAgg35 Tryz.sizeOf35 (off := 0) (o := 0) (part := (GStep.enc y1)) rfl rfl (S.tm rfl) (S.cellsAt (i := 0) rfl)) rfl ?_));clear S;intro a S
       refine lv S (rn_bld bt_92 (pv := [(0, .agg (GStep.enc y1).toArray)]) ⟨rfl, (S.tm rfl), trivial⟩ (cs := [iV y1.At, iV y1.Kind, sV y1.Id, sV y1.Who, sV y1.Club, sV y1.Race, iV y1.Age, iV y1.Time, bV false, bV false]) (by kernel_rfl)) rfl ?_;clear S;intro a S
       refine l_box S (S.tm rfl) (cs := [iV y1.At, iV y1.Kind, sV y1.Id, sV y1.Who, sV y1.Club, sV y1.Race, iV y1.Age, iV y1.Time, bV false, bV false]) rfl rfl ?_;clear S;intro a w9 b4 hz3 hk5 S
       refine lv S (Ra (S.tm rfl)) rfl ?_;clear S;intro a S
       refine Ld ?_
       replace S := S.nk ([.blk b4 (Grecord_swum.enc (Grecord_swum.mk y1 false false)) 92, .blk b3 (GStep.enc y1) 35, .map b1 (ments Value.string PV (idm (x1.map fun x => x.s_.Id) bs1)) (idm (x1.map fun x => x.s_.Id) bs1).length, .own v1 3 1 x2.length (x2.flatMap eInt), .own v2 90 1 bs1.length (bs1.flatMap RP.enc)] ++ arena 92 Grecord_swum.enc bs1 x1) [(1, iV Aq), (6, v2), (7, v1), (8, .map (some b1)), (10, .pointer (some ⟨b3, 0, none⟩)), (11, .pointer (some ⟨b4, 0, none⟩)), (13, V), (14, iV (Z.length : Int)), (15, iV (i1 : Int))] [true, true, true, true, true] rfl (subR rfl)
       refine Tn ?_
       obtain ⟨hc1, h⟩ := chkE h
       refine d_region [] (v2.ownBlock.toList ++ [b1]) Tryz.mixed S rfl (by kernel_rfl) ?_;clear S;intro w13 hk9 hsel S
       refine d_quiet 0 S hsel rfl rfl rfl (by kernel_rfl) (by kernel_rfl) rfl (fun _ hw => (Rm (S.tm rfl))) ?_;clear S;intro a S
       refine d_quiet 1 S hsel rfl rfl rfl (by kernel_rfl) (by kernel_rfl) rfl (fun _ hw => (rn_fld fa_35_2 (S.tm rfl))) ?_;clear S;intro a S
       refine d_quiet 2 S hsel rfl rfl rfl (by kernel_rfl) (by kernel_rfl) rfl (fun _ hw => (rn_ld Tryz.isAgg9 (off := 0) (o := 2) (S.tm rfl) ((S.blk_mem (i := 1) (cells := (GStep.enc y1)) (b := b3) (T := 35) rfl (ne_app (ne_fp (i := 4) (j := 1) (e := .own v2 90 1 bs1.length (bs1.flatMap RP.enc)) (e' := .blk b3 (GStep.enc y1) 35) S rfl rfl rfl) (ne_fp (i := 2) (j := 1) (e := (_)) (e' := .blk b3 (GStep.enc y1) 35) S rfl rfl rfl))).kept hw) rfl)) ?_;clear S;intro a S
       refine d_quiet 3 S hsel rfl rfl rfl (by kernel_rfl) (by kernel_rfl) rfl (fun _ hw => (Rm (S.tm rfl))) ?_;clear S;intro a S
       refine d_quiet 4 S hsel rfl rfl rfl (by kernel_rfl) (by kernel_rfl) rfl (fun _ hw => (Rm (S.tm rfl))) ?_;clear S;intro a S
       refine d_quiet 5 S hsel rfl rfl rfl (by kernel_rfl) (by kernel_rfl) rfl (fun _ hw => (Rm (S.tm rfl))) ?_;clear S;intro a S
       refine d_loud1 6 (by kernel_rfl) rfl (l_buildSlice S Tryz.underlying59 Tryz.sizeOf90 Tryz.zeroValue90 rfl rfl (pv := [(0, .pointer (some ⟨b4, 0, none⟩))]) ⟨rfl, (S.tm rfl), trivial⟩ (cs := [.pointer (some ⟨b4, 0, none⟩)]) (by kernel_rfl) rfl ?_);clear S;intro a w14 b6 hz5 hk10 S
       refine Ld (d_next (Keep.none hk10) (d_loud1 7 (by kernel_rfl) rfl ?_))
       refine l_appendT sl_59 RP.enc_ok S (S.tm rfl) (i := 5) rfl (S.tm rfl) (j := 0) rfl (ys := [b4]) rfl rfl rfl rfl (by have := room_lt hc1;omega) rfl ?_;clear S;intro v8 a w15 hk11 S
       refine Ld ?_
       refine d_next (hk11.sub (by intro y hy;simp at hy ⊢;simp [hy])) ?_
       refine d_loud1 8 (by kernel_rfl) rfl (l_mapUpdate (kv := Value.string) (vv := PV) (m := idm (x1.map fun x => x.s_.Id) bs1) (key := y1.Id) (val := some b4) S (i := 3) rfl Tryz.underlying89 (keyT_str Tryz.underlying9) (S.tm rfl) (S.tm rfl) (S.tm rfl) ?_);clear S;intro w16 hk12 S
       refine Ld ?_
       refine d_next (hk12.sub (by intro y hy;simp at hy ⊢;simp [hy])) ?_
       refine d_rest [9] hsel (by kernel_rfl) rfl ?_
       clear hsel
       refine s_lv S rfl (Ra (S.tm rfl)) rfl ?_;clear S;intro a S
       refine s_done ?_
       replace S := S.nk ([.blk b4 (Grecord_swum.enc (Grecord_swum.mk y1 false false)) 92, .map b1 (ments Value.string PV (mput (idm (x1.map fun x => x.s_.Id) bs1) y1.Id (some b4))) (mput (idm (x1.map fun x => x.s_.Id) bs1) y1.Id (some b4)).length, .own v1 3 1 x2.length (x2.flatMap eInt), .own v8 90 1 (bs1 ++ [b4]).length ((bs1 ++ [b4]).flatMap RP.enc)] ++ arena 92 Grecord_swum.enc bs1 x1) [(1, iV Aq), (6, v8), (7, v1), (8, .map (some b1)), (13, V), (14, iV (Z.length : Int)), (15, iV (i1 : Int))] [false, true, false, true, true, true] rfl (subR rfl)
       replace S := S.join_arena (enc := Grecord_swum.enc) (x := (Grecord_swum.mk y1 false false)) hl1
       rw [idm_add (key := fun x : Grecord_swum => x.s_.Id) ((Grecord_swum.mk y1 false false)) hl1 (find_none hl1 ho (by simp only [Bool.and_eq_true] at hb3;simp [hb3])) rfl] at S
       replace S := S.nk ([.map b1 (ments Value.string PV (idm ((x1 ++ [(Grecord_swum.mk y1 false false)]).map fun x => x.s_.Id) (bs1 ++ [b4]))) (idm ((x1 ++ [(Grecord_swum.mk y1 false false)]).map fun x => x.s_.Id) (bs1 ++ [b4])).length, .own v1 3 1 x2.length (x2.flatMap eInt), .own v8 90 1 (bs1 ++ [b4]).length ((bs1 ++ [b4]).flatMap RP.enc)] ++ arena 92 Grecord_swum.enc (bs1 ++ [b4]) (x1 ++ [(Grecord_swum.mk y1 false false)])) [(1, iV Aq), (6, v8), (7, v1), (8, .map (some b1)), (13, V), (14, iV (Z.length : Int)), (15, iV (i1 : Int))] [true, true, true] rfl (subR rfl)
       refine Tn ?_
       exact ⟨(x1 ++ [(Grecord_swum.mk y1 false false)]), x2, (bs1 ++ [b4]), v1, v8, h, (by rw [List.length_append, List.length_append, hl1];rfl), S.nf [true, true, true] rfl (subR rfl)⟩
      ·replace h := iteF h hb3
       refine Fs (Fg (lv S (rn_fld fa_35_1 (S.tm rfl)) rfl ?_));clear S;intro a S
       refine lv S (rn_load Tryz.isAgg3 (S.tm rfl) (S.cell (i := 0) rfl rfl)) rfl ?_;clear S;intro a S
       refine lv S (rn_eql (S.tm rfl) rfl) rfl ?_;clear S;intro a S
       refine lv S (Rm (S.tm rfl)) rfl ?_;clear S;intro a S
       refine f_cutm 3 (fun a w' => Keep [] w7 w' ∧ Sx w [] nov ([.blk b3 (GStep.enc y1) 35, .map b1 (ments Value.string PV (idm (x1.map fun x => x.s_.Id) bs1)) (idm (x1.map fun x => x.s_.Id) bs1).length, .own v1 3 1 x2.length (x2.flatMap eInt), .own v2 90 1 bs1.length (bs1.flatMap RP.enc)] ++ arena 92 Grecord_swum.enc bs1 x1) [(1, iV Aq), (6, v2), (7, v1), (8, .map (some b1)), (9, iV (i1 : Int)), (10, .pointer (some ⟨b3, 0, none⟩)), (11, PV o2), (13, V), (14, iV (Z.length : Int)), (15, iV (i1 : Int)), (58, bV ((decide (y1.Kind = 2)) && o2.isSome))] 97 a w') ?_ ?_
       ·rcases Bool.eq_false_or_eq_true (decide (y1.Kind = 2)) with hb4 | hb4
        ·refine l_want S rfl rfl rfl hb4 (lv S (Rm (S.tm rfl)) rfl ?_);clear S;intro a S
         refine l_want S rfl rfl rfl hb4 (lv S (rn_pneq Tryz.underlying90 (S.tm rfl) rfl) rfl ?_);clear S;intro a S
         refine lv S (rn_and_t hb4 (S.tm rfl) (S.tm rfl)) rfl ?_;clear S;intro a S
         refine Ld (Tn ?_)
         exact ⟨Keep.refl _ _, S.nf [true, true, true, true] rfl (subR rfl)⟩
        ·refine l_skip S rfl rfl rfl (neq_f hb4) rfl ?_ rfl;clear S;intro a S
         refine l_skip S rfl rfl rfl (neq_f hb4) rfl ?_ rfl;clear S;intro a S
         refine lv S (rn_and_f o2.isSome hb4 (S.tm rfl) rfl) rfl ?_;clear S;intro a S
         refine Ld (Tn ?_)
         exact ⟨Keep.refl _ _, S.nf [true, true, true, true] rfl (subR rfl)⟩
       clear S;rintro a w17 ⟨hk13, S⟩
       refine lv S (Rm (S.tm rfl)) rfl ?_;clear S;intro a S
       refine f_cutm 6 (fun a w' => Keep [] w17 w' ∧ Sx w [] nov ([.blk b3 (GStep.enc y1) 35, .map b1 (ments Value.string PV (idm (x1.map fun x => x.s_.Id) bs1)) (idm (x1.map fun x => x.s_.Id) bs1).length, .own v1 3 1 x2.length (x2.flatMap eInt), .own v2 90 1 bs1.length (bs1.flatMap RP.enc)] ++ arena 92 Grecord_swum.enc bs1 x1) [(1, iV Aq), (6, v2), (7, v1), (8, .map (some b1)), (9, iV (i1 : Int)), (10, .pointer (some ⟨b3, 0, none⟩)), (11, PV o2), (13, V), (14, iV (Z.length : Int)), (15, iV (i1 : Int)), (65, bV (((decide (y1.Kind = 2)) && o2.isSome) && (!((swAt x1 y1.Id).sure_))))] 97 a w') ?_ ?_
       ·rcases Bool.eq_false_or_eq_true ((decide (y1.Kind = 2)) && o2.isSome) with hb5 | hb5
        ·refine l_want S rfl rfl rfl hb5 (lv S (Rm (S.tm rfl)) rfl ?_);clear S;intro a S
         refine l_want S rfl rfl rfl hb5 ?_
         obtain ⟨bo, ho', hbj, hxj⟩ := find_at hl1 ho (by simp only [Bool.and_eq_true] at hb5;simp [hb5])
         have hpv : PV o2 = .pointer (some ⟨bo, 0, none⟩) := by rw [ho'];rfl
         refine lv S (rn_nilCheck ((S.tm rfl).trans hpv)) rfl ?_;clear S;intro a S
         refine l_want S rfl rfl rfl hb5 (lv S (rn_fld fa_92_1 (S.tm rfl)) rfl ?_);clear S;intro a S
         refine l_want S rfl rfl rfl hb5 (lv S (rn_load Tryz.isAgg4 (S.tm rfl) (S.cell (arena_ix hbj hxj) rfl)) rfl ?_);clear S;intro a S
         refine l_want S rfl rfl rfl hb5 (lv S (rn_not (S.tm rfl)) rfl ?_);clear S;intro a S
         refine lv S (rn_and_t hb5 (S.tm rfl) (S.tm rfl)) rfl ?_;clear S;intro a S
         refine Ld (Tn ?_)
         exact ⟨Keep.refl _ _, S.nf [true, true, true, true] rfl (subR rfl)⟩
        ·iterate 5 (refine l_skip S rfl rfl rfl (neq_f hb5) rfl ?_ rfl;clear S;intro a S)
         refine lv S (rn_and_f (!((swAt x1 y1.Id).sure_)) hb5 (S.tm rfl) rfl) rfl ?_;clear S;intro a S
         refine Ld (Tn ?_)
         exact ⟨Keep.refl _ _, S.nf [true, true, true, true] rfl (subR rfl)⟩
       clear S;rintro a w18 ⟨hk14, S⟩
       refine lv S (Rm (S.tm rfl)) rfl ?_;clear S;intro a S
       refine f_cutm 6 (fun a w' => Keep [] w18 w' ∧ Sx w [] nov ([.blk b3 (GStep.enc y1) 35, .map b1 (ments Value.string PV (idm (x1.map fun x => x.s_.Id) bs1)) (idm (x1.map fun x => x.s_.Id) bs1).length, .own v1 3 1 x2.length (x2.flatMap eInt), .own v2 90 1 bs1.length (bs1.flatMap RP.enc)] ++ arena 92 Grecord_swum.enc bs1 x1) [(1, iV Aq), (6, v2), (7, v1), (8, .map (some b1)), (9, iV (i1 : Int)), (10, .pointer (some ⟨b3, 0, none⟩)), (11, PV o2), (13, V), (14, iV (Z.length : Int)), (15, iV (i1 : Int)), (72, bV ((((decide (y1.Kind = 2)) && o2.isSome) && (!((swAt x1 y1.Id).sure_))) && (!((swAt x1 y1.Id).void_))))] 97 a w') ?_ ?_
       ·rcases Bool.eq_false_or_eq_true (((decide (y1.Kind = 2)) && o2.isSome) && (!((swAt x1 y1.Id).sure_))) with hb6 | hb6
        ·refine l_want S rfl rfl rfl hb6 (lv S (Rm (S.tm rfl)) rfl ?_);clear S;intro a S
         refine l_want S rfl rfl rfl hb6 ?_
         obtain ⟨bo, ho', hbj, hxj⟩ := find_at hl1 ho (by simp only [Bool.and_eq_true] at hb6;simp [hb6])
         have hpv : PV o2 = .pointer (some ⟨bo, 0, none⟩) := by rw [ho'];rfl
         refine lv S (rn_nilCheck ((S.tm rfl).trans hpv)) rfl ?_;clear S;intro a S
         refine l_want S rfl rfl rfl hb6 (lv S (rn_fld fa_92_2 (S.tm rfl)) rfl ?_);clear S;intro a S
         refine l_want S rfl rfl rfl hb6 (lv S (rn_load Tryz.isAgg4 (S.tm rfl) (S.cell (arena_ix hbj hxj) rfl)) rfl ?_);clear S;intro a S
         refine l_want S rfl rfl rfl hb6 (lv S (rn_not (S.tm rfl)) rfl ?_);clear S;intro a S
         refine lv S (rn_and_t hb6 (S.tm rfl) (S.tm rfl)) rfl ?_;clear S;intro a S
         refine Ld (Tn ?_)
         exact ⟨Keep.refl _ _, S.nf [true, true, true, true] rfl (subR rfl)⟩
        ·iterate 5 (refine l_skip S rfl rfl rfl (neq_f hb6) rfl ?_ rfl;clear S;intro a S)
         refine lv S (rn_and_f (!((swAt x1 y1.Id).void_)) hb6 (S.tm rfl) rfl) rfl ?_;clear S;intro a S
         refine Ld (Tn ?_)
         exact ⟨Keep.refl _ _, S.nf [true, true, true, true] rfl (subR rfl)⟩
       clear S;rintro a w19 ⟨hk15, S⟩
       refine lv S (Ra (S.tm rfl)) rfl ?_;clear S;intro a S
       refine Ld ?_
       replace S := S.nk ([.blk b3 (GStep.enc y1) 35, .map b1 (ments Value.string PV (idm (x1.map fun x => x.s_.Id) bs1)) (idm (x1.map fun x => x.s_.Id) bs1).length, .own v1 3 1 x2.length (x2.flatMap eInt), .own v2 90 1 bs1.length (bs1.flatMap RP.enc)] ++ arena 92 Grecord_swum.enc bs1 x1) [(1, iV Aq), (6, v2), (7, v1), (8, .map (some b1)), (9, iV (i1 : Int)), (10, .pointer (some ⟨b3, 0, none⟩)), (11, PV o2), (13, V), (14, iV (Z.length : Int)), (15, iV (i1 : Int)), (51, bV ((((decide (y1.Kind = 2)) && o2.isSome) && (!((swAt x1 y1.Id).sure_))) && (!((swAt x1 y1.Id).void_))))] [true, true, true, true] rfl (subR rfl)
       refine Tn ?_
       obtain ⟨j4, hj4, h⟩ := joinE h
       refine f_join (fun a w' => ∃ x7 : List Grecord_swum, ∃ x8 : List Int, ∃ v9 : Value, j4 x7 x8 = some r ∧ bs1.length = x7.length ∧ Sx w [] nov ([.map b1 (ments Value.string PV (idm (x7.map fun x => x.s_.Id) bs1)) (idm (x7.map fun x => x.s_.Id) bs1).length, .own v9 3 1 x8.length (x8.flatMap eInt), .own v2 90 1 bs1.length (bs1.flatMap RP.enc)] ++ arena 92 Grecord_swum.enc bs1 x7) [(1, iV Aq), (6, v2), (7, v9), (8, .map (some b1)), (13, V), (14, iV (Z.length : Int)), (15, iV (i1 : Int))] 97 a w') ?_ ?_
       ·refine f_cond (S.tm rfl) (fun hb7 => ?_) (fun hb7 => ?_)
        ·replace h := iteT h hb7
         refine Fg (lv S (Rm (S.tm rfl)) rfl ?_);clear S;intro a S
         obtain ⟨bo, ho', hbj, hxj⟩ := find_at hl1 ho (by simp only [Bool.and_eq_true] at hb7;simp [hb7])
         have hpv : PV o2 = .pointer (some ⟨bo, 0, none⟩) := by rw [ho'];rfl
         refine lv S (rn_nilCheck ((S.tm rfl).trans hpv)) rfl ?_;clear S;intro a S
         refine lv S (rn_fld fa_92_1 (S.tm rfl)) rfl ?_;clear S;intro a S
         refine l_store S (S.tm rfl) rfl (off := 8) (arena_ix hbj hxj) Tryz.sizeOf4 (vs := [.bool true]) rfl rfl rfl rfl ?_;clear S;intro w21 hk16 S
         replace S := S.arena_store (y := (Grecord_swum.mk (swAt x1 y1.Id).s_ true (swAt x1 y1.Id).void_)) hbj rfl
         rw [keys_set (key := fun x : Grecord_swum => x.s_.Id) (y := (Grecord_swum.mk (swAt x1 y1.Id).s_ true (swAt x1 y1.Id).void_)) hxj rfl] at S
         refine Ld ?_
         replace S := S.nk ([.map b1 (ments Value.string PV (idm ((x1.set (swPos x1 y1.Id) (Grecord_swum.mk (swAt x1 y1.Id).s_ true (swAt x1 y1.Id).void_)).map fun x => x.s_.Id) bs1)) (idm ((x1.set (swPos x1 y1.Id) (Grecord_swum.mk (swAt x1 y1.Id).s_ true (swAt x1 y1.Id).void_)).map fun x => x.s_.Id) bs1).length, .own v1 3 1 x2.length (x2.flatMap eInt), .own v2 90 1 bs1.length (bs1.flatMap RP.enc)] ++ arena 92 Grecord_swum.enc bs1 (x1.set (swPos x1 y1.Id) (Grecord_swum.mk (swAt x1 y1.Id).s_ true (swAt x1 y1.Id).void_))) [(1, iV Aq), (6, v2), (7, v1), (8, .map (some b1)), (13, V), (14, iV (Z.length : Int)), (15, iV (i1 : Int))] [false, true, true, true] rfl (subR rfl)
         refine Tn ?_
         exact ⟨(x1.set (swPos x1 y1.Id) (Grecord_swum.mk (swAt x1 y1.Id).s_ true (swAt x1 y1.Id).void_)), x2, v1, h, (by rw [List.length_set];exact hl1), S.nf [true, true, true] rfl (subR rfl)⟩
        ·replace h := iteF h hb7
         refine Fs (Fg (lv S (rn_fld fa_35_1 (S.tm rfl)) rfl ?_));clear S;intro a S
         refine lv S (rn_load Tryz.isAgg3 (S.tm rfl) (S.cell (i := 0) rfl rfl)) rfl ?_;clear S;intro a S
         refine lv S (rn_eql (S.tm rfl) rfl) rfl ?_;clear S;intro a S
         refine lv S (Rm (S.tm rfl)) rfl ?_;clear S;intro a S
         refine f_cutm 3 (fun a w' => Keep [] w19 w' ∧ Sx w [] nov ([.blk b3 (GStep.enc y1) 35, .map b1 (ments Value.string PV (idm (x1.map fun x => x.s_.Id) bs1)) (idm (x1.map fun x => x.s_.Id) bs1).length, .own v1 3 1 x2.length (x2.flatMap eInt), .own v2 90 1 bs1.length (bs1.flatMap RP.enc)] ++ arena 92 Grecord_swum.enc bs1 x1) [(1, iV Aq), (6, v2), (7, v1), (8, .map (some b1)), (9, iV (i1 : Int)), (11, PV o2), (13, V), (14, iV (Z.length : Int)), (15, iV (i1 : Int)), (83, bV ((decide (y1.Kind = 3)) && o2.isSome))] 97 a w') ?_ ?_
         ·rcases Bool.eq_false_or_eq_true (decide (y1.Kind = 3)) with hb8 | hb8
          ·refine l_want S rfl rfl rfl hb8 (lv S (Rm (S.tm rfl)) rfl ?_);clear S;intro a S
           refine l_want S rfl rfl rfl hb8 (lv S (rn_pneq Tryz.underlying90 (S.tm rfl) rfl) rfl ?_);clear S;intro a S
           refine lv S (rn_and_t hb8 (S.tm rfl) (S.tm rfl)) rfl ?_;clear S;intro a S
           refine Ld (Tn ?_)
           exact ⟨Keep.refl _ _, S.nf [true, true, true, true] rfl (subR rfl)⟩
          ·refine l_skip S rfl rfl rfl (neq_f hb8) rfl ?_ rfl;clear S;intro a S
           refine l_skip S rfl rfl rfl (neq_f hb8) rfl ?_ rfl;clear S;intro a S
           refine lv S (rn_and_f o2.isSome hb8 (S.tm rfl) rfl) rfl ?_;clear S;intro a S
           refine Ld (Tn ?_)
           exact ⟨Keep.refl _ _, S.nf [true, true, true, true] rfl (subR rfl)⟩
         clear S;rintro a w22 ⟨hk17, S⟩
         refine lv S (Rm (S.tm rfl)) rfl ?_;clear S;intro a S
         refine f_cutm 6 (fun a w' => Keep [] w22 w' ∧ Sx w [] nov ([.blk b3 (GStep.enc y1) 35, .map b1 (ments Value.string PV (idm (x1.map fun x => x.s_.Id) bs1)) (idm (x1.map fun x => x.s_.Id) bs1).length, .own v1 3 1 x2.length (x2.flatMap eInt), .own v2 90 1 bs1.length (bs1.flatMap RP.enc)] ++ arena 92 Grecord_swum.enc bs1 x1) [(1, iV Aq), (6, v2), (7, v1), (8, .map (some b1)), (9, iV (i1 : Int)), (11, PV o2), (13, V), (14, iV (Z.length : Int)), (15, iV (i1 : Int)), (90, bV (((decide (y1.Kind = 3)) && o2.isSome) && (!((swAt x1 y1.Id).void_))))] 97 a w') ?_ ?_
         ·rcases Bool.eq_false_or_eq_true ((decide (y1.Kind = 3)) && o2.isSome) with hb9 | hb9
          ·refine l_want S rfl rfl rfl hb9 (lv S (Rm (S.tm rfl)) rfl ?_);clear S;intro a S
           refine l_want S rfl rfl rfl hb9 ?_
           obtain ⟨bo, ho', hbj, hxj⟩ := find_at hl1 ho (by simp only [Bool.and_eq_true] at hb9;simp [hb9])
           have hpv : PV o2 = .pointer (some ⟨bo, 0, none⟩) := by rw [ho'];rfl
           refine lv S (rn_nilCheck ((S.tm rfl).trans hpv)) rfl ?_;clear S;intro a S
           refine l_want S rfl rfl rfl hb9 (lv S (rn_fld fa_92_2 (S.tm rfl)) rfl ?_);clear S;intro a S
           refine l_want S rfl rfl rfl hb9 (lv S (rn_load Tryz.isAgg4 (S.tm rfl) (S.cell (arena_ix hbj hxj) rfl)) rfl ?_);clear S;intro a S
           refine l_want S rfl rfl rfl hb9 (lv S (rn_not (S.tm rfl)) rfl ?_);clear S;intro a S
           refine lv S (rn_and_t hb9 (S.tm rfl) (S.tm rfl)) rfl ?_;clear S;intro a S
           refine Ld (Tn ?_)
           exact ⟨Keep.refl _ _, S.nf [true, true, true, true] rfl (subR rfl)⟩
          ·iterate 5 (refine l_skip S rfl rfl rfl (neq_f hb9) rfl ?_ rfl;clear S;intro a S)
           refine lv S (rn_and_f (!((swAt x1 y1.Id).void_)) hb9 (S.tm rfl) rfl) rfl ?_;clear S;intro a S
           refine Ld (Tn ?_)
           exact ⟨Keep.refl _ _, S.nf [true, true, true, true] rfl (subR rfl)⟩
         clear S;rintro a w23 ⟨hk18, S⟩
         refine lv S (Ra (S.tm rfl)) rfl ?_;clear S;intro a S
         refine Ld ?_
         replace S := S.nk ([.map b1 (ments Value.string PV (idm (x1.map fun x => x.s_.Id) bs1)) (idm (x1.map fun x => x.s_.Id) bs1).length, .own v1 3 1 x2.length (x2.flatMap eInt), .own v2 90 1 bs1.length (bs1.flatMap RP.enc)] ++ arena 92 Grecord_swum.enc bs1 x1) [(1, iV Aq), (6, v2), (7, v1), (8, .map (some b1)), (9, iV (i1 : Int)), (11, PV o2), (13, V), (14, iV (Z.length : Int)), (15, iV (i1 : Int)), (76, bV (((decide (y1.Kind = 3)) && o2.isSome) && (!((swAt x1 y1.Id).void_))))] [false, true, true, true] rfl (subR rfl)
         refine Tn ?_
         obtain ⟨j5, hj5, h⟩ := joinE h
         refine f_join (fun a w' => ∃ x9 : List Grecord_swum, ∃ x10 : List Int, ∃ v10 : Value, j5 x9 x10 = some r ∧ bs1.length = x9.length ∧ Sx w [] nov ([.map b1 (ments Value.string PV (idm (x9.map fun x => x.s_.Id) bs1)) (idm (x9.map fun x => x.s_.Id) bs1).length, .own v10 3 1 x10.length (x10.flatMap eInt), .own v2 90 1 bs1.length (bs1.flatMap RP.enc)] ++ arena 92 Grecord_swum.enc bs1 x9) [(1, iV Aq), (6, v2), (7, v10), (8, .map (some b1)), (13, V), (14, iV (Z.length : Int)), (15, iV (i1 : Int))] 97 a w') ?_ ?_
         ·refine f_cond (S.tm rfl) (fun hb10 => ?_) (fun hb10 => ?_)
          ·replace h := iteT h hb10
           refine Fg (lv S (Rm (S.tm rfl)) rfl ?_);clear S;intro a S
           obtain ⟨bo, ho', hbj, hxj⟩ := find_at hl1 ho (by simp only [Bool.and_eq_true] at hb10;simp [hb10])
           have hpv : PV o2 = .pointer (some ⟨bo, 0, none⟩) := by rw [ho'];rfl
           refine lv S (rn_nilCheck ((S.tm rfl).trans hpv)) rfl ?_;clear S;intro a S
           refine lv S (rn_fld fa_92_2 (S.tm rfl)) rfl ?_;clear S;intro a S
           refine l_store S (S.tm rfl) rfl (off := 9) (arena_ix hbj hxj) Tryz.sizeOf4 (vs := [.bool true]) rfl rfl rfl rfl ?_;clear S;intro w25 hk19 S
           replace S := S.arena_store (y := (Grecord_swum.mk (swAt x1 y1.Id).s_ (swAt x1 y1.Id).sure_ true)) hbj rfl
           rw [keys_set (key := fun x : Grecord_swum => x.s_.Id) (y := (Grecord_swum.mk (swAt x1 y1.Id).s_ (swAt x1 y1.Id).sure_ true)) hxj rfl] at S
           refine Ld ?_
           replace S := S.nk ([.map b1 (ments Value.string PV (idm ((x1.set (swPos x1 y1.Id) (Grecord_swum.mk (swAt x1 y1.Id).s_ (swAt x1 y1.Id).sure_ true)).map fun x => x.s_.Id) bs1)) (idm ((x1.set (swPos x1 y1.Id) (Grecord_swum.mk (swAt x1 y1.Id).s_ (swAt x1 y1.Id).sure_ true)).map fun x => x.s_.Id) bs1).length, .own v1 3 1 x2.length (x2.flatMap eInt), .own v2 90 1 bs1.length (bs1.flatMap RP.enc)] ++ arena 92 Grecord_swum.enc bs1 (x1.set (swPos x1 y1.Id) (Grecord_swum.mk (swAt x1 y1.Id).s_ (swAt x1 y1.Id).sure_ true))) [(1, iV Aq), (6, v2), (7, v1), (8, .map (some b1)), (13, V), (14, iV (Z.length : Int)), (15, iV (i1 : Int))] [true, true, true] rfl (subR rfl)
           refine Tn ?_
           exact ⟨(x1.set (swPos x1 y1.Id) (Grecord_swum.mk (swAt x1 y1.Id).s_ (swAt x1 y1.Id).sure_ true)), x2, v1, h, (by rw [List.length_set];exact hl1), S.nf [true, true, true] rfl (subR rfl)⟩
          ·replace h := iteF h hb10
           refine Fg (lv S (Rm (S.tm rfl)) rfl ?_);clear S;intro a S
           refine lv S (Rm (S.tm rfl)) rfl ?_;clear S;intro a S
           refine l_buildSlice S Tryz.underlying22 Tryz.sizeOf3 Tryz.zeroValue3 rfl rfl (pv := [(0, iV (i1 : Int))]) ⟨rfl, (S.tm rfl), trivial⟩ (cs := [iV (i1 : Int)]) (by kernel_rfl) rfl ?_;clear S;intro a w26 b7 hz6 hk20 S
           obtain ⟨hc2, h⟩ := chkE h
           refine l_appendT sl_22 enc_int S (S.tm rfl) (i := 2) rfl (S.tm rfl) (j := 0) rfl (ys := [(i1 : Int)]) rfl rfl rfl rfl (by have := room_lt hc2;omega) rfl ?_;clear S;intro v11 a w27 hk21 S
           refine lv S (Ra (S.tm rfl)) rfl ?_;clear S;intro a S
           refine Ld ?_
           replace S := S.nk ([.map b1 (ments Value.string PV (idm (x1.map fun x => x.s_.Id) bs1)) (idm (x1.map fun x => x.s_.Id) bs1).length, .own v11 3 1 (x2 ++ [(i1 : Int)]).length ((x2 ++ [(i1 : Int)]).flatMap eInt), .own v2 90 1 bs1.length (bs1.flatMap RP.enc)] ++ arena 92 Grecord_swum.enc bs1 x1) [(1, iV Aq), (6, v2), (7, v11), (8, .map (some b1)), (13, V), (14, iV (Z.length : Int)), (15, iV (i1 : Int))] [false, true, true, true] rfl (subR rfl)
           refine Tn ?_
           exact ⟨x1, (x2 ++ [(i1 : Int)]), v11, h, hl1, S.nf [true, true, true] rfl (subR rfl)⟩
         clear S h;rintro a w24 ⟨x9, x10, v10, h, hl5, S⟩;rw [hj5] at h;clear hj5 j5
         refine Tn ?_
         exact ⟨x9, x10, v10, h, hl5, S.nf [true, true, true] rfl (subR rfl)⟩
       clear S h;rintro a w20 ⟨x7, x8, v9, h, hl4, S⟩;rw [hj4] at h;clear hj4 j4
       refine Tn ?_
       exact ⟨x7, x8, bs1, v9, v2, h, hl4, S.nf [true, true, true] rfl (subR rfl)⟩
     clear S h;rintro a w8 ⟨x5, x6, bs3, v5, v6, h, hl3, S⟩;rw [hj3] at h;clear hj3 j3
     refine blk_n (Tn ?_)
     exact ⟨x5, x6, bs3, v5, v6, h, hl3, S.nf [true, true, true] rfl (subR rfl)⟩
    clear S h;rintro a w6 ⟨x3, x4, bs2, v3, v4, h, hl2, S⟩;rw [hj2] at h;clear hj2 j2
    refine blk_n (Tn (Fg (lv S (rn_add (S.tm rfl) rfl) rfl ?_)));clear S;intro a S
    refine lv S (Rm (S.tm rfl)) rfl ?_;clear S;intro a S
    refine Ld ?_
    replace S := S.nk ([.map b1 (ments Value.string PV (idm (x3.map fun x => x.s_.Id) bs2)) (idm (x3.map fun x => x.s_.Id) bs2).length, .own v3 3 1 x4.length (x4.flatMap eInt), .own v4 90 1 bs2.length (bs2.flatMap RP.enc)] ++ arena 92 Grecord_swum.enc bs2 x3) [(1, iV Aq), (6, v4), (7, v3), (8, .map (some b1)), (13, V), (14, iV (Z.length : Int)), (15, iV (W ((i1 : Int) + 1)))] [true, true, true] rfl (subR rfl)
    refine Tn ?_
    exact ⟨ys1, ⟨i1 + 1, x3, x4, bs2, v3, v4, ⟨_, (hd1).trans (List.append_cons _ _ _), by simp [hi1]⟩, h, hl2, S.nf [true, true, true] rfl ⟨rfl, rfl, rfl, rfl, rfl, rfl, (congrArg (fun z => some (Value.int .i64 z)) (rng_next hd1 hi1 (slc_max Ae))), trivial⟩⟩, Nat.lt_succ_self _⟩
 clear S h;rintro a w3 ⟨x1, x2, bs1, v1, v2, h, hl1, S⟩;rw [hj1] at h;clear hj1 j1
 refine Tn (Fs (Fg (lv S (Rm (S.tm rfl)) rfl ?_)));clear S;intro a S
 refine lv S (Rm (S.tm rfl)) rfl ?_;clear S;intro a S
 refine lv S (Ra (S.tm rfl)) rfl ?_;clear S;intro a S
 refine lv S (Ra (S.tm rfl)) rfl ?_;clear S;intro a S
 refine Ld ?_
 replace S := S.nk ([.map b1 (ments Value.string PV (idm (x1.map fun x => x.s_.Id) bs1)) (idm (x1.map fun x => x.s_.Id) bs1).length, .own v1 3 1 x2.length (x2.flatMap eInt), .own v2 90 1 bs1.length (bs1.flatMap RP.enc)] ++ arena 92 Grecord_swum.enc bs1 x1) [(4, v2), (5, v1)] [true, true, true] rfl (subR rfl)
 refine Tn (wp_ret ?_)
 obtain rfl := Option.some.inj h
 obtain ⟨φA, lA, hA, S⟩ := S.seeArena rfl hl1
 exact f_ret2 S Tryz.results23 rfl rfl ⟨_, _, rfl, ⟨_, ownV_slcT RP.enc_ok (own_retT S (i := 2) rfl rfl), rels_90 S.le_newer hA⟩, (own_retT S (i := 1) rfl rfl)⟩
theorem record_Refused_ok (w : World) (V : Value) (Z : List GStep) (Ae : Slc (view w []) 8 V (Z.map GStep.enc)) (r : (List Int) × Int) (h : record_Refused Z = some r) :
    Calls Tryz.prog 7 [V].toArray w (Ret w [] fun τ v _ => ∃ u1 : Value, v = .tuple #[u1, iV r.2] ∧ OwnV τ 3 1 u1 r.1.length (r.1.flatMap eInt)) := by
 refine f_enter [] [] Tryz.func7 rfl Tryz.ntmps7 rfl (by simp) (by simp [fps]) (by simp [fps]) fun a S => ?_
 unfold record_Refused at h
 replace S := S.nk [] [(0, V)] [] rfl ⟨rfl, trivial⟩
 refine Fs (Fg (lv S (Ra rfl) rfl ?_));clear S;intro a S
 refine lv S (Ra rfl) rfl ?_;clear S;intro a S
 refine Ld (Tn (Fs (Fs (Fg (lv S (Rm (S.tm rfl)) rfl ?_)))));clear S;intro a S
 obtain ⟨r1, hr1, h⟩ := bindE h
 refine l_enter S (fun _ => run_call (vs := [V]) ⟨(S.tm rfl), trivial⟩ Tryz.call22) (record_CheckSteps_ok _ V Z (Ae.mono (S.le_arg nil_sub)) _ hr1) rfl ?_;clear S;intro v1 a w1 hv1 hk1 hn1 S
 subst hv1
 refine lv S (Ra (S.tm rfl)) rfl ?_;clear S;intro a S
 refine Ld (Tn (Fs (Fg (lv S (Rm (S.tm rfl)) rfl ?_))));clear S;intro a S
 refine lv S (rn_neq (S.tm rfl) rfl) rfl ?_;clear S;intro a S
 refine Ld (Tn (f_cond (S.tm rfl) (fun hb1 => ?_) (fun hb1 => ?_)))
 ·replace h := iteT h hb1
  refine Fs (Fg (lv S (Rm (S.tm rfl)) rfl ?_));clear S;intro a S
  refine lv S (Ra rfl) rfl ?_;clear S;intro a S
  refine lv S (Ra (S.tm rfl)) rfl ?_;clear S;intro a S
  refine Ld (Tn (wp_ret (then_r ?_)))
  obtain rfl := Option.some.inj h
  exact f_ret2 S Tryz.results7 rfl rfl ⟨_, rfl, (ownV_nil _ _ _)⟩
 ·replace h := iteF h hb1
  refine wp_skip (Tn (Fs (Fg (lv S (Rm (S.tm rfl)) rfl ?_))));clear S;intro a S
  obtain ⟨r2, hr2, h⟩ := bindE h
  have hz1 := S.keep.size
  refine l_enter S (fun _ => run_call (vs := [V, iV 345686400000]) ⟨(S.tm rfl), rfl, trivial⟩ Tryz.call23) (record_follow_ok _ V Z (Ae.mono (S.le_arg nil_sub)) 345686400000 _ hr2) rfl ?_;clear S;intro v2 a w2 hv2 hk2 hn2 S
  obtain ⟨u1, u2, rfl, ho1, ho2⟩ := hv2
  obtain ⟨rs1, ho3, hr3⟩ := ho1
  obtain ⟨φ1, hl1, hm1, S⟩ := S.see' hn2 hz1
  have hs1 := ho3.mono hm1
  have hr4 := rels_90 hm1 hr3
  have hs2 := ho2.mono hm1
  refine lv S (Rm (S.tm rfl)) rfl ?_;clear S;intro a S
  refine lv S (rn_extract (S.tm rfl) rfl) rfl ?_;clear S;intro a S
  refine lv S (rn_extract (S.tm rfl) rfl) rfl ?_;clear S;intro a S
  refine lv S (Ra (S.tm rfl)) rfl ?_;clear S;intro a S
  refine lv S (Ra (S.tm rfl)) rfl ?_;clear S;intro a S
  refine Ld ?_
  replace S := S.nk [] [(6, u2)] [] rfl ⟨rfl, trivial⟩
  refine Tn (Fs (Fg (lv S (Rm (S.tm rfl)) rfl ?_)));clear S;intro a S
  refine lv S (Ra (S.tm rfl)) rfl ?_;clear S;intro a S
  refine lv S (Ra rfl) rfl ?_;clear S;intro a S
  refine Ld (Tn (wp_ret ?_))
  obtain rfl := Option.some.inj h
  exact f_ret2 S Tryz.results7 rfl rfl ⟨_, rfl, ((hs2).mono S.le_newer)⟩
theorem slices_Index_int_ok (w : World) (Ai : Value) (Ab : List Int) (Bk : Slc (view w []) 1 Ai (Ab.map eInt)) (Bn : Int) (r : Int) (h : slices_Index_int Ab Bn = r) :
    Calls Tryz.prog 24 [Ai, iV Bn].toArray w (Ret w [] fun _ v _ => v = iV r) := by
 refine f_enter [] [] Tryz.func24 rfl Tryz.ntmps24 rfl (by simp) (by simp [fps]) (by simp [fps]) fun a S => ?_
 unfold slices_Index_int at h
 replace S := S.nk [] [(0, Ai), (1, iV Bn)] [] rfl (subR rfl)
 refine Fs (Fg (lv S (Ra rfl) rfl ?_));clear S;intro a S
 refine Ld (Tn (Fs (Fs (Fg (lv S (Rm (S.tm rfl)) rfl ?_)))));clear S;intro a S
 refine lv S (rn_lenT sl_22 (S.tm rfl) (slc_len Bk)) rfl ?_;clear S;intro a S
 refine lv S (Rm rfl) rfl ?_;clear S;intro a S
 refine Ld (Tn ?_)
 replace S := S.nk [] [(0, Ai), (1, iV Bn), (7, iV (Ab.length : Int)), (8, iV 0)] [] rfl (subR rfl)
 obtain ⟨j1, hj1, h⟩ := joinE h
 refine f_join (fun a w' => j1 = r ∧ Sx w [] nov [] [] 19 a w') ?_ ?_
 ·refine wp_block (f_loop (fun (ys1 : List Int) a w' => ∃ i1 : Nat, (∃ dn, Ab = dn ++ ys1 ∧ dn.length = i1) ∧ slices_Index_int_l1 Bn j1 ys1 i1 = r ∧ Sx w [] nov [] [(0, Ai), (1, iV Bn), (7, iV (Ab.length : Int)), (8, iV (i1 : Int))] 19 a w') List.length Ab ⟨0, ⟨[], rfl, rfl⟩, h, S.nf [] rfl (subR rfl)⟩ ?_)
  clear S h;rintro ys1 a w1 ⟨i1, ⟨dn, hd1, hi1⟩, h, S⟩
  cases ys1 with
  | nil =>
   rw [slices_Index_int_l1.eq_1] at h
   refine Fs (Fg (lv S (rn_lss (S.tm rfl) (S.tm rfl)) rfl ?_));clear S;intro a S
   refine Ld ?_
   replace S := S.nk [] [(0, Ai), (1, iV Bn), (7, iV (Ab.length : Int)), (8, iV (i1 : Int)), (9, bV (decide ((i1 : Int) < (Ab.length : Int))))] [] rfl (subR rfl)
   refine Tn (Fs (wp_cond_false ((S.tm rfl).trans (congrArg Value.bool (rng_nil hd1 hi1))) (wp_exit (then_x (then_x (x_same ?_))))))
   refine Tn ?_
   exact ⟨h, S.nf [] rfl trivial⟩
  | cons y1 ys1 =>
   rw [slices_Index_int_l1.eq_2] at h
   refine Fs (Fg (lv S (rn_lss (S.tm rfl) (S.tm rfl)) rfl ?_));clear S;intro a S
   refine Ld ?_
   replace S := S.nk [] [(0, Ai), (1, iV Bn), (7, iV (Ab.length : Int)), (8, iV (i1 : Int)), (9, bV (decide ((i1 : Int) < (Ab.length : Int))))] [] rfl (subR rfl)
   refine Tn (Fs (wp_cond_true ((S.tm rfl).trans (congrArg Value.bool (rng_cons hd1 hi1))) (wp_skip (Tn (Fs (wp_block ?_))))))
   refine Fs (Fg (lv S (Rm (S.tm rfl)) rfl ?_));clear S;intro a S
   refine lv S (Ra (S.tm rfl)) rfl ?_;clear S;intro a S
   refine Ld (Tn (Fs (Fg (lv S (Rm (S.tm rfl)) rfl ?_))));clear S;intro a S
   refine lv S (Rm (S.tm rfl)) rfl ?_;clear S;intro a S
   refine lv S (Rm (S.tm rfl)) rfl ?_;clear S;intro a S
   obtain ⟨b1, o1, hm1, hr1⟩ := rn_indexT (a := a) (x := .tmp 12) (y := .tmp 13) (ty := 0) sl_22 Bk (get_mid hd1 hi1) rfl (S.tm rfl) (S.tm rfl)
   refine lv S (hr1 _) rfl ?_;clear S;intro a S
   clear hr1
   refine lv S (rn_ld Tryz.isAgg3 (off := o1) (o := 0) (S.tm rfl) (hm1.at S.emb0) rfl) rfl ?_;clear S;intro a S
   refine lv S (rn_eql (S.tm rfl) (S.tm rfl)) rfl ?_;clear S;intro a S
   refine Ld (Tn (f_cond (S.tm rfl) (fun hb1 => ?_) (fun hb1 => ?_)))
   ·replace h := iteT h hb1
    refine Fs (Fg (lv S (Rm (S.tm rfl)) rfl ?_));clear S;intro a S
    refine lv S (Ra (S.tm rfl)) rfl ?_;clear S;intro a S
    refine Ld ?_
    replace S := S.nk [] [(4, iV (i1 : Int))] [] rfl ⟨rfl, trivial⟩
    refine Tn (wp_ret (blk_r (then_r (then_r (blk_r (then_r ?_))))))
    refine then_r ?_
    subst h
    exact f_ret S Tryz.results24 rfl rfl
   ·replace h := iteF h hb1
    refine wp_skip (blk_n (Tn (Fg (lv S (rn_add (S.tm rfl) rfl) rfl ?_))));clear S;intro a S
    refine lv S (Rm (S.tm rfl)) rfl ?_;clear S;intro a S
    refine Ld (Tn ?_)
    exact ⟨ys1, ⟨i1 + 1, ⟨_, (hd1).trans (List.append_cons _ _ _), by simp [hi1]⟩, h, S.nf [] rfl ⟨rfl, rfl, rfl, (congrArg (fun z => some (Value.int .i64 z)) (rng_next hd1 hi1 (slc_max Bk))), trivial⟩⟩, Nat.lt_succ_self _⟩
 clear S h;rintro a w2 ⟨h, S⟩;rw [hj1] at h;clear hj1 j1
 refine Tn (Fs (Fg (lv S (Ra rfl) rfl ?_)));clear S;intro a S
 refine Ld (Tn (wp_ret ?_))
 subst h
 exact f_ret S Tryz.results24 rfl rfl
theorem slices_Contains_int_ok (w : World) (Ai : Value) (Ab : List Int) (Bk : Slc (view w []) 1 Ai (Ab.map eInt)) (Bn : Int) (r : Bool) (h : slices_Contains_int Ab Bn = r) :
    Calls Tryz.prog 8 [Ai, iV Bn].toArray w (Ret w [] fun _ v _ => v = bV r) := by
 refine f_enter [] [] Tryz.func8 rfl Tryz.ntmps8 rfl (by simp) (by simp [fps]) (by simp [fps]) fun a S => ?_
 unfold slices_Contains_int at h
 replace S := S.nk [] [(0, Ai), (1, iV Bn)] [] rfl (subR rfl)
 refine Fs (Fg (lv S (Ra rfl) rfl ?_));clear S;intro a S
 refine Ld (Tn (Fs (Fg (lv S (Rm (S.tm rfl)) rfl ?_))));clear S;intro a S
 refine lv S (Rm (S.tm rfl)) rfl ?_;clear S;intro a S
 refine l_enter S (fun _ => run_call (vs := [Ai, iV Bn]) ⟨(S.tm rfl), (S.tm rfl), trivial⟩ Tryz.call24) (slices_Index_int_ok _ Ai Ab (Bk.mono (S.le_arg nil_sub)) Bn _ rfl) rfl ?_;clear S;intro v1 a w1 hv1 hk1 hn1 S
 subst hv1
 refine lv S (rn_geq (S.tm rfl) rfl) rfl ?_;clear S;intro a S
 refine lv S (Ra (S.tm rfl)) rfl ?_;clear S;intro a S
 refine Ld (Tn (wp_ret ?_))
 subst h
 exact f_ret S Tryz.results8 rfl rfl
set_option maxRecDepth 20000 in
theorem record_CheckKinds_ok (w : World) (V : Value) (Z : List GKind) (Cf : List R56) (Ae : Slc (view w []) 5 V (Cf.map R56.enc)) (Bs : All2 (rel_56 (view w [])) Z Cf) (r : Int) (h : record_CheckKinds Z = some r) :
    Calls Tryz.prog 45 [V].toArray w (Ret w [] fun _ v _ => v = iV r) := by
 refine f_enter [] [] Tryz.func45 rfl Tryz.ntmps45 rfl (by simp) (by simp [fps]) (by simp [fps]) fun a S => ?_
 unfold record_CheckKinds at h
 replace S := S.nk [] [(0, V)] [] rfl ⟨rfl, trivial⟩
 refine Fs (Fg (lv S (Ra rfl) rfl ?_));clear S;intro a S
 refine Ld (Tn (Fs (Fs (Fg (lv S (Rm (S.tm rfl)) rfl ?_)))));clear S;intro a S
 refine lv S (rn_lenT sl_26 (S.tm rfl) (slc_lenD Ae Bs)) rfl ?_;clear S;intro a S
 refine lv S (rn_gtr (S.tm rfl) rfl) rfl ?_;clear S;intro a S
 refine Ld (Tn (f_cond (S.tm rfl) (fun hb1 => ?_) (fun hb1 => ?_)))
 ·replace h := iteT h hb1
  refine Fs (Fg (lv S (Ra rfl) rfl ?_));clear S;intro a S
  refine Ld (Tn (wp_ret (then_r ?_)))
  obtain rfl := Option.some.inj h
  exact f_ret S Tryz.results45 rfl rfl
 ·replace h := iteF h hb1
  refine wp_skip (Tn (Fs (Fs (Fg (lv S (Rm (S.tm rfl)) rfl ?_)))));clear S;intro a S
  refine lv S (rn_lenT sl_26 (S.tm rfl) (slc_lenD Ae Bs)) rfl ?_;clear S;intro a S
  refine lv S (Rm rfl) rfl ?_;clear S;intro a S
  refine Ld (Tn ?_)
  replace S := S.nk [] [(0, V), (10, V), (11, iV (Z.length : Int)), (12, iV 0)] [] rfl (subR rfl)
  obtain ⟨j1, hj1, h⟩ := joinE h
  refine f_join (fun a w' => j1 = some r ∧ Sx w [] nov [] [] 87 a w') ?_ ?_
  ·refine wp_block (f_loop (fun (ys1 : List GKind) a w' => ∃ i1 : Nat, (∃ dn, Z = dn ++ ys1 ∧ dn.length = i1) ∧ record_CheckKinds_l1 Z j1 ys1 i1 = some r ∧ Sx w [] nov [] [(0, V), (10, V), (11, iV (Z.length : Int)), (12, iV (i1 : Int))] 87 a w') List.length Z ⟨0, ⟨[], rfl, rfl⟩, h, S.nf [] rfl (subR rfl)⟩ ?_)
   clear S h;rintro ys1 a w1 ⟨i1, ⟨dn, hd1, hi1⟩, h, S⟩
   cases ys1 with
   | nil =>
    rw [record_CheckKinds_l1.eq_1] at h
    refine Fs (Fg (lv S (rn_lss (S.tm rfl) (S.tm rfl)) rfl ?_));clear S;intro a S
    refine Ld ?_
    replace S := S.nk [] [(0, V), (10, V), (11, iV (Z.length : Int)), (12, iV (i1 : Int)), (13, bV (decide ((i1 : Int) < (Z.length : Int))))] [] rfl (subR rfl)
    refine Tn (Fs (wp_cond_false ((S.tm rfl).trans (congrArg Value.bool (rng_nil hd1 hi1))) (wp_exit (then_x (then_x (x_same ?_))))))
    refine Tn ?_
    exact ⟨h, S.nf [] rfl trivial⟩
   | cons y1 ys1 =>
    rw [record_CheckKinds_l1.eq_2] at h
    refine Fs (Fg (lv S (rn_lss (S.tm rfl) (S.tm rfl)) rfl ?_));clear S;intro a S
    refine Ld ?_
    replace S := S.nk [] [(0, V), (10, V), (11, iV (Z.length : Int)), (12, iV (i1 : Int)), (13, bV (decide ((i1 : Int) < (Z.length : Int))))] [] rfl (subR rfl)
    refine Tn (Fs (wp_cond_true ((S.tm rfl).trans (congrArg Value.bool (rng_cons hd1 hi1))) (wp_skip (Tn (Fs (wp_block ?_))))))
    refine Fs (Fg (lv S (Rm (S.tm rfl)) rfl ?_));clear S;intro a S
    obtain ⟨r1, hg1, hl1⟩ := All2.at Bs (get_mid hd1 hi1)
    obtain ⟨u1, rfl, hs1⟩ := hl1
    obtain ⟨b1, o1, hm1, hr1⟩ := rn_indexT (a := a) (x := .tmp 10) (y := .tmp 12) (ty := 0) sl_26 Ae hg1 rfl (S.tm rfl) (S.tm rfl)
    refine lv S (hr1 _) rfl ?_;clear S;intro a S
    clear hr1
    refine lv S (rn_ldA Tryz.isAgg56 Tryz.sizeOf56 (off := o1) (o := 0) (part := [sV y1.Key, sV y1.Race, u1.val, iV y1.Young, iV y1.Old]) rfl rfl (S.tm rfl) (hm1.at S.emb0)) rfl ?_;clear S;intro a S
    refine l_alloc S Tryz.zeroValue56 (cs := [sV k_empty, sV k_empty, .slice none 0 0, iV 0, iV 0]) rfl rfl ?_;clear S;intro a w3 b2 hz1 hk1 S
    refine lv S (Ra (S.tm rfl)) rfl ?_;clear S;intro a S
    refine l_store S (S.tm rfl) (S.tm rfl) (i := 0) (off := 0) rfl Tryz.sizeOf56 (vs := [sV y1.Key, sV y1.Race, u1.val, iV y1.Young, iV y1.Old]) rfl rfl rfl (all1 rfl (all1 rfl (all1 (SlcLen.one (slc_len hs1)) (all1 rfl (all1 rfl rfl))))) ?_;clear S;intro w4 hk2 S
    refine Ld (Tn (Fs (wp_block (Fs (Fg (lv S (rn_fld fa_56_0 (S.tm rfl)) rfl ?_))))));clear S;intro a S
    refine lv S (rn_load Tryz.isAgg9 (S.tm rfl) (S.cell (i := 0) rfl rfl)) rfl ?_;clear S;intro a S
    obtain ⟨r2, hr2, h⟩ := bindE h
    refine l_enter S (fun _ => run_call (vs := [sV y1.Key]) ⟨(S.tm rfl), trivial⟩ Tryz.call69) (words_IsKey_ok _ y1.Key _ hr2) rfl ?_;clear S;intro v1 a w5 hv1 hk3 hn1 S
    subst hv1
    refine lv S (rn_not (S.tm rfl)) rfl ?_;clear S;intro a S
    refine lv S (Rm (S.tm rfl)) rfl ?_;clear S;intro a S
    obtain ⟨j2, hj2, h⟩ := joinE h
    refine f_cutm 5 (fun a w' => ∃ c1, j2 c1 = some r ∧ Keep [] w5 w' ∧ Sx w [] nov [.blk b2 [sV y1.Key, sV y1.Race, u1.val, iV y1.Young, iV y1.Old] 56] [(0, V), (3, iV (i1 : Int)), (4, .pointer (some ⟨b2, 0, none⟩)), (10, V), (11, iV (Z.length : Int)), (12, iV (i1 : Int)), (27, bV c1)] 87 a w') ?_ ?_
    ·rcases Bool.eq_false_or_eq_true (!r2) with hb2 | hb2
     ·replace h := iteT h hb2
      iterate 4 (refine l_skip S rfl rfl rfl (neq_t hb2) rfl ?_ rfl;clear S;intro a S)
      refine lv S (rn_or_t true hb2 (S.tm rfl) rfl) rfl ?_;clear S;intro a S
      refine Ld (Tn ?_)
      exact ⟨_, h, Keep.refl _ _, S.nf [true] rfl (subR rfl)⟩
     ·replace h := iteF h hb2
      refine l_want S rfl rfl rfl hb2 (lv S (rn_fld fa_56_1 (S.tm rfl)) rfl ?_);clear S;intro a S
      refine l_want S rfl rfl rfl hb2 (lv S (rn_load Tryz.isAgg9 (S.tm rfl) (S.cell (i := 0) rfl rfl)) rfl ?_);clear S;intro a S
      refine l_want S rfl rfl rfl hb2 ?_
      obtain ⟨r3, hr3, h⟩ := bindE h
      refine l_enter S (fun _ => run_call (vs := [sV y1.Race]) ⟨(S.tm rfl), trivial⟩ Tryz.call69) (words_IsKey_ok _ y1.Race _ hr3) rfl ?_;clear S;intro v2 a w7 hv2 hk4 hn2 S
      subst hv2
      refine l_want S rfl rfl rfl hb2 (lv S (rn_not (S.tm rfl)) rfl ?_);clear S;intro a S
      refine lv S (rn_or_f hb2 (S.tm rfl) (S.tm rfl)) rfl ?_;clear S;intro a S
      refine Ld (Tn ?_)
      exact ⟨_, h, hk4, S.nf [true] rfl (subR rfl)⟩
    clear S h;rintro a w6 ⟨c1, h, hk5, S⟩;rw [hj2] at h;clear hj2 j2
    refine lv S (Ra (S.tm rfl)) rfl ?_;clear S;intro a S
    refine Ld (Tn (f_cond (S.tm rfl) (fun hb3 => ?_) (fun hb3 => ?_)))
    ·replace h := iteT h hb3
     refine Fs (Fg (lv S (Ra rfl) rfl ?_));clear S;intro a S
     refine Ld (Tn (wp_ret (blk_r (then_r (blk_r (then_r ?_))))))
     refine then_r (blk_r (then_r (then_r ?_)))
     obtain rfl := Option.some.inj h
     exact f_ret S Tryz.results45 rfl rfl
    ·replace h := iteF h hb3
     refine Fs (d_region [] ([]) Tryz.mixed S rfl (by kernel_rfl) ?_);clear S;intro w8 hk6 hsel S
     refine d_rest [0, 1, 2, 3, 4, 5, 6, 7, 8, 9, 10, 11, 12, 13] hsel (by kernel_rfl) rfl ?_
     clear hsel
     refine s_lv S rfl (Rm (S.tm rfl)) rfl ?_;clear S;intro a S
     refine s_lv S rfl (rn_gtr (S.tm rfl) rfl) rfl ?_;clear S;intro a S
     refine s_lv S rfl (Rm (S.tm rfl)) rfl ?_;clear S;intro a S
     obtain ⟨j3, hj3, h⟩ := joinE h
     refine s_cutm 10 (fun a w' => ∃ c2, j3 c2 = some r ∧ Keep [] w8 w' ∧ Sx w [] nov [.blk b2 [sV y1.Key, sV y1.Race, u1.val, iV y1.Young, iV y1.Old] 56] [(0, V), (4, .pointer (some ⟨b2, 0, none⟩)), (10, V), (11, iV (Z.length : Int)), (12, iV (i1 : Int)), (41, bV c2)] 87 a w') ?_ ?_
     ·rcases Bool.eq_false_or_eq_true (decide (0 < (i1 : Int))) with hb4 | hb4
      ·replace h := iteT h hb4
       refine s_want S rfl rfl rfl rfl hb4 (s_lv0 S (rn_fld fa_56_0 (S.tm rfl)) rfl ?_);clear S;intro a S
       refine s_want S rfl rfl rfl rfl hb4 (s_lv0 S (rn_load Tryz.isAgg9 (S.tm rfl) (S.cell (i := 0) rfl rfl)) rfl ?_);clear S;intro a S
       refine s_want S rfl rfl rfl rfl hb4 (s_lv0 S (Rm (S.tm rfl)) rfl ?_);clear S;intro a S
       refine s_want S rfl rfl rfl rfl hb4 (s_lv0 S (Rm (S.tm rfl)) rfl ?_);clear S;intro a S
       refine s_want S rfl rfl rfl rfl hb4 (s_lv0 S (rn_sub (S.tm rfl) rfl) rfl ?_);clear S;intro a S
       refine s_want S rfl rfl rfl rfl hb4 ?_
       obtain ⟨hc1, h⟩ := chkE h
       obtain ⟨r4, hg2, hl2⟩ := all2_get Bs hc1
       obtain ⟨u2, rfl, hs2⟩ := hl2
       obtain ⟨b3, o2, hm2, hr4⟩ := rn_indexT (a := a) (x := .tmp 34) (y := .tmp 36) (ty := 0) sl_26 Ae hg2 (inB_get hc1).2 (S.tm rfl) (S.tm rfl)
       refine s_lv0 S (hr4 _) rfl ?_;clear S;intro a S
       clear hr4
       refine s_want S rfl rfl rfl rfl hb4 (s_lv0 S (rn_fld fa_56_0 (S.tm rfl)) rfl ?_);clear S;intro a S
       refine s_want S rfl rfl rfl rfl hb4 (s_lv0 S (rn_ld Tryz.isAgg9 (off := o2) (o := 0) (S.tm rfl) (hm2.at S.emb0) rfl) rfl ?_);clear S;intro a S
       refine s_want S rfl rfl rfl rfl hb4 (s_lv0 S (rn_sleq (S.tm rfl) (S.tm rfl)) rfl ?_);clear S;intro a S
       refine s_lv S rfl (rn_and_t hb4 (S.tm rfl) (S.tm rfl)) rfl ?_;clear S;intro a S
       refine s_done ?_
       exact ⟨_, h, Keep.refl _ _, S.nf [true] rfl (subR rfl)⟩
      ·replace h := iteF h hb4
       iterate 9 (refine s_skip S rfl rfl rfl rfl (neq_f hb4) rfl ?_ rfl;clear S;intro a S)
       refine s_lv S rfl (rn_and_f true hb4 (S.tm rfl) rfl) rfl ?_;clear S;intro a S
       refine s_done ?_
       exact ⟨_, h, Keep.refl _ _, S.nf [true] rfl (subR rfl)⟩
     clear S h;rintro a w9 ⟨c2, h, hk7, S⟩;rw [hj3] at h;clear hj3 j3
     refine s_lv S rfl (Ra (S.tm rfl)) rfl ?_;clear S;intro a S
     refine s_done ?_
     replace S := S.nk [.blk b2 [sV y1.Key, sV y1.Race, u1.val, iV y1.Young, iV y1.Old] 56] [(0, V), (4, .pointer (some ⟨b2, 0, none⟩)), (10, V), (11, iV (Z.length : Int)), (12, iV (i1 : Int)), (28, bV c2)] [true] rfl (subR rfl)
     refine Tn (f_cond (S.tm rfl) (fun hb5 => ?_) (fun hb5 => ?_))
     ·replace h := iteT h hb5
      refine Fs (Fg (lv S (Ra rfl) rfl ?_));clear S;intro a S
      refine Ld (Tn (wp_ret (blk_r (then_r (blk_r (then_r ?_))))))
      refine then_r (blk_r (then_r (then_r ?_)))
      obtain rfl := Option.some.inj h
      exact f_ret S Tryz.results45 rfl rfl
     ·replace h := iteF h hb5
      refine Fs (Fg (lv S (rn_fld fa_56_2 (S.tm rfl)) rfl ?_));clear S;intro a S
      refine lv S (rn_load Tryz.isAgg51 (S.tm rfl) (S.cell (i := 0) rfl rfl)) rfl ?_;clear S;intro a S
      refine lv S (rn_lenT sl_51 (S.tm rfl) (slc_len hs1)) rfl ?_;clear S;intro a S
      refine lv S (rn_gtr (S.tm rfl) rfl) rfl ?_;clear S;intro a S
      refine lv S (Ra (S.tm rfl)) rfl ?_;clear S;intro a S
      refine Ld (Tn (f_cond (S.tm rfl) (fun hb6 => ?_) (fun hb6 => ?_)))
      ·replace h := iteT h hb6
       refine Fs (Fg (lv S (Ra rfl) rfl ?_));clear S;intro a S
       refine Ld (Tn (wp_ret (blk_r (then_r (blk_r (then_r ?_))))))
       refine then_r (blk_r (then_r (then_r ?_)))
       obtain rfl := Option.some.inj h
       exact f_ret S Tryz.results45 rfl rfl
      ·replace h := iteF h hb6
       refine wp_skip (blk_n (Tn (Fs (Fs (Fg (lv S (rn_fld fa_56_2 (S.tm rfl)) rfl ?_))))));clear S;intro a S
       refine lv S (rn_load Tryz.isAgg51 (S.tm rfl) (S.cell (i := 0) rfl rfl)) rfl ?_;clear S;intro a S
       refine lv S (rn_lenT sl_51 (S.tm rfl) (slc_len hs1)) rfl ?_;clear S;intro a S
       refine lv S (Rm rfl) rfl ?_;clear S;intro a S
       refine Ld ?_
       replace S := S.nk [.blk b2 [sV y1.Key, sV y1.Race, u1.val, iV y1.Young, iV y1.Old] 56] [(0, V), (4, .pointer (some ⟨b2, 0, none⟩)), (10, V), (11, iV (Z.length : Int)), (12, iV (i1 : Int)), (48, u1.val), (49, iV (y1.Clubs.length : Int)), (50, iV 0)] [true] rfl (subR rfl)
       refine Tn ?_
       obtain ⟨j4, hj4, h⟩ := joinE h
       refine f_join (fun a w' => j4 = some r ∧ Sx w [] nov [.blk b2 [sV y1.Key, sV y1.Race, u1.val, iV y1.Young, iV y1.Old] 56] [(0, V), (4, .pointer (some ⟨b2, 0, none⟩)), (10, V), (11, iV (Z.length : Int)), (12, iV (i1 : Int))] 87 a w') ?_ ?_
       ·refine wp_block (f_loop (fun (ys2 : List ByteArray) a w' => ∃ i2 : Nat, (∃ dn, y1.Clubs = dn ++ ys2 ∧ dn.length = i2) ∧ record_CheckKinds_l2 y1 j4 ys2 i2 = some r ∧ Sx w [] nov [.blk b2 [sV y1.Key, sV y1.Race, u1.val, iV y1.Young, iV y1.Old] 56] [(0, V), (4, .pointer (some ⟨b2, 0, none⟩)), (10, V), (11, iV (Z.length : Int)), (12, iV (i1 : Int)), (48, u1.val), (49, iV (y1.Clubs.length : Int)), (50, iV (i2 : Int))] 87 a w') List.length y1.Clubs ⟨0, ⟨[], rfl, rfl⟩, h, S.nf [true] rfl (subR rfl)⟩ ?_)
        clear S h;rintro ys2 a w10 ⟨i2, ⟨dn, hd2, hi2⟩, h, S⟩
        cases ys2 with
        | nil =>
         rw [record_CheckKinds_l2.eq_1] at h
         refine Fs (Fg (lv S (rn_lss (S.tm rfl) (S.tm rfl)) rfl ?_));clear S;intro a S
         refine Ld ?_
         replace S := S.nk [.blk b2 [sV y1.Key, sV y1.Race, u1.val, iV y1.Young, iV y1.Old] 56] [(0, V), (4, .pointer (some ⟨b2, 0, none⟩)), (10, V), (11, iV (Z.length : Int)), (12, iV (i1 : Int)), (48, u1.val), (49, iV (y1.Clubs.length : Int)), (50, iV (i2 : Int)), (51, bV (decide ((i2 : Int) < (y1.Clubs.length : Int))))] [true] rfl (subR rfl)
         refine Tn (Fs (wp_cond_false ((S.tm rfl).trans (congrArg Value.bool (rng_nil hd2 hi2))) (wp_exit (then_x (then_x (x_same ?_))))))
         refine Tn ?_
         exact ⟨h, S.nf [true] rfl (subR rfl)⟩
        | cons y2 ys2 =>
         rw [record_CheckKinds_l2.eq_2] at h
         refine Fs (Fg (lv S (rn_lss (S.tm rfl) (S.tm rfl)) rfl ?_));clear S;intro a S
         refine Ld ?_
         replace S := S.nk [.blk b2 [sV y1.Key, sV y1.Race, u1.val, iV y1.Young, iV y1.Old] 56] [(0, V), (4, .pointer (some ⟨b2, 0, none⟩)), (10, V), (11, iV (Z.length : Int)), (12, iV (i1 : Int)), (48, u1.val), (49, iV (y1.Clubs.length : Int)), (50, iV (i2 : Int)), (51, bV (decide ((i2 : Int) < (y1.Clubs.length : Int))))] [true] rfl (subR rfl)
         refine Tn (Fs (wp_cond_true ((S.tm rfl).trans (congrArg Value.bool (rng_cons hd2 hi2))) (wp_skip (Tn (Fs (wp_block ?_))))))
         refine Fs (Fg (lv S (Rm (S.tm rfl)) rfl ?_));clear S;intro a S
         obtain ⟨b4, o3, hm3, hr5⟩ := rn_indexT (a := a) (x := .tmp 48) (y := .tmp 50) (ty := 0) sl_51 hs1 (get_mid hd2 hi2) rfl (S.tm rfl) (S.tm rfl)
         refine lv S (hr5 _) rfl ?_;clear S;intro a S
         clear hr5
         refine lv S (rn_ld Tryz.isAgg9 (off := o3) (o := 0) (S.tm rfl) (hm3.at S.emb0) rfl) rfl ?_;clear S;intro a S
         refine lv S (Ra (S.tm rfl)) rfl ?_;clear S;intro a S
         refine lv S (Ra (S.tm rfl)) rfl ?_;clear S;intro a S
         refine Ld (Tn (Fs (Fs (Fg (lv S (Rm (S.tm rfl)) rfl ?_)))));clear S;intro a S
         obtain ⟨r5, hr6, h⟩ := bindE h
         refine l_enter S (fun _ => run_call (vs := [sV y2]) ⟨(S.tm rfl), trivial⟩ Tryz.call69) (words_IsKey_ok _ y2 _ hr6) rfl ?_;clear S;intro v3 a w12 hv3 hk8 hn3 S
         subst hv3
         refine lv S (rn_not (S.tm rfl)) rfl ?_;clear S;intro a S
         refine Ld ?_
         replace S := S.nk [.blk b2 [sV y1.Key, sV y1.Race, u1.val, iV y1.Young, iV y1.Old] 56] [(0, V), (4, .pointer (some ⟨b2, 0, none⟩)), (5, iV (i2 : Int)), (6, sV y2), (10, V), (11, iV (Z.length : Int)), (12, iV (i1 : Int)), (48, u1.val), (49, iV (y1.Clubs.length : Int)), (50, iV (i2 : Int)), (57, bV (!r5))] [true] rfl (subR rfl)
         refine Tn (f_cond (S.tm rfl) (fun hb7 => ?_) (fun hb7 => ?_))
         ·replace h := iteT h hb7
          refine Fs (Fg (lv S (Ra rfl) rfl ?_));clear S;intro a S
          refine Ld (Tn (wp_ret (then_r (blk_r (then_r (then_r ?_))))))
          refine blk_r (then_r (then_r (blk_r (then_r (then_r (blk_r ?_))))))
          refine then_r (then_r ?_)
          obtain rfl := Option.some.inj h
          exact f_ret S Tryz.results45 rfl rfl
         ·replace h := iteF h hb7
          refine wp_skip (Tn (Fs (Fg (lv S (Rm (S.tm rfl)) rfl ?_))));clear S;intro a S
          refine lv S (rn_gtr (S.tm rfl) rfl) rfl ?_;clear S;intro a S
          refine lv S (Rm (S.tm rfl)) rfl ?_;clear S;intro a S
          obtain ⟨j5, hj5, h⟩ := joinE h
          refine f_cutm 9 (fun a w' => ∃ c3, j5 c3 = some r ∧ Keep [] w12 w' ∧ Sx w [] nov [.blk b2 [sV y1.Key, sV y1.Race, u1.val, iV y1.Young, iV y1.Old] 56] [(0, V), (4, .pointer (some ⟨b2, 0, none⟩)), (10, V), (11, iV (Z.length : Int)), (12, iV (i1 : Int)), (48, u1.val), (49, iV (y1.Clubs.length : Int)), (50, iV (i2 : Int)), (69, bV c3)] 87 a w') ?_ ?_
          ·rcases Bool.eq_false_or_eq_true (decide (0 < (i2 : Int))) with hb8 | hb8
           ·replace h := iteT h hb8
            refine l_want S rfl rfl rfl hb8 (lv S (Rm (S.tm rfl)) rfl ?_);clear S;intro a S
            refine l_want S rfl rfl rfl hb8 (lv S (rn_fld fa_56_2 (S.tm rfl)) rfl ?_);clear S;intro a S
            refine l_want S rfl rfl rfl hb8 (lv S (rn_load Tryz.isAgg51 (S.tm rfl) (S.cell (i := 0) rfl rfl)) rfl ?_);clear S;intro a S
            refine l_want S rfl rfl rfl hb8 (lv S (Rm (S.tm rfl)) rfl ?_);clear S;intro a S
            refine l_want S rfl rfl rfl hb8 (lv S (rn_sub (S.tm rfl) rfl) rfl ?_);clear S;intro a S
            refine l_want S rfl rfl rfl hb8 ?_
            obtain ⟨hc2, h⟩ := chkE h
            obtain ⟨b5, o4, hm4, hr7⟩ := rn_indexT (a := a) (x := .tmp 63) (y := .tmp 65) (ty := 0) sl_51 hs1 (inB_get hc2).1 (inB_get hc2).2 (S.tm rfl) (S.tm rfl)
            refine lv S (hr7 _) rfl ?_;clear S;intro a S
            clear hr7
            refine l_want S rfl rfl rfl hb8 (lv S (rn_ld Tryz.isAgg9 (off := o4) (o := 0) (S.tm rfl) (hm4.at S.emb0) rfl) rfl ?_);clear S;intro a S
            refine l_want S rfl rfl rfl hb8 (lv S (rn_sleq (S.tm rfl) (S.tm rfl)) rfl ?_);clear S;intro a S
            refine lv S (rn_and_t hb8 (S.tm rfl) (S.tm rfl)) rfl ?_;clear S;intro a S
            refine Ld (Tn ?_)
            exact ⟨_, h, Keep.refl _ _, S.nf [true] rfl (subR rfl)⟩
           ·replace h := iteF h hb8
            iterate 8 (refine l_skip S rfl rfl rfl (neq_f hb8) rfl ?_ rfl;clear S;intro a S)
            refine lv S (rn_and_f true hb8 (S.tm rfl) rfl) rfl ?_;clear S;intro a S
            refine Ld (Tn ?_)
            exact ⟨_, h, Keep.refl _ _, S.nf [true] rfl (subR rfl)⟩
          clear S h;rintro a w13 ⟨c3, h, hk9, S⟩;rw [hj5] at h;clear hj5 j5
          refine Ld (Tn (f_cond (S.tm rfl) (fun hb9 => ?_) (fun hb9 => ?_)))
          ·replace h := iteT h hb9
           refine Fs (Fg (lv S (Ra rfl) rfl ?_));clear S;intro a S
           refine Ld (Tn (wp_ret (blk_r (then_r (then_r (blk_r ?_))))))
           refine then_r (then_r (blk_r (then_r (then_r (blk_r (then_r ?_))))))
           refine then_r ?_
           obtain rfl := Option.some.inj h
           exact f_ret S Tryz.results45 rfl rfl
          ·replace h := iteF h hb9
           refine wp_skip (blk_n (Tn (Fg (lv S (rn_add (S.tm rfl) rfl) rfl ?_))));clear S;intro a S
           refine lv S (Rm (S.tm rfl)) rfl ?_;clear S;intro a S
           refine Ld (Tn ?_)
           exact ⟨ys2, ⟨i2 + 1, ⟨_, (hd2).trans (List.append_cons _ _ _), by simp [hi2]⟩, h, S.nf [true] rfl ⟨rfl, rfl, rfl, rfl, rfl, rfl, rfl, (congrArg (fun z => some (Value.int .i64 z)) (rng_next hd2 hi2 (slc_max hs1))), trivial⟩⟩, Nat.lt_succ_self _⟩
       clear S h;rintro a w11 ⟨h, S⟩;rw [hj4] at h;clear hj4 j4
       refine Tn (Fs (Fg (lv S (rn_fld fa_56_3 (S.tm rfl)) rfl ?_)));clear S;intro a S
       refine lv S (rn_load Tryz.isAgg3 (S.tm rfl) (S.cell (i := 0) rfl rfl)) rfl ?_;clear S;intro a S
       refine lv S (rn_lss (S.tm rfl) rfl) rfl ?_;clear S;intro a S
       refine lv S (Rm (S.tm rfl)) rfl ?_;clear S;intro a S
       refine f_cutm 6 (fun a w' => Keep [] w11 w' ∧ Sx w [] nov [.blk b2 [sV y1.Key, sV y1.Race, u1.val, iV y1.Young, iV y1.Old] 56] [(0, V), (4, .pointer (some ⟨b2, 0, none⟩)), (10, V), (11, iV (Z.length : Int)), (12, iV (i1 : Int)), (80, bV ((decide (y1.Young < 0)) || (decide (y1.Old < y1.Young))))] 87 a w') ?_ ?_
       ·rcases Bool.eq_false_or_eq_true (decide (y1.Young < 0)) with hb10 | hb10
        ·iterate 5 (refine l_skip S rfl rfl rfl (neq_t hb10) rfl ?_ rfl;clear S;intro a S)
         refine lv S (rn_or_t (decide (y1.Old < y1.Young)) hb10 (S.tm rfl) rfl) rfl ?_;clear S;intro a S
         refine Ld (Tn ?_)
         exact ⟨Keep.refl _ _, S.nf [true] rfl (subR rfl)⟩
        ·refine l_want S rfl rfl rfl hb10 (lv S (rn_fld fa_56_3 (S.tm rfl)) rfl ?_);clear S;intro a S
         refine l_want S rfl rfl rfl hb10 (lv S (rn_load Tryz.isAgg3 (S.tm rfl) (S.cell (i := 0) rfl rfl)) rfl ?_);clear S;intro a S
         refine l_want S rfl rfl rfl hb10 (lv S (rn_fld fa_56_4 (S.tm rfl)) rfl ?_);clear S;intro a S
         refine l_want S rfl rfl rfl hb10 (lv S (rn_load Tryz.isAgg3 (S.tm rfl) (S.cell (i := 0) rfl rfl)) rfl ?_);clear S;intro a S
         refine l_want S rfl rfl rfl hb10 (lv S (rn_gtr (S.tm rfl) (S.tm rfl)) rfl ?_);clear S;intro a S
         refine lv S (rn_or_f hb10 (S.tm rfl) (S.tm rfl)) rfl ?_;clear S;intro a S
         refine Ld (Tn ?_)
         exact ⟨Keep.refl _ _, S.nf [true] rfl (subR rfl)⟩
       clear S;rintro a w14 ⟨hk10, S⟩
       refine lv S (Rm (S.tm rfl)) rfl ?_;clear S;intro a S
       refine f_cutm 4 (fun a w' => Keep [] w14 w' ∧ Sx w [] nov [.blk b2 [sV y1.Key, sV y1.Race, u1.val, iV y1.Young, iV y1.Old] 56] [(0, V), (10, V), (11, iV (Z.length : Int)), (12, iV (i1 : Int)), (85, bV (((decide (y1.Young < 0)) || (decide (y1.Old < y1.Young))) || (decide (150 < y1.Old))))] 87 a w') ?_ ?_
       ·rcases Bool.eq_false_or_eq_true ((decide (y1.Young < 0)) || (decide (y1.Old < y1.Young))) with hb11 | hb11
        ·iterate 3 (refine l_skip S rfl rfl rfl (neq_t hb11) rfl ?_ rfl;clear S;intro a S)
         refine lv S (rn_or_t (decide (150 < y1.Old)) hb11 (S.tm rfl) rfl) rfl ?_;clear S;intro a S
         refine Ld (Tn ?_)
         exact ⟨Keep.refl _ _, S.nf [true] rfl (subR rfl)⟩
        ·refine l_want S rfl rfl rfl hb11 (lv S (rn_fld fa_56_4 (S.tm rfl)) rfl ?_);clear S;intro a S
         refine l_want S rfl rfl rfl hb11 (lv S (rn_load Tryz.isAgg3 (S.tm rfl) (S.cell (i := 0) rfl rfl)) rfl ?_);clear S;intro a S
         refine l_want S rfl rfl rfl hb11 (lv S (rn_gtr (S.tm rfl) rfl) rfl ?_);clear S;intro a S
         refine lv S (rn_or_f hb11 (S.tm rfl) (S.tm rfl)) rfl ?_;clear S;intro a S
         refine Ld (Tn ?_)
         exact ⟨Keep.refl _ _, S.nf [true] rfl (subR rfl)⟩
       clear S;rintro a w15 ⟨hk11, S⟩
       refine Ld (Tn (f_cond (S.tm rfl) (fun hb12 => ?_) (fun hb12 => ?_)))
       ·replace h := iteT h hb12
        refine Fs (Fg (lv S (Ra rfl) rfl ?_));clear S;intro a S
        refine Ld (Tn (wp_ret (blk_r (then_r (then_r (blk_r ?_))))))
        refine then_r (then_r ?_)
        obtain rfl := Option.some.inj h
        exact f_ret S Tryz.results45 rfl rfl
       ·replace h := iteF h hb12
        refine wp_skip (blk_n (Tn (Fg (lv S (rn_add (S.tm rfl) rfl) rfl ?_))));clear S;intro a S
        refine lv S (Rm (S.tm rfl)) rfl ?_;clear S;intro a S
        refine Ld (Tn ?_)
        exact ⟨ys1, ⟨i1 + 1, ⟨_, (hd1).trans (List.append_cons _ _ _), by simp [hi1]⟩, h, S.nf [false] rfl ⟨rfl, rfl, rfl, (congrArg (fun z => some (Value.int .i64 z)) (rng_next hd1 hi1 (slc_maxD Ae Bs))), trivial⟩⟩, Nat.lt_succ_self _⟩
  clear S h;rintro a w2 ⟨h, S⟩;rw [hj1] at h;clear hj1 j1
  refine Tn (Fs (Fg (lv S (Ra rfl) rfl ?_)));clear S;intro a S
  refine Ld (Tn (wp_ret ?_))
  obtain rfl := Option.some.inj h
  exact f_ret S Tryz.results45 rfl rfl
theorem record_checkBoth_ok (w : World) (Bo : Value) (Aa : List GKind) (Ca : List R56) (Cg : Slc (view w []) 5 Bo (Ca.map R56.enc)) (Ch : All2 (rel_56 (view w [])) Aa Ca) (V : Value) (Z : List GStep) (Ae : Slc (view w []) 8 V (Z.map GStep.enc)) (r : Int) (h : record_checkBoth Aa Z = some r) :
    Calls Tryz.prog 25 [Bo, V].toArray w (Ret w [] fun _ v _ => v = iV r) := by
 refine f_enter [] [] Tryz.func25 rfl Tryz.ntmps25 rfl (by simp) (by simp [fps]) (by simp [fps]) fun a S => ?_
 unfold record_checkBoth at h
 replace S := S.nk [] [(0, Bo), (1, V)] [] rfl (subR rfl)
 refine Fs (Fg (lv S (Ra rfl) rfl ?_));clear S;intro a S
 refine Ld (Tn (Fs (Fs (Fg (lv S (Rm (S.tm rfl)) rfl ?_)))));clear S;intro a S
 obtain ⟨r1, hr1, h⟩ := bindE h
 refine l_enter S (fun _ => run_call (vs := [Bo]) ⟨(S.tm rfl), trivial⟩ Tryz.call45) (record_CheckKinds_ok _ Bo Aa Ca (Cg.mono (S.le_arg nil_sub)) (rels_56 (S.le_arg nil_sub) Ch) _ hr1) rfl ?_;clear S;intro v1 a w1 hv1 hk1 hn1 S
 subst hv1
 refine lv S (Ra (S.tm rfl)) rfl ?_;clear S;intro a S
 refine Ld (Tn (Fs (Fg (lv S (Rm (S.tm rfl)) rfl ?_))));clear S;intro a S
 refine lv S (rn_neq (S.tm rfl) rfl) rfl ?_;clear S;intro a S
 refine Ld (Tn (f_cond (S.tm rfl) (fun hb1 => ?_) (fun hb1 => ?_)))
 ·replace h := iteT h hb1
  refine Fs (Fg (lv S (Rm (S.tm rfl)) rfl ?_));clear S;intro a S
  refine lv S (Ra (S.tm rfl)) rfl ?_;clear S;intro a S
  refine Ld (Tn (wp_ret (then_r ?_)))
  obtain rfl := Option.some.inj h
  exact f_ret S Tryz.results25 rfl rfl
 ·replace h := iteF h hb1
  refine wp_skip (Tn (Fs (Fg (lv S (Rm (S.tm rfl)) rfl ?_))));clear S;intro a S
  obtain ⟨r2, hr2, h⟩ := bindE h
  refine l_enter S (fun _ => run_call (vs := [V]) ⟨(S.tm rfl), trivial⟩ Tryz.call22) (record_CheckSteps_ok _ V Z (Ae.mono (S.le_arg nil_sub)) _ hr2) rfl ?_;clear S;intro v2 a w2 hv2 hk2 hn2 S
  subst hv2
  refine lv S (Ra (S.tm rfl)) rfl ?_;clear S;intro a S
  refine Ld (Tn (wp_ret ?_))
  obtain rfl := Option.some.inj h
  exact f_ret S Tryz.results25 rfl rfl
theorem slices_Index_string_ok (w : World) (Ai : Value) (Ab : List ByteArray) (Bk : Slc (view w []) 1 Ai (Ab.map eStr)) (Bn : ByteArray) (r : Int) (h : slices_Index_string Ab Bn = r) :
    Calls Tryz.prog 100 [Ai, sV Bn].toArray w (Ret w [] fun _ v _ => v = iV r) := by
 refine f_enter [] [] Tryz.func100 rfl Tryz.ntmps100 rfl (by simp) (by simp [fps]) (by simp [fps]) fun a S => ?_
 unfold slices_Index_string at h
 replace S := S.nk [] [(0, Ai), (1, sV Bn)] [] rfl (subR rfl)
 refine Fs (Fg (lv S (Ra rfl) rfl ?_));clear S;intro a S
 refine Ld (Tn (Fs (Fs (Fg (lv S (Rm (S.tm rfl)) rfl ?_)))));clear S;intro a S
 refine lv S (rn_lenT sl_51 (S.tm rfl) (slc_len Bk)) rfl ?_;clear S;intro a S
 refine lv S (Rm rfl) rfl ?_;clear S;intro a S
 refine Ld (Tn ?_)
 replace S := S.nk [] [(0, Ai), (1, sV Bn), (7, iV (Ab.length : Int)), (8, iV 0)] [] rfl (subR rfl)
 obtain ⟨j1, hj1, h⟩ := joinE h
 refine f_join (fun a w' => j1 = r ∧ Sx w [] nov [] [] 19 a w') ?_ ?_
 ·refine wp_block (f_loop (fun (ys1 : List ByteArray) a w' => ∃ i1 : Nat, (∃ dn, Ab = dn ++ ys1 ∧ dn.length = i1) ∧ slices_Index_string_l1 Bn j1 ys1 i1 = r ∧ Sx w [] nov [] [(0, Ai), (1, sV Bn), (7, iV (Ab.length : Int)), (8, iV (i1 : Int))] 19 a w') List.length Ab ⟨0, ⟨[], rfl, rfl⟩, h, S.nf [] rfl (subR rfl)⟩ ?_)
  clear S h;rintro ys1 a w1 ⟨i1, ⟨dn, hd1, hi1⟩, h, S⟩
  cases ys1 with
  | nil =>
   rw [slices_Index_string_l1.eq_1] at h
   refine Fs (Fg (lv S (rn_lss (S.tm rfl) (S.tm rfl)) rfl ?_));clear S;intro a S
   refine Ld ?_
   replace S := S.nk [] [(0, Ai), (1, sV Bn), (7, iV (Ab.length : Int)), (8, iV (i1 : Int)), (9, bV (decide ((i1 : Int) < (Ab.length : Int))))] [] rfl (subR rfl)
   refine Tn (Fs (wp_cond_false ((S.tm rfl).trans (congrArg Value.bool (rng_nil hd1 hi1))) (wp_exit (then_x (then_x (x_same ?_))))))
   refine Tn ?_
   exact ⟨h, S.nf [] rfl trivial⟩
  | cons y1 ys1 =>
   rw [slices_Index_string_l1.eq_2] at h
   refine Fs (Fg (lv S (rn_lss (S.tm rfl) (S.tm rfl)) rfl ?_));clear S;intro a S
   refine Ld ?_
   replace S := S.nk [] [(0, Ai), (1, sV Bn), (7, iV (Ab.length : Int)), (8, iV (i1 : Int)), (9, bV (decide ((i1 : Int) < (Ab.length : Int))))] [] rfl (subR rfl)
   refine Tn (Fs (wp_cond_true ((S.tm rfl).trans (congrArg Value.bool (rng_cons hd1 hi1))) (wp_skip (Tn (Fs (wp_block ?_))))))
   refine Fs (Fg (lv S (Rm (S.tm rfl)) rfl ?_));clear S;intro a S
   refine lv S (Ra (S.tm rfl)) rfl ?_;clear S;intro a S
   refine Ld (Tn (Fs (Fg (lv S (Rm (S.tm rfl)) rfl ?_))));clear S;intro a S
   refine lv S (Rm (S.tm rfl)) rfl ?_;clear S;intro a S
   refine lv S (Rm (S.tm rfl)) rfl ?_;clear S;intro a S
   obtain ⟨b1, o1, hm1, hr1⟩ := rn_indexT (a := a) (x := .tmp 12) (y := .tmp 13) (ty := 0) sl_51 Bk (get_mid hd1 hi1) rfl (S.tm rfl) (S.tm rfl)
   refine lv S (hr1 _) rfl ?_;clear S;intro a S
   clear hr1
   refine lv S (rn_ld Tryz.isAgg9 (off := o1) (o := 0) (S.tm rfl) (hm1.at S.emb0) rfl) rfl ?_;clear S;intro a S
   refine lv S (rn_seql (S.tm rfl) (S.tm rfl)) rfl ?_;clear S;intro a S
   refine Ld (Tn (f_cond (S.tm rfl) (fun hb1 => ?_) (fun hb1 => ?_)))
   ·replace h := iteT h hb1
    refine Fs (Fg (lv S (Rm (S.tm rfl)) rfl ?_));clear S;intro a S
    refine lv S (Ra (S.tm rfl)) rfl ?_;clear S;intro a S
    refine Ld ?_
    replace S := S.nk [] [(4, iV (i1 : Int))] [] rfl ⟨rfl, trivial⟩
    refine Tn (wp_ret (blk_r (then_r (then_r (blk_r (then_r ?_))))))
    refine then_r ?_
    subst h
    exact f_ret S Tryz.results100 rfl rfl
   ·replace h := iteF h hb1
    refine wp_skip (blk_n (Tn (Fg (lv S (rn_add (S.tm rfl) rfl) rfl ?_))));clear S;intro a S
    refine lv S (Rm (S.tm rfl)) rfl ?_;clear S;intro a S
    refine Ld (Tn ?_)
    exact ⟨ys1, ⟨i1 + 1, ⟨_, (hd1).trans (List.append_cons _ _ _), by simp [hi1]⟩, h, S.nf [] rfl ⟨rfl, rfl, rfl, (congrArg (fun z => some (Value.int .i64 z)) (rng_next hd1 hi1 (slc_max Bk))), trivial⟩⟩, Nat.lt_succ_self _⟩
 clear S h;rintro a w2 ⟨h, S⟩;rw [hj1] at h;clear hj1 j1
 refine Tn (Fs (Fg (lv S (Ra rfl) rfl ?_)));clear S;intro a S
 refine Ld (Tn (wp_ret ?_))
 subst h
 exact f_ret S Tryz.results100 rfl rfl
theorem slices_Contains_string_ok (w : World) (Ai : Value) (Ab : List ByteArray) (Bk : Slc (view w []) 1 Ai (Ab.map eStr)) (Bn : ByteArray) (r : Bool) (h : slices_Contains_string Ab Bn = r) :
    Calls Tryz.prog 88 [Ai, sV Bn].toArray w (Ret w [] fun _ v _ => v = bV r) := by
 refine f_enter [] [] Tryz.func88 rfl Tryz.ntmps88 rfl (by simp) (by simp [fps]) (by simp [fps]) fun a S => ?_
 unfold slices_Contains_string at h
 replace S := S.nk [] [(0, Ai), (1, sV Bn)] [] rfl (subR rfl)
 refine Fs (Fg (lv S (Ra rfl) rfl ?_));clear S;intro a S
 refine Ld (Tn (Fs (Fg (lv S (Rm (S.tm rfl)) rfl ?_))));clear S;intro a S
 refine lv S (Rm (S.tm rfl)) rfl ?_;clear S;intro a S
 refine l_enter S (fun _ => run_call (vs := [Ai, sV Bn]) ⟨(S.tm rfl), (S.tm rfl), trivial⟩ Tryz.call100) (slices_Index_string_ok _ Ai Ab (Bk.mono (S.le_arg nil_sub)) Bn _ rfl) rfl ?_;clear S;intro v1 a w1 hv1 hk1 hn1 S
 subst hv1
 refine lv S (rn_geq (S.tm rfl) rfl) rfl ?_;clear S;intro a S
 refine lv S (Ra (S.tm rfl)) rfl ?_;clear S;intro a S
 refine Ld (Tn (wp_ret ?_))
 subst h
 exact f_ret S Tryz.results88 rfl rfl
theorem record_isFor_ok (w : World) (Aa : GKind) (Bv : R56) (Cb : rel_56 (view w []) Aa Bv) (Ab : GStep) (r : Bool) (h : record_isFor Aa Ab = r) :
    Calls Tryz.prog 63 [.agg (R56.enc Bv).toArray, .agg (GStep.enc Ab).toArray].toArray w (Ret w [] fun _ v _ => v = bV r) := by
 obtain ⟨u1, rfl, hs1⟩ := Cb
 refine f_enter [] [] Tryz.func63 rfl Tryz.ntmps63 rfl (by simp) (by simp [fps]) (by simp [fps]) fun a S => ?_
 unfold record_isFor at h
 replace S := S.nk [] [(0, .agg #[sV Aa.Key, sV Aa.Race, u1.val, iV Aa.Young, iV Aa.Old]), (1, .agg (GStep.enc Ab).toArray)] [] rfl (subR rfl)
 refine Fs (Fg (l_box S (S.tm rfl) (cs := [sV Aa.Key, sV Aa.Race, u1.val, iV Aa.Young, iV Aa.Old]) rfl rfl ?_));clear S;intro a w1 b1 hz1 hk1 S
 refine l_box S (S.tm rfl) (cs := (GStep.enc Ab)) rfl rfl ?_;clear S;intro a w2 b2 hz2 hk2 S
 refine lv S (Ra rfl) rfl ?_;clear S;intro a S
 refine Ld (Tn (Fs (Fg (lv S (rn_fld fa_35_5 (S.tm rfl)) rfl ?_))));clear S;intro a S
 refine lv S (rn_load Tryz.isAgg9 (S.tm rfl) (S.cell (i := 0) rfl rfl)) rfl ?_;clear S;intro a S
 refine lv S (rn_fld fa_56_1 (S.tm rfl)) rfl ?_;clear S;intro a S
 refine lv S (rn_load Tryz.isAgg9 (S.tm rfl) (S.cell (i := 1) rfl rfl)) rfl ?_;clear S;intro a S
 refine lv S (rn_seql (S.tm rfl) (S.tm rfl)) rfl ?_;clear S;intro a S
 refine lv S (Rm (S.tm rfl)) rfl ?_;clear S;intro a S
 refine f_cutm 12 (fun a w' => Keep [] w2 w' ∧ Sx w [] nov [.blk b2 (GStep.enc Ab) 35, .blk b1 [sV Aa.Key, sV Aa.Race, u1.val, iV Aa.Young, iV Aa.Old] 56] [(2, .pointer (some ⟨b1, 0, none⟩)), (3, .pointer (some ⟨b2, 0, none⟩)), (22, bV ((decide (Ab.Race = Aa.Race)) && ((decide ((Aa.Clubs.length : Int) = 0)) || (slices_Contains_string Aa.Clubs Ab.Club))))] 32 a w') ?_ ?_
 ·rcases Bool.eq_false_or_eq_true (decide (Ab.Race = Aa.Race)) with hb1 | hb1
  ·refine l_want S rfl rfl rfl hb1 (lv S (rn_fld fa_56_2 (S.tm rfl)) rfl ?_);clear S;intro a S
   refine l_want S rfl rfl rfl hb1 (lv S (rn_load Tryz.isAgg51 (S.tm rfl) (S.cell (i := 1) rfl rfl)) rfl ?_);clear S;intro a S
   refine l_want S rfl rfl rfl hb1 (lv S (rn_lenT sl_51 (S.tm rfl) (slc_len hs1)) rfl ?_);clear S;intro a S
   refine l_want S rfl rfl rfl hb1 (lv S (rn_eql (S.tm rfl) rfl) rfl ?_);clear S;intro a S
   refine l_want S rfl rfl rfl hb1 (lv S (Rm (S.tm rfl)) rfl ?_);clear S;intro a S
   refine f_cutm 6 (fun a w' => Keep [] w2 w' ∧ Sx w [] nov [.blk b2 (GStep.enc Ab) 35, .blk b1 [sV Aa.Key, sV Aa.Race, u1.val, iV Aa.Young, iV Aa.Old] 56] [(2, .pointer (some ⟨b1, 0, none⟩)), (3, .pointer (some ⟨b2, 0, none⟩)), (10, bV (decide (Ab.Race = Aa.Race))), (21, bV ((decide ((Aa.Clubs.length : Int) = 0)) || (slices_Contains_string Aa.Clubs Ab.Club)))] 32 a w') ?_ ?_
   ·rcases Bool.eq_false_or_eq_true (decide ((Aa.Clubs.length : Int) = 0)) with hb2 | hb2
    ·iterate 5 (refine l_skip S rfl rfl rfl (neq_t hb2) rfl ?_ rfl;clear S;intro a S)
     refine l_want S rfl rfl rfl hb1 (lv S (rn_or_t (slices_Contains_string Aa.Clubs Ab.Club) hb2 (S.tm rfl) rfl) rfl ?_);clear S;intro a S
     refine Ld (Tn ?_)
     exact ⟨Keep.refl _ _, S.nf [true, true] rfl (subR rfl)⟩
    ·refine l_want S rfl rfl rfl hb2 (lv S (rn_fld fa_56_2 (S.tm rfl)) rfl ?_);clear S;intro a S
     refine l_want S rfl rfl rfl hb2 (lv S (rn_load Tryz.isAgg51 (S.tm rfl) (S.cell (i := 1) rfl rfl)) rfl ?_);clear S;intro a S
     refine l_want S rfl rfl rfl hb2 (lv S (rn_fld fa_35_4 (S.tm rfl)) rfl ?_);clear S;intro a S
     refine l_want S rfl rfl rfl hb2 (lv S (rn_load Tryz.isAgg9 (S.tm rfl) (S.cell (i := 0) rfl rfl)) rfl ?_);clear S;intro a S
     refine l_want S rfl rfl rfl hb2 (l_enter S (fun _ => run_call (vs := [u1.val, sV Ab.Club]) ⟨(S.tm rfl), (S.tm rfl), trivial⟩ Tryz.call88) (slices_Contains_string_ok _ u1.val Aa.Clubs (hs1.mono (S.le_arg nil_sub)) Ab.Club _ rfl) rfl ?_);clear S;intro v1 a w5 hv1 hk3 hn1 S
     subst hv1
     refine l_want S rfl rfl rfl hb1 (lv S (rn_or_f hb2 (S.tm rfl) (S.tm rfl)) rfl ?_);clear S;intro a S
     refine Ld (Tn ?_)
     exact ⟨hk3, S.nf [true, true] rfl (subR rfl)⟩
   clear S;rintro a w4 ⟨hk4, S⟩
   refine lv S (rn_and_t hb1 (S.tm rfl) (S.tm rfl)) rfl ?_;clear S;intro a S
   refine Ld (Tn ?_)
   exact ⟨hk4, S.nf [true, true] rfl (subR rfl)⟩
  ·iterate 5 (refine l_skip S rfl rfl rfl (neq_f hb1) rfl ?_ rfl;clear S;intro a S)
   iterate 5 (refine l_skipU S rfl rfl rfl rfl ?_;clear S;intro a S)
   refine l_skip S rfl rfl rfl (neq_f hb1) rfl ?_ rfl;clear S;intro a S
   refine lv S (rn_and_f ((decide ((Aa.Clubs.length : Int) = 0)) || (slices_Contains_string Aa.Clubs Ab.Club)) hb1 (S.tm rfl) rfl) rfl ?_;clear S;intro a S
   refine Ld (Tn ?_)
   exact ⟨Keep.refl _ _, S.nf [true, true] rfl (subR rfl)⟩
 clear S;rintro a w3 ⟨hk5, S⟩
 refine lv S (Rm (S.tm rfl)) rfl ?_;clear S;intro a S
 refine f_cutm 8 (fun a w' => Keep [] w3 w' ∧ Sx w [] nov [.blk b2 (GStep.enc Ab) 35, .blk b1 [sV Aa.Key, sV Aa.Race, u1.val, iV Aa.Young, iV Aa.Old] 56] [(31, bV (((decide (Ab.Race = Aa.Race)) && ((decide ((Aa.Clubs.length : Int) = 0)) || (slices_Contains_string Aa.Clubs Ab.Club))) && (words_Within Ab.Age Aa.Young Aa.Old)))] 32 a w') ?_ ?_
 ·rcases Bool.eq_false_or_eq_true ((decide (Ab.Race = Aa.Race)) && ((decide ((Aa.Clubs.length : Int) = 0)) || (slices_Contains_string Aa.Clubs Ab.Club))) with hb3 | hb3
  ·refine l_want S rfl rfl rfl hb3 (lv S (rn_fld fa_35_6 (S.tm rfl)) rfl ?_);clear S;intro a S
   refine l_want S rfl rfl rfl hb3 (lv S (rn_load Tryz.isAgg3 (S.tm rfl) (S.cell (i := 0) rfl rfl)) rfl ?_);clear S;intro a S
   refine l_want S rfl rfl rfl hb3 (lv S (rn_fld fa_56_3 (S.tm rfl)) rfl ?_);clear S;intro a S
   refine l_want S rfl rfl rfl hb3 (lv S (rn_load Tryz.isAgg3 (S.tm rfl) (S.cell (i := 1) rfl rfl)) rfl ?_);clear S;intro a S
   refine l_want S rfl rfl rfl hb3 (lv S (rn_fld fa_56_4 (S.tm rfl)) rfl ?_);clear S;intro a S
   refine l_want S rfl rfl rfl hb3 (lv S (rn_load Tryz.isAgg3 (S.tm rfl) (S.cell (i := 1) rfl rfl)) rfl ?_);clear S;intro a S
   refine l_want S rfl rfl rfl hb3 (l_enter S (fun _ => run_call (vs := [iV Ab.Age, iV Aa.Young, iV Aa.Old]) ⟨(S.tm rfl), (S.tm rfl), (S.tm rfl), trivial⟩ Tryz.call52) (words_Within_ok _ Ab.Age Aa.Young Aa.Old _ rfl) rfl ?_);clear S;intro v2 a w7 hv2 hk6 hn2 S
   subst hv2
   refine lv S (rn_and_t hb3 (S.tm rfl) (S.tm rfl)) rfl ?_;clear S;intro a S
   refine Ld (Tn ?_)
   exact ⟨hk6, S.nf [true, true] rfl ⟨rfl, trivial⟩⟩
  ·iterate 7 (refine l_skip S rfl rfl rfl (neq_f hb3) rfl ?_ rfl;clear S;intro a S)
   refine lv S (rn_and_f (words_Within Ab.Age Aa.Young Aa.Old) hb3 (S.tm rfl) rfl) rfl ?_;clear S;intro a S
   refine Ld (Tn ?_)
   exact ⟨Keep.refl _ _, S.nf [true, true] rfl ⟨rfl, trivial⟩⟩
 clear S;rintro a w6 ⟨hk7, S⟩
 refine lv S (Ra (S.tm rfl)) rfl ?_;clear S;intro a S
 refine Ld (Tn (wp_ret ?_))
 subst h
 exact f_ret S Tryz.results63 rfl rfl
theorem record_best_ok (w : World) (Aa : GKind) (Bv : R56) (Cb : rel_56 (view w []) Aa Bv) (Cq : Nat) (Ba : GStep) (Bu : Bool) (Co : Bool) (Cc : (view w []) Cq = some (.cells [iV Ba.At, iV Ba.Kind, sV Ba.Id, sV Ba.Who, sV Ba.Club, sV Ba.Race, iV Ba.Age, iV Ba.Time, bV Bu, bV Co].toArray 92 (0, 0))) (r : GBest) (h : record_best Aa Ba Bu Co = r) :
    Calls Tryz.prog 70 [.agg (R56.enc Bv).toArray, .pointer (some ⟨Cq, 0, none⟩)].toArray w (Ret w [] fun _ v _ => v = .agg (GBest.enc r).toArray) := by
 obtain ⟨u1, rfl, hs1⟩ := Cb
 refine f_enter [] [] Tryz.func70 rfl Tryz.ntmps70 rfl (by simp) (by simp [fps]) (by simp [fps]) fun a S => ?_
 unfold record_best at h
 replace S := S.nk [] [(0, .agg #[sV Aa.Key, sV Aa.Race, u1.val, iV Aa.Young, iV Aa.Old]), (1, .pointer (some ⟨Cq, 0, none⟩))] [] rfl (subR rfl)
 refine Fs (Fg (l_box S (S.tm rfl) (cs := [sV Aa.Key, sV Aa.Race, u1.val, iV Aa.Young, iV Aa.Old]) rfl rfl ?_));clear S;intro a w1 b1 hz1 hk1 S
 refine l_alloc S Tryz.zeroValue47 (cs := [sV k_empty, sV k_empty, sV k_empty, iV 0, iV 0, bV false]) rfl rfl ?_;clear S;intro a w2 b2 hz2 hk2 S
 refine Ld (Tn (Fs (d_region [] ([b2]) Tryz.mixed S rfl (by kernel_rfl) ?_)));clear S;intro w4 hk4 hsel S
 refine d_quiet 0 S hsel rfl rfl rfl (by kernel_rfl) (by kernel_rfl) rfl (fun _ hw => (rn_fld fa_56_0 (S.tm rfl))) ?_;clear S;intro a S
 refine d_quiet 1 S hsel rfl rfl rfl (by kernel_rfl) (by kernel_rfl) rfl (fun _ hw => (rn_ld Tryz.isAgg9 (off := 0) (o := 0) (S.tm rfl) ((S.blk_mem (i := 1) (cells := [sV Aa.Key, sV Aa.Race, u1.val, iV Aa.Young, iV Aa.Old]) (b := b1) (T := 56) rfl (ne_fp (i := 0) (j := 1) (e := .blk b2 (GBest.enc (GBest.mk k_empty k_empty k_empty 0 0 false)) 47) (e' := .blk b1 [sV Aa.Key, sV Aa.Race, u1.val, iV Aa.Young, iV Aa.Old] 56) S rfl rfl rfl)).kept hw) rfl)) ?_;clear S;intro a S
 refine d_quiet 2 S hsel rfl rfl rfl (by kernel_rfl) (by kernel_rfl) rfl (fun _ hw => (Rm (S.tm rfl))) ?_;clear S;intro a S
 refine d_quiet 3 S hsel rfl rfl rfl (by kernel_rfl) (by kernel_rfl) rfl (fun _ hw => (rn_nilCheck (S.tm rfl))) ?_;clear S;intro a S
 refine d_quiet 4 S hsel rfl rfl rfl (by kernel_rfl) (by kernel_rfl) rfl (fun _ hw => (rn_fld fa_92_0 (S.tm rfl))) ?_;clear S;intro a S
 refine d_quiet 5 S hsel rfl rfl rfl (by kernel_rfl) (by kernel_rfl) rfl (fun _ hw => (rn_fld fa_35_2 (S.tm rfl))) ?_;clear S;intro a S
 refine d_quiet 6 S hsel rfl rfl rfl (by kernel_rfl) (by kernel_rfl) rfl (fun _ hw => (rn_ld Tryz.isAgg9 (off := 0) (o := 2) (S.tm rfl) (((mem_blk Cc).mono (S.le_arg (fp_sub (i := 0) (e := .blk b2 (GBest.enc (GBest.mk k_empty k_empty k_empty 0 0 false)) 47) rfl))).kept hw) rfl)) ?_;clear S;intro a S
 refine d_quiet 7 S hsel rfl rfl rfl (by kernel_rfl) (by kernel_rfl) rfl (fun _ hw => (Rm (S.tm rfl))) ?_;clear S;intro a S
 refine d_quiet 8 S hsel rfl rfl rfl (by kernel_rfl) (by kernel_rfl) rfl (fun _ hw => (rn_nilCheck (S.tm rfl))) ?_;clear S;intro a S
 refine d_quiet 9 S hsel rfl rfl rfl (by kernel_rfl) (by kernel_rfl) rfl (fun _ hw => (rn_fld fa_92_0 (S.tm rfl))) ?_;clear S;intro a S
 refine d_quiet 10 S hsel rfl rfl rfl (by kernel_rfl) (by kernel_rfl) rfl (fun _ hw => (rn_fld fa_35_3 (S.tm rfl))) ?_;clear S;intro a S
 refine d_quiet 11 S hsel rfl rfl rfl (by kernel_rfl) (by kernel_rfl) rfl (fun _ hw => (rn_ld Tryz.isAgg9 (off := 0) (o := 3) (S.tm rfl) (((mem_blk Cc).mono (S.le_arg (fp_sub (i := 0) (e := .blk b2 (GBest.enc (GBest.mk k_empty k_empty k_empty 0 0 false)) 47) rfl))).kept hw) rfl)) ?_;clear S;intro a S
 refine d_quiet 12 S hsel rfl rfl rfl (by kernel_rfl) (by kernel_rfl) rfl (fun _ hw => (Rm (S.tm rfl))) ?_;clear S;intro a S
 refine d_quiet 13 S hsel rfl rfl rfl (by kernel_rfl) (by kernel_rfl) rfl (fun _ hw => (rn_nilCheck (S.tm rfl))) ?_;clear S;intro a S
 refine d_quiet 14 S hsel rfl rfl rfl (by kernel_rfl) (by kernel_rfl) rfl (fun _ hw => (rn_fld fa_92_0 (S.tm rfl))) ?_;clear S;intro a S
 refine d_quiet 15 S hsel rfl rfl rfl (by kernel_rfl) (by kernel_rfl) rfl (fun _ hw => (rn_fld fa_35_7 (S.tm rfl))) ?_;clear S;intro a S
 refine d_quiet 16 S hsel rfl rfl rfl (by kernel_rfl) (by kernel_rfl) rfl (fun _ hw => (rn_ld Tryz.isAgg3 (off := 0) (o := 7) (S.tm rfl) (((mem_blk Cc).mono (S.le_arg (fp_sub (i := 0) (e := .blk b2 (GBest.enc (GBest.mk k_empty k_empty k_empty 0 0 false)) 47) rfl))).kept hw) rfl)) ?_;clear S;intro a S
 refine d_quiet 17 S hsel rfl rfl rfl (by kernel_rfl) (by kernel_rfl) rfl (fun _ hw => (Rm (S.tm rfl))) ?_;clear S;intro a S
 refine d_quiet 18 S hsel rfl rfl rfl (by kernel_rfl) (by kernel_rfl) rfl (fun _ hw => (rn_nilCheck (S.tm rfl))) ?_;clear S;intro a S
 refine d_quiet 19 S hsel rfl rfl rfl (by kernel_rfl) (by kernel_rfl) rfl (fun _ hw => (rn_fld fa_92_0 (S.tm rfl))) ?_;clear S;intro a S
 refine d_quiet 20 S hsel rfl rfl rfl (by kernel_rfl) (by kernel_rfl) rfl (fun _ hw => (rn_fld fa_35_0 (S.tm rfl))) ?_;clear S;intro a S
 refine d_quiet 21 S hsel rfl rfl rfl (by kernel_rfl) (by kernel_rfl) rfl (fun _ hw => (rn_ld Tryz.isAgg3 (off := 0) (o := 0) (S.tm rfl) (((mem_blk Cc).mono (S.le_arg (fp_sub (i := 0) (e := .blk b2 (GBest.enc (GBest.mk k_empty k_empty k_empty 0 0 false)) 47) rfl))).kept hw) rfl)) ?_;clear S;intro a S
 refine d_quiet 22 S hsel rfl rfl rfl (by kernel_rfl) (by kernel_rfl) rfl (fun _ hw => (Rm (S.tm rfl))) ?_;clear S;intro a S
 refine d_quiet 23 S hsel rfl rfl rfl (by kernel_rfl) (by kernel_rfl) rfl (fun _ hw => (rn_nilCheck (S.tm rfl))) ?_;clear S;intro a S
 refine d_quiet 24 S hsel rfl rfl rfl (by kernel_rfl) (by kernel_rfl) rfl (fun _ hw => (rn_fld fa_92_1 (S.tm rfl))) ?_;clear S;intro a S
 refine d_quiet 25 S hsel rfl rfl rfl (by kernel_rfl) (by kernel_rfl) rfl (fun _ hw => (rn_ld Tryz.isAgg4 (off := 0) (o := 8) (S.tm rfl) (((mem_blk Cc).mono (S.le_arg (fp_sub (i := 0) (e := .blk b2 (GBest.enc (GBest.mk k_empty k_empty k_empty 0 0 false)) 47) rfl))).kept hw) rfl)) ?_;clear S;intro a S
 refine d_quiet 26 S hsel rfl rfl rfl (by kernel_rfl) (by kernel_rfl) rfl (fun _ hw => (rn_bld bt_47 (pv := [(0, sV Aa.Key), (1, sV Ba.Id), (2, sV Ba.Who), (3, iV Ba.Time), (4, iV Ba.At), (5, bV Bu)]) ⟨rfl, (S.tm rfl), rfl, (S.tm rfl), rfl, (S.tm rfl), rfl, (S.tm rfl), rfl, (S.tm rfl), rfl, (S.tm rfl), trivial⟩ (cs := [sV Aa.Key, sV Ba.Id, sV Ba.Who, iV Ba.Time, iV Ba.At, bV Bu]) (by kernel_rfl))) ?_;clear S;intro a S
 refine d_loud1 27 (by kernel_rfl) rfl (l_store S (S.tm rfl) (S.tm rfl) (i := 0) (off := 0) rfl Tryz.sizeOf47 (vs := (GBest.enc (GBest.mk Aa.Key Ba.Id Ba.Who Ba.Time Ba.At Bu))) rfl rfl rfl rfl ?_);clear S;intro w5 hk5 S
 refine Ld (d_next hk5 (d_end (by kernel_rfl) ?_))
 clear hsel
 replace S := S.nk [.blk b2 (GBest.enc (GBest.mk Aa.Key Ba.Id Ba.Who Ba.Time Ba.At Bu)) 47] [(4, .pointer (some ⟨b2, 0, none⟩))] [true, false] rfl ⟨rfl, trivial⟩
 refine Tn (wp_ret ?_)
 subst h
 exact f_retG S (rs := [.cell 4 47]) (vs := [.agg #[sV Aa.Key, sV Ba.Id, sV Ba.Who, iV Ba.Time, iV Ba.At, bV Bu]]) Tryz.results70 ⟨(res_cell (off := 0) S rfl Tryz.isAgg47 Tryz.sizeOf47 rfl (S.cellsAt (i := 0) rfl)), trivial⟩ rfl rfl
set_option maxRecDepth 20000 in
theorem record_history_ok (w : World) (Aa : GKind) (Bv : R56) (Cb : rel_56 (view w []) Aa Bv) (Bb : Value) (Bh : List Grecord_swum) (Bw : List Nat) (Cd : Slc (view w []) 1 Bb (Bw.map RP.enc)) (Ce : All2 (rel_90 (view w [])) Bh Bw) (r : (List GBest)) (h : record_history Aa Bh = some r) :
    Calls Tryz.prog 46 [.agg (R56.enc Bv).toArray, Bb].toArray w (Ret w [] fun τ v _ => OwnV τ 47 6 v r.length (r.flatMap GBest.enc)) := by
 obtain ⟨u1, rfl, hs1⟩ := Cb
 refine f_enter [] [] Tryz.func46 rfl Tryz.ntmps46 rfl (by simp) (by simp [fps]) (by simp [fps]) fun a S => ?_
 unfold record_history at h
 replace S := S.nk [] [(0, .agg #[sV Aa.Key, sV Aa.Race, u1.val, iV Aa.Young, iV Aa.Old]), (1, Bb)] [] rfl (subR rfl)
 refine Fs (Fg (l_box S (S.tm rfl) (cs := [sV Aa.Key, sV Aa.Race, u1.val, iV Aa.Young, iV Aa.Old]) rfl rfl ?_));clear S;intro a w1 b1 hz1 hk1 S
 refine lv S (Ra rfl) rfl ?_;clear S;intro a S
 refine Ld (Tn (Fs (Fg (lv S (Ra rfl) rfl ?_))));clear S;intro a S
 replace S := S.nil 47 6
 refine Ld (Tn (Fs (Fs (Fg (lv S (Rm (S.tm rfl)) rfl ?_)))));clear S;intro a S
 refine lv S (rn_lenT sl_59 (S.tm rfl) (slc_lenD Cd Ce)) rfl ?_;clear S;intro a S
 refine lv S (Rm rfl) rfl ?_;clear S;intro a S
 refine Ld (Tn ?_)
 replace S := S.nk [.own (.slice none 0 0) 47 6 ([] : List GBest).length (([] : List GBest).flatMap GBest.enc), .blk b1 [sV Aa.Key, sV Aa.Race, u1.val, iV Aa.Young, iV Aa.Old] 56] [(2, .pointer (some ⟨b1, 0, none⟩)), (5, (.slice none 0 0)), (9, Bb), (10, iV (Bh.length : Int)), (11, iV 0)] [true, true] rfl (subR rfl)
 obtain ⟨j1, hj1, h⟩ := joinE h
 refine f_join (fun a w' => ∃ x1 : List GBest, ∃ v1 : Value, j1 x1 = some r ∧ Sx w [] nov [.own v1 47 6 x1.length (x1.flatMap GBest.enc), .blk b1 [sV Aa.Key, sV Aa.Race, u1.val, iV Aa.Young, iV Aa.Old] 56] [(5, v1)] 54 a w') ?_ ?_
 ·refine wp_block (f_loop (fun (ys1 : List Grecord_swum) a w' => ∃ i1 : Nat, ∃ x1 : List GBest, ∃ v1 : Value, (∃ dn, Bh = dn ++ ys1 ∧ dn.length = i1) ∧ record_history_l1 Aa j1 ys1 i1 x1 = some r ∧ Sx w [] nov [.own v1 47 6 x1.length (x1.flatMap GBest.enc), .blk b1 [sV Aa.Key, sV Aa.Race, u1.val, iV Aa.Young, iV Aa.Old] 56] [(2, .pointer (some ⟨b1, 0, none⟩)), (5, v1), (9, Bb), (10, iV (Bh.length : Int)), (11, iV (i1 : Int))] 54 a w') List.length Bh ⟨0, ([] : List GBest), (.slice none 0 0), ⟨[], rfl, rfl⟩, h, S.nf [true, true] rfl (subR rfl)⟩ ?_)
  clear S h;rintro ys1 a w2 ⟨i1, x1, v1, ⟨dn, hd1, hi1⟩, h, S⟩
  cases ys1 with
  | nil =>
   rw [record_history_l1.eq_1] at h
   refine Fs (Fg (lv S (rn_lss (S.tm rfl) (S.tm rfl)) rfl ?_));clear S;intro a S
   refine Ld ?_
   replace S := S.nk [.own v1 47 6 x1.length (x1.flatMap GBest.enc), .blk b1 [sV Aa.Key, sV Aa.Race, u1.val, iV Aa.Young, iV Aa.Old] 56] [(2, .pointer (some ⟨b1, 0, none⟩)), (5, v1), (9, Bb), (10, iV (Bh.length : Int)), (11, iV (i1 : Int)), (12, bV (decide ((i1 : Int) < (Bh.length : Int))))] [true, true] rfl (subR rfl)
   refine Tn (Fs (wp_cond_false ((S.tm rfl).trans (congrArg Value.bool (rng_nil hd1 hi1))) (wp_exit (then_x (then_x (x_same ?_))))))
   refine Tn ?_
   exact ⟨x1, v1, h, S.nf [true, true] rfl ⟨rfl, trivial⟩⟩
  | cons y1 ys1 =>
   rw [record_history_l1.eq_2] at h
   refine Fs (Fg (lv S (rn_lss (S.tm rfl) (S.tm rfl)) rfl ?_));clear S;intro a S
   refine Ld ?_
   replace S := S.nk [.own v1 47 6 x1.length (x1.flatMap GBest.enc), .blk b1 [sV Aa.Key, sV Aa.Race, u1.val, iV Aa.Young, iV Aa.Old] 56] [(2, .pointer (some ⟨b1, 0, none⟩)), (5, v1), (9, Bb), (10, iV (Bh.length : Int)), (11, iV (i1 : Int)), (12, bV (decide ((i1 : Int) < (Bh.length : Int))))] [true, true] rfl (subR rfl)
   refine Tn (Fs (wp_cond_true ((S.tm rfl).trans (congrArg Value.bool (rng_cons hd1 hi1))) (wp_skip (Tn (Fs ?_)))))
   obtain ⟨j2, hj2, h⟩ := joinE h
   refine f_join (fun a w' => ∃ x2 : List GBest, ∃ v2 : Value, j2 x2 = some r ∧ Sx w [] nov [.own v2 47 6 x2.length (x2.flatMap GBest.enc), .blk b1 [sV Aa.Key, sV Aa.Race, u1.val, iV Aa.Young, iV Aa.Old] 56] [(2, .pointer (some ⟨b1, 0, none⟩)), (5, v2), (9, Bb), (10, iV (Bh.length : Int)), (11, iV (i1 : Int))] 54 a w') ?_ ?_
   ·refine wp_block (Fs (Fg ?_))
    obtain ⟨r1, hg1, hl1⟩ := All2.at Ce (get_mid hd1 hi1)
    have hb1 := hl1
    obtain ⟨b2, o1, hm1, hr1⟩ := rn_indexT (a := a) (x := .tmp 9) (y := .tmp 11) (ty := 0) sl_59 Cd hg1 rfl (S.tm rfl) (S.tm rfl)
    refine lv S (hr1 _) rfl ?_;clear S;intro a S
    clear hr1
    refine lv S (rn_ld Tryz.isAgg90 (off := o1) (o := 0) (S.tm rfl) (hm1.at S.emb0) rfl) rfl ?_;clear S;intro a S
    refine lv S (Ra (S.tm rfl)) rfl ?_;clear S;intro a S
    refine Ld (Tn (Fs (Fs ?_)))
    obtain ⟨j3, hj3, h⟩ := joinE h
    refine f_join (fun a w' => ∃ x3 : Bool, j3 x3 = some r ∧ Sx w [] nov [.own v1 47 6 x1.length (x1.flatMap GBest.enc), .blk b1 [sV Aa.Key, sV Aa.Race, u1.val, iV Aa.Young, iV Aa.Old] 56] [(2, .pointer (some ⟨b1, 0, none⟩)), (5, v1), (7, .pointer (some ⟨r1, 0, none⟩)), (9, Bb), (10, iV (Bh.length : Int)), (11, iV (i1 : Int)), (27, bV x3)] 54 a w') ?_ ?_
    ·rcases Bool.eq_false_or_eq_true y1.void_ with hb2 | hb2
     ·replace h := iteT h hb2
      refine d_region [] ([]) Tryz.mixed S rfl (by kernel_rfl) ?_;clear S;intro w6 hk2 hsel S
      refine d_rest [0, 1, 2, 3, 4, 5, 6, 7, 8, 9, 10, 11, 12] hsel (by kernel_rfl) rfl ?_
      clear hsel
      refine s_lv S rfl (Rm (S.tm rfl)) rfl ?_;clear S;intro a S
      refine s_lv S rfl (rn_nilCheck (S.tm rfl)) rfl ?_;clear S;intro a S
      refine s_lv S rfl (rn_fld fa_92_2 (S.tm rfl)) rfl ?_;clear S;intro a S
      refine s_lv S rfl (rn_ld Tryz.isAgg4 (off := 0) (o := 9) (S.tm rfl) ((mem_blk hb1).at S.emb0) rfl) rfl ?_;clear S;intro a S
      refine s_lv S rfl (Rm (S.tm rfl)) rfl ?_;clear S;intro a S
      iterate 7 (refine s_skip S rfl rfl rfl rfl (neq_t hb2) rfl ?_ rfl;clear S;intro a S)
      refine s_lv S rfl (rn_pick_b hb2 (S.tm rfl) rfl) rfl ?_;clear S;intro a S
      refine s_done ?_
      replace S := S.nk [.own v1 47 6 x1.length (x1.flatMap GBest.enc), .blk b1 [sV Aa.Key, sV Aa.Race, u1.val, iV Aa.Young, iV Aa.Old] 56] [(2, .pointer (some ⟨b1, 0, none⟩)), (5, v1), (7, .pointer (some ⟨r1, 0, none⟩)), (9, Bb), (10, iV (Bh.length : Int)), (11, iV (i1 : Int)), (27, bV true)] [true, true] rfl (subR rfl)
      refine Tn ?_
      exact ⟨true, h, S.nf [true, true] rfl (subR rfl)⟩
     ·replace h := iteF h hb2
      refine d_region [] ([]) Tryz.mixed S rfl (by kernel_rfl) ?_;clear S;intro w8 hk4 hsel S
      refine d_quiet 0 S hsel rfl rfl rfl (by kernel_rfl) (by kernel_rfl) rfl (fun _ hw => (Rm (S.tm rfl))) ?_;clear S;intro a S
      refine d_quiet 1 S hsel rfl rfl rfl (by kernel_rfl) (by kernel_rfl) rfl (fun _ hw => (rn_nilCheck (S.tm rfl))) ?_;clear S;intro a S
      refine d_quiet 2 S hsel rfl rfl rfl (by kernel_rfl) (by kernel_rfl) rfl (fun _ hw => (rn_fld fa_92_2 (S.tm rfl))) ?_;clear S;intro a S
      refine d_quiet 3 S hsel rfl rfl rfl (by kernel_rfl) (by kernel_rfl) rfl (fun _ hw => (rn_ld Tryz.isAgg4 (off := 0) (o := 9) (S.tm rfl) (((mem_blk hb1).mono (S.le_arg nil_sub)).kept hw) rfl)) ?_;clear S;intro a S
      refine d_quiet 4 S hsel rfl rfl rfl (by kernel_rfl) (by kernel_rfl) rfl (fun _ hw => (Rm (S.tm rfl))) ?_;clear S;intro a S
      refine d_quiet_g 5 S hsel rfl rfl rfl rfl hb2 rfl rfl (by kernel_rfl) (by kernel_rfl) rfl (fun _ hw => (rn_ldA Tryz.isAgg56 Tryz.sizeOf56 (off := 0) (o := 0) (part := [sV Aa.Key, sV Aa.Race, u1.val, iV Aa.Young, iV Aa.Old]) rfl rfl (S.tm rfl) ((S.blk_mem (i := 1) (cells := [sV Aa.Key, sV Aa.Race, u1.val, iV Aa.Young, iV Aa.Old]) (b := b1) (T := 56) rfl (ne_nil (e' := .blk b1 [sV Aa.Key, sV Aa.Race, u1.val, iV Aa.Young, iV Aa.Old] 56))).kept hw))) ?_;clear S;intro a S
      refine d_quiet_g 6 S hsel rfl rfl rfl rfl hb2 rfl rfl (by kernel_rfl) (by kernel_rfl) rfl (fun _ hw => (Rm (S.tm rfl))) ?_;clear S;intro a S
      refine d_quiet_g 7 S hsel rfl rfl rfl rfl hb2 rfl rfl (by kernel_rfl) (by kernel_rfl) rfl (fun _ hw => (rn_nilCheck (S.tm rfl))) ?_;clear S;intro a S
      refine d_quiet_g 8 S hsel rfl rfl rfl rfl hb2 rfl rfl (by kernel_rfl) (by kernel_rfl) rfl (fun _ hw => (rn_fld fa_92_0 (S.tm rfl))) ?_;clear S;intro a S
      refine d_quiet_g 9 S hsel rfl rfl rfl rfl hb2 rfl rfl (by kernel_rfl) (by kernel_rfl) rfl (fun _ hw => (rn_ldA Tryz.isAgg35 Tryz.sizeOf35 (off := 0) (o := 0) (part := (GStep.enc y1.s_)) rfl rfl (S.tm rfl) (((mem_blk hb1).mono (S.le_arg nil_sub)).kept hw))) ?_;clear S;intro a S
      refine d_loud1 10 (by kernel_rfl) rfl (l_want S rfl rfl rfl hb2 (l_enter S (fun _ => run_call (vs := [.agg (R56.enc (R56.mk Aa.Key Aa.Race u1 Aa.Young Aa.Old)).toArray, .agg (GStep.enc y1.s_).toArray]) ⟨(S.tm rfl), (S.tm rfl), trivial⟩ Tryz.call63) (record_isFor_ok _ Aa (R56.mk Aa.Key Aa.Race u1 Aa.Young Aa.Old) ⟨u1, rfl, (hs1.mono (S.le_arg nil_sub))⟩ y1.s_ _ rfl) rfl ?_));clear S;intro v4 a w9 hv2 hk5 hn2 S
      subst hv2
      refine Ld (d_next hk5 (d_rest [11, 12] hsel (by kernel_rfl) rfl ?_))
      clear hsel
      refine s_want S rfl rfl rfl rfl hb2 (s_lv0 S (rn_not (S.tm rfl)) rfl ?_);clear S;intro a S
      refine s_lv S rfl (rn_pick_c hb2 (S.tm rfl) (S.tm rfl)) rfl ?_;clear S;intro a S
      refine s_done ?_
      replace S := S.nk [.own v1 47 6 x1.length (x1.flatMap GBest.enc), .blk b1 [sV Aa.Key, sV Aa.Race, u1.val, iV Aa.Young, iV Aa.Old] 56] [(2, .pointer (some ⟨b1, 0, none⟩)), (5, v1), (7, .pointer (some ⟨r1, 0, none⟩)), (9, Bb), (10, iV (Bh.length : Int)), (11, iV (i1 : Int)), (20, .agg #[sV Aa.Key, sV Aa.Race, u1.val, iV Aa.Young, iV Aa.Old]), (21, .pointer (some ⟨r1, 0, none⟩)), (22, .pointer (some ⟨r1, 0, none⟩)), (23, .pointer (some ⟨r1, 0, none⟩)), (24, .agg (GStep.enc y1.s_).toArray), (25, bV (record_isFor Aa y1.s_)), (26, bV (!(record_isFor Aa y1.s_))), (27, bV (!(record_isFor Aa y1.s_)))] [true, true] rfl (subR rfl)
      refine Tn ?_
      exact ⟨!(record_isFor Aa y1.s_), h, S.nf [true, true] rfl (subR rfl)⟩
    clear S h;rintro a w5 ⟨x3, h, S⟩;rw [hj3] at h;clear hj3 j3
    refine Tn (f_cond (S.tm rfl) (fun hb3 => ?_) (fun hb3 => ?_))
    ·replace h := iteT h hb3
     refine wp_exit (then_x (x_same (Tn ?_)))
     exact ⟨x1, v1, h, S.nf [true, true] rfl (subR rfl)⟩
    ·replace h := iteF h hb3
     refine wp_skip (Tn (Fs (Fg (lv S (Rm (S.tm rfl)) rfl ?_))));clear S;intro a S
     refine lv S (rn_lenT sl_37 (S.tm rfl) (own_len (S.own_at (i := 0) rfl))) rfl ?_;clear S;intro a S
     refine lv S (Ra (S.tm rfl)) rfl ?_;clear S;intro a S
     refine Ld (Tn (Fs (d_region [] ([]) Tryz.mixed S rfl (by kernel_rfl) ?_)));clear S;intro w10 hk6 hsel S
     refine d_rest [0, 1, 2, 3, 4, 5, 6, 7, 8, 9, 10, 11, 12, 13, 14, 15] hsel (by kernel_rfl) rfl ?_
     clear hsel
     refine s_lv S rfl (Rm (S.tm rfl)) rfl ?_;clear S;intro a S
     refine s_lv S rfl (rn_eql (S.tm rfl) rfl) rfl ?_;clear S;intro a S
     refine s_lv S rfl (Rm (S.tm rfl)) rfl ?_;clear S;intro a S
     obtain ⟨j4, hj4, h⟩ := joinE h
     refine s_cutm 13 (fun a w' => ∃ c1, j4 c1 = some r ∧ Keep [] w10 w' ∧ Sx w [] nov [.own v1 47 6 x1.length (x1.flatMap GBest.enc), .blk b1 [sV Aa.Key, sV Aa.Race, u1.val, iV Aa.Young, iV Aa.Old] 56] [(2, .pointer (some ⟨b1, 0, none⟩)), (5, v1), (7, .pointer (some ⟨r1, 0, none⟩)), (9, Bb), (10, iV (Bh.length : Int)), (11, iV (i1 : Int)), (45, bV c1)] 54 a w') ?_ ?_
     ·rcases Bool.eq_false_or_eq_true (decide ((x1.length : Int) = 0)) with hb4 | hb4
      ·replace h := iteT h hb4
       iterate 12 (refine s_skip S rfl rfl rfl rfl (neq_t hb4) rfl ?_ rfl;clear S;intro a S)
       refine s_lv S rfl (rn_or_t true hb4 (S.tm rfl) rfl) rfl ?_;clear S;intro a S
       refine s_done ?_
       exact ⟨_, h, Keep.refl _ _, S.nf [true, true] rfl (subR rfl)⟩
      ·replace h := iteF h hb4
       refine s_want S rfl rfl rfl rfl hb4 (s_lv0 S (Rm (S.tm rfl)) rfl ?_);clear S;intro a S
       refine s_want S rfl rfl rfl rfl hb4 (s_lv0 S (rn_nilCheck (S.tm rfl)) rfl ?_);clear S;intro a S
       refine s_want S rfl rfl rfl rfl hb4 (s_lv0 S (rn_fld fa_92_0 (S.tm rfl)) rfl ?_);clear S;intro a S
       refine s_want S rfl rfl rfl rfl hb4 (s_lv0 S (rn_fld fa_35_7 (S.tm rfl)) rfl ?_);clear S;intro a S
       refine s_want S rfl rfl rfl rfl hb4 (s_lv0 S (rn_ld Tryz.isAgg3 (off := 0) (o := 7) (S.tm rfl) ((mem_blk hb1).at S.emb0) rfl) rfl ?_);clear S;intro a S
       refine s_want S rfl rfl rfl rfl hb4 (s_lv0 S (Rm (S.tm rfl)) rfl ?_);clear S;intro a S
       refine s_want S rfl rfl rfl rfl hb4 (s_lv0 S (Rm (S.tm rfl)) rfl ?_);clear S;intro a S
       refine s_want S rfl rfl rfl rfl hb4 (s_lv0 S (rn_sub (S.tm rfl) rfl) rfl ?_);clear S;intro a S
       refine s_want S rfl rfl rfl rfl hb4 ?_
       obtain ⟨hc1, h⟩ := chkE h
       obtain ⟨b3, hg2, hr2⟩ := rn_indexS (a := a) (x := .tmp 38) (y := .tmp 40) (ty := 0) sl_37 GBest.enc_ok S (i := 0) rfl (inB_get hc1).1 (inB_get hc1).2 (S.tm rfl) (S.tm rfl)
       refine s_lv0 S (hr2 _) rfl ?_;clear S;intro a S
       clear hr2
       refine s_want S rfl rfl rfl rfl hb4 (s_lv0 S (rn_fld fa_47_3 (S.tm rfl)) rfl ?_);clear S;intro a S
       refine s_want S rfl rfl rfl rfl hb4 (s_lv0 S (rn_ld Tryz.isAgg3 (off := ((W ((x1.length : Int) - 1)).toNat) * 6) (o := 3) (S.tm rfl) (own_cells GBest.enc_ok S (i := 0) rfl hg2 (inB_get hc1).1) rfl) rfl ?_);clear S;intro a S
       refine s_want S rfl rfl rfl rfl hb4 (s_lv0 S (rn_leq (S.tm rfl) (S.tm rfl)) rfl ?_);clear S;intro a S
       refine s_lv S rfl (rn_or_f hb4 (S.tm rfl) (S.tm rfl)) rfl ?_;clear S;intro a S
       refine s_done ?_
       exact ⟨_, h, Keep.refl _ _, S.nf [true, true] rfl (subR rfl)⟩
     clear S h;rintro a w11 ⟨c1, h, hk7, S⟩;rw [hj4] at h;clear hj4 j4
     refine s_done ?_
     replace S := S.nk [.own v1 47 6 x1.length (x1.flatMap GBest.enc), .blk b1 [sV Aa.Key, sV Aa.Race, u1.val, iV Aa.Young, iV Aa.Old] 56] [(2, .pointer (some ⟨b1, 0, none⟩)), (5, v1), (7, .pointer (some ⟨r1, 0, none⟩)), (9, Bb), (10, iV (Bh.length : Int)), (11, iV (i1 : Int)), (45, bV c1)] [true, true] rfl (subR rfl)
     refine Tn ?_
     obtain ⟨j5, hj5, h⟩ := joinE h
     refine f_join (fun a w' => ∃ x4 : List GBest, ∃ v5 : Value, j5 x4 = some r ∧ Sx w [] nov [.own v5 47 6 x4.length (x4.flatMap GBest.enc), .blk b1 [sV Aa.Key, sV Aa.Race, u1.val, iV Aa.Young, iV Aa.Old] 56] [(2, .pointer (some ⟨b1, 0, none⟩)), (5, v5), (9, Bb), (10, iV (Bh.length : Int)), (11, iV (i1 : Int))] 54 a w') ?_ ?_
     ·refine f_cond (S.tm rfl) (fun hb5 => ?_) (fun hb5 => ?_)
      ·replace h := iteT h hb5
       refine Fg (lv S (Rm (S.tm rfl)) rfl ?_);clear S;intro a S
       refine lv S (rn_ldA Tryz.isAgg56 Tryz.sizeOf56 (off := 0) (o := 0) (part := [sV Aa.Key, sV Aa.Race, u1.val, iV Aa.Young, iV Aa.Old]) rfl rfl (S.tm rfl) (S.cellsAt (i := 1) rfl)) rfl ?_;clear S;intro a S
       refine lv S (Rm (S.tm rfl)) rfl ?_;clear S;intro a S
       refine l_enter S (fun _ => run_call (vs := [.agg (R56.enc (R56.mk Aa.Key Aa.Race u1 Aa.Young Aa.Old)).toArray, .pointer (some ⟨r1, 0, none⟩)]) ⟨(S.tm rfl), (S.tm rfl), trivial⟩ Tryz.call70) (record_best_ok _ Aa (R56.mk Aa.Key Aa.Race u1 Aa.Young Aa.Old) ⟨u1, rfl, (hs1.mono (S.le_arg nil_sub))⟩ r1 y1.s_ y1.sure_ y1.void_ ((S.le_arg nil_sub) _ _ hb1) _ rfl) rfl ?_;clear S;intro v6 a w13 hv3 hk8 hn3 S
       subst hv3
       refine l_buildSlice S Tryz.underlying37 Tryz.sizeOf47 Tryz.zeroValue47 rfl rfl (pv := [(0, .agg (GBest.enc (record_best Aa y1.s_ y1.sure_ y1.void_)).toArray)]) ⟨rfl, (S.tm rfl), trivial⟩ (cs := [sV ((record_best Aa y1.s_ y1.sure_ y1.void_).Kind), sV ((record_best Aa y1.s_ y1.sure_ y1.void_).Id), sV ((record_best Aa y1.s_ y1.sure_ y1.void_).Who), iV ((record_best Aa y1.s_ y1.sure_ y1.void_).Time), iV ((record_best Aa y1.s_ y1.sure_ y1.void_).Since), bV ((record_best Aa y1.s_ y1.sure_ y1.void_).Sure)]) (by kernel_rfl) rfl ?_;clear S;intro a w14 b4 hz2 hk9 S
       obtain ⟨hc2, h⟩ := chkE h
       refine l_appendT sl_37 GBest.enc_ok S (S.tm rfl) (i := 1) rfl (S.tm rfl) (j := 0) rfl (ys := [(record_best Aa y1.s_ y1.sure_ y1.void_)]) rfl rfl rfl rfl (by have := room_lt hc2;omega) rfl ?_;clear S;intro v7 a w15 hk10 S
       refine lv S (Ra (S.tm rfl)) rfl ?_;clear S;intro a S
       refine Ld (Tn ?_)
       exact ⟨(x1 ++ [(record_best Aa y1.s_ y1.sure_ y1.void_)]), v7, h, S.nf [false, true, true] rfl (subR rfl)⟩
      ·replace h := iteF h hb5
       refine wp_skip (Tn ?_)
       exact ⟨x1, v1, h, S.nf [true, true] rfl (subR rfl)⟩
     clear S h;rintro a w12 ⟨x4, v5, h, S⟩;rw [hj5] at h;clear hj5 j5
     refine blk_n (Tn ?_)
     exact ⟨x4, v5, h, S.nf [true, true] rfl (subR rfl)⟩
   clear S h;rintro a w4 ⟨x2, v2, h, S⟩;rw [hj2] at h;clear hj2 j2
   refine Tn (Fg (lv S (rn_add (S.tm rfl) rfl) rfl ?_));clear S;intro a S
   refine lv S (Rm (S.tm rfl)) rfl ?_;clear S;intro a S
   refine Ld (Tn ?_)
   exact ⟨ys1, ⟨i1 + 1, x2, v2, ⟨_, (hd1).trans (List.append_cons _ _ _), by simp [hi1]⟩, h, S.nf [true, true] rfl ⟨rfl, rfl, rfl, rfl, (congrArg (fun z => some (Value.int .i64 z)) (rng_next hd1 hi1 (slc_maxD Cd Ce))), trivial⟩⟩, Nat.lt_succ_self _⟩
 clear S h;rintro a w3 ⟨x1, v1, h, S⟩;rw [hj1] at h;clear hj1 j1
 refine Tn (Fs (Fg (lv S (Rm (S.tm rfl)) rfl ?_)));clear S;intro a S
 refine lv S (Ra (S.tm rfl)) rfl ?_;clear S;intro a S
 refine Ld (Tn (wp_ret ?_))
 obtain rfl := Option.some.inj h
 exact f_ret S Tryz.results46 rfl (own_retT S (i := 0) rfl rfl)
set_option maxRecDepth 20000 in
theorem record_record_ok (w : World) (Aa : GKind) (Bv : R56) (Cb : rel_56 (view w []) Aa Bv) (Bb : Value) (Bh : List Grecord_swum) (Bw : List Nat) (Cd : Slc (view w []) 1 Bb (Bw.map RP.enc)) (Ce : All2 (rel_90 (view w [])) Bh Bw) (r : (List GBest)) (h : record_record Aa Bh = some r) :
    Calls Tryz.prog 27 [.agg (R56.enc Bv).toArray, Bb].toArray w (Ret w [] fun τ v _ => Slc τ 6 v (r.map GBest.enc)) := by
 obtain ⟨u1, rfl, hs1⟩ := Cb
 refine f_enter [] [] Tryz.func27 rfl Tryz.ntmps27 rfl (by simp) (by simp [fps]) (by simp [fps]) fun a S => ?_
 unfold record_record at h
 replace S := S.nk [] [(0, .agg #[sV Aa.Key, sV Aa.Race, u1.val, iV Aa.Young, iV Aa.Old]), (1, Bb)] [] rfl (subR rfl)
 refine Fs (Fg (l_box S (S.tm rfl) (cs := [sV Aa.Key, sV Aa.Race, u1.val, iV Aa.Young, iV Aa.Old]) rfl rfl ?_));clear S;intro a w1 b1 hz1 hk1 S
 refine lv S (Ra rfl) rfl ?_;clear S;intro a S
 refine Ld (Tn (Fs (Fg (lv S (rn_ldA Tryz.isAgg56 Tryz.sizeOf56 (off := 0) (o := 0) (part := [sV Aa.Key, sV Aa.Race, u1.val, iV Aa.Young, iV Aa.Old]) rfl rfl (S.tm rfl) (S.cellsAt (i := 0) rfl)) rfl ?_))));clear S;intro a S
 refine lv S (Rm (S.tm rfl)) rfl ?_;clear S;intro a S
 obtain ⟨r1, hr1, h⟩ := bindE h
 have hz2 := S.keep.size
 refine l_enter S (fun _ => run_call (vs := [.agg (R56.enc (R56.mk Aa.Key Aa.Race u1 Aa.Young Aa.Old)).toArray, Bb]) ⟨(S.tm rfl), (S.tm rfl), trivial⟩ Tryz.call46) (record_history_ok _ Aa (R56.mk Aa.Key Aa.Race u1 Aa.Young Aa.Old) ⟨u1, rfl, (hs1.mono (S.le_arg nil_sub))⟩ Bb Bh Bw (Cd.mono (S.le_arg nil_sub)) (rels_90 (S.le_arg nil_sub) Ce) _ hr1) rfl ?_;clear S;intro v1 a w2 hv1 hk2 hn1 S
 obtain ⟨φ1, hl1, hm1, S⟩ := S.see' hn1 hz2
 have hs2 := hv1.mono hm1
 refine lv S (Ra (S.tm rfl)) rfl ?_;clear S;intro a S
 refine Ld (Tn (Fs (Fs (Fg (lv S (Rm (S.tm rfl)) rfl ?_)))));clear S;intro a S
 refine lv S (rn_lenT sl_37 (S.tm rfl) (slc_len (ownV_slcT GBest.enc_ok hs2))) rfl ?_;clear S;intro a S
 refine lv S (Rm rfl) rfl ?_;clear S;intro a S
 refine Ld (Tn ?_)
 replace S := S.nk [] [(5, v1), (11, v1), (12, iV (r1.length : Int)), (13, iV 0)] [false] rfl (subR rfl)
 obtain ⟨j1, hj1, h⟩ := joinE h
 refine f_join (fun a w' => j1 = some r ∧ Sx w [] φ1 [] [] 32 a w') ?_ ?_
 ·refine wp_block (f_loop (fun (ys1 : List GBest) a w' => ∃ i1 : Nat, (∃ dn, r1 = dn ++ ys1 ∧ dn.length = i1) ∧ record_record_l1 r1 j1 ys1 i1 = some r ∧ Sx w [] φ1 [] [(5, v1), (11, v1), (12, iV (r1.length : Int)), (13, iV (i1 : Int))] 32 a w') List.length r1 ⟨0, ⟨[], rfl, rfl⟩, h, S.nf [] rfl (subR rfl)⟩ ?_)
  clear S h;rintro ys1 a w3 ⟨i1, ⟨dn, hd1, hi1⟩, h, S⟩
  cases ys1 with
  | nil =>
   rw [record_record_l1.eq_1] at h
   refine Fs (Fg (lv S (rn_lss (S.tm rfl) (S.tm rfl)) rfl ?_));clear S;intro a S
   refine Ld ?_
   replace S := S.nk [] [(5, v1), (11, v1), (12, iV (r1.length : Int)), (13, iV (i1 : Int)), (14, bV (decide ((i1 : Int) < (r1.length : Int))))] [] rfl (subR rfl)
   refine Tn (Fs (wp_cond_false ((S.tm rfl).trans (congrArg Value.bool (rng_nil hd1 hi1))) (wp_exit (then_x (then_x (x_same ?_))))))
   refine Tn ?_
   exact ⟨h, S.nf [] rfl trivial⟩
  | cons y1 ys1 =>
   rw [record_record_l1.eq_2] at h
   refine Fs (Fg (lv S (rn_lss (S.tm rfl) (S.tm rfl)) rfl ?_));clear S;intro a S
   refine Ld ?_
   replace S := S.nk [] [(5, v1), (11, v1), (12, iV (r1.length : Int)), (13, iV (i1 : Int)), (14, bV (decide ((i1 : Int) < (r1.length : Int))))] [] rfl (subR rfl)
   refine Tn (Fs (wp_cond_true ((S.tm rfl).trans (congrArg Value.bool (rng_cons hd1 hi1))) (wp_skip (Tn (Fs (wp_block ?_))))))
   refine Fs (Fg (lv S (Rm (S.tm rfl)) rfl ?_));clear S;intro a S
   obtain ⟨b2, o1, hm2, hr2⟩ := rn_indexT (a := a) (x := .tmp 11) (y := .tmp 13) (ty := 0) sl_37 (ownV_slcT GBest.enc_ok hs2) (get_mid hd1 hi1) rfl (S.tm rfl) (S.tm rfl)
   refine lv S (hr2 _) rfl ?_;clear S;intro a S
   clear hr2
   refine lv S (rn_ldA Tryz.isAgg47 Tryz.sizeOf47 (off := o1) (o := 0) (part := (GBest.enc y1)) rfl rfl (S.tm rfl) (hm2.at S.emb)) rfl ?_;clear S;intro a S
   refine l_alloc S Tryz.zeroValue47 (cs := [sV k_empty, sV k_empty, sV k_empty, iV 0, iV 0, bV false]) rfl rfl ?_;clear S;intro a w5 b3 hz3 hk3 S
   refine lv S (Ra (S.tm rfl)) rfl ?_;clear S;intro a S
   refine l_store S (S.tm rfl) (S.tm rfl) (i := 0) (off := 0) rfl Tryz.sizeOf47 (vs := (GBest.enc y1)) rfl rfl rfl rfl ?_;clear S;intro w6 hk4 S
   refine Ld (Tn (Fs (d_region [] ([]) Tryz.mixed S rfl (by kernel_rfl) ?_)));clear S;intro w7 hk5 hsel S
   refine d_rest [0, 1, 2, 3, 4, 5, 6, 7, 8, 9] hsel (by kernel_rfl) rfl ?_
   clear hsel
   refine s_lv S rfl (rn_fld fa_47_3 (S.tm rfl)) rfl ?_;clear S;intro a S
   refine s_lv S rfl (rn_load Tryz.isAgg3 (S.tm rfl) (S.cell (i := 0) rfl rfl)) rfl ?_;clear S;intro a S
   refine s_lv S rfl (Rm (S.tm rfl)) rfl ?_;clear S;intro a S
   refine s_lv S rfl (Rm (S.tm rfl)) rfl ?_;clear S;intro a S
   refine s_lv S rfl (rn_lenT sl_37 (S.tm rfl) (slc_len (ownV_slcT GBest.enc_ok hs2))) rfl ?_;clear S;intro a S
   refine s_lv S rfl (rn_sub (S.tm rfl) rfl) rfl ?_;clear S;intro a S
   obtain ⟨hc1, h⟩ := chkE h
   obtain ⟨b4, o2, hm3, hr3⟩ := rn_indexT (a := a) (x := .tmp 20) (y := .tmp 23) (ty := 0) sl_37 (ownV_slcT GBest.enc_ok hs2) (inB_get hc1).1 (inB_get hc1).2 (S.tm rfl) (S.tm rfl)
   refine s_lv S rfl (hr3 _) rfl ?_;clear S;intro a S
   clear hr3
   refine s_lv S rfl (rn_fld fa_47_3 (S.tm rfl)) rfl ?_;clear S;intro a S
   refine s_lv S rfl (rn_ld Tryz.isAgg3 (off := o2) (o := 3) (S.tm rfl) (hm3.at S.emb) rfl) rfl ?_;clear S;intro a S
   refine s_lv S rfl (rn_eql (S.tm rfl) (S.tm rfl)) rfl ?_;clear S;intro a S
   refine s_done ?_
   replace S := S.nk [] [(5, v1), (6, iV (i1 : Int)), (11, v1), (12, iV (r1.length : Int)), (13, iV (i1 : Int)), (27, bV (decide (y1.Time = ((nth r1 (W ((r1.length : Int) - 1))).Time))))] [false] rfl (subR rfl)
   refine Tn (f_cond (S.tm rfl) (fun hb1 => ?_) (fun hb1 => ?_))
   ·replace h := iteT h hb1
    refine Fs (Fg (lv S (Rm (S.tm rfl)) rfl ?_));clear S;intro a S
    refine lv S (Rm (S.tm rfl)) rfl ?_;clear S;intro a S
    obtain ⟨hc2, h⟩ := chkE h
    obtain ⟨v2, hs3, hr4⟩ := rn_cutTl (a := a) (x := .tmp 28) (y := .tmp 29) (ty := 37) sl_37 (ownV_slcT GBest.enc_ok hs2) (S.tm rfl) (S.tm rfl) hc2
    refine lv S (hr4 _) rfl ?_;clear S;intro a S
    clear hr4
    refine lv S (Ra (S.tm rfl)) rfl ?_;clear S;intro a S
    refine Ld (Tn (wp_ret (blk_r (then_r (then_r (blk_r ?_))))))
    refine then_r (then_r ?_)
    obtain rfl := Option.some.inj h
    exact f_ret S Tryz.results27 rfl ((hs3).mono S.le_newer)
   ·replace h := iteF h hb1
    refine wp_skip (blk_n (Tn (Fg (lv S (rn_add (S.tm rfl) rfl) rfl ?_))));clear S;intro a S
    refine lv S (Rm (S.tm rfl)) rfl ?_;clear S;intro a S
    refine Ld (Tn ?_)
    exact ⟨ys1, ⟨i1 + 1, ⟨_, (hd1).trans (List.append_cons _ _ _), by simp [hi1]⟩, h, S.nf [] rfl ⟨rfl, rfl, rfl, (congrArg (fun z => some (Value.int .i64 z)) (rng_next hd1 hi1 (slc_max (ownV_slcT GBest.enc_ok hs2)))), trivial⟩⟩, Nat.lt_succ_self _⟩
 clear S h;rintro a w4 ⟨h, S⟩;rw [hj1] at h;clear hj1 j1
 refine Tn (Fs (Fg (lv S (Ra rfl) rfl ?_)));clear S;intro a S
 refine Ld (Tn (wp_ret ?_))
 obtain rfl := Option.some.inj h
 exact f_ret S Tryz.results27 rfl (slc_nilT _ _)
theorem record_All_ok (w : World) (Bo : Value) (Aa : List GKind) (Ca : List R56) (Cg : Slc (view w []) 5 Bo (Ca.map R56.enc)) (Ch : All2 (rel_56 (view w [])) Aa Ca) (V : Value) (Z : List GStep) (Ae : Slc (view w []) 8 V (Z.map GStep.enc)) (Aq : Int) (r : (List GBest) × Int) (h : record_All Aa Z Aq = some r) :
    Calls Tryz.prog 9 [Bo, V, iV Aq].toArray w (Ret w [] fun τ v _ => ∃ u1 : Value, v = .tuple #[u1, iV r.2] ∧ OwnV τ 47 6 u1 r.1.length (r.1.flatMap GBest.enc)) := by
 refine f_enter [] [] Tryz.func9 rfl Tryz.ntmps9 rfl (by simp) (by simp [fps]) (by simp [fps]) fun a S => ?_
 unfold record_All at h
 replace S := S.nk [] [(0, Bo), (1, V), (2, iV Aq)] [] rfl (subR rfl)
 refine Fs (Fg (lv S (Ra rfl) rfl ?_));clear S;intro a S
 refine lv S (Ra rfl) rfl ?_;clear S;intro a S
 refine Ld (Tn (Fs (Fs (Fg (lv S (Rm (S.tm rfl)) rfl ?_)))));clear S;intro a S
 refine lv S (Rm (S.tm rfl)) rfl ?_;clear S;intro a S
 obtain ⟨r1, hr1, h⟩ := bindE h
 refine l_enter S (fun _ => run_call (vs := [Bo, V]) ⟨(S.tm rfl), (S.tm rfl), trivial⟩ Tryz.call25) (record_checkBoth_ok _ Bo Aa Ca (Cg.mono (S.le_arg nil_sub)) (rels_56 (S.le_arg nil_sub) Ch) V Z (Ae.mono (S.le_arg nil_sub)) _ hr1) rfl ?_;clear S;intro v1 a w1 hv1 hk1 hn1 S
 subst hv1
 refine lv S (Ra (S.tm rfl)) rfl ?_;clear S;intro a S
 refine Ld (Tn (Fs (Fg (lv S (Rm (S.tm rfl)) rfl ?_))));clear S;intro a S
 refine lv S (rn_neq (S.tm rfl) rfl) rfl ?_;clear S;intro a S
 refine Ld (Tn (f_cond (S.tm rfl) (fun hb1 => ?_) (fun hb1 => ?_)))
 ·replace h := iteT h hb1
  refine Fs (Fg (lv S (Rm (S.tm rfl)) rfl ?_));clear S;intro a S
  refine lv S (Ra rfl) rfl ?_;clear S;intro a S
  refine lv S (Ra (S.tm rfl)) rfl ?_;clear S;intro a S
  refine Ld (Tn (wp_ret (then_r ?_)))
  obtain rfl := Option.some.inj h
  exact f_ret2 S Tryz.results9 rfl rfl ⟨_, rfl, (ownV_nil _ _ _)⟩
 ·replace h := iteF h hb1
  refine wp_skip (Tn (Fs (Fs (Fg (lv S (Rm (S.tm rfl)) rfl ?_)))));clear S;intro a S
  refine l_enter S (fun _ => run_call (vs := [iV Aq]) ⟨(S.tm rfl), trivial⟩ Tryz.call26) (words_IsMoment_ok _ Aq _ rfl) rfl ?_;clear S;intro v2 a w2 hv2 hk2 hn2 S
  subst hv2
  refine lv S (rn_not (S.tm rfl)) rfl ?_;clear S;intro a S
  refine Ld (Tn (f_cond (S.tm rfl) (fun hb2 => ?_) (fun hb2 => ?_)))
  ·replace h := iteT h hb2
   refine Fs (Fg (lv S (Ra rfl) rfl ?_));clear S;intro a S
   refine lv S (Ra rfl) rfl ?_;clear S;intro a S
   refine Ld (Tn (wp_ret (then_r ?_)))
   obtain rfl := Option.some.inj h
   exact f_ret2 S Tryz.results9 rfl rfl ⟨_, rfl, (ownV_nil _ _ _)⟩
  ·replace h := iteF h hb2
   refine wp_skip (Tn (Fs (Fg (lv S (Rm (S.tm rfl)) rfl ?_))));clear S;intro a S
   refine lv S (Rm (S.tm rfl)) rfl ?_;clear S;intro a S
   obtain ⟨r2, hr2, h⟩ := bindE h
   have hz1 := S.keep.size
   refine l_enter S (fun _ => run_call (vs := [V, iV Aq]) ⟨(S.tm rfl), (S.tm rfl), trivial⟩ Tryz.call23) (record_follow_ok _ V Z (Ae.mono (S.le_arg nil_sub)) Aq _ hr2) rfl ?_;clear S;intro v3 a w3 hv3 hk3 hn3 S
   obtain ⟨u1, u2, rfl, ho1, ho2⟩ := hv3
   obtain ⟨rs1, ho3, hr3⟩ := ho1
   obtain ⟨φ1, hl1, hm1, S⟩ := S.see' hn3 hz1
   have hs1 := ho3.mono hm1
   have hr4 := rels_90 hm1 hr3
   have hs2 := ho2.mono hm1
   refine lv S (Rm (S.tm rfl)) rfl ?_;clear S;intro a S
   refine lv S (rn_extract (S.tm rfl) rfl) rfl ?_;clear S;intro a S
   refine lv S (rn_extract (S.tm rfl) rfl) rfl ?_;clear S;intro a S
   refine lv S (Ra (S.tm rfl)) rfl ?_;clear S;intro a S
   refine lv S (Ra (S.tm rfl)) rfl ?_;clear S;intro a S
   refine Ld ?_
   replace S := S.nk [] [(0, Bo), (9, u1)] [] rfl (subR rfl)
   refine Tn (Fs (Fg (lv S (Ra rfl) rfl ?_)));clear S;intro a S
   replace S := S.nil 47 6
   refine Ld (Tn (Fs (Fs (Fg (lv S (Rm (S.tm rfl)) rfl ?_)))));clear S;intro a S
   refine lv S (rn_lenT sl_26 (S.tm rfl) (slc_lenD Cg Ch)) rfl ?_;clear S;intro a S
   refine lv S (Rm rfl) rfl ?_;clear S;intro a S
   refine Ld (Tn ?_)
   replace S := S.nk [.own (.slice none 0 0) 47 6 ([] : List GBest).length (([] : List GBest).flatMap GBest.enc)] [(9, u1), (11, (.slice none 0 0)), (29, Bo), (30, iV (Aa.length : Int)), (31, iV 0)] [true] rfl (subR rfl)
   obtain ⟨j1, hj1, h⟩ := joinE h
   refine f_join (fun a w' => ∃ x1 : List GBest, ∃ φ2 : View, ∃ v4 : Value, j1 x1 = some r ∧ View.le φ1 φ2 ∧ Sx w [] φ2 [.own v4 47 6 x1.length (x1.flatMap GBest.enc)] [(11, v4)] 42 a w') ?_ ?_
   ·refine wp_block (f_loop (fun (ys1 : List GKind) a w' => ∃ i1 : Nat, ∃ x1 : List GBest, ∃ φ2 : View, ∃ v4 : Value, (∃ dn, Aa = dn ++ ys1 ∧ dn.length = i1) ∧ record_All_l1 r2 j1 ys1 i1 x1 = some r ∧ View.le φ1 φ2 ∧ Sx w [] φ2 [.own v4 47 6 x1.length (x1.flatMap GBest.enc)] [(9, u1), (11, v4), (29, Bo), (30, iV (Aa.length : Int)), (31, iV (i1 : Int))] 42 a w') List.length Aa ⟨0, ([] : List GBest), φ1, (.slice none 0 0), ⟨[], rfl, rfl⟩, h, View.le_refl _, S.nf [true] rfl (subR rfl)⟩ ?_)
    clear S h;rintro ys1 a w4 ⟨i1, x1, φ2, v4, ⟨dn, hd1, hi1⟩, h, hl2, S⟩
    cases ys1 with
    | nil =>
     rw [record_All_l1.eq_1] at h
     refine Fs (Fg (lv S (rn_lss (S.tm rfl) (S.tm rfl)) rfl ?_));clear S;intro a S
     refine Ld ?_
     replace S := S.nk [.own v4 47 6 x1.length (x1.flatMap GBest.enc)] [(9, u1), (11, v4), (29, Bo), (30, iV (Aa.length : Int)), (31, iV (i1 : Int)), (32, bV (decide ((i1 : Int) < (Aa.length : Int))))] [true] rfl (subR rfl)
     refine Tn (Fs (wp_cond_false ((S.tm rfl).trans (congrArg Value.bool (rng_nil hd1 hi1))) (wp_exit (then_x (then_x (x_same ?_))))))
     refine Tn ?_
     exact ⟨x1, φ2, v4, h, hl2, S.nf [true] rfl ⟨rfl, trivial⟩⟩
    | cons y1 ys1 =>
     rw [record_All_l1.eq_2] at h
     refine Fs (Fg (lv S (rn_lss (S.tm rfl) (S.tm rfl)) rfl ?_));clear S;intro a S
     refine Ld ?_
     replace S := S.nk [.own v4 47 6 x1.length (x1.flatMap GBest.enc)] [(9, u1), (11, v4), (29, Bo), (30, iV (Aa.length : Int)), (31, iV (i1 : Int)), (32, bV (decide ((i1 : Int) < (Aa.length : Int))))] [true] rfl (subR rfl)
     refine Tn (Fs (wp_cond_true ((S.tm rfl).trans (congrArg Value.bool (rng_cons hd1 hi1))) (wp_skip (Tn (Fs (wp_block ?_))))))
     refine Fs (Fg ?_)
     obtain ⟨r3, hg1, hl3⟩ := All2.at Ch (get_mid hd1 hi1)
     obtain ⟨u3, rfl, hs3⟩ := hl3
     obtain ⟨b1, o1, hm2, hr5⟩ := rn_indexT (a := a) (x := .tmp 29) (y := .tmp 31) (ty := 0) sl_26 Cg hg1 rfl (S.tm rfl) (S.tm rfl)
     refine lv S (hr5 _) rfl ?_;clear S;intro a S
     clear hr5
     refine lv S (rn_ldA Tryz.isAgg56 Tryz.sizeOf56 (off := o1) (o := 0) (part := [sV y1.Key, sV y1.Race, u3.val, iV y1.Young, iV y1.Old]) rfl rfl (S.tm rfl) (hm2.at S.emb0)) rfl ?_;clear S;intro a S
     refine l_alloc S Tryz.zeroValue56 (cs := [sV k_empty, sV k_empty, .slice none 0 0, iV 0, iV 0]) rfl rfl ?_;clear S;intro a w6 b2 hz2 hk4 S
     refine l_store S (S.tm rfl) (S.tm rfl) (i := 0) (off := 0) rfl Tryz.sizeOf56 (vs := [sV y1.Key, sV y1.Race, u3.val, iV y1.Young, iV y1.Old]) rfl rfl rfl (all1 rfl (all1 rfl (all1 (SlcLen.one (slc_len hs3)) (all1 rfl (all1 rfl rfl))))) ?_;clear S;intro w7 hk5 S
     refine Ld (Tn (Fg (lv S (Rm (S.tm rfl)) rfl ?_)));clear S;intro a S
     refine lv S (rn_ldA Tryz.isAgg56 Tryz.sizeOf56 (off := 0) (o := 0) (part := [sV y1.Key, sV y1.Race, u3.val, iV y1.Young, iV y1.Old]) rfl rfl (S.tm rfl) (S.cellsAt (i := 0) rfl)) rfl ?_;clear S;intro a S
     refine lv S (Rm (S.tm rfl)) rfl ?_;clear S;intro a S
     obtain ⟨r4, hr6, h⟩ := bindE h
     have hz3 := S.keep.size
     refine l_enter S (fun _ => run_call (vs := [.agg (R56.enc (R56.mk y1.Key y1.Race u3 y1.Young y1.Old)).toArray, u1]) ⟨(S.tm rfl), (S.tm rfl), trivial⟩ Tryz.call27) (record_record_ok _ y1 (R56.mk y1.Key y1.Race u3 y1.Young y1.Old) ⟨u3, rfl, (hs3.mono (S.le_arg nil_sub))⟩ u1 r2.1 rs1 (hs1.mono (View.le_trans hl2 (S.le_new nil_sub))) (rels_90 (View.le_trans hl2 (S.le_new nil_sub)) hr4) _ hr6) rfl ?_;clear S;intro v5 a w8 hv4 hk6 hn4 S
     obtain ⟨φ3, hl4, hm3, S⟩ := S.see' hn4 hz3
     have hs4 := hv4.mono hm3
     obtain ⟨hc1, h⟩ := chkE h
     refine l_appendS (Y := []) sl_37 GBest.enc_ok S (S.tm rfl) (i := 1) rfl (S.tm rfl) (hs4.mono (S.le_new (fun _ h => by cases h))) rfl rfl (by have := room_lt hc1;omega) rfl ?_;clear S;intro v6 a w9 hk7 S
     refine lv S (Ra (S.tm rfl)) rfl ?_;clear S;intro a S
     refine Ld (blk_n (Tn (Fg (lv S (rn_add (S.tm rfl) rfl) rfl ?_))));clear S;intro a S
     refine lv S (Rm (S.tm rfl)) rfl ?_;clear S;intro a S
     refine Ld ?_
     replace S := S.nk [.own v6 47 6 (x1 ++ r4).length ((x1 ++ r4).flatMap GBest.enc)] [(9, u1), (11, v6), (29, Bo), (30, iV (Aa.length : Int)), (31, iV (W ((i1 : Int) + 1)))] [false, true] rfl (subR rfl)
     refine Tn ?_
     exact ⟨ys1, ⟨i1 + 1, (x1 ++ r4), φ3, v6, ⟨_, (hd1).trans (List.append_cons _ _ _), by simp [hi1]⟩, h, (View.le_trans hl2 hl4), S.nf [true] rfl ⟨rfl, rfl, rfl, rfl, (congrArg (fun z => some (Value.int .i64 z)) (rng_next hd1 hi1 (slc_maxD Cg Ch))), trivial⟩⟩, Nat.lt_succ_self _⟩
   clear S h;rintro a w5 ⟨x1, φ2, v4, h, hl2, S⟩;rw [hj1] at h;clear hj1 j1
   refine Tn (Fs (Fg (lv S (Rm (S.tm rfl)) rfl ?_)));clear S;intro a S
   refine lv S (Ra (S.tm rfl)) rfl ?_;clear S;intro a S
   refine lv S (Ra rfl) rfl ?_;clear S;intro a S
   refine Ld (Tn (wp_ret ?_))
   obtain rfl := Option.some.inj h
   exact f_ret2 S Tryz.results9 rfl rfl ⟨_, rfl, (own_retT S (i := 0) rfl rfl)⟩
set_option maxRecDepth 20000 in
theorem tumbkeep2_parts_Step_ok (w : World) (O : Nat) (U : Value) (Af : List Int) (Ag : Slc (view w [O]) 1 U (Af.map eInt)) (Ad : Int) (Aw : (LEnt.blk O [U, iV Ad] 25).holds w) (V : Value) (Z : List GStep) (Ae : Slc (view w [O]) 8 V (Z.map GStep.enc)) (r : (List GStep) × (List GStep) × Int) (h : tumbkeep2_parts_Step Af Ad Z = some r) :
    Calls Tryz.prog 10 [.pointer (some ⟨O, 0, none⟩), V].toArray w (Ret w [O] fun τ v w' => (LEnt.blk O [U, iV r.2.2] 25).holds w' ∧ (∃ u1 : Value, ∃ u2 : Value, v = .tuple #[u1, u2] ∧ OwnV τ 35 8 u1 r.1.length (r.1.flatMap GStep.enc) ∧ OwnV τ 35 8 u2 r.2.1.length (r.2.1.flatMap GStep.enc))) := by
 refine f_enter [O] [.blk O [U, iV Ad] 25] Tryz.func10 rfl Tryz.ntmps10 rfl (fun e he => by simp only [List.mem_singleton] at he;subst he;exact Aw) (by simp [fps, LEnt.fp]) (by simp [fps, LEnt.fp]) fun a S => ?_
 unfold tumbkeep2_parts_Step at h
 replace S := S.nk [.blk O [U, iV Ad] 25] [(0, .pointer (some ⟨O, 0, none⟩)), (1, V)] [true] rfl (subR rfl)
 refine Fs (Fg (lv S (Ra rfl) rfl ?_));clear S;intro a S
 refine lv S (Ra rfl) rfl ?_;clear S;intro a S
 refine Ld (Tn (Fs (Fg (lv S (Ra rfl) rfl ?_))));clear S;intro a S
 replace S := S.nil 35 8
 refine lv S (Ra rfl) rfl ?_;clear S;intro a S
 replace S := S.nil 35 8
 refine Ld (Tn (Fs (Fs (Fg (lv S (Rm (S.tm rfl)) rfl ?_)))));clear S;intro a S
 refine lv S (rn_lenT sl_28 (S.tm rfl) (slc_len Ae)) rfl ?_;clear S;intro a S
 refine lv S (Rm rfl) rfl ?_;clear S;intro a S
 refine Ld (Tn ?_)
 replace S := S.nk [.own (.slice none 0 0) 35 8 ([] : List GStep).length (([] : List GStep).flatMap GStep.enc), .own (.slice none 0 0) 35 8 ([] : List GStep).length (([] : List GStep).flatMap GStep.enc), .blk O [U, iV Ad] 25] [(0, .pointer (some ⟨O, 0, none⟩)), (6, (.slice none 0 0)), (7, (.slice none 0 0)), (10, V), (11, iV (Z.length : Int)), (12, iV 0)] [true, true, true] rfl (subR rfl)
 obtain ⟨j1, hj1, h⟩ := joinE h
 refine f_join (fun a w' => ∃ x1 : List GStep, ∃ x2 : List GStep, ∃ x3 : Int, ∃ v1 : Value, ∃ v2 : Value, j1 x1 x2 x3 = some r ∧ Sx w [O] nov [.own v1 35 8 x1.length (x1.flatMap GStep.enc), .own v2 35 8 x2.length (x2.flatMap GStep.enc), .blk O [U, iV x3] 25] [(6, v2), (7, v1)] 41 a w') ?_ ?_
 ·refine wp_block (f_loop (fun (ys1 : List GStep) a w' => ∃ i1 : Nat, ∃ x1 : List GStep, ∃ x2 : List GStep, ∃ x3 : Int, ∃ v1 : Value, ∃ v2 : Value, (∃ dn, Z = dn ++ ys1 ∧ dn.length = i1) ∧ tumbkeep2_parts_Step_l1 Af j1 ys1 i1 x1 x2 x3 = some r ∧ Sx w [O] nov [.own v1 35 8 x1.length (x1.flatMap GStep.enc), .own v2 35 8 x2.length (x2.flatMap GStep.enc), .blk O [U, iV x3] 25] [(0, .pointer (some ⟨O, 0, none⟩)), (6, v2), (7, v1), (10, V), (11, iV (Z.length : Int)), (12, iV (i1 : Int))] 41 a w') List.length Z ⟨0, ([] : List GStep), ([] : List GStep), Ad, (.slice none 0 0), (.slice none 0 0), ⟨[], rfl, rfl⟩, h, S.nf [true, true, true] rfl (subR rfl)⟩ ?_)
  clear S h;rintro ys1 a w1 ⟨i1, x1, x2, x3, v1, v2, ⟨dn, hd1, hi1⟩, h, S⟩
  cases ys1 with
  | nil =>
   rw [tumbkeep2_parts_Step_l1.eq_1] at h
   refine Fs (Fg (lv S (rn_lss (S.tm rfl) (S.tm rfl)) rfl ?_));clear S;intro a S
   refine Ld ?_
   replace S := S.nk [.own v1 35 8 x1.length (x1.flatMap GStep.enc), .own v2 35 8 x2.length (x2.flatMap GStep.enc), .blk O [U, iV x3] 25] [(0, .pointer (some ⟨O, 0, none⟩)), (6, v2), (7, v1), (10, V), (11, iV (Z.length : Int)), (12, iV (i1 : Int)), (13, bV (decide ((i1 : Int) < (Z.length : Int))))] [true, true, true] rfl (subR rfl)
   refine Tn (Fs (wp_cond_false ((S.tm rfl).trans (congrArg Value.bool (rng_nil hd1 hi1))) (wp_exit (then_x (then_x (x_same ?_))))))
   refine Tn ?_
   exact ⟨x1, x2, x3, v1, v2, h, S.nf [true, true, true] rfl (subR rfl)⟩
  | cons y1 ys1 =>
   rw [tumbkeep2_parts_Step_l1.eq_2] at h
   refine Fs (Fg (lv S (rn_lss (S.tm rfl) (S.tm rfl)) rfl ?_));clear S;intro a S
   refine Ld ?_
   replace S := S.nk [.own v1 35 8 x1.length (x1.flatMap GStep.enc), .own v2 35 8 x2.length (x2.flatMap GStep.enc), .blk O [U, iV x3] 25] [(0, .pointer (some ⟨O, 0, none⟩)), (6, v2), (7, v1), (10, V), (11, iV (Z.length : Int)), (12, iV (i1 : Int)), (13, bV (decide ((i1 : Int) < (Z.length : Int))))] [true, true, true] rfl (subR rfl)
   refine Tn (Fs (wp_cond_true ((S.tm rfl).trans (congrArg Value.bool (rng_cons hd1 hi1))) (wp_skip (Tn (Fs (wp_block ?_))))))
   refine Fs (Fg ?_)
   obtain ⟨b1, o1, hm1, hr1⟩ := rn_indexT (a := a) (x := .tmp 10) (y := .tmp 12) (ty := 0) sl_28 Ae (get_mid hd1 hi1) rfl (S.tm rfl) (S.tm rfl)
   refine lv S (hr1 _) rfl ?_;clear S;intro a S
   clear hr1
   refine lv S (rn_ldA Tryz.isAgg35 Tryz.sizeOf35 (off := o1) (o := 0) (part := (GStep.enc y1)) rfl rfl (S.tm rfl) (hm1.at S.emb0)) rfl ?_;clear S;intro a S
   refine l_alloc S Tryz.zeroValue35 (cs := [iV 0, iV 0, sV k_empty, sV k_empty, sV k_empty, sV k_empty, iV 0, iV 0]) rfl rfl ?_;clear S;intro a w3 b2 hz1 hk1 S
   refine l_store S (S.tm rfl) (S.tm rfl) (i := 0) (off := 0) rfl Tryz.sizeOf35 (vs := (GStep.enc y1)) rfl rfl rfl rfl ?_;clear S;intro w4 hk2 S
   refine Ld (Tn (Fs (Fg (lv S (Rm (S.tm rfl)) rfl ?_))));clear S;intro a S
   obtain ⟨r1, hr2, h⟩ := bindE h
   refine l_enter1 3 S (b := O) rfl rfl (fun _ => .blk O [U, iV r1.2] 25) (fun _ => run_call (vs := [.pointer (some ⟨O, 0, none⟩), iV 3]) ⟨(S.tm rfl), rfl, trivial⟩ Tryz.call21) (Stream_Next_ok _ O U Af (Ag.mono (S.le_arg (fp_sub (i := 3) (e := .blk O [U, iV x3] 25) rfl))) x3 (S.holds _ (List.mem_of_getElem? (i := 3) rfl)) 3 _ hr2) rfl (fun _ _ _ h => ⟨h.1, fun _ hc => by cases hc;rfl⟩) ?_;clear S;intro v3 a w5 hv1 hk3 hn1 S
   replace hv1 := hv1.2
   subst hv1
   refine Ld (Tn ?_)
   obtain ⟨j2, hj2, h⟩ := joinE h
   refine f_join (fun a w' => ∃ x4 : List GStep, ∃ x5 : List GStep, ∃ v4 : Value, ∃ v5 : Value, j2 x4 x5 = some r ∧ Sx w [O] nov [.own v4 35 8 x4.length (x4.flatMap GStep.enc), .own v5 35 8 x5.length (x5.flatMap GStep.enc), .blk O [U, iV r1.2] 25] [(0, .pointer (some ⟨O, 0, none⟩)), (6, v5), (7, v4), (10, V), (11, iV (Z.length : Int)), (12, iV (i1 : Int))] 41 a w') ?_ ?_
   ·refine wp_block (Fs (Fg (lv S (rn_eql (S.tm rfl) rfl) rfl ?_)));clear S;intro a S
    refine lv S (Ra (S.tm rfl)) rfl ?_;clear S;intro a S
    refine Ld (Tn ?_)
    obtain ⟨j3, hj3, h⟩ := joinE h
    refine f_join (fun a w' => ∃ x6 : List GStep, ∃ x7 : List GStep, ∃ v6 : Value, ∃ v7 : Value, j3 x6 x7 = some r ∧ Sx w [O] nov [.own v6 35 8 x6.length (x6.flatMap GStep.enc), .own v7 35 8 x7.length (x7.flatMap GStep.enc), .blk O [U, iV r1.2] 25] [(0, .pointer (some ⟨O, 0, none⟩)), (6, v7), (7, v6), (10, V), (11, iV (Z.length : Int)), (12, iV (i1 : Int))] 41 a w') ?_ ?_
    ·refine f_cond (S.tm rfl) (fun hb1 => ?_) (fun hb1 => ?_)
     ·replace h := iteT h hb1
      refine Fg (lv S (Rm (S.tm rfl)) rfl ?_);clear S;intro a S
      refine lv S (rn_ldA Tryz.isAgg35 Tryz.sizeOf35 (off := 0) (o := 0) (part := (GStep.enc y1)) rfl rfl (S.tm rfl) (S.cellsAt (i := 0) rfl)) rfl ?_;clear S;intro a S
      refine l_buildSlice S Tryz.underlying28 Tryz.sizeOf35 Tryz.zeroValue35 rfl rfl (pv := [(0, .agg (GStep.enc y1).toArray)]) ⟨rfl, (S.tm rfl), trivial⟩ (cs := [iV y1.At, iV y1.Kind, sV y1.Id, sV y1.Who, sV y1.Club, sV y1.Race, iV y1.Age, iV y1.Time]) (by kernel_rfl) rfl ?_;clear S;intro a w8 b3 hz2 hk4 S
      obtain ⟨hc1, h⟩ := chkE h
      refine l_appendT sl_28 GStep.enc_ok S (S.tm rfl) (i := 3) rfl (S.tm rfl) (j := 0) rfl (ys := [y1]) rfl rfl rfl rfl (by have := room_lt hc1;omega) rfl ?_;clear S;intro v8 a w9 hk5 S
      refine lv S (Ra (S.tm rfl)) rfl ?_;clear S;intro a S
      refine Ld ?_
      replace S := S.nk [.own v1 35 8 x1.length (x1.flatMap GStep.enc), .own v8 35 8 (x2 ++ [y1]).length ((x2 ++ [y1]).flatMap GStep.enc), .blk O [U, iV r1.2] 25] [(0, .pointer (some ⟨O, 0, none⟩)), (6, v8), (7, v1), (10, V), (11, iV (Z.length : Int)), (12, iV (i1 : Int))] [false, false, true, true, true] rfl (subR rfl)
      refine Tn ?_
      exact ⟨x1, (x2 ++ [y1]), v1, v8, h, S.nf [true, true, true] rfl (subR rfl)⟩
     ·replace h := iteF h hb1
      refine Fs (Fg (lv S (rn_eql (S.tm rfl) rfl) rfl ?_));clear S;intro a S
      refine lv S (Ra (S.tm rfl)) rfl ?_;clear S;intro a S
      refine Ld ?_
      replace S := S.nk [.blk b2 (GStep.enc y1) 35, .own v1 35 8 x1.length (x1.flatMap GStep.enc), .own v2 35 8 x2.length (x2.flatMap GStep.enc), .blk O [U, iV r1.2] 25] [(0, .pointer (some ⟨O, 0, none⟩)), (6, v2), (7, v1), (9, .pointer (some ⟨b2, 0, none⟩)), (10, V), (11, iV (Z.length : Int)), (12, iV (i1 : Int)), (32, bV (decide (r1.1 = 1)))] [true, true, true, true] rfl (subR rfl)
      refine Tn ?_
      obtain ⟨j4, hj4, h⟩ := joinE h
      refine f_join (fun a w' => ∃ x8 : List GStep, ∃ x9 : List GStep, ∃ v9 : Value, ∃ v10 : Value, j4 x8 x9 = some r ∧ Sx w [O] nov [.own v9 35 8 x8.length (x8.flatMap GStep.enc), .own v10 35 8 x9.length (x9.flatMap GStep.enc), .blk O [U, iV r1.2] 25] [(0, .pointer (some ⟨O, 0, none⟩)), (6, v10), (7, v9), (10, V), (11, iV (Z.length : Int)), (12, iV (i1 : Int))] 41 a w') ?_ ?_
      ·refine f_cond (S.tm rfl) (fun hb2 => ?_) (fun hb2 => ?_)
       ·replace h := iteT h hb2
        refine Fg (lv S (Rm (S.tm rfl)) rfl ?_);clear S;intro a S
        refine lv S (rn_ldA Tryz.isAgg35 Tryz.sizeOf35 (off := 0) (o := 0) (part := (GStep.enc y1)) rfl rfl (S.tm rfl) (S.cellsAt (i := 0) rfl)) rfl ?_;clear S;intro a S
        refine l_buildSlice S Tryz.underlying28 Tryz.sizeOf35 Tryz.zeroValue35 rfl rfl (pv := [(0, .agg (GStep.enc y1).toArray)]) ⟨rfl, (S.tm rfl), trivial⟩ (cs := [iV y1.At, iV y1.Kind, sV y1.Id, sV y1.Who, sV y1.Club, sV y1.Race, iV y1.Age, iV y1.Time]) (by kernel_rfl) rfl ?_;clear S;intro a w11 b4 hz3 hk6 S
        obtain ⟨hc2, h⟩ := chkE h
        refine l_appendT sl_28 GStep.enc_ok S (S.tm rfl) (i := 2) rfl (S.tm rfl) (j := 0) rfl (ys := [y1]) rfl rfl rfl rfl (by have := room_lt hc2;omega) rfl ?_;clear S;intro v11 a w12 hk7 S
        refine lv S (Ra (S.tm rfl)) rfl ?_;clear S;intro a S
        refine Ld (Tn ?_)
        exact ⟨(x1 ++ [y1]), x2, v11, v2, h, S.nf [false, false, true, true, true] rfl (subR rfl)⟩
       ·replace h := iteF h hb2
        obtain ⟨j5, hj5, h⟩ := joinE h
        refine f_join (fun a w' => ∃ x10 : List GStep, ∃ x11 : List GStep, ∃ v12 : Value, ∃ v13 : Value, j5 x10 x11 = some r ∧ Sx w [O] nov [.own v12 35 8 x10.length (x10.flatMap GStep.enc), .own v13 35 8 x11.length (x11.flatMap GStep.enc), .blk O [U, iV r1.2] 25] [(0, .pointer (some ⟨O, 0, none⟩)), (6, v13), (7, v12), (10, V), (11, iV (Z.length : Int)), (12, iV (i1 : Int))] 41 a w') ?_ ?_
        ·obtain ⟨hc3, h⟩ := chkE h
         obtain ⟨hc4, h⟩ := chkE h
         refine d_region [] (v2.ownBlock.toList ++ v1.ownBlock.toList) Tryz.mixed S rfl (by kernel_rfl) ?_;clear S;intro w18 hk12 hsel S
         refine d_quiet 0 S hsel rfl rfl rfl (by kernel_rfl) (by kernel_rfl) rfl (fun _ hw => (Rm (S.tm rfl))) ?_;clear S;intro a S
         refine d_quiet 1 S hsel rfl rfl rfl (by kernel_rfl) (by kernel_rfl) rfl (fun _ hw => (rn_ldA Tryz.isAgg35 Tryz.sizeOf35 (off := 0) (o := 0) (part := (GStep.enc y1)) rfl rfl (S.tm rfl) ((S.blk_mem (i := 0) (cells := (GStep.enc y1)) (b := b2) (T := 35) rfl (ne_app (ne_fp (i := 2) (j := 0) (e := .own v2 35 8 x2.length (x2.flatMap GStep.enc)) (e' := .blk b2 (GStep.enc y1) 35) S rfl rfl rfl) (ne_fp (i := 1) (j := 0) (e := .own v1 35 8 x1.length (x1.flatMap GStep.enc)) (e' := .blk b2 (GStep.enc y1) 35) S rfl rfl rfl))).kept hw))) ?_;clear S;intro a S
         refine d_quiet 4 S hsel rfl rfl rfl (by kernel_rfl) (by kernel_rfl) rfl (fun _ hw => (Rm (S.tm rfl))) ?_;clear S;intro a S
         refine d_quiet 5 S hsel rfl rfl rfl (by kernel_rfl) (by kernel_rfl) rfl (fun _ hw => (rn_ldA Tryz.isAgg35 Tryz.sizeOf35 (off := 0) (o := 0) (part := (GStep.enc y1)) rfl rfl (S.tm rfl) ((S.blk_mem (i := 0) (cells := (GStep.enc y1)) (b := b2) (T := 35) rfl (ne_app (ne_fp (i := 2) (j := 0) (e := .own v2 35 8 x2.length (x2.flatMap GStep.enc)) (e' := .blk b2 (GStep.enc y1) 35) S rfl rfl rfl) (ne_fp (i := 1) (j := 0) (e := .own v1 35 8 x1.length (x1.flatMap GStep.enc)) (e' := .blk b2 (GStep.enc y1) 35) S rfl rfl rfl))).kept hw))) ?_;clear S;intro a S
         refine d_loud2 2 6 (by kernel_rfl) rfl rfl ?_ ?_
         ·refine l_buildSlice S Tryz.underlying28 Tryz.sizeOf35 Tryz.zeroValue35 rfl rfl (pv := [(0, .agg (GStep.enc y1).toArray)]) ⟨rfl, (S.tm rfl), trivial⟩ (cs := [iV y1.At, iV y1.Kind, sV y1.Id, sV y1.Who, sV y1.Club, sV y1.Race, iV y1.Age, iV y1.Time]) (by kernel_rfl) rfl ?_;clear S;intro a w19 b7 hz6 hk13 S
          refine Ld (d_next (Keep.none hk13) (d_loud2 3 6 (by kernel_rfl) rfl rfl ?_ ?_))
          ·refine l_appendT sl_28 GStep.enc_ok S (S.tm rfl) (i := 3) rfl (S.tm rfl) (j := 0) rfl (ys := [y1]) rfl rfl rfl rfl (by have := room_lt hc3;omega) rfl ?_;clear S;intro v16 a w20 hk14 S
           refine Ld ?_
           refine d_next (hk14.sub (by intro y hy;simp at hy ⊢;simp [hy])) ?_
           refine d_loud1 6 (by kernel_rfl) rfl (l_buildSlice S Tryz.underlying28 Tryz.sizeOf35 Tryz.zeroValue35 rfl rfl (pv := [(0, .agg (GStep.enc y1).toArray)]) ⟨rfl, (S.tm rfl), trivial⟩ (cs := [iV y1.At, iV y1.Kind, sV y1.Id, sV y1.Who, sV y1.Club, sV y1.Race, iV y1.Age, iV y1.Time]) (by kernel_rfl) rfl ?_);clear S;intro a w21 b8 hz7 hk15 S
           refine Ld (d_next (Keep.none hk15) (d_loud1 7 (by kernel_rfl) rfl ?_))
           refine l_appendT sl_28 GStep.enc_ok S (S.tm rfl) (i := 3) rfl (S.tm rfl) (j := 0) rfl (ys := [y1]) rfl rfl rfl rfl (by have := room_lt hc4;omega) rfl ?_;clear S;intro v17 a w22 hk16 S
           refine Ld ?_
           refine d_next (hk16.sub (by intro y hy;simp at hy ⊢;simp [hy])) ?_
           refine d_rest [8, 9] hsel (by kernel_rfl) rfl ?_
           clear hsel
           refine s_lv S rfl (Ra (S.tm rfl)) rfl ?_;clear S;intro a S
           refine s_lv S rfl (Ra (S.tm rfl)) rfl ?_;clear S;intro a S
           refine s_done ?_
           replace S := S.nk [.own v17 35 8 (x1 ++ [y1]).length ((x1 ++ [y1]).flatMap GStep.enc), .own v16 35 8 (x2 ++ [y1]).length ((x2 ++ [y1]).flatMap GStep.enc), .blk O [U, iV r1.2] 25] [(0, .pointer (some ⟨O, 0, none⟩)), (6, v16), (7, v17), (10, V), (11, iV (Z.length : Int)), (12, iV (i1 : Int))] [false, false, false, true, true, true] rfl (subR rfl)
           refine Tn ?_
           exact ⟨(x1 ++ [y1]), (x2 ++ [y1]), v17, v16, h, S.nf [true, true, true] rfl (subR rfl)⟩
          ·refine l_buildSlice S Tryz.underlying28 Tryz.sizeOf35 Tryz.zeroValue35 rfl rfl (pv := [(0, .agg (GStep.enc y1).toArray)]) ⟨rfl, (S.tm rfl), trivial⟩ (cs := [iV y1.At, iV y1.Kind, sV y1.Id, sV y1.Who, sV y1.Club, sV y1.Race, iV y1.Age, iV y1.Time]) (by kernel_rfl) rfl ?_;clear S;intro a w23 b9 hz8 hk17 S
           refine Ld (d_next (Keep.none hk17) (d_loud1 3 (by kernel_rfl) rfl ?_))
           refine l_appendT sl_28 GStep.enc_ok S (S.tm rfl) (i := 4) rfl (S.tm rfl) (j := 1) rfl (ys := [y1]) rfl rfl rfl rfl (by have := room_lt hc3;omega) rfl ?_;clear S;intro v18 a w24 hk18 S
           refine Ld ?_
           refine d_next (hk18.sub (by intro y hy;simp at hy ⊢;simp [hy])) ?_
           refine d_loud1 7 (by kernel_rfl) rfl ?_
           refine l_appendT sl_28 GStep.enc_ok S (S.tm rfl) (i := 3) rfl (S.tm rfl) (j := 0) rfl (ys := [y1]) rfl rfl rfl rfl (by have := room_lt hc4;omega) rfl ?_;clear S;intro v19 a w25 hk19 S
           refine Ld ?_
           refine d_next (hk19.sub (by intro y hy;simp at hy ⊢;simp [hy])) ?_
           refine d_rest [8, 9] hsel (by kernel_rfl) rfl ?_
           clear hsel
           refine s_lv S rfl (Ra (S.tm rfl)) rfl ?_;clear S;intro a S
           refine s_lv S rfl (Ra (S.tm rfl)) rfl ?_;clear S;intro a S
           refine s_done ?_
           replace S := S.nk [.own v19 35 8 (x1 ++ [y1]).length ((x1 ++ [y1]).flatMap GStep.enc), .own v18 35 8 (x2 ++ [y1]).length ((x2 ++ [y1]).flatMap GStep.enc), .blk O [U, iV r1.2] 25] [(0, .pointer (some ⟨O, 0, none⟩)), (6, v18), (7, v19), (10, V), (11, iV (Z.length : Int)), (12, iV (i1 : Int))] [false, false, false, true, true, true] rfl (subR rfl)
           refine Tn ?_
           exact ⟨(x1 ++ [y1]), (x2 ++ [y1]), v19, v18, h, S.nf [true, true, true] rfl (subR rfl)⟩
         ·refine l_buildSlice S Tryz.underlying28 Tryz.sizeOf35 Tryz.zeroValue35 rfl rfl (pv := [(0, .agg (GStep.enc y1).toArray)]) ⟨rfl, (S.tm rfl), trivial⟩ (cs := [iV y1.At, iV y1.Kind, sV y1.Id, sV y1.Who, sV y1.Club, sV y1.Race, iV y1.Age, iV y1.Time]) (by kernel_rfl) rfl ?_;clear S;intro a w26 b10 hz9 hk20 S
          refine Ld (d_next (Keep.none hk20) (d_loud1 2 (by kernel_rfl) rfl (l_buildSlice S Tryz.underlying28 Tryz.sizeOf35 Tryz.zeroValue35 rfl rfl (pv := [(0, .agg (GStep.enc y1).toArray)]) ⟨rfl, (S.tm rfl), trivial⟩ (cs := [iV y1.At, iV y1.Kind, sV y1.Id, sV y1.Who, sV y1.Club, sV y1.Race, iV y1.Age, iV y1.Time]) (by kernel_rfl) rfl ?_)));clear S;intro a w27 b11 hz10 hk21 S
          refine Ld (d_next (Keep.none hk21) (d_loud1 3 (by kernel_rfl) rfl ?_))
          refine l_appendT sl_28 GStep.enc_ok S (S.tm rfl) (i := 4) rfl (S.tm rfl) (j := 0) rfl (ys := [y1]) rfl rfl rfl rfl (by have := room_lt hc3;omega) rfl ?_;clear S;intro v20 a w28 hk22 S
          refine Ld ?_
          refine d_next (hk22.sub (by intro y hy;simp at hy ⊢;simp [hy])) ?_
          refine d_loud1 7 (by kernel_rfl) rfl ?_
          refine l_appendT sl_28 GStep.enc_ok S (S.tm rfl) (i := 3) rfl (S.tm rfl) (j := 1) rfl (ys := [y1]) rfl rfl rfl rfl (by have := room_lt hc4;omega) rfl ?_;clear S;intro v21 a w29 hk23 S
          refine Ld ?_
          refine d_next (hk23.sub (by intro y hy;simp at hy ⊢;simp [hy])) ?_
          refine d_rest [8, 9] hsel (by kernel_rfl) rfl ?_
          clear hsel
          refine s_lv S rfl (Ra (S.tm rfl)) rfl ?_;clear S;intro a S
          refine s_lv S rfl (Ra (S.tm rfl)) rfl ?_;clear S;intro a S
          refine s_done ?_
          replace S := S.nk [.own v21 35 8 (x1 ++ [y1]).length ((x1 ++ [y1]).flatMap GStep.enc), .own v20 35 8 (x2 ++ [y1]).length ((x2 ++ [y1]).flatMap GStep.enc), .blk O [U, iV r1.2] 25] [(0, .pointer (some ⟨O, 0, none⟩)), (6, v20), (7, v21), (10, V), (11, iV (Z.length : Int)), (12, iV (i1 : Int))] [false, false, false, true, true, true] rfl (subR rfl)
          refine Tn ?_
          exact ⟨(x1 ++ [y1]), (x2 ++ [y1]), v21, v20, h, S.nf [true, true, true] rfl (subR rfl)⟩
        clear S h;rintro a w13 ⟨x10, x11, v12, v13, h, S⟩;rw [hj5] at h;clear hj5 j5
        refine Tn ?_
        exact ⟨x10, x11, v12, v13, h, S.nf [true, true, true] rfl (subR rfl)⟩
      clear S h;rintro a w10 ⟨x8, x9, v9, v10, h, S⟩;rw [hj4] at h;clear hj4 j4
      refine Tn ?_
      exact ⟨x8, x9, v9, v10, h, S.nf [true, true, true] rfl (subR rfl)⟩
    clear S h;rintro a w7 ⟨x6, x7, v6, v7, h, S⟩;rw [hj3] at h;clear hj3 j3
    refine blk_n (Tn ?_)
    exact ⟨x6, x7, v6, v7, h, S.nf [true, true, true] rfl (subR rfl)⟩
   clear S h;rintro a w6 ⟨x4, x5, v4, v5, h, S⟩;rw [hj2] at h;clear hj2 j2
   refine blk_n (Tn (Fg (lv S (rn_add (S.tm rfl) rfl) rfl ?_)));clear S;intro a S
   refine lv S (Rm (S.tm rfl)) rfl ?_;clear S;intro a S
   refine Ld (Tn ?_)
   exact ⟨ys1, ⟨i1 + 1, x4, x5, r1.2, v4, v5, ⟨_, (hd1).trans (List.append_cons _ _ _), by simp [hi1]⟩, h, S.nf [true, true, true] rfl ⟨rfl, rfl, rfl, rfl, rfl, (congrArg (fun z => some (Value.int .i64 z)) (rng_next hd1 hi1 (slc_max Ae))), trivial⟩⟩, Nat.lt_succ_self _⟩
 clear S h;rintro a w2 ⟨x1, x2, x3, v1, v2, h, S⟩;rw [hj1] at h;clear hj1 j1
 refine Tn (Fs (Fg (lv S (Rm (S.tm rfl)) rfl ?_)));clear S;intro a S
 refine lv S (Rm (S.tm rfl)) rfl ?_;clear S;intro a S
 refine lv S (Ra (S.tm rfl)) rfl ?_;clear S;intro a S
 refine lv S (Ra (S.tm rfl)) rfl ?_;clear S;intro a S
 refine Ld (Tn (wp_ret ?_))
 obtain rfl := Option.some.inj h
 exact f_ret2 S Tryz.results10 rfl rfl ⟨(S.holds _ (List.mem_of_getElem? (i := 2) rfl)), ⟨_, _, rfl, (own_retX S (i := 1) rfl (fun c hc hh => not_fps S (i := 2) rfl rfl (j := 1) rfl rfl (by simp at hc;subst hc;exact hh))), (own_retX S (i := 0) rfl (fun c hc hh => not_fps S (i := 2) rfl rfl (j := 0) rfl rfl (by simp at hc;subst hc;exact hh)))⟩⟩
theorem slices_Clone_Step_ok (w : World) (Ai : Value) (Ab : List GStep) (Bk : Slc (view w []) 8 Ai (Ab.map GStep.enc)) (r : (List GStep)) (h : slices_Clone_Step Ab = some r) :
    Calls Tryz.prog 28 [Ai].toArray w (Ret w [] fun τ v _ => OwnV τ 35 8 v r.length (r.flatMap GStep.enc)) := by
 refine f_enter [] [] Tryz.func28 rfl Tryz.ntmps28 rfl (by simp) (by simp [fps]) (by simp [fps]) fun a S => ?_
 unfold slices_Clone_Step at h
 replace S := S.nk [] [(0, Ai)] [] rfl ⟨rfl, trivial⟩
 refine Fs (Fg (lv S (Ra rfl) rfl ?_));clear S;intro a S
 refine Ld (Tn (Fs (Fs (Fg (lv S (Rm (S.tm rfl)) rfl ?_)))));clear S;intro a S
 refine lv S (rn_nileq Tryz.underlying28 (slc_len Bk) (S.tm rfl) rfl) rfl ?_;clear S;intro a S
 refine Ld (Tn (f_cond (S.tm rfl) (fun hb1 => ?_) (fun hb1 => ?_)))
 ·have hx1 := slc_nilB Bk hb1
  subst hx1
  replace h : some ([] : List GStep) = some r := h
  refine Fs (Fg (lv S (Ra rfl) rfl ?_));clear S;intro a S
  refine Ld (Tn (wp_ret (then_r ?_)))
  obtain rfl := Option.some.inj h
  exact f_ret S Tryz.results28 rfl (ownV_nil _ _ _)
 ·refine wp_skip (Tn (Fs (Fg (l_buildSlice0 S Tryz.underlying28 Tryz.sizeOf35 rfl ?_))));clear S;intro a w1 b1 hz1 hk1 S
  refine lv S (Rm (S.tm rfl)) rfl ?_;clear S;intro a S
  replace S := S.litOwn (i := 0) (xs := ([] : List GStep)) rfl GStep.enc_ok rfl rfl rfl
  replace S := S.nk [.own (.slice (some ⟨b1, 0, none⟩) 0 0) 35 8 (([] : List GStep) : List GStep).length ((([] : List GStep) : List GStep).flatMap GStep.enc)] [(0, Ai), (2, .slice none 0 0), (3, Ai), (4, bV (nilB Ai)), (5, (.slice (some ⟨b1, 0, none⟩) 0 0)), (6, Ai)] [] rfl (subR rfl)
  obtain ⟨hc1, h⟩ := chkE h
  refine l_appendS (Y := []) sl_28 GStep.enc_ok S (S.tm rfl) (i := 0) rfl (S.tm rfl) (Bk.mono (S.le_arg (fun _ h => by cases h))) rfl rfl (by have := room_lt hc1;omega) rfl ?_;clear S;intro v1 a w2 hk2 S
  refine lv S (Ra (S.tm rfl)) rfl ?_;clear S;intro a S
  refine Ld (Tn (wp_ret ?_))
  obtain rfl := Option.some.inj h
  exact f_ret S Tryz.results28 rfl (own_retT S (i := 0) rfl rfl)
set_option maxRecDepth 20000 in
theorem slices_BinarySearchFunc_Step_record_compare_ok (w : World) (Bc : Value) (Ah : List GStep) (Cp : Slc (view w []) 8 Bc (Ah.map GStep.enc)) (As : GStep) (r : Int × Bool) (h : slices_BinarySearchFunc_Step_record_compare Ah As = some r) :
    Calls Tryz.prog 29 [Bc, .agg (GStep.enc As).toArray, .func (.func 30) #[] #[]].toArray w (Ret w [] fun _ v _ => v = .tuple #[iV r.1, bV r.2]) := by
 refine f_enter [] [] Tryz.func29 rfl Tryz.ntmps29 rfl (by simp) (by simp [fps]) (by simp [fps]) fun a S => ?_
 unfold slices_BinarySearchFunc_Step_record_compare at h
 replace S := S.nk [] [(0, Bc), (1, .agg (GStep.enc As).toArray), (2, .func (.func 30) #[] #[])] [] rfl (subR rfl)
 refine Fs (Fg (l_box S (S.tm rfl) (cs := (GStep.enc As)) rfl rfl ?_));clear S;intro a w1 b1 hz1 hk1 S
 refine lv S (Ra rfl) rfl ?_;clear S;intro a S
 refine lv S (Ra rfl) rfl ?_;clear S;intro a S
 refine Ld (Tn (Fs (Fg (lv S (Rm (S.tm rfl)) rfl ?_))));clear S;intro a S
 refine lv S (rn_lenT sl_28 (S.tm rfl) (slc_len Cp)) rfl ?_;clear S;intro a S
 refine lv S (Ra (S.tm rfl)) rfl ?_;clear S;intro a S
 refine Ld (Tn (Fs (Fg (lv S (Rm (S.tm rfl)) rfl ?_))));clear S;intro a S
 refine lv S (Ra rfl) rfl ?_;clear S;intro a S
 refine lv S (Ra (S.tm rfl)) rfl ?_;clear S;intro a S
 refine Ld (Tn (Fs ?_))
 replace S := S.nk [.blk b1 (GStep.enc As) 35] [(0, Bc), (2, .func (.func 30) #[] #[]), (4, .pointer (some ⟨b1, 0, none⟩)), (8, iV (Ah.length : Int)), (9, iV 0), (10, iV (Ah.length : Int))] [true] rfl (subR rfl)
 obtain ⟨j1, hj1, h⟩ := joinE h
 refine f_join (fun a w' => ∃ x1 : Int, j1 x1 = some r ∧ Sx w [] nov [.blk b1 (GStep.enc As) 35] [(0, Bc), (2, .func (.func 30) #[] #[]), (4, .pointer (some ⟨b1, 0, none⟩)), (8, iV (Ah.length : Int)), (9, iV x1)] 49 a w') ?_ ?_
 ·refine wp_block (f_loop (fun (m1 : Nat) a w' => ∃ x1 : Int, ∃ x2 : Int, slices_BinarySearchFunc_Step_record_compare_l1 Ah As j1 m1 x1 x2 = some r ∧ Sx w [] nov [.blk b1 (GStep.enc As) 35] [(0, Bc), (2, .func (.func 30) #[] #[]), (4, .pointer (some ⟨b1, 0, none⟩)), (8, iV (Ah.length : Int)), (9, iV x1), (10, iV x2)] 49 a w') id (((Ah.length : Int) - 0).toNat + 2) ⟨0, (Ah.length : Int), h, S.nf [true] rfl (subR rfl)⟩ ?_)
  clear S h;rintro m1 a w2 ⟨x1, x2, h, S⟩
  cases m1 with
  | zero => rw [slices_BinarySearchFunc_Step_record_compare_l1.eq_1] at h;cases h
  | succ m1 =>
   rw [slices_BinarySearchFunc_Step_record_compare_l1.eq_2] at h
   refine Fs (Fs (Fg (lv S (Rm (S.tm rfl)) rfl ?_)));clear S;intro a S
   refine lv S (Rm (S.tm rfl)) rfl ?_;clear S;intro a S
   refine lv S (rn_lss (S.tm rfl) (S.tm rfl)) rfl ?_;clear S;intro a S
   refine Ld (Tn (f_cond (S.tm rfl) (fun hb1 => ?_) (fun hb1 => ?_)))
   ·replace h := iteT h hb1
    refine wp_skip (Tn ?_)
    obtain ⟨j2, hj2, h⟩ := joinE h
    refine f_join (fun a w' => ∃ x3 : Int, ∃ x4 : Int, j2 x3 x4 = some r ∧ Sx w [] nov [.blk b1 (GStep.enc As) 35] [(0, Bc), (2, .func (.func 30) #[] #[]), (4, .pointer (some ⟨b1, 0, none⟩)), (8, iV (Ah.length : Int)), (9, iV x3), (10, iV x4)] 49 a w') ?_ ?_
    ·refine wp_block (Fs (Fg (lv S (Rm (S.tm rfl)) rfl ?_)));clear S;intro a S
     refine lv S (Rm (S.tm rfl)) rfl ?_;clear S;intro a S
     refine lv S (rn_add (S.tm rfl) (S.tm rfl)) rfl ?_;clear S;intro a S
     refine lv S (rn_conv Tryz.underlying3 Tryz.underlying94 (S.tm rfl)) rfl ?_;clear S;intro a S
     refine lv S (rn_shr (S.tm rfl) rfl (by decide)) rfl ?_;clear S;intro a S
     refine lv S (rn_conv Tryz.underlying94 Tryz.underlying3 (S.tm rfl)) rfl ?_;clear S;intro a S
     refine lv S (Ra (S.tm rfl)) rfl ?_;clear S;intro a S
     refine Ld ?_
     replace S := S.nk [.blk b1 (GStep.enc As) 35] [(0, Bc), (2, .func (.func 30) #[] #[]), (4, .pointer (some ⟨b1, 0, none⟩)), (8, iV (Ah.length : Int)), (9, iV x1), (10, iV x2), (11, iV (W (bitShr .u64 (IntKind.wrap .u64 (W (x1 + x2))) 1)))] [true] rfl (subR rfl)
     refine Tn (Fs ?_)
     obtain ⟨hc1, h⟩ := chkE h
     refine d_region [] ([]) Tryz.mixed S rfl (by kernel_rfl) ?_;clear S;intro w6 hk3 hsel S
     refine d_quiet 0 S hsel rfl rfl rfl (by kernel_rfl) (by kernel_rfl) rfl (fun _ hw => (Rm (S.tm rfl))) ?_;clear S;intro a S
     refine d_quiet 1 S hsel rfl rfl rfl (by kernel_rfl) (by kernel_rfl) rfl (fun _ hw => (Rm (S.tm rfl))) ?_;clear S;intro a S
     refine d_quiet 2 S hsel rfl rfl rfl (by kernel_rfl) (by kernel_rfl) rfl (fun _ hw => (Rm (S.tm rfl))) ?_;clear S;intro a S
     obtain ⟨b3, o2, hm2, hr2⟩ := rn_indexT (a := a) (x := .tmp 25) (y := .tmp 26) (ty := 0) sl_28 (Cp.mono (S.le_arg nil_sub)) (inB_get hc1).1 (inB_get hc1).2 (S.tm rfl) (S.tm rfl)
     refine d_quiet 3 S hsel rfl rfl rfl (by kernel_rfl) (by kernel_rfl) rfl (fun _ hw => hr2 _) ?_;clear S;intro a S
     clear hr2
     refine d_quiet 4 S hsel rfl rfl rfl (by kernel_rfl) (by kernel_rfl) rfl (fun _ hw => (rn_ldA Tryz.isAgg35 Tryz.sizeOf35 (off := o2) (o := 0) (part := (GStep.enc (nth Ah (W (bitShr .u64 (IntKind.wrap .u64 (W (x1 + x2))) 1))))) rfl rfl (S.tm rfl) (hm2.kept hw))) ?_;clear S;intro a S
     refine d_quiet 5 S hsel rfl rfl rfl (by kernel_rfl) (by kernel_rfl) rfl (fun _ hw => (rn_ldA Tryz.isAgg35 Tryz.sizeOf35 (off := 0) (o := 0) (part := (GStep.enc As)) rfl rfl (S.tm rfl) ((S.blk_mem (i := 0) (cells := (GStep.enc As)) (b := b1) (T := 35) rfl (ne_nil (e' := .blk b1 (GStep.enc As) 35))).kept hw))) ?_;clear S;intro a S
     refine d_loud1 6 (by kernel_rfl) rfl (l_enter S (fun _ => run_callV (cap := []) (S.tm rfl) (vs := [.agg (GStep.enc (nth Ah (W (bitShr .u64 (IntKind.wrap .u64 (W (x1 + x2))) 1)))).toArray, .agg (GStep.enc As).toArray]) ⟨(S.tm rfl), (S.tm rfl), trivial⟩ Tryz.call30) (record_compare_ok _ (nth Ah (W (bitShr .u64 (IntKind.wrap .u64 (W (x1 + x2))) 1))) As _ rfl) rfl ?_);clear S;intro v2 a w7 hv2 hk4 hn2 S
     subst hv2
     refine Ld (d_next hk4 (d_rest [7] hsel (by kernel_rfl) rfl ?_))
     clear hsel
     refine s_lv S rfl (rn_lss (S.tm rfl) rfl) rfl ?_;clear S;intro a S
     refine s_done ?_
     replace S := S.nk [.blk b1 (GStep.enc As) 35] [(0, Bc), (2, .func (.func 30) #[] #[]), (4, .pointer (some ⟨b1, 0, none⟩)), (8, iV (Ah.length : Int)), (9, iV x1), (10, iV x2), (11, iV (W (bitShr .u64 (IntKind.wrap .u64 (W (x1 + x2))) 1))), (31, bV (decide ((record_compare (nth Ah (W (bitShr .u64 (IntKind.wrap .u64 (W (x1 + x2))) 1))) As) < 0)))] [true] rfl (subR rfl)
     refine Tn ?_
     obtain ⟨j3, hj3, h⟩ := joinE h
     refine f_join (fun a w' => ∃ x5 : Int, ∃ x6 : Int, j3 x5 x6 = some r ∧ Sx w [] nov [.blk b1 (GStep.enc As) 35] [(0, Bc), (2, .func (.func 30) #[] #[]), (4, .pointer (some ⟨b1, 0, none⟩)), (8, iV (Ah.length : Int)), (9, iV x5), (10, iV x6)] 49 a w') ?_ ?_
     ·refine f_cond (S.tm rfl) (fun hb2 => ?_) (fun hb2 => ?_)
      ·replace h := iteT h hb2
       refine Fg (lv S (Rm (S.tm rfl)) rfl ?_);clear S;intro a S
       refine lv S (rn_add (S.tm rfl) rfl) rfl ?_;clear S;intro a S
       refine lv S (Ra (S.tm rfl)) rfl ?_;clear S;intro a S
       refine Ld (Tn ?_)
       exact ⟨W ((W (bitShr .u64 (IntKind.wrap .u64 (W (x1 + x2))) 1)) + 1), x2, h, S.nf [true] rfl (subR rfl)⟩
      ·replace h := iteF h hb2
       refine Fg (lv S (Rm (S.tm rfl)) rfl ?_);clear S;intro a S
       refine lv S (Ra (S.tm rfl)) rfl ?_;clear S;intro a S
       refine Ld (Tn ?_)
       exact ⟨x1, W (bitShr .u64 (IntKind.wrap .u64 (W (x1 + x2))) 1), h, S.nf [true] rfl (subR rfl)⟩
     clear S h;rintro a w8 ⟨x5, x6, h, S⟩;rw [hj3] at h;clear hj3 j3
     refine blk_n (Tn ?_)
     exact ⟨x5, x6, h, S.nf [true] rfl (subR rfl)⟩
    clear S h;rintro a w4 ⟨x3, x4, h, S⟩;rw [hj2] at h;clear hj2 j2
    refine Tn ?_
    exact ⟨m1, ⟨x3, x4, h, S.nf [true] rfl ⟨rfl, rfl, rfl, rfl, rfl, rfl, trivial⟩⟩, Nat.lt_succ_self _⟩
   ·replace h := iteF h hb1
    refine wp_exit (then_x (then_x (x_same (Tn ?_))))
    exact ⟨x1, h, S.nf [true] rfl (subR rfl)⟩
 clear S h;rintro a w3 ⟨x1, h, S⟩;rw [hj1] at h;clear hj1 j1
 refine Tn (Fs ?_)
 obtain ⟨j4, hj4, h⟩ := joinE h
 refine f_join (fun a w' => ∃ x7 : Bool, j4 x7 = some r ∧ Sx w [] nov [] [(6, iV x1), (7, bV x7)] 49 a w') ?_ ?_
 ·rcases Bool.eq_false_or_eq_true (decide (x1 < (Ah.length : Int))) with hb3 | hb3
  ·replace h := iteT h hb3
   obtain ⟨hc2, h⟩ := chkE h
   refine d_region [] ([]) Tryz.mixed S rfl (by kernel_rfl) ?_;clear S;intro w11 hk6 hsel S
   refine d_quiet 0 S hsel rfl rfl rfl (by kernel_rfl) (by kernel_rfl) rfl (fun _ hw => (Rm (S.tm rfl))) ?_;clear S;intro a S
   refine d_quiet 1 S hsel rfl rfl rfl (by kernel_rfl) (by kernel_rfl) rfl (fun _ hw => (Rm (S.tm rfl))) ?_;clear S;intro a S
   refine d_quiet 2 S hsel rfl rfl rfl (by kernel_rfl) (by kernel_rfl) rfl (fun _ hw => (Rm (S.tm rfl))) ?_;clear S;intro a S
   refine d_quiet 3 S hsel rfl rfl rfl (by kernel_rfl) (by kernel_rfl) rfl (fun _ hw => (rn_lss (S.tm rfl) (S.tm rfl))) ?_;clear S;intro a S
   refine d_quiet 4 S hsel rfl rfl rfl (by kernel_rfl) (by kernel_rfl) rfl (fun _ hw => (Rm (S.tm rfl))) ?_;clear S;intro a S
   refine d_quiet_g 5 S hsel rfl rfl rfl rfl hb3 rfl rfl (by kernel_rfl) (by kernel_rfl) rfl (fun _ hw => (Rm (S.tm rfl))) ?_;clear S;intro a S
   refine d_quiet_g 6 S hsel rfl rfl rfl rfl hb3 rfl rfl (by kernel_rfl) (by kernel_rfl) rfl (fun _ hw => (Rm (S.tm rfl))) ?_;clear S;intro a S
   refine d_quiet_g 7 S hsel rfl rfl rfl rfl hb3 rfl rfl (by kernel_rfl) (by kernel_rfl) rfl (fun _ hw => (Rm (S.tm rfl))) ?_;clear S;intro a S
   obtain ⟨b5, o4, hm4, hr4⟩ := rn_indexT (a := a) (x := .tmp 41) (y := .tmp 42) (ty := 0) sl_28 (Cp.mono (S.le_arg nil_sub)) (inB_get hc2).1 (inB_get hc2).2 (S.tm rfl) (S.tm rfl)
   refine d_quiet_g 8 S hsel rfl rfl rfl rfl hb3 rfl rfl (by kernel_rfl) (by kernel_rfl) rfl (fun _ hw => hr4 _) ?_;clear S;intro a S
   clear hr4
   refine d_quiet_g 9 S hsel rfl rfl rfl rfl hb3 rfl rfl (by kernel_rfl) (by kernel_rfl) rfl (fun _ hw => (rn_ldA Tryz.isAgg35 Tryz.sizeOf35 (off := o4) (o := 0) (part := (GStep.enc (nth Ah x1))) rfl rfl (S.tm rfl) (hm4.kept hw))) ?_;clear S;intro a S
   refine d_quiet_g 10 S hsel rfl rfl rfl rfl hb3 rfl rfl (by kernel_rfl) (by kernel_rfl) rfl (fun _ hw => (rn_ldA Tryz.isAgg35 Tryz.sizeOf35 (off := 0) (o := 0) (part := (GStep.enc As)) rfl rfl (S.tm rfl) ((S.blk_mem (i := 0) (cells := (GStep.enc As)) (b := b1) (T := 35) rfl (ne_nil (e' := .blk b1 (GStep.enc As) 35))).kept hw))) ?_;clear S;intro a S
   refine d_loud1 11 (by kernel_rfl) rfl (l_want S rfl rfl rfl hb3 (l_enter S (fun _ => run_callV (cap := []) (S.tm rfl) (vs := [.agg (GStep.enc (nth Ah x1)).toArray, .agg (GStep.enc As).toArray]) ⟨(S.tm rfl), (S.tm rfl), trivial⟩ Tryz.call30) (record_compare_ok _ (nth Ah x1) As _ rfl) rfl ?_));clear S;intro v4 a w12 hv4 hk7 hn4 S
   subst hv4
   refine Ld (d_next hk7 (d_rest [12, 13, 14, 15] hsel (by kernel_rfl) rfl ?_))
   clear hsel
   refine s_want S rfl rfl rfl rfl hb3 (s_lv0 S (rn_eql (S.tm rfl) rfl) rfl ?_);clear S;intro a S
   refine s_lv S rfl (rn_pick_b hb3 (S.tm rfl) (S.tm rfl)) rfl ?_;clear S;intro a S
   refine s_lv S rfl (Ra (S.tm rfl)) rfl ?_;clear S;intro a S
   refine s_lv S rfl (Ra (S.tm rfl)) rfl ?_;clear S;intro a S
   refine s_done ?_
   replace S := S.nk [] [(6, iV x1), (7, bV (decide ((record_compare (nth Ah x1) As) = 0)))] [false] rfl (subR rfl)
   refine Tn ?_
   exact ⟨decide ((record_compare (nth Ah x1) As) = 0), h, S.nf [] rfl (subR rfl)⟩
  ·replace h := iteF h hb3
   refine d_region [] ([]) Tryz.mixed S rfl (by kernel_rfl) ?_;clear S;intro w13 hk8 hsel S
   refine d_rest [0, 1, 2, 3, 4, 5, 6, 7, 8, 9, 10, 11, 12, 13, 14, 15] hsel (by kernel_rfl) rfl ?_
   clear hsel
   iterate 3 (refine s_lv S rfl (Rm (S.tm rfl)) rfl ?_;clear S;intro a S)
   refine s_lv S rfl (rn_lss (S.tm rfl) (S.tm rfl)) rfl ?_;clear S;intro a S
   refine s_lv S rfl (Rm (S.tm rfl)) rfl ?_;clear S;intro a S
   iterate 8 (refine s_skip S rfl rfl rfl rfl (neq_f hb3) rfl ?_ rfl;clear S;intro a S)
   refine s_lv S rfl (rn_pick_c hb3 (S.tm rfl) rfl) rfl ?_;clear S;intro a S
   refine s_lv S rfl (Ra (S.tm rfl)) rfl ?_;clear S;intro a S
   refine s_lv S rfl (Ra (S.tm rfl)) rfl ?_;clear S;intro a S
   refine s_done ?_
   replace S := S.nk [] [(6, iV x1), (7, bV false)] [false] rfl (subR rfl)
   refine Tn ?_
   exact ⟨false, h, S.nf [] rfl (subR rfl)⟩
 clear S h;rintro a w9 ⟨x7, h, S⟩;rw [hj4] at h;clear hj4 j4
 refine Tn (wp_ret ?_)
 obtain rfl := Option.some.inj h
 exact f_ret2 S Tryz.results29 rfl rfl rfl
theorem slices_SortFunc_Step_record_compare_ok (w : World) (Bc : Value) (Ah : List GStep) (Cn : (LEnt.own Bc 35 8 Ah.length (Ah.flatMap GStep.enc)).holds w) (r : (List GStep)) (h : slices_SortFunc_Step_record_compare Ah = some r) :
    Calls Tryz.prog 31 [Bc, .func (.func 30) #[] #[]].toArray w (Ret w (Bc.ownBlock.toList) fun _ v w' => (LEnt.own Bc 35 8 r.length (r.flatMap GStep.enc)).holds w' ∧ v = .tuple #[]) := by
  unfold slices_SortFunc_Step_record_compare at h
  split at h
  · rename_i hc
    obtain rfl := Option.some.inj h
    exact sort_own (enc := GStep.enc) Tryz.laysg31 Tryz.isAgg35 Tryz.sizeOf35 GStep.enc_ok (enters_of Tryz.func30 (by kernel_rfl) rfl) (fun w x y => D.record_compare_ok w x y _ rfl) hc.1 hc.2 Cn
  · cases h
set_option maxRecDepth 20000 in
theorem record_Merge_ok (w : World) (Bm : Value) (Ap : List GStep) (Cl : Slc (view w []) 8 Bm (Ap.map GStep.enc)) (Bp : Value) (Ao : List GStep) (Cm : Slc (view w []) 8 Bp (Ao.map GStep.enc)) (r : (List GStep) × Int) (h : record_Merge Ap Ao = some r) :
    Calls Tryz.prog 11 [Bm, Bp].toArray w (Ret w [] fun τ v _ => ∃ u1 : Value, v = .tuple #[u1, iV r.2] ∧ OwnV τ 35 8 u1 r.1.length (r.1.flatMap GStep.enc)) := by
 refine f_enter [] [] Tryz.func11 rfl Tryz.ntmps11 rfl (by simp) (by simp [fps]) (by simp [fps]) fun a S => ?_
 unfold record_Merge at h
 replace S := S.nk [] [(0, Bm), (1, Bp)] [] rfl (subR rfl)
 refine Fs (Fg (lv S (Ra rfl) rfl ?_));clear S;intro a S
 refine lv S (Ra rfl) rfl ?_;clear S;intro a S
 refine Ld (Tn (Fs (Fs (Fg (lv S (Rm (S.tm rfl)) rfl ?_)))));clear S;intro a S
 obtain ⟨r1, hr1, h⟩ := bindE h
 refine l_enter S (fun _ => run_call (vs := [Bm]) ⟨(S.tm rfl), trivial⟩ Tryz.call22) (record_CheckSteps_ok _ Bm Ap (Cl.mono (S.le_arg nil_sub)) _ hr1) rfl ?_;clear S;intro v1 a w1 hv1 hk1 hn1 S
 subst hv1
 refine lv S (Ra (S.tm rfl)) rfl ?_;clear S;intro a S
 refine Ld (Tn (Fs (Fg (lv S (Rm (S.tm rfl)) rfl ?_))));clear S;intro a S
 refine lv S (rn_neq (S.tm rfl) rfl) rfl ?_;clear S;intro a S
 refine Ld (Tn (f_cond (S.tm rfl) (fun hb1 => ?_) (fun hb1 => ?_)))
 ·replace h := iteT h hb1
  refine Fs (Fg (lv S (Rm (S.tm rfl)) rfl ?_));clear S;intro a S
  refine lv S (Ra rfl) rfl ?_;clear S;intro a S
  refine lv S (Ra (S.tm rfl)) rfl ?_;clear S;intro a S
  refine Ld (Tn (wp_ret (then_r ?_)))
  obtain rfl := Option.some.inj h
  exact f_ret2 S Tryz.results11 rfl rfl ⟨_, rfl, (ownV_nil _ _ _)⟩
 ·replace h := iteF h hb1
  refine wp_skip (Tn (Fs (Fs (Fg (lv S (Rm (S.tm rfl)) rfl ?_)))));clear S;intro a S
  obtain ⟨r2, hr2, h⟩ := bindE h
  refine l_enter S (fun _ => run_call (vs := [Bp]) ⟨(S.tm rfl), trivial⟩ Tryz.call22) (record_CheckSteps_ok _ Bp Ao (Cm.mono (S.le_arg nil_sub)) _ hr2) rfl ?_;clear S;intro v2 a w2 hv2 hk2 hn2 S
  subst hv2
  refine lv S (Ra (S.tm rfl)) rfl ?_;clear S;intro a S
  refine Ld (Tn (Fs (Fg (lv S (Rm (S.tm rfl)) rfl ?_))));clear S;intro a S
  refine lv S (rn_neq (S.tm rfl) rfl) rfl ?_;clear S;intro a S
  refine Ld (Tn (f_cond (S.tm rfl) (fun hb2 => ?_) (fun hb2 => ?_)))
  ·replace h := iteT h hb2
   refine Fs (Fg (lv S (Rm (S.tm rfl)) rfl ?_));clear S;intro a S
   refine lv S (Ra rfl) rfl ?_;clear S;intro a S
   refine lv S (Ra (S.tm rfl)) rfl ?_;clear S;intro a S
   refine Ld ?_
   replace S := S.nk [] [(4, .slice none 0 0), (5, iV r2)] [] rfl (subR rfl)
   refine Tn (wp_ret (then_r ?_))
   obtain rfl := Option.some.inj h
   exact f_ret2 S Tryz.results11 rfl rfl ⟨_, rfl, (ownV_nil _ _ _)⟩
  ·replace h := iteF h hb2
   refine wp_skip (Tn (Fs (Fg (lv S (Rm (S.tm rfl)) rfl ?_))));clear S;intro a S
   obtain ⟨r3, hr3, h⟩ := bindE h
   have hz1 := S.keep.size
   refine l_enter S (fun _ => run_call (vs := [Bm]) ⟨(S.tm rfl), trivial⟩ Tryz.call28) (slices_Clone_Step_ok _ Bm Ap (Cl.mono (S.le_arg nil_sub)) _ hr3) rfl ?_;clear S;intro v3 a w3 hv3 hk3 hn3 S
   replace S := S.take hn3 hz1 hv3
   refine lv S (Ra (S.tm rfl)) rfl ?_;clear S;intro a S
   refine Ld ?_
   replace S := S.nk [.own v3 35 8 r3.length (r3.flatMap GStep.enc)] [(0, Bm), (1, Bp), (8, v3)] [true] rfl (subR rfl)
   refine Tn (Fs (Fs (Fg (lv S (Rm (S.tm rfl)) rfl ?_))));clear S;intro a S
   refine lv S (rn_lenT sl_28 (S.tm rfl) (slc_len Cm)) rfl ?_;clear S;intro a S
   refine lv S (Rm rfl) rfl ?_;clear S;intro a S
   refine Ld (Tn ?_)
   replace S := S.nk [.own v3 35 8 r3.length (r3.flatMap GStep.enc)] [(0, Bm), (8, v3), (25, Bp), (26, iV (Ao.length : Int)), (27, iV 0)] [true] rfl (subR rfl)
   obtain ⟨j1, hj1, h⟩ := joinE h
   refine f_join (fun a w' => ∃ x1 : List GStep, ∃ v4 : Value, j1 x1 = some r ∧ Sx w [] nov [.own v4 35 8 x1.length (x1.flatMap GStep.enc)] [(8, v4)] 56 a w') ?_ ?_
   ·refine wp_block (f_loop (fun (ys1 : List GStep) a w' => ∃ i1 : Nat, ∃ x1 : List GStep, ∃ v4 : Value, (∃ dn, Ao = dn ++ ys1 ∧ dn.length = i1) ∧ record_Merge_l1 Ap j1 ys1 i1 x1 = some r ∧ Sx w [] nov [.own v4 35 8 x1.length (x1.flatMap GStep.enc)] [(0, Bm), (8, v4), (25, Bp), (26, iV (Ao.length : Int)), (27, iV (i1 : Int))] 56 a w') List.length Ao ⟨0, r3, v3, ⟨[], rfl, rfl⟩, h, S.nf [true] rfl (subR rfl)⟩ ?_)
    clear S h;rintro ys1 a w4 ⟨i1, x1, v4, ⟨dn, hd1, hi1⟩, h, S⟩
    cases ys1 with
    | nil =>
     rw [record_Merge_l1.eq_1] at h
     refine Fs (Fg (lv S (rn_lss (S.tm rfl) (S.tm rfl)) rfl ?_));clear S;intro a S
     refine Ld ?_
     replace S := S.nk [.own v4 35 8 x1.length (x1.flatMap GStep.enc)] [(0, Bm), (8, v4), (25, Bp), (26, iV (Ao.length : Int)), (27, iV (i1 : Int)), (28, bV (decide ((i1 : Int) < (Ao.length : Int))))] [true] rfl (subR rfl)
     refine Tn (Fs (wp_cond_false ((S.tm rfl).trans (congrArg Value.bool (rng_nil hd1 hi1))) (wp_exit (then_x (then_x (x_same ?_))))))
     refine Tn ?_
     exact ⟨x1, v4, h, S.nf [true] rfl ⟨rfl, trivial⟩⟩
    | cons y1 ys1 =>
     rw [record_Merge_l1.eq_2] at h
     refine Fs (Fg (lv S (rn_lss (S.tm rfl) (S.tm rfl)) rfl ?_));clear S;intro a S
     refine Ld ?_
     replace S := S.nk [.own v4 35 8 x1.length (x1.flatMap GStep.enc)] [(0, Bm), (8, v4), (25, Bp), (26, iV (Ao.length : Int)), (27, iV (i1 : Int)), (28, bV (decide ((i1 : Int) < (Ao.length : Int))))] [true] rfl (subR rfl)
     refine Tn (Fs (wp_cond_true ((S.tm rfl).trans (congrArg Value.bool (rng_cons hd1 hi1))) (wp_skip (Tn (Fs ?_)))))
     obtain ⟨j2, hj2, h⟩ := joinE h
     refine f_join (fun a w' => ∃ x2 : List GStep, ∃ v5 : Value, j2 x2 = some r ∧ Sx w [] nov [.own v5 35 8 x2.length (x2.flatMap GStep.enc)] [(0, Bm), (8, v5), (25, Bp), (26, iV (Ao.length : Int)), (27, iV (i1 : Int))] 56 a w') ?_ ?_
     ·refine wp_block (Fs (Fg ?_))
      obtain ⟨b1, o1, hm1, hr4⟩ := rn_indexT (a := a) (x := .tmp 25) (y := .tmp 27) (ty := 0) sl_28 Cm (get_mid hd1 hi1) rfl (S.tm rfl) (S.tm rfl)
      refine lv S (hr4 _) rfl ?_;clear S;intro a S
      clear hr4
      refine lv S (rn_ldA Tryz.isAgg35 Tryz.sizeOf35 (off := o1) (o := 0) (part := (GStep.enc y1)) rfl rfl (S.tm rfl) (hm1.at S.emb0)) rfl ?_;clear S;intro a S
      refine l_alloc S Tryz.zeroValue35 (cs := [iV 0, iV 0, sV k_empty, sV k_empty, sV k_empty, sV k_empty, iV 0, iV 0]) rfl rfl ?_;clear S;intro a w7 b2 hz2 hk4 S
      refine l_store S (S.tm rfl) (S.tm rfl) (i := 0) (off := 0) rfl Tryz.sizeOf35 (vs := (GStep.enc y1)) rfl rfl rfl rfl ?_;clear S;intro w8 hk5 S
      refine Ld (Tn (Fs (Fg (lv S (Rm (S.tm rfl)) rfl ?_))));clear S;intro a S
      refine lv S (rn_ldA Tryz.isAgg35 Tryz.sizeOf35 (off := 0) (o := 0) (part := (GStep.enc y1)) rfl rfl (S.tm rfl) (S.cellsAt (i := 0) rfl)) rfl ?_;clear S;intro a S
      obtain ⟨r4, hr5, h⟩ := bindE h
      refine l_enter S (fun _ => run_call (vs := [Bm, .agg (GStep.enc y1).toArray, .func (.func 30) #[] #[]]) ⟨(S.tm rfl), (S.tm rfl), rfl, trivial⟩ Tryz.call29) (slices_BinarySearchFunc_Step_record_compare_ok _ Bm Ap (Cl.mono (S.le_arg nil_sub)) y1 _ hr5) rfl ?_;clear S;intro v6 a w9 hv4 hk6 hn4 S
      subst hv4
      refine lv S (Rm (S.tm rfl)) rfl ?_;clear S;intro a S
      refine lv S (rn_extract (S.tm rfl) rfl) rfl ?_;clear S;intro a S
      refine lv S (rn_extract (S.tm rfl) rfl) rfl ?_;clear S;intro a S
      refine lv S (Ra (S.tm rfl)) rfl ?_;clear S;intro a S
      refine lv S (Ra (S.tm rfl)) rfl ?_;clear S;intro a S
      refine Ld ?_
      replace S := S.nk [.blk b2 (GStep.enc y1) 35, .own v4 35 8 x1.length (x1.flatMap GStep.enc)] [(0, Bm), (8, v4), (10, .pointer (some ⟨b2, 0, none⟩)), (11, iV r4.1), (12, bV r4.2), (25, Bp), (26, iV (Ao.length : Int)), (27, iV (i1 : Int))] [true, true] rfl (subR rfl)
      refine Tn (Fs (Fg (lv S (Rm (S.tm rfl)) rfl ?_)));clear S;intro a S
      refine lv S (rn_not (S.tm rfl)) rfl ?_;clear S;intro a S
      refine Ld (Tn ?_)
      obtain ⟨j3, hj3, h⟩ := joinE h
      refine f_join (fun a w' => ∃ x3 : List GStep, ∃ v7 : Value, j3 x3 = some r ∧ Sx w [] nov [.own v7 35 8 x3.length (x3.flatMap GStep.enc)] [(0, Bm), (8, v7), (25, Bp), (26, iV (Ao.length : Int)), (27, iV (i1 : Int))] 56 a w') ?_ ?_
      ·refine f_cond (S.tm rfl) (fun hb3 => ?_) (fun hb3 => ?_)
       ·replace h := iteT h hb3
        refine Fg (lv S (Rm (S.tm rfl)) rfl ?_);clear S;intro a S
        refine lv S (rn_ldA Tryz.isAgg35 Tryz.sizeOf35 (off := 0) (o := 0) (part := (GStep.enc y1)) rfl rfl (S.tm rfl) (S.cellsAt (i := 0) rfl)) rfl ?_;clear S;intro a S
        refine l_buildSlice S Tryz.underlying28 Tryz.sizeOf35 Tryz.zeroValue35 rfl rfl (pv := [(0, .agg (GStep.enc y1).toArray)]) ⟨rfl, (S.tm rfl), trivial⟩ (cs := [iV y1.At, iV y1.Kind, sV y1.Id, sV y1.Who, sV y1.Club, sV y1.Race, iV y1.Age, iV y1.Time]) (by kernel_rfl) rfl ?_;clear S;intro a w11 b3 hz3 hk7 S
        obtain ⟨hc1, h⟩ := chkE h
        refine l_appendT sl_28 GStep.enc_ok S (S.tm rfl) (i := 2) rfl (S.tm rfl) (j := 0) rfl (ys := [y1]) rfl rfl rfl rfl (by have := room_lt hc1;omega) rfl ?_;clear S;intro v8 a w12 hk8 S
        refine lv S (Ra (S.tm rfl)) rfl ?_;clear S;intro a S
        refine Ld (Tn ?_)
        exact ⟨(x1 ++ [y1]), v8, h, S.nf [false, false, true] rfl (subR rfl)⟩
       ·replace h := iteF h hb3
        refine Fs (d_region [] ([]) Tryz.mixed S rfl (by kernel_rfl) ?_);clear S;intro w13 hk9 hsel S
        refine d_rest [0, 1, 2, 3, 4, 5] hsel (by kernel_rfl) rfl ?_
        clear hsel
        refine s_lv S rfl (Rm (S.tm rfl)) rfl ?_;clear S;intro a S
        refine s_lv S rfl (Rm (S.tm rfl)) rfl ?_;clear S;intro a S
        obtain ⟨hc2, h⟩ := chkE h
        obtain ⟨b4, o2, hm2, hr6⟩ := rn_indexT (a := a) (x := .tmp 43) (y := .tmp 44) (ty := 0) sl_28 Cl (inB_get hc2).1 (inB_get hc2).2 (S.tm rfl) (S.tm rfl)
        refine s_lv S rfl (hr6 _) rfl ?_;clear S;intro a S
        clear hr6
        refine s_lv S rfl (rn_ldA Tryz.isAgg35 Tryz.sizeOf35 (off := o2) (o := 0) (part := (GStep.enc (nth Ap r4.1))) rfl rfl (S.tm rfl) (hm2.at S.emb0)) rfl ?_;clear S;intro a S
        refine s_lv S rfl (rn_ldA Tryz.isAgg35 Tryz.sizeOf35 (off := 0) (o := 0) (part := (GStep.enc y1)) rfl rfl (S.tm rfl) (S.cellsAt (i := 0) rfl)) rfl ?_;clear S;intro a S
        refine s_lv S rfl (rn_neq_35 (m := (nth Ap r4.1)) (n := y1) (S.tm rfl) (S.tm rfl)) rfl ?_;clear S;intro a S
        refine s_done ?_
        replace S := S.nk [.own v4 35 8 x1.length (x1.flatMap GStep.enc)] [(0, Bm), (8, v4), (25, Bp), (26, iV (Ao.length : Int)), (27, iV (i1 : Int)), (48, bV (!decide ((nth Ap r4.1) = y1)))] [false, true] rfl (subR rfl)
        refine Tn (f_cond (S.tm rfl) (fun hb4 => ?_) (fun hb4 => ?_))
        ·replace h := iteT h hb4
         refine Fs (Fg (lv S (Ra rfl) rfl ?_));clear S;intro a S
         refine lv S (Ra rfl) rfl ?_;clear S;intro a S
         refine Ld (Tn (wp_ret (then_r (blk_r (then_r (then_r ?_))))))
         refine then_r (blk_r (then_r (then_r ?_)))
         obtain rfl := Option.some.inj h
         exact f_ret2 S Tryz.results11 rfl rfl ⟨_, rfl, (ownV_nil _ _ _)⟩
        ·replace h := iteF h hb4
         refine wp_skip (Tn ?_)
         exact ⟨x1, v4, h, S.nf [true] rfl (subR rfl)⟩
      clear S h;rintro a w10 ⟨x3, v7, h, S⟩;rw [hj3] at h;clear hj3 j3
      refine blk_n (Tn ?_)
      exact ⟨x3, v7, h, S.nf [true] rfl (subR rfl)⟩
     clear S h;rintro a w6 ⟨x2, v5, h, S⟩;rw [hj2] at h;clear hj2 j2
     refine Tn (Fg (lv S (rn_add (S.tm rfl) rfl) rfl ?_));clear S;intro a S
     refine lv S (Rm (S.tm rfl)) rfl ?_;clear S;intro a S
     refine Ld (Tn ?_)
     exact ⟨ys1, ⟨i1 + 1, x2, v5, ⟨_, (hd1).trans (List.append_cons _ _ _), by simp [hi1]⟩, h, S.nf [true] rfl ⟨rfl, rfl, rfl, rfl, (congrArg (fun z => some (Value.int .i64 z)) (rng_next hd1 hi1 (slc_max Cm))), trivial⟩⟩, Nat.lt_succ_self _⟩
   clear S h;rintro a w5 ⟨x1, v4, h, S⟩;rw [hj1] at h;clear hj1 j1
   refine Tn (Fs (Fs (Fg (lv S (Rm (S.tm rfl)) rfl ?_))));clear S;intro a S
   refine lv S (rn_lenT sl_28 (S.tm rfl) (own_len (S.own_at (i := 0) rfl))) rfl ?_;clear S;intro a S
   refine lv S (rn_gtr (S.tm rfl) rfl) rfl ?_;clear S;intro a S
   refine Ld (Tn (f_cond (S.tm rfl) (fun hb5 => ?_) (fun hb5 => ?_)))
   ·replace h := iteT h hb5
    refine Fs (Fg (lv S (Ra rfl) rfl ?_));clear S;intro a S
    refine lv S (Ra rfl) rfl ?_;clear S;intro a S
    refine Ld (Tn (wp_ret (then_r ?_)))
    obtain rfl := Option.some.inj h
    exact f_ret2 S Tryz.results11 rfl rfl ⟨_, rfl, (ownV_nil _ _ _)⟩
   ·replace h := iteF h hb5
    refine wp_skip (Tn (Fs (Fg (lv S (Rm (S.tm rfl)) rfl ?_))));clear S;intro a S
    obtain ⟨r5, hr7, h⟩ := bindE h
    refine l_enterO 0 S rfl (fun _ => .own v4 35 8 r5.length (r5.flatMap GStep.enc)) (fun _ => run_call (vs := [v4, .func (.func 30) #[] #[]]) ⟨(S.tm rfl), rfl, trivial⟩ Tryz.call31) (slices_SortFunc_Step_record_compare_ok _ v4 x1 (S.holds _ (List.mem_of_getElem? (i := 0) rfl)) _ hr7) rfl (fun _ _ _ h => ⟨h.1, fun _ hc => hc⟩) ?_;clear S;intro v9 a w14 hv5 hk10 hn5 S
    replace hv5 := hv5.2
    subst hv5
    refine Ld (Tn (Fs (Fg (lv S (Rm (S.tm rfl)) rfl ?_))));clear S;intro a S
    refine lv S (Ra (S.tm rfl)) rfl ?_;clear S;intro a S
    refine lv S (Ra rfl) rfl ?_;clear S;intro a S
    refine Ld (Tn (wp_ret ?_))
    obtain rfl := Option.some.inj h
    exact f_ret2 S Tryz.results11 rfl rfl ⟨_, rfl, (own_retT S (i := 0) rfl rfl)⟩
theorem tumbkeep2_errs_ok (w : World) (V : Value) (Z : List Int) (Ae : Slc (view w []) 1 V (Z.map eInt)) (r : Int) (h : tumbkeep2_errs Z = r) :
    Calls Tryz.prog 12 [V].toArray w (Ret w [] fun _ v _ => v = iV r) := by
 refine f_enter [] [] Tryz.func12 rfl Tryz.ntmps12 rfl (by simp) (by simp [fps]) (by simp [fps]) fun a S => ?_
 unfold tumbkeep2_errs at h
 replace S := S.nk [] [(0, V)] [] rfl ⟨rfl, trivial⟩
 refine Fs (Fg (lv S (Ra rfl) rfl ?_));clear S;intro a S
 refine Ld (Tn (Fs (Fs (Fg (lv S (Rm (S.tm rfl)) rfl ?_)))));clear S;intro a S
 refine lv S (rn_lenT sl_70 (S.tm rfl) (slc_len Ae)) rfl ?_;clear S;intro a S
 refine lv S (Rm rfl) rfl ?_;clear S;intro a S
 refine Ld (Tn ?_)
 replace S := S.nk [] [(5, V), (6, iV (Z.length : Int)), (7, iV 0)] [] rfl (subR rfl)
 obtain ⟨j1, hj1, h⟩ := joinE h
 refine f_join (fun a w' => j1 = r ∧ Sx w [] nov [] [] 15 a w') ?_ ?_
 ·refine wp_block (f_loop (fun (ys1 : List Int) a w' => ∃ i1 : Nat, (∃ dn, Z = dn ++ ys1 ∧ dn.length = i1) ∧ tumbkeep2_errs_l1 j1 ys1 i1 = r ∧ Sx w [] nov [] [(5, V), (6, iV (Z.length : Int)), (7, iV (i1 : Int))] 15 a w') List.length Z ⟨0, ⟨[], rfl, rfl⟩, h, S.nf [] rfl (subR rfl)⟩ ?_)
  clear S h;rintro ys1 a w1 ⟨i1, ⟨dn, hd1, hi1⟩, h, S⟩
  cases ys1 with
  | nil =>
   rw [tumbkeep2_errs_l1.eq_1] at h
   refine Fs (Fg (lv S (rn_lss (S.tm rfl) (S.tm rfl)) rfl ?_));clear S;intro a S
   refine Ld ?_
   replace S := S.nk [] [(5, V), (6, iV (Z.length : Int)), (7, iV (i1 : Int)), (8, bV (decide ((i1 : Int) < (Z.length : Int))))] [] rfl (subR rfl)
   refine Tn (Fs (wp_cond_false ((S.tm rfl).trans (congrArg Value.bool (rng_nil hd1 hi1))) (wp_exit (then_x (then_x (x_same ?_))))))
   refine Tn ?_
   exact ⟨h, S.nf [] rfl trivial⟩
  | cons y1 ys1 =>
   rw [tumbkeep2_errs_l1.eq_2] at h
   refine Fs (Fg (lv S (rn_lss (S.tm rfl) (S.tm rfl)) rfl ?_));clear S;intro a S
   refine Ld ?_
   replace S := S.nk [] [(5, V), (6, iV (Z.length : Int)), (7, iV (i1 : Int)), (8, bV (decide ((i1 : Int) < (Z.length : Int))))] [] rfl (subR rfl)
   refine Tn (Fs (wp_cond_true ((S.tm rfl).trans (congrArg Value.bool (rng_cons hd1 hi1))) (wp_skip (Tn (Fs (wp_block ?_))))))
   refine Fs (Fg ?_)
   obtain ⟨b1, o1, hm1, hr1⟩ := rn_indexT (a := a) (x := .tmp 5) (y := .tmp 7) (ty := 0) sl_70 Ae (get_mid hd1 hi1) rfl (S.tm rfl) (S.tm rfl)
   refine lv S (hr1 _) rfl ?_;clear S;intro a S
   clear hr1
   refine lv S (rn_ld Tryz.isAgg31 (off := o1) (o := 0) (S.tm rfl) (hm1.at S.emb0) rfl) rfl ?_;clear S;intro a S
   refine lv S (Ra (S.tm rfl)) rfl ?_;clear S;intro a S
   refine Ld (Tn (Fs (Fg (lv S (Rm (S.tm rfl)) rfl ?_))));clear S;intro a S
   refine lv S (rn_neq (S.tm rfl) rfl) rfl ?_;clear S;intro a S
   refine Ld (Tn (f_cond (S.tm rfl) (fun hb1 => ?_) (fun hb1 => ?_)))
   ·replace h := iteT h hb1
    refine Fs (Fg (lv S (Rm (S.tm rfl)) rfl ?_));clear S;intro a S
    refine lv S (Ra (S.tm rfl)) rfl ?_;clear S;intro a S
    refine Ld (Tn (wp_ret (blk_r (then_r (then_r (blk_r ?_))))))
    refine then_r (then_r ?_)
    subst h
    exact f_ret S Tryz.results12 rfl rfl
   ·replace h := iteF h hb1
    refine wp_skip (blk_n (Tn (Fg (lv S (rn_add (S.tm rfl) rfl) rfl ?_))));clear S;intro a S
    refine lv S (Rm (S.tm rfl)) rfl ?_;clear S;intro a S
    refine Ld (Tn ?_)
    exact ⟨ys1, ⟨i1 + 1, ⟨_, (hd1).trans (List.append_cons _ _ _), by simp [hi1]⟩, h, S.nf [] rfl ⟨rfl, rfl, (congrArg (fun z => some (Value.int .i64 z)) (rng_next hd1 hi1 (slc_max Ae))), trivial⟩⟩, Nat.lt_succ_self _⟩
 clear S h;rintro a w2 ⟨h, S⟩;rw [hj1] at h;clear hj1 j1
 refine Tn (Fs (Fg (lv S (Ra rfl) rfl ?_)));clear S;intro a S
 refine Ld (Tn (wp_ret ?_))
 subst h
 exact f_ret S Tryz.results12 rfl rfl
set_option maxRecDepth 20000 in
theorem slices_Equal_Best_ok (w : World) (Bi : Value) (Bl : List GBest) (Bq : Slc (view w []) 6 Bi (Bl.map GBest.enc)) (Bj : Value) (Bx : List GBest) (Ci : Slc (view w []) 6 Bj (Bx.map GBest.enc)) (r : Bool) (h : slices_Equal_Best Bl Bx = some r) :
    Calls Tryz.prog 13 [Bi, Bj].toArray w (Ret w [] fun _ v _ => v = bV r) := by
 refine f_enter [] [] Tryz.func13 rfl Tryz.ntmps13 rfl (by simp) (by simp [fps]) (by simp [fps]) fun a S => ?_
 unfold slices_Equal_Best at h
 replace S := S.nk [] [(0, Bi), (1, Bj)] [] rfl (subR rfl)
 refine Fs (Fg (lv S (Ra rfl) rfl ?_));clear S;intro a S
 refine Ld (Tn (Fs (Fs (Fg (lv S (Rm (S.tm rfl)) rfl ?_)))));clear S;intro a S
 refine lv S (rn_lenT sl_37 (S.tm rfl) (slc_len Bq)) rfl ?_;clear S;intro a S
 refine lv S (Rm (S.tm rfl)) rfl ?_;clear S;intro a S
 refine lv S (rn_lenT sl_37 (S.tm rfl) (slc_len Ci)) rfl ?_;clear S;intro a S
 refine lv S (rn_neq (S.tm rfl) (S.tm rfl)) rfl ?_;clear S;intro a S
 refine Ld (Tn (f_cond (S.tm rfl) (fun hb1 => ?_) (fun hb1 => ?_)))
 ·replace h := iteT h hb1
  refine Fs (Fg (lv S (Ra rfl) rfl ?_));clear S;intro a S
  refine Ld (Tn (wp_ret (then_r ?_)))
  obtain rfl := Option.some.inj h
  exact f_ret S Tryz.results13 rfl rfl
 ·replace h := iteF h hb1
  refine wp_skip (Tn (Fs (Fs (Fg (lv S (Rm (S.tm rfl)) rfl ?_)))));clear S;intro a S
  refine lv S (rn_lenT sl_37 (S.tm rfl) (slc_len Bq)) rfl ?_;clear S;intro a S
  refine lv S (Rm rfl) rfl ?_;clear S;intro a S
  refine Ld (Tn ?_)
  replace S := S.nk [] [(0, Bi), (1, Bj), (12, iV (Bl.length : Int)), (13, iV 0)] [] rfl (subR rfl)
  obtain ⟨j1, hj1, h⟩ := joinE h
  refine f_join (fun a w' => j1 = some r ∧ Sx w [] nov [] [] 26 a w') ?_ ?_
  ·refine wp_block (f_loop (fun (ys1 : List GBest) a w' => ∃ i1 : Nat, (∃ dn, Bl = dn ++ ys1 ∧ dn.length = i1) ∧ slices_Equal_Best_l1 Bx j1 ys1 i1 = some r ∧ Sx w [] nov [] [(0, Bi), (1, Bj), (12, iV (Bl.length : Int)), (13, iV (i1 : Int))] 26 a w') List.length Bl ⟨0, ⟨[], rfl, rfl⟩, h, S.nf [] rfl (subR rfl)⟩ ?_)
   clear S h;rintro ys1 a w1 ⟨i1, ⟨dn, hd1, hi1⟩, h, S⟩
   cases ys1 with
   | nil =>
    rw [slices_Equal_Best_l1.eq_1] at h
    refine Fs (Fg (lv S (rn_lss (S.tm rfl) (S.tm rfl)) rfl ?_));clear S;intro a S
    refine Ld ?_
    replace S := S.nk [] [(0, Bi), (1, Bj), (12, iV (Bl.length : Int)), (13, iV (i1 : Int)), (14, bV (decide ((i1 : Int) < (Bl.length : Int))))] [] rfl (subR rfl)
    refine Tn (Fs (wp_cond_false ((S.tm rfl).trans (congrArg Value.bool (rng_nil hd1 hi1))) (wp_exit (then_x (then_x (x_same ?_))))))
    refine Tn ?_
    exact ⟨h, S.nf [] rfl trivial⟩
   | cons y1 ys1 =>
    rw [slices_Equal_Best_l1.eq_2] at h
    refine Fs (Fg (lv S (rn_lss (S.tm rfl) (S.tm rfl)) rfl ?_));clear S;intro a S
    refine Ld ?_
    replace S := S.nk [] [(0, Bi), (1, Bj), (12, iV (Bl.length : Int)), (13, iV (i1 : Int)), (14, bV (decide ((i1 : Int) < (Bl.length : Int))))] [] rfl (subR rfl)
    refine Tn (Fs (wp_cond_true ((S.tm rfl).trans (congrArg Value.bool (rng_cons hd1 hi1))) (wp_skip (Tn (Fs (wp_block ?_))))))
    refine Fs (Fg (lv S (Rm (S.tm rfl)) rfl ?_));clear S;intro a S
    refine lv S (Ra (S.tm rfl)) rfl ?_;clear S;intro a S
    refine Ld (Tn (Fs (d_region [] ([]) Tryz.mixed S rfl (by kernel_rfl) ?_)));clear S;intro w3 hk1 hsel S
    refine d_rest [0, 1, 2, 3, 4, 5, 6, 7, 8] hsel (by kernel_rfl) rfl ?_
    clear hsel
    refine s_lv S rfl (Rm (S.tm rfl)) rfl ?_;clear S;intro a S
    refine s_lv S rfl (Rm (S.tm rfl)) rfl ?_;clear S;intro a S
    obtain ⟨b1, o1, hm1, hr1⟩ := rn_indexT (a := a) (x := .tmp 16) (y := .tmp 17) (ty := 0) sl_37 Bq (get_mid hd1 hi1) rfl (S.tm rfl) (S.tm rfl)
    refine s_lv S rfl (hr1 _) rfl ?_;clear S;intro a S
    clear hr1
    refine s_lv S rfl (rn_ldA Tryz.isAgg47 Tryz.sizeOf47 (off := o1) (o := 0) (part := (GBest.enc y1)) rfl rfl (S.tm rfl) (hm1.at S.emb0)) rfl ?_;clear S;intro a S
    refine s_lv S rfl (Rm (S.tm rfl)) rfl ?_;clear S;intro a S
    refine s_lv S rfl (Rm (S.tm rfl)) rfl ?_;clear S;intro a S
    obtain ⟨hc1, h⟩ := chkE h
    obtain ⟨b2, o2, hm2, hr2⟩ := rn_indexT (a := a) (x := .tmp 20) (y := .tmp 21) (ty := 0) sl_37 Ci (inB_get hc1).1 (inB_get hc1).2 (S.tm rfl) (S.tm rfl)
    refine s_lv S rfl (hr2 _) rfl ?_;clear S;intro a S
    clear hr2
    refine s_lv S rfl (rn_ldA Tryz.isAgg47 Tryz.sizeOf47 (off := o2) (o := 0) (part := (GBest.enc (nth Bx (i1 : Int)))) rfl rfl (S.tm rfl) (hm2.at S.emb0)) rfl ?_;clear S;intro a S
    refine s_lv S rfl (rn_neq_47 (m := y1) (n := (nth Bx (i1 : Int))) (S.tm rfl) (S.tm rfl)) rfl ?_;clear S;intro a S
    refine s_done ?_
    replace S := S.nk [] [(0, Bi), (1, Bj), (12, iV (Bl.length : Int)), (13, iV (i1 : Int)), (24, bV (!decide (y1 = (nth Bx (i1 : Int)))))] [] rfl (subR rfl)
    refine Tn (f_cond (S.tm rfl) (fun hb2 => ?_) (fun hb2 => ?_))
    ·replace h := iteT h hb2
     refine Fs (Fg (lv S (Ra rfl) rfl ?_));clear S;intro a S
     refine Ld (Tn (wp_ret (blk_r (then_r (then_r (blk_r ?_))))))
     refine then_r (then_r ?_)
     obtain rfl := Option.some.inj h
     exact f_ret S Tryz.results13 rfl rfl
    ·replace h := iteF h hb2
     refine wp_skip (blk_n (Tn (Fg (lv S (rn_add (S.tm rfl) rfl) rfl ?_))));clear S;intro a S
     refine lv S (Rm (S.tm rfl)) rfl ?_;clear S;intro a S
     refine Ld (Tn ?_)
     exact ⟨ys1, ⟨i1 + 1, ⟨_, (hd1).trans (List.append_cons _ _ _), by simp [hi1]⟩, h, S.nf [] rfl ⟨rfl, rfl, rfl, (congrArg (fun z => some (Value.int .i64 z)) (rng_next hd1 hi1 (slc_max Bq))), trivial⟩⟩, Nat.lt_succ_self _⟩
  clear S h;rintro a w2 ⟨h, S⟩;rw [hj1] at h;clear hj1 j1
  refine Tn (Fs (Fg (lv S (Ra rfl) rfl ?_)));clear S;intro a S
  refine Ld (Tn (wp_ret ?_))
  obtain rfl := Option.some.inj h
  exact f_ret S Tryz.results13 rfl rfl
set_option maxRecDepth 20000 in
theorem slices_Equal_Step_ok (w : World) (Bi : Value) (Bl : List GStep) (Bq : Slc (view w []) 8 Bi (Bl.map GStep.enc)) (Bj : Value) (Bx : List GStep) (Ci : Slc (view w []) 8 Bj (Bx.map GStep.enc)) (r : Bool) (h : slices_Equal_Step Bl Bx = some r) :
    Calls Tryz.prog 14 [Bi, Bj].toArray w (Ret w [] fun _ v _ => v = bV r) := by
 refine f_enter [] [] Tryz.func14 rfl Tryz.ntmps14 rfl (by simp) (by simp [fps]) (by simp [fps]) fun a S => ?_
 unfold slices_Equal_Step at h
 replace S := S.nk [] [(0, Bi), (1, Bj)] [] rfl (subR rfl)
 refine Fs (Fg (lv S (Ra rfl) rfl ?_));clear S;intro a S
 refine Ld (Tn (Fs (Fs (Fg (lv S (Rm (S.tm rfl)) rfl ?_)))));clear S;intro a S
 refine lv S (rn_lenT sl_28 (S.tm rfl) (slc_len Bq)) rfl ?_;clear S;intro a S
 refine lv S (Rm (S.tm rfl)) rfl ?_;clear S;intro a S
 refine lv S (rn_lenT sl_28 (S.tm rfl) (slc_len Ci)) rfl ?_;clear S;intro a S
 refine lv S (rn_neq (S.tm rfl) (S.tm rfl)) rfl ?_;clear S;intro a S
 refine Ld (Tn (f_cond (S.tm rfl) (fun hb1 => ?_) (fun hb1 => ?_)))
 ·replace h := iteT h hb1
  refine Fs (Fg (lv S (Ra rfl) rfl ?_));clear S;intro a S
  refine Ld (Tn (wp_ret (then_r ?_)))
  obtain rfl := Option.some.inj h
  exact f_ret S Tryz.results14 rfl rfl
 ·replace h := iteF h hb1
  refine wp_skip (Tn (Fs (Fs (Fg (lv S (Rm (S.tm rfl)) rfl ?_)))));clear S;intro a S
  refine lv S (rn_lenT sl_28 (S.tm rfl) (slc_len Bq)) rfl ?_;clear S;intro a S
  refine lv S (Rm rfl) rfl ?_;clear S;intro a S
  refine Ld (Tn ?_)
  replace S := S.nk [] [(0, Bi), (1, Bj), (12, iV (Bl.length : Int)), (13, iV 0)] [] rfl (subR rfl)
  obtain ⟨j1, hj1, h⟩ := joinE h
  refine f_join (fun a w' => j1 = some r ∧ Sx w [] nov [] [] 26 a w') ?_ ?_
  ·refine wp_block (f_loop (fun (ys1 : List GStep) a w' => ∃ i1 : Nat, (∃ dn, Bl = dn ++ ys1 ∧ dn.length = i1) ∧ slices_Equal_Step_l1 Bx j1 ys1 i1 = some r ∧ Sx w [] nov [] [(0, Bi), (1, Bj), (12, iV (Bl.length : Int)), (13, iV (i1 : Int))] 26 a w') List.length Bl ⟨0, ⟨[], rfl, rfl⟩, h, S.nf [] rfl (subR rfl)⟩ ?_)
   clear S h;rintro ys1 a w1 ⟨i1, ⟨dn, hd1, hi1⟩, h, S⟩
   cases ys1 with
   | nil =>
    rw [slices_Equal_Step_l1.eq_1] at h
    refine Fs (Fg (lv S (rn_lss (S.tm rfl) (S.tm rfl)) rfl ?_));clear S;intro a S
    refine Ld ?_
    replace S := S.nk [] [(0, Bi), (1, Bj), (12, iV (Bl.length : Int)), (13, iV (i1 : Int)), (14, bV (decide ((i1 : Int) < (Bl.length : Int))))] [] rfl (subR rfl)
    refine Tn (Fs (wp_cond_false ((S.tm rfl).trans (congrArg Value.bool (rng_nil hd1 hi1))) (wp_exit (then_x (then_x (x_same ?_))))))
    refine Tn ?_
    exact ⟨h, S.nf [] rfl trivial⟩
   | cons y1 ys1 =>
    rw [slices_Equal_Step_l1.eq_2] at h
    refine Fs (Fg (lv S (rn_lss (S.tm rfl) (S.tm rfl)) rfl ?_));clear S;intro a S
    refine Ld ?_
    replace S := S.nk [] [(0, Bi), (1, Bj), (12, iV (Bl.length : Int)), (13, iV (i1 : Int)), (14, bV (decide ((i1 : Int) < (Bl.length : Int))))] [] rfl (subR rfl)
    refine Tn (Fs (wp_cond_true ((S.tm rfl).trans (congrArg Value.bool (rng_cons hd1 hi1))) (wp_skip (Tn (Fs (wp_block ?_))))))
    refine Fs (Fg (lv S (Rm (S.tm rfl)) rfl ?_));clear S;intro a S
    refine lv S (Ra (S.tm rfl)) rfl ?_;clear S;intro a S
    refine Ld (Tn (Fs (d_region [] ([]) Tryz.mixed S rfl (by kernel_rfl) ?_)));clear S;intro w3 hk1 hsel S
    refine d_rest [0, 1, 2, 3, 4, 5, 6, 7, 8] hsel (by kernel_rfl) rfl ?_
    clear hsel
    refine s_lv S rfl (Rm (S.tm rfl)) rfl ?_;clear S;intro a S
    refine s_lv S rfl (Rm (S.tm rfl)) rfl ?_;clear S;intro a S
    obtain ⟨b1, o1, hm1, hr1⟩ := rn_indexT (a := a) (x := .tmp 16) (y := .tmp 17) (ty := 0) sl_28 Bq (get_mid hd1 hi1) rfl (S.tm rfl) (S.tm rfl)
    refine s_lv S rfl (hr1 _) rfl ?_;clear S;intro a S
    clear hr1
    refine s_lv S rfl (rn_ldA Tryz.isAgg35 Tryz.sizeOf35 (off := o1) (o := 0) (part := (GStep.enc y1)) rfl rfl (S.tm rfl) (hm1.at S.emb0)) rfl ?_;clear S;intro a S
    refine s_lv S rfl (Rm (S.tm rfl)) rfl ?_;clear S;intro a S
    refine s_lv S rfl (Rm (S.tm rfl)) rfl ?_;clear S;intro a S
    obtain ⟨hc1, h⟩ := chkE h
    obtain ⟨b2, o2, hm2, hr2⟩ := rn_indexT (a := a) (x := .tmp 20) (y := .tmp 21) (ty := 0) sl_28 Ci (inB_get hc1).1 (inB_get hc1).2 (S.tm rfl) (S.tm rfl)
    refine s_lv S rfl (hr2 _) rfl ?_;clear S;intro a S
    clear hr2
    refine s_lv S rfl (rn_ldA Tryz.isAgg35 Tryz.sizeOf35 (off := o2) (o := 0) (part := (GStep.enc (nth Bx (i1 : Int)))) rfl rfl (S.tm rfl) (hm2.at S.emb0)) rfl ?_;clear S;intro a S
    refine s_lv S rfl (rn_neq_35 (m := y1) (n := (nth Bx (i1 : Int))) (S.tm rfl) (S.tm rfl)) rfl ?_;clear S;intro a S
    refine s_done ?_
    replace S := S.nk [] [(0, Bi), (1, Bj), (12, iV (Bl.length : Int)), (13, iV (i1 : Int)), (24, bV (!decide (y1 = (nth Bx (i1 : Int)))))] [] rfl (subR rfl)
    refine Tn (f_cond (S.tm rfl) (fun hb2 => ?_) (fun hb2 => ?_))
    ·replace h := iteT h hb2
     refine Fs (Fg (lv S (Ra rfl) rfl ?_));clear S;intro a S
     refine Ld (Tn (wp_ret (blk_r (then_r (then_r (blk_r ?_))))))
     refine then_r (then_r ?_)
     obtain rfl := Option.some.inj h
     exact f_ret S Tryz.results14 rfl rfl
    ·replace h := iteF h hb2
     refine wp_skip (blk_n (Tn (Fg (lv S (rn_add (S.tm rfl) rfl) rfl ?_))));clear S;intro a S
     refine lv S (Rm (S.tm rfl)) rfl ?_;clear S;intro a S
     refine Ld (Tn ?_)
     exact ⟨ys1, ⟨i1 + 1, ⟨_, (hd1).trans (List.append_cons _ _ _), by simp [hi1]⟩, h, S.nf [] rfl ⟨rfl, rfl, rfl, (congrArg (fun z => some (Value.int .i64 z)) (rng_next hd1 hi1 (slc_max Bq))), trivial⟩⟩, Nat.lt_succ_self _⟩
  clear S h;rintro a w2 ⟨h, S⟩;rw [hj1] at h;clear hj1 j1
  refine Tn (Fs (Fg (lv S (Ra rfl) rfl ?_)));clear S;intro a S
  refine Ld (Tn (wp_ret ?_))
  obtain rfl := Option.some.inj h
  exact f_ret S Tryz.results14 rfl rfl
theorem swimmer_leap_ok (w : World) (Az : Int) (r : Bool) (h : swimmer_leap Az = r) :
    Calls Tryz.prog 83 [iV Az].toArray w (Ret w [] fun _ v _ => v = bV r) := by
 refine f_enter [] [] Tryz.func83 rfl Tryz.ntmps83 rfl (by simp) (by simp [fps]) (by simp [fps]) fun a S => ?_
 unfold swimmer_leap at h
 replace S := S.nk [] [(0, iV Az)] [] rfl ⟨rfl, trivial⟩
 refine Fs (Fg (lv S (Ra rfl) rfl ?_));clear S;intro a S
 refine Ld (Tn (Fs (Fg (lv S (Rm (S.tm rfl)) rfl ?_))));clear S;intro a S
 refine lv S (rn_rem (S.tm rfl) rfl (by decide)) rfl ?_;clear S;intro a S
 refine lv S (rn_eql (S.tm rfl) rfl) rfl ?_;clear S;intro a S
 refine lv S (Rm (S.tm rfl)) rfl ?_;clear S;intro a S
 refine f_cutm 9 (fun a w' => Keep [] w w' ∧ Sx w [] nov [] [(15, bV ((decide ((Int.tmod Az 4) = 0)) && ((!decide ((Int.tmod Az 100) = 0)) || (decide ((Int.tmod Az 400) = 0)))))] 16 a w') ?_ ?_
 ·rcases Bool.eq_false_or_eq_true (decide ((Int.tmod Az 4) = 0)) with hb1 | hb1
  ·refine l_want S rfl rfl rfl hb1 (lv S (Rm (S.tm rfl)) rfl ?_);clear S;intro a S
   refine l_want S rfl rfl rfl hb1 (lv S (rn_rem (S.tm rfl) rfl (by decide)) rfl ?_);clear S;intro a S
   refine l_want S rfl rfl rfl hb1 (lv S (rn_neq (S.tm rfl) rfl) rfl ?_);clear S;intro a S
   refine l_want S rfl rfl rfl hb1 (lv S (Rm (S.tm rfl)) rfl ?_);clear S;intro a S
   refine f_cutm 4 (fun a w' => Keep [] w w' ∧ Sx w [] nov [] [(6, bV (decide ((Int.tmod Az 4) = 0))), (14, bV ((!decide ((Int.tmod Az 100) = 0)) || (decide ((Int.tmod Az 400) = 0))))] 16 a w') ?_ ?_
   ·rcases Bool.eq_false_or_eq_true (!decide ((Int.tmod Az 100) = 0)) with hb2 | hb2
    ·iterate 3 (refine l_skip S rfl rfl rfl (neq_t hb2) rfl ?_ rfl;clear S;intro a S)
     refine l_want S rfl rfl rfl hb1 (lv S (rn_or_t (decide ((Int.tmod Az 400) = 0)) hb2 (S.tm rfl) rfl) rfl ?_);clear S;intro a S
     refine Ld (Tn ?_)
     exact ⟨Keep.refl _ _, S.nf [] rfl (subR rfl)⟩
    ·refine l_want S rfl rfl rfl hb2 (lv S (Rm (S.tm rfl)) rfl ?_);clear S;intro a S
     refine l_want S rfl rfl rfl hb2 (lv S (rn_rem (S.tm rfl) rfl (by decide)) rfl ?_);clear S;intro a S
     refine l_want S rfl rfl rfl hb2 (lv S (rn_eql (S.tm rfl) rfl) rfl ?_);clear S;intro a S
     refine l_want S rfl rfl rfl hb1 (lv S (rn_or_f hb2 (S.tm rfl) (S.tm rfl)) rfl ?_);clear S;intro a S
     refine Ld (Tn ?_)
     exact ⟨Keep.refl _ _, S.nf [] rfl (subR rfl)⟩
   clear S;rintro a w2 ⟨hk1, S⟩
   refine lv S (rn_and_t hb1 (S.tm rfl) (S.tm rfl)) rfl ?_;clear S;intro a S
   refine Ld (Tn ?_)
   exact ⟨hk1, S.nf [] rfl ⟨rfl, trivial⟩⟩
  ·iterate 4 (refine l_skip S rfl rfl rfl (neq_f hb1) rfl ?_ rfl;clear S;intro a S)
   iterate 3 (refine l_skipU S rfl rfl rfl rfl ?_;clear S;intro a S)
   refine l_skip S rfl rfl rfl (neq_f hb1) rfl ?_ rfl;clear S;intro a S
   refine lv S (rn_and_f ((!decide ((Int.tmod Az 100) = 0)) || (decide ((Int.tmod Az 400) = 0))) hb1 (S.tm rfl) rfl) rfl ?_;clear S;intro a S
   refine Ld (Tn ?_)
   exact ⟨Keep.refl _ _, S.nf [] rfl ⟨rfl, trivial⟩⟩
 clear S;rintro a w1 ⟨hk2, S⟩
 refine lv S (Ra (S.tm rfl)) rfl ?_;clear S;intro a S
 refine Ld (Tn (wp_ret ?_))
 subst h
 exact f_ret S Tryz.results83 rfl rfl
theorem swimmer_long_ok (w : World) (Az : Int) (By : Int) (r : Int) (h : swimmer_long Az By = r) :
    Calls Tryz.prog 53 [iV Az, iV By].toArray w (Ret w [] fun _ v _ => v = iV r) := by
 refine f_enter [] [] Tryz.func53 rfl Tryz.ntmps53 rfl (by simp) (by simp [fps]) (by simp [fps]) fun a S => ?_
 unfold swimmer_long at h
 replace S := S.nk [] [(0, iV Az), (1, iV By)] [] rfl (subR rfl)
 refine Fs (Fg (lv S (Ra rfl) rfl ?_));clear S;intro a S
 refine Ld (Tn (Fs (Fs (Fg (lv S (Rm (S.tm rfl)) rfl ?_)))));clear S;intro a S
 refine Ld (Tn (wp_block (Fs (Fg (lv S (rn_eql (S.tm rfl) rfl) rfl ?_)))));clear S;intro a S
 refine lv S (Ra (S.tm rfl)) rfl ?_;clear S;intro a S
 refine Ld (Tn (f_cond (S.tm rfl) (fun hb1 => ?_) (fun hb1 => ?_)))
 ·replace h := iteT h hb1
  refine Fs (Fs (Fg (lv S (Rm (S.tm rfl)) rfl ?_)));clear S;intro a S
  refine l_enter S (fun _ => run_call (vs := [iV Az]) ⟨(S.tm rfl), trivial⟩ Tryz.call83) (swimmer_leap_ok _ Az _ rfl) rfl ?_;clear S;intro v1 a w1 hv1 hk1 hn1 S
  subst hv1
  refine Ld (Tn (f_cond (S.tm rfl) (fun hb2 => ?_) (fun hb2 => ?_)))
  ·replace h := iteT h hb2
   refine Fs (Fg (lv S (Ra rfl) rfl ?_));clear S;intro a S
   refine Ld (Tn (wp_ret (then_r (blk_r (then_r ?_)))))
   subst h
   exact f_ret S Tryz.results53 rfl rfl
  ·replace h := iteF h hb2
   refine wp_skip (Tn (Fs (Fg (lv S (Ra rfl) rfl ?_))));clear S;intro a S
   refine Ld (Tn (wp_ret (blk_r (then_r ?_))))
   subst h
   exact f_ret S Tryz.results53 rfl rfl
 ·replace h := iteF h hb1
  refine Fs (Fs (Fg (lv S (rn_eql (S.tm rfl) rfl) rfl ?_)));clear S;intro a S
  refine lv S (Ra (S.tm rfl)) rfl ?_;clear S;intro a S
  refine Ld (Tn ?_)
  obtain ⟨j1, hj1, h⟩ := joinE h
  refine f_join (fun a w' => ∃ x1 : Bool, j1 x1 = r ∧ Sx w [] nov [] [(10, bV x1)] 15 a w') ?_ ?_
  ·refine f_cond (S.tm rfl) (fun hb3 => ?_) (fun hb3 => ?_)
   ·replace h := iteT h hb3
    refine wp_skip (Tn ?_)
    exact ⟨decide (By = 4), h, S.nf [] rfl ⟨rfl, trivial⟩⟩
   ·replace h := iteF h hb3
    refine Fs (Fg (lv S (rn_eql (S.tm rfl) rfl) rfl ?_));clear S;intro a S
    refine lv S (Ra (S.tm rfl)) rfl ?_;clear S;intro a S
    refine Ld (Tn ?_)
    obtain ⟨j2, hj2, h⟩ := joinE h
    refine f_join (fun a w' => ∃ x2 : Bool, j2 x2 = r ∧ Sx w [] nov [] [(10, bV x2)] 15 a w') ?_ ?_
    ·refine f_cond (S.tm rfl) (fun hb4 => ?_) (fun hb4 => ?_)
     ·replace h := iteT h hb4
      refine wp_skip (Tn ?_)
      exact ⟨decide (By = 6), h, S.nf [] rfl ⟨rfl, trivial⟩⟩
     ·replace h := iteF h hb4
      refine Fs (Fg (lv S (rn_eql (S.tm rfl) rfl) rfl ?_));clear S;intro a S
      refine lv S (Ra (S.tm rfl)) rfl ?_;clear S;intro a S
      refine Ld (Tn ?_)
      obtain ⟨j3, hj3, h⟩ := joinE h
      refine f_join (fun a w' => ∃ x3 : Bool, j3 x3 = r ∧ Sx w [] nov [] [(10, bV x3)] 15 a w') ?_ ?_
      ·refine f_cond (S.tm rfl) (fun hb5 => ?_) (fun hb5 => ?_)
       ·replace h := iteT h hb5
        refine wp_skip (Tn ?_)
        exact ⟨decide (By = 9), h, S.nf [] rfl ⟨rfl, trivial⟩⟩
       ·replace h := iteF h hb5
        refine Fg (lv S (rn_eql (S.tm rfl) rfl) rfl ?_);clear S;intro a S
        refine lv S (Ra (S.tm rfl)) rfl ?_;clear S;intro a S
        refine Ld (Tn ?_)
        exact ⟨decide (By = 11), h, S.nf [] rfl ⟨rfl, trivial⟩⟩
      clear S h;rintro a w4 ⟨x3, h, S⟩;rw [hj3] at h;clear hj3 j3
      refine Tn ?_
      exact ⟨x3, h, S.nf [] rfl ⟨rfl, trivial⟩⟩
    clear S h;rintro a w3 ⟨x2, h, S⟩;rw [hj2] at h;clear hj2 j2
    refine Tn ?_
    exact ⟨x2, h, S.nf [] rfl ⟨rfl, trivial⟩⟩
  clear S h;rintro a w2 ⟨x1, h, S⟩;rw [hj1] at h;clear hj1 j1
  refine Tn (f_cond (S.tm rfl) (fun hb6 => ?_) (fun hb6 => ?_))
  ·replace h := iteT h hb6
   refine Fs (Fg (lv S (Ra rfl) rfl ?_));clear S;intro a S
   refine Ld (Tn (wp_ret (blk_r (then_r ?_))))
   subst h
   exact f_ret S Tryz.results53 rfl rfl
  ·replace h := iteF h hb6
   refine wp_skip (blk_n (Tn (Fs (Fg (lv S (Ra rfl) rfl ?_)))));clear S;intro a S
   refine Ld (Tn (wp_ret ?_))
   subst h
   exact f_ret S Tryz.results53 rfl rfl
theorem swimmer_yearLong_ok (w : World) (Az : Int) (r : Int) (h : swimmer_yearLong Az = r) :
    Calls Tryz.prog 54 [iV Az].toArray w (Ret w [] fun _ v _ => v = iV r) := by
 refine f_enter [] [] Tryz.func54 rfl Tryz.ntmps54 rfl (by simp) (by simp [fps]) (by simp [fps]) fun a S => ?_
 unfold swimmer_yearLong at h
 replace S := S.nk [] [(0, iV Az)] [] rfl ⟨rfl, trivial⟩
 refine Fs (Fg (lv S (Ra rfl) rfl ?_));clear S;intro a S
 refine Ld (Tn (Fs (Fs (Fg (lv S (Rm (S.tm rfl)) rfl ?_)))));clear S;intro a S
 refine l_enter S (fun _ => run_call (vs := [iV Az]) ⟨(S.tm rfl), trivial⟩ Tryz.call83) (swimmer_leap_ok _ Az _ rfl) rfl ?_;clear S;intro v1 a w1 hv1 hk1 hn1 S
 subst hv1
 refine Ld (Tn (f_cond (S.tm rfl) (fun hb1 => ?_) (fun hb1 => ?_)))
 ·replace h := iteT h hb1
  refine Fs (Fg (lv S (Ra rfl) rfl ?_));clear S;intro a S
  refine Ld (Tn (wp_ret (then_r ?_)))
  subst h
  exact f_ret S Tryz.results54 rfl rfl
 ·replace h := iteF h hb1
  refine wp_skip (Tn (Fs (Fg (lv S (Ra rfl) rfl ?_))));clear S;intro a S
  refine Ld (Tn (wp_ret ?_))
  subst h
  exact f_ret S Tryz.results54 rfl rfl
theorem swimmer_isDay_ok (w : World) (Am : Int) (r : Bool) (h : swimmer_isDay Am = r) :
    Calls Tryz.prog 55 [iV Am].toArray w (Ret w [] fun _ v _ => v = bV r) := by
 refine f_enter [] [] Tryz.func55 rfl Tryz.ntmps55 rfl (by simp) (by simp [fps]) (by simp [fps]) fun a S => ?_
 unfold swimmer_isDay at h
 replace S := S.nk [] [(0, iV Am)] [] rfl ⟨rfl, trivial⟩
 refine Fs (Fg (lv S (Ra rfl) rfl ?_));clear S;intro a S
 refine Ld (Tn (Fs (Fg (lv S (Rm (S.tm rfl)) rfl ?_))));clear S;intro a S
 refine l_enter S (fun _ => run_call (vs := [iV Am, iV (-40000), iV 4000]) ⟨(S.tm rfl), rfl, rfl, trivial⟩ Tryz.call52) (words_Within_ok _ Am (-40000) 4000 _ rfl) rfl ?_;clear S;intro v1 a w1 hv1 hk1 hn1 S
 subst hv1
 refine lv S (Ra (S.tm rfl)) rfl ?_;clear S;intro a S
 refine Ld (Tn (wp_ret ?_))
 subst h
 exact f_ret S Tryz.results55 rfl rfl
set_option maxRecDepth 20000 in
theorem swimmer_DayOf_ok (w : World) (Ak : GDate) (r : Int × Int) (h : swimmer_DayOf Ak = some r) :
    Calls Tryz.prog 32 [.agg (GDate.enc Ak).toArray].toArray w (Ret w [] fun _ v _ => v = .tuple #[iV r.1, iV r.2]) := by
 refine f_enter [] [] Tryz.func32 rfl Tryz.ntmps32 rfl (by simp) (by simp [fps]) (by simp [fps]) fun a S => ?_
 unfold swimmer_DayOf at h
 replace S := S.nk [] [(0, .agg (GDate.enc Ak).toArray)] [] rfl ⟨rfl, trivial⟩
 refine Fs (Fg (l_box S (S.tm rfl) (cs := (GDate.enc Ak)) rfl rfl ?_));clear S;intro a w1 b1 hz1 hk1 S
 refine lv S (Ra rfl) rfl ?_;clear S;intro a S
 refine lv S (Ra rfl) rfl ?_;clear S;intro a S
 refine Ld (Tn (Fs (Fs ?_)))
 obtain ⟨j1, hj1, h⟩ := joinE h
 refine f_join (fun a w' => ∃ x1 : Bool, j1 x1 = some r ∧ Sx w [] nov [.blk b1 (GDate.enc Ak) 74] [(1, .pointer (some ⟨b1, 0, none⟩)), (28, bV x1)] 68 a w') ?_ ?_
 ·rcases Bool.eq_false_or_eq_true (!(words_Within Ak.Year 1900 2100)) with hb1 | hb1
  ·replace h := iteT h hb1
   rcases Bool.eq_false_or_eq_true true with hb2 | hb2
   ·replace h := iteT h hb2
    refine d_region [] ([]) Tryz.mixed S rfl (by kernel_rfl) ?_;clear S;intro w6 hk5 hsel S
    refine d_quiet 0 S hsel rfl rfl rfl (by kernel_rfl) (by kernel_rfl) rfl (fun _ hw => (rn_fld fa_74_0 (S.tm rfl))) ?_;clear S;intro a S
    refine d_quiet 1 S hsel rfl rfl rfl (by kernel_rfl) (by kernel_rfl) rfl (fun _ hw => (rn_ld Tryz.isAgg3 (off := 0) (o := 0) (S.tm rfl) ((S.blk_mem (i := 0) (cells := (GDate.enc Ak)) (b := b1) (T := 74) rfl (ne_nil (e' := .blk b1 (GDate.enc Ak) 74))).kept hw) rfl)) ?_;clear S;intro a S
    refine d_loud1 2 (by kernel_rfl) rfl (l_enter S (fun _ => run_call (vs := [iV Ak.Year, iV 1900, iV 2100]) ⟨(S.tm rfl), rfl, rfl, trivial⟩ Tryz.call52) (words_Within_ok _ Ak.Year 1900 2100 _ rfl) rfl ?_);clear S;intro v4 a w7 hv4 hk6 hn4 S
    subst hv4
    refine Ld (d_next hk6 (d_rest [3, 4, 5, 6, 7, 8, 9, 10, 11, 12, 13, 14, 15, 16, 17, 18, 19, 20] hsel (by kernel_rfl) rfl ?_))
    clear hsel
    refine s_lv S rfl (rn_not (S.tm rfl)) rfl ?_;clear S;intro a S
    refine s_lv S rfl (Rm (S.tm rfl)) rfl ?_;clear S;intro a S
    iterate 4 (refine s_skip S rfl rfl rfl rfl (neq_t hb1) rfl ?_ rfl;clear S;intro a S)
    refine s_lv S rfl (rn_pick_b hb1 (S.tm rfl) rfl) rfl ?_;clear S;intro a S
    refine s_lv S rfl (Rm (S.tm rfl)) rfl ?_;clear S;intro a S
    iterate 9 (refine s_skip S rfl rfl rfl rfl (neq_t hb2) rfl ?_ rfl;clear S;intro a S)
    refine s_lv S rfl (rn_pick_b hb2 (S.tm rfl) rfl) rfl ?_;clear S;intro a S
    refine s_done ?_
    replace S := S.nk [.blk b1 (GDate.enc Ak) 74] [(1, .pointer (some ⟨b1, 0, none⟩)), (28, bV true)] [true] rfl (subR rfl)
    refine Tn ?_
    exact ⟨true, h, S.nf [true] rfl (subR rfl)⟩
   ·replace h := iteF h hb2
    refine d_region [] ([]) Tryz.mixed S rfl (by kernel_rfl) ?_;clear S;intro w11 hk10 hsel S
    refine d_quiet 0 S hsel rfl rfl rfl (by kernel_rfl) (by kernel_rfl) rfl (fun _ hw => (rn_fld fa_74_0 (S.tm rfl))) ?_;clear S;intro a S
    refine d_quiet 1 S hsel rfl rfl rfl (by kernel_rfl) (by kernel_rfl) rfl (fun _ hw => (rn_ld Tryz.isAgg3 (off := 0) (o := 0) (S.tm rfl) ((S.blk_mem (i := 0) (cells := (GDate.enc Ak)) (b := b1) (T := 74) rfl (ne_nil (e' := .blk b1 (GDate.enc Ak) 74))).kept hw) rfl)) ?_;clear S;intro a S
    refine d_loud1 2 (by kernel_rfl) rfl (l_enter S (fun _ => run_call (vs := [iV Ak.Year, iV 1900, iV 2100]) ⟨(S.tm rfl), rfl, rfl, trivial⟩ Tryz.call52) (words_Within_ok _ Ak.Year 1900 2100 _ rfl) rfl ?_);clear S;intro v8 a w12 hv8 hk11 hn8 S
    subst hv8
    refine Ld (d_next hk11 (d_quiet 3 S hsel rfl rfl rfl (by kernel_rfl) (by kernel_rfl) rfl (fun _ hw => (rn_not (S.tm rfl))) ?_));clear S;intro a S
    refine d_quiet 4 S hsel rfl rfl rfl (by kernel_rfl) (by kernel_rfl) rfl (fun _ hw => (Rm (S.tm rfl))) ?_;clear S;intro a S
    refine d_skip 5 S hsel rfl rfl rfl rfl (neq_t hb1) rfl (by kernel_rfl) (by kernel_rfl) rfl ?_;clear S;intro a S
    refine d_skip 6 S hsel rfl rfl rfl rfl (neq_t hb1) rfl (by kernel_rfl) (by kernel_rfl) rfl ?_;clear S;intro a S
    refine d_skip 7 S hsel rfl rfl rfl rfl (neq_t hb1) rfl (by kernel_rfl) (by kernel_rfl) rfl ?_;clear S;intro a S
    refine d_skip 8 S hsel rfl rfl rfl rfl (neq_t hb1) rfl (by kernel_rfl) (by kernel_rfl) rfl ?_;clear S;intro a S
    refine d_quiet 9 S hsel rfl rfl rfl (by kernel_rfl) (by kernel_rfl) rfl (fun _ hw => (rn_pick_b hb1 (S.tm rfl) rfl)) ?_;clear S;intro a S
    refine d_quiet 10 S hsel rfl rfl rfl (by kernel_rfl) (by kernel_rfl) rfl (fun _ hw => (Rm (S.tm rfl))) ?_;clear S;intro a S
    refine d_quiet_g 11 S hsel rfl rfl rfl rfl hb2 rfl rfl (by kernel_rfl) (by kernel_rfl) rfl (fun _ hw => (rn_fld fa_74_2 (S.tm rfl))) ?_;clear S;intro a S
    refine d_quiet_g 12 S hsel rfl rfl rfl rfl hb2 rfl rfl (by kernel_rfl) (by kernel_rfl) rfl (fun _ hw => (rn_ld Tryz.isAgg3 (off := 0) (o := 2) (S.tm rfl) ((S.blk_mem (i := 0) (cells := (GDate.enc Ak)) (b := b1) (T := 74) rfl (ne_nil (e' := .blk b1 (GDate.enc Ak) 74))).kept hw) rfl)) ?_;clear S;intro a S
    refine d_quiet_g 13 S hsel rfl rfl rfl rfl hb2 rfl rfl (by kernel_rfl) (by kernel_rfl) rfl (fun _ hw => (rn_fld fa_74_0 (S.tm rfl))) ?_;clear S;intro a S
    refine d_quiet_g 14 S hsel rfl rfl rfl rfl hb2 rfl rfl (by kernel_rfl) (by kernel_rfl) rfl (fun _ hw => (rn_ld Tryz.isAgg3 (off := 0) (o := 0) (S.tm rfl) ((S.blk_mem (i := 0) (cells := (GDate.enc Ak)) (b := b1) (T := 74) rfl (ne_nil (e' := .blk b1 (GDate.enc Ak) 74))).kept hw) rfl)) ?_;clear S;intro a S
    refine d_quiet_g 15 S hsel rfl rfl rfl rfl hb2 rfl rfl (by kernel_rfl) (by kernel_rfl) rfl (fun _ hw => (rn_fld fa_74_1 (S.tm rfl))) ?_;clear S;intro a S
    refine d_quiet_g 16 S hsel rfl rfl rfl rfl hb2 rfl rfl (by kernel_rfl) (by kernel_rfl) rfl (fun _ hw => (rn_ld Tryz.isAgg3 (off := 0) (o := 1) (S.tm rfl) ((S.blk_mem (i := 0) (cells := (GDate.enc Ak)) (b := b1) (T := 74) rfl (ne_nil (e' := .blk b1 (GDate.enc Ak) 74))).kept hw) rfl)) ?_;clear S;intro a S
    refine d_loud1 17 (by kernel_rfl) rfl (l_want S rfl rfl rfl hb2 (l_enter S (fun _ => run_call (vs := [iV Ak.Year, iV Ak.Month]) ⟨(S.tm rfl), (S.tm rfl), trivial⟩ Tryz.call53) (swimmer_long_ok _ Ak.Year Ak.Month _ rfl) rfl ?_));clear S;intro v9 a w13 hv9 hk12 hn9 S
    subst hv9
    refine Ld (d_next hk12 (d_loud1 18 (by kernel_rfl) rfl (l_want S rfl rfl rfl hb2 (l_enter S (fun _ => run_call (vs := [iV Ak.Day, iV 1, iV (swimmer_long Ak.Year Ak.Month)]) ⟨(S.tm rfl), rfl, (S.tm rfl), trivial⟩ Tryz.call52) (words_Within_ok _ Ak.Day 1 (swimmer_long Ak.Year Ak.Month) _ rfl) rfl ?_))));clear S;intro v10 a w14 hv10 hk13 hn10 S
    subst hv10
    refine Ld (d_next hk13 (d_rest [19, 20] hsel (by kernel_rfl) rfl ?_))
    clear hsel
    refine s_want S rfl rfl rfl rfl hb2 (s_lv0 S (rn_not (S.tm rfl)) rfl ?_);clear S;intro a S
    refine s_lv S rfl (rn_pick_c hb2 (S.tm rfl) (S.tm rfl)) rfl ?_;clear S;intro a S
    refine s_done ?_
    replace S := S.nk [.blk b1 (GDate.enc Ak) 74] [(1, .pointer (some ⟨b1, 0, none⟩)), (28, bV (!(words_Within Ak.Day 1 (swimmer_long Ak.Year Ak.Month))))] [true] rfl (subR rfl)
    refine Tn ?_
    exact ⟨!(words_Within Ak.Day 1 (swimmer_long Ak.Year Ak.Month)), h, S.nf [true] rfl (subR rfl)⟩
  ·replace h := iteF h hb1
   rcases Bool.eq_false_or_eq_true (!(words_Within Ak.Month 1 12)) with hb3 | hb3
   ·replace h := iteT h hb3
    refine d_region [] ([]) Tryz.mixed S rfl (by kernel_rfl) ?_;clear S;intro w19 hk18 hsel S
    refine d_quiet 0 S hsel rfl rfl rfl (by kernel_rfl) (by kernel_rfl) rfl (fun _ hw => (rn_fld fa_74_0 (S.tm rfl))) ?_;clear S;intro a S
    refine d_quiet 1 S hsel rfl rfl rfl (by kernel_rfl) (by kernel_rfl) rfl (fun _ hw => (rn_ld Tryz.isAgg3 (off := 0) (o := 0) (S.tm rfl) ((S.blk_mem (i := 0) (cells := (GDate.enc Ak)) (b := b1) (T := 74) rfl (ne_nil (e' := .blk b1 (GDate.enc Ak) 74))).kept hw) rfl)) ?_;clear S;intro a S
    refine d_loud1 2 (by kernel_rfl) rfl (l_enter S (fun _ => run_call (vs := [iV Ak.Year, iV 1900, iV 2100]) ⟨(S.tm rfl), rfl, rfl, trivial⟩ Tryz.call52) (words_Within_ok _ Ak.Year 1900 2100 _ rfl) rfl ?_);clear S;intro v15 a w20 hv15 hk19 hn15 S
    subst hv15
    refine Ld (d_next hk19 (d_quiet 3 S hsel rfl rfl rfl (by kernel_rfl) (by kernel_rfl) rfl (fun _ hw => (rn_not (S.tm rfl))) ?_));clear S;intro a S
    refine d_quiet 4 S hsel rfl rfl rfl (by kernel_rfl) (by kernel_rfl) rfl (fun _ hw => (Rm (S.tm rfl))) ?_;clear S;intro a S
    refine d_quiet_g 5 S hsel rfl rfl rfl rfl hb1 rfl rfl (by kernel_rfl) (by kernel_rfl) rfl (fun _ hw => (rn_fld fa_74_1 (S.tm rfl))) ?_;clear S;intro a S
    refine d_quiet_g 6 S hsel rfl rfl rfl rfl hb1 rfl rfl (by kernel_rfl) (by kernel_rfl) rfl (fun _ hw => (rn_ld Tryz.isAgg3 (off := 0) (o := 1) (S.tm rfl) ((S.blk_mem (i := 0) (cells := (GDate.enc Ak)) (b := b1) (T := 74) rfl (ne_nil (e' := .blk b1 (GDate.enc Ak) 74))).kept hw) rfl)) ?_;clear S;intro a S
    refine d_loud1 7 (by kernel_rfl) rfl (l_want S rfl rfl rfl hb1 (l_enter S (fun _ => run_call (vs := [iV Ak.Month, iV 1, iV 12]) ⟨(S.tm rfl), rfl, rfl, trivial⟩ Tryz.call52) (words_Within_ok _ Ak.Month 1 12 _ rfl) rfl ?_));clear S;intro v16 a w21 hv16 hk20 hn16 S
    subst hv16
    refine Ld (d_next hk20 (d_rest [8, 9, 10, 11, 12, 13, 14, 15, 16, 17, 18, 19, 20] hsel (by kernel_rfl) rfl ?_))
    clear hsel
    refine s_want S rfl rfl rfl rfl hb1 (s_lv0 S (rn_not (S.tm rfl)) rfl ?_);clear S;intro a S
    refine s_lv S rfl (rn_pick_c hb1 (S.tm rfl) (S.tm rfl)) rfl ?_;clear S;intro a S
    refine s_lv S rfl (Rm (S.tm rfl)) rfl ?_;clear S;intro a S
    iterate 9 (refine s_skip S rfl rfl rfl rfl (neq_t hb3) rfl ?_ rfl;clear S;intro a S)
    refine s_lv S rfl (rn_pick_b hb3 (S.tm rfl) rfl) rfl ?_;clear S;intro a S
    refine s_done ?_
    replace S := S.nk [.blk b1 (GDate.enc Ak) 74] [(1, .pointer (some ⟨b1, 0, none⟩)), (28, bV true)] [true] rfl (subR rfl)
    refine Tn ?_
    exact ⟨true, h, S.nf [true] rfl (subR rfl)⟩
   ·replace h := iteF h hb3
    refine d_region [] ([]) Tryz.mixed S rfl (by kernel_rfl) ?_;clear S;intro w26 hk25 hsel S
    refine d_quiet 0 S hsel rfl rfl rfl (by kernel_rfl) (by kernel_rfl) rfl (fun _ hw => (rn_fld fa_74_0 (S.tm rfl))) ?_;clear S;intro a S
    refine d_quiet 1 S hsel rfl rfl rfl (by kernel_rfl) (by kernel_rfl) rfl (fun _ hw => (rn_ld Tryz.isAgg3 (off := 0) (o := 0) (S.tm rfl) ((S.blk_mem (i := 0) (cells := (GDate.enc Ak)) (b := b1) (T := 74) rfl (ne_nil (e' := .blk b1 (GDate.enc Ak) 74))).kept hw) rfl)) ?_;clear S;intro a S
    refine d_loud1 2 (by kernel_rfl) rfl (l_enter S (fun _ => run_call (vs := [iV Ak.Year, iV 1900, iV 2100]) ⟨(S.tm rfl), rfl, rfl, trivial⟩ Tryz.call52) (words_Within_ok _ Ak.Year 1900 2100 _ rfl) rfl ?_);clear S;intro v21 a w27 hv21 hk26 hn21 S
    subst hv21
    refine Ld (d_next hk26 (d_quiet 3 S hsel rfl rfl rfl (by kernel_rfl) (by kernel_rfl) rfl (fun _ hw => (rn_not (S.tm rfl))) ?_));clear S;intro a S
    refine d_quiet 4 S hsel rfl rfl rfl (by kernel_rfl) (by kernel_rfl) rfl (fun _ hw => (Rm (S.tm rfl))) ?_;clear S;intro a S
    refine d_quiet_g 5 S hsel rfl rfl rfl rfl hb1 rfl rfl (by kernel_rfl) (by kernel_rfl) rfl (fun _ hw => (rn_fld fa_74_1 (S.tm rfl))) ?_;clear S;intro a S
    refine d_quiet_g 6 S hsel rfl rfl rfl rfl hb1 rfl rfl (by kernel_rfl) (by kernel_rfl) rfl (fun _ hw => (rn_ld Tryz.isAgg3 (off := 0) (o := 1) (S.tm rfl) ((S.blk_mem (i := 0) (cells := (GDate.enc Ak)) (b := b1) (T := 74) rfl (ne_nil (e' := .blk b1 (GDate.enc Ak) 74))).kept hw) rfl)) ?_;clear S;intro a S
    refine d_loud1 7 (by kernel_rfl) rfl (l_want S rfl rfl rfl hb1 (l_enter S (fun _ => run_call (vs := [iV Ak.Month, iV 1, iV 12]) ⟨(S.tm rfl), rfl, rfl, trivial⟩ Tryz.call52) (words_Within_ok _ Ak.Month 1 12 _ rfl) rfl ?_));clear S;intro v22 a w28 hv22 hk27 hn22 S
    subst hv22
    refine Ld (d_next hk27 (d_quiet_g 8 S hsel rfl rfl rfl rfl hb1 rfl rfl (by kernel_rfl) (by kernel_rfl) rfl (fun _ hw => (rn_not (S.tm rfl))) ?_));clear S;intro a S
    refine d_quiet 9 S hsel rfl rfl rfl (by kernel_rfl) (by kernel_rfl) rfl (fun _ hw => (rn_pick_c hb1 (S.tm rfl) (S.tm rfl))) ?_;clear S;intro a S
    refine d_quiet 10 S hsel rfl rfl rfl (by kernel_rfl) (by kernel_rfl) rfl (fun _ hw => (Rm (S.tm rfl))) ?_;clear S;intro a S
    refine d_quiet_g 11 S hsel rfl rfl rfl rfl hb3 rfl rfl (by kernel_rfl) (by kernel_rfl) rfl (fun _ hw => (rn_fld fa_74_2 (S.tm rfl))) ?_;clear S;intro a S
    refine d_quiet_g 12 S hsel rfl rfl rfl rfl hb3 rfl rfl (by kernel_rfl) (by kernel_rfl) rfl (fun _ hw => (rn_ld Tryz.isAgg3 (off := 0) (o := 2) (S.tm rfl) ((S.blk_mem (i := 0) (cells := (GDate.enc Ak)) (b := b1) (T := 74) rfl (ne_nil (e' := .blk b1 (GDate.enc Ak) 74))).kept hw) rfl)) ?_;clear S;intro a S
    refine d_quiet_g 13 S hsel rfl rfl rfl rfl hb3 rfl rfl (by kernel_rfl) (by kernel_rfl) rfl (fun _ hw => (rn_fld fa_74_0 (S.tm rfl))) ?_;clear S;intro a S
    refine d_quiet_g 14 S hsel rfl rfl rfl rfl hb3 rfl rfl (by kernel_rfl) (by kernel_rfl) rfl (fun _ hw => (rn_ld Tryz.isAgg3 (off := 0) (o := 0) (S.tm rfl) ((S.blk_mem (i := 0) (cells := (GDate.enc Ak)) (b := b1) (T := 74) rfl (ne_nil (e' := .blk b1 (GDate.enc Ak) 74))).kept hw) rfl)) ?_;clear S;intro a S
    refine d_quiet_g 15 S hsel rfl rfl rfl rfl hb3 rfl rfl (by kernel_rfl) (by kernel_rfl) rfl (fun _ hw => (rn_fld fa_74_1 (S.tm rfl))) ?_;clear S;intro a S
    refine d_quiet_g 16 S hsel rfl rfl rfl rfl hb3 rfl rfl (by kernel_rfl) (by kernel_rfl) rfl (fun _ hw => (rn_ld Tryz.isAgg3 (off := 0) (o := 1) (S.tm rfl) ((S.blk_mem (i := 0) (cells := (GDate.enc Ak)) (b := b1) (T := 74) rfl (ne_nil (e' := .blk b1 (GDate.enc Ak) 74))).kept hw) rfl)) ?_;clear S;intro a S
    refine d_loud1 17 (by kernel_rfl) rfl (l_want S rfl rfl rfl hb3 (l_enter S (fun _ => run_call (vs := [iV Ak.Year, iV Ak.Month]) ⟨(S.tm rfl), (S.tm rfl), trivial⟩ Tryz.call53) (swimmer_long_ok _ Ak.Year Ak.Month _ rfl) rfl ?_));clear S;intro v23 a w29 hv23 hk28 hn23 S
    subst hv23
    refine Ld (d_next hk28 (d_loud1 18 (by kernel_rfl) rfl (l_want S rfl rfl rfl hb3 (l_enter S (fun _ => run_call (vs := [iV Ak.Day, iV 1, iV (swimmer_long Ak.Year Ak.Month)]) ⟨(S.tm rfl), rfl, (S.tm rfl), trivial⟩ Tryz.call52) (words_Within_ok _ Ak.Day 1 (swimmer_long Ak.Year Ak.Month) _ rfl) rfl ?_))));clear S;intro v24 a w30 hv24 hk29 hn24 S
    subst hv24
    refine Ld (d_next hk29 (d_rest [19, 20] hsel (by kernel_rfl) rfl ?_))
    clear hsel
    refine s_want S rfl rfl rfl rfl hb3 (s_lv0 S (rn_not (S.tm rfl)) rfl ?_);clear S;intro a S
    refine s_lv S rfl (rn_pick_c hb3 (S.tm rfl) (S.tm rfl)) rfl ?_;clear S;intro a S
    refine s_done ?_
    replace S := S.nk [.blk b1 (GDate.enc Ak) 74] [(1, .pointer (some ⟨b1, 0, none⟩)), (28, bV (!(words_Within Ak.Day 1 (swimmer_long Ak.Year Ak.Month))))] [true] rfl (subR rfl)
    refine Tn ?_
    exact ⟨!(words_Within Ak.Day 1 (swimmer_long Ak.Year Ak.Month)), h, S.nf [true] rfl (subR rfl)⟩
 clear S h;rintro a w2 ⟨x1, h, S⟩;rw [hj1] at h;clear hj1 j1
 refine Tn (f_cond (S.tm rfl) (fun hb4 => ?_) (fun hb4 => ?_))
 ·replace h := iteT h hb4
  refine Fs (Fg (lv S (Ra rfl) rfl ?_));clear S;intro a S
  refine lv S (Ra rfl) rfl ?_;clear S;intro a S
  refine Ld (Tn (wp_ret (then_r ?_)))
  obtain rfl := Option.some.inj h
  exact f_ret2 S Tryz.results32 rfl rfl rfl
 ·replace h := iteF h hb4
  refine wp_skip (Tn (Fs (Fg (lv S (rn_fld fa_74_2 (S.tm rfl)) rfl ?_))));clear S;intro a S
  refine lv S (rn_load Tryz.isAgg3 (S.tm rfl) (S.cell (i := 0) rfl rfl)) rfl ?_;clear S;intro a S
  refine lv S (rn_sub (S.tm rfl) rfl) rfl ?_;clear S;intro a S
  refine lv S (Ra (S.tm rfl)) rfl ?_;clear S;intro a S
  refine Ld (Tn (Fs (Fs (Fg (lv S (Ra rfl) rfl ?_)))));clear S;intro a S
  refine Ld (Tn ?_)
  replace S := S.nk [.blk b1 (GDate.enc Ak) 74] [(1, .pointer (some ⟨b1, 0, none⟩)), (4, iV (W (Ak.Day - 1))), (5, iV 1)] [true] rfl (subR rfl)
  obtain ⟨j2, hj2, h⟩ := joinE h
  refine f_join (fun a w' => ∃ x2 : Int, j2 x2 = some r ∧ Sx w [] nov [.blk b1 (GDate.enc Ak) 74] [(1, .pointer (some ⟨b1, 0, none⟩)), (4, iV x2)] 68 a w') ?_ ?_
  ·refine wp_block (f_loop (fun (m1 : Nat) a w' => ∃ x2 : Int, ∃ x3 : Int, swimmer_DayOf_l1 Ak j2 m1 x2 x3 = some r ∧ Sx w [] nov [.blk b1 (GDate.enc Ak) 74] [(1, .pointer (some ⟨b1, 0, none⟩)), (4, iV x2), (5, iV x3)] 68 a w') id ((Ak.Month - 1).toNat + 2) ⟨W (Ak.Day - 1), 1, h, S.nf [true] rfl (subR rfl)⟩ ?_)
   clear S h;rintro m1 a w31 ⟨x2, x3, h, S⟩
   cases m1 with
   | zero => rw [swimmer_DayOf_l1.eq_1] at h;cases h
   | succ m1 =>
    rw [swimmer_DayOf_l1.eq_2] at h
    refine Fs (Fs (Fg (lv S (Rm (S.tm rfl)) rfl ?_)));clear S;intro a S
    refine lv S (rn_fld fa_74_1 (S.tm rfl)) rfl ?_;clear S;intro a S
    refine lv S (rn_load Tryz.isAgg3 (S.tm rfl) (S.cell (i := 0) rfl rfl)) rfl ?_;clear S;intro a S
    refine lv S (rn_lss (S.tm rfl) (S.tm rfl)) rfl ?_;clear S;intro a S
    refine Ld (Tn (f_cond (S.tm rfl) (fun hb5 => ?_) (fun hb5 => ?_)))
    ·replace h := iteT h hb5
     refine wp_skip (Tn (Fs (wp_block (Fg (lv S (Rm (S.tm rfl)) rfl ?_)))));clear S;intro a S
     refine lv S (rn_fld fa_74_0 (S.tm rfl)) rfl ?_;clear S;intro a S
     refine lv S (rn_load Tryz.isAgg3 (S.tm rfl) (S.cell (i := 0) rfl rfl)) rfl ?_;clear S;intro a S
     refine lv S (Rm (S.tm rfl)) rfl ?_;clear S;intro a S
     refine l_enter S (fun _ => run_call (vs := [iV Ak.Year, iV x3]) ⟨(S.tm rfl), (S.tm rfl), trivial⟩ Tryz.call53) (swimmer_long_ok _ Ak.Year x3 _ rfl) rfl ?_;clear S;intro v25 a w33 hv25 hk30 hn25 S
     subst hv25
     refine lv S (rn_add (S.tm rfl) (S.tm rfl)) rfl ?_;clear S;intro a S
     refine lv S (Ra (S.tm rfl)) rfl ?_;clear S;intro a S
     refine Ld (blk_n (Tn (Fg (lv S (Rm (S.tm rfl)) rfl ?_))));clear S;intro a S
     refine lv S (rn_add (S.tm rfl) rfl) rfl ?_;clear S;intro a S
     refine lv S (Ra (S.tm rfl)) rfl ?_;clear S;intro a S
     refine Ld ?_
     replace S := S.nk [.blk b1 (GDate.enc Ak) 74] [(1, .pointer (some ⟨b1, 0, none⟩)), (4, iV (W (x2 + (swimmer_long Ak.Year x3)))), (5, iV (W (x3 + 1)))] [true] rfl (subR rfl)
     refine Tn ?_
     exact ⟨m1, ⟨W (x2 + (swimmer_long Ak.Year x3)), W (x3 + 1), h, S.nf [true] rfl ⟨rfl, rfl, rfl, trivial⟩⟩, Nat.lt_succ_self _⟩
    ·replace h := iteF h hb5
     refine wp_exit (then_x (then_x (x_same (Tn ?_))))
     exact ⟨x2, h, S.nf [true] rfl (subR rfl)⟩
  clear S h;rintro a w32 ⟨x2, h, S⟩;rw [hj2] at h;clear hj2 j2
  refine Tn (Fs (Fs (Fg (lv S (Ra rfl) rfl ?_))));clear S;intro a S
  refine Ld (Tn ?_)
  replace S := S.nk [.blk b1 (GDate.enc Ak) 74] [(1, .pointer (some ⟨b1, 0, none⟩)), (4, iV x2), (6, iV 2024)] [true] rfl (subR rfl)
  obtain ⟨j3, hj3, h⟩ := joinE h
  refine f_join (fun a w' => ∃ x4 : Int, j3 x4 = some r ∧ Sx w [] nov [.blk b1 (GDate.enc Ak) 74] [(1, .pointer (some ⟨b1, 0, none⟩)), (4, iV x4)] 68 a w') ?_ ?_
  ·refine wp_block (f_loop (fun (m2 : Nat) a w' => ∃ x4 : Int, ∃ x5 : Int, swimmer_DayOf_l2 Ak j3 m2 x4 x5 = some r ∧ Sx w [] nov [.blk b1 (GDate.enc Ak) 74] [(1, .pointer (some ⟨b1, 0, none⟩)), (4, iV x4), (6, iV x5)] 68 a w') id ((Ak.Year - 2024).toNat + 2) ⟨x2, 2024, h, S.nf [true] rfl (subR rfl)⟩ ?_)
   clear S h;rintro m2 a w34 ⟨x4, x5, h, S⟩
   cases m2 with
   | zero => rw [swimmer_DayOf_l2.eq_1] at h;cases h
   | succ m2 =>
    rw [swimmer_DayOf_l2.eq_2] at h
    refine Fs (Fs (Fg (lv S (Rm (S.tm rfl)) rfl ?_)));clear S;intro a S
    refine lv S (rn_fld fa_74_0 (S.tm rfl)) rfl ?_;clear S;intro a S
    refine lv S (rn_load Tryz.isAgg3 (S.tm rfl) (S.cell (i := 0) rfl rfl)) rfl ?_;clear S;intro a S
    refine lv S (rn_lss (S.tm rfl) (S.tm rfl)) rfl ?_;clear S;intro a S
    refine Ld (Tn (f_cond (S.tm rfl) (fun hb6 => ?_) (fun hb6 => ?_)))
    ·replace h := iteT h hb6
     refine wp_skip (Tn (Fs (wp_block (Fg (lv S (Rm (S.tm rfl)) rfl ?_)))));clear S;intro a S
     refine lv S (Rm (S.tm rfl)) rfl ?_;clear S;intro a S
     refine l_enter S (fun _ => run_call (vs := [iV x5]) ⟨(S.tm rfl), trivial⟩ Tryz.call54) (swimmer_yearLong_ok _ x5 _ rfl) rfl ?_;clear S;intro v26 a w36 hv26 hk31 hn26 S
     subst hv26
     refine lv S (rn_add (S.tm rfl) (S.tm rfl)) rfl ?_;clear S;intro a S
     refine lv S (Ra (S.tm rfl)) rfl ?_;clear S;intro a S
     refine Ld (blk_n (Tn (Fg (lv S (Rm (S.tm rfl)) rfl ?_))));clear S;intro a S
     refine lv S (rn_add (S.tm rfl) rfl) rfl ?_;clear S;intro a S
     refine lv S (Ra (S.tm rfl)) rfl ?_;clear S;intro a S
     refine Ld (Tn ?_)
     exact ⟨m2, ⟨W (x4 + (swimmer_yearLong x5)), W (x5 + 1), h, S.nf [true] rfl ⟨rfl, rfl, rfl, trivial⟩⟩, Nat.lt_succ_self _⟩
    ·replace h := iteF h hb6
     refine wp_exit (then_x (then_x (x_same (Tn ?_))))
     exact ⟨x4, h, S.nf [true] rfl (subR rfl)⟩
  clear S h;rintro a w35 ⟨x4, h, S⟩;rw [hj3] at h;clear hj3 j3
  refine Tn (Fs (Fs (Fg (lv S (rn_fld fa_74_0 (S.tm rfl)) rfl ?_))));clear S;intro a S
  refine lv S (rn_load Tryz.isAgg3 (S.tm rfl) (S.cell (i := 0) rfl rfl)) rfl ?_;clear S;intro a S
  refine lv S (Ra (S.tm rfl)) rfl ?_;clear S;intro a S
  refine Ld (Tn ?_)
  replace S := S.nk [] [(4, iV x4), (7, iV Ak.Year)] [false] rfl (subR rfl)
  obtain ⟨j4, hj4, h⟩ := joinE h
  refine f_join (fun a w' => ∃ x6 : Int, j4 x6 = some r ∧ Sx w [] nov [] [(4, iV x6)] 68 a w') ?_ ?_
  ·refine wp_block (f_loop (fun (m3 : Nat) a w' => ∃ x6 : Int, ∃ x7 : Int, swimmer_DayOf_l3 j4 m3 x6 x7 = some r ∧ Sx w [] nov [] [(4, iV x6), (7, iV x7)] 68 a w') id ((2024 - Ak.Year).toNat + 2) ⟨x4, Ak.Year, h, S.nf [] rfl (subR rfl)⟩ ?_)
   clear S h;rintro m3 a w37 ⟨x6, x7, h, S⟩
   cases m3 with
   | zero => rw [swimmer_DayOf_l3.eq_1] at h;cases h
   | succ m3 =>
    rw [swimmer_DayOf_l3.eq_2] at h
    refine Fs (Fs (Fg (lv S (Rm (S.tm rfl)) rfl ?_)));clear S;intro a S
    refine lv S (rn_lss (S.tm rfl) rfl) rfl ?_;clear S;intro a S
    refine Ld (Tn (f_cond (S.tm rfl) (fun hb7 => ?_) (fun hb7 => ?_)))
    ·replace h := iteT h hb7
     refine wp_skip (Tn (Fs (wp_block (Fg (lv S (Rm (S.tm rfl)) rfl ?_)))));clear S;intro a S
     refine lv S (Rm (S.tm rfl)) rfl ?_;clear S;intro a S
     refine l_enter S (fun _ => run_call (vs := [iV x7]) ⟨(S.tm rfl), trivial⟩ Tryz.call54) (swimmer_yearLong_ok _ x7 _ rfl) rfl ?_;clear S;intro v27 a w39 hv27 hk32 hn27 S
     subst hv27
     refine lv S (rn_sub (S.tm rfl) (S.tm rfl)) rfl ?_;clear S;intro a S
     refine lv S (Ra (S.tm rfl)) rfl ?_;clear S;intro a S
     refine Ld (blk_n (Tn (Fg (lv S (Rm (S.tm rfl)) rfl ?_))));clear S;intro a S
     refine lv S (rn_add (S.tm rfl) rfl) rfl ?_;clear S;intro a S
     refine lv S (Ra (S.tm rfl)) rfl ?_;clear S;intro a S
     refine Ld (Tn ?_)
     exact ⟨m3, ⟨W (x6 - (swimmer_yearLong x7)), W (x7 + 1), h, S.nf [] rfl ⟨rfl, rfl, trivial⟩⟩, Nat.lt_succ_self _⟩
    ·replace h := iteF h hb7
     refine wp_exit (then_x (then_x (x_same (Tn ?_))))
     exact ⟨x6, h, S.nf [] rfl ⟨rfl, trivial⟩⟩
  clear S h;rintro a w38 ⟨x6, h, S⟩;rw [hj4] at h;clear hj4 j4
  refine Tn (Fs (Fs (Fg (lv S (Rm (S.tm rfl)) rfl ?_))));clear S;intro a S
  refine l_enter S (fun _ => run_call (vs := [iV x6]) ⟨(S.tm rfl), trivial⟩ Tryz.call55) (swimmer_isDay_ok _ x6 _ rfl) rfl ?_;clear S;intro v28 a w40 hv28 hk33 hn28 S
  subst hv28
  refine lv S (rn_not (S.tm rfl)) rfl ?_;clear S;intro a S
  refine Ld (Tn (f_cond (S.tm rfl) (fun hb8 => ?_) (fun hb8 => ?_)))
  ·replace h := iteT h hb8
   refine Fs (Fg (lv S (Ra rfl) rfl ?_));clear S;intro a S
   refine lv S (Ra rfl) rfl ?_;clear S;intro a S
   refine Ld (Tn (wp_ret (then_r ?_)))
   obtain rfl := Option.some.inj h
   exact f_ret2 S Tryz.results32 rfl rfl rfl
  ·replace h := iteF h hb8
   refine wp_skip (Tn (Fs (Fg (lv S (Rm (S.tm rfl)) rfl ?_))));clear S;intro a S
   refine lv S (Ra (S.tm rfl)) rfl ?_;clear S;intro a S
   refine lv S (Ra rfl) rfl ?_;clear S;intro a S
   refine Ld (Tn (wp_ret ?_))
   obtain rfl := Option.some.inj h
   exact f_ret2 S Tryz.results32 rfl rfl rfl
theorem session_CheckItems_ok (w : World) (V : Value) (Z : List GItem) (Ae : Slc (view w []) 5 V (Z.map GItem.enc)) (r : Int) (h : session_CheckItems Z = some r) :
    Calls Tryz.prog 84 [V].toArray w (Ret w [] fun _ v _ => v = iV r) := by
 refine f_enter [] [] Tryz.func84 rfl Tryz.ntmps84 rfl (by simp) (by simp [fps]) (by simp [fps]) fun a S => ?_
 unfold session_CheckItems at h
 replace S := S.nk [] [(0, V)] [] rfl ⟨rfl, trivial⟩
 refine Fs (Fg (lv S (Ra rfl) rfl ?_));clear S;intro a S
 refine Ld (Tn (Fs (Fs (Fg (lv S (Rm (S.tm rfl)) rfl ?_)))));clear S;intro a S
 refine lv S (rn_lenT sl_78 (S.tm rfl) (slc_len Ae)) rfl ?_;clear S;intro a S
 refine lv S (rn_gtr (S.tm rfl) rfl) rfl ?_;clear S;intro a S
 refine Ld (Tn (f_cond (S.tm rfl) (fun hb1 => ?_) (fun hb1 => ?_)))
 ·replace h := iteT h hb1
  refine Fs (Fg (lv S (Ra rfl) rfl ?_));clear S;intro a S
  refine Ld (Tn (wp_ret (then_r ?_)))
  obtain rfl := Option.some.inj h
  exact f_ret S Tryz.results84 rfl rfl
 ·replace h := iteF h hb1
  refine wp_skip (Tn (Fs (Fg (l_makeMap (κ := ByteArray) (ν := Bool) S rfl Value.string Value.bool ?_))));clear S;intro a w1 b1 hz1 hk1 S
  refine lv S (Ra (S.tm rfl)) rfl ?_;clear S;intro a S
  refine Ld (Tn (Fs (Fs (Fg (lv S (Rm (S.tm rfl)) rfl ?_)))));clear S;intro a S
  refine lv S (rn_lenT sl_78 (S.tm rfl) (slc_len Ae)) rfl ?_;clear S;intro a S
  refine lv S (Rm rfl) rfl ?_;clear S;intro a S
  refine Ld (Tn ?_)
  replace S := S.nk [.map b1 (ments Value.string Value.bool ([] : List (ByteArray × Bool))) ([] : List (ByteArray × Bool)).length] [(3, .map (some b1)), (10, V), (11, iV (Z.length : Int)), (12, iV 0)] [true] rfl (subR rfl)
  obtain ⟨j1, hj1, h⟩ := joinE h
  refine f_join (fun a w' => ∃ x1 : List (ByteArray × Bool), j1 x1 = some r ∧ Sx w [] nov [.map b1 (ments Value.string Value.bool x1) x1.length] [] 53 a w') ?_ ?_
  ·refine wp_block (f_loop (fun (ys1 : List GItem) a w' => ∃ i1 : Nat, ∃ x1 : List (ByteArray × Bool), (∃ dn, Z = dn ++ ys1 ∧ dn.length = i1) ∧ session_CheckItems_l1 j1 ys1 i1 x1 = some r ∧ Sx w [] nov [.map b1 (ments Value.string Value.bool x1) x1.length] [(3, .map (some b1)), (10, V), (11, iV (Z.length : Int)), (12, iV (i1 : Int))] 53 a w') List.length Z ⟨0, ([] : List (ByteArray × Bool)), ⟨[], rfl, rfl⟩, h, S.nf [true] rfl (subR rfl)⟩ ?_)
   clear S h;rintro ys1 a w2 ⟨i1, x1, ⟨dn, hd1, hi1⟩, h, S⟩
   cases ys1 with
   | nil =>
    rw [session_CheckItems_l1.eq_1] at h
    refine Fs (Fg (lv S (rn_lss (S.tm rfl) (S.tm rfl)) rfl ?_));clear S;intro a S
    refine Ld ?_
    replace S := S.nk [.map b1 (ments Value.string Value.bool x1) x1.length] [(3, .map (some b1)), (10, V), (11, iV (Z.length : Int)), (12, iV (i1 : Int)), (13, bV (decide ((i1 : Int) < (Z.length : Int))))] [true] rfl (subR rfl)
    refine Tn (Fs (wp_cond_false ((S.tm rfl).trans (congrArg Value.bool (rng_nil hd1 hi1))) (wp_exit (then_x (then_x (x_same ?_))))))
    refine Tn ?_
    exact ⟨x1, h, S.nf [true] rfl trivial⟩
   | cons y1 ys1 =>
    rw [session_CheckItems_l1.eq_2] at h
    refine Fs (Fg (lv S (rn_lss (S.tm rfl) (S.tm rfl)) rfl ?_));clear S;intro a S
    refine Ld ?_
    replace S := S.nk [.map b1 (ments Value.string Value.bool x1) x1.length] [(3, .map (some b1)), (10, V), (11, iV (Z.length : Int)), (12, iV (i1 : Int)), (13, bV (decide ((i1 : Int) < (Z.length : Int))))] [true] rfl (subR rfl)
    refine Tn (Fs (wp_cond_true ((S.tm rfl).trans (congrArg Value.bool (rng_cons hd1 hi1))) (wp_skip (Tn (Fs (wp_block ?_))))))
    refine Fs (Fg ?_)
    obtain ⟨b2, o1, hm1, hr1⟩ := rn_indexT (a := a) (x := .tmp 10) (y := .tmp 12) (ty := 0) sl_78 Ae (get_mid hd1 hi1) rfl (S.tm rfl) (S.tm rfl)
    refine lv S (hr1 _) rfl ?_;clear S;intro a S
    clear hr1
    refine lv S (rn_ldA Tryz.isAgg77 Tryz.sizeOf77 (off := o1) (o := 0) (part := (GItem.enc y1)) rfl rfl (S.tm rfl) (hm1.at S.emb0)) rfl ?_;clear S;intro a S
    refine l_alloc S Tryz.zeroValue77 (cs := [sV k_empty, iV 0, iV 0, iV 0, iV 0]) rfl rfl ?_;clear S;intro a w4 b3 hz2 hk2 S
    refine l_store S (S.tm rfl) (S.tm rfl) (i := 0) (off := 0) rfl Tryz.sizeOf77 (vs := (GItem.enc y1)) rfl rfl rfl rfl ?_;clear S;intro w5 hk3 S
    refine Ld (Tn (Fs (wp_block (Fs (Fg (lv S (rn_fld fa_77_0 (S.tm rfl)) rfl ?_))))));clear S;intro a S
    refine lv S (rn_load Tryz.isAgg9 (S.tm rfl) (S.cell (i := 0) rfl rfl)) rfl ?_;clear S;intro a S
    obtain ⟨r1, hr2, h⟩ := bindE h
    refine l_enter S (fun _ => run_call (vs := [sV y1.Key]) ⟨(S.tm rfl), trivial⟩ Tryz.call69) (words_IsKey_ok _ y1.Key _ hr2) rfl ?_;clear S;intro v1 a w6 hv1 hk4 hn1 S
    subst hv1
    refine lv S (rn_not (S.tm rfl)) rfl ?_;clear S;intro a S
    refine lv S (Ra (S.tm rfl)) rfl ?_;clear S;intro a S
    refine Ld (Tn (f_cond (S.tm rfl) (fun hb2 => ?_) (fun hb2 => ?_)))
    ·replace h := iteT h hb2
     refine Fs (Fg (lv S (Ra rfl) rfl ?_));clear S;intro a S
     refine Ld (Tn (wp_ret (blk_r (then_r (blk_r (then_r ?_))))))
     refine then_r (blk_r (then_r (then_r ?_)))
     obtain rfl := Option.some.inj h
     exact f_ret S Tryz.results84 rfl rfl
    ·replace h := iteF h hb2
     refine Fs (Fg (lv S (Rm (S.tm rfl)) rfl ?_));clear S;intro a S
     refine lv S (rn_fld fa_77_0 (S.tm rfl)) rfl ?_;clear S;intro a S
     refine lv S (rn_load Tryz.isAgg9 (S.tm rfl) (S.cell (i := 0) rfl rfl)) rfl ?_;clear S;intro a S
     refine lv S (rn_lookup (kv := Value.string) (vv := Value.bool) (m := x1) (key := y1.Key) (z := false) (S.map_at (i := 1) rfl) Tryz.underlying137 (keyT_str Tryz.underlying9) Tryz.zeroValue4 (S.tm rfl) (S.tm rfl)) rfl ?_;clear S;intro a S
     refine lv S (Ra (S.tm rfl)) rfl ?_;clear S;intro a S
     refine Ld ?_
     replace S := S.nk [.blk b3 (GItem.enc y1) 77, .map b1 (ments Value.string Value.bool x1) x1.length] [(3, .map (some b1)), (5, .pointer (some ⟨b3, 0, none⟩)), (10, V), (11, iV (Z.length : Int)), (12, iV (i1 : Int)), (21, bV (mgetD x1 y1.Key false))] [true, true] rfl (subR rfl)
     refine Tn (f_cond (S.tm rfl) (fun hb3 => ?_) (fun hb3 => ?_))
     ·replace h := iteT h hb3
      refine Fs (Fg (lv S (Ra rfl) rfl ?_));clear S;intro a S
      refine Ld (Tn (wp_ret (blk_r (then_r (blk_r (then_r ?_))))))
      refine then_r (blk_r (then_r (then_r ?_)))
      obtain rfl := Option.some.inj h
      exact f_ret S Tryz.results84 rfl rfl
     ·replace h := iteF h hb3
      refine Fs (Fg (lv S (rn_fld fa_77_1 (S.tm rfl)) rfl ?_));clear S;intro a S
      refine lv S (rn_load Tryz.isAgg3 (S.tm rfl) (S.cell (i := 0) rfl rfl)) rfl ?_;clear S;intro a S
      refine l_enter S (fun _ => run_call (vs := [iV y1.Heats, iV 1, iV 60]) ⟨(S.tm rfl), rfl, rfl, trivial⟩ Tryz.call52) (words_Within_ok _ y1.Heats 1 60 _ rfl) rfl ?_;clear S;intro v2 a w7 hv2 hk5 hn2 S
      subst hv2
      refine lv S (rn_not (S.tm rfl)) rfl ?_;clear S;intro a S
      refine lv S (Rm (S.tm rfl)) rfl ?_;clear S;intro a S
      refine f_cutm 5 (fun a w' => Keep [] w7 w' ∧ Sx w [] nov [.blk b3 (GItem.enc y1) 77, .map b1 (ments Value.string Value.bool x1) x1.length] [(3, .map (some b1)), (5, .pointer (some ⟨b3, 0, none⟩)), (10, V), (11, iV (Z.length : Int)), (12, iV (i1 : Int)), (36, bV ((!(words_Within y1.Heats 1 60)) || (!(words_Within y1.Long 1 3600000))))] 53 a w') ?_ ?_
      ·rcases Bool.eq_false_or_eq_true (!(words_Within y1.Heats 1 60)) with hb4 | hb4
       ·iterate 4 (refine l_skip S rfl rfl rfl (neq_t hb4) rfl ?_ rfl;clear S;intro a S)
        refine lv S (rn_or_t (!(words_Within y1.Long 1 3600000)) hb4 (S.tm rfl) rfl) rfl ?_;clear S;intro a S
        refine Ld (Tn ?_)
        exact ⟨Keep.refl _ _, S.nf [true, true] rfl (subR rfl)⟩
       ·refine l_want S rfl rfl rfl hb4 (lv S (rn_fld fa_77_2 (S.tm rfl)) rfl ?_);clear S;intro a S
        refine l_want S rfl rfl rfl hb4 (lv S (rn_load Tryz.isAgg3 (S.tm rfl) (S.cell (i := 0) rfl rfl)) rfl ?_);clear S;intro a S
        refine l_want S rfl rfl rfl hb4 (l_enter S (fun _ => run_call (vs := [iV y1.Long, iV 1, iV 3600000]) ⟨(S.tm rfl), rfl, rfl, trivial⟩ Tryz.call52) (words_Within_ok _ y1.Long 1 3600000 _ rfl) rfl ?_);clear S;intro v3 a w9 hv3 hk6 hn3 S
        subst hv3
        refine l_want S rfl rfl rfl hb4 (lv S (rn_not (S.tm rfl)) rfl ?_);clear S;intro a S
        refine lv S (rn_or_f hb4 (S.tm rfl) (S.tm rfl)) rfl ?_;clear S;intro a S
        refine Ld (Tn ?_)
        exact ⟨hk6, S.nf [true, true] rfl (subR rfl)⟩
      clear S;rintro a w8 ⟨hk7, S⟩
      refine lv S (Rm (S.tm rfl)) rfl ?_;clear S;intro a S
      refine f_cutm 5 (fun a w' => Keep [] w8 w' ∧ Sx w [] nov [.blk b3 (GItem.enc y1) 77, .map b1 (ments Value.string Value.bool x1) x1.length] [(3, .map (some b1)), (5, .pointer (some ⟨b3, 0, none⟩)), (10, V), (11, iV (Z.length : Int)), (12, iV (i1 : Int)), (42, bV (((!(words_Within y1.Heats 1 60)) || (!(words_Within y1.Long 1 3600000))) || (!(words_Within y1.Gap 0 3600000))))] 53 a w') ?_ ?_
      ·rcases Bool.eq_false_or_eq_true ((!(words_Within y1.Heats 1 60)) || (!(words_Within y1.Long 1 3600000))) with hb5 | hb5
       ·iterate 4 (refine l_skip S rfl rfl rfl (neq_t hb5) rfl ?_ rfl;clear S;intro a S)
        refine lv S (rn_or_t (!(words_Within y1.Gap 0 3600000)) hb5 (S.tm rfl) rfl) rfl ?_;clear S;intro a S
        refine Ld (Tn ?_)
        exact ⟨Keep.refl _ _, S.nf [true, true] rfl (subR rfl)⟩
       ·refine l_want S rfl rfl rfl hb5 (lv S (rn_fld fa_77_3 (S.tm rfl)) rfl ?_);clear S;intro a S
        refine l_want S rfl rfl rfl hb5 (lv S (rn_load Tryz.isAgg3 (S.tm rfl) (S.cell (i := 0) rfl rfl)) rfl ?_);clear S;intro a S
        refine l_want S rfl rfl rfl hb5 (l_enter S (fun _ => run_call (vs := [iV y1.Gap, iV 0, iV 3600000]) ⟨(S.tm rfl), rfl, rfl, trivial⟩ Tryz.call52) (words_Within_ok _ y1.Gap 0 3600000 _ rfl) rfl ?_);clear S;intro v4 a w11 hv4 hk8 hn4 S
        subst hv4
        refine l_want S rfl rfl rfl hb5 (lv S (rn_not (S.tm rfl)) rfl ?_);clear S;intro a S
        refine lv S (rn_or_f hb5 (S.tm rfl) (S.tm rfl)) rfl ?_;clear S;intro a S
        refine Ld (Tn ?_)
        exact ⟨hk8, S.nf [true, true] rfl (subR rfl)⟩
      clear S;rintro a w10 ⟨hk9, S⟩
      refine lv S (Rm (S.tm rfl)) rfl ?_;clear S;intro a S
      refine f_cutm 5 (fun a w' => Keep [] w10 w' ∧ Sx w [] nov [.blk b3 (GItem.enc y1) 77, .map b1 (ments Value.string Value.bool x1) x1.length] [(3, .map (some b1)), (5, .pointer (some ⟨b3, 0, none⟩)), (10, V), (11, iV (Z.length : Int)), (12, iV (i1 : Int)), (48, bV ((((!(words_Within y1.Heats 1 60)) || (!(words_Within y1.Long 1 3600000))) || (!(words_Within y1.Gap 0 3600000))) || (!(words_Within y1.Break 0 3600000))))] 53 a w') ?_ ?_
      ·rcases Bool.eq_false_or_eq_true (((!(words_Within y1.Heats 1 60)) || (!(words_Within y1.Long 1 3600000))) || (!(words_Within y1.Gap 0 3600000))) with hb6 | hb6
       ·iterate 4 (refine l_skip S rfl rfl rfl (neq_t hb6) rfl ?_ rfl;clear S;intro a S)
        refine lv S (rn_or_t (!(words_Within y1.Break 0 3600000)) hb6 (S.tm rfl) rfl) rfl ?_;clear S;intro a S
        refine Ld (Tn ?_)
        exact ⟨Keep.refl _ _, S.nf [true, true] rfl (subR rfl)⟩
       ·refine l_want S rfl rfl rfl hb6 (lv S (rn_fld fa_77_4 (S.tm rfl)) rfl ?_);clear S;intro a S
        refine l_want S rfl rfl rfl hb6 (lv S (rn_load Tryz.isAgg3 (S.tm rfl) (S.cell (i := 0) rfl rfl)) rfl ?_);clear S;intro a S
        refine l_want S rfl rfl rfl hb6 (l_enter S (fun _ => run_call (vs := [iV y1.Break, iV 0, iV 3600000]) ⟨(S.tm rfl), rfl, rfl, trivial⟩ Tryz.call52) (words_Within_ok _ y1.Break 0 3600000 _ rfl) rfl ?_);clear S;intro v5 a w13 hv5 hk10 hn5 S
        subst hv5
        refine l_want S rfl rfl rfl hb6 (lv S (rn_not (S.tm rfl)) rfl ?_);clear S;intro a S
        refine lv S (rn_or_f hb6 (S.tm rfl) (S.tm rfl)) rfl ?_;clear S;intro a S
        refine Ld (Tn ?_)
        exact ⟨hk10, S.nf [true, true] rfl (subR rfl)⟩
      clear S;rintro a w12 ⟨hk11, S⟩
      refine lv S (Ra (S.tm rfl)) rfl ?_;clear S;intro a S
      refine Ld (Tn (f_cond (S.tm rfl) (fun hb7 => ?_) (fun hb7 => ?_)))
      ·replace h := iteT h hb7
       refine Fs (Fg (lv S (Ra rfl) rfl ?_));clear S;intro a S
       refine Ld (Tn (wp_ret (blk_r (then_r (blk_r (then_r ?_))))))
       refine then_r (blk_r (then_r (then_r ?_)))
       obtain rfl := Option.some.inj h
       exact f_ret S Tryz.results84 rfl rfl
      ·replace h := iteF h hb7
       refine wp_skip (blk_n (Tn (Fg (lv S (Rm (S.tm rfl)) rfl ?_))));clear S;intro a S
       refine lv S (rn_fld fa_77_0 (S.tm rfl)) rfl ?_;clear S;intro a S
       refine lv S (rn_load Tryz.isAgg9 (S.tm rfl) (S.cell (i := 0) rfl rfl)) rfl ?_;clear S;intro a S
       refine l_mapUpdate (kv := Value.string) (vv := Value.bool) (m := x1) (key := y1.Key) (val := true) S (i := 1) rfl Tryz.underlying137 (keyT_str Tryz.underlying9) (S.tm rfl) (S.tm rfl) rfl ?_;clear S;intro w14 hk12 S
       refine Ld (blk_n (Tn (Fg (lv S (rn_add (S.tm rfl) rfl) rfl ?_))));clear S;intro a S
       refine lv S (Rm (S.tm rfl)) rfl ?_;clear S;intro a S
       refine Ld (Tn ?_)
       exact ⟨ys1, ⟨i1 + 1, (mput x1 y1.Key true), ⟨_, (hd1).trans (List.append_cons _ _ _), by simp [hi1]⟩, h, S.nf [false, true] rfl ⟨rfl, rfl, rfl, (congrArg (fun z => some (Value.int .i64 z)) (rng_next hd1 hi1 (slc_max Ae))), trivial⟩⟩, Nat.lt_succ_self _⟩
  clear S h;rintro a w3 ⟨x1, h, S⟩;rw [hj1] at h;clear hj1 j1
  refine Tn (Fs (Fg (lv S (Ra rfl) rfl ?_)));clear S;intro a S
  refine Ld (Tn (wp_ret ?_))
  obtain rfl := Option.some.inj h
  exact f_ret S Tryz.results84 rfl rfl
theorem session_timetable_ok (w : World) (V : Value) (Z : List GItem) (Ae : Slc (view w []) 5 V (Z.map GItem.enc)) (Au : Int) (r : (List GSlot)) (h : session_timetable Z Au = some r) :
    Calls Tryz.prog 98 [V, iV Au].toArray w (Ret w [] fun τ v _ => OwnV τ 124 4 v r.length (r.flatMap GSlot.enc)) := by
 refine f_enter [] [] Tryz.func98 rfl Tryz.ntmps98 rfl (by simp) (by simp [fps]) (by simp [fps]) fun a S => ?_
 unfold session_timetable at h
 replace S := S.nk [] [(0, V), (1, iV Au)] [] rfl (subR rfl)
 refine Fs (Fg (lv S (Ra rfl) rfl ?_));clear S;intro a S
 refine Ld (Tn (Fs (Fg (lv S (Ra rfl) rfl ?_))));clear S;intro a S
 replace S := S.nil 124 4
 refine Ld (Tn (Fs (Fg (lv S (Rm (S.tm rfl)) rfl ?_))));clear S;intro a S
 refine lv S (Ra (S.tm rfl)) rfl ?_;clear S;intro a S
 refine Ld (Tn (Fs (Fs (Fg (lv S (Rm (S.tm rfl)) rfl ?_)))));clear S;intro a S
 refine lv S (rn_lenT sl_78 (S.tm rfl) (slc_len Ae)) rfl ?_;clear S;intro a S
 refine lv S (Rm rfl) rfl ?_;clear S;intro a S
 refine Ld (Tn ?_)
 replace S := S.nk [.own (.slice none 0 0) 124 4 ([] : List GSlot).length (([] : List GSlot).flatMap GSlot.enc)] [(5, (.slice none 0 0)), (6, iV Au), (11, V), (12, iV (Z.length : Int)), (13, iV 0)] [true] rfl (subR rfl)
 obtain ⟨j1, hj1, h⟩ := joinE h
 refine f_join (fun a w' => ∃ x1 : List GSlot, ∃ v1 : Value, j1 x1 = some r ∧ Sx w [] nov [.own v1 124 4 x1.length (x1.flatMap GSlot.enc)] [(5, v1)] 54 a w') ?_ ?_
 ·refine wp_block (f_loop (fun (ys1 : List GItem) a w' => ∃ i1 : Nat, ∃ x1 : List GSlot, ∃ x2 : Int, ∃ v1 : Value, (∃ dn, Z = dn ++ ys1 ∧ dn.length = i1) ∧ session_timetable_l1 j1 ys1 i1 x1 x2 = some r ∧ Sx w [] nov [.own v1 124 4 x1.length (x1.flatMap GSlot.enc)] [(5, v1), (6, iV x2), (11, V), (12, iV (Z.length : Int)), (13, iV (i1 : Int))] 54 a w') List.length Z ⟨0, ([] : List GSlot), Au, (.slice none 0 0), ⟨[], rfl, rfl⟩, h, S.nf [true] rfl (subR rfl)⟩ ?_)
  clear S h;rintro ys1 a w1 ⟨i1, x1, x2, v1, ⟨dn, hd1, hi1⟩, h, S⟩
  cases ys1 with
  | nil =>
   rw [session_timetable_l1.eq_1] at h
   refine Fs (Fg (lv S (rn_lss (S.tm rfl) (S.tm rfl)) rfl ?_));clear S;intro a S
   refine Ld ?_
   replace S := S.nk [.own v1 124 4 x1.length (x1.flatMap GSlot.enc)] [(5, v1), (6, iV x2), (11, V), (12, iV (Z.length : Int)), (13, iV (i1 : Int)), (14, bV (decide ((i1 : Int) < (Z.length : Int))))] [true] rfl (subR rfl)
   refine Tn (Fs (wp_cond_false ((S.tm rfl).trans (congrArg Value.bool (rng_nil hd1 hi1))) (wp_exit (then_x (then_x (x_same ?_))))))
   refine Tn ?_
   exact ⟨x1, v1, h, S.nf [true] rfl ⟨rfl, trivial⟩⟩
  | cons y1 ys1 =>
   rw [session_timetable_l1.eq_2] at h
   refine Fs (Fg (lv S (rn_lss (S.tm rfl) (S.tm rfl)) rfl ?_));clear S;intro a S
   refine Ld ?_
   replace S := S.nk [.own v1 124 4 x1.length (x1.flatMap GSlot.enc)] [(5, v1), (6, iV x2), (11, V), (12, iV (Z.length : Int)), (13, iV (i1 : Int)), (14, bV (decide ((i1 : Int) < (Z.length : Int))))] [true] rfl (subR rfl)
   refine Tn (Fs (wp_cond_true ((S.tm rfl).trans (congrArg Value.bool (rng_cons hd1 hi1))) (wp_skip (Tn (Fs (wp_block ?_))))))
   refine Fs (Fg ?_)
   obtain ⟨b1, o1, hm1, hr1⟩ := rn_indexT (a := a) (x := .tmp 11) (y := .tmp 13) (ty := 0) sl_78 Ae (get_mid hd1 hi1) rfl (S.tm rfl) (S.tm rfl)
   refine lv S (hr1 _) rfl ?_;clear S;intro a S
   clear hr1
   refine lv S (rn_ldA Tryz.isAgg77 Tryz.sizeOf77 (off := o1) (o := 0) (part := (GItem.enc y1)) rfl rfl (S.tm rfl) (hm1.at S.emb0)) rfl ?_;clear S;intro a S
   refine l_alloc S Tryz.zeroValue77 (cs := [sV k_empty, iV 0, iV 0, iV 0, iV 0]) rfl rfl ?_;clear S;intro a w3 b2 hz1 hk1 S
   refine l_store S (S.tm rfl) (S.tm rfl) (i := 0) (off := 0) rfl Tryz.sizeOf77 (vs := (GItem.enc y1)) rfl rfl rfl rfl ?_;clear S;intro w4 hk2 S
   refine Ld (Tn (Fs (Fs (Fg (lv S (Ra rfl) rfl ?_)))));clear S;intro a S
   refine Ld (Tn ?_)
   replace S := S.nk [.blk b2 (GItem.enc y1) 77, .own v1 124 4 x1.length (x1.flatMap GSlot.enc)] [(5, v1), (6, iV x2), (8, .pointer (some ⟨b2, 0, none⟩)), (9, iV 1), (11, V), (12, iV (Z.length : Int)), (13, iV (i1 : Int))] [true, true] rfl (subR rfl)
   obtain ⟨j2, hj2, h⟩ := joinE h
   refine f_join (fun a w' => ∃ x3 : List GSlot, ∃ x4 : Int, ∃ v2 : Value, j2 x3 x4 = some r ∧ Sx w [] nov [.blk b2 (GItem.enc y1) 77, .own v2 124 4 x3.length (x3.flatMap GSlot.enc)] [(5, v2), (6, iV x4), (8, .pointer (some ⟨b2, 0, none⟩)), (11, V), (12, iV (Z.length : Int)), (13, iV (i1 : Int))] 54 a w') ?_ ?_
   ·refine wp_block (f_loop (fun (m1 : Nat) a w' => ∃ x3 : List GSlot, ∃ x4 : Int, ∃ x5 : Int, ∃ v2 : Value, session_timetable_l2 y1 j2 m1 x3 x4 x5 = some r ∧ Sx w [] nov [.blk b2 (GItem.enc y1) 77, .own v2 124 4 x3.length (x3.flatMap GSlot.enc)] [(5, v2), (6, iV x4), (8, .pointer (some ⟨b2, 0, none⟩)), (9, iV x5), (11, V), (12, iV (Z.length : Int)), (13, iV (i1 : Int))] 54 a w') id ((y1.Heats - 1).toNat + 2) ⟨x1, x2, 1, v1, h, S.nf [true, true] rfl (subR rfl)⟩ ?_)
    clear S h;rintro m1 a w5 ⟨x3, x4, x5, v2, h, S⟩
    cases m1 with
    | zero => rw [session_timetable_l2.eq_1] at h;cases h
    | succ m1 =>
     rw [session_timetable_l2.eq_2] at h
     refine Fs (Fs (Fg (lv S (Rm (S.tm rfl)) rfl ?_)));clear S;intro a S
     refine lv S (rn_fld fa_77_1 (S.tm rfl)) rfl ?_;clear S;intro a S
     refine lv S (rn_load Tryz.isAgg3 (S.tm rfl) (S.cell (i := 0) rfl rfl)) rfl ?_;clear S;intro a S
     refine lv S (rn_leq (S.tm rfl) (S.tm rfl)) rfl ?_;clear S;intro a S
     refine Ld (Tn (f_cond (S.tm rfl) (fun hb1 => ?_) (fun hb1 => ?_)))
     ·replace h := iteT h hb1
      refine wp_skip (Tn (Fs ?_))
      obtain ⟨j3, hj3, h⟩ := joinE h
      refine f_join (fun a w' => ∃ x6 : List GSlot, ∃ x7 : Int, ∃ v3 : Value, j3 x6 x7 = some r ∧ Sx w [] nov [.blk b2 (GItem.enc y1) 77, .own v3 124 4 x6.length (x6.flatMap GSlot.enc)] [(5, v3), (6, iV x7), (8, .pointer (some ⟨b2, 0, none⟩)), (9, iV x5), (11, V), (12, iV (Z.length : Int)), (13, iV (i1 : Int))] 54 a w') ?_ ?_
      ·refine wp_block (Fs (Fg (lv S (Rm (S.tm rfl)) rfl ?_)));clear S;intro a S
       refine lv S (rn_fld fa_77_0 (S.tm rfl)) rfl ?_;clear S;intro a S
       refine lv S (rn_load Tryz.isAgg9 (S.tm rfl) (S.cell (i := 0) rfl rfl)) rfl ?_;clear S;intro a S
       iterate 3 (refine lv S (Rm (S.tm rfl)) rfl ?_;clear S;intro a S)
       refine lv S (rn_fld fa_77_2 (S.tm rfl)) rfl ?_;clear S;intro a S
       refine lv S (rn_load Tryz.isAgg3 (S.tm rfl) (S.cell (i := 0) rfl rfl)) rfl ?_;clear S;intro a S
       refine lv S (rn_add (S.tm rfl) (S.tm rfl)) rfl ?_;clear S;intro a S
       refine lv S (rn_bld bt_122 (pv := [(0, iV x4), (1, iV (W (x4 + y1.Long)))]) ⟨rfl, (S.tm rfl), rfl, (S.tm rfl), trivial⟩ (cs := [iV x4, iV (W (x4 + y1.Long))]) (by kernel_rfl)) rfl ?_;clear S;intro a S
       refine lv S (rn_bld bt_124 (pv := [(0, sV y1.Key), (1, iV x5), (2, .agg #[iV x4, iV (W (x4 + y1.Long))])]) ⟨rfl, (S.tm rfl), rfl, (S.tm rfl), rfl, (S.tm rfl), trivial⟩ (cs := [sV y1.Key, iV x5, iV x4, iV (W (x4 + y1.Long))]) (by kernel_rfl)) rfl ?_;clear S;intro a S
       refine l_buildSlice S Tryz.underlying99 Tryz.sizeOf124 Tryz.zeroValue124 rfl rfl (pv := [(0, .agg #[sV y1.Key, iV x5, iV x4, iV (W (x4 + y1.Long))])]) ⟨rfl, (S.tm rfl), trivial⟩ (cs := [sV y1.Key, iV x5, iV x4, iV (W (x4 + y1.Long))]) (by kernel_rfl) rfl ?_;clear S;intro a w8 b3 hz2 hk3 S
       obtain ⟨hc1, h⟩ := chkE h
       refine l_appendT sl_99 GSlot.enc_ok S (S.tm rfl) (i := 2) rfl (S.tm rfl) (j := 0) rfl (ys := [(GSlot.mk y1.Key x5 (GWindow.mk x4 (W (x4 + y1.Long))))]) rfl rfl rfl rfl (by have := room_lt hc1;omega) rfl ?_;clear S;intro v4 a w9 hk4 S
       refine lv S (Ra (S.tm rfl)) rfl ?_;clear S;intro a S
       refine Ld ?_
       replace S := S.nk [.blk b2 (GItem.enc y1) 77, .own v4 124 4 (x3 ++ [(GSlot.mk y1.Key x5 (GWindow.mk x4 (W (x4 + y1.Long))))]).length ((x3 ++ [(GSlot.mk y1.Key x5 (GWindow.mk x4 (W (x4 + y1.Long))))]).flatMap GSlot.enc)] [(5, v4), (6, iV x4), (8, .pointer (some ⟨b2, 0, none⟩)), (9, iV x5), (11, V), (12, iV (Z.length : Int)), (13, iV (i1 : Int))] [false, true, true] rfl (subR rfl)
       refine Tn (Fs (Fg (lv S (Rm (S.tm rfl)) rfl ?_)));clear S;intro a S
       refine lv S (rn_fld fa_77_2 (S.tm rfl)) rfl ?_;clear S;intro a S
       refine lv S (rn_load Tryz.isAgg3 (S.tm rfl) (S.cell (i := 0) rfl rfl)) rfl ?_;clear S;intro a S
       refine lv S (rn_add (S.tm rfl) (S.tm rfl)) rfl ?_;clear S;intro a S
       refine lv S (Ra (S.tm rfl)) rfl ?_;clear S;intro a S
       refine Ld (Tn (Fs (Fg (lv S (Rm (S.tm rfl)) rfl ?_))));clear S;intro a S
       refine lv S (rn_fld fa_77_1 (S.tm rfl)) rfl ?_;clear S;intro a S
       refine lv S (rn_load Tryz.isAgg3 (S.tm rfl) (S.cell (i := 0) rfl rfl)) rfl ?_;clear S;intro a S
       refine lv S (rn_lss (S.tm rfl) (S.tm rfl)) rfl ?_;clear S;intro a S
       refine Ld ?_
       replace S := S.nk [.blk b2 (GItem.enc y1) 77, .own v4 124 4 (x3 ++ [(GSlot.mk y1.Key x5 (GWindow.mk x4 (W (x4 + y1.Long))))]).length ((x3 ++ [(GSlot.mk y1.Key x5 (GWindow.mk x4 (W (x4 + y1.Long))))]).flatMap GSlot.enc)] [(5, v4), (6, iV (W (x4 + y1.Long))), (8, .pointer (some ⟨b2, 0, none⟩)), (9, iV x5), (11, V), (12, iV (Z.length : Int)), (13, iV (i1 : Int)), (43, bV (decide (x5 < y1.Heats)))] [true, true] rfl (subR rfl)
       refine Tn ?_
       obtain ⟨j4, hj4, h⟩ := joinE h
       refine f_join (fun a w' => ∃ x8 : Int, j4 x8 = some r ∧ Sx w [] nov [.blk b2 (GItem.enc y1) 77, .own v4 124 4 (x3 ++ [(GSlot.mk y1.Key x5 (GWindow.mk x4 (W (x4 + y1.Long))))]).length ((x3 ++ [(GSlot.mk y1.Key x5 (GWindow.mk x4 (W (x4 + y1.Long))))]).flatMap GSlot.enc)] [(5, v4), (6, iV x8), (8, .pointer (some ⟨b2, 0, none⟩)), (9, iV x5), (11, V), (12, iV (Z.length : Int)), (13, iV (i1 : Int))] 54 a w') ?_ ?_
       ·refine f_cond (S.tm rfl) (fun hb2 => ?_) (fun hb2 => ?_)
        ·replace h := iteT h hb2
         refine Fg (lv S (Rm (S.tm rfl)) rfl ?_);clear S;intro a S
         refine lv S (rn_fld fa_77_3 (S.tm rfl)) rfl ?_;clear S;intro a S
         refine lv S (rn_load Tryz.isAgg3 (S.tm rfl) (S.cell (i := 0) rfl rfl)) rfl ?_;clear S;intro a S
         refine lv S (rn_add (S.tm rfl) (S.tm rfl)) rfl ?_;clear S;intro a S
         refine lv S (Ra (S.tm rfl)) rfl ?_;clear S;intro a S
         refine Ld (Tn ?_)
         exact ⟨W ((W (x4 + y1.Long)) + y1.Gap), h, S.nf [true, true] rfl (subR rfl)⟩
        ·replace h := iteF h hb2
         refine wp_skip (Tn ?_)
         exact ⟨W (x4 + y1.Long), h, S.nf [true, true] rfl (subR rfl)⟩
       clear S h;rintro a w10 ⟨x8, h, S⟩;rw [hj4] at h;clear hj4 j4
       refine blk_n (Tn ?_)
       exact ⟨(x3 ++ [(GSlot.mk y1.Key x5 (GWindow.mk x4 (W (x4 + y1.Long))))]), x8, v4, h, S.nf [true, true] rfl (subR rfl)⟩
      clear S h;rintro a w7 ⟨x6, x7, v3, h, S⟩;rw [hj3] at h;clear hj3 j3
      refine Tn (Fg (lv S (Rm (S.tm rfl)) rfl ?_));clear S;intro a S
      refine lv S (rn_add (S.tm rfl) rfl) rfl ?_;clear S;intro a S
      refine lv S (Ra (S.tm rfl)) rfl ?_;clear S;intro a S
      refine Ld (Tn ?_)
      exact ⟨m1, ⟨x6, x7, W (x5 + 1), v3, h, S.nf [true, true] rfl ⟨rfl, rfl, rfl, rfl, rfl, rfl, rfl, trivial⟩⟩, Nat.lt_succ_self _⟩
     ·replace h := iteF h hb1
      refine wp_exit (then_x (then_x (x_same (Tn ?_))))
      exact ⟨x3, x4, v2, h, S.nf [true, true] rfl (subR rfl)⟩
   clear S h;rintro a w6 ⟨x3, x4, v2, h, S⟩;rw [hj2] at h;clear hj2 j2
   refine Tn (Fg (lv S (Rm (S.tm rfl)) rfl ?_));clear S;intro a S
   refine lv S (rn_fld fa_77_4 (S.tm rfl)) rfl ?_;clear S;intro a S
   refine lv S (rn_load Tryz.isAgg3 (S.tm rfl) (S.cell (i := 0) rfl rfl)) rfl ?_;clear S;intro a S
   refine lv S (rn_add (S.tm rfl) (S.tm rfl)) rfl ?_;clear S;intro a S
   refine lv S (Ra (S.tm rfl)) rfl ?_;clear S;intro a S
   refine Ld (blk_n (Tn (Fg (lv S (rn_add (S.tm rfl) rfl) rfl ?_))));clear S;intro a S
   refine lv S (Rm (S.tm rfl)) rfl ?_;clear S;intro a S
   refine Ld (Tn ?_)
   exact ⟨ys1, ⟨i1 + 1, x3, W (x4 + y1.Break), v2, ⟨_, (hd1).trans (List.append_cons _ _ _), by simp [hi1]⟩, h, S.nf [false, true] rfl ⟨rfl, rfl, rfl, rfl, (congrArg (fun z => some (Value.int .i64 z)) (rng_next hd1 hi1 (slc_max Ae))), trivial⟩⟩, Nat.lt_succ_self _⟩
 clear S h;rintro a w2 ⟨x1, v1, h, S⟩;rw [hj1] at h;clear hj1 j1
 refine Tn (Fs (Fg (lv S (Rm (S.tm rfl)) rfl ?_)));clear S;intro a S
 refine lv S (Ra (S.tm rfl)) rfl ?_;clear S;intro a S
 refine Ld (Tn (wp_ret ?_))
 obtain rfl := Option.some.inj h
 exact f_ret S Tryz.results98 rfl (own_retT S (i := 0) rfl rfl)
theorem session_end_ok (w : World) (V : Value) (Z : List GSlot) (Ae : Slc (view w []) 4 V (Z.map GSlot.enc)) (Au : Int) (r : Int) (h : session_end Z Au = some r) :
    Calls Tryz.prog 57 [V, iV Au].toArray w (Ret w [] fun _ v _ => v = iV r) := by
 refine f_enter [] [] Tryz.func57 rfl Tryz.ntmps57 rfl (by simp) (by simp [fps]) (by simp [fps]) fun a S => ?_
 unfold session_end at h
 replace S := S.nk [] [(0, V), (1, iV Au)] [] rfl (subR rfl)
 refine Fs (Fg (lv S (Ra rfl) rfl ?_));clear S;intro a S
 refine Ld (Tn (Fs (Fs (Fg (lv S (Rm (S.tm rfl)) rfl ?_)))));clear S;intro a S
 refine lv S (rn_lenT sl_99 (S.tm rfl) (slc_len Ae)) rfl ?_;clear S;intro a S
 refine lv S (rn_eql (S.tm rfl) rfl) rfl ?_;clear S;intro a S
 refine Ld (Tn (f_cond (S.tm rfl) (fun hb1 => ?_) (fun hb1 => ?_)))
 ·replace h := iteT h hb1
  refine Fs (Fg (lv S (Rm (S.tm rfl)) rfl ?_));clear S;intro a S
  refine lv S (Ra (S.tm rfl)) rfl ?_;clear S;intro a S
  refine Ld (Tn (wp_ret (then_r ?_)))
  obtain rfl := Option.some.inj h
  exact f_ret S Tryz.results57 rfl rfl
 ·replace h := iteF h hb1
  refine wp_skip (Tn (Fs (Fg (lv S (Rm (S.tm rfl)) rfl ?_))));clear S;intro a S
  refine lv S (Rm (S.tm rfl)) rfl ?_;clear S;intro a S
  refine lv S (rn_lenT sl_99 (S.tm rfl) (slc_len Ae)) rfl ?_;clear S;intro a S
  refine lv S (rn_sub (S.tm rfl) rfl) rfl ?_;clear S;intro a S
  obtain ⟨hc1, h⟩ := chkE h
  obtain ⟨b1, o1, hm1, hr1⟩ := rn_indexT (a := a) (x := .tmp 9) (y := .tmp 12) (ty := 0) sl_99 Ae (inB_get hc1).1 (inB_get hc1).2 (S.tm rfl) (S.tm rfl)
  refine lv S (hr1 _) rfl ?_;clear S;intro a S
  clear hr1
  refine lv S (rn_fld fa_124_2 (S.tm rfl)) rfl ?_;clear S;intro a S
  refine lv S (rn_fld fa_122_1 (S.tm rfl)) rfl ?_;clear S;intro a S
  refine lv S (rn_ld Tryz.isAgg3 (off := o1) (o := 3) (S.tm rfl) (hm1.at S.emb0) rfl) rfl ?_;clear S;intro a S
  refine lv S (Ra (S.tm rfl)) rfl ?_;clear S;intro a S
  refine Ld (Tn (wp_ret ?_))
  obtain rfl := Option.some.inj h
  exact f_ret S Tryz.results57 rfl rfl
theorem session_begin_ok (w : World) (V : Value) (Z : List GItem) (Ae : Slc (view w []) 5 V (Z.map GItem.enc)) (Au : Int) (r : (List GSlot) × Int) (h : session_begin Z Au = some r) :
    Calls Tryz.prog 85 [V, iV Au].toArray w (Ret w [] fun τ v _ => ∃ u1 : Value, v = .tuple #[u1, iV r.2] ∧ OwnV τ 124 4 u1 r.1.length (r.1.flatMap GSlot.enc)) := by
 refine f_enter [] [] Tryz.func85 rfl Tryz.ntmps85 rfl (by simp) (by simp [fps]) (by simp [fps]) fun a S => ?_
 unfold session_begin at h
 replace S := S.nk [] [(0, V), (1, iV Au)] [] rfl (subR rfl)
 refine Fs (Fg (lv S (Ra rfl) rfl ?_));clear S;intro a S
 refine lv S (Ra rfl) rfl ?_;clear S;intro a S
 refine Ld (Tn (Fs (Fs (Fg (lv S (Rm (S.tm rfl)) rfl ?_)))));clear S;intro a S
 refine l_enter S (fun _ => run_call (vs := [iV Au]) ⟨(S.tm rfl), trivial⟩ Tryz.call26) (words_IsMoment_ok _ Au _ rfl) rfl ?_;clear S;intro v1 a w1 hv1 hk1 hn1 S
 subst hv1
 refine lv S (rn_not (S.tm rfl)) rfl ?_;clear S;intro a S
 refine Ld (Tn (f_cond (S.tm rfl) (fun hb1 => ?_) (fun hb1 => ?_)))
 ·replace h := iteT h hb1
  refine Fs (Fg (lv S (Ra rfl) rfl ?_));clear S;intro a S
  refine lv S (Ra rfl) rfl ?_;clear S;intro a S
  refine Ld (Tn (wp_ret (then_r ?_)))
  obtain rfl := Option.some.inj h
  exact f_ret2 S Tryz.results85 rfl rfl ⟨_, rfl, (ownV_nil _ _ _)⟩
 ·replace h := iteF h hb1
  refine wp_skip (Tn (Fs (Fg (lv S (Rm (S.tm rfl)) rfl ?_))));clear S;intro a S
  refine lv S (Rm (S.tm rfl)) rfl ?_;clear S;intro a S
  obtain ⟨r1, hr1, h⟩ := bindE h
  have hz1 := S.keep.size
  refine l_enter S (fun _ => run_call (vs := [V, iV Au]) ⟨(S.tm rfl), (S.tm rfl), trivial⟩ Tryz.call98) (session_timetable_ok _ V Z (Ae.mono (S.le_arg nil_sub)) Au _ hr1) rfl ?_;clear S;intro v2 a w2 hv2 hk2 hn2 S
  obtain ⟨φ1, hl1, hm1, S⟩ := S.see' hn2 hz1
  have hs1 := hv2.mono hm1
  refine lv S (Ra (S.tm rfl)) rfl ?_;clear S;intro a S
  refine Ld (Tn (Fs (Fs (Fg (lv S (Rm (S.tm rfl)) rfl ?_)))));clear S;intro a S
  refine lv S (Rm (S.tm rfl)) rfl ?_;clear S;intro a S
  obtain ⟨r2, hr2, h⟩ := bindE h
  refine l_enter S (fun _ => run_call (vs := [v2, iV Au]) ⟨(S.tm rfl), (S.tm rfl), trivial⟩ Tryz.call57) (session_end_ok _ v2 r1 ((ownV_slcT GSlot.enc_ok hs1).mono (S.le_new nil_sub)) Au _ hr2) rfl ?_;clear S;intro v3 a w3 hv3 hk3 hn3 S
  subst hv3
  refine lv S (rn_gtr (S.tm rfl) rfl) rfl ?_;clear S;intro a S
  refine Ld ?_
  replace S := S.nk [] [(6, v2), (16, bV (decide (345686400000 < r2)))] [] rfl (subR rfl)
  refine Tn (f_cond (S.tm rfl) (fun hb2 => ?_) (fun hb2 => ?_))
  ·replace h := iteT h hb2
   refine Fs (Fg (lv S (Ra rfl) rfl ?_));clear S;intro a S
   refine lv S (Ra rfl) rfl ?_;clear S;intro a S
   refine Ld (Tn (wp_ret (then_r ?_)))
   obtain rfl := Option.some.inj h
   exact f_ret2 S Tryz.results85 rfl rfl ⟨_, rfl, (ownV_nil _ _ _)⟩
  ·replace h := iteF h hb2
   refine wp_skip (Tn (Fs (Fg (lv S (Rm (S.tm rfl)) rfl ?_))));clear S;intro a S
   refine lv S (Ra (S.tm rfl)) rfl ?_;clear S;intro a S
   refine lv S (Ra rfl) rfl ?_;clear S;intro a S
   refine Ld (Tn (wp_ret ?_))
   obtain rfl := Option.some.inj h
   exact f_ret2 S Tryz.results85 rfl rfl ⟨_, rfl, ((hs1).mono S.le_newer)⟩
end Go.Proofs.YtbmkfjgekokfcaaGreatDoor
