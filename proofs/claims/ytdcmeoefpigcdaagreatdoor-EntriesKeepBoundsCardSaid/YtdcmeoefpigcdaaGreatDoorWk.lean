/- Each Go function computes its plain twin, by program. -/
import Derived.Test.YtdcmeoefpigcdaaGreatDoorWk3
namespace Go.Proofs.YtdcmeoefpigcdaaGreatDoor
open Go
set_option maxHeartbeats 8000000 in
set_option maxRecDepth 20000 in
theorem swimmer_Refused_ok (w : World) (v_p_r : Value) (p_r : List GRace) (hs_p_r : Slc (view w []) 8 v_p_r (p_r.map GRace.enc)) (v_p_s : Value) (p_s : List GSwimmer) (hs_p_s : Slc (view w []) 3 v_p_s (p_s.map GSwimmer.enc)) (v_p_m : Value) (p_m : List GMove) (hs_p_m : Slc (view w []) 3 v_p_m (p_m.map GMove.enc)) (p_b : GBounds) (v_p_l : Value) (p_l : List GEntry) (hs_p_l : Slc (view w []) 2 v_p_l (p_l.map GEntry.enc)) (r : (List Int) × Int) (h : swimmer_Refused p_r p_s p_m p_b p_l = some r) :
    Calls Tryz.prog 13 [v_p_r, v_p_s, v_p_m, .agg (GBounds.enc p_b).toArray, v_p_l].toArray w (Ret w [] fun τ v _ => ∃ u1 : Value, v = .tuple #[u1, .int .i64 r.2] ∧ OwnV τ 3 1 u1 r.1.length (r.1.flatMap eInt)) := by
 refine f_enter [] [] Tryz.func13 rfl Tryz.ntmps13 rfl (by simp) (by simp [fps]) (by simp [fps]) fun a S => ?_
 unfold swimmer_Refused at h
 replace S := S.nk [] [(0, v_p_r), (1, v_p_s), (2, v_p_m), (3, .agg (GBounds.enc p_b).toArray), (4, v_p_l)] [] rfl ⟨rfl, rfl, rfl, rfl, rfl, trivial⟩
 refine f_seq ?_
 refine f_region ?_
 refine l_box S (S.tm rfl) (cs := [.int .i64 p_b.Races, .int .i64 p_b.Club, .int .i64 p_b.Age, .int .i64 p_b.Day]) rfl rfl ?_; clear S; intro a w1 b1 hz1 hk1 S
 refine lv S (rn_assign rfl) rfl ?_; clear S; intro a S
 refine lv S (rn_assign rfl) rfl ?_; clear S; intro a S
 refine l_done ?_
 replace S := S.nk [.blk b1 [.int .i64 p_b.Races, .int .i64 p_b.Club, .int .i64 p_b.Age, .int .i64 p_b.Day] 33] [(0, v_p_r), (1, v_p_s), (2, v_p_m), (4, v_p_l), (8, .pointer (some ⟨b1, 0, none⟩))] [true] rfl ⟨rfl, rfl, rfl, rfl, rfl, trivial⟩
 refine then_n ?_
 refine f_seq ?_
 refine f_seq ?_
 refine f_region ?_
 refine lv S (rn_move (S.tm rfl)) rfl ?_; clear S; intro a S
 refine lv S (rn_move (S.tm rfl)) rfl ?_; clear S; intro a S
 refine lv S (rn_move (S.tm rfl)) rfl ?_; clear S; intro a S
 refine lv S (rn_ldA Tryz.isAgg33 Tryz.sizeOf33 (off := 0) (o := 0) (part := [.int .i64 p_b.Races, .int .i64 p_b.Club, .int .i64 p_b.Age, .int .i64 p_b.Day]) rfl rfl (S.tm rfl) (S.cellsAt (i := 0) rfl)) rfl ?_; clear S; intro a S
 obtain ⟨r1, hr1, h⟩ := bindE h
 refine l_enter S (fun _ => run_call (vs := [v_p_r, v_p_s, v_p_m, .agg (GBounds.enc p_b).toArray]) ⟨(S.tm rfl), (S.tm rfl), (S.tm rfl), (S.tm rfl), trivial⟩ Tryz.call30) (swimmer_checkMeet_ok _ v_p_r p_r (hs_p_r.mono (S.le_arg nil_sub)) v_p_s p_s (hs_p_s.mono (S.le_arg nil_sub)) v_p_m p_m (hs_p_m.mono (S.le_arg nil_sub)) p_b _ hr1) rfl ?_; clear S; intro v1 a w2 hv1 hk2 hn1 S
 subst hv1
 refine lv S (rn_assign (S.tm rfl)) rfl ?_; clear S; intro a S
 refine l_done ?_
 replace S := S.nk [.blk b1 [.int .i64 p_b.Races, .int .i64 p_b.Club, .int .i64 p_b.Age, .int .i64 p_b.Day] 33] [(0, v_p_r), (1, v_p_s), (2, v_p_m), (4, v_p_l), (8, .pointer (some ⟨b1, 0, none⟩)), (12, .int .i64 r1)] [true] rfl ⟨rfl, rfl, rfl, rfl, rfl, rfl, trivial⟩
 refine then_n ?_
 refine f_seq ?_
 refine f_region ?_
 refine lv S (rn_move (S.tm rfl)) rfl ?_; clear S; intro a S
 refine lv S (rn_neq (S.tm rfl) rfl) rfl ?_; clear S; intro a S
 refine l_done ?_
 replace S := S.nk [.blk b1 [.int .i64 p_b.Races, .int .i64 p_b.Club, .int .i64 p_b.Age, .int .i64 p_b.Day] 33] [(0, v_p_r), (1, v_p_s), (2, v_p_m), (4, v_p_l), (8, .pointer (some ⟨b1, 0, none⟩)), (12, .int .i64 r1), (30, .bool (!decide (r1 = 0)))] [true] rfl ⟨rfl, rfl, rfl, rfl, rfl, rfl, rfl, trivial⟩
 refine then_n ?_
 refine f_cond (S.tm rfl) (fun hb1 => ?_) (fun hb1 => ?_)
 ·replace h := iteT h hb1
  refine f_seq ?_
  refine f_region ?_
  refine lv S (rn_move (S.tm rfl)) rfl ?_; clear S; intro a S
  refine lv S (rn_assign rfl) rfl ?_; clear S; intro a S
  refine lv S (rn_assign (S.tm rfl)) rfl ?_; clear S; intro a S
  refine l_done ?_
  replace S := S.nk [] [(10, .slice none 0 0), (11, .int .i64 r1)] [false] rfl ⟨rfl, rfl, trivial⟩
  refine then_n ?_
  refine wp_ret ?_
  refine then_r ?_
  obtain rfl := Option.some.inj h
  exact f_ret2 S Tryz.results13 rfl rfl ⟨_, rfl, (ownV_nil _ _ _)⟩
 ·replace h := iteF h hb1
  refine wp_skip ?_
  refine then_n ?_
  refine f_seq ?_
  refine f_seq ?_
  refine f_region ?_
  refine lv S (rn_move (S.tm rfl)) rfl ?_; clear S; intro a S
  obtain ⟨r2, hr2, h⟩ := bindE h
  refine l_enter S (fun _ => run_call (vs := [v_p_l]) ⟨(S.tm rfl), trivial⟩ Tryz.call31) (swimmer_CheckEntries_ok _ v_p_l p_l (hs_p_l.mono (S.le_arg nil_sub)) _ hr2) rfl ?_; clear S; intro v2 a w3 hv2 hk3 hn2 S
  subst hv2
  refine lv S (rn_assign (S.tm rfl)) rfl ?_; clear S; intro a S
  refine l_done ?_
  replace S := S.nk [.blk b1 [.int .i64 p_b.Races, .int .i64 p_b.Club, .int .i64 p_b.Age, .int .i64 p_b.Day] 33] [(0, v_p_r), (1, v_p_s), (2, v_p_m), (4, v_p_l), (8, .pointer (some ⟨b1, 0, none⟩)), (13, .int .i64 r2)] [true] rfl ⟨rfl, rfl, rfl, rfl, rfl, rfl, trivial⟩
  refine then_n ?_
  refine f_seq ?_
  refine f_region ?_
  refine lv S (rn_move (S.tm rfl)) rfl ?_; clear S; intro a S
  refine lv S (rn_neq (S.tm rfl) rfl) rfl ?_; clear S; intro a S
  refine l_done ?_
  replace S := S.nk [.blk b1 [.int .i64 p_b.Races, .int .i64 p_b.Club, .int .i64 p_b.Age, .int .i64 p_b.Day] 33] [(0, v_p_r), (1, v_p_s), (2, v_p_m), (4, v_p_l), (8, .pointer (some ⟨b1, 0, none⟩)), (13, .int .i64 r2), (35, .bool (!decide (r2 = 0)))] [true] rfl ⟨rfl, rfl, rfl, rfl, rfl, rfl, rfl, trivial⟩
  refine then_n ?_
  refine f_cond (S.tm rfl) (fun hb2 => ?_) (fun hb2 => ?_)
  ·replace h := iteT h hb2
   refine f_seq ?_
   refine f_region ?_
   refine lv S (rn_move (S.tm rfl)) rfl ?_; clear S; intro a S
   refine lv S (rn_assign rfl) rfl ?_; clear S; intro a S
   refine lv S (rn_assign (S.tm rfl)) rfl ?_; clear S; intro a S
   refine l_done ?_
   replace S := S.nk [] [(10, .slice none 0 0), (11, .int .i64 r2)] [false] rfl ⟨rfl, rfl, trivial⟩
   refine then_n ?_
   refine wp_ret ?_
   refine then_r ?_
   obtain rfl := Option.some.inj h
   exact f_ret2 S Tryz.results13 rfl rfl ⟨_, rfl, (ownV_nil _ _ _)⟩
  ·replace h := iteF h hb2
   refine wp_skip ?_
   refine then_n ?_
   refine f_seq ?_
   refine f_region ?_
   refine l_makeMap (κ := ByteArray) (ν := Int) S rfl Value.string (Value.int .i64) ?_; clear S; intro a w4 b2 hz2 hk4 S
   refine l_makeMap (κ := Gswimmer_place) (ν := Int) S rfl (fun x => Value.agg (Gswimmer_place.enc x).toArray) (Value.int .i64) ?_; clear S; intro a w5 b3 hz3 hk5 S
   refine lv S (rn_assign (S.tm rfl)) rfl ?_; clear S; intro a S
   refine lv S (rn_assign (S.tm rfl)) rfl ?_; clear S; intro a S
   refine l_done ?_
   replace S := S.nk [.map b3 (ments (fun x => Value.agg (Gswimmer_place.enc x).toArray) (Value.int .i64) ([] : List (Gswimmer_place × Int))) ([] : List (Gswimmer_place × Int)).length, .map b2 (ments Value.string (Value.int .i64) ([] : List (ByteArray × Int))) ([] : List (ByteArray × Int)).length, .blk b1 [.int .i64 p_b.Races, .int .i64 p_b.Club, .int .i64 p_b.Age, .int .i64 p_b.Day] 33] [(0, v_p_r), (1, v_p_s), (2, v_p_m), (4, v_p_l), (8, .pointer (some ⟨b1, 0, none⟩)), (14, .map (some b2)), (15, .map (some b3))] [true, true, true] rfl ⟨rfl, rfl, rfl, rfl, rfl, rfl, rfl, trivial⟩
   refine then_n ?_
   refine f_seq ?_
   refine f_region ?_
   refine lv S (rn_assign rfl) rfl ?_; clear S; intro a S
   replace S := S.nil 3 1
   refine l_done ?_
   replace S := S.nk [.own (.slice none 0 0) 3 1 ([] : List Int).length (([] : List Int).flatMap eInt), .map b3 (ments (fun x => Value.agg (Gswimmer_place.enc x).toArray) (Value.int .i64) ([] : List (Gswimmer_place × Int))) ([] : List (Gswimmer_place × Int)).length, .map b2 (ments Value.string (Value.int .i64) ([] : List (ByteArray × Int))) ([] : List (ByteArray × Int)).length, .blk b1 [.int .i64 p_b.Races, .int .i64 p_b.Club, .int .i64 p_b.Age, .int .i64 p_b.Day] 33] [(0, v_p_r), (1, v_p_s), (2, v_p_m), (4, v_p_l), (8, .pointer (some ⟨b1, 0, none⟩)), (14, .map (some b2)), (15, .map (some b3)), (16, (.slice none 0 0))] [true, true, true, true] rfl ⟨rfl, rfl, rfl, rfl, rfl, rfl, rfl, rfl, trivial⟩
   refine then_n ?_
   refine f_seq ?_
   refine f_seq ?_
   refine f_region ?_
   refine lv S (rn_move (S.tm rfl)) rfl ?_; clear S; intro a S
   refine lv S (rn_lenT sl_35 (S.tm rfl) (slc_len hs_p_l)) rfl ?_; clear S; intro a S
   refine lv S (rn_move rfl) rfl ?_; clear S; intro a S
   refine l_done ?_
   replace S := S.nk [.own (.slice none 0 0) 3 1 ([] : List Int).length (([] : List Int).flatMap eInt), .map b3 (ments (fun x => Value.agg (Gswimmer_place.enc x).toArray) (Value.int .i64) ([] : List (Gswimmer_place × Int))) ([] : List (Gswimmer_place × Int)).length, .map b2 (ments Value.string (Value.int .i64) ([] : List (ByteArray × Int))) ([] : List (ByteArray × Int)).length, .blk b1 [.int .i64 p_b.Races, .int .i64 p_b.Club, .int .i64 p_b.Age, .int .i64 p_b.Day] 33] [(0, v_p_r), (1, v_p_s), (2, v_p_m), (8, .pointer (some ⟨b1, 0, none⟩)), (14, .map (some b2)), (15, .map (some b3)), (16, (.slice none 0 0)), (39, v_p_l), (40, .int .i64 (p_l.length : Int)), (41, .int .i64 0)] [true, true, true, true] rfl ⟨rfl, rfl, rfl, rfl, rfl, rfl, rfl, rfl, rfl, rfl, trivial⟩
   refine then_n ?_
   obtain ⟨j1, hj1, h⟩ := joinE h
   refine f_join (fun a w' => ∃ x1 : List Int, ∃ x2 : List (Gswimmer_place × Int), ∃ x3 : List (ByteArray × Int), ∃ v3 : Value, j1 x1 x2 x3 = some r ∧ Sx w [] nov [.own v3 3 1 x1.length (x1.flatMap eInt), .map b3 (ments (fun x => Value.agg (Gswimmer_place.enc x).toArray) (Value.int .i64) x2) x2.length, .map b2 (ments Value.string (Value.int .i64) x3) x3.length, .blk b1 [.int .i64 p_b.Races, .int .i64 p_b.Club, .int .i64 p_b.Age, .int .i64 p_b.Day] 33] [(16, v3)] 131 a w') ?_ ?_
   ·refine wp_block ?_
    refine f_loop (fun (ys1 : List GEntry) a w' => ∃ i1 : Nat, ∃ x1 : List Int, ∃ x2 : List (Gswimmer_place × Int), ∃ x3 : List (ByteArray × Int), ∃ v3 : Value, (∃ dn, p_l = dn ++ ys1 ∧ dn.length = i1) ∧ swimmer_Refused_l1 p_r p_s p_b p_m j1 ys1 i1 x1 x2 x3 = some r ∧ Sx w [] nov [.own v3 3 1 x1.length (x1.flatMap eInt), .map b3 (ments (fun x => Value.agg (Gswimmer_place.enc x).toArray) (Value.int .i64) x2) x2.length, .map b2 (ments Value.string (Value.int .i64) x3) x3.length, .blk b1 [.int .i64 p_b.Races, .int .i64 p_b.Club, .int .i64 p_b.Age, .int .i64 p_b.Day] 33] [(0, v_p_r), (1, v_p_s), (2, v_p_m), (8, .pointer (some ⟨b1, 0, none⟩)), (14, .map (some b2)), (15, .map (some b3)), (16, v3), (39, v_p_l), (40, .int .i64 (p_l.length : Int)), (41, .int .i64 (i1 : Int))] 131 a w') List.length p_l ⟨0, ([] : List Int), ([] : List (Gswimmer_place × Int)), ([] : List (ByteArray × Int)), (.slice none 0 0), ⟨[], rfl, rfl⟩, h, S.nf [true, true, true, true] rfl ⟨rfl, rfl, rfl, rfl, rfl, rfl, rfl, rfl, rfl, rfl, trivial⟩⟩ ?_
    clear S h; rintro ys1 a w6 ⟨i1, x1, x2, x3, v3, ⟨dn, hd1, hi1⟩, h, S⟩
    cases ys1 with
    | nil =>
     rw [swimmer_Refused_l1.eq_1] at h
     refine f_seq ?_
     refine f_region ?_
     refine lv S (rn_lss (S.tm rfl) (S.tm rfl)) rfl ?_; clear S; intro a S
     refine l_done ?_
     replace S := S.nk [.own v3 3 1 x1.length (x1.flatMap eInt), .map b3 (ments (fun x => Value.agg (Gswimmer_place.enc x).toArray) (Value.int .i64) x2) x2.length, .map b2 (ments Value.string (Value.int .i64) x3) x3.length, .blk b1 [.int .i64 p_b.Races, .int .i64 p_b.Club, .int .i64 p_b.Age, .int .i64 p_b.Day] 33] [(0, v_p_r), (1, v_p_s), (2, v_p_m), (8, .pointer (some ⟨b1, 0, none⟩)), (14, .map (some b2)), (15, .map (some b3)), (16, v3), (39, v_p_l), (40, .int .i64 (p_l.length : Int)), (41, .int .i64 (i1 : Int)), (42, .bool (decide ((i1 : Int) < (p_l.length : Int))))] [true, true, true, true] rfl ⟨rfl, rfl, rfl, rfl, rfl, rfl, rfl, rfl, rfl, rfl, rfl, trivial⟩
     refine then_n ?_
     refine f_seq ?_
     refine wp_cond_false ((S.tm rfl).trans (congrArg Value.bool (rng_nil hd1 hi1))) ?_
     refine wp_exit ?_
     refine then_x ?_
     refine then_x ?_
     refine x_same ?_
     refine then_n ?_
     exact ⟨x1, x2, x3, v3, h, S.nf [true, true, true, true] rfl ⟨rfl, trivial⟩⟩
    | cons y1 ys1 =>
     rw [swimmer_Refused_l1.eq_2] at h
     refine f_seq ?_
     refine f_region ?_
     refine lv S (rn_lss (S.tm rfl) (S.tm rfl)) rfl ?_; clear S; intro a S
     refine l_done ?_
     replace S := S.nk [.own v3 3 1 x1.length (x1.flatMap eInt), .map b3 (ments (fun x => Value.agg (Gswimmer_place.enc x).toArray) (Value.int .i64) x2) x2.length, .map b2 (ments Value.string (Value.int .i64) x3) x3.length, .blk b1 [.int .i64 p_b.Races, .int .i64 p_b.Club, .int .i64 p_b.Age, .int .i64 p_b.Day] 33] [(0, v_p_r), (1, v_p_s), (2, v_p_m), (8, .pointer (some ⟨b1, 0, none⟩)), (14, .map (some b2)), (15, .map (some b3)), (16, v3), (39, v_p_l), (40, .int .i64 (p_l.length : Int)), (41, .int .i64 (i1 : Int)), (42, .bool (decide ((i1 : Int) < (p_l.length : Int))))] [true, true, true, true] rfl ⟨rfl, rfl, rfl, rfl, rfl, rfl, rfl, rfl, rfl, rfl, rfl, trivial⟩
     refine then_n ?_
     refine f_seq ?_
     refine wp_cond_true ((S.tm rfl).trans (congrArg Value.bool (rng_cons hd1 hi1))) ?_
     refine wp_skip ?_
     refine then_n ?_
     refine f_seq ?_
     obtain ⟨j2, hj2, h⟩ := joinE h
     refine f_join (fun a w' => ∃ x4 : List Int, ∃ x5 : List (Gswimmer_place × Int), ∃ x6 : List (ByteArray × Int), ∃ v4 : Value, j2 x4 x5 x6 = some r ∧ Sx w [] nov [.own v4 3 1 x4.length (x4.flatMap eInt), .map b3 (ments (fun x => Value.agg (Gswimmer_place.enc x).toArray) (Value.int .i64) x5) x5.length, .map b2 (ments Value.string (Value.int .i64) x6) x6.length, .blk b1 [.int .i64 p_b.Races, .int .i64 p_b.Club, .int .i64 p_b.Age, .int .i64 p_b.Day] 33] [(0, v_p_r), (1, v_p_s), (2, v_p_m), (8, .pointer (some ⟨b1, 0, none⟩)), (14, .map (some b2)), (15, .map (some b3)), (16, v4), (39, v_p_l), (40, .int .i64 (p_l.length : Int)), (41, .int .i64 (i1 : Int))] 131 a w') ?_ ?_
     ·refine wp_block ?_
      refine f_seq ?_
      refine f_region ?_
      refine lv S (rn_move (S.tm rfl)) rfl ?_; clear S; intro a S
      obtain ⟨b4, o1, hm1, hr3⟩ := rn_indexT (a := a) (x := .tmp 39) (y := .tmp 41) (ty := 0) sl_35 hs_p_l (get_mid hd1 hi1) rfl (S.tm rfl) (S.tm rfl)
      refine lv S (hr3 _) rfl ?_; clear S; intro a S
      clear hr3
      refine lv S (rn_ldA Tryz.isAgg45 Tryz.sizeOf45 (off := o1) (o := 0) (part := [.string y1.Who, .string y1.Race]) rfl rfl (S.tm rfl) (hm1.at S.emb0)) rfl ?_; clear S; intro a S
      refine l_alloc S Tryz.zeroValue45 (cs := [.string k_empty, .string k_empty]) rfl rfl ?_; clear S; intro a w9 b5 hz4 hk6 S
      refine lv S (rn_assign (S.tm rfl)) rfl ?_; clear S; intro a S
      refine l_store S (S.tm rfl) (S.tm rfl) (i := 0) (off := 0) rfl Tryz.sizeOf45 (vs := [.string y1.Who, .string y1.Race]) rfl rfl rfl rfl ?_; clear S; intro w10 hk7 S
      refine l_done ?_
      replace S := S.nk [.blk b5 [.string y1.Who, .string y1.Race] 45, .own v3 3 1 x1.length (x1.flatMap eInt), .map b3 (ments (fun x => Value.agg (Gswimmer_place.enc x).toArray) (Value.int .i64) x2) x2.length, .map b2 (ments Value.string (Value.int .i64) x3) x3.length, .blk b1 [.int .i64 p_b.Races, .int .i64 p_b.Club, .int .i64 p_b.Age, .int .i64 p_b.Day] 33] [(0, v_p_r), (1, v_p_s), (2, v_p_m), (8, .pointer (some ⟨b1, 0, none⟩)), (14, .map (some b2)), (15, .map (some b3)), (16, v3), (17, .int .i64 (i1 : Int)), (18, .pointer (some ⟨b5, 0, none⟩)), (39, v_p_l), (40, .int .i64 (p_l.length : Int)), (41, .int .i64 (i1 : Int))] [true, true, true, true, true] rfl ⟨rfl, rfl, rfl, rfl, rfl, rfl, rfl, rfl, rfl, rfl, rfl, rfl, trivial⟩
      refine then_n ?_
      refine f_seq ?_
      refine f_region ?_
      refine lv S (rn_move (S.tm rfl)) rfl ?_; clear S; intro a S
      refine lv S (rn_fld fa_45_1 (S.tm rfl)) rfl ?_; clear S; intro a S
      refine lv S (rn_load Tryz.isAgg9 (S.tm rfl) (S.cell (i := 0) rfl rfl)) rfl ?_; clear S; intro a S
      obtain ⟨r3, hr4, h⟩ := bindE h
      refine l_enter S (fun _ => run_call (vs := [v_p_r, .string y1.Race]) ⟨(S.tm rfl), (S.tm rfl), trivial⟩ Tryz.call32) (swimmer_raceOf_ok _ v_p_r p_r (hs_p_r.mono (S.le_arg nil_sub)) y1.Race _ hr4) rfl ?_; clear S; intro v5 a w11 hv3 hk8 hn3 S
      subst hv3
      refine lv S (rn_move (S.tm rfl)) rfl ?_; clear S; intro a S
      refine lv S (rn_extract (S.tm rfl) rfl) rfl ?_; clear S; intro a S
      refine lv S (rn_extract (S.tm rfl) rfl) rfl ?_; clear S; intro a S
      refine l_alloc S Tryz.zeroValue52 (cs := [.string k_empty, .int .i64 0, .int .i64 0, .int .i64 0, .int .i64 0, .int .i64 0, .int .i64 0, .int .i64 0]) rfl rfl ?_; clear S; intro a w12 b6 hz5 hk9 S
      refine l_store S (S.tm rfl) (S.tm rfl) (i := 0) (off := 0) rfl Tryz.sizeOf52 (vs := [.string r3.1.Key, .int .i64 r3.1.Metres, .int .i64 r3.1.Stroke, .int .i64 r3.1.Course, .int .i64 r3.1.Legs, .int .i64 r3.1.Sex, .int .i64 r3.1.Young, .int .i64 r3.1.Old]) rfl rfl rfl rfl ?_; clear S; intro w13 hk10 S
      refine lv S (rn_assign (S.tm rfl)) rfl ?_; clear S; intro a S
      refine l_done ?_
      replace S := S.nk [.blk b6 [.string r3.1.Key, .int .i64 r3.1.Metres, .int .i64 r3.1.Stroke, .int .i64 r3.1.Course, .int .i64 r3.1.Legs, .int .i64 r3.1.Sex, .int .i64 r3.1.Young, .int .i64 r3.1.Old] 52, .blk b5 [.string y1.Who, .string y1.Race] 45, .own v3 3 1 x1.length (x1.flatMap eInt), .map b3 (ments (fun x => Value.agg (Gswimmer_place.enc x).toArray) (Value.int .i64) x2) x2.length, .map b2 (ments Value.string (Value.int .i64) x3) x3.length, .blk b1 [.int .i64 p_b.Races, .int .i64 p_b.Club, .int .i64 p_b.Age, .int .i64 p_b.Day] 33] [(0, v_p_r), (1, v_p_s), (2, v_p_m), (8, .pointer (some ⟨b1, 0, none⟩)), (14, .map (some b2)), (15, .map (some b3)), (16, v3), (17, .int .i64 (i1 : Int)), (18, .pointer (some ⟨b5, 0, none⟩)), (19, .pointer (some ⟨b6, 0, none⟩)), (20, .bool r3.2), (39, v_p_l), (40, .int .i64 (p_l.length : Int)), (41, .int .i64 (i1 : Int))] [true, true, true, true, true, true] rfl ⟨rfl, rfl, rfl, rfl, rfl, rfl, rfl, rfl, rfl, rfl, rfl, rfl, rfl, rfl, trivial⟩
      refine then_n ?_
      refine f_seq ?_
      refine f_region ?_
      refine lv S (rn_move (S.tm rfl)) rfl ?_; clear S; intro a S
      refine lv S (rn_fld fa_45_0 (S.tm rfl)) rfl ?_; clear S; intro a S
      refine lv S (rn_load Tryz.isAgg9 (S.tm rfl) (S.cell (i := 1) rfl rfl)) rfl ?_; clear S; intro a S
      refine lv S (rn_fld fa_33_3 (S.tm rfl)) rfl ?_; clear S; intro a S
      refine lv S (rn_load Tryz.isAgg3 (S.tm rfl) (S.cell (i := 5) rfl rfl)) rfl ?_; clear S; intro a S
      obtain ⟨r4, hr5, h⟩ := bindE h
      refine l_enter S (fun _ => run_call (vs := [v_p_s, .string y1.Who, .int .i64 p_b.Day]) ⟨(S.tm rfl), (S.tm rfl), (S.tm rfl), trivial⟩ Tryz.call33) (swimmer_swimmerOf_ok _ v_p_s p_s (hs_p_s.mono (S.le_arg nil_sub)) y1.Who p_b.Day _ hr5) rfl ?_; clear S; intro v6 a w14 hv4 hk11 hn4 S
      subst hv4
      refine lv S (rn_move (S.tm rfl)) rfl ?_; clear S; intro a S
      refine lv S (rn_extract (S.tm rfl) rfl) rfl ?_; clear S; intro a S
      refine lv S (rn_extract (S.tm rfl) rfl) rfl ?_; clear S; intro a S
      refine l_alloc S Tryz.zeroValue56 (cs := [.string k_empty, .int .i64 0, .int .i64 0]) rfl rfl ?_; clear S; intro a w15 b7 hz6 hk12 S
      refine l_store S (S.tm rfl) (S.tm rfl) (i := 0) (off := 0) rfl Tryz.sizeOf56 (vs := [.string r4.1.Key, .int .i64 r4.1.Sex, .int .i64 r4.1.Born]) rfl rfl rfl rfl ?_; clear S; intro w16 hk13 S
      refine lv S (rn_assign (S.tm rfl)) rfl ?_; clear S; intro a S
      refine l_done ?_
      replace S := S.nk [.blk b7 [.string r4.1.Key, .int .i64 r4.1.Sex, .int .i64 r4.1.Born] 56, .blk b6 [.string r3.1.Key, .int .i64 r3.1.Metres, .int .i64 r3.1.Stroke, .int .i64 r3.1.Course, .int .i64 r3.1.Legs, .int .i64 r3.1.Sex, .int .i64 r3.1.Young, .int .i64 r3.1.Old] 52, .blk b5 [.string y1.Who, .string y1.Race] 45, .own v3 3 1 x1.length (x1.flatMap eInt), .map b3 (ments (fun x => Value.agg (Gswimmer_place.enc x).toArray) (Value.int .i64) x2) x2.length, .map b2 (ments Value.string (Value.int .i64) x3) x3.length, .blk b1 [.int .i64 p_b.Races, .int .i64 p_b.Club, .int .i64 p_b.Age, .int .i64 p_b.Day] 33] [(0, v_p_r), (1, v_p_s), (2, v_p_m), (8, .pointer (some ⟨b1, 0, none⟩)), (14, .map (some b2)), (15, .map (some b3)), (16, v3), (17, .int .i64 (i1 : Int)), (18, .pointer (some ⟨b5, 0, none⟩)), (19, .pointer (some ⟨b6, 0, none⟩)), (20, .bool r3.2), (21, .pointer (some ⟨b7, 0, none⟩)), (22, .bool r4.2), (39, v_p_l), (40, .int .i64 (p_l.length : Int)), (41, .int .i64 (i1 : Int))] [true, true, true, true, true, true, true] rfl ⟨rfl, rfl, rfl, rfl, rfl, rfl, rfl, rfl, rfl, rfl, rfl, rfl, rfl, rfl, rfl, rfl, trivial⟩
      refine then_n ?_
      refine f_seq ?_
      obtain ⟨j3, hj3, h⟩ := joinE h
      refine f_join (fun a w' => ∃ b8 : Nat, j3 = some r ∧ Sx w [] nov [.blk b8 [.string (swimmer_clubAt p_m y1.Who p_b.Day), .string y1.Race] 92, .blk b7 [.string r4.1.Key, .int .i64 r4.1.Sex, .int .i64 r4.1.Born] 56, .blk b6 [.string r3.1.Key, .int .i64 r3.1.Metres, .int .i64 r3.1.Stroke, .int .i64 r3.1.Course, .int .i64 r3.1.Legs, .int .i64 r3.1.Sex, .int .i64 r3.1.Young, .int .i64 r3.1.Old] 52, .blk b5 [.string y1.Who, .string y1.Race] 45, .own v3 3 1 x1.length (x1.flatMap eInt), .map b3 (ments (fun x => Value.agg (Gswimmer_place.enc x).toArray) (Value.int .i64) x2) x2.length, .map b2 (ments Value.string (Value.int .i64) x3) x3.length, .blk b1 [.int .i64 p_b.Races, .int .i64 p_b.Club, .int .i64 p_b.Age, .int .i64 p_b.Day] 33] [(0, v_p_r), (1, v_p_s), (2, v_p_m), (8, .pointer (some ⟨b1, 0, none⟩)), (14, .map (some b2)), (15, .map (some b3)), (16, v3), (17, .int .i64 (i1 : Int)), (18, .pointer (some ⟨b5, 0, none⟩)), (19, .pointer (some ⟨b6, 0, none⟩)), (20, .bool r3.2), (21, .pointer (some ⟨b7, 0, none⟩)), (22, .bool r4.2), (23, .pointer (some ⟨b8, 0, none⟩)), (39, v_p_l), (40, .int .i64 (p_l.length : Int)), (41, .int .i64 (i1 : Int))] 131 a w') ?_ ?_
      ·refine d_region [] ([]) Tryz.mixed S rfl (by kernel_rfl) ?_; clear S; intro w21 hk17 hsel S
       refine d_quiet 0 S hsel rfl rfl rfl (by kernel_rfl) (by kernel_rfl) rfl (fun _ hw => (rn_move (S.tm rfl))) ?_; clear S; intro a S
       refine d_quiet 1 S hsel rfl rfl rfl (by kernel_rfl) (by kernel_rfl) rfl (fun _ hw => (rn_fld fa_45_0 (S.tm rfl))) ?_; clear S; intro a S
       refine d_quiet 2 S hsel rfl rfl rfl (by kernel_rfl) (by kernel_rfl) rfl (fun _ hw => (rn_ld Tryz.isAgg9 (off := 0) (o := 0) (S.tm rfl) ((S.blk_mem (i := 2) (cells := [.string y1.Who, .string y1.Race]) (b := b5) (T := 45) rfl (ne_nil (e' := .blk b5 [.string y1.Who, .string y1.Race] 45))).kept hw) rfl)) ?_; clear S; intro a S
       refine d_quiet 3 S hsel rfl rfl rfl (by kernel_rfl) (by kernel_rfl) rfl (fun _ hw => (rn_fld fa_33_3 (S.tm rfl))) ?_; clear S; intro a S
       refine d_quiet 4 S hsel rfl rfl rfl (by kernel_rfl) (by kernel_rfl) rfl (fun _ hw => (rn_ld Tryz.isAgg3 (off := 0) (o := 3) (S.tm rfl) ((S.blk_mem (i := 6) (cells := [.int .i64 p_b.Races, .int .i64 p_b.Club, .int .i64 p_b.Age, .int .i64 p_b.Day]) (b := b1) (T := 33) rfl (ne_nil (e' := .blk b1 [.int .i64 p_b.Races, .int .i64 p_b.Club, .int .i64 p_b.Age, .int .i64 p_b.Day] 33))).kept hw) rfl)) ?_; clear S; intro a S
       refine d_quiet 6 S hsel rfl rfl rfl (by kernel_rfl) (by kernel_rfl) rfl (fun _ hw => (rn_fld fa_45_1 (S.tm rfl))) ?_; clear S; intro a S
       refine d_quiet 7 S hsel rfl rfl rfl (by kernel_rfl) (by kernel_rfl) rfl (fun _ hw => (rn_ld Tryz.isAgg9 (off := 0) (o := 1) (S.tm rfl) ((S.blk_mem (i := 2) (cells := [.string y1.Who, .string y1.Race]) (b := b5) (T := 45) rfl (ne_nil (e' := .blk b5 [.string y1.Who, .string y1.Race] 45))).kept hw) rfl)) ?_; clear S; intro a S
       refine d_loud2 5 9 (by kernel_rfl) rfl rfl ?_ ?_
       ·refine l_enter S (fun _ => run_call (vs := [v_p_m, .string y1.Who, .int .i64 p_b.Day]) ⟨(S.tm rfl), (S.tm rfl), (S.tm rfl), trivial⟩ Tryz.call34) (swimmer_clubAt_ok _ v_p_m p_m (hs_p_m.mono (S.le_arg nil_sub)) y1.Who p_b.Day _ rfl) rfl ?_; clear S; intro v8 a w22 hv6 hk18 hn6 S
        subst hv6
        refine l_done ?_
        refine d_next hk18 ?_
        refine d_quiet 8 S hsel rfl rfl rfl (by kernel_rfl) (by kernel_rfl) rfl (fun _ hw => (rn_bld bt_92 (pv := [(0, .string (swimmer_clubAt p_m y1.Who p_b.Day)), (1, .string y1.Race)]) ⟨rfl, (S.tm rfl), rfl, (S.tm rfl), trivial⟩ (cs := [.string (swimmer_clubAt p_m y1.Who p_b.Day), .string y1.Race]) (by kernel_rfl))) ?_; clear S; intro a S
        refine d_loud1 9 (by kernel_rfl) rfl ?_
        refine l_alloc S Tryz.zeroValue92 (cs := [.string k_empty, .string k_empty]) rfl rfl ?_; clear S; intro a w23 b10 hz8 hk19 S
        refine l_done ?_
        refine d_nextN ([b10]) hk19 (new1 hz8) ?_
        refine d_loud1 10 (by kernel_rfl) rfl ?_
        refine l_store S (S.tm rfl) (S.tm rfl) (i := 0) (off := 0) rfl Tryz.sizeOf92 (vs := [.string (swimmer_clubAt p_m y1.Who p_b.Day), .string y1.Race]) rfl rfl rfl rfl ?_; clear S; intro w24 hk20 S
        refine l_done ?_
        refine d_next hk20 ?_
        refine d_end (by kernel_rfl) ?_
        clear hsel
        replace S := S.nk [.blk b10 [.string (swimmer_clubAt p_m y1.Who p_b.Day), .string y1.Race] 92, .blk b7 [.string r4.1.Key, .int .i64 r4.1.Sex, .int .i64 r4.1.Born] 56, .blk b6 [.string r3.1.Key, .int .i64 r3.1.Metres, .int .i64 r3.1.Stroke, .int .i64 r3.1.Course, .int .i64 r3.1.Legs, .int .i64 r3.1.Sex, .int .i64 r3.1.Young, .int .i64 r3.1.Old] 52, .blk b5 [.string y1.Who, .string y1.Race] 45, .own v3 3 1 x1.length (x1.flatMap eInt), .map b3 (ments (fun x => Value.agg (Gswimmer_place.enc x).toArray) (Value.int .i64) x2) x2.length, .map b2 (ments Value.string (Value.int .i64) x3) x3.length, .blk b1 [.int .i64 p_b.Races, .int .i64 p_b.Club, .int .i64 p_b.Age, .int .i64 p_b.Day] 33] [(0, v_p_r), (1, v_p_s), (2, v_p_m), (8, .pointer (some ⟨b1, 0, none⟩)), (14, .map (some b2)), (15, .map (some b3)), (16, v3), (17, .int .i64 (i1 : Int)), (18, .pointer (some ⟨b5, 0, none⟩)), (19, .pointer (some ⟨b6, 0, none⟩)), (20, .bool r3.2), (21, .pointer (some ⟨b7, 0, none⟩)), (22, .bool r4.2), (23, .pointer (some ⟨b10, 0, none⟩)), (39, v_p_l), (40, .int .i64 (p_l.length : Int)), (41, .int .i64 (i1 : Int))] [true, true, true, true, true, true, true, true] rfl ⟨rfl, rfl, rfl, rfl, rfl, rfl, rfl, rfl, rfl, rfl, rfl, rfl, rfl, rfl, rfl, rfl, rfl, trivial⟩
        refine then_n ?_
        exact ⟨b10, h, S.nf [true, true, true, true, true, true, true, true] rfl ⟨rfl, rfl, rfl, rfl, rfl, rfl, rfl, rfl, rfl, rfl, rfl, rfl, rfl, rfl, rfl, rfl, rfl, trivial⟩⟩
       ·refine l_alloc S Tryz.zeroValue92 (cs := [.string k_empty, .string k_empty]) rfl rfl ?_; clear S; intro a w25 b11 hz9 hk21 S
        refine l_done ?_
        refine d_nextN ([b11]) hk21 (new1 hz9) ?_
        refine d_loud1 5 (by kernel_rfl) rfl ?_
        refine l_enter S (fun _ => run_call (vs := [v_p_m, .string y1.Who, .int .i64 p_b.Day]) ⟨(S.tm rfl), (S.tm rfl), (S.tm rfl), trivial⟩ Tryz.call34) (swimmer_clubAt_ok _ v_p_m p_m (hs_p_m.mono (S.le_arg nil_sub)) y1.Who p_b.Day _ rfl) rfl ?_; clear S; intro v9 a w26 hv7 hk22 hn7 S
        subst hv7
        refine l_done ?_
        refine d_next (Keep.none hk22) ?_
        refine d_quiet 8 S hsel rfl rfl rfl (by kernel_rfl) (by kernel_rfl) rfl (fun _ hw => (rn_bld bt_92 (pv := [(0, .string (swimmer_clubAt p_m y1.Who p_b.Day)), (1, .string y1.Race)]) ⟨rfl, (S.tm rfl), rfl, (S.tm rfl), trivial⟩ (cs := [.string (swimmer_clubAt p_m y1.Who p_b.Day), .string y1.Race]) (by kernel_rfl))) ?_; clear S; intro a S
        refine d_loud1 10 (by kernel_rfl) rfl ?_
        refine l_store S (S.tm rfl) (S.tm rfl) (i := 0) (off := 0) rfl Tryz.sizeOf92 (vs := [.string (swimmer_clubAt p_m y1.Who p_b.Day), .string y1.Race]) rfl rfl rfl rfl ?_; clear S; intro w27 hk23 S
        refine l_done ?_
        refine d_next hk23 ?_
        refine d_end (by kernel_rfl) ?_
        clear hsel
        replace S := S.nk [.blk b11 [.string (swimmer_clubAt p_m y1.Who p_b.Day), .string y1.Race] 92, .blk b7 [.string r4.1.Key, .int .i64 r4.1.Sex, .int .i64 r4.1.Born] 56, .blk b6 [.string r3.1.Key, .int .i64 r3.1.Metres, .int .i64 r3.1.Stroke, .int .i64 r3.1.Course, .int .i64 r3.1.Legs, .int .i64 r3.1.Sex, .int .i64 r3.1.Young, .int .i64 r3.1.Old] 52, .blk b5 [.string y1.Who, .string y1.Race] 45, .own v3 3 1 x1.length (x1.flatMap eInt), .map b3 (ments (fun x => Value.agg (Gswimmer_place.enc x).toArray) (Value.int .i64) x2) x2.length, .map b2 (ments Value.string (Value.int .i64) x3) x3.length, .blk b1 [.int .i64 p_b.Races, .int .i64 p_b.Club, .int .i64 p_b.Age, .int .i64 p_b.Day] 33] [(0, v_p_r), (1, v_p_s), (2, v_p_m), (8, .pointer (some ⟨b1, 0, none⟩)), (14, .map (some b2)), (15, .map (some b3)), (16, v3), (17, .int .i64 (i1 : Int)), (18, .pointer (some ⟨b5, 0, none⟩)), (19, .pointer (some ⟨b6, 0, none⟩)), (20, .bool r3.2), (21, .pointer (some ⟨b7, 0, none⟩)), (22, .bool r4.2), (23, .pointer (some ⟨b11, 0, none⟩)), (39, v_p_l), (40, .int .i64 (p_l.length : Int)), (41, .int .i64 (i1 : Int))] [true, true, true, true, true, true, true, true] rfl ⟨rfl, rfl, rfl, rfl, rfl, rfl, rfl, rfl, rfl, rfl, rfl, rfl, rfl, rfl, rfl, rfl, rfl, trivial⟩
        refine then_n ?_
        exact ⟨b11, h, S.nf [true, true, true, true, true, true, true, true] rfl ⟨rfl, rfl, rfl, rfl, rfl, rfl, rfl, rfl, rfl, rfl, rfl, rfl, rfl, rfl, rfl, rfl, rfl, trivial⟩⟩
      clear S h; rintro a w17 ⟨b8, h, S⟩; rw [hj3] at h; clear hj3 j3
      refine then_n ?_
      refine f_seq ?_
      refine f_seq ?_
      obtain ⟨j4, hj4, h⟩ := joinE h
      refine f_join (fun a w' => ∃ x7 : Bool, j4 x7 = some r ∧ Sx w [] nov [.blk b8 [.string (swimmer_clubAt p_m y1.Who p_b.Day), .string y1.Race] 92, .blk b5 [.string y1.Who, .string y1.Race] 45, .own v3 3 1 x1.length (x1.flatMap eInt), .map b3 (ments (fun x => Value.agg (Gswimmer_place.enc x).toArray) (Value.int .i64) x2) x2.length, .map b2 (ments Value.string (Value.int .i64) x3) x3.length, .blk b1 [.int .i64 p_b.Races, .int .i64 p_b.Club, .int .i64 p_b.Age, .int .i64 p_b.Day] 33] [(0, v_p_r), (1, v_p_s), (2, v_p_m), (8, .pointer (some ⟨b1, 0, none⟩)), (14, .map (some b2)), (15, .map (some b3)), (16, v3), (17, .int .i64 (i1 : Int)), (18, .pointer (some ⟨b5, 0, none⟩)), (23, .pointer (some ⟨b8, 0, none⟩)), (39, v_p_l), (40, .int .i64 (p_l.length : Int)), (41, .int .i64 (i1 : Int)), (113, .bool x7)] 131 a w') ?_ ?_
      ·rcases Bool.eq_false_or_eq_true (!r3.2) with hb3 | hb3
       ·replace h := iteT h hb3
        rcases Bool.eq_false_or_eq_true true with hb4 | hb4
        ·replace h := iteT h hb4
         rcases Bool.eq_false_or_eq_true true with hb5 | hb5
         ·replace h := iteT h hb5
          refine d_region [] ([]) Tryz.mixed S rfl (by kernel_rfl) ?_; clear S; intro w29 hk24 hsel S
          refine d_rest [0, 1, 2, 3, 4, 5, 6, 7, 8, 9, 10, 11, 12, 13, 14, 15, 16, 17, 18, 19, 20, 21, 22, 23, 24, 25, 26, 27, 28, 29, 30, 31, 32, 33, 34, 35, 36, 37, 38, 39, 40, 41, 42] hsel (by kernel_rfl) rfl ?_
          clear hsel
          refine s_lv S rfl (rn_move (S.tm rfl)) rfl ?_; clear S; intro a S
          refine s_lv S rfl (rn_not (S.tm rfl)) rfl ?_; clear S; intro a S
          refine s_lv S rfl (rn_move (S.tm rfl)) rfl ?_; clear S; intro a S
          refine s_skip S rfl rfl rfl rfl (neq_t hb3) rfl ?_ rfl; clear S; intro a S
          refine s_skip S rfl rfl rfl rfl (neq_t hb3) rfl ?_ rfl; clear S; intro a S
          refine s_skip S rfl rfl rfl rfl (neq_t hb3) rfl ?_ rfl; clear S; intro a S
          refine s_lv S rfl (rn_pick_b hb3 (S.tm rfl) rfl) rfl ?_; clear S; intro a S
          refine s_lv S rfl (rn_move (S.tm rfl)) rfl ?_; clear S; intro a S
          refine s_skip S rfl rfl rfl rfl (neq_t hb4) rfl ?_ rfl; clear S; intro a S
          refine s_skip S rfl rfl rfl rfl (neq_t hb4) rfl ?_ rfl; clear S; intro a S
          refine s_lv S rfl (rn_pick_b hb4 (S.tm rfl) rfl) rfl ?_; clear S; intro a S
          refine s_lv S rfl (rn_move (S.tm rfl)) rfl ?_; clear S; intro a S
          refine s_skip S rfl rfl rfl rfl (neq_t hb5) rfl ?_ rfl; clear S; intro a S
          refine s_skip S rfl rfl rfl rfl (neq_t hb5) rfl ?_ rfl; clear S; intro a S
          refine s_skip S rfl rfl rfl rfl (neq_t hb5) rfl ?_ rfl; clear S; intro a S
          refine s_skip S rfl rfl rfl rfl (neq_t hb5) rfl ?_ rfl; clear S; intro a S
          refine s_skip S rfl rfl rfl rfl (neq_t hb5) rfl ?_ rfl; clear S; intro a S
          refine s_skip S rfl rfl rfl rfl (neq_t hb5) rfl ?_ rfl; clear S; intro a S
          refine s_skip S rfl rfl rfl rfl (neq_t hb5) rfl ?_ rfl; clear S; intro a S
          refine s_skip S rfl rfl rfl rfl (neq_t hb5) rfl ?_ rfl; clear S; intro a S
          refine s_lv S rfl (rn_pick_b hb5 (S.tm rfl) rfl) rfl ?_; clear S; intro a S
          refine s_lv S rfl (rn_move (S.tm rfl)) rfl ?_; clear S; intro a S
          refine s_cutm 8 (fun a w' => Keep [] w29 w' ∧ Sx w [] nov [.blk b8 [.string (swimmer_clubAt p_m y1.Who p_b.Day), .string y1.Race] 92, .blk b7 [.string r4.1.Key, .int .i64 r4.1.Sex, .int .i64 r4.1.Born] 56, .blk b6 [.string r3.1.Key, .int .i64 r3.1.Metres, .int .i64 r3.1.Stroke, .int .i64 r3.1.Course, .int .i64 r3.1.Legs, .int .i64 r3.1.Sex, .int .i64 r3.1.Young, .int .i64 r3.1.Old] 52, .blk b5 [.string y1.Who, .string y1.Race] 45, .own v3 3 1 x1.length (x1.flatMap eInt), .map b3 (ments (fun x => Value.agg (Gswimmer_place.enc x).toArray) (Value.int .i64) x2) x2.length, .map b2 (ments Value.string (Value.int .i64) x3) x3.length, .blk b1 [.int .i64 p_b.Races, .int .i64 p_b.Club, .int .i64 p_b.Age, .int .i64 p_b.Day] 33] [(0, v_p_r), (1, v_p_s), (2, v_p_m), (8, .pointer (some ⟨b1, 0, none⟩)), (14, .map (some b2)), (15, .map (some b3)), (16, v3), (17, .int .i64 (i1 : Int)), (18, .pointer (some ⟨b5, 0, none⟩)), (23, .pointer (some ⟨b8, 0, none⟩)), (39, v_p_l), (40, .int .i64 (p_l.length : Int)), (41, .int .i64 (i1 : Int)), (74, undef), (75, undef), (76, undef), (79, undef), (80, undef), (83, undef), (84, undef), (85, undef), (86, undef), (87, undef), (88, undef), (89, undef), (90, undef), (100, .bool (true || (decide (p_b.Races ≤ (mgetD x3 y1.Who 0)))))] 131 a w') ?_ ?_
          ·rcases Bool.eq_false_or_eq_true true with hb6 | hb6
           ·refine s_skip S rfl rfl rfl rfl (neq_t hb6) rfl ?_ rfl; clear S; intro a S
            refine s_skip S rfl rfl rfl rfl (neq_t hb6) rfl ?_ rfl; clear S; intro a S
            refine s_skip S rfl rfl rfl rfl (neq_t hb6) rfl ?_ rfl; clear S; intro a S
            refine s_skip S rfl rfl rfl rfl (neq_t hb6) rfl ?_ rfl; clear S; intro a S
            refine s_skip S rfl rfl rfl rfl (neq_t hb6) rfl ?_ rfl; clear S; intro a S
            refine s_skip S rfl rfl rfl rfl (neq_t hb6) rfl ?_ rfl; clear S; intro a S
            refine s_skip S rfl rfl rfl rfl (neq_t hb6) rfl ?_ rfl; clear S; intro a S
            refine s_lv S rfl (rn_or_t (decide (p_b.Races ≤ (mgetD x3 y1.Who 0))) hb6 (S.tm rfl) rfl) rfl ?_; clear S; intro a S
            refine s_done ?_
            exact ⟨Keep.refl _ _, S.nf [true, true, true, true, true, true, true, true] rfl ⟨rfl, rfl, rfl, rfl, rfl, rfl, rfl, rfl, rfl, rfl, rfl, rfl, rfl, rfl, rfl, rfl, rfl, rfl, rfl, rfl, rfl, rfl, rfl, rfl, rfl, rfl, rfl, trivial⟩⟩
           ·refine s_want S rfl rfl rfl rfl hb6 ?_
            refine s_lv0 S (rn_move (S.tm rfl)) rfl ?_; clear S; intro a S
            refine s_want S rfl rfl rfl rfl hb6 ?_
            refine s_lv0 S (rn_fld fa_45_0 (S.tm rfl)) rfl ?_; clear S; intro a S
            refine s_want S rfl rfl rfl rfl hb6 ?_
            refine s_lv0 S (rn_load Tryz.isAgg9 (S.tm rfl) (S.cell (i := 3) rfl rfl)) rfl ?_; clear S; intro a S
            refine s_want S rfl rfl rfl rfl hb6 ?_
            refine s_lv0 S (rn_lookup (kv := Value.string) (vv := (Value.int .i64)) (m := x3) (key := y1.Who) (z := 0) (S.map_at (i := 6) rfl) Tryz.underlying84 (keyT_str Tryz.underlying9) Tryz.zeroValue3 (S.tm rfl) (S.tm rfl)) rfl ?_; clear S; intro a S
            refine s_want S rfl rfl rfl rfl hb6 ?_
            refine s_lv0 S (rn_fld fa_33_0 (S.tm rfl)) rfl ?_; clear S; intro a S
            refine s_want S rfl rfl rfl rfl hb6 ?_
            refine s_lv0 S (rn_load Tryz.isAgg3 (S.tm rfl) (S.cell (i := 7) rfl rfl)) rfl ?_; clear S; intro a S
            refine s_want S rfl rfl rfl rfl hb6 ?_
            refine s_lv0 S (rn_geq (S.tm rfl) (S.tm rfl)) rfl ?_; clear S; intro a S
            refine s_lv S rfl (rn_or_f hb6 (S.tm rfl) (S.tm rfl)) rfl ?_; clear S; intro a S
            refine s_done ?_
            exact ⟨Keep.refl _ _, S.nf [true, true, true, true, true, true, true, true] rfl ⟨rfl, rfl, rfl, rfl, rfl, rfl, rfl, rfl, rfl, rfl, rfl, rfl, rfl, rfl, rfl, rfl, rfl, rfl, rfl, rfl, rfl, rfl, rfl, rfl, rfl, rfl, rfl, trivial⟩⟩
          clear S; rintro a w30 ⟨hk25, S⟩
          refine s_lv S rfl (rn_move (S.tm rfl)) rfl ?_; clear S; intro a S
          refine s_cutm 12 (fun a w' => Keep [] w30 w' ∧ Sx w [] nov [.blk b8 [.string (swimmer_clubAt p_m y1.Who p_b.Day), .string y1.Race] 92, .blk b7 [.string r4.1.Key, .int .i64 r4.1.Sex, .int .i64 r4.1.Born] 56, .blk b6 [.string r3.1.Key, .int .i64 r3.1.Metres, .int .i64 r3.1.Stroke, .int .i64 r3.1.Course, .int .i64 r3.1.Legs, .int .i64 r3.1.Sex, .int .i64 r3.1.Young, .int .i64 r3.1.Old] 52, .blk b5 [.string y1.Who, .string y1.Race] 45, .own v3 3 1 x1.length (x1.flatMap eInt), .map b3 (ments (fun x => Value.agg (Gswimmer_place.enc x).toArray) (Value.int .i64) x2) x2.length, .map b2 (ments Value.string (Value.int .i64) x3) x3.length, .blk b1 [.int .i64 p_b.Races, .int .i64 p_b.Club, .int .i64 p_b.Age, .int .i64 p_b.Day] 33] [(0, v_p_r), (1, v_p_s), (2, v_p_m), (8, .pointer (some ⟨b1, 0, none⟩)), (14, .map (some b2)), (15, .map (some b3)), (16, v3), (17, .int .i64 (i1 : Int)), (18, .pointer (some ⟨b5, 0, none⟩)), (23, .pointer (some ⟨b8, 0, none⟩)), (39, v_p_l), (40, .int .i64 (p_l.length : Int)), (41, .int .i64 (i1 : Int)), (74, undef), (75, undef), (76, undef), (79, undef), (80, undef), (83, undef), (84, undef), (85, undef), (86, undef), (87, undef), (88, undef), (89, undef), (90, undef), (113, .bool ((true || (decide (p_b.Races ≤ (mgetD x3 y1.Who 0)))) || ((!decide ((swimmer_clubAt p_m y1.Who p_b.Day) = k_empty)) && (decide (p_b.Club ≤ (mgetD x2 (Gswimmer_place.mk (swimmer_clubAt p_m y1.Who p_b.Day) y1.Race) 0))))))] 131 a w') ?_ ?_
          ·rcases Bool.eq_false_or_eq_true (true || (decide (p_b.Races ≤ (mgetD x3 y1.Who 0)))) with hb7 | hb7
           ·refine s_skip S rfl rfl rfl rfl (neq_t hb7) rfl ?_ rfl; clear S; intro a S
            refine s_skip S rfl rfl rfl rfl (neq_t hb7) rfl ?_ rfl; clear S; intro a S
            refine s_skip S rfl rfl rfl rfl (neq_t hb7) rfl ?_ rfl; clear S; intro a S
            refine s_skip S rfl rfl rfl rfl (neq_t hb7) rfl ?_ rfl; clear S; intro a S
            refine s_skipU S rfl rfl rfl rfl rfl ?_; clear S; intro a S
            refine s_skipU S rfl rfl rfl rfl rfl ?_; clear S; intro a S
            refine s_skipU S rfl rfl rfl rfl rfl ?_; clear S; intro a S
            refine s_skipU S rfl rfl rfl rfl rfl ?_; clear S; intro a S
            refine s_skipU S rfl rfl rfl rfl rfl ?_; clear S; intro a S
            refine s_skipU S rfl rfl rfl rfl rfl ?_; clear S; intro a S
            refine s_skip S rfl rfl rfl rfl (neq_t hb7) rfl ?_ rfl; clear S; intro a S
            refine s_lv S rfl (rn_or_t ((!decide ((swimmer_clubAt p_m y1.Who p_b.Day) = k_empty)) && (decide (p_b.Club ≤ (mgetD x2 (Gswimmer_place.mk (swimmer_clubAt p_m y1.Who p_b.Day) y1.Race) 0)))) hb7 (S.tm rfl) rfl) rfl ?_; clear S; intro a S
            refine s_done ?_
            exact ⟨Keep.refl _ _, S.nf [true, true, true, true, true, true, true, true] rfl ⟨rfl, rfl, rfl, rfl, rfl, rfl, rfl, rfl, rfl, rfl, rfl, rfl, rfl, rfl, rfl, rfl, rfl, rfl, rfl, rfl, rfl, rfl, rfl, rfl, rfl, rfl, rfl, trivial⟩⟩
           ·refine s_want S rfl rfl rfl rfl hb7 ?_
            refine s_lv0 S (rn_fld fa_92_0 (S.tm rfl)) rfl ?_; clear S; intro a S
            refine s_want S rfl rfl rfl rfl hb7 ?_
            refine s_lv0 S (rn_load Tryz.isAgg9 (S.tm rfl) (S.cell (i := 0) rfl rfl)) rfl ?_; clear S; intro a S
            refine s_want S rfl rfl rfl rfl hb7 ?_
            refine s_lv0 S (rn_sneq (S.tm rfl) rfl) rfl ?_; clear S; intro a S
            refine s_want S rfl rfl rfl rfl hb7 ?_
            refine s_lv0 S (rn_move (S.tm rfl)) rfl ?_; clear S; intro a S
            refine s_cutm 7 (fun a w' => Keep [] w30 w' ∧ Sx w [] nov [.blk b8 [.string (swimmer_clubAt p_m y1.Who p_b.Day), .string y1.Race] 92, .blk b7 [.string r4.1.Key, .int .i64 r4.1.Sex, .int .i64 r4.1.Born] 56, .blk b6 [.string r3.1.Key, .int .i64 r3.1.Metres, .int .i64 r3.1.Stroke, .int .i64 r3.1.Course, .int .i64 r3.1.Legs, .int .i64 r3.1.Sex, .int .i64 r3.1.Young, .int .i64 r3.1.Old] 52, .blk b5 [.string y1.Who, .string y1.Race] 45, .own v3 3 1 x1.length (x1.flatMap eInt), .map b3 (ments (fun x => Value.agg (Gswimmer_place.enc x).toArray) (Value.int .i64) x2) x2.length, .map b2 (ments Value.string (Value.int .i64) x3) x3.length, .blk b1 [.int .i64 p_b.Races, .int .i64 p_b.Club, .int .i64 p_b.Age, .int .i64 p_b.Day] 33] [(0, v_p_r), (1, v_p_s), (2, v_p_m), (8, .pointer (some ⟨b1, 0, none⟩)), (14, .map (some b2)), (15, .map (some b3)), (16, v3), (17, .int .i64 (i1 : Int)), (18, .pointer (some ⟨b5, 0, none⟩)), (23, .pointer (some ⟨b8, 0, none⟩)), (39, v_p_l), (40, .int .i64 (p_l.length : Int)), (41, .int .i64 (i1 : Int)), (74, undef), (75, undef), (76, undef), (79, undef), (80, undef), (83, undef), (84, undef), (85, undef), (86, undef), (87, undef), (88, undef), (89, undef), (90, undef), (101, .bool (true || (decide (p_b.Races ≤ (mgetD x3 y1.Who 0))))), (102, .pointer (some ⟨b8, 0, none⟩)), (103, .string (swimmer_clubAt p_m y1.Who p_b.Day)), (104, .bool (!decide ((swimmer_clubAt p_m y1.Who p_b.Day) = k_empty))), (105, .bool (!decide ((swimmer_clubAt p_m y1.Who p_b.Day) = k_empty))), (112, .bool ((!decide ((swimmer_clubAt p_m y1.Who p_b.Day) = k_empty)) && (decide (p_b.Club ≤ (mgetD x2 (Gswimmer_place.mk (swimmer_clubAt p_m y1.Who p_b.Day) y1.Race) 0)))))] 131 a w') ?_ ?_
            ·rcases Bool.eq_false_or_eq_true (!decide ((swimmer_clubAt p_m y1.Who p_b.Day) = k_empty)) with hb8 | hb8
             ·refine s_want S rfl rfl rfl rfl hb8 ?_
              refine s_lv0 S (rn_move (S.tm rfl)) rfl ?_; clear S; intro a S
              refine s_want S rfl rfl rfl rfl hb8 ?_
              refine s_lv0 S (rn_ldA Tryz.isAgg92 Tryz.sizeOf92 (off := 0) (o := 0) (part := [.string (swimmer_clubAt p_m y1.Who p_b.Day), .string y1.Race]) rfl rfl (S.tm rfl) (S.cellsAt (i := 0) rfl)) rfl ?_; clear S; intro a S
              refine s_want S rfl rfl rfl rfl hb8 ?_
              refine s_lv0 S (rn_lookup (kv := (fun x => Value.agg (Gswimmer_place.enc x).toArray)) (vv := (Value.int .i64)) (m := x2) (key := (Gswimmer_place.mk (swimmer_clubAt p_m y1.Who p_b.Day) y1.Race)) (z := 0) (S.map_at (i := 5) rfl) Tryz.underlying85 keyT_92 Tryz.zeroValue3 (S.tm rfl) (S.tm rfl)) rfl ?_; clear S; intro a S
              refine s_want S rfl rfl rfl rfl hb8 ?_
              refine s_lv0 S (rn_fld fa_33_1 (S.tm rfl)) rfl ?_; clear S; intro a S
              refine s_want S rfl rfl rfl rfl hb8 ?_
              refine s_lv0 S (rn_load Tryz.isAgg3 (S.tm rfl) (S.cell (i := 7) rfl rfl)) rfl ?_; clear S; intro a S
              refine s_want S rfl rfl rfl rfl hb8 ?_
              refine s_lv0 S (rn_geq (S.tm rfl) (S.tm rfl)) rfl ?_; clear S; intro a S
              refine s_want S rfl rfl rfl rfl hb7 ?_
              refine s_lv0 S (rn_and_t hb8 (S.tm rfl) (S.tm rfl)) rfl ?_; clear S; intro a S
              refine s_done ?_
              exact ⟨Keep.refl _ _, S.nf [true, true, true, true, true, true, true, true] rfl ⟨rfl, rfl, rfl, rfl, rfl, rfl, rfl, rfl, rfl, rfl, rfl, rfl, rfl, rfl, rfl, rfl, rfl, rfl, rfl, rfl, rfl, rfl, rfl, rfl, rfl, rfl, rfl, rfl, rfl, rfl, rfl, rfl, trivial⟩⟩
             ·refine s_skip S rfl rfl rfl rfl (neq_f hb8) rfl ?_ rfl; clear S; intro a S
              refine s_skip S rfl rfl rfl rfl (neq_f hb8) rfl ?_ rfl; clear S; intro a S
              refine s_skip S rfl rfl rfl rfl (neq_f hb8) rfl ?_ rfl; clear S; intro a S
              refine s_skip S rfl rfl rfl rfl (neq_f hb8) rfl ?_ rfl; clear S; intro a S
              refine s_skip S rfl rfl rfl rfl (neq_f hb8) rfl ?_ rfl; clear S; intro a S
              refine s_skip S rfl rfl rfl rfl (neq_f hb8) rfl ?_ rfl; clear S; intro a S
              refine s_want S rfl rfl rfl rfl hb7 ?_
              refine s_lv0 S (rn_and_f (decide (p_b.Club ≤ (mgetD x2 (Gswimmer_place.mk (swimmer_clubAt p_m y1.Who p_b.Day) y1.Race) 0))) hb8 (S.tm rfl) rfl) rfl ?_; clear S; intro a S
              refine s_done ?_
              exact ⟨Keep.refl _ _, S.nf [true, true, true, true, true, true, true, true] rfl ⟨rfl, rfl, rfl, rfl, rfl, rfl, rfl, rfl, rfl, rfl, rfl, rfl, rfl, rfl, rfl, rfl, rfl, rfl, rfl, rfl, rfl, rfl, rfl, rfl, rfl, rfl, rfl, rfl, rfl, rfl, rfl, rfl, trivial⟩⟩
            clear S; rintro a w32 ⟨hk26, S⟩
            refine s_lv S rfl (rn_or_f hb7 (S.tm rfl) (S.tm rfl)) rfl ?_; clear S; intro a S
            refine s_done ?_
            exact ⟨hk26, S.nf [true, true, true, true, true, true, true, true] rfl ⟨rfl, rfl, rfl, rfl, rfl, rfl, rfl, rfl, rfl, rfl, rfl, rfl, rfl, rfl, rfl, rfl, rfl, rfl, rfl, rfl, rfl, rfl, rfl, rfl, rfl, rfl, rfl, trivial⟩⟩
          clear S; rintro a w31 ⟨hk27, S⟩
          refine s_done ?_
          replace S := S.nk [.blk b8 [.string (swimmer_clubAt p_m y1.Who p_b.Day), .string y1.Race] 92, .blk b5 [.string y1.Who, .string y1.Race] 45, .own v3 3 1 x1.length (x1.flatMap eInt), .map b3 (ments (fun x => Value.agg (Gswimmer_place.enc x).toArray) (Value.int .i64) x2) x2.length, .map b2 (ments Value.string (Value.int .i64) x3) x3.length, .blk b1 [.int .i64 p_b.Races, .int .i64 p_b.Club, .int .i64 p_b.Age, .int .i64 p_b.Day] 33] [(0, v_p_r), (1, v_p_s), (2, v_p_m), (8, .pointer (some ⟨b1, 0, none⟩)), (14, .map (some b2)), (15, .map (some b3)), (16, v3), (17, .int .i64 (i1 : Int)), (18, .pointer (some ⟨b5, 0, none⟩)), (23, .pointer (some ⟨b8, 0, none⟩)), (39, v_p_l), (40, .int .i64 (p_l.length : Int)), (41, .int .i64 (i1 : Int)), (113, .bool ((true || (decide (p_b.Races ≤ (mgetD x3 y1.Who 0)))) || ((!decide ((swimmer_clubAt p_m y1.Who p_b.Day) = k_empty)) && (decide (p_b.Club ≤ (mgetD x2 (Gswimmer_place.mk (swimmer_clubAt p_m y1.Who p_b.Day) y1.Race) 0))))))] [true, false, false, true, true, true, true, true] rfl ⟨rfl, rfl, rfl, rfl, rfl, rfl, rfl, rfl, rfl, rfl, rfl, rfl, rfl, rfl, trivial⟩
          refine then_n ?_
          exact ⟨((true || (decide (p_b.Races ≤ (mgetD x3 y1.Who 0)))) || ((!decide ((swimmer_clubAt p_m y1.Who p_b.Day) = k_empty)) && (decide (p_b.Club ≤ (mgetD x2 (Gswimmer_place.mk (swimmer_clubAt p_m y1.Who p_b.Day) y1.Race) 0))))), h, S.nf [true, true, true, true, true, true] rfl ⟨rfl, rfl, rfl, rfl, rfl, rfl, rfl, rfl, rfl, rfl, rfl, rfl, rfl, rfl, trivial⟩⟩
         ·replace h := iteF h hb5
          obtain ⟨r5, hr6, h⟩ := bindE h
          refine d_region [] ([]) Tryz.mixed S rfl (by kernel_rfl) ?_; clear S; intro w34 hk29 hsel S
          refine d_quiet 0 S hsel rfl rfl rfl (by kernel_rfl) (by kernel_rfl) rfl (fun _ hw => (rn_move (S.tm rfl))) ?_; clear S; intro a S
          refine d_quiet 1 S hsel rfl rfl rfl (by kernel_rfl) (by kernel_rfl) rfl (fun _ hw => (rn_not (S.tm rfl))) ?_; clear S; intro a S
          refine d_quiet 2 S hsel rfl rfl rfl (by kernel_rfl) (by kernel_rfl) rfl (fun _ hw => (rn_move (S.tm rfl))) ?_; clear S; intro a S
          refine d_skip 3 S hsel rfl rfl rfl rfl (neq_t hb3) rfl (by kernel_rfl) (by kernel_rfl) rfl ?_; clear S; intro a S
          refine d_skip 4 S hsel rfl rfl rfl rfl (neq_t hb3) rfl (by kernel_rfl) (by kernel_rfl) rfl ?_; clear S; intro a S
          refine d_skip 5 S hsel rfl rfl rfl rfl (neq_t hb3) rfl (by kernel_rfl) (by kernel_rfl) rfl ?_; clear S; intro a S
          refine d_quiet 6 S hsel rfl rfl rfl (by kernel_rfl) (by kernel_rfl) rfl (fun _ hw => (rn_pick_b hb3 (S.tm rfl) rfl)) ?_; clear S; intro a S
          refine d_quiet 7 S hsel rfl rfl rfl (by kernel_rfl) (by kernel_rfl) rfl (fun _ hw => (rn_move (S.tm rfl))) ?_; clear S; intro a S
          refine d_skip 8 S hsel rfl rfl rfl rfl (neq_t hb4) rfl (by kernel_rfl) (by kernel_rfl) rfl ?_; clear S; intro a S
          refine d_skip 9 S hsel rfl rfl rfl rfl (neq_t hb4) rfl (by kernel_rfl) (by kernel_rfl) rfl ?_; clear S; intro a S
          refine d_quiet 10 S hsel rfl rfl rfl (by kernel_rfl) (by kernel_rfl) rfl (fun _ hw => (rn_pick_b hb4 (S.tm rfl) rfl)) ?_; clear S; intro a S
          refine d_quiet 11 S hsel rfl rfl rfl (by kernel_rfl) (by kernel_rfl) rfl (fun _ hw => (rn_move (S.tm rfl))) ?_; clear S; intro a S
          refine d_quiet_g 12 S hsel rfl rfl rfl rfl hb5 rfl rfl (by kernel_rfl) (by kernel_rfl) rfl (fun _ hw => (rn_ldA Tryz.isAgg52 Tryz.sizeOf52 (off := 0) (o := 0) (part := [.string r3.1.Key, .int .i64 r3.1.Metres, .int .i64 r3.1.Stroke, .int .i64 r3.1.Course, .int .i64 r3.1.Legs, .int .i64 r3.1.Sex, .int .i64 r3.1.Young, .int .i64 r3.1.Old]) rfl rfl (S.tm rfl) ((S.blk_mem (i := 2) (cells := [.string r3.1.Key, .int .i64 r3.1.Metres, .int .i64 r3.1.Stroke, .int .i64 r3.1.Course, .int .i64 r3.1.Legs, .int .i64 r3.1.Sex, .int .i64 r3.1.Young, .int .i64 r3.1.Old]) (b := b6) (T := 52) rfl (ne_nil (e' := .blk b6 [.string r3.1.Key, .int .i64 r3.1.Metres, .int .i64 r3.1.Stroke, .int .i64 r3.1.Course, .int .i64 r3.1.Legs, .int .i64 r3.1.Sex, .int .i64 r3.1.Young, .int .i64 r3.1.Old] 52))).kept hw))) ?_; clear S; intro a S
          refine d_quiet_g 13 S hsel rfl rfl rfl rfl hb5 rfl rfl (by kernel_rfl) (by kernel_rfl) rfl (fun _ hw => (rn_ldA Tryz.isAgg56 Tryz.sizeOf56 (off := 0) (o := 0) (part := [.string r4.1.Key, .int .i64 r4.1.Sex, .int .i64 r4.1.Born]) rfl rfl (S.tm rfl) ((S.blk_mem (i := 1) (cells := [.string r4.1.Key, .int .i64 r4.1.Sex, .int .i64 r4.1.Born]) (b := b7) (T := 56) rfl (ne_nil (e' := .blk b7 [.string r4.1.Key, .int .i64 r4.1.Sex, .int .i64 r4.1.Born] 56))).kept hw))) ?_; clear S; intro a S
          refine d_quiet_g 14 S hsel rfl rfl rfl rfl hb5 rfl rfl (by kernel_rfl) (by kernel_rfl) rfl (fun _ hw => (rn_fld fa_33_3 (S.tm rfl))) ?_; clear S; intro a S
          refine d_quiet_g 15 S hsel rfl rfl rfl rfl hb5 rfl rfl (by kernel_rfl) (by kernel_rfl) rfl (fun _ hw => (rn_ld Tryz.isAgg3 (off := 0) (o := 3) (S.tm rfl) ((S.blk_mem (i := 7) (cells := [.int .i64 p_b.Races, .int .i64 p_b.Club, .int .i64 p_b.Age, .int .i64 p_b.Day]) (b := b1) (T := 33) rfl (ne_nil (e' := .blk b1 [.int .i64 p_b.Races, .int .i64 p_b.Club, .int .i64 p_b.Age, .int .i64 p_b.Day] 33))).kept hw) rfl)) ?_; clear S; intro a S
          refine d_quiet_g 16 S hsel rfl rfl rfl rfl hb5 rfl rfl (by kernel_rfl) (by kernel_rfl) rfl (fun _ hw => (rn_fld fa_33_2 (S.tm rfl))) ?_; clear S; intro a S
          refine d_quiet_g 17 S hsel rfl rfl rfl rfl hb5 rfl rfl (by kernel_rfl) (by kernel_rfl) rfl (fun _ hw => (rn_ld Tryz.isAgg3 (off := 0) (o := 2) (S.tm rfl) ((S.blk_mem (i := 7) (cells := [.int .i64 p_b.Races, .int .i64 p_b.Club, .int .i64 p_b.Age, .int .i64 p_b.Day]) (b := b1) (T := 33) rfl (ne_nil (e' := .blk b1 [.int .i64 p_b.Races, .int .i64 p_b.Club, .int .i64 p_b.Age, .int .i64 p_b.Day] 33))).kept hw) rfl)) ?_; clear S; intro a S
          refine d_loud1 18 (by kernel_rfl) rfl ?_
          refine l_want S rfl rfl rfl hb5 ?_
          refine l_enter S (fun _ => run_call (vs := [.agg (GRace.enc r3.1).toArray, .agg (GSwimmer.enc r4.1).toArray, .int .i64 p_b.Day, .int .i64 p_b.Age]) ⟨(S.tm rfl), (S.tm rfl), (S.tm rfl), (S.tm rfl), trivial⟩ Tryz.call35) (swimmer_may_ok _ r3.1 r4.1 p_b.Day p_b.Age _ hr6) rfl ?_; clear S; intro v11 a w35 hv9 hk30 hn9 S
          subst hv9
          refine l_done ?_
          refine d_next hk30 ?_
          refine d_rest [19, 20, 21, 22, 23, 24, 25, 26, 27, 28, 29, 30, 31, 32, 33, 34, 35, 36, 37, 38, 39, 40, 41, 42] hsel (by kernel_rfl) rfl ?_
          clear hsel
          refine s_want S rfl rfl rfl rfl hb5 ?_
          refine s_lv0 S (rn_not (S.tm rfl)) rfl ?_; clear S; intro a S
          refine s_lv S rfl (rn_pick_c hb5 (S.tm rfl) (S.tm rfl)) rfl ?_; clear S; intro a S
          refine s_lv S rfl (rn_move (S.tm rfl)) rfl ?_; clear S; intro a S
          refine s_cutm 8 (fun a w' => Keep [] w35 w' ∧ Sx w [] nov [.blk b8 [.string (swimmer_clubAt p_m y1.Who p_b.Day), .string y1.Race] 92, .blk b7 [.string r4.1.Key, .int .i64 r4.1.Sex, .int .i64 r4.1.Born] 56, .blk b6 [.string r3.1.Key, .int .i64 r3.1.Metres, .int .i64 r3.1.Stroke, .int .i64 r3.1.Course, .int .i64 r3.1.Legs, .int .i64 r3.1.Sex, .int .i64 r3.1.Young, .int .i64 r3.1.Old] 52, .blk b5 [.string y1.Who, .string y1.Race] 45, .own v3 3 1 x1.length (x1.flatMap eInt), .map b3 (ments (fun x => Value.agg (Gswimmer_place.enc x).toArray) (Value.int .i64) x2) x2.length, .map b2 (ments Value.string (Value.int .i64) x3) x3.length, .blk b1 [.int .i64 p_b.Races, .int .i64 p_b.Club, .int .i64 p_b.Age, .int .i64 p_b.Day] 33] [(0, v_p_r), (1, v_p_s), (2, v_p_m), (8, .pointer (some ⟨b1, 0, none⟩)), (14, .map (some b2)), (15, .map (some b3)), (16, v3), (17, .int .i64 (i1 : Int)), (18, .pointer (some ⟨b5, 0, none⟩)), (23, .pointer (some ⟨b8, 0, none⟩)), (39, v_p_l), (40, .int .i64 (p_l.length : Int)), (41, .int .i64 (i1 : Int)), (74, undef), (75, undef), (76, undef), (79, undef), (80, undef), (83, .agg #[.string r3.1.Key, .int .i64 r3.1.Metres, .int .i64 r3.1.Stroke, .int .i64 r3.1.Course, .int .i64 r3.1.Legs, .int .i64 r3.1.Sex, .int .i64 r3.1.Young, .int .i64 r3.1.Old]), (84, .agg #[.string r4.1.Key, .int .i64 r4.1.Sex, .int .i64 r4.1.Born]), (85, .pointer (some ⟨b1, 3, none⟩)), (86, .int .i64 p_b.Day), (87, .pointer (some ⟨b1, 2, none⟩)), (88, .int .i64 p_b.Age), (89, .bool r5), (90, .bool (!r5)), (100, .bool ((!r5) || (decide (p_b.Races ≤ (mgetD x3 y1.Who 0)))))] 131 a w') ?_ ?_
          ·rcases Bool.eq_false_or_eq_true (!r5) with hb9 | hb9
           ·refine s_skip S rfl rfl rfl rfl (neq_t hb9) rfl ?_ rfl; clear S; intro a S
            refine s_skip S rfl rfl rfl rfl (neq_t hb9) rfl ?_ rfl; clear S; intro a S
            refine s_skip S rfl rfl rfl rfl (neq_t hb9) rfl ?_ rfl; clear S; intro a S
            refine s_skip S rfl rfl rfl rfl (neq_t hb9) rfl ?_ rfl; clear S; intro a S
            refine s_skip S rfl rfl rfl rfl (neq_t hb9) rfl ?_ rfl; clear S; intro a S
            refine s_skip S rfl rfl rfl rfl (neq_t hb9) rfl ?_ rfl; clear S; intro a S
            refine s_skip S rfl rfl rfl rfl (neq_t hb9) rfl ?_ rfl; clear S; intro a S
            refine s_lv S rfl (rn_or_t (decide (p_b.Races ≤ (mgetD x3 y1.Who 0))) hb9 (S.tm rfl) rfl) rfl ?_; clear S; intro a S
            refine s_done ?_
            exact ⟨Keep.refl _ _, S.nf [true, true, true, true, true, true, true, true] rfl ⟨rfl, rfl, rfl, rfl, rfl, rfl, rfl, rfl, rfl, rfl, rfl, rfl, rfl, rfl, rfl, rfl, rfl, rfl, rfl, rfl, rfl, rfl, rfl, rfl, rfl, rfl, rfl, trivial⟩⟩
           ·refine s_want S rfl rfl rfl rfl hb9 ?_
            refine s_lv0 S (rn_move (S.tm rfl)) rfl ?_; clear S; intro a S
            refine s_want S rfl rfl rfl rfl hb9 ?_
            refine s_lv0 S (rn_fld fa_45_0 (S.tm rfl)) rfl ?_; clear S; intro a S
            refine s_want S rfl rfl rfl rfl hb9 ?_
            refine s_lv0 S (rn_load Tryz.isAgg9 (S.tm rfl) (S.cell (i := 3) rfl rfl)) rfl ?_; clear S; intro a S
            refine s_want S rfl rfl rfl rfl hb9 ?_
            refine s_lv0 S (rn_lookup (kv := Value.string) (vv := (Value.int .i64)) (m := x3) (key := y1.Who) (z := 0) (S.map_at (i := 6) rfl) Tryz.underlying84 (keyT_str Tryz.underlying9) Tryz.zeroValue3 (S.tm rfl) (S.tm rfl)) rfl ?_; clear S; intro a S
            refine s_want S rfl rfl rfl rfl hb9 ?_
            refine s_lv0 S (rn_fld fa_33_0 (S.tm rfl)) rfl ?_; clear S; intro a S
            refine s_want S rfl rfl rfl rfl hb9 ?_
            refine s_lv0 S (rn_load Tryz.isAgg3 (S.tm rfl) (S.cell (i := 7) rfl rfl)) rfl ?_; clear S; intro a S
            refine s_want S rfl rfl rfl rfl hb9 ?_
            refine s_lv0 S (rn_geq (S.tm rfl) (S.tm rfl)) rfl ?_; clear S; intro a S
            refine s_lv S rfl (rn_or_f hb9 (S.tm rfl) (S.tm rfl)) rfl ?_; clear S; intro a S
            refine s_done ?_
            exact ⟨Keep.refl _ _, S.nf [true, true, true, true, true, true, true, true] rfl ⟨rfl, rfl, rfl, rfl, rfl, rfl, rfl, rfl, rfl, rfl, rfl, rfl, rfl, rfl, rfl, rfl, rfl, rfl, rfl, rfl, rfl, rfl, rfl, rfl, rfl, rfl, rfl, trivial⟩⟩
          clear S; rintro a w36 ⟨hk31, S⟩
          refine s_lv S rfl (rn_move (S.tm rfl)) rfl ?_; clear S; intro a S
          refine s_cutm 12 (fun a w' => Keep [] w36 w' ∧ Sx w [] nov [.blk b8 [.string (swimmer_clubAt p_m y1.Who p_b.Day), .string y1.Race] 92, .blk b7 [.string r4.1.Key, .int .i64 r4.1.Sex, .int .i64 r4.1.Born] 56, .blk b6 [.string r3.1.Key, .int .i64 r3.1.Metres, .int .i64 r3.1.Stroke, .int .i64 r3.1.Course, .int .i64 r3.1.Legs, .int .i64 r3.1.Sex, .int .i64 r3.1.Young, .int .i64 r3.1.Old] 52, .blk b5 [.string y1.Who, .string y1.Race] 45, .own v3 3 1 x1.length (x1.flatMap eInt), .map b3 (ments (fun x => Value.agg (Gswimmer_place.enc x).toArray) (Value.int .i64) x2) x2.length, .map b2 (ments Value.string (Value.int .i64) x3) x3.length, .blk b1 [.int .i64 p_b.Races, .int .i64 p_b.Club, .int .i64 p_b.Age, .int .i64 p_b.Day] 33] [(0, v_p_r), (1, v_p_s), (2, v_p_m), (8, .pointer (some ⟨b1, 0, none⟩)), (14, .map (some b2)), (15, .map (some b3)), (16, v3), (17, .int .i64 (i1 : Int)), (18, .pointer (some ⟨b5, 0, none⟩)), (23, .pointer (some ⟨b8, 0, none⟩)), (39, v_p_l), (40, .int .i64 (p_l.length : Int)), (41, .int .i64 (i1 : Int)), (74, undef), (75, undef), (76, undef), (79, undef), (80, undef), (83, .agg #[.string r3.1.Key, .int .i64 r3.1.Metres, .int .i64 r3.1.Stroke, .int .i64 r3.1.Course, .int .i64 r3.1.Legs, .int .i64 r3.1.Sex, .int .i64 r3.1.Young, .int .i64 r3.1.Old]), (84, .agg #[.string r4.1.Key, .int .i64 r4.1.Sex, .int .i64 r4.1.Born]), (85, .pointer (some ⟨b1, 3, none⟩)), (86, .int .i64 p_b.Day), (87, .pointer (some ⟨b1, 2, none⟩)), (88, .int .i64 p_b.Age), (89, .bool r5), (90, .bool (!r5)), (113, .bool (((!r5) || (decide (p_b.Races ≤ (mgetD x3 y1.Who 0)))) || ((!decide ((swimmer_clubAt p_m y1.Who p_b.Day) = k_empty)) && (decide (p_b.Club ≤ (mgetD x2 (Gswimmer_place.mk (swimmer_clubAt p_m y1.Who p_b.Day) y1.Race) 0))))))] 131 a w') ?_ ?_
          ·rcases Bool.eq_false_or_eq_true ((!r5) || (decide (p_b.Races ≤ (mgetD x3 y1.Who 0)))) with hb10 | hb10
           ·refine s_skip S rfl rfl rfl rfl (neq_t hb10) rfl ?_ rfl; clear S; intro a S
            refine s_skip S rfl rfl rfl rfl (neq_t hb10) rfl ?_ rfl; clear S; intro a S
            refine s_skip S rfl rfl rfl rfl (neq_t hb10) rfl ?_ rfl; clear S; intro a S
            refine s_skip S rfl rfl rfl rfl (neq_t hb10) rfl ?_ rfl; clear S; intro a S
            refine s_skipU S rfl rfl rfl rfl rfl ?_; clear S; intro a S
            refine s_skipU S rfl rfl rfl rfl rfl ?_; clear S; intro a S
            refine s_skipU S rfl rfl rfl rfl rfl ?_; clear S; intro a S
            refine s_skipU S rfl rfl rfl rfl rfl ?_; clear S; intro a S
            refine s_skipU S rfl rfl rfl rfl rfl ?_; clear S; intro a S
            refine s_skipU S rfl rfl rfl rfl rfl ?_; clear S; intro a S
            refine s_skip S rfl rfl rfl rfl (neq_t hb10) rfl ?_ rfl; clear S; intro a S
            refine s_lv S rfl (rn_or_t ((!decide ((swimmer_clubAt p_m y1.Who p_b.Day) = k_empty)) && (decide (p_b.Club ≤ (mgetD x2 (Gswimmer_place.mk (swimmer_clubAt p_m y1.Who p_b.Day) y1.Race) 0)))) hb10 (S.tm rfl) rfl) rfl ?_; clear S; intro a S
            refine s_done ?_
            exact ⟨Keep.refl _ _, S.nf [true, true, true, true, true, true, true, true] rfl ⟨rfl, rfl, rfl, rfl, rfl, rfl, rfl, rfl, rfl, rfl, rfl, rfl, rfl, rfl, rfl, rfl, rfl, rfl, rfl, rfl, rfl, rfl, rfl, rfl, rfl, rfl, rfl, trivial⟩⟩
           ·refine s_want S rfl rfl rfl rfl hb10 ?_
            refine s_lv0 S (rn_fld fa_92_0 (S.tm rfl)) rfl ?_; clear S; intro a S
            refine s_want S rfl rfl rfl rfl hb10 ?_
            refine s_lv0 S (rn_load Tryz.isAgg9 (S.tm rfl) (S.cell (i := 0) rfl rfl)) rfl ?_; clear S; intro a S
            refine s_want S rfl rfl rfl rfl hb10 ?_
            refine s_lv0 S (rn_sneq (S.tm rfl) rfl) rfl ?_; clear S; intro a S
            refine s_want S rfl rfl rfl rfl hb10 ?_
            refine s_lv0 S (rn_move (S.tm rfl)) rfl ?_; clear S; intro a S
            refine s_cutm 7 (fun a w' => Keep [] w36 w' ∧ Sx w [] nov [.blk b8 [.string (swimmer_clubAt p_m y1.Who p_b.Day), .string y1.Race] 92, .blk b7 [.string r4.1.Key, .int .i64 r4.1.Sex, .int .i64 r4.1.Born] 56, .blk b6 [.string r3.1.Key, .int .i64 r3.1.Metres, .int .i64 r3.1.Stroke, .int .i64 r3.1.Course, .int .i64 r3.1.Legs, .int .i64 r3.1.Sex, .int .i64 r3.1.Young, .int .i64 r3.1.Old] 52, .blk b5 [.string y1.Who, .string y1.Race] 45, .own v3 3 1 x1.length (x1.flatMap eInt), .map b3 (ments (fun x => Value.agg (Gswimmer_place.enc x).toArray) (Value.int .i64) x2) x2.length, .map b2 (ments Value.string (Value.int .i64) x3) x3.length, .blk b1 [.int .i64 p_b.Races, .int .i64 p_b.Club, .int .i64 p_b.Age, .int .i64 p_b.Day] 33] [(0, v_p_r), (1, v_p_s), (2, v_p_m), (8, .pointer (some ⟨b1, 0, none⟩)), (14, .map (some b2)), (15, .map (some b3)), (16, v3), (17, .int .i64 (i1 : Int)), (18, .pointer (some ⟨b5, 0, none⟩)), (23, .pointer (some ⟨b8, 0, none⟩)), (39, v_p_l), (40, .int .i64 (p_l.length : Int)), (41, .int .i64 (i1 : Int)), (74, undef), (75, undef), (76, undef), (79, undef), (80, undef), (83, .agg #[.string r3.1.Key, .int .i64 r3.1.Metres, .int .i64 r3.1.Stroke, .int .i64 r3.1.Course, .int .i64 r3.1.Legs, .int .i64 r3.1.Sex, .int .i64 r3.1.Young, .int .i64 r3.1.Old]), (84, .agg #[.string r4.1.Key, .int .i64 r4.1.Sex, .int .i64 r4.1.Born]), (85, .pointer (some ⟨b1, 3, none⟩)), (86, .int .i64 p_b.Day), (87, .pointer (some ⟨b1, 2, none⟩)), (88, .int .i64 p_b.Age), (89, .bool r5), (90, .bool (!r5)), (101, .bool ((!r5) || (decide (p_b.Races ≤ (mgetD x3 y1.Who 0))))), (102, .pointer (some ⟨b8, 0, none⟩)), (103, .string (swimmer_clubAt p_m y1.Who p_b.Day)), (104, .bool (!decide ((swimmer_clubAt p_m y1.Who p_b.Day) = k_empty))), (105, .bool (!decide ((swimmer_clubAt p_m y1.Who p_b.Day) = k_empty))), (112, .bool ((!decide ((swimmer_clubAt p_m y1.Who p_b.Day) = k_empty)) && (decide (p_b.Club ≤ (mgetD x2 (Gswimmer_place.mk (swimmer_clubAt p_m y1.Who p_b.Day) y1.Race) 0)))))] 131 a w') ?_ ?_
            ·rcases Bool.eq_false_or_eq_true (!decide ((swimmer_clubAt p_m y1.Who p_b.Day) = k_empty)) with hb11 | hb11
             ·refine s_want S rfl rfl rfl rfl hb11 ?_
              refine s_lv0 S (rn_move (S.tm rfl)) rfl ?_; clear S; intro a S
              refine s_want S rfl rfl rfl rfl hb11 ?_
              refine s_lv0 S (rn_ldA Tryz.isAgg92 Tryz.sizeOf92 (off := 0) (o := 0) (part := [.string (swimmer_clubAt p_m y1.Who p_b.Day), .string y1.Race]) rfl rfl (S.tm rfl) (S.cellsAt (i := 0) rfl)) rfl ?_; clear S; intro a S
              refine s_want S rfl rfl rfl rfl hb11 ?_
              refine s_lv0 S (rn_lookup (kv := (fun x => Value.agg (Gswimmer_place.enc x).toArray)) (vv := (Value.int .i64)) (m := x2) (key := (Gswimmer_place.mk (swimmer_clubAt p_m y1.Who p_b.Day) y1.Race)) (z := 0) (S.map_at (i := 5) rfl) Tryz.underlying85 keyT_92 Tryz.zeroValue3 (S.tm rfl) (S.tm rfl)) rfl ?_; clear S; intro a S
              refine s_want S rfl rfl rfl rfl hb11 ?_
              refine s_lv0 S (rn_fld fa_33_1 (S.tm rfl)) rfl ?_; clear S; intro a S
              refine s_want S rfl rfl rfl rfl hb11 ?_
              refine s_lv0 S (rn_load Tryz.isAgg3 (S.tm rfl) (S.cell (i := 7) rfl rfl)) rfl ?_; clear S; intro a S
              refine s_want S rfl rfl rfl rfl hb11 ?_
              refine s_lv0 S (rn_geq (S.tm rfl) (S.tm rfl)) rfl ?_; clear S; intro a S
              refine s_want S rfl rfl rfl rfl hb10 ?_
              refine s_lv0 S (rn_and_t hb11 (S.tm rfl) (S.tm rfl)) rfl ?_; clear S; intro a S
              refine s_done ?_
              exact ⟨Keep.refl _ _, S.nf [true, true, true, true, true, true, true, true] rfl ⟨rfl, rfl, rfl, rfl, rfl, rfl, rfl, rfl, rfl, rfl, rfl, rfl, rfl, rfl, rfl, rfl, rfl, rfl, rfl, rfl, rfl, rfl, rfl, rfl, rfl, rfl, rfl, rfl, rfl, rfl, rfl, rfl, trivial⟩⟩
             ·refine s_skip S rfl rfl rfl rfl (neq_f hb11) rfl ?_ rfl; clear S; intro a S
              refine s_skip S rfl rfl rfl rfl (neq_f hb11) rfl ?_ rfl; clear S; intro a S
              refine s_skip S rfl rfl rfl rfl (neq_f hb11) rfl ?_ rfl; clear S; intro a S
              refine s_skip S rfl rfl rfl rfl (neq_f hb11) rfl ?_ rfl; clear S; intro a S
              refine s_skip S rfl rfl rfl rfl (neq_f hb11) rfl ?_ rfl; clear S; intro a S
              refine s_skip S rfl rfl rfl rfl (neq_f hb11) rfl ?_ rfl; clear S; intro a S
              refine s_want S rfl rfl rfl rfl hb10 ?_
              refine s_lv0 S (rn_and_f (decide (p_b.Club ≤ (mgetD x2 (Gswimmer_place.mk (swimmer_clubAt p_m y1.Who p_b.Day) y1.Race) 0))) hb11 (S.tm rfl) rfl) rfl ?_; clear S; intro a S
              refine s_done ?_
              exact ⟨Keep.refl _ _, S.nf [true, true, true, true, true, true, true, true] rfl ⟨rfl, rfl, rfl, rfl, rfl, rfl, rfl, rfl, rfl, rfl, rfl, rfl, rfl, rfl, rfl, rfl, rfl, rfl, rfl, rfl, rfl, rfl, rfl, rfl, rfl, rfl, rfl, rfl, rfl, rfl, rfl, rfl, trivial⟩⟩
            clear S; rintro a w38 ⟨hk32, S⟩
            refine s_lv S rfl (rn_or_f hb10 (S.tm rfl) (S.tm rfl)) rfl ?_; clear S; intro a S
            refine s_done ?_
            exact ⟨hk32, S.nf [true, true, true, true, true, true, true, true] rfl ⟨rfl, rfl, rfl, rfl, rfl, rfl, rfl, rfl, rfl, rfl, rfl, rfl, rfl, rfl, rfl, rfl, rfl, rfl, rfl, rfl, rfl, rfl, rfl, rfl, rfl, rfl, rfl, trivial⟩⟩
          clear S; rintro a w37 ⟨hk33, S⟩
          refine s_done ?_
          replace S := S.nk [.blk b8 [.string (swimmer_clubAt p_m y1.Who p_b.Day), .string y1.Race] 92, .blk b5 [.string y1.Who, .string y1.Race] 45, .own v3 3 1 x1.length (x1.flatMap eInt), .map b3 (ments (fun x => Value.agg (Gswimmer_place.enc x).toArray) (Value.int .i64) x2) x2.length, .map b2 (ments Value.string (Value.int .i64) x3) x3.length, .blk b1 [.int .i64 p_b.Races, .int .i64 p_b.Club, .int .i64 p_b.Age, .int .i64 p_b.Day] 33] [(0, v_p_r), (1, v_p_s), (2, v_p_m), (8, .pointer (some ⟨b1, 0, none⟩)), (14, .map (some b2)), (15, .map (some b3)), (16, v3), (17, .int .i64 (i1 : Int)), (18, .pointer (some ⟨b5, 0, none⟩)), (23, .pointer (some ⟨b8, 0, none⟩)), (39, v_p_l), (40, .int .i64 (p_l.length : Int)), (41, .int .i64 (i1 : Int)), (83, .agg #[.string r3.1.Key, .int .i64 r3.1.Metres, .int .i64 r3.1.Stroke, .int .i64 r3.1.Course, .int .i64 r3.1.Legs, .int .i64 r3.1.Sex, .int .i64 r3.1.Young, .int .i64 r3.1.Old]), (84, .agg #[.string r4.1.Key, .int .i64 r4.1.Sex, .int .i64 r4.1.Born]), (85, .pointer (some ⟨b1, 3, none⟩)), (86, .int .i64 p_b.Day), (87, .pointer (some ⟨b1, 2, none⟩)), (88, .int .i64 p_b.Age), (89, .bool r5), (90, .bool (!r5)), (113, .bool (((!r5) || (decide (p_b.Races ≤ (mgetD x3 y1.Who 0)))) || ((!decide ((swimmer_clubAt p_m y1.Who p_b.Day) = k_empty)) && (decide (p_b.Club ≤ (mgetD x2 (Gswimmer_place.mk (swimmer_clubAt p_m y1.Who p_b.Day) y1.Race) 0))))))] [true, false, false, true, true, true, true, true] rfl ⟨rfl, rfl, rfl, rfl, rfl, rfl, rfl, rfl, rfl, rfl, rfl, rfl, rfl, rfl, rfl, rfl, rfl, rfl, rfl, rfl, rfl, rfl, trivial⟩
          refine then_n ?_
          exact ⟨(((!r5) || (decide (p_b.Races ≤ (mgetD x3 y1.Who 0)))) || ((!decide ((swimmer_clubAt p_m y1.Who p_b.Day) = k_empty)) && (decide (p_b.Club ≤ (mgetD x2 (Gswimmer_place.mk (swimmer_clubAt p_m y1.Who p_b.Day) y1.Race) 0))))), h, S.nf [true, true, true, true, true, true] rfl ⟨rfl, rfl, rfl, rfl, rfl, rfl, rfl, rfl, rfl, rfl, rfl, rfl, rfl, rfl, trivial⟩⟩
        ·replace h := iteF h hb4
         rcases Bool.eq_false_or_eq_true (!r4.2) with hb12 | hb12
         ·replace h := iteT h hb12
          refine d_region [] ([]) Tryz.mixed S rfl (by kernel_rfl) ?_; clear S; intro w39 hk34 hsel S
          refine d_rest [0, 1, 2, 3, 4, 5, 6, 7, 8, 9, 10, 11, 12, 13, 14, 15, 16, 17, 18, 19, 20, 21, 22, 23, 24, 25, 26, 27, 28, 29, 30, 31, 32, 33, 34, 35, 36, 37, 38, 39, 40, 41, 42] hsel (by kernel_rfl) rfl ?_
          clear hsel
          refine s_lv S rfl (rn_move (S.tm rfl)) rfl ?_; clear S; intro a S
          refine s_lv S rfl (rn_not (S.tm rfl)) rfl ?_; clear S; intro a S
          refine s_lv S rfl (rn_move (S.tm rfl)) rfl ?_; clear S; intro a S
          refine s_skip S rfl rfl rfl rfl (neq_t hb3) rfl ?_ rfl; clear S; intro a S
          refine s_skip S rfl rfl rfl rfl (neq_t hb3) rfl ?_ rfl; clear S; intro a S
          refine s_skip S rfl rfl rfl rfl (neq_t hb3) rfl ?_ rfl; clear S; intro a S
          refine s_lv S rfl (rn_pick_b hb3 (S.tm rfl) rfl) rfl ?_; clear S; intro a S
          refine s_lv S rfl (rn_move (S.tm rfl)) rfl ?_; clear S; intro a S
          refine s_want S rfl rfl rfl rfl hb4 ?_
          refine s_lv0 S (rn_move (S.tm rfl)) rfl ?_; clear S; intro a S
          refine s_want S rfl rfl rfl rfl hb4 ?_
          refine s_lv0 S (rn_not (S.tm rfl)) rfl ?_; clear S; intro a S
          refine s_lv S rfl (rn_pick_c hb4 (S.tm rfl) (S.tm rfl)) rfl ?_; clear S; intro a S
          refine s_lv S rfl (rn_move (S.tm rfl)) rfl ?_; clear S; intro a S
          refine s_skip S rfl rfl rfl rfl (neq_t hb12) rfl ?_ rfl; clear S; intro a S
          refine s_skip S rfl rfl rfl rfl (neq_t hb12) rfl ?_ rfl; clear S; intro a S
          refine s_skip S rfl rfl rfl rfl (neq_t hb12) rfl ?_ rfl; clear S; intro a S
          refine s_skip S rfl rfl rfl rfl (neq_t hb12) rfl ?_ rfl; clear S; intro a S
          refine s_skip S rfl rfl rfl rfl (neq_t hb12) rfl ?_ rfl; clear S; intro a S
          refine s_skip S rfl rfl rfl rfl (neq_t hb12) rfl ?_ rfl; clear S; intro a S
          refine s_skip S rfl rfl rfl rfl (neq_t hb12) rfl ?_ rfl; clear S; intro a S
          refine s_skip S rfl rfl rfl rfl (neq_t hb12) rfl ?_ rfl; clear S; intro a S
          refine s_lv S rfl (rn_pick_b hb12 (S.tm rfl) rfl) rfl ?_; clear S; intro a S
          refine s_lv S rfl (rn_move (S.tm rfl)) rfl ?_; clear S; intro a S
          refine s_cutm 8 (fun a w' => Keep [] w39 w' ∧ Sx w [] nov [.blk b8 [.string (swimmer_clubAt p_m y1.Who p_b.Day), .string y1.Race] 92, .blk b7 [.string r4.1.Key, .int .i64 r4.1.Sex, .int .i64 r4.1.Born] 56, .blk b6 [.string r3.1.Key, .int .i64 r3.1.Metres, .int .i64 r3.1.Stroke, .int .i64 r3.1.Course, .int .i64 r3.1.Legs, .int .i64 r3.1.Sex, .int .i64 r3.1.Young, .int .i64 r3.1.Old] 52, .blk b5 [.string y1.Who, .string y1.Race] 45, .own v3 3 1 x1.length (x1.flatMap eInt), .map b3 (ments (fun x => Value.agg (Gswimmer_place.enc x).toArray) (Value.int .i64) x2) x2.length, .map b2 (ments Value.string (Value.int .i64) x3) x3.length, .blk b1 [.int .i64 p_b.Races, .int .i64 p_b.Club, .int .i64 p_b.Age, .int .i64 p_b.Day] 33] [(0, v_p_r), (1, v_p_s), (2, v_p_m), (8, .pointer (some ⟨b1, 0, none⟩)), (14, .map (some b2)), (15, .map (some b3)), (16, v3), (17, .int .i64 (i1 : Int)), (18, .pointer (some ⟨b5, 0, none⟩)), (23, .pointer (some ⟨b8, 0, none⟩)), (39, v_p_l), (40, .int .i64 (p_l.length : Int)), (41, .int .i64 (i1 : Int)), (74, undef), (75, undef), (76, undef), (79, .bool r4.2), (80, .bool (!r4.2)), (83, undef), (84, undef), (85, undef), (86, undef), (87, undef), (88, undef), (89, undef), (90, undef), (100, .bool (true || (decide (p_b.Races ≤ (mgetD x3 y1.Who 0)))))] 131 a w') ?_ ?_
          ·rcases Bool.eq_false_or_eq_true true with hb13 | hb13
           ·refine s_skip S rfl rfl rfl rfl (neq_t hb13) rfl ?_ rfl; clear S; intro a S
            refine s_skip S rfl rfl rfl rfl (neq_t hb13) rfl ?_ rfl; clear S; intro a S
            refine s_skip S rfl rfl rfl rfl (neq_t hb13) rfl ?_ rfl; clear S; intro a S
            refine s_skip S rfl rfl rfl rfl (neq_t hb13) rfl ?_ rfl; clear S; intro a S
            refine s_skip S rfl rfl rfl rfl (neq_t hb13) rfl ?_ rfl; clear S; intro a S
            refine s_skip S rfl rfl rfl rfl (neq_t hb13) rfl ?_ rfl; clear S; intro a S
            refine s_skip S rfl rfl rfl rfl (neq_t hb13) rfl ?_ rfl; clear S; intro a S
            refine s_lv S rfl (rn_or_t (decide (p_b.Races ≤ (mgetD x3 y1.Who 0))) hb13 (S.tm rfl) rfl) rfl ?_; clear S; intro a S
            refine s_done ?_
            exact ⟨Keep.refl _ _, S.nf [true, true, true, true, true, true, true, true] rfl ⟨rfl, rfl, rfl, rfl, rfl, rfl, rfl, rfl, rfl, rfl, rfl, rfl, rfl, rfl, rfl, rfl, rfl, rfl, rfl, rfl, rfl, rfl, rfl, rfl, rfl, rfl, rfl, trivial⟩⟩
           ·refine s_want S rfl rfl rfl rfl hb13 ?_
            refine s_lv0 S (rn_move (S.tm rfl)) rfl ?_; clear S; intro a S
            refine s_want S rfl rfl rfl rfl hb13 ?_
            refine s_lv0 S (rn_fld fa_45_0 (S.tm rfl)) rfl ?_; clear S; intro a S
            refine s_want S rfl rfl rfl rfl hb13 ?_
            refine s_lv0 S (rn_load Tryz.isAgg9 (S.tm rfl) (S.cell (i := 3) rfl rfl)) rfl ?_; clear S; intro a S
            refine s_want S rfl rfl rfl rfl hb13 ?_
            refine s_lv0 S (rn_lookup (kv := Value.string) (vv := (Value.int .i64)) (m := x3) (key := y1.Who) (z := 0) (S.map_at (i := 6) rfl) Tryz.underlying84 (keyT_str Tryz.underlying9) Tryz.zeroValue3 (S.tm rfl) (S.tm rfl)) rfl ?_; clear S; intro a S
            refine s_want S rfl rfl rfl rfl hb13 ?_
            refine s_lv0 S (rn_fld fa_33_0 (S.tm rfl)) rfl ?_; clear S; intro a S
            refine s_want S rfl rfl rfl rfl hb13 ?_
            refine s_lv0 S (rn_load Tryz.isAgg3 (S.tm rfl) (S.cell (i := 7) rfl rfl)) rfl ?_; clear S; intro a S
            refine s_want S rfl rfl rfl rfl hb13 ?_
            refine s_lv0 S (rn_geq (S.tm rfl) (S.tm rfl)) rfl ?_; clear S; intro a S
            refine s_lv S rfl (rn_or_f hb13 (S.tm rfl) (S.tm rfl)) rfl ?_; clear S; intro a S
            refine s_done ?_
            exact ⟨Keep.refl _ _, S.nf [true, true, true, true, true, true, true, true] rfl ⟨rfl, rfl, rfl, rfl, rfl, rfl, rfl, rfl, rfl, rfl, rfl, rfl, rfl, rfl, rfl, rfl, rfl, rfl, rfl, rfl, rfl, rfl, rfl, rfl, rfl, rfl, rfl, trivial⟩⟩
          clear S; rintro a w40 ⟨hk35, S⟩
          refine s_lv S rfl (rn_move (S.tm rfl)) rfl ?_; clear S; intro a S
          refine s_cutm 12 (fun a w' => Keep [] w40 w' ∧ Sx w [] nov [.blk b8 [.string (swimmer_clubAt p_m y1.Who p_b.Day), .string y1.Race] 92, .blk b7 [.string r4.1.Key, .int .i64 r4.1.Sex, .int .i64 r4.1.Born] 56, .blk b6 [.string r3.1.Key, .int .i64 r3.1.Metres, .int .i64 r3.1.Stroke, .int .i64 r3.1.Course, .int .i64 r3.1.Legs, .int .i64 r3.1.Sex, .int .i64 r3.1.Young, .int .i64 r3.1.Old] 52, .blk b5 [.string y1.Who, .string y1.Race] 45, .own v3 3 1 x1.length (x1.flatMap eInt), .map b3 (ments (fun x => Value.agg (Gswimmer_place.enc x).toArray) (Value.int .i64) x2) x2.length, .map b2 (ments Value.string (Value.int .i64) x3) x3.length, .blk b1 [.int .i64 p_b.Races, .int .i64 p_b.Club, .int .i64 p_b.Age, .int .i64 p_b.Day] 33] [(0, v_p_r), (1, v_p_s), (2, v_p_m), (8, .pointer (some ⟨b1, 0, none⟩)), (14, .map (some b2)), (15, .map (some b3)), (16, v3), (17, .int .i64 (i1 : Int)), (18, .pointer (some ⟨b5, 0, none⟩)), (23, .pointer (some ⟨b8, 0, none⟩)), (39, v_p_l), (40, .int .i64 (p_l.length : Int)), (41, .int .i64 (i1 : Int)), (74, undef), (75, undef), (76, undef), (79, .bool r4.2), (80, .bool (!r4.2)), (83, undef), (84, undef), (85, undef), (86, undef), (87, undef), (88, undef), (89, undef), (90, undef), (113, .bool ((true || (decide (p_b.Races ≤ (mgetD x3 y1.Who 0)))) || ((!decide ((swimmer_clubAt p_m y1.Who p_b.Day) = k_empty)) && (decide (p_b.Club ≤ (mgetD x2 (Gswimmer_place.mk (swimmer_clubAt p_m y1.Who p_b.Day) y1.Race) 0))))))] 131 a w') ?_ ?_
          ·rcases Bool.eq_false_or_eq_true (true || (decide (p_b.Races ≤ (mgetD x3 y1.Who 0)))) with hb14 | hb14
           ·refine s_skip S rfl rfl rfl rfl (neq_t hb14) rfl ?_ rfl; clear S; intro a S
            refine s_skip S rfl rfl rfl rfl (neq_t hb14) rfl ?_ rfl; clear S; intro a S
            refine s_skip S rfl rfl rfl rfl (neq_t hb14) rfl ?_ rfl; clear S; intro a S
            refine s_skip S rfl rfl rfl rfl (neq_t hb14) rfl ?_ rfl; clear S; intro a S
            refine s_skipU S rfl rfl rfl rfl rfl ?_; clear S; intro a S
            refine s_skipU S rfl rfl rfl rfl rfl ?_; clear S; intro a S
            refine s_skipU S rfl rfl rfl rfl rfl ?_; clear S; intro a S
            refine s_skipU S rfl rfl rfl rfl rfl ?_; clear S; intro a S
            refine s_skipU S rfl rfl rfl rfl rfl ?_; clear S; intro a S
            refine s_skipU S rfl rfl rfl rfl rfl ?_; clear S; intro a S
            refine s_skip S rfl rfl rfl rfl (neq_t hb14) rfl ?_ rfl; clear S; intro a S
            refine s_lv S rfl (rn_or_t ((!decide ((swimmer_clubAt p_m y1.Who p_b.Day) = k_empty)) && (decide (p_b.Club ≤ (mgetD x2 (Gswimmer_place.mk (swimmer_clubAt p_m y1.Who p_b.Day) y1.Race) 0)))) hb14 (S.tm rfl) rfl) rfl ?_; clear S; intro a S
            refine s_done ?_
            exact ⟨Keep.refl _ _, S.nf [true, true, true, true, true, true, true, true] rfl ⟨rfl, rfl, rfl, rfl, rfl, rfl, rfl, rfl, rfl, rfl, rfl, rfl, rfl, rfl, rfl, rfl, rfl, rfl, rfl, rfl, rfl, rfl, rfl, rfl, rfl, rfl, rfl, trivial⟩⟩
           ·refine s_want S rfl rfl rfl rfl hb14 ?_
            refine s_lv0 S (rn_fld fa_92_0 (S.tm rfl)) rfl ?_; clear S; intro a S
            refine s_want S rfl rfl rfl rfl hb14 ?_
            refine s_lv0 S (rn_load Tryz.isAgg9 (S.tm rfl) (S.cell (i := 0) rfl rfl)) rfl ?_; clear S; intro a S
            refine s_want S rfl rfl rfl rfl hb14 ?_
            refine s_lv0 S (rn_sneq (S.tm rfl) rfl) rfl ?_; clear S; intro a S
            refine s_want S rfl rfl rfl rfl hb14 ?_
            refine s_lv0 S (rn_move (S.tm rfl)) rfl ?_; clear S; intro a S
            refine s_cutm 7 (fun a w' => Keep [] w40 w' ∧ Sx w [] nov [.blk b8 [.string (swimmer_clubAt p_m y1.Who p_b.Day), .string y1.Race] 92, .blk b7 [.string r4.1.Key, .int .i64 r4.1.Sex, .int .i64 r4.1.Born] 56, .blk b6 [.string r3.1.Key, .int .i64 r3.1.Metres, .int .i64 r3.1.Stroke, .int .i64 r3.1.Course, .int .i64 r3.1.Legs, .int .i64 r3.1.Sex, .int .i64 r3.1.Young, .int .i64 r3.1.Old] 52, .blk b5 [.string y1.Who, .string y1.Race] 45, .own v3 3 1 x1.length (x1.flatMap eInt), .map b3 (ments (fun x => Value.agg (Gswimmer_place.enc x).toArray) (Value.int .i64) x2) x2.length, .map b2 (ments Value.string (Value.int .i64) x3) x3.length, .blk b1 [.int .i64 p_b.Races, .int .i64 p_b.Club, .int .i64 p_b.Age, .int .i64 p_b.Day] 33] [(0, v_p_r), (1, v_p_s), (2, v_p_m), (8, .pointer (some ⟨b1, 0, none⟩)), (14, .map (some b2)), (15, .map (some b3)), (16, v3), (17, .int .i64 (i1 : Int)), (18, .pointer (some ⟨b5, 0, none⟩)), (23, .pointer (some ⟨b8, 0, none⟩)), (39, v_p_l), (40, .int .i64 (p_l.length : Int)), (41, .int .i64 (i1 : Int)), (74, undef), (75, undef), (76, undef), (79, .bool r4.2), (80, .bool (!r4.2)), (83, undef), (84, undef), (85, undef), (86, undef), (87, undef), (88, undef), (89, undef), (90, undef), (101, .bool (true || (decide (p_b.Races ≤ (mgetD x3 y1.Who 0))))), (102, .pointer (some ⟨b8, 0, none⟩)), (103, .string (swimmer_clubAt p_m y1.Who p_b.Day)), (104, .bool (!decide ((swimmer_clubAt p_m y1.Who p_b.Day) = k_empty))), (105, .bool (!decide ((swimmer_clubAt p_m y1.Who p_b.Day) = k_empty))), (112, .bool ((!decide ((swimmer_clubAt p_m y1.Who p_b.Day) = k_empty)) && (decide (p_b.Club ≤ (mgetD x2 (Gswimmer_place.mk (swimmer_clubAt p_m y1.Who p_b.Day) y1.Race) 0)))))] 131 a w') ?_ ?_
            ·rcases Bool.eq_false_or_eq_true (!decide ((swimmer_clubAt p_m y1.Who p_b.Day) = k_empty)) with hb15 | hb15
             ·refine s_want S rfl rfl rfl rfl hb15 ?_
              refine s_lv0 S (rn_move (S.tm rfl)) rfl ?_; clear S; intro a S
              refine s_want S rfl rfl rfl rfl hb15 ?_
              refine s_lv0 S (rn_ldA Tryz.isAgg92 Tryz.sizeOf92 (off := 0) (o := 0) (part := [.string (swimmer_clubAt p_m y1.Who p_b.Day), .string y1.Race]) rfl rfl (S.tm rfl) (S.cellsAt (i := 0) rfl)) rfl ?_; clear S; intro a S
              refine s_want S rfl rfl rfl rfl hb15 ?_
              refine s_lv0 S (rn_lookup (kv := (fun x => Value.agg (Gswimmer_place.enc x).toArray)) (vv := (Value.int .i64)) (m := x2) (key := (Gswimmer_place.mk (swimmer_clubAt p_m y1.Who p_b.Day) y1.Race)) (z := 0) (S.map_at (i := 5) rfl) Tryz.underlying85 keyT_92 Tryz.zeroValue3 (S.tm rfl) (S.tm rfl)) rfl ?_; clear S; intro a S
              refine s_want S rfl rfl rfl rfl hb15 ?_
              refine s_lv0 S (rn_fld fa_33_1 (S.tm rfl)) rfl ?_; clear S; intro a S
              refine s_want S rfl rfl rfl rfl hb15 ?_
              refine s_lv0 S (rn_load Tryz.isAgg3 (S.tm rfl) (S.cell (i := 7) rfl rfl)) rfl ?_; clear S; intro a S
              refine s_want S rfl rfl rfl rfl hb15 ?_
              refine s_lv0 S (rn_geq (S.tm rfl) (S.tm rfl)) rfl ?_; clear S; intro a S
              refine s_want S rfl rfl rfl rfl hb14 ?_
              refine s_lv0 S (rn_and_t hb15 (S.tm rfl) (S.tm rfl)) rfl ?_; clear S; intro a S
              refine s_done ?_
              exact ⟨Keep.refl _ _, S.nf [true, true, true, true, true, true, true, true] rfl ⟨rfl, rfl, rfl, rfl, rfl, rfl, rfl, rfl, rfl, rfl, rfl, rfl, rfl, rfl, rfl, rfl, rfl, rfl, rfl, rfl, rfl, rfl, rfl, rfl, rfl, rfl, rfl, rfl, rfl, rfl, rfl, rfl, trivial⟩⟩
             ·refine s_skip S rfl rfl rfl rfl (neq_f hb15) rfl ?_ rfl; clear S; intro a S
              refine s_skip S rfl rfl rfl rfl (neq_f hb15) rfl ?_ rfl; clear S; intro a S
              refine s_skip S rfl rfl rfl rfl (neq_f hb15) rfl ?_ rfl; clear S; intro a S
              refine s_skip S rfl rfl rfl rfl (neq_f hb15) rfl ?_ rfl; clear S; intro a S
              refine s_skip S rfl rfl rfl rfl (neq_f hb15) rfl ?_ rfl; clear S; intro a S
              refine s_skip S rfl rfl rfl rfl (neq_f hb15) rfl ?_ rfl; clear S; intro a S
              refine s_want S rfl rfl rfl rfl hb14 ?_
              refine s_lv0 S (rn_and_f (decide (p_b.Club ≤ (mgetD x2 (Gswimmer_place.mk (swimmer_clubAt p_m y1.Who p_b.Day) y1.Race) 0))) hb15 (S.tm rfl) rfl) rfl ?_; clear S; intro a S
              refine s_done ?_
              exact ⟨Keep.refl _ _, S.nf [true, true, true, true, true, true, true, true] rfl ⟨rfl, rfl, rfl, rfl, rfl, rfl, rfl, rfl, rfl, rfl, rfl, rfl, rfl, rfl, rfl, rfl, rfl, rfl, rfl, rfl, rfl, rfl, rfl, rfl, rfl, rfl, rfl, rfl, rfl, rfl, rfl, rfl, trivial⟩⟩
            clear S; rintro a w42 ⟨hk36, S⟩
            refine s_lv S rfl (rn_or_f hb14 (S.tm rfl) (S.tm rfl)) rfl ?_; clear S; intro a S
            refine s_done ?_
            exact ⟨hk36, S.nf [true, true, true, true, true, true, true, true] rfl ⟨rfl, rfl, rfl, rfl, rfl, rfl, rfl, rfl, rfl, rfl, rfl, rfl, rfl, rfl, rfl, rfl, rfl, rfl, rfl, rfl, rfl, rfl, rfl, rfl, rfl, rfl, rfl, trivial⟩⟩
          clear S; rintro a w41 ⟨hk37, S⟩
          refine s_done ?_
          replace S := S.nk [.blk b8 [.string (swimmer_clubAt p_m y1.Who p_b.Day), .string y1.Race] 92, .blk b5 [.string y1.Who, .string y1.Race] 45, .own v3 3 1 x1.length (x1.flatMap eInt), .map b3 (ments (fun x => Value.agg (Gswimmer_place.enc x).toArray) (Value.int .i64) x2) x2.length, .map b2 (ments Value.string (Value.int .i64) x3) x3.length, .blk b1 [.int .i64 p_b.Races, .int .i64 p_b.Club, .int .i64 p_b.Age, .int .i64 p_b.Day] 33] [(0, v_p_r), (1, v_p_s), (2, v_p_m), (8, .pointer (some ⟨b1, 0, none⟩)), (14, .map (some b2)), (15, .map (some b3)), (16, v3), (17, .int .i64 (i1 : Int)), (18, .pointer (some ⟨b5, 0, none⟩)), (23, .pointer (some ⟨b8, 0, none⟩)), (39, v_p_l), (40, .int .i64 (p_l.length : Int)), (41, .int .i64 (i1 : Int)), (79, .bool r4.2), (80, .bool (!r4.2)), (113, .bool ((true || (decide (p_b.Races ≤ (mgetD x3 y1.Who 0)))) || ((!decide ((swimmer_clubAt p_m y1.Who p_b.Day) = k_empty)) && (decide (p_b.Club ≤ (mgetD x2 (Gswimmer_place.mk (swimmer_clubAt p_m y1.Who p_b.Day) y1.Race) 0))))))] [true, false, false, true, true, true, true, true] rfl ⟨rfl, rfl, rfl, rfl, rfl, rfl, rfl, rfl, rfl, rfl, rfl, rfl, rfl, rfl, rfl, rfl, trivial⟩
          refine then_n ?_
          exact ⟨((true || (decide (p_b.Races ≤ (mgetD x3 y1.Who 0)))) || ((!decide ((swimmer_clubAt p_m y1.Who p_b.Day) = k_empty)) && (decide (p_b.Club ≤ (mgetD x2 (Gswimmer_place.mk (swimmer_clubAt p_m y1.Who p_b.Day) y1.Race) 0))))), h, S.nf [true, true, true, true, true, true] rfl ⟨rfl, rfl, rfl, rfl, rfl, rfl, rfl, rfl, rfl, rfl, rfl, rfl, rfl, rfl, trivial⟩⟩
         ·replace h := iteF h hb12
          obtain ⟨r6, hr7, h⟩ := bindE h
          refine d_region [] ([]) Tryz.mixed S rfl (by kernel_rfl) ?_; clear S; intro w44 hk39 hsel S
          refine d_quiet 0 S hsel rfl rfl rfl (by kernel_rfl) (by kernel_rfl) rfl (fun _ hw => (rn_move (S.tm rfl))) ?_; clear S; intro a S
          refine d_quiet 1 S hsel rfl rfl rfl (by kernel_rfl) (by kernel_rfl) rfl (fun _ hw => (rn_not (S.tm rfl))) ?_; clear S; intro a S
          refine d_quiet 2 S hsel rfl rfl rfl (by kernel_rfl) (by kernel_rfl) rfl (fun _ hw => (rn_move (S.tm rfl))) ?_; clear S; intro a S
          refine d_skip 3 S hsel rfl rfl rfl rfl (neq_t hb3) rfl (by kernel_rfl) (by kernel_rfl) rfl ?_; clear S; intro a S
          refine d_skip 4 S hsel rfl rfl rfl rfl (neq_t hb3) rfl (by kernel_rfl) (by kernel_rfl) rfl ?_; clear S; intro a S
          refine d_skip 5 S hsel rfl rfl rfl rfl (neq_t hb3) rfl (by kernel_rfl) (by kernel_rfl) rfl ?_; clear S; intro a S
          refine d_quiet 6 S hsel rfl rfl rfl (by kernel_rfl) (by kernel_rfl) rfl (fun _ hw => (rn_pick_b hb3 (S.tm rfl) rfl)) ?_; clear S; intro a S
          refine d_quiet 7 S hsel rfl rfl rfl (by kernel_rfl) (by kernel_rfl) rfl (fun _ hw => (rn_move (S.tm rfl))) ?_; clear S; intro a S
          refine d_quiet_g 8 S hsel rfl rfl rfl rfl hb4 rfl rfl (by kernel_rfl) (by kernel_rfl) rfl (fun _ hw => (rn_move (S.tm rfl))) ?_; clear S; intro a S
          refine d_quiet_g 9 S hsel rfl rfl rfl rfl hb4 rfl rfl (by kernel_rfl) (by kernel_rfl) rfl (fun _ hw => (rn_not (S.tm rfl))) ?_; clear S; intro a S
          refine d_quiet 10 S hsel rfl rfl rfl (by kernel_rfl) (by kernel_rfl) rfl (fun _ hw => (rn_pick_c hb4 (S.tm rfl) (S.tm rfl))) ?_; clear S; intro a S
          refine d_quiet 11 S hsel rfl rfl rfl (by kernel_rfl) (by kernel_rfl) rfl (fun _ hw => (rn_move (S.tm rfl))) ?_; clear S; intro a S
          refine d_quiet_g 12 S hsel rfl rfl rfl rfl hb12 rfl rfl (by kernel_rfl) (by kernel_rfl) rfl (fun _ hw => (rn_ldA Tryz.isAgg52 Tryz.sizeOf52 (off := 0) (o := 0) (part := [.string r3.1.Key, .int .i64 r3.1.Metres, .int .i64 r3.1.Stroke, .int .i64 r3.1.Course, .int .i64 r3.1.Legs, .int .i64 r3.1.Sex, .int .i64 r3.1.Young, .int .i64 r3.1.Old]) rfl rfl (S.tm rfl) ((S.blk_mem (i := 2) (cells := [.string r3.1.Key, .int .i64 r3.1.Metres, .int .i64 r3.1.Stroke, .int .i64 r3.1.Course, .int .i64 r3.1.Legs, .int .i64 r3.1.Sex, .int .i64 r3.1.Young, .int .i64 r3.1.Old]) (b := b6) (T := 52) rfl (ne_nil (e' := .blk b6 [.string r3.1.Key, .int .i64 r3.1.Metres, .int .i64 r3.1.Stroke, .int .i64 r3.1.Course, .int .i64 r3.1.Legs, .int .i64 r3.1.Sex, .int .i64 r3.1.Young, .int .i64 r3.1.Old] 52))).kept hw))) ?_; clear S; intro a S
          refine d_quiet_g 13 S hsel rfl rfl rfl rfl hb12 rfl rfl (by kernel_rfl) (by kernel_rfl) rfl (fun _ hw => (rn_ldA Tryz.isAgg56 Tryz.sizeOf56 (off := 0) (o := 0) (part := [.string r4.1.Key, .int .i64 r4.1.Sex, .int .i64 r4.1.Born]) rfl rfl (S.tm rfl) ((S.blk_mem (i := 1) (cells := [.string r4.1.Key, .int .i64 r4.1.Sex, .int .i64 r4.1.Born]) (b := b7) (T := 56) rfl (ne_nil (e' := .blk b7 [.string r4.1.Key, .int .i64 r4.1.Sex, .int .i64 r4.1.Born] 56))).kept hw))) ?_; clear S; intro a S
          refine d_quiet_g 14 S hsel rfl rfl rfl rfl hb12 rfl rfl (by kernel_rfl) (by kernel_rfl) rfl (fun _ hw => (rn_fld fa_33_3 (S.tm rfl))) ?_; clear S; intro a S
          refine d_quiet_g 15 S hsel rfl rfl rfl rfl hb12 rfl rfl (by kernel_rfl) (by kernel_rfl) rfl (fun _ hw => (rn_ld Tryz.isAgg3 (off := 0) (o := 3) (S.tm rfl) ((S.blk_mem (i := 7) (cells := [.int .i64 p_b.Races, .int .i64 p_b.Club, .int .i64 p_b.Age, .int .i64 p_b.Day]) (b := b1) (T := 33) rfl (ne_nil (e' := .blk b1 [.int .i64 p_b.Races, .int .i64 p_b.Club, .int .i64 p_b.Age, .int .i64 p_b.Day] 33))).kept hw) rfl)) ?_; clear S; intro a S
          refine d_quiet_g 16 S hsel rfl rfl rfl rfl hb12 rfl rfl (by kernel_rfl) (by kernel_rfl) rfl (fun _ hw => (rn_fld fa_33_2 (S.tm rfl))) ?_; clear S; intro a S
          refine d_quiet_g 17 S hsel rfl rfl rfl rfl hb12 rfl rfl (by kernel_rfl) (by kernel_rfl) rfl (fun _ hw => (rn_ld Tryz.isAgg3 (off := 0) (o := 2) (S.tm rfl) ((S.blk_mem (i := 7) (cells := [.int .i64 p_b.Races, .int .i64 p_b.Club, .int .i64 p_b.Age, .int .i64 p_b.Day]) (b := b1) (T := 33) rfl (ne_nil (e' := .blk b1 [.int .i64 p_b.Races, .int .i64 p_b.Club, .int .i64 p_b.Age, .int .i64 p_b.Day] 33))).kept hw) rfl)) ?_; clear S; intro a S
          refine d_loud1 18 (by kernel_rfl) rfl ?_
          refine l_want S rfl rfl rfl hb12 ?_
          refine l_enter S (fun _ => run_call (vs := [.agg (GRace.enc r3.1).toArray, .agg (GSwimmer.enc r4.1).toArray, .int .i64 p_b.Day, .int .i64 p_b.Age]) ⟨(S.tm rfl), (S.tm rfl), (S.tm rfl), (S.tm rfl), trivial⟩ Tryz.call35) (swimmer_may_ok _ r3.1 r4.1 p_b.Day p_b.Age _ hr7) rfl ?_; clear S; intro v13 a w45 hv11 hk40 hn11 S
          subst hv11
          refine l_done ?_
          refine d_next hk40 ?_
          refine d_rest [19, 20, 21, 22, 23, 24, 25, 26, 27, 28, 29, 30, 31, 32, 33, 34, 35, 36, 37, 38, 39, 40, 41, 42] hsel (by kernel_rfl) rfl ?_
          clear hsel
          refine s_want S rfl rfl rfl rfl hb12 ?_
          refine s_lv0 S (rn_not (S.tm rfl)) rfl ?_; clear S; intro a S
          refine s_lv S rfl (rn_pick_c hb12 (S.tm rfl) (S.tm rfl)) rfl ?_; clear S; intro a S
          refine s_lv S rfl (rn_move (S.tm rfl)) rfl ?_; clear S; intro a S
          refine s_cutm 8 (fun a w' => Keep [] w45 w' ∧ Sx w [] nov [.blk b8 [.string (swimmer_clubAt p_m y1.Who p_b.Day), .string y1.Race] 92, .blk b7 [.string r4.1.Key, .int .i64 r4.1.Sex, .int .i64 r4.1.Born] 56, .blk b6 [.string r3.1.Key, .int .i64 r3.1.Metres, .int .i64 r3.1.Stroke, .int .i64 r3.1.Course, .int .i64 r3.1.Legs, .int .i64 r3.1.Sex, .int .i64 r3.1.Young, .int .i64 r3.1.Old] 52, .blk b5 [.string y1.Who, .string y1.Race] 45, .own v3 3 1 x1.length (x1.flatMap eInt), .map b3 (ments (fun x => Value.agg (Gswimmer_place.enc x).toArray) (Value.int .i64) x2) x2.length, .map b2 (ments Value.string (Value.int .i64) x3) x3.length, .blk b1 [.int .i64 p_b.Races, .int .i64 p_b.Club, .int .i64 p_b.Age, .int .i64 p_b.Day] 33] [(0, v_p_r), (1, v_p_s), (2, v_p_m), (8, .pointer (some ⟨b1, 0, none⟩)), (14, .map (some b2)), (15, .map (some b3)), (16, v3), (17, .int .i64 (i1 : Int)), (18, .pointer (some ⟨b5, 0, none⟩)), (23, .pointer (some ⟨b8, 0, none⟩)), (39, v_p_l), (40, .int .i64 (p_l.length : Int)), (41, .int .i64 (i1 : Int)), (74, undef), (75, undef), (76, undef), (79, .bool r4.2), (80, .bool (!r4.2)), (83, .agg #[.string r3.1.Key, .int .i64 r3.1.Metres, .int .i64 r3.1.Stroke, .int .i64 r3.1.Course, .int .i64 r3.1.Legs, .int .i64 r3.1.Sex, .int .i64 r3.1.Young, .int .i64 r3.1.Old]), (84, .agg #[.string r4.1.Key, .int .i64 r4.1.Sex, .int .i64 r4.1.Born]), (85, .pointer (some ⟨b1, 3, none⟩)), (86, .int .i64 p_b.Day), (87, .pointer (some ⟨b1, 2, none⟩)), (88, .int .i64 p_b.Age), (89, .bool r6), (90, .bool (!r6)), (100, .bool ((!r6) || (decide (p_b.Races ≤ (mgetD x3 y1.Who 0)))))] 131 a w') ?_ ?_
          ·rcases Bool.eq_false_or_eq_true (!r6) with hb16 | hb16
           ·refine s_skip S rfl rfl rfl rfl (neq_t hb16) rfl ?_ rfl; clear S; intro a S
            refine s_skip S rfl rfl rfl rfl (neq_t hb16) rfl ?_ rfl; clear S; intro a S
            refine s_skip S rfl rfl rfl rfl (neq_t hb16) rfl ?_ rfl; clear S; intro a S
            refine s_skip S rfl rfl rfl rfl (neq_t hb16) rfl ?_ rfl; clear S; intro a S
            refine s_skip S rfl rfl rfl rfl (neq_t hb16) rfl ?_ rfl; clear S; intro a S
            refine s_skip S rfl rfl rfl rfl (neq_t hb16) rfl ?_ rfl; clear S; intro a S
            refine s_skip S rfl rfl rfl rfl (neq_t hb16) rfl ?_ rfl; clear S; intro a S
            refine s_lv S rfl (rn_or_t (decide (p_b.Races ≤ (mgetD x3 y1.Who 0))) hb16 (S.tm rfl) rfl) rfl ?_; clear S; intro a S
            refine s_done ?_
            exact ⟨Keep.refl _ _, S.nf [true, true, true, true, true, true, true, true] rfl ⟨rfl, rfl, rfl, rfl, rfl, rfl, rfl, rfl, rfl, rfl, rfl, rfl, rfl, rfl, rfl, rfl, rfl, rfl, rfl, rfl, rfl, rfl, rfl, rfl, rfl, rfl, rfl, trivial⟩⟩
           ·refine s_want S rfl rfl rfl rfl hb16 ?_
            refine s_lv0 S (rn_move (S.tm rfl)) rfl ?_; clear S; intro a S
            refine s_want S rfl rfl rfl rfl hb16 ?_
            refine s_lv0 S (rn_fld fa_45_0 (S.tm rfl)) rfl ?_; clear S; intro a S
            refine s_want S rfl rfl rfl rfl hb16 ?_
            refine s_lv0 S (rn_load Tryz.isAgg9 (S.tm rfl) (S.cell (i := 3) rfl rfl)) rfl ?_; clear S; intro a S
            refine s_want S rfl rfl rfl rfl hb16 ?_
            refine s_lv0 S (rn_lookup (kv := Value.string) (vv := (Value.int .i64)) (m := x3) (key := y1.Who) (z := 0) (S.map_at (i := 6) rfl) Tryz.underlying84 (keyT_str Tryz.underlying9) Tryz.zeroValue3 (S.tm rfl) (S.tm rfl)) rfl ?_; clear S; intro a S
            refine s_want S rfl rfl rfl rfl hb16 ?_
            refine s_lv0 S (rn_fld fa_33_0 (S.tm rfl)) rfl ?_; clear S; intro a S
            refine s_want S rfl rfl rfl rfl hb16 ?_
            refine s_lv0 S (rn_load Tryz.isAgg3 (S.tm rfl) (S.cell (i := 7) rfl rfl)) rfl ?_; clear S; intro a S
            refine s_want S rfl rfl rfl rfl hb16 ?_
            refine s_lv0 S (rn_geq (S.tm rfl) (S.tm rfl)) rfl ?_; clear S; intro a S
            refine s_lv S rfl (rn_or_f hb16 (S.tm rfl) (S.tm rfl)) rfl ?_; clear S; intro a S
            refine s_done ?_
            exact ⟨Keep.refl _ _, S.nf [true, true, true, true, true, true, true, true] rfl ⟨rfl, rfl, rfl, rfl, rfl, rfl, rfl, rfl, rfl, rfl, rfl, rfl, rfl, rfl, rfl, rfl, rfl, rfl, rfl, rfl, rfl, rfl, rfl, rfl, rfl, rfl, rfl, trivial⟩⟩
          clear S; rintro a w46 ⟨hk41, S⟩
          refine s_lv S rfl (rn_move (S.tm rfl)) rfl ?_; clear S; intro a S
          refine s_cutm 12 (fun a w' => Keep [] w46 w' ∧ Sx w [] nov [.blk b8 [.string (swimmer_clubAt p_m y1.Who p_b.Day), .string y1.Race] 92, .blk b7 [.string r4.1.Key, .int .i64 r4.1.Sex, .int .i64 r4.1.Born] 56, .blk b6 [.string r3.1.Key, .int .i64 r3.1.Metres, .int .i64 r3.1.Stroke, .int .i64 r3.1.Course, .int .i64 r3.1.Legs, .int .i64 r3.1.Sex, .int .i64 r3.1.Young, .int .i64 r3.1.Old] 52, .blk b5 [.string y1.Who, .string y1.Race] 45, .own v3 3 1 x1.length (x1.flatMap eInt), .map b3 (ments (fun x => Value.agg (Gswimmer_place.enc x).toArray) (Value.int .i64) x2) x2.length, .map b2 (ments Value.string (Value.int .i64) x3) x3.length, .blk b1 [.int .i64 p_b.Races, .int .i64 p_b.Club, .int .i64 p_b.Age, .int .i64 p_b.Day] 33] [(0, v_p_r), (1, v_p_s), (2, v_p_m), (8, .pointer (some ⟨b1, 0, none⟩)), (14, .map (some b2)), (15, .map (some b3)), (16, v3), (17, .int .i64 (i1 : Int)), (18, .pointer (some ⟨b5, 0, none⟩)), (23, .pointer (some ⟨b8, 0, none⟩)), (39, v_p_l), (40, .int .i64 (p_l.length : Int)), (41, .int .i64 (i1 : Int)), (74, undef), (75, undef), (76, undef), (79, .bool r4.2), (80, .bool (!r4.2)), (83, .agg #[.string r3.1.Key, .int .i64 r3.1.Metres, .int .i64 r3.1.Stroke, .int .i64 r3.1.Course, .int .i64 r3.1.Legs, .int .i64 r3.1.Sex, .int .i64 r3.1.Young, .int .i64 r3.1.Old]), (84, .agg #[.string r4.1.Key, .int .i64 r4.1.Sex, .int .i64 r4.1.Born]), (85, .pointer (some ⟨b1, 3, none⟩)), (86, .int .i64 p_b.Day), (87, .pointer (some ⟨b1, 2, none⟩)), (88, .int .i64 p_b.Age), (89, .bool r6), (90, .bool (!r6)), (113, .bool (((!r6) || (decide (p_b.Races ≤ (mgetD x3 y1.Who 0)))) || ((!decide ((swimmer_clubAt p_m y1.Who p_b.Day) = k_empty)) && (decide (p_b.Club ≤ (mgetD x2 (Gswimmer_place.mk (swimmer_clubAt p_m y1.Who p_b.Day) y1.Race) 0))))))] 131 a w') ?_ ?_
          ·rcases Bool.eq_false_or_eq_true ((!r6) || (decide (p_b.Races ≤ (mgetD x3 y1.Who 0)))) with hb17 | hb17
           ·refine s_skip S rfl rfl rfl rfl (neq_t hb17) rfl ?_ rfl; clear S; intro a S
            refine s_skip S rfl rfl rfl rfl (neq_t hb17) rfl ?_ rfl; clear S; intro a S
            refine s_skip S rfl rfl rfl rfl (neq_t hb17) rfl ?_ rfl; clear S; intro a S
            refine s_skip S rfl rfl rfl rfl (neq_t hb17) rfl ?_ rfl; clear S; intro a S
            refine s_skipU S rfl rfl rfl rfl rfl ?_; clear S; intro a S
            refine s_skipU S rfl rfl rfl rfl rfl ?_; clear S; intro a S
            refine s_skipU S rfl rfl rfl rfl rfl ?_; clear S; intro a S
            refine s_skipU S rfl rfl rfl rfl rfl ?_; clear S; intro a S
            refine s_skipU S rfl rfl rfl rfl rfl ?_; clear S; intro a S
            refine s_skipU S rfl rfl rfl rfl rfl ?_; clear S; intro a S
            refine s_skip S rfl rfl rfl rfl (neq_t hb17) rfl ?_ rfl; clear S; intro a S
            refine s_lv S rfl (rn_or_t ((!decide ((swimmer_clubAt p_m y1.Who p_b.Day) = k_empty)) && (decide (p_b.Club ≤ (mgetD x2 (Gswimmer_place.mk (swimmer_clubAt p_m y1.Who p_b.Day) y1.Race) 0)))) hb17 (S.tm rfl) rfl) rfl ?_; clear S; intro a S
            refine s_done ?_
            exact ⟨Keep.refl _ _, S.nf [true, true, true, true, true, true, true, true] rfl ⟨rfl, rfl, rfl, rfl, rfl, rfl, rfl, rfl, rfl, rfl, rfl, rfl, rfl, rfl, rfl, rfl, rfl, rfl, rfl, rfl, rfl, rfl, rfl, rfl, rfl, rfl, rfl, trivial⟩⟩
           ·refine s_want S rfl rfl rfl rfl hb17 ?_
            refine s_lv0 S (rn_fld fa_92_0 (S.tm rfl)) rfl ?_; clear S; intro a S
            refine s_want S rfl rfl rfl rfl hb17 ?_
            refine s_lv0 S (rn_load Tryz.isAgg9 (S.tm rfl) (S.cell (i := 0) rfl rfl)) rfl ?_; clear S; intro a S
            refine s_want S rfl rfl rfl rfl hb17 ?_
            refine s_lv0 S (rn_sneq (S.tm rfl) rfl) rfl ?_; clear S; intro a S
            refine s_want S rfl rfl rfl rfl hb17 ?_
            refine s_lv0 S (rn_move (S.tm rfl)) rfl ?_; clear S; intro a S
            refine s_cutm 7 (fun a w' => Keep [] w46 w' ∧ Sx w [] nov [.blk b8 [.string (swimmer_clubAt p_m y1.Who p_b.Day), .string y1.Race] 92, .blk b7 [.string r4.1.Key, .int .i64 r4.1.Sex, .int .i64 r4.1.Born] 56, .blk b6 [.string r3.1.Key, .int .i64 r3.1.Metres, .int .i64 r3.1.Stroke, .int .i64 r3.1.Course, .int .i64 r3.1.Legs, .int .i64 r3.1.Sex, .int .i64 r3.1.Young, .int .i64 r3.1.Old] 52, .blk b5 [.string y1.Who, .string y1.Race] 45, .own v3 3 1 x1.length (x1.flatMap eInt), .map b3 (ments (fun x => Value.agg (Gswimmer_place.enc x).toArray) (Value.int .i64) x2) x2.length, .map b2 (ments Value.string (Value.int .i64) x3) x3.length, .blk b1 [.int .i64 p_b.Races, .int .i64 p_b.Club, .int .i64 p_b.Age, .int .i64 p_b.Day] 33] [(0, v_p_r), (1, v_p_s), (2, v_p_m), (8, .pointer (some ⟨b1, 0, none⟩)), (14, .map (some b2)), (15, .map (some b3)), (16, v3), (17, .int .i64 (i1 : Int)), (18, .pointer (some ⟨b5, 0, none⟩)), (23, .pointer (some ⟨b8, 0, none⟩)), (39, v_p_l), (40, .int .i64 (p_l.length : Int)), (41, .int .i64 (i1 : Int)), (74, undef), (75, undef), (76, undef), (79, .bool r4.2), (80, .bool (!r4.2)), (83, .agg #[.string r3.1.Key, .int .i64 r3.1.Metres, .int .i64 r3.1.Stroke, .int .i64 r3.1.Course, .int .i64 r3.1.Legs, .int .i64 r3.1.Sex, .int .i64 r3.1.Young, .int .i64 r3.1.Old]), (84, .agg #[.string r4.1.Key, .int .i64 r4.1.Sex, .int .i64 r4.1.Born]), (85, .pointer (some ⟨b1, 3, none⟩)), (86, .int .i64 p_b.Day), (87, .pointer (some ⟨b1, 2, none⟩)), (88, .int .i64 p_b.Age), (89, .bool r6), (90, .bool (!r6)), (101, .bool ((!r6) || (decide (p_b.Races ≤ (mgetD x3 y1.Who 0))))), (102, .pointer (some ⟨b8, 0, none⟩)), (103, .string (swimmer_clubAt p_m y1.Who p_b.Day)), (104, .bool (!decide ((swimmer_clubAt p_m y1.Who p_b.Day) = k_empty))), (105, .bool (!decide ((swimmer_clubAt p_m y1.Who p_b.Day) = k_empty))), (112, .bool ((!decide ((swimmer_clubAt p_m y1.Who p_b.Day) = k_empty)) && (decide (p_b.Club ≤ (mgetD x2 (Gswimmer_place.mk (swimmer_clubAt p_m y1.Who p_b.Day) y1.Race) 0)))))] 131 a w') ?_ ?_
            ·rcases Bool.eq_false_or_eq_true (!decide ((swimmer_clubAt p_m y1.Who p_b.Day) = k_empty)) with hb18 | hb18
             ·refine s_want S rfl rfl rfl rfl hb18 ?_
              refine s_lv0 S (rn_move (S.tm rfl)) rfl ?_; clear S; intro a S
              refine s_want S rfl rfl rfl rfl hb18 ?_
              refine s_lv0 S (rn_ldA Tryz.isAgg92 Tryz.sizeOf92 (off := 0) (o := 0) (part := [.string (swimmer_clubAt p_m y1.Who p_b.Day), .string y1.Race]) rfl rfl (S.tm rfl) (S.cellsAt (i := 0) rfl)) rfl ?_; clear S; intro a S
              refine s_want S rfl rfl rfl rfl hb18 ?_
              refine s_lv0 S (rn_lookup (kv := (fun x => Value.agg (Gswimmer_place.enc x).toArray)) (vv := (Value.int .i64)) (m := x2) (key := (Gswimmer_place.mk (swimmer_clubAt p_m y1.Who p_b.Day) y1.Race)) (z := 0) (S.map_at (i := 5) rfl) Tryz.underlying85 keyT_92 Tryz.zeroValue3 (S.tm rfl) (S.tm rfl)) rfl ?_; clear S; intro a S
              refine s_want S rfl rfl rfl rfl hb18 ?_
              refine s_lv0 S (rn_fld fa_33_1 (S.tm rfl)) rfl ?_; clear S; intro a S
              refine s_want S rfl rfl rfl rfl hb18 ?_
              refine s_lv0 S (rn_load Tryz.isAgg3 (S.tm rfl) (S.cell (i := 7) rfl rfl)) rfl ?_; clear S; intro a S
              refine s_want S rfl rfl rfl rfl hb18 ?_
              refine s_lv0 S (rn_geq (S.tm rfl) (S.tm rfl)) rfl ?_; clear S; intro a S
              refine s_want S rfl rfl rfl rfl hb17 ?_
              refine s_lv0 S (rn_and_t hb18 (S.tm rfl) (S.tm rfl)) rfl ?_; clear S; intro a S
              refine s_done ?_
              exact ⟨Keep.refl _ _, S.nf [true, true, true, true, true, true, true, true] rfl ⟨rfl, rfl, rfl, rfl, rfl, rfl, rfl, rfl, rfl, rfl, rfl, rfl, rfl, rfl, rfl, rfl, rfl, rfl, rfl, rfl, rfl, rfl, rfl, rfl, rfl, rfl, rfl, rfl, rfl, rfl, rfl, rfl, trivial⟩⟩
             ·refine s_skip S rfl rfl rfl rfl (neq_f hb18) rfl ?_ rfl; clear S; intro a S
              refine s_skip S rfl rfl rfl rfl (neq_f hb18) rfl ?_ rfl; clear S; intro a S
              refine s_skip S rfl rfl rfl rfl (neq_f hb18) rfl ?_ rfl; clear S; intro a S
              refine s_skip S rfl rfl rfl rfl (neq_f hb18) rfl ?_ rfl; clear S; intro a S
              refine s_skip S rfl rfl rfl rfl (neq_f hb18) rfl ?_ rfl; clear S; intro a S
              refine s_skip S rfl rfl rfl rfl (neq_f hb18) rfl ?_ rfl; clear S; intro a S
              refine s_want S rfl rfl rfl rfl hb17 ?_
              refine s_lv0 S (rn_and_f (decide (p_b.Club ≤ (mgetD x2 (Gswimmer_place.mk (swimmer_clubAt p_m y1.Who p_b.Day) y1.Race) 0))) hb18 (S.tm rfl) rfl) rfl ?_; clear S; intro a S
              refine s_done ?_
              exact ⟨Keep.refl _ _, S.nf [true, true, true, true, true, true, true, true] rfl ⟨rfl, rfl, rfl, rfl, rfl, rfl, rfl, rfl, rfl, rfl, rfl, rfl, rfl, rfl, rfl, rfl, rfl, rfl, rfl, rfl, rfl, rfl, rfl, rfl, rfl, rfl, rfl, rfl, rfl, rfl, rfl, rfl, trivial⟩⟩
            clear S; rintro a w48 ⟨hk42, S⟩
            refine s_lv S rfl (rn_or_f hb17 (S.tm rfl) (S.tm rfl)) rfl ?_; clear S; intro a S
            refine s_done ?_
            exact ⟨hk42, S.nf [true, true, true, true, true, true, true, true] rfl ⟨rfl, rfl, rfl, rfl, rfl, rfl, rfl, rfl, rfl, rfl, rfl, rfl, rfl, rfl, rfl, rfl, rfl, rfl, rfl, rfl, rfl, rfl, rfl, rfl, rfl, rfl, rfl, trivial⟩⟩
          clear S; rintro a w47 ⟨hk43, S⟩
          refine s_done ?_
          replace S := S.nk [.blk b8 [.string (swimmer_clubAt p_m y1.Who p_b.Day), .string y1.Race] 92, .blk b5 [.string y1.Who, .string y1.Race] 45, .own v3 3 1 x1.length (x1.flatMap eInt), .map b3 (ments (fun x => Value.agg (Gswimmer_place.enc x).toArray) (Value.int .i64) x2) x2.length, .map b2 (ments Value.string (Value.int .i64) x3) x3.length, .blk b1 [.int .i64 p_b.Races, .int .i64 p_b.Club, .int .i64 p_b.Age, .int .i64 p_b.Day] 33] [(0, v_p_r), (1, v_p_s), (2, v_p_m), (8, .pointer (some ⟨b1, 0, none⟩)), (14, .map (some b2)), (15, .map (some b3)), (16, v3), (17, .int .i64 (i1 : Int)), (18, .pointer (some ⟨b5, 0, none⟩)), (23, .pointer (some ⟨b8, 0, none⟩)), (39, v_p_l), (40, .int .i64 (p_l.length : Int)), (41, .int .i64 (i1 : Int)), (79, .bool r4.2), (80, .bool (!r4.2)), (83, .agg #[.string r3.1.Key, .int .i64 r3.1.Metres, .int .i64 r3.1.Stroke, .int .i64 r3.1.Course, .int .i64 r3.1.Legs, .int .i64 r3.1.Sex, .int .i64 r3.1.Young, .int .i64 r3.1.Old]), (84, .agg #[.string r4.1.Key, .int .i64 r4.1.Sex, .int .i64 r4.1.Born]), (85, .pointer (some ⟨b1, 3, none⟩)), (86, .int .i64 p_b.Day), (87, .pointer (some ⟨b1, 2, none⟩)), (88, .int .i64 p_b.Age), (89, .bool r6), (90, .bool (!r6)), (113, .bool (((!r6) || (decide (p_b.Races ≤ (mgetD x3 y1.Who 0)))) || ((!decide ((swimmer_clubAt p_m y1.Who p_b.Day) = k_empty)) && (decide (p_b.Club ≤ (mgetD x2 (Gswimmer_place.mk (swimmer_clubAt p_m y1.Who p_b.Day) y1.Race) 0))))))] [true, false, false, true, true, true, true, true] rfl ⟨rfl, rfl, rfl, rfl, rfl, rfl, rfl, rfl, rfl, rfl, rfl, rfl, rfl, rfl, rfl, rfl, rfl, rfl, rfl, rfl, rfl, rfl, rfl, rfl, trivial⟩
          refine then_n ?_
          exact ⟨(((!r6) || (decide (p_b.Races ≤ (mgetD x3 y1.Who 0)))) || ((!decide ((swimmer_clubAt p_m y1.Who p_b.Day) = k_empty)) && (decide (p_b.Club ≤ (mgetD x2 (Gswimmer_place.mk (swimmer_clubAt p_m y1.Who p_b.Day) y1.Race) 0))))), h, S.nf [true, true, true, true, true, true] rfl ⟨rfl, rfl, rfl, rfl, rfl, rfl, rfl, rfl, rfl, rfl, rfl, rfl, rfl, rfl, trivial⟩⟩
       ·replace h := iteF h hb3
        rcases Bool.eq_false_or_eq_true (decide (1 < r3.1.Legs)) with hb19 | hb19
        ·replace h := iteT h hb19
         rcases Bool.eq_false_or_eq_true true with hb20 | hb20
         ·replace h := iteT h hb20
          refine d_region [] ([]) Tryz.mixed S rfl (by kernel_rfl) ?_; clear S; intro w49 hk44 hsel S
          refine d_rest [0, 1, 2, 3, 4, 5, 6, 7, 8, 9, 10, 11, 12, 13, 14, 15, 16, 17, 18, 19, 20, 21, 22, 23, 24, 25, 26, 27, 28, 29, 30, 31, 32, 33, 34, 35, 36, 37, 38, 39, 40, 41, 42] hsel (by kernel_rfl) rfl ?_
          clear hsel
          refine s_lv S rfl (rn_move (S.tm rfl)) rfl ?_; clear S; intro a S
          refine s_lv S rfl (rn_not (S.tm rfl)) rfl ?_; clear S; intro a S
          refine s_lv S rfl (rn_move (S.tm rfl)) rfl ?_; clear S; intro a S
          refine s_want S rfl rfl rfl rfl hb3 ?_
          refine s_lv0 S (rn_fld fa_52_4 (S.tm rfl)) rfl ?_; clear S; intro a S
          refine s_want S rfl rfl rfl rfl hb3 ?_
          refine s_lv0 S (rn_load Tryz.isAgg3 (S.tm rfl) (S.cell (i := 2) rfl rfl)) rfl ?_; clear S; intro a S
          refine s_want S rfl rfl rfl rfl hb3 ?_
          refine s_lv0 S (rn_gtr (S.tm rfl) rfl) rfl ?_; clear S; intro a S
          refine s_lv S rfl (rn_pick_c hb3 (S.tm rfl) (S.tm rfl)) rfl ?_; clear S; intro a S
          refine s_lv S rfl (rn_move (S.tm rfl)) rfl ?_; clear S; intro a S
          refine s_skip S rfl rfl rfl rfl (neq_t hb19) rfl ?_ rfl; clear S; intro a S
          refine s_skip S rfl rfl rfl rfl (neq_t hb19) rfl ?_ rfl; clear S; intro a S
          refine s_lv S rfl (rn_pick_b hb19 (S.tm rfl) rfl) rfl ?_; clear S; intro a S
          refine s_lv S rfl (rn_move (S.tm rfl)) rfl ?_; clear S; intro a S
          refine s_skip S rfl rfl rfl rfl (neq_t hb20) rfl ?_ rfl; clear S; intro a S
          refine s_skip S rfl rfl rfl rfl (neq_t hb20) rfl ?_ rfl; clear S; intro a S
          refine s_skip S rfl rfl rfl rfl (neq_t hb20) rfl ?_ rfl; clear S; intro a S
          refine s_skip S rfl rfl rfl rfl (neq_t hb20) rfl ?_ rfl; clear S; intro a S
          refine s_skip S rfl rfl rfl rfl (neq_t hb20) rfl ?_ rfl; clear S; intro a S
          refine s_skip S rfl rfl rfl rfl (neq_t hb20) rfl ?_ rfl; clear S; intro a S
          refine s_skip S rfl rfl rfl rfl (neq_t hb20) rfl ?_ rfl; clear S; intro a S
          refine s_skip S rfl rfl rfl rfl (neq_t hb20) rfl ?_ rfl; clear S; intro a S
          refine s_lv S rfl (rn_pick_b hb20 (S.tm rfl) rfl) rfl ?_; clear S; intro a S
          refine s_lv S rfl (rn_move (S.tm rfl)) rfl ?_; clear S; intro a S
          refine s_cutm 8 (fun a w' => Keep [] w49 w' ∧ Sx w [] nov [.blk b8 [.string (swimmer_clubAt p_m y1.Who p_b.Day), .string y1.Race] 92, .blk b7 [.string r4.1.Key, .int .i64 r4.1.Sex, .int .i64 r4.1.Born] 56, .blk b6 [.string r3.1.Key, .int .i64 r3.1.Metres, .int .i64 r3.1.Stroke, .int .i64 r3.1.Course, .int .i64 r3.1.Legs, .int .i64 r3.1.Sex, .int .i64 r3.1.Young, .int .i64 r3.1.Old] 52, .blk b5 [.string y1.Who, .string y1.Race] 45, .own v3 3 1 x1.length (x1.flatMap eInt), .map b3 (ments (fun x => Value.agg (Gswimmer_place.enc x).toArray) (Value.int .i64) x2) x2.length, .map b2 (ments Value.string (Value.int .i64) x3) x3.length, .blk b1 [.int .i64 p_b.Races, .int .i64 p_b.Club, .int .i64 p_b.Age, .int .i64 p_b.Day] 33] [(0, v_p_r), (1, v_p_s), (2, v_p_m), (8, .pointer (some ⟨b1, 0, none⟩)), (14, .map (some b2)), (15, .map (some b3)), (16, v3), (17, .int .i64 (i1 : Int)), (18, .pointer (some ⟨b5, 0, none⟩)), (23, .pointer (some ⟨b8, 0, none⟩)), (39, v_p_l), (40, .int .i64 (p_l.length : Int)), (41, .int .i64 (i1 : Int)), (74, .pointer (some ⟨b6, 4, none⟩)), (75, .int .i64 r3.1.Legs), (76, .bool (decide (1 < r3.1.Legs))), (79, undef), (80, undef), (83, undef), (84, undef), (85, undef), (86, undef), (87, undef), (88, undef), (89, undef), (90, undef), (100, .bool (true || (decide (p_b.Races ≤ (mgetD x3 y1.Who 0)))))] 131 a w') ?_ ?_
          ·rcases Bool.eq_false_or_eq_true true with hb21 | hb21
           ·refine s_skip S rfl rfl rfl rfl (neq_t hb21) rfl ?_ rfl; clear S; intro a S
            refine s_skip S rfl rfl rfl rfl (neq_t hb21) rfl ?_ rfl; clear S; intro a S
            refine s_skip S rfl rfl rfl rfl (neq_t hb21) rfl ?_ rfl; clear S; intro a S
            refine s_skip S rfl rfl rfl rfl (neq_t hb21) rfl ?_ rfl; clear S; intro a S
            refine s_skip S rfl rfl rfl rfl (neq_t hb21) rfl ?_ rfl; clear S; intro a S
            refine s_skip S rfl rfl rfl rfl (neq_t hb21) rfl ?_ rfl; clear S; intro a S
            refine s_skip S rfl rfl rfl rfl (neq_t hb21) rfl ?_ rfl; clear S; intro a S
            refine s_lv S rfl (rn_or_t (decide (p_b.Races ≤ (mgetD x3 y1.Who 0))) hb21 (S.tm rfl) rfl) rfl ?_; clear S; intro a S
            refine s_done ?_
            exact ⟨Keep.refl _ _, S.nf [true, true, true, true, true, true, true, true] rfl ⟨rfl, rfl, rfl, rfl, rfl, rfl, rfl, rfl, rfl, rfl, rfl, rfl, rfl, rfl, rfl, rfl, rfl, rfl, rfl, rfl, rfl, rfl, rfl, rfl, rfl, rfl, rfl, trivial⟩⟩
           ·refine s_want S rfl rfl rfl rfl hb21 ?_
            refine s_lv0 S (rn_move (S.tm rfl)) rfl ?_; clear S; intro a S
            refine s_want S rfl rfl rfl rfl hb21 ?_
            refine s_lv0 S (rn_fld fa_45_0 (S.tm rfl)) rfl ?_; clear S; intro a S
            refine s_want S rfl rfl rfl rfl hb21 ?_
            refine s_lv0 S (rn_load Tryz.isAgg9 (S.tm rfl) (S.cell (i := 3) rfl rfl)) rfl ?_; clear S; intro a S
            refine s_want S rfl rfl rfl rfl hb21 ?_
            refine s_lv0 S (rn_lookup (kv := Value.string) (vv := (Value.int .i64)) (m := x3) (key := y1.Who) (z := 0) (S.map_at (i := 6) rfl) Tryz.underlying84 (keyT_str Tryz.underlying9) Tryz.zeroValue3 (S.tm rfl) (S.tm rfl)) rfl ?_; clear S; intro a S
            refine s_want S rfl rfl rfl rfl hb21 ?_
            refine s_lv0 S (rn_fld fa_33_0 (S.tm rfl)) rfl ?_; clear S; intro a S
            refine s_want S rfl rfl rfl rfl hb21 ?_
            refine s_lv0 S (rn_load Tryz.isAgg3 (S.tm rfl) (S.cell (i := 7) rfl rfl)) rfl ?_; clear S; intro a S
            refine s_want S rfl rfl rfl rfl hb21 ?_
            refine s_lv0 S (rn_geq (S.tm rfl) (S.tm rfl)) rfl ?_; clear S; intro a S
            refine s_lv S rfl (rn_or_f hb21 (S.tm rfl) (S.tm rfl)) rfl ?_; clear S; intro a S
            refine s_done ?_
            exact ⟨Keep.refl _ _, S.nf [true, true, true, true, true, true, true, true] rfl ⟨rfl, rfl, rfl, rfl, rfl, rfl, rfl, rfl, rfl, rfl, rfl, rfl, rfl, rfl, rfl, rfl, rfl, rfl, rfl, rfl, rfl, rfl, rfl, rfl, rfl, rfl, rfl, trivial⟩⟩
          clear S; rintro a w50 ⟨hk45, S⟩
          refine s_lv S rfl (rn_move (S.tm rfl)) rfl ?_; clear S; intro a S
          refine s_cutm 12 (fun a w' => Keep [] w50 w' ∧ Sx w [] nov [.blk b8 [.string (swimmer_clubAt p_m y1.Who p_b.Day), .string y1.Race] 92, .blk b7 [.string r4.1.Key, .int .i64 r4.1.Sex, .int .i64 r4.1.Born] 56, .blk b6 [.string r3.1.Key, .int .i64 r3.1.Metres, .int .i64 r3.1.Stroke, .int .i64 r3.1.Course, .int .i64 r3.1.Legs, .int .i64 r3.1.Sex, .int .i64 r3.1.Young, .int .i64 r3.1.Old] 52, .blk b5 [.string y1.Who, .string y1.Race] 45, .own v3 3 1 x1.length (x1.flatMap eInt), .map b3 (ments (fun x => Value.agg (Gswimmer_place.enc x).toArray) (Value.int .i64) x2) x2.length, .map b2 (ments Value.string (Value.int .i64) x3) x3.length, .blk b1 [.int .i64 p_b.Races, .int .i64 p_b.Club, .int .i64 p_b.Age, .int .i64 p_b.Day] 33] [(0, v_p_r), (1, v_p_s), (2, v_p_m), (8, .pointer (some ⟨b1, 0, none⟩)), (14, .map (some b2)), (15, .map (some b3)), (16, v3), (17, .int .i64 (i1 : Int)), (18, .pointer (some ⟨b5, 0, none⟩)), (23, .pointer (some ⟨b8, 0, none⟩)), (39, v_p_l), (40, .int .i64 (p_l.length : Int)), (41, .int .i64 (i1 : Int)), (74, .pointer (some ⟨b6, 4, none⟩)), (75, .int .i64 r3.1.Legs), (76, .bool (decide (1 < r3.1.Legs))), (79, undef), (80, undef), (83, undef), (84, undef), (85, undef), (86, undef), (87, undef), (88, undef), (89, undef), (90, undef), (113, .bool ((true || (decide (p_b.Races ≤ (mgetD x3 y1.Who 0)))) || ((!decide ((swimmer_clubAt p_m y1.Who p_b.Day) = k_empty)) && (decide (p_b.Club ≤ (mgetD x2 (Gswimmer_place.mk (swimmer_clubAt p_m y1.Who p_b.Day) y1.Race) 0))))))] 131 a w') ?_ ?_
          ·rcases Bool.eq_false_or_eq_true (true || (decide (p_b.Races ≤ (mgetD x3 y1.Who 0)))) with hb22 | hb22
           ·refine s_skip S rfl rfl rfl rfl (neq_t hb22) rfl ?_ rfl; clear S; intro a S
            refine s_skip S rfl rfl rfl rfl (neq_t hb22) rfl ?_ rfl; clear S; intro a S
            refine s_skip S rfl rfl rfl rfl (neq_t hb22) rfl ?_ rfl; clear S; intro a S
            refine s_skip S rfl rfl rfl rfl (neq_t hb22) rfl ?_ rfl; clear S; intro a S
            refine s_skipU S rfl rfl rfl rfl rfl ?_; clear S; intro a S
            refine s_skipU S rfl rfl rfl rfl rfl ?_; clear S; intro a S
            refine s_skipU S rfl rfl rfl rfl rfl ?_; clear S; intro a S
            refine s_skipU S rfl rfl rfl rfl rfl ?_; clear S; intro a S
            refine s_skipU S rfl rfl rfl rfl rfl ?_; clear S; intro a S
            refine s_skipU S rfl rfl rfl rfl rfl ?_; clear S; intro a S
            refine s_skip S rfl rfl rfl rfl (neq_t hb22) rfl ?_ rfl; clear S; intro a S
            refine s_lv S rfl (rn_or_t ((!decide ((swimmer_clubAt p_m y1.Who p_b.Day) = k_empty)) && (decide (p_b.Club ≤ (mgetD x2 (Gswimmer_place.mk (swimmer_clubAt p_m y1.Who p_b.Day) y1.Race) 0)))) hb22 (S.tm rfl) rfl) rfl ?_; clear S; intro a S
            refine s_done ?_
            exact ⟨Keep.refl _ _, S.nf [true, true, true, true, true, true, true, true] rfl ⟨rfl, rfl, rfl, rfl, rfl, rfl, rfl, rfl, rfl, rfl, rfl, rfl, rfl, rfl, rfl, rfl, rfl, rfl, rfl, rfl, rfl, rfl, rfl, rfl, rfl, rfl, rfl, trivial⟩⟩
           ·refine s_want S rfl rfl rfl rfl hb22 ?_
            refine s_lv0 S (rn_fld fa_92_0 (S.tm rfl)) rfl ?_; clear S; intro a S
            refine s_want S rfl rfl rfl rfl hb22 ?_
            refine s_lv0 S (rn_load Tryz.isAgg9 (S.tm rfl) (S.cell (i := 0) rfl rfl)) rfl ?_; clear S; intro a S
            refine s_want S rfl rfl rfl rfl hb22 ?_
            refine s_lv0 S (rn_sneq (S.tm rfl) rfl) rfl ?_; clear S; intro a S
            refine s_want S rfl rfl rfl rfl hb22 ?_
            refine s_lv0 S (rn_move (S.tm rfl)) rfl ?_; clear S; intro a S
            refine s_cutm 7 (fun a w' => Keep [] w50 w' ∧ Sx w [] nov [.blk b8 [.string (swimmer_clubAt p_m y1.Who p_b.Day), .string y1.Race] 92, .blk b7 [.string r4.1.Key, .int .i64 r4.1.Sex, .int .i64 r4.1.Born] 56, .blk b6 [.string r3.1.Key, .int .i64 r3.1.Metres, .int .i64 r3.1.Stroke, .int .i64 r3.1.Course, .int .i64 r3.1.Legs, .int .i64 r3.1.Sex, .int .i64 r3.1.Young, .int .i64 r3.1.Old] 52, .blk b5 [.string y1.Who, .string y1.Race] 45, .own v3 3 1 x1.length (x1.flatMap eInt), .map b3 (ments (fun x => Value.agg (Gswimmer_place.enc x).toArray) (Value.int .i64) x2) x2.length, .map b2 (ments Value.string (Value.int .i64) x3) x3.length, .blk b1 [.int .i64 p_b.Races, .int .i64 p_b.Club, .int .i64 p_b.Age, .int .i64 p_b.Day] 33] [(0, v_p_r), (1, v_p_s), (2, v_p_m), (8, .pointer (some ⟨b1, 0, none⟩)), (14, .map (some b2)), (15, .map (some b3)), (16, v3), (17, .int .i64 (i1 : Int)), (18, .pointer (some ⟨b5, 0, none⟩)), (23, .pointer (some ⟨b8, 0, none⟩)), (39, v_p_l), (40, .int .i64 (p_l.length : Int)), (41, .int .i64 (i1 : Int)), (74, .pointer (some ⟨b6, 4, none⟩)), (75, .int .i64 r3.1.Legs), (76, .bool (decide (1 < r3.1.Legs))), (79, undef), (80, undef), (83, undef), (84, undef), (85, undef), (86, undef), (87, undef), (88, undef), (89, undef), (90, undef), (101, .bool (true || (decide (p_b.Races ≤ (mgetD x3 y1.Who 0))))), (102, .pointer (some ⟨b8, 0, none⟩)), (103, .string (swimmer_clubAt p_m y1.Who p_b.Day)), (104, .bool (!decide ((swimmer_clubAt p_m y1.Who p_b.Day) = k_empty))), (105, .bool (!decide ((swimmer_clubAt p_m y1.Who p_b.Day) = k_empty))), (112, .bool ((!decide ((swimmer_clubAt p_m y1.Who p_b.Day) = k_empty)) && (decide (p_b.Club ≤ (mgetD x2 (Gswimmer_place.mk (swimmer_clubAt p_m y1.Who p_b.Day) y1.Race) 0)))))] 131 a w') ?_ ?_
            ·rcases Bool.eq_false_or_eq_true (!decide ((swimmer_clubAt p_m y1.Who p_b.Day) = k_empty)) with hb23 | hb23
             ·refine s_want S rfl rfl rfl rfl hb23 ?_
              refine s_lv0 S (rn_move (S.tm rfl)) rfl ?_; clear S; intro a S
              refine s_want S rfl rfl rfl rfl hb23 ?_
              refine s_lv0 S (rn_ldA Tryz.isAgg92 Tryz.sizeOf92 (off := 0) (o := 0) (part := [.string (swimmer_clubAt p_m y1.Who p_b.Day), .string y1.Race]) rfl rfl (S.tm rfl) (S.cellsAt (i := 0) rfl)) rfl ?_; clear S; intro a S
              refine s_want S rfl rfl rfl rfl hb23 ?_
              refine s_lv0 S (rn_lookup (kv := (fun x => Value.agg (Gswimmer_place.enc x).toArray)) (vv := (Value.int .i64)) (m := x2) (key := (Gswimmer_place.mk (swimmer_clubAt p_m y1.Who p_b.Day) y1.Race)) (z := 0) (S.map_at (i := 5) rfl) Tryz.underlying85 keyT_92 Tryz.zeroValue3 (S.tm rfl) (S.tm rfl)) rfl ?_; clear S; intro a S
              refine s_want S rfl rfl rfl rfl hb23 ?_
              refine s_lv0 S (rn_fld fa_33_1 (S.tm rfl)) rfl ?_; clear S; intro a S
              refine s_want S rfl rfl rfl rfl hb23 ?_
              refine s_lv0 S (rn_load Tryz.isAgg3 (S.tm rfl) (S.cell (i := 7) rfl rfl)) rfl ?_; clear S; intro a S
              refine s_want S rfl rfl rfl rfl hb23 ?_
              refine s_lv0 S (rn_geq (S.tm rfl) (S.tm rfl)) rfl ?_; clear S; intro a S
              refine s_want S rfl rfl rfl rfl hb22 ?_
              refine s_lv0 S (rn_and_t hb23 (S.tm rfl) (S.tm rfl)) rfl ?_; clear S; intro a S
              refine s_done ?_
              exact ⟨Keep.refl _ _, S.nf [true, true, true, true, true, true, true, true] rfl ⟨rfl, rfl, rfl, rfl, rfl, rfl, rfl, rfl, rfl, rfl, rfl, rfl, rfl, rfl, rfl, rfl, rfl, rfl, rfl, rfl, rfl, rfl, rfl, rfl, rfl, rfl, rfl, rfl, rfl, rfl, rfl, rfl, trivial⟩⟩
             ·refine s_skip S rfl rfl rfl rfl (neq_f hb23) rfl ?_ rfl; clear S; intro a S
              refine s_skip S rfl rfl rfl rfl (neq_f hb23) rfl ?_ rfl; clear S; intro a S
              refine s_skip S rfl rfl rfl rfl (neq_f hb23) rfl ?_ rfl; clear S; intro a S
              refine s_skip S rfl rfl rfl rfl (neq_f hb23) rfl ?_ rfl; clear S; intro a S
              refine s_skip S rfl rfl rfl rfl (neq_f hb23) rfl ?_ rfl; clear S; intro a S
              refine s_skip S rfl rfl rfl rfl (neq_f hb23) rfl ?_ rfl; clear S; intro a S
              refine s_want S rfl rfl rfl rfl hb22 ?_
              refine s_lv0 S (rn_and_f (decide (p_b.Club ≤ (mgetD x2 (Gswimmer_place.mk (swimmer_clubAt p_m y1.Who p_b.Day) y1.Race) 0))) hb23 (S.tm rfl) rfl) rfl ?_; clear S; intro a S
              refine s_done ?_
              exact ⟨Keep.refl _ _, S.nf [true, true, true, true, true, true, true, true] rfl ⟨rfl, rfl, rfl, rfl, rfl, rfl, rfl, rfl, rfl, rfl, rfl, rfl, rfl, rfl, rfl, rfl, rfl, rfl, rfl, rfl, rfl, rfl, rfl, rfl, rfl, rfl, rfl, rfl, rfl, rfl, rfl, rfl, trivial⟩⟩
            clear S; rintro a w52 ⟨hk46, S⟩
            refine s_lv S rfl (rn_or_f hb22 (S.tm rfl) (S.tm rfl)) rfl ?_; clear S; intro a S
            refine s_done ?_
            exact ⟨hk46, S.nf [true, true, true, true, true, true, true, true] rfl ⟨rfl, rfl, rfl, rfl, rfl, rfl, rfl, rfl, rfl, rfl, rfl, rfl, rfl, rfl, rfl, rfl, rfl, rfl, rfl, rfl, rfl, rfl, rfl, rfl, rfl, rfl, rfl, trivial⟩⟩
          clear S; rintro a w51 ⟨hk47, S⟩
          refine s_done ?_
          replace S := S.nk [.blk b8 [.string (swimmer_clubAt p_m y1.Who p_b.Day), .string y1.Race] 92, .blk b6 [.string r3.1.Key, .int .i64 r3.1.Metres, .int .i64 r3.1.Stroke, .int .i64 r3.1.Course, .int .i64 r3.1.Legs, .int .i64 r3.1.Sex, .int .i64 r3.1.Young, .int .i64 r3.1.Old] 52, .blk b5 [.string y1.Who, .string y1.Race] 45, .own v3 3 1 x1.length (x1.flatMap eInt), .map b3 (ments (fun x => Value.agg (Gswimmer_place.enc x).toArray) (Value.int .i64) x2) x2.length, .map b2 (ments Value.string (Value.int .i64) x3) x3.length, .blk b1 [.int .i64 p_b.Races, .int .i64 p_b.Club, .int .i64 p_b.Age, .int .i64 p_b.Day] 33] [(0, v_p_r), (1, v_p_s), (2, v_p_m), (8, .pointer (some ⟨b1, 0, none⟩)), (14, .map (some b2)), (15, .map (some b3)), (16, v3), (17, .int .i64 (i1 : Int)), (18, .pointer (some ⟨b5, 0, none⟩)), (23, .pointer (some ⟨b8, 0, none⟩)), (39, v_p_l), (40, .int .i64 (p_l.length : Int)), (41, .int .i64 (i1 : Int)), (74, .pointer (some ⟨b6, 4, none⟩)), (75, .int .i64 r3.1.Legs), (76, .bool (decide (1 < r3.1.Legs))), (113, .bool ((true || (decide (p_b.Races ≤ (mgetD x3 y1.Who 0)))) || ((!decide ((swimmer_clubAt p_m y1.Who p_b.Day) = k_empty)) && (decide (p_b.Club ≤ (mgetD x2 (Gswimmer_place.mk (swimmer_clubAt p_m y1.Who p_b.Day) y1.Race) 0))))))] [true, false, true, true, true, true, true, true] rfl ⟨rfl, rfl, rfl, rfl, rfl, rfl, rfl, rfl, rfl, rfl, rfl, rfl, rfl, rfl, rfl, rfl, rfl, trivial⟩
          refine then_n ?_
          exact ⟨((true || (decide (p_b.Races ≤ (mgetD x3 y1.Who 0)))) || ((!decide ((swimmer_clubAt p_m y1.Who p_b.Day) = k_empty)) && (decide (p_b.Club ≤ (mgetD x2 (Gswimmer_place.mk (swimmer_clubAt p_m y1.Who p_b.Day) y1.Race) 0))))), h, S.nf [true, false, true, true, true, true, true] rfl ⟨rfl, rfl, rfl, rfl, rfl, rfl, rfl, rfl, rfl, rfl, rfl, rfl, rfl, rfl, trivial⟩⟩
         ·replace h := iteF h hb20
          obtain ⟨r7, hr8, h⟩ := bindE h
          refine d_region [] ([]) Tryz.mixed S rfl (by kernel_rfl) ?_; clear S; intro w54 hk49 hsel S
          refine d_quiet 0 S hsel rfl rfl rfl (by kernel_rfl) (by kernel_rfl) rfl (fun _ hw => (rn_move (S.tm rfl))) ?_; clear S; intro a S
          refine d_quiet 1 S hsel rfl rfl rfl (by kernel_rfl) (by kernel_rfl) rfl (fun _ hw => (rn_not (S.tm rfl))) ?_; clear S; intro a S
          refine d_quiet 2 S hsel rfl rfl rfl (by kernel_rfl) (by kernel_rfl) rfl (fun _ hw => (rn_move (S.tm rfl))) ?_; clear S; intro a S
          refine d_quiet_g 3 S hsel rfl rfl rfl rfl hb3 rfl rfl (by kernel_rfl) (by kernel_rfl) rfl (fun _ hw => (rn_fld fa_52_4 (S.tm rfl))) ?_; clear S; intro a S
          refine d_quiet_g 4 S hsel rfl rfl rfl rfl hb3 rfl rfl (by kernel_rfl) (by kernel_rfl) rfl (fun _ hw => (rn_ld Tryz.isAgg3 (off := 0) (o := 4) (S.tm rfl) ((S.blk_mem (i := 2) (cells := [.string r3.1.Key, .int .i64 r3.1.Metres, .int .i64 r3.1.Stroke, .int .i64 r3.1.Course, .int .i64 r3.1.Legs, .int .i64 r3.1.Sex, .int .i64 r3.1.Young, .int .i64 r3.1.Old]) (b := b6) (T := 52) rfl (ne_nil (e' := .blk b6 [.string r3.1.Key, .int .i64 r3.1.Metres, .int .i64 r3.1.Stroke, .int .i64 r3.1.Course, .int .i64 r3.1.Legs, .int .i64 r3.1.Sex, .int .i64 r3.1.Young, .int .i64 r3.1.Old] 52))).kept hw) rfl)) ?_; clear S; intro a S
          refine d_quiet_g 5 S hsel rfl rfl rfl rfl hb3 rfl rfl (by kernel_rfl) (by kernel_rfl) rfl (fun _ hw => (rn_gtr (S.tm rfl) rfl)) ?_; clear S; intro a S
          refine d_quiet 6 S hsel rfl rfl rfl (by kernel_rfl) (by kernel_rfl) rfl (fun _ hw => (rn_pick_c hb3 (S.tm rfl) (S.tm rfl))) ?_; clear S; intro a S
          refine d_quiet 7 S hsel rfl rfl rfl (by kernel_rfl) (by kernel_rfl) rfl (fun _ hw => (rn_move (S.tm rfl))) ?_; clear S; intro a S
          refine d_skip 8 S hsel rfl rfl rfl rfl (neq_t hb19) rfl (by kernel_rfl) (by kernel_rfl) rfl ?_; clear S; intro a S
          refine d_skip 9 S hsel rfl rfl rfl rfl (neq_t hb19) rfl (by kernel_rfl) (by kernel_rfl) rfl ?_; clear S; intro a S
          refine d_quiet 10 S hsel rfl rfl rfl (by kernel_rfl) (by kernel_rfl) rfl (fun _ hw => (rn_pick_b hb19 (S.tm rfl) rfl)) ?_; clear S; intro a S
          refine d_quiet 11 S hsel rfl rfl rfl (by kernel_rfl) (by kernel_rfl) rfl (fun _ hw => (rn_move (S.tm rfl))) ?_; clear S; intro a S
          refine d_quiet_g 12 S hsel rfl rfl rfl rfl hb20 rfl rfl (by kernel_rfl) (by kernel_rfl) rfl (fun _ hw => (rn_ldA Tryz.isAgg52 Tryz.sizeOf52 (off := 0) (o := 0) (part := [.string r3.1.Key, .int .i64 r3.1.Metres, .int .i64 r3.1.Stroke, .int .i64 r3.1.Course, .int .i64 r3.1.Legs, .int .i64 r3.1.Sex, .int .i64 r3.1.Young, .int .i64 r3.1.Old]) rfl rfl (S.tm rfl) ((S.blk_mem (i := 2) (cells := [.string r3.1.Key, .int .i64 r3.1.Metres, .int .i64 r3.1.Stroke, .int .i64 r3.1.Course, .int .i64 r3.1.Legs, .int .i64 r3.1.Sex, .int .i64 r3.1.Young, .int .i64 r3.1.Old]) (b := b6) (T := 52) rfl (ne_nil (e' := .blk b6 [.string r3.1.Key, .int .i64 r3.1.Metres, .int .i64 r3.1.Stroke, .int .i64 r3.1.Course, .int .i64 r3.1.Legs, .int .i64 r3.1.Sex, .int .i64 r3.1.Young, .int .i64 r3.1.Old] 52))).kept hw))) ?_; clear S; intro a S
          refine d_quiet_g 13 S hsel rfl rfl rfl rfl hb20 rfl rfl (by kernel_rfl) (by kernel_rfl) rfl (fun _ hw => (rn_ldA Tryz.isAgg56 Tryz.sizeOf56 (off := 0) (o := 0) (part := [.string r4.1.Key, .int .i64 r4.1.Sex, .int .i64 r4.1.Born]) rfl rfl (S.tm rfl) ((S.blk_mem (i := 1) (cells := [.string r4.1.Key, .int .i64 r4.1.Sex, .int .i64 r4.1.Born]) (b := b7) (T := 56) rfl (ne_nil (e' := .blk b7 [.string r4.1.Key, .int .i64 r4.1.Sex, .int .i64 r4.1.Born] 56))).kept hw))) ?_; clear S; intro a S
          refine d_quiet_g 14 S hsel rfl rfl rfl rfl hb20 rfl rfl (by kernel_rfl) (by kernel_rfl) rfl (fun _ hw => (rn_fld fa_33_3 (S.tm rfl))) ?_; clear S; intro a S
          refine d_quiet_g 15 S hsel rfl rfl rfl rfl hb20 rfl rfl (by kernel_rfl) (by kernel_rfl) rfl (fun _ hw => (rn_ld Tryz.isAgg3 (off := 0) (o := 3) (S.tm rfl) ((S.blk_mem (i := 7) (cells := [.int .i64 p_b.Races, .int .i64 p_b.Club, .int .i64 p_b.Age, .int .i64 p_b.Day]) (b := b1) (T := 33) rfl (ne_nil (e' := .blk b1 [.int .i64 p_b.Races, .int .i64 p_b.Club, .int .i64 p_b.Age, .int .i64 p_b.Day] 33))).kept hw) rfl)) ?_; clear S; intro a S
          refine d_quiet_g 16 S hsel rfl rfl rfl rfl hb20 rfl rfl (by kernel_rfl) (by kernel_rfl) rfl (fun _ hw => (rn_fld fa_33_2 (S.tm rfl))) ?_; clear S; intro a S
          refine d_quiet_g 17 S hsel rfl rfl rfl rfl hb20 rfl rfl (by kernel_rfl) (by kernel_rfl) rfl (fun _ hw => (rn_ld Tryz.isAgg3 (off := 0) (o := 2) (S.tm rfl) ((S.blk_mem (i := 7) (cells := [.int .i64 p_b.Races, .int .i64 p_b.Club, .int .i64 p_b.Age, .int .i64 p_b.Day]) (b := b1) (T := 33) rfl (ne_nil (e' := .blk b1 [.int .i64 p_b.Races, .int .i64 p_b.Club, .int .i64 p_b.Age, .int .i64 p_b.Day] 33))).kept hw) rfl)) ?_; clear S; intro a S
          refine d_loud1 18 (by kernel_rfl) rfl ?_
          refine l_want S rfl rfl rfl hb20 ?_
          refine l_enter S (fun _ => run_call (vs := [.agg (GRace.enc r3.1).toArray, .agg (GSwimmer.enc r4.1).toArray, .int .i64 p_b.Day, .int .i64 p_b.Age]) ⟨(S.tm rfl), (S.tm rfl), (S.tm rfl), (S.tm rfl), trivial⟩ Tryz.call35) (swimmer_may_ok _ r3.1 r4.1 p_b.Day p_b.Age _ hr8) rfl ?_; clear S; intro v15 a w55 hv13 hk50 hn13 S
          subst hv13
          refine l_done ?_
          refine d_next hk50 ?_
          refine d_rest [19, 20, 21, 22, 23, 24, 25, 26, 27, 28, 29, 30, 31, 32, 33, 34, 35, 36, 37, 38, 39, 40, 41, 42] hsel (by kernel_rfl) rfl ?_
          clear hsel
          refine s_want S rfl rfl rfl rfl hb20 ?_
          refine s_lv0 S (rn_not (S.tm rfl)) rfl ?_; clear S; intro a S
          refine s_lv S rfl (rn_pick_c hb20 (S.tm rfl) (S.tm rfl)) rfl ?_; clear S; intro a S
          refine s_lv S rfl (rn_move (S.tm rfl)) rfl ?_; clear S; intro a S
          refine s_cutm 8 (fun a w' => Keep [] w55 w' ∧ Sx w [] nov [.blk b8 [.string (swimmer_clubAt p_m y1.Who p_b.Day), .string y1.Race] 92, .blk b7 [.string r4.1.Key, .int .i64 r4.1.Sex, .int .i64 r4.1.Born] 56, .blk b6 [.string r3.1.Key, .int .i64 r3.1.Metres, .int .i64 r3.1.Stroke, .int .i64 r3.1.Course, .int .i64 r3.1.Legs, .int .i64 r3.1.Sex, .int .i64 r3.1.Young, .int .i64 r3.1.Old] 52, .blk b5 [.string y1.Who, .string y1.Race] 45, .own v3 3 1 x1.length (x1.flatMap eInt), .map b3 (ments (fun x => Value.agg (Gswimmer_place.enc x).toArray) (Value.int .i64) x2) x2.length, .map b2 (ments Value.string (Value.int .i64) x3) x3.length, .blk b1 [.int .i64 p_b.Races, .int .i64 p_b.Club, .int .i64 p_b.Age, .int .i64 p_b.Day] 33] [(0, v_p_r), (1, v_p_s), (2, v_p_m), (8, .pointer (some ⟨b1, 0, none⟩)), (14, .map (some b2)), (15, .map (some b3)), (16, v3), (17, .int .i64 (i1 : Int)), (18, .pointer (some ⟨b5, 0, none⟩)), (23, .pointer (some ⟨b8, 0, none⟩)), (39, v_p_l), (40, .int .i64 (p_l.length : Int)), (41, .int .i64 (i1 : Int)), (74, .pointer (some ⟨b6, 4, none⟩)), (75, .int .i64 r3.1.Legs), (76, .bool (decide (1 < r3.1.Legs))), (79, undef), (80, undef), (83, .agg #[.string r3.1.Key, .int .i64 r3.1.Metres, .int .i64 r3.1.Stroke, .int .i64 r3.1.Course, .int .i64 r3.1.Legs, .int .i64 r3.1.Sex, .int .i64 r3.1.Young, .int .i64 r3.1.Old]), (84, .agg #[.string r4.1.Key, .int .i64 r4.1.Sex, .int .i64 r4.1.Born]), (85, .pointer (some ⟨b1, 3, none⟩)), (86, .int .i64 p_b.Day), (87, .pointer (some ⟨b1, 2, none⟩)), (88, .int .i64 p_b.Age), (89, .bool r7), (90, .bool (!r7)), (100, .bool ((!r7) || (decide (p_b.Races ≤ (mgetD x3 y1.Who 0)))))] 131 a w') ?_ ?_
          ·rcases Bool.eq_false_or_eq_true (!r7) with hb24 | hb24
           ·refine s_skip S rfl rfl rfl rfl (neq_t hb24) rfl ?_ rfl; clear S; intro a S
            refine s_skip S rfl rfl rfl rfl (neq_t hb24) rfl ?_ rfl; clear S; intro a S
            refine s_skip S rfl rfl rfl rfl (neq_t hb24) rfl ?_ rfl; clear S; intro a S
            refine s_skip S rfl rfl rfl rfl (neq_t hb24) rfl ?_ rfl; clear S; intro a S
            refine s_skip S rfl rfl rfl rfl (neq_t hb24) rfl ?_ rfl; clear S; intro a S
            refine s_skip S rfl rfl rfl rfl (neq_t hb24) rfl ?_ rfl; clear S; intro a S
            refine s_skip S rfl rfl rfl rfl (neq_t hb24) rfl ?_ rfl; clear S; intro a S
            refine s_lv S rfl (rn_or_t (decide (p_b.Races ≤ (mgetD x3 y1.Who 0))) hb24 (S.tm rfl) rfl) rfl ?_; clear S; intro a S
            refine s_done ?_
            exact ⟨Keep.refl _ _, S.nf [true, true, true, true, true, true, true, true] rfl ⟨rfl, rfl, rfl, rfl, rfl, rfl, rfl, rfl, rfl, rfl, rfl, rfl, rfl, rfl, rfl, rfl, rfl, rfl, rfl, rfl, rfl, rfl, rfl, rfl, rfl, rfl, rfl, trivial⟩⟩
           ·refine s_want S rfl rfl rfl rfl hb24 ?_
            refine s_lv0 S (rn_move (S.tm rfl)) rfl ?_; clear S; intro a S
            refine s_want S rfl rfl rfl rfl hb24 ?_
            refine s_lv0 S (rn_fld fa_45_0 (S.tm rfl)) rfl ?_; clear S; intro a S
            refine s_want S rfl rfl rfl rfl hb24 ?_
            refine s_lv0 S (rn_load Tryz.isAgg9 (S.tm rfl) (S.cell (i := 3) rfl rfl)) rfl ?_; clear S; intro a S
            refine s_want S rfl rfl rfl rfl hb24 ?_
            refine s_lv0 S (rn_lookup (kv := Value.string) (vv := (Value.int .i64)) (m := x3) (key := y1.Who) (z := 0) (S.map_at (i := 6) rfl) Tryz.underlying84 (keyT_str Tryz.underlying9) Tryz.zeroValue3 (S.tm rfl) (S.tm rfl)) rfl ?_; clear S; intro a S
            refine s_want S rfl rfl rfl rfl hb24 ?_
            refine s_lv0 S (rn_fld fa_33_0 (S.tm rfl)) rfl ?_; clear S; intro a S
            refine s_want S rfl rfl rfl rfl hb24 ?_
            refine s_lv0 S (rn_load Tryz.isAgg3 (S.tm rfl) (S.cell (i := 7) rfl rfl)) rfl ?_; clear S; intro a S
            refine s_want S rfl rfl rfl rfl hb24 ?_
            refine s_lv0 S (rn_geq (S.tm rfl) (S.tm rfl)) rfl ?_; clear S; intro a S
            refine s_lv S rfl (rn_or_f hb24 (S.tm rfl) (S.tm rfl)) rfl ?_; clear S; intro a S
            refine s_done ?_
            exact ⟨Keep.refl _ _, S.nf [true, true, true, true, true, true, true, true] rfl ⟨rfl, rfl, rfl, rfl, rfl, rfl, rfl, rfl, rfl, rfl, rfl, rfl, rfl, rfl, rfl, rfl, rfl, rfl, rfl, rfl, rfl, rfl, rfl, rfl, rfl, rfl, rfl, trivial⟩⟩
          clear S; rintro a w56 ⟨hk51, S⟩
          refine s_lv S rfl (rn_move (S.tm rfl)) rfl ?_; clear S; intro a S
          refine s_cutm 12 (fun a w' => Keep [] w56 w' ∧ Sx w [] nov [.blk b8 [.string (swimmer_clubAt p_m y1.Who p_b.Day), .string y1.Race] 92, .blk b7 [.string r4.1.Key, .int .i64 r4.1.Sex, .int .i64 r4.1.Born] 56, .blk b6 [.string r3.1.Key, .int .i64 r3.1.Metres, .int .i64 r3.1.Stroke, .int .i64 r3.1.Course, .int .i64 r3.1.Legs, .int .i64 r3.1.Sex, .int .i64 r3.1.Young, .int .i64 r3.1.Old] 52, .blk b5 [.string y1.Who, .string y1.Race] 45, .own v3 3 1 x1.length (x1.flatMap eInt), .map b3 (ments (fun x => Value.agg (Gswimmer_place.enc x).toArray) (Value.int .i64) x2) x2.length, .map b2 (ments Value.string (Value.int .i64) x3) x3.length, .blk b1 [.int .i64 p_b.Races, .int .i64 p_b.Club, .int .i64 p_b.Age, .int .i64 p_b.Day] 33] [(0, v_p_r), (1, v_p_s), (2, v_p_m), (8, .pointer (some ⟨b1, 0, none⟩)), (14, .map (some b2)), (15, .map (some b3)), (16, v3), (17, .int .i64 (i1 : Int)), (18, .pointer (some ⟨b5, 0, none⟩)), (23, .pointer (some ⟨b8, 0, none⟩)), (39, v_p_l), (40, .int .i64 (p_l.length : Int)), (41, .int .i64 (i1 : Int)), (74, .pointer (some ⟨b6, 4, none⟩)), (75, .int .i64 r3.1.Legs), (76, .bool (decide (1 < r3.1.Legs))), (79, undef), (80, undef), (83, .agg #[.string r3.1.Key, .int .i64 r3.1.Metres, .int .i64 r3.1.Stroke, .int .i64 r3.1.Course, .int .i64 r3.1.Legs, .int .i64 r3.1.Sex, .int .i64 r3.1.Young, .int .i64 r3.1.Old]), (84, .agg #[.string r4.1.Key, .int .i64 r4.1.Sex, .int .i64 r4.1.Born]), (85, .pointer (some ⟨b1, 3, none⟩)), (86, .int .i64 p_b.Day), (87, .pointer (some ⟨b1, 2, none⟩)), (88, .int .i64 p_b.Age), (89, .bool r7), (90, .bool (!r7)), (113, .bool (((!r7) || (decide (p_b.Races ≤ (mgetD x3 y1.Who 0)))) || ((!decide ((swimmer_clubAt p_m y1.Who p_b.Day) = k_empty)) && (decide (p_b.Club ≤ (mgetD x2 (Gswimmer_place.mk (swimmer_clubAt p_m y1.Who p_b.Day) y1.Race) 0))))))] 131 a w') ?_ ?_
          ·rcases Bool.eq_false_or_eq_true ((!r7) || (decide (p_b.Races ≤ (mgetD x3 y1.Who 0)))) with hb25 | hb25
           ·refine s_skip S rfl rfl rfl rfl (neq_t hb25) rfl ?_ rfl; clear S; intro a S
            refine s_skip S rfl rfl rfl rfl (neq_t hb25) rfl ?_ rfl; clear S; intro a S
            refine s_skip S rfl rfl rfl rfl (neq_t hb25) rfl ?_ rfl; clear S; intro a S
            refine s_skip S rfl rfl rfl rfl (neq_t hb25) rfl ?_ rfl; clear S; intro a S
            refine s_skipU S rfl rfl rfl rfl rfl ?_; clear S; intro a S
            refine s_skipU S rfl rfl rfl rfl rfl ?_; clear S; intro a S
            refine s_skipU S rfl rfl rfl rfl rfl ?_; clear S; intro a S
            refine s_skipU S rfl rfl rfl rfl rfl ?_; clear S; intro a S
            refine s_skipU S rfl rfl rfl rfl rfl ?_; clear S; intro a S
            refine s_skipU S rfl rfl rfl rfl rfl ?_; clear S; intro a S
            refine s_skip S rfl rfl rfl rfl (neq_t hb25) rfl ?_ rfl; clear S; intro a S
            refine s_lv S rfl (rn_or_t ((!decide ((swimmer_clubAt p_m y1.Who p_b.Day) = k_empty)) && (decide (p_b.Club ≤ (mgetD x2 (Gswimmer_place.mk (swimmer_clubAt p_m y1.Who p_b.Day) y1.Race) 0)))) hb25 (S.tm rfl) rfl) rfl ?_; clear S; intro a S
            refine s_done ?_
            exact ⟨Keep.refl _ _, S.nf [true, true, true, true, true, true, true, true] rfl ⟨rfl, rfl, rfl, rfl, rfl, rfl, rfl, rfl, rfl, rfl, rfl, rfl, rfl, rfl, rfl, rfl, rfl, rfl, rfl, rfl, rfl, rfl, rfl, rfl, rfl, rfl, rfl, trivial⟩⟩
           ·refine s_want S rfl rfl rfl rfl hb25 ?_
            refine s_lv0 S (rn_fld fa_92_0 (S.tm rfl)) rfl ?_; clear S; intro a S
            refine s_want S rfl rfl rfl rfl hb25 ?_
            refine s_lv0 S (rn_load Tryz.isAgg9 (S.tm rfl) (S.cell (i := 0) rfl rfl)) rfl ?_; clear S; intro a S
            refine s_want S rfl rfl rfl rfl hb25 ?_
            refine s_lv0 S (rn_sneq (S.tm rfl) rfl) rfl ?_; clear S; intro a S
            refine s_want S rfl rfl rfl rfl hb25 ?_
            refine s_lv0 S (rn_move (S.tm rfl)) rfl ?_; clear S; intro a S
            refine s_cutm 7 (fun a w' => Keep [] w56 w' ∧ Sx w [] nov [.blk b8 [.string (swimmer_clubAt p_m y1.Who p_b.Day), .string y1.Race] 92, .blk b7 [.string r4.1.Key, .int .i64 r4.1.Sex, .int .i64 r4.1.Born] 56, .blk b6 [.string r3.1.Key, .int .i64 r3.1.Metres, .int .i64 r3.1.Stroke, .int .i64 r3.1.Course, .int .i64 r3.1.Legs, .int .i64 r3.1.Sex, .int .i64 r3.1.Young, .int .i64 r3.1.Old] 52, .blk b5 [.string y1.Who, .string y1.Race] 45, .own v3 3 1 x1.length (x1.flatMap eInt), .map b3 (ments (fun x => Value.agg (Gswimmer_place.enc x).toArray) (Value.int .i64) x2) x2.length, .map b2 (ments Value.string (Value.int .i64) x3) x3.length, .blk b1 [.int .i64 p_b.Races, .int .i64 p_b.Club, .int .i64 p_b.Age, .int .i64 p_b.Day] 33] [(0, v_p_r), (1, v_p_s), (2, v_p_m), (8, .pointer (some ⟨b1, 0, none⟩)), (14, .map (some b2)), (15, .map (some b3)), (16, v3), (17, .int .i64 (i1 : Int)), (18, .pointer (some ⟨b5, 0, none⟩)), (23, .pointer (some ⟨b8, 0, none⟩)), (39, v_p_l), (40, .int .i64 (p_l.length : Int)), (41, .int .i64 (i1 : Int)), (74, .pointer (some ⟨b6, 4, none⟩)), (75, .int .i64 r3.1.Legs), (76, .bool (decide (1 < r3.1.Legs))), (79, undef), (80, undef), (83, .agg #[.string r3.1.Key, .int .i64 r3.1.Metres, .int .i64 r3.1.Stroke, .int .i64 r3.1.Course, .int .i64 r3.1.Legs, .int .i64 r3.1.Sex, .int .i64 r3.1.Young, .int .i64 r3.1.Old]), (84, .agg #[.string r4.1.Key, .int .i64 r4.1.Sex, .int .i64 r4.1.Born]), (85, .pointer (some ⟨b1, 3, none⟩)), (86, .int .i64 p_b.Day), (87, .pointer (some ⟨b1, 2, none⟩)), (88, .int .i64 p_b.Age), (89, .bool r7), (90, .bool (!r7)), (101, .bool ((!r7) || (decide (p_b.Races ≤ (mgetD x3 y1.Who 0))))), (102, .pointer (some ⟨b8, 0, none⟩)), (103, .string (swimmer_clubAt p_m y1.Who p_b.Day)), (104, .bool (!decide ((swimmer_clubAt p_m y1.Who p_b.Day) = k_empty))), (105, .bool (!decide ((swimmer_clubAt p_m y1.Who p_b.Day) = k_empty))), (112, .bool ((!decide ((swimmer_clubAt p_m y1.Who p_b.Day) = k_empty)) && (decide (p_b.Club ≤ (mgetD x2 (Gswimmer_place.mk (swimmer_clubAt p_m y1.Who p_b.Day) y1.Race) 0)))))] 131 a w') ?_ ?_
            ·rcases Bool.eq_false_or_eq_true (!decide ((swimmer_clubAt p_m y1.Who p_b.Day) = k_empty)) with hb26 | hb26
             ·refine s_want S rfl rfl rfl rfl hb26 ?_
              refine s_lv0 S (rn_move (S.tm rfl)) rfl ?_; clear S; intro a S
              refine s_want S rfl rfl rfl rfl hb26 ?_
              refine s_lv0 S (rn_ldA Tryz.isAgg92 Tryz.sizeOf92 (off := 0) (o := 0) (part := [.string (swimmer_clubAt p_m y1.Who p_b.Day), .string y1.Race]) rfl rfl (S.tm rfl) (S.cellsAt (i := 0) rfl)) rfl ?_; clear S; intro a S
              refine s_want S rfl rfl rfl rfl hb26 ?_
              refine s_lv0 S (rn_lookup (kv := (fun x => Value.agg (Gswimmer_place.enc x).toArray)) (vv := (Value.int .i64)) (m := x2) (key := (Gswimmer_place.mk (swimmer_clubAt p_m y1.Who p_b.Day) y1.Race)) (z := 0) (S.map_at (i := 5) rfl) Tryz.underlying85 keyT_92 Tryz.zeroValue3 (S.tm rfl) (S.tm rfl)) rfl ?_; clear S; intro a S
              refine s_want S rfl rfl rfl rfl hb26 ?_
              refine s_lv0 S (rn_fld fa_33_1 (S.tm rfl)) rfl ?_; clear S; intro a S
              refine s_want S rfl rfl rfl rfl hb26 ?_
              refine s_lv0 S (rn_load Tryz.isAgg3 (S.tm rfl) (S.cell (i := 7) rfl rfl)) rfl ?_; clear S; intro a S
              refine s_want S rfl rfl rfl rfl hb26 ?_
              refine s_lv0 S (rn_geq (S.tm rfl) (S.tm rfl)) rfl ?_; clear S; intro a S
              refine s_want S rfl rfl rfl rfl hb25 ?_
              refine s_lv0 S (rn_and_t hb26 (S.tm rfl) (S.tm rfl)) rfl ?_; clear S; intro a S
              refine s_done ?_
              exact ⟨Keep.refl _ _, S.nf [true, true, true, true, true, true, true, true] rfl ⟨rfl, rfl, rfl, rfl, rfl, rfl, rfl, rfl, rfl, rfl, rfl, rfl, rfl, rfl, rfl, rfl, rfl, rfl, rfl, rfl, rfl, rfl, rfl, rfl, rfl, rfl, rfl, rfl, rfl, rfl, rfl, rfl, trivial⟩⟩
             ·refine s_skip S rfl rfl rfl rfl (neq_f hb26) rfl ?_ rfl; clear S; intro a S
              refine s_skip S rfl rfl rfl rfl (neq_f hb26) rfl ?_ rfl; clear S; intro a S
              refine s_skip S rfl rfl rfl rfl (neq_f hb26) rfl ?_ rfl; clear S; intro a S
              refine s_skip S rfl rfl rfl rfl (neq_f hb26) rfl ?_ rfl; clear S; intro a S
              refine s_skip S rfl rfl rfl rfl (neq_f hb26) rfl ?_ rfl; clear S; intro a S
              refine s_skip S rfl rfl rfl rfl (neq_f hb26) rfl ?_ rfl; clear S; intro a S
              refine s_want S rfl rfl rfl rfl hb25 ?_
              refine s_lv0 S (rn_and_f (decide (p_b.Club ≤ (mgetD x2 (Gswimmer_place.mk (swimmer_clubAt p_m y1.Who p_b.Day) y1.Race) 0))) hb26 (S.tm rfl) rfl) rfl ?_; clear S; intro a S
              refine s_done ?_
              exact ⟨Keep.refl _ _, S.nf [true, true, true, true, true, true, true, true] rfl ⟨rfl, rfl, rfl, rfl, rfl, rfl, rfl, rfl, rfl, rfl, rfl, rfl, rfl, rfl, rfl, rfl, rfl, rfl, rfl, rfl, rfl, rfl, rfl, rfl, rfl, rfl, rfl, rfl, rfl, rfl, rfl, rfl, trivial⟩⟩
            clear S; rintro a w58 ⟨hk52, S⟩
            refine s_lv S rfl (rn_or_f hb25 (S.tm rfl) (S.tm rfl)) rfl ?_; clear S; intro a S
            refine s_done ?_
            exact ⟨hk52, S.nf [true, true, true, true, true, true, true, true] rfl ⟨rfl, rfl, rfl, rfl, rfl, rfl, rfl, rfl, rfl, rfl, rfl, rfl, rfl, rfl, rfl, rfl, rfl, rfl, rfl, rfl, rfl, rfl, rfl, rfl, rfl, rfl, rfl, trivial⟩⟩
          clear S; rintro a w57 ⟨hk53, S⟩
          refine s_done ?_
          replace S := S.nk [.blk b8 [.string (swimmer_clubAt p_m y1.Who p_b.Day), .string y1.Race] 92, .blk b6 [.string r3.1.Key, .int .i64 r3.1.Metres, .int .i64 r3.1.Stroke, .int .i64 r3.1.Course, .int .i64 r3.1.Legs, .int .i64 r3.1.Sex, .int .i64 r3.1.Young, .int .i64 r3.1.Old] 52, .blk b5 [.string y1.Who, .string y1.Race] 45, .own v3 3 1 x1.length (x1.flatMap eInt), .map b3 (ments (fun x => Value.agg (Gswimmer_place.enc x).toArray) (Value.int .i64) x2) x2.length, .map b2 (ments Value.string (Value.int .i64) x3) x3.length, .blk b1 [.int .i64 p_b.Races, .int .i64 p_b.Club, .int .i64 p_b.Age, .int .i64 p_b.Day] 33] [(0, v_p_r), (1, v_p_s), (2, v_p_m), (8, .pointer (some ⟨b1, 0, none⟩)), (14, .map (some b2)), (15, .map (some b3)), (16, v3), (17, .int .i64 (i1 : Int)), (18, .pointer (some ⟨b5, 0, none⟩)), (23, .pointer (some ⟨b8, 0, none⟩)), (39, v_p_l), (40, .int .i64 (p_l.length : Int)), (41, .int .i64 (i1 : Int)), (74, .pointer (some ⟨b6, 4, none⟩)), (75, .int .i64 r3.1.Legs), (76, .bool (decide (1 < r3.1.Legs))), (83, .agg #[.string r3.1.Key, .int .i64 r3.1.Metres, .int .i64 r3.1.Stroke, .int .i64 r3.1.Course, .int .i64 r3.1.Legs, .int .i64 r3.1.Sex, .int .i64 r3.1.Young, .int .i64 r3.1.Old]), (84, .agg #[.string r4.1.Key, .int .i64 r4.1.Sex, .int .i64 r4.1.Born]), (85, .pointer (some ⟨b1, 3, none⟩)), (86, .int .i64 p_b.Day), (87, .pointer (some ⟨b1, 2, none⟩)), (88, .int .i64 p_b.Age), (89, .bool r7), (90, .bool (!r7)), (113, .bool (((!r7) || (decide (p_b.Races ≤ (mgetD x3 y1.Who 0)))) || ((!decide ((swimmer_clubAt p_m y1.Who p_b.Day) = k_empty)) && (decide (p_b.Club ≤ (mgetD x2 (Gswimmer_place.mk (swimmer_clubAt p_m y1.Who p_b.Day) y1.Race) 0))))))] [true, false, true, true, true, true, true, true] rfl ⟨rfl, rfl, rfl, rfl, rfl, rfl, rfl, rfl, rfl, rfl, rfl, rfl, rfl, rfl, rfl, rfl, rfl, rfl, rfl, rfl, rfl, rfl, rfl, rfl, rfl, trivial⟩
          refine then_n ?_
          exact ⟨(((!r7) || (decide (p_b.Races ≤ (mgetD x3 y1.Who 0)))) || ((!decide ((swimmer_clubAt p_m y1.Who p_b.Day) = k_empty)) && (decide (p_b.Club ≤ (mgetD x2 (Gswimmer_place.mk (swimmer_clubAt p_m y1.Who p_b.Day) y1.Race) 0))))), h, S.nf [true, false, true, true, true, true, true] rfl ⟨rfl, rfl, rfl, rfl, rfl, rfl, rfl, rfl, rfl, rfl, rfl, rfl, rfl, rfl, trivial⟩⟩
        ·replace h := iteF h hb19
         rcases Bool.eq_false_or_eq_true (!r4.2) with hb27 | hb27
         ·replace h := iteT h hb27
          refine d_region [] ([]) Tryz.mixed S rfl (by kernel_rfl) ?_; clear S; intro w59 hk54 hsel S
          refine d_rest [0, 1, 2, 3, 4, 5, 6, 7, 8, 9, 10, 11, 12, 13, 14, 15, 16, 17, 18, 19, 20, 21, 22, 23, 24, 25, 26, 27, 28, 29, 30, 31, 32, 33, 34, 35, 36, 37, 38, 39, 40, 41, 42] hsel (by kernel_rfl) rfl ?_
          clear hsel
          refine s_lv S rfl (rn_move (S.tm rfl)) rfl ?_; clear S; intro a S
          refine s_lv S rfl (rn_not (S.tm rfl)) rfl ?_; clear S; intro a S
          refine s_lv S rfl (rn_move (S.tm rfl)) rfl ?_; clear S; intro a S
          refine s_want S rfl rfl rfl rfl hb3 ?_
          refine s_lv0 S (rn_fld fa_52_4 (S.tm rfl)) rfl ?_; clear S; intro a S
          refine s_want S rfl rfl rfl rfl hb3 ?_
          refine s_lv0 S (rn_load Tryz.isAgg3 (S.tm rfl) (S.cell (i := 2) rfl rfl)) rfl ?_; clear S; intro a S
          refine s_want S rfl rfl rfl rfl hb3 ?_
          refine s_lv0 S (rn_gtr (S.tm rfl) rfl) rfl ?_; clear S; intro a S
          refine s_lv S rfl (rn_pick_c hb3 (S.tm rfl) (S.tm rfl)) rfl ?_; clear S; intro a S
          refine s_lv S rfl (rn_move (S.tm rfl)) rfl ?_; clear S; intro a S
          refine s_want S rfl rfl rfl rfl hb19 ?_
          refine s_lv0 S (rn_move (S.tm rfl)) rfl ?_; clear S; intro a S
          refine s_want S rfl rfl rfl rfl hb19 ?_
          refine s_lv0 S (rn_not (S.tm rfl)) rfl ?_; clear S; intro a S
          refine s_lv S rfl (rn_pick_c hb19 (S.tm rfl) (S.tm rfl)) rfl ?_; clear S; intro a S
          refine s_lv S rfl (rn_move (S.tm rfl)) rfl ?_; clear S; intro a S
          refine s_skip S rfl rfl rfl rfl (neq_t hb27) rfl ?_ rfl; clear S; intro a S
          refine s_skip S rfl rfl rfl rfl (neq_t hb27) rfl ?_ rfl; clear S; intro a S
          refine s_skip S rfl rfl rfl rfl (neq_t hb27) rfl ?_ rfl; clear S; intro a S
          refine s_skip S rfl rfl rfl rfl (neq_t hb27) rfl ?_ rfl; clear S; intro a S
          refine s_skip S rfl rfl rfl rfl (neq_t hb27) rfl ?_ rfl; clear S; intro a S
          refine s_skip S rfl rfl rfl rfl (neq_t hb27) rfl ?_ rfl; clear S; intro a S
          refine s_skip S rfl rfl rfl rfl (neq_t hb27) rfl ?_ rfl; clear S; intro a S
          refine s_skip S rfl rfl rfl rfl (neq_t hb27) rfl ?_ rfl; clear S; intro a S
          refine s_lv S rfl (rn_pick_b hb27 (S.tm rfl) rfl) rfl ?_; clear S; intro a S
          refine s_lv S rfl (rn_move (S.tm rfl)) rfl ?_; clear S; intro a S
          refine s_cutm 8 (fun a w' => Keep [] w59 w' ∧ Sx w [] nov [.blk b8 [.string (swimmer_clubAt p_m y1.Who p_b.Day), .string y1.Race] 92, .blk b7 [.string r4.1.Key, .int .i64 r4.1.Sex, .int .i64 r4.1.Born] 56, .blk b6 [.string r3.1.Key, .int .i64 r3.1.Metres, .int .i64 r3.1.Stroke, .int .i64 r3.1.Course, .int .i64 r3.1.Legs, .int .i64 r3.1.Sex, .int .i64 r3.1.Young, .int .i64 r3.1.Old] 52, .blk b5 [.string y1.Who, .string y1.Race] 45, .own v3 3 1 x1.length (x1.flatMap eInt), .map b3 (ments (fun x => Value.agg (Gswimmer_place.enc x).toArray) (Value.int .i64) x2) x2.length, .map b2 (ments Value.string (Value.int .i64) x3) x3.length, .blk b1 [.int .i64 p_b.Races, .int .i64 p_b.Club, .int .i64 p_b.Age, .int .i64 p_b.Day] 33] [(0, v_p_r), (1, v_p_s), (2, v_p_m), (8, .pointer (some ⟨b1, 0, none⟩)), (14, .map (some b2)), (15, .map (some b3)), (16, v3), (17, .int .i64 (i1 : Int)), (18, .pointer (some ⟨b5, 0, none⟩)), (23, .pointer (some ⟨b8, 0, none⟩)), (39, v_p_l), (40, .int .i64 (p_l.length : Int)), (41, .int .i64 (i1 : Int)), (74, .pointer (some ⟨b6, 4, none⟩)), (75, .int .i64 r3.1.Legs), (76, .bool (decide (1 < r3.1.Legs))), (79, .bool r4.2), (80, .bool (!r4.2)), (83, undef), (84, undef), (85, undef), (86, undef), (87, undef), (88, undef), (89, undef), (90, undef), (100, .bool (true || (decide (p_b.Races ≤ (mgetD x3 y1.Who 0)))))] 131 a w') ?_ ?_
          ·rcases Bool.eq_false_or_eq_true true with hb28 | hb28
           ·refine s_skip S rfl rfl rfl rfl (neq_t hb28) rfl ?_ rfl; clear S; intro a S
            refine s_skip S rfl rfl rfl rfl (neq_t hb28) rfl ?_ rfl; clear S; intro a S
            refine s_skip S rfl rfl rfl rfl (neq_t hb28) rfl ?_ rfl; clear S; intro a S
            refine s_skip S rfl rfl rfl rfl (neq_t hb28) rfl ?_ rfl; clear S; intro a S
            refine s_skip S rfl rfl rfl rfl (neq_t hb28) rfl ?_ rfl; clear S; intro a S
            refine s_skip S rfl rfl rfl rfl (neq_t hb28) rfl ?_ rfl; clear S; intro a S
            refine s_skip S rfl rfl rfl rfl (neq_t hb28) rfl ?_ rfl; clear S; intro a S
            refine s_lv S rfl (rn_or_t (decide (p_b.Races ≤ (mgetD x3 y1.Who 0))) hb28 (S.tm rfl) rfl) rfl ?_; clear S; intro a S
            refine s_done ?_
            exact ⟨Keep.refl _ _, S.nf [true, true, true, true, true, true, true, true] rfl ⟨rfl, rfl, rfl, rfl, rfl, rfl, rfl, rfl, rfl, rfl, rfl, rfl, rfl, rfl, rfl, rfl, rfl, rfl, rfl, rfl, rfl, rfl, rfl, rfl, rfl, rfl, rfl, trivial⟩⟩
           ·refine s_want S rfl rfl rfl rfl hb28 ?_
            refine s_lv0 S (rn_move (S.tm rfl)) rfl ?_; clear S; intro a S
            refine s_want S rfl rfl rfl rfl hb28 ?_
            refine s_lv0 S (rn_fld fa_45_0 (S.tm rfl)) rfl ?_; clear S; intro a S
            refine s_want S rfl rfl rfl rfl hb28 ?_
            refine s_lv0 S (rn_load Tryz.isAgg9 (S.tm rfl) (S.cell (i := 3) rfl rfl)) rfl ?_; clear S; intro a S
            refine s_want S rfl rfl rfl rfl hb28 ?_
            refine s_lv0 S (rn_lookup (kv := Value.string) (vv := (Value.int .i64)) (m := x3) (key := y1.Who) (z := 0) (S.map_at (i := 6) rfl) Tryz.underlying84 (keyT_str Tryz.underlying9) Tryz.zeroValue3 (S.tm rfl) (S.tm rfl)) rfl ?_; clear S; intro a S
            refine s_want S rfl rfl rfl rfl hb28 ?_
            refine s_lv0 S (rn_fld fa_33_0 (S.tm rfl)) rfl ?_; clear S; intro a S
            refine s_want S rfl rfl rfl rfl hb28 ?_
            refine s_lv0 S (rn_load Tryz.isAgg3 (S.tm rfl) (S.cell (i := 7) rfl rfl)) rfl ?_; clear S; intro a S
            refine s_want S rfl rfl rfl rfl hb28 ?_
            refine s_lv0 S (rn_geq (S.tm rfl) (S.tm rfl)) rfl ?_; clear S; intro a S
            refine s_lv S rfl (rn_or_f hb28 (S.tm rfl) (S.tm rfl)) rfl ?_; clear S; intro a S
            refine s_done ?_
            exact ⟨Keep.refl _ _, S.nf [true, true, true, true, true, true, true, true] rfl ⟨rfl, rfl, rfl, rfl, rfl, rfl, rfl, rfl, rfl, rfl, rfl, rfl, rfl, rfl, rfl, rfl, rfl, rfl, rfl, rfl, rfl, rfl, rfl, rfl, rfl, rfl, rfl, trivial⟩⟩
          clear S; rintro a w60 ⟨hk55, S⟩
          refine s_lv S rfl (rn_move (S.tm rfl)) rfl ?_; clear S; intro a S
          refine s_cutm 12 (fun a w' => Keep [] w60 w' ∧ Sx w [] nov [.blk b8 [.string (swimmer_clubAt p_m y1.Who p_b.Day), .string y1.Race] 92, .blk b7 [.string r4.1.Key, .int .i64 r4.1.Sex, .int .i64 r4.1.Born] 56, .blk b6 [.string r3.1.Key, .int .i64 r3.1.Metres, .int .i64 r3.1.Stroke, .int .i64 r3.1.Course, .int .i64 r3.1.Legs, .int .i64 r3.1.Sex, .int .i64 r3.1.Young, .int .i64 r3.1.Old] 52, .blk b5 [.string y1.Who, .string y1.Race] 45, .own v3 3 1 x1.length (x1.flatMap eInt), .map b3 (ments (fun x => Value.agg (Gswimmer_place.enc x).toArray) (Value.int .i64) x2) x2.length, .map b2 (ments Value.string (Value.int .i64) x3) x3.length, .blk b1 [.int .i64 p_b.Races, .int .i64 p_b.Club, .int .i64 p_b.Age, .int .i64 p_b.Day] 33] [(0, v_p_r), (1, v_p_s), (2, v_p_m), (8, .pointer (some ⟨b1, 0, none⟩)), (14, .map (some b2)), (15, .map (some b3)), (16, v3), (17, .int .i64 (i1 : Int)), (18, .pointer (some ⟨b5, 0, none⟩)), (23, .pointer (some ⟨b8, 0, none⟩)), (39, v_p_l), (40, .int .i64 (p_l.length : Int)), (41, .int .i64 (i1 : Int)), (74, .pointer (some ⟨b6, 4, none⟩)), (75, .int .i64 r3.1.Legs), (76, .bool (decide (1 < r3.1.Legs))), (79, .bool r4.2), (80, .bool (!r4.2)), (83, undef), (84, undef), (85, undef), (86, undef), (87, undef), (88, undef), (89, undef), (90, undef), (113, .bool ((true || (decide (p_b.Races ≤ (mgetD x3 y1.Who 0)))) || ((!decide ((swimmer_clubAt p_m y1.Who p_b.Day) = k_empty)) && (decide (p_b.Club ≤ (mgetD x2 (Gswimmer_place.mk (swimmer_clubAt p_m y1.Who p_b.Day) y1.Race) 0))))))] 131 a w') ?_ ?_
          ·rcases Bool.eq_false_or_eq_true (true || (decide (p_b.Races ≤ (mgetD x3 y1.Who 0)))) with hb29 | hb29
           ·refine s_skip S rfl rfl rfl rfl (neq_t hb29) rfl ?_ rfl; clear S; intro a S
            refine s_skip S rfl rfl rfl rfl (neq_t hb29) rfl ?_ rfl; clear S; intro a S
            refine s_skip S rfl rfl rfl rfl (neq_t hb29) rfl ?_ rfl; clear S; intro a S
            refine s_skip S rfl rfl rfl rfl (neq_t hb29) rfl ?_ rfl; clear S; intro a S
            refine s_skipU S rfl rfl rfl rfl rfl ?_; clear S; intro a S
            refine s_skipU S rfl rfl rfl rfl rfl ?_; clear S; intro a S
            refine s_skipU S rfl rfl rfl rfl rfl ?_; clear S; intro a S
            refine s_skipU S rfl rfl rfl rfl rfl ?_; clear S; intro a S
            refine s_skipU S rfl rfl rfl rfl rfl ?_; clear S; intro a S
            refine s_skipU S rfl rfl rfl rfl rfl ?_; clear S; intro a S
            refine s_skip S rfl rfl rfl rfl (neq_t hb29) rfl ?_ rfl; clear S; intro a S
            refine s_lv S rfl (rn_or_t ((!decide ((swimmer_clubAt p_m y1.Who p_b.Day) = k_empty)) && (decide (p_b.Club ≤ (mgetD x2 (Gswimmer_place.mk (swimmer_clubAt p_m y1.Who p_b.Day) y1.Race) 0)))) hb29 (S.tm rfl) rfl) rfl ?_; clear S; intro a S
            refine s_done ?_
            exact ⟨Keep.refl _ _, S.nf [true, true, true, true, true, true, true, true] rfl ⟨rfl, rfl, rfl, rfl, rfl, rfl, rfl, rfl, rfl, rfl, rfl, rfl, rfl, rfl, rfl, rfl, rfl, rfl, rfl, rfl, rfl, rfl, rfl, rfl, rfl, rfl, rfl, trivial⟩⟩
           ·refine s_want S rfl rfl rfl rfl hb29 ?_
            refine s_lv0 S (rn_fld fa_92_0 (S.tm rfl)) rfl ?_; clear S; intro a S
            refine s_want S rfl rfl rfl rfl hb29 ?_
            refine s_lv0 S (rn_load Tryz.isAgg9 (S.tm rfl) (S.cell (i := 0) rfl rfl)) rfl ?_; clear S; intro a S
            refine s_want S rfl rfl rfl rfl hb29 ?_
            refine s_lv0 S (rn_sneq (S.tm rfl) rfl) rfl ?_; clear S; intro a S
            refine s_want S rfl rfl rfl rfl hb29 ?_
            refine s_lv0 S (rn_move (S.tm rfl)) rfl ?_; clear S; intro a S
            refine s_cutm 7 (fun a w' => Keep [] w60 w' ∧ Sx w [] nov [.blk b8 [.string (swimmer_clubAt p_m y1.Who p_b.Day), .string y1.Race] 92, .blk b7 [.string r4.1.Key, .int .i64 r4.1.Sex, .int .i64 r4.1.Born] 56, .blk b6 [.string r3.1.Key, .int .i64 r3.1.Metres, .int .i64 r3.1.Stroke, .int .i64 r3.1.Course, .int .i64 r3.1.Legs, .int .i64 r3.1.Sex, .int .i64 r3.1.Young, .int .i64 r3.1.Old] 52, .blk b5 [.string y1.Who, .string y1.Race] 45, .own v3 3 1 x1.length (x1.flatMap eInt), .map b3 (ments (fun x => Value.agg (Gswimmer_place.enc x).toArray) (Value.int .i64) x2) x2.length, .map b2 (ments Value.string (Value.int .i64) x3) x3.length, .blk b1 [.int .i64 p_b.Races, .int .i64 p_b.Club, .int .i64 p_b.Age, .int .i64 p_b.Day] 33] [(0, v_p_r), (1, v_p_s), (2, v_p_m), (8, .pointer (some ⟨b1, 0, none⟩)), (14, .map (some b2)), (15, .map (some b3)), (16, v3), (17, .int .i64 (i1 : Int)), (18, .pointer (some ⟨b5, 0, none⟩)), (23, .pointer (some ⟨b8, 0, none⟩)), (39, v_p_l), (40, .int .i64 (p_l.length : Int)), (41, .int .i64 (i1 : Int)), (74, .pointer (some ⟨b6, 4, none⟩)), (75, .int .i64 r3.1.Legs), (76, .bool (decide (1 < r3.1.Legs))), (79, .bool r4.2), (80, .bool (!r4.2)), (83, undef), (84, undef), (85, undef), (86, undef), (87, undef), (88, undef), (89, undef), (90, undef), (101, .bool (true || (decide (p_b.Races ≤ (mgetD x3 y1.Who 0))))), (102, .pointer (some ⟨b8, 0, none⟩)), (103, .string (swimmer_clubAt p_m y1.Who p_b.Day)), (104, .bool (!decide ((swimmer_clubAt p_m y1.Who p_b.Day) = k_empty))), (105, .bool (!decide ((swimmer_clubAt p_m y1.Who p_b.Day) = k_empty))), (112, .bool ((!decide ((swimmer_clubAt p_m y1.Who p_b.Day) = k_empty)) && (decide (p_b.Club ≤ (mgetD x2 (Gswimmer_place.mk (swimmer_clubAt p_m y1.Who p_b.Day) y1.Race) 0)))))] 131 a w') ?_ ?_
            ·rcases Bool.eq_false_or_eq_true (!decide ((swimmer_clubAt p_m y1.Who p_b.Day) = k_empty)) with hb30 | hb30
             ·refine s_want S rfl rfl rfl rfl hb30 ?_
              refine s_lv0 S (rn_move (S.tm rfl)) rfl ?_; clear S; intro a S
              refine s_want S rfl rfl rfl rfl hb30 ?_
              refine s_lv0 S (rn_ldA Tryz.isAgg92 Tryz.sizeOf92 (off := 0) (o := 0) (part := [.string (swimmer_clubAt p_m y1.Who p_b.Day), .string y1.Race]) rfl rfl (S.tm rfl) (S.cellsAt (i := 0) rfl)) rfl ?_; clear S; intro a S
              refine s_want S rfl rfl rfl rfl hb30 ?_
              refine s_lv0 S (rn_lookup (kv := (fun x => Value.agg (Gswimmer_place.enc x).toArray)) (vv := (Value.int .i64)) (m := x2) (key := (Gswimmer_place.mk (swimmer_clubAt p_m y1.Who p_b.Day) y1.Race)) (z := 0) (S.map_at (i := 5) rfl) Tryz.underlying85 keyT_92 Tryz.zeroValue3 (S.tm rfl) (S.tm rfl)) rfl ?_; clear S; intro a S
              refine s_want S rfl rfl rfl rfl hb30 ?_
              refine s_lv0 S (rn_fld fa_33_1 (S.tm rfl)) rfl ?_; clear S; intro a S
              refine s_want S rfl rfl rfl rfl hb30 ?_
              refine s_lv0 S (rn_load Tryz.isAgg3 (S.tm rfl) (S.cell (i := 7) rfl rfl)) rfl ?_; clear S; intro a S
              refine s_want S rfl rfl rfl rfl hb30 ?_
              refine s_lv0 S (rn_geq (S.tm rfl) (S.tm rfl)) rfl ?_; clear S; intro a S
              refine s_want S rfl rfl rfl rfl hb29 ?_
              refine s_lv0 S (rn_and_t hb30 (S.tm rfl) (S.tm rfl)) rfl ?_; clear S; intro a S
              refine s_done ?_
              exact ⟨Keep.refl _ _, S.nf [true, true, true, true, true, true, true, true] rfl ⟨rfl, rfl, rfl, rfl, rfl, rfl, rfl, rfl, rfl, rfl, rfl, rfl, rfl, rfl, rfl, rfl, rfl, rfl, rfl, rfl, rfl, rfl, rfl, rfl, rfl, rfl, rfl, rfl, rfl, rfl, rfl, rfl, trivial⟩⟩
             ·refine s_skip S rfl rfl rfl rfl (neq_f hb30) rfl ?_ rfl; clear S; intro a S
              refine s_skip S rfl rfl rfl rfl (neq_f hb30) rfl ?_ rfl; clear S; intro a S
              refine s_skip S rfl rfl rfl rfl (neq_f hb30) rfl ?_ rfl; clear S; intro a S
              refine s_skip S rfl rfl rfl rfl (neq_f hb30) rfl ?_ rfl; clear S; intro a S
              refine s_skip S rfl rfl rfl rfl (neq_f hb30) rfl ?_ rfl; clear S; intro a S
              refine s_skip S rfl rfl rfl rfl (neq_f hb30) rfl ?_ rfl; clear S; intro a S
              refine s_want S rfl rfl rfl rfl hb29 ?_
              refine s_lv0 S (rn_and_f (decide (p_b.Club ≤ (mgetD x2 (Gswimmer_place.mk (swimmer_clubAt p_m y1.Who p_b.Day) y1.Race) 0))) hb30 (S.tm rfl) rfl) rfl ?_; clear S; intro a S
              refine s_done ?_
              exact ⟨Keep.refl _ _, S.nf [true, true, true, true, true, true, true, true] rfl ⟨rfl, rfl, rfl, rfl, rfl, rfl, rfl, rfl, rfl, rfl, rfl, rfl, rfl, rfl, rfl, rfl, rfl, rfl, rfl, rfl, rfl, rfl, rfl, rfl, rfl, rfl, rfl, rfl, rfl, rfl, rfl, rfl, trivial⟩⟩
            clear S; rintro a w62 ⟨hk56, S⟩
            refine s_lv S rfl (rn_or_f hb29 (S.tm rfl) (S.tm rfl)) rfl ?_; clear S; intro a S
            refine s_done ?_
            exact ⟨hk56, S.nf [true, true, true, true, true, true, true, true] rfl ⟨rfl, rfl, rfl, rfl, rfl, rfl, rfl, rfl, rfl, rfl, rfl, rfl, rfl, rfl, rfl, rfl, rfl, rfl, rfl, rfl, rfl, rfl, rfl, rfl, rfl, rfl, rfl, trivial⟩⟩
          clear S; rintro a w61 ⟨hk57, S⟩
          refine s_done ?_
          replace S := S.nk [.blk b8 [.string (swimmer_clubAt p_m y1.Who p_b.Day), .string y1.Race] 92, .blk b6 [.string r3.1.Key, .int .i64 r3.1.Metres, .int .i64 r3.1.Stroke, .int .i64 r3.1.Course, .int .i64 r3.1.Legs, .int .i64 r3.1.Sex, .int .i64 r3.1.Young, .int .i64 r3.1.Old] 52, .blk b5 [.string y1.Who, .string y1.Race] 45, .own v3 3 1 x1.length (x1.flatMap eInt), .map b3 (ments (fun x => Value.agg (Gswimmer_place.enc x).toArray) (Value.int .i64) x2) x2.length, .map b2 (ments Value.string (Value.int .i64) x3) x3.length, .blk b1 [.int .i64 p_b.Races, .int .i64 p_b.Club, .int .i64 p_b.Age, .int .i64 p_b.Day] 33] [(0, v_p_r), (1, v_p_s), (2, v_p_m), (8, .pointer (some ⟨b1, 0, none⟩)), (14, .map (some b2)), (15, .map (some b3)), (16, v3), (17, .int .i64 (i1 : Int)), (18, .pointer (some ⟨b5, 0, none⟩)), (23, .pointer (some ⟨b8, 0, none⟩)), (39, v_p_l), (40, .int .i64 (p_l.length : Int)), (41, .int .i64 (i1 : Int)), (74, .pointer (some ⟨b6, 4, none⟩)), (75, .int .i64 r3.1.Legs), (76, .bool (decide (1 < r3.1.Legs))), (79, .bool r4.2), (80, .bool (!r4.2)), (113, .bool ((true || (decide (p_b.Races ≤ (mgetD x3 y1.Who 0)))) || ((!decide ((swimmer_clubAt p_m y1.Who p_b.Day) = k_empty)) && (decide (p_b.Club ≤ (mgetD x2 (Gswimmer_place.mk (swimmer_clubAt p_m y1.Who p_b.Day) y1.Race) 0))))))] [true, false, true, true, true, true, true, true] rfl ⟨rfl, rfl, rfl, rfl, rfl, rfl, rfl, rfl, rfl, rfl, rfl, rfl, rfl, rfl, rfl, rfl, rfl, rfl, rfl, trivial⟩
          refine then_n ?_
          exact ⟨((true || (decide (p_b.Races ≤ (mgetD x3 y1.Who 0)))) || ((!decide ((swimmer_clubAt p_m y1.Who p_b.Day) = k_empty)) && (decide (p_b.Club ≤ (mgetD x2 (Gswimmer_place.mk (swimmer_clubAt p_m y1.Who p_b.Day) y1.Race) 0))))), h, S.nf [true, false, true, true, true, true, true] rfl ⟨rfl, rfl, rfl, rfl, rfl, rfl, rfl, rfl, rfl, rfl, rfl, rfl, rfl, rfl, trivial⟩⟩
         ·replace h := iteF h hb27
          obtain ⟨r8, hr9, h⟩ := bindE h
          refine d_region [] ([]) Tryz.mixed S rfl (by kernel_rfl) ?_; clear S; intro w64 hk59 hsel S
          refine d_quiet 0 S hsel rfl rfl rfl (by kernel_rfl) (by kernel_rfl) rfl (fun _ hw => (rn_move (S.tm rfl))) ?_; clear S; intro a S
          refine d_quiet 1 S hsel rfl rfl rfl (by kernel_rfl) (by kernel_rfl) rfl (fun _ hw => (rn_not (S.tm rfl))) ?_; clear S; intro a S
          refine d_quiet 2 S hsel rfl rfl rfl (by kernel_rfl) (by kernel_rfl) rfl (fun _ hw => (rn_move (S.tm rfl))) ?_; clear S; intro a S
          refine d_quiet_g 3 S hsel rfl rfl rfl rfl hb3 rfl rfl (by kernel_rfl) (by kernel_rfl) rfl (fun _ hw => (rn_fld fa_52_4 (S.tm rfl))) ?_; clear S; intro a S
          refine d_quiet_g 4 S hsel rfl rfl rfl rfl hb3 rfl rfl (by kernel_rfl) (by kernel_rfl) rfl (fun _ hw => (rn_ld Tryz.isAgg3 (off := 0) (o := 4) (S.tm rfl) ((S.blk_mem (i := 2) (cells := [.string r3.1.Key, .int .i64 r3.1.Metres, .int .i64 r3.1.Stroke, .int .i64 r3.1.Course, .int .i64 r3.1.Legs, .int .i64 r3.1.Sex, .int .i64 r3.1.Young, .int .i64 r3.1.Old]) (b := b6) (T := 52) rfl (ne_nil (e' := .blk b6 [.string r3.1.Key, .int .i64 r3.1.Metres, .int .i64 r3.1.Stroke, .int .i64 r3.1.Course, .int .i64 r3.1.Legs, .int .i64 r3.1.Sex, .int .i64 r3.1.Young, .int .i64 r3.1.Old] 52))).kept hw) rfl)) ?_; clear S; intro a S
          refine d_quiet_g 5 S hsel rfl rfl rfl rfl hb3 rfl rfl (by kernel_rfl) (by kernel_rfl) rfl (fun _ hw => (rn_gtr (S.tm rfl) rfl)) ?_; clear S; intro a S
          refine d_quiet 6 S hsel rfl rfl rfl (by kernel_rfl) (by kernel_rfl) rfl (fun _ hw => (rn_pick_c hb3 (S.tm rfl) (S.tm rfl))) ?_; clear S; intro a S
          refine d_quiet 7 S hsel rfl rfl rfl (by kernel_rfl) (by kernel_rfl) rfl (fun _ hw => (rn_move (S.tm rfl))) ?_; clear S; intro a S
          refine d_quiet_g 8 S hsel rfl rfl rfl rfl hb19 rfl rfl (by kernel_rfl) (by kernel_rfl) rfl (fun _ hw => (rn_move (S.tm rfl))) ?_; clear S; intro a S
          refine d_quiet_g 9 S hsel rfl rfl rfl rfl hb19 rfl rfl (by kernel_rfl) (by kernel_rfl) rfl (fun _ hw => (rn_not (S.tm rfl))) ?_; clear S; intro a S
          refine d_quiet 10 S hsel rfl rfl rfl (by kernel_rfl) (by kernel_rfl) rfl (fun _ hw => (rn_pick_c hb19 (S.tm rfl) (S.tm rfl))) ?_; clear S; intro a S
          refine d_quiet 11 S hsel rfl rfl rfl (by kernel_rfl) (by kernel_rfl) rfl (fun _ hw => (rn_move (S.tm rfl))) ?_; clear S; intro a S
          refine d_quiet_g 12 S hsel rfl rfl rfl rfl hb27 rfl rfl (by kernel_rfl) (by kernel_rfl) rfl (fun _ hw => (rn_ldA Tryz.isAgg52 Tryz.sizeOf52 (off := 0) (o := 0) (part := [.string r3.1.Key, .int .i64 r3.1.Metres, .int .i64 r3.1.Stroke, .int .i64 r3.1.Course, .int .i64 r3.1.Legs, .int .i64 r3.1.Sex, .int .i64 r3.1.Young, .int .i64 r3.1.Old]) rfl rfl (S.tm rfl) ((S.blk_mem (i := 2) (cells := [.string r3.1.Key, .int .i64 r3.1.Metres, .int .i64 r3.1.Stroke, .int .i64 r3.1.Course, .int .i64 r3.1.Legs, .int .i64 r3.1.Sex, .int .i64 r3.1.Young, .int .i64 r3.1.Old]) (b := b6) (T := 52) rfl (ne_nil (e' := .blk b6 [.string r3.1.Key, .int .i64 r3.1.Metres, .int .i64 r3.1.Stroke, .int .i64 r3.1.Course, .int .i64 r3.1.Legs, .int .i64 r3.1.Sex, .int .i64 r3.1.Young, .int .i64 r3.1.Old] 52))).kept hw))) ?_; clear S; intro a S
          refine d_quiet_g 13 S hsel rfl rfl rfl rfl hb27 rfl rfl (by kernel_rfl) (by kernel_rfl) rfl (fun _ hw => (rn_ldA Tryz.isAgg56 Tryz.sizeOf56 (off := 0) (o := 0) (part := [.string r4.1.Key, .int .i64 r4.1.Sex, .int .i64 r4.1.Born]) rfl rfl (S.tm rfl) ((S.blk_mem (i := 1) (cells := [.string r4.1.Key, .int .i64 r4.1.Sex, .int .i64 r4.1.Born]) (b := b7) (T := 56) rfl (ne_nil (e' := .blk b7 [.string r4.1.Key, .int .i64 r4.1.Sex, .int .i64 r4.1.Born] 56))).kept hw))) ?_; clear S; intro a S
          refine d_quiet_g 14 S hsel rfl rfl rfl rfl hb27 rfl rfl (by kernel_rfl) (by kernel_rfl) rfl (fun _ hw => (rn_fld fa_33_3 (S.tm rfl))) ?_; clear S; intro a S
          refine d_quiet_g 15 S hsel rfl rfl rfl rfl hb27 rfl rfl (by kernel_rfl) (by kernel_rfl) rfl (fun _ hw => (rn_ld Tryz.isAgg3 (off := 0) (o := 3) (S.tm rfl) ((S.blk_mem (i := 7) (cells := [.int .i64 p_b.Races, .int .i64 p_b.Club, .int .i64 p_b.Age, .int .i64 p_b.Day]) (b := b1) (T := 33) rfl (ne_nil (e' := .blk b1 [.int .i64 p_b.Races, .int .i64 p_b.Club, .int .i64 p_b.Age, .int .i64 p_b.Day] 33))).kept hw) rfl)) ?_; clear S; intro a S
          refine d_quiet_g 16 S hsel rfl rfl rfl rfl hb27 rfl rfl (by kernel_rfl) (by kernel_rfl) rfl (fun _ hw => (rn_fld fa_33_2 (S.tm rfl))) ?_; clear S; intro a S
          refine d_quiet_g 17 S hsel rfl rfl rfl rfl hb27 rfl rfl (by kernel_rfl) (by kernel_rfl) rfl (fun _ hw => (rn_ld Tryz.isAgg3 (off := 0) (o := 2) (S.tm rfl) ((S.blk_mem (i := 7) (cells := [.int .i64 p_b.Races, .int .i64 p_b.Club, .int .i64 p_b.Age, .int .i64 p_b.Day]) (b := b1) (T := 33) rfl (ne_nil (e' := .blk b1 [.int .i64 p_b.Races, .int .i64 p_b.Club, .int .i64 p_b.Age, .int .i64 p_b.Day] 33))).kept hw) rfl)) ?_; clear S; intro a S
          refine d_loud1 18 (by kernel_rfl) rfl ?_
          refine l_want S rfl rfl rfl hb27 ?_
          refine l_enter S (fun _ => run_call (vs := [.agg (GRace.enc r3.1).toArray, .agg (GSwimmer.enc r4.1).toArray, .int .i64 p_b.Day, .int .i64 p_b.Age]) ⟨(S.tm rfl), (S.tm rfl), (S.tm rfl), (S.tm rfl), trivial⟩ Tryz.call35) (swimmer_may_ok _ r3.1 r4.1 p_b.Day p_b.Age _ hr9) rfl ?_; clear S; intro v17 a w65 hv15 hk60 hn15 S
          subst hv15
          refine l_done ?_
          refine d_next hk60 ?_
          refine d_rest [19, 20, 21, 22, 23, 24, 25, 26, 27, 28, 29, 30, 31, 32, 33, 34, 35, 36, 37, 38, 39, 40, 41, 42] hsel (by kernel_rfl) rfl ?_
          clear hsel
          refine s_want S rfl rfl rfl rfl hb27 ?_
          refine s_lv0 S (rn_not (S.tm rfl)) rfl ?_; clear S; intro a S
          refine s_lv S rfl (rn_pick_c hb27 (S.tm rfl) (S.tm rfl)) rfl ?_; clear S; intro a S
          refine s_lv S rfl (rn_move (S.tm rfl)) rfl ?_; clear S; intro a S
          refine s_cutm 8 (fun a w' => Keep [] w65 w' ∧ Sx w [] nov [.blk b8 [.string (swimmer_clubAt p_m y1.Who p_b.Day), .string y1.Race] 92, .blk b7 [.string r4.1.Key, .int .i64 r4.1.Sex, .int .i64 r4.1.Born] 56, .blk b6 [.string r3.1.Key, .int .i64 r3.1.Metres, .int .i64 r3.1.Stroke, .int .i64 r3.1.Course, .int .i64 r3.1.Legs, .int .i64 r3.1.Sex, .int .i64 r3.1.Young, .int .i64 r3.1.Old] 52, .blk b5 [.string y1.Who, .string y1.Race] 45, .own v3 3 1 x1.length (x1.flatMap eInt), .map b3 (ments (fun x => Value.agg (Gswimmer_place.enc x).toArray) (Value.int .i64) x2) x2.length, .map b2 (ments Value.string (Value.int .i64) x3) x3.length, .blk b1 [.int .i64 p_b.Races, .int .i64 p_b.Club, .int .i64 p_b.Age, .int .i64 p_b.Day] 33] [(0, v_p_r), (1, v_p_s), (2, v_p_m), (8, .pointer (some ⟨b1, 0, none⟩)), (14, .map (some b2)), (15, .map (some b3)), (16, v3), (17, .int .i64 (i1 : Int)), (18, .pointer (some ⟨b5, 0, none⟩)), (23, .pointer (some ⟨b8, 0, none⟩)), (39, v_p_l), (40, .int .i64 (p_l.length : Int)), (41, .int .i64 (i1 : Int)), (74, .pointer (some ⟨b6, 4, none⟩)), (75, .int .i64 r3.1.Legs), (76, .bool (decide (1 < r3.1.Legs))), (79, .bool r4.2), (80, .bool (!r4.2)), (83, .agg #[.string r3.1.Key, .int .i64 r3.1.Metres, .int .i64 r3.1.Stroke, .int .i64 r3.1.Course, .int .i64 r3.1.Legs, .int .i64 r3.1.Sex, .int .i64 r3.1.Young, .int .i64 r3.1.Old]), (84, .agg #[.string r4.1.Key, .int .i64 r4.1.Sex, .int .i64 r4.1.Born]), (85, .pointer (some ⟨b1, 3, none⟩)), (86, .int .i64 p_b.Day), (87, .pointer (some ⟨b1, 2, none⟩)), (88, .int .i64 p_b.Age), (89, .bool r8), (90, .bool (!r8)), (100, .bool ((!r8) || (decide (p_b.Races ≤ (mgetD x3 y1.Who 0)))))] 131 a w') ?_ ?_
          ·rcases Bool.eq_false_or_eq_true (!r8) with hb31 | hb31
           ·refine s_skip S rfl rfl rfl rfl (neq_t hb31) rfl ?_ rfl; clear S; intro a S
            refine s_skip S rfl rfl rfl rfl (neq_t hb31) rfl ?_ rfl; clear S; intro a S
            refine s_skip S rfl rfl rfl rfl (neq_t hb31) rfl ?_ rfl; clear S; intro a S
            refine s_skip S rfl rfl rfl rfl (neq_t hb31) rfl ?_ rfl; clear S; intro a S
            refine s_skip S rfl rfl rfl rfl (neq_t hb31) rfl ?_ rfl; clear S; intro a S
            refine s_skip S rfl rfl rfl rfl (neq_t hb31) rfl ?_ rfl; clear S; intro a S
            refine s_skip S rfl rfl rfl rfl (neq_t hb31) rfl ?_ rfl; clear S; intro a S
            refine s_lv S rfl (rn_or_t (decide (p_b.Races ≤ (mgetD x3 y1.Who 0))) hb31 (S.tm rfl) rfl) rfl ?_; clear S; intro a S
            refine s_done ?_
            exact ⟨Keep.refl _ _, S.nf [true, true, true, true, true, true, true, true] rfl ⟨rfl, rfl, rfl, rfl, rfl, rfl, rfl, rfl, rfl, rfl, rfl, rfl, rfl, rfl, rfl, rfl, rfl, rfl, rfl, rfl, rfl, rfl, rfl, rfl, rfl, rfl, rfl, trivial⟩⟩
           ·refine s_want S rfl rfl rfl rfl hb31 ?_
            refine s_lv0 S (rn_move (S.tm rfl)) rfl ?_; clear S; intro a S
            refine s_want S rfl rfl rfl rfl hb31 ?_
            refine s_lv0 S (rn_fld fa_45_0 (S.tm rfl)) rfl ?_; clear S; intro a S
            refine s_want S rfl rfl rfl rfl hb31 ?_
            refine s_lv0 S (rn_load Tryz.isAgg9 (S.tm rfl) (S.cell (i := 3) rfl rfl)) rfl ?_; clear S; intro a S
            refine s_want S rfl rfl rfl rfl hb31 ?_
            refine s_lv0 S (rn_lookup (kv := Value.string) (vv := (Value.int .i64)) (m := x3) (key := y1.Who) (z := 0) (S.map_at (i := 6) rfl) Tryz.underlying84 (keyT_str Tryz.underlying9) Tryz.zeroValue3 (S.tm rfl) (S.tm rfl)) rfl ?_; clear S; intro a S
            refine s_want S rfl rfl rfl rfl hb31 ?_
            refine s_lv0 S (rn_fld fa_33_0 (S.tm rfl)) rfl ?_; clear S; intro a S
            refine s_want S rfl rfl rfl rfl hb31 ?_
            refine s_lv0 S (rn_load Tryz.isAgg3 (S.tm rfl) (S.cell (i := 7) rfl rfl)) rfl ?_; clear S; intro a S
            refine s_want S rfl rfl rfl rfl hb31 ?_
            refine s_lv0 S (rn_geq (S.tm rfl) (S.tm rfl)) rfl ?_; clear S; intro a S
            refine s_lv S rfl (rn_or_f hb31 (S.tm rfl) (S.tm rfl)) rfl ?_; clear S; intro a S
            refine s_done ?_
            exact ⟨Keep.refl _ _, S.nf [true, true, true, true, true, true, true, true] rfl ⟨rfl, rfl, rfl, rfl, rfl, rfl, rfl, rfl, rfl, rfl, rfl, rfl, rfl, rfl, rfl, rfl, rfl, rfl, rfl, rfl, rfl, rfl, rfl, rfl, rfl, rfl, rfl, trivial⟩⟩
          clear S; rintro a w66 ⟨hk61, S⟩
          refine s_lv S rfl (rn_move (S.tm rfl)) rfl ?_; clear S; intro a S
          refine s_cutm 12 (fun a w' => Keep [] w66 w' ∧ Sx w [] nov [.blk b8 [.string (swimmer_clubAt p_m y1.Who p_b.Day), .string y1.Race] 92, .blk b7 [.string r4.1.Key, .int .i64 r4.1.Sex, .int .i64 r4.1.Born] 56, .blk b6 [.string r3.1.Key, .int .i64 r3.1.Metres, .int .i64 r3.1.Stroke, .int .i64 r3.1.Course, .int .i64 r3.1.Legs, .int .i64 r3.1.Sex, .int .i64 r3.1.Young, .int .i64 r3.1.Old] 52, .blk b5 [.string y1.Who, .string y1.Race] 45, .own v3 3 1 x1.length (x1.flatMap eInt), .map b3 (ments (fun x => Value.agg (Gswimmer_place.enc x).toArray) (Value.int .i64) x2) x2.length, .map b2 (ments Value.string (Value.int .i64) x3) x3.length, .blk b1 [.int .i64 p_b.Races, .int .i64 p_b.Club, .int .i64 p_b.Age, .int .i64 p_b.Day] 33] [(0, v_p_r), (1, v_p_s), (2, v_p_m), (8, .pointer (some ⟨b1, 0, none⟩)), (14, .map (some b2)), (15, .map (some b3)), (16, v3), (17, .int .i64 (i1 : Int)), (18, .pointer (some ⟨b5, 0, none⟩)), (23, .pointer (some ⟨b8, 0, none⟩)), (39, v_p_l), (40, .int .i64 (p_l.length : Int)), (41, .int .i64 (i1 : Int)), (74, .pointer (some ⟨b6, 4, none⟩)), (75, .int .i64 r3.1.Legs), (76, .bool (decide (1 < r3.1.Legs))), (79, .bool r4.2), (80, .bool (!r4.2)), (83, .agg #[.string r3.1.Key, .int .i64 r3.1.Metres, .int .i64 r3.1.Stroke, .int .i64 r3.1.Course, .int .i64 r3.1.Legs, .int .i64 r3.1.Sex, .int .i64 r3.1.Young, .int .i64 r3.1.Old]), (84, .agg #[.string r4.1.Key, .int .i64 r4.1.Sex, .int .i64 r4.1.Born]), (85, .pointer (some ⟨b1, 3, none⟩)), (86, .int .i64 p_b.Day), (87, .pointer (some ⟨b1, 2, none⟩)), (88, .int .i64 p_b.Age), (89, .bool r8), (90, .bool (!r8)), (113, .bool (((!r8) || (decide (p_b.Races ≤ (mgetD x3 y1.Who 0)))) || ((!decide ((swimmer_clubAt p_m y1.Who p_b.Day) = k_empty)) && (decide (p_b.Club ≤ (mgetD x2 (Gswimmer_place.mk (swimmer_clubAt p_m y1.Who p_b.Day) y1.Race) 0))))))] 131 a w') ?_ ?_
          ·rcases Bool.eq_false_or_eq_true ((!r8) || (decide (p_b.Races ≤ (mgetD x3 y1.Who 0)))) with hb32 | hb32
           ·refine s_skip S rfl rfl rfl rfl (neq_t hb32) rfl ?_ rfl; clear S; intro a S
            refine s_skip S rfl rfl rfl rfl (neq_t hb32) rfl ?_ rfl; clear S; intro a S
            refine s_skip S rfl rfl rfl rfl (neq_t hb32) rfl ?_ rfl; clear S; intro a S
            refine s_skip S rfl rfl rfl rfl (neq_t hb32) rfl ?_ rfl; clear S; intro a S
            refine s_skipU S rfl rfl rfl rfl rfl ?_; clear S; intro a S
            refine s_skipU S rfl rfl rfl rfl rfl ?_; clear S; intro a S
            refine s_skipU S rfl rfl rfl rfl rfl ?_; clear S; intro a S
            refine s_skipU S rfl rfl rfl rfl rfl ?_; clear S; intro a S
            refine s_skipU S rfl rfl rfl rfl rfl ?_; clear S; intro a S
            refine s_skipU S rfl rfl rfl rfl rfl ?_; clear S; intro a S
            refine s_skip S rfl rfl rfl rfl (neq_t hb32) rfl ?_ rfl; clear S; intro a S
            refine s_lv S rfl (rn_or_t ((!decide ((swimmer_clubAt p_m y1.Who p_b.Day) = k_empty)) && (decide (p_b.Club ≤ (mgetD x2 (Gswimmer_place.mk (swimmer_clubAt p_m y1.Who p_b.Day) y1.Race) 0)))) hb32 (S.tm rfl) rfl) rfl ?_; clear S; intro a S
            refine s_done ?_
            exact ⟨Keep.refl _ _, S.nf [true, true, true, true, true, true, true, true] rfl ⟨rfl, rfl, rfl, rfl, rfl, rfl, rfl, rfl, rfl, rfl, rfl, rfl, rfl, rfl, rfl, rfl, rfl, rfl, rfl, rfl, rfl, rfl, rfl, rfl, rfl, rfl, rfl, trivial⟩⟩
           ·refine s_want S rfl rfl rfl rfl hb32 ?_
            refine s_lv0 S (rn_fld fa_92_0 (S.tm rfl)) rfl ?_; clear S; intro a S
            refine s_want S rfl rfl rfl rfl hb32 ?_
            refine s_lv0 S (rn_load Tryz.isAgg9 (S.tm rfl) (S.cell (i := 0) rfl rfl)) rfl ?_; clear S; intro a S
            refine s_want S rfl rfl rfl rfl hb32 ?_
            refine s_lv0 S (rn_sneq (S.tm rfl) rfl) rfl ?_; clear S; intro a S
            refine s_want S rfl rfl rfl rfl hb32 ?_
            refine s_lv0 S (rn_move (S.tm rfl)) rfl ?_; clear S; intro a S
            refine s_cutm 7 (fun a w' => Keep [] w66 w' ∧ Sx w [] nov [.blk b8 [.string (swimmer_clubAt p_m y1.Who p_b.Day), .string y1.Race] 92, .blk b7 [.string r4.1.Key, .int .i64 r4.1.Sex, .int .i64 r4.1.Born] 56, .blk b6 [.string r3.1.Key, .int .i64 r3.1.Metres, .int .i64 r3.1.Stroke, .int .i64 r3.1.Course, .int .i64 r3.1.Legs, .int .i64 r3.1.Sex, .int .i64 r3.1.Young, .int .i64 r3.1.Old] 52, .blk b5 [.string y1.Who, .string y1.Race] 45, .own v3 3 1 x1.length (x1.flatMap eInt), .map b3 (ments (fun x => Value.agg (Gswimmer_place.enc x).toArray) (Value.int .i64) x2) x2.length, .map b2 (ments Value.string (Value.int .i64) x3) x3.length, .blk b1 [.int .i64 p_b.Races, .int .i64 p_b.Club, .int .i64 p_b.Age, .int .i64 p_b.Day] 33] [(0, v_p_r), (1, v_p_s), (2, v_p_m), (8, .pointer (some ⟨b1, 0, none⟩)), (14, .map (some b2)), (15, .map (some b3)), (16, v3), (17, .int .i64 (i1 : Int)), (18, .pointer (some ⟨b5, 0, none⟩)), (23, .pointer (some ⟨b8, 0, none⟩)), (39, v_p_l), (40, .int .i64 (p_l.length : Int)), (41, .int .i64 (i1 : Int)), (74, .pointer (some ⟨b6, 4, none⟩)), (75, .int .i64 r3.1.Legs), (76, .bool (decide (1 < r3.1.Legs))), (79, .bool r4.2), (80, .bool (!r4.2)), (83, .agg #[.string r3.1.Key, .int .i64 r3.1.Metres, .int .i64 r3.1.Stroke, .int .i64 r3.1.Course, .int .i64 r3.1.Legs, .int .i64 r3.1.Sex, .int .i64 r3.1.Young, .int .i64 r3.1.Old]), (84, .agg #[.string r4.1.Key, .int .i64 r4.1.Sex, .int .i64 r4.1.Born]), (85, .pointer (some ⟨b1, 3, none⟩)), (86, .int .i64 p_b.Day), (87, .pointer (some ⟨b1, 2, none⟩)), (88, .int .i64 p_b.Age), (89, .bool r8), (90, .bool (!r8)), (101, .bool ((!r8) || (decide (p_b.Races ≤ (mgetD x3 y1.Who 0))))), (102, .pointer (some ⟨b8, 0, none⟩)), (103, .string (swimmer_clubAt p_m y1.Who p_b.Day)), (104, .bool (!decide ((swimmer_clubAt p_m y1.Who p_b.Day) = k_empty))), (105, .bool (!decide ((swimmer_clubAt p_m y1.Who p_b.Day) = k_empty))), (112, .bool ((!decide ((swimmer_clubAt p_m y1.Who p_b.Day) = k_empty)) && (decide (p_b.Club ≤ (mgetD x2 (Gswimmer_place.mk (swimmer_clubAt p_m y1.Who p_b.Day) y1.Race) 0)))))] 131 a w') ?_ ?_
            ·rcases Bool.eq_false_or_eq_true (!decide ((swimmer_clubAt p_m y1.Who p_b.Day) = k_empty)) with hb33 | hb33
             ·refine s_want S rfl rfl rfl rfl hb33 ?_
              refine s_lv0 S (rn_move (S.tm rfl)) rfl ?_; clear S; intro a S
              refine s_want S rfl rfl rfl rfl hb33 ?_
              refine s_lv0 S (rn_ldA Tryz.isAgg92 Tryz.sizeOf92 (off := 0) (o := 0) (part := [.string (swimmer_clubAt p_m y1.Who p_b.Day), .string y1.Race]) rfl rfl (S.tm rfl) (S.cellsAt (i := 0) rfl)) rfl ?_; clear S; intro a S
              refine s_want S rfl rfl rfl rfl hb33 ?_
              refine s_lv0 S (rn_lookup (kv := (fun x => Value.agg (Gswimmer_place.enc x).toArray)) (vv := (Value.int .i64)) (m := x2) (key := (Gswimmer_place.mk (swimmer_clubAt p_m y1.Who p_b.Day) y1.Race)) (z := 0) (S.map_at (i := 5) rfl) Tryz.underlying85 keyT_92 Tryz.zeroValue3 (S.tm rfl) (S.tm rfl)) rfl ?_; clear S; intro a S
              refine s_want S rfl rfl rfl rfl hb33 ?_
              refine s_lv0 S (rn_fld fa_33_1 (S.tm rfl)) rfl ?_; clear S; intro a S
              refine s_want S rfl rfl rfl rfl hb33 ?_
              refine s_lv0 S (rn_load Tryz.isAgg3 (S.tm rfl) (S.cell (i := 7) rfl rfl)) rfl ?_; clear S; intro a S
              refine s_want S rfl rfl rfl rfl hb33 ?_
              refine s_lv0 S (rn_geq (S.tm rfl) (S.tm rfl)) rfl ?_; clear S; intro a S
              refine s_want S rfl rfl rfl rfl hb32 ?_
              refine s_lv0 S (rn_and_t hb33 (S.tm rfl) (S.tm rfl)) rfl ?_; clear S; intro a S
              refine s_done ?_
              exact ⟨Keep.refl _ _, S.nf [true, true, true, true, true, true, true, true] rfl ⟨rfl, rfl, rfl, rfl, rfl, rfl, rfl, rfl, rfl, rfl, rfl, rfl, rfl, rfl, rfl, rfl, rfl, rfl, rfl, rfl, rfl, rfl, rfl, rfl, rfl, rfl, rfl, rfl, rfl, rfl, rfl, rfl, trivial⟩⟩
             ·refine s_skip S rfl rfl rfl rfl (neq_f hb33) rfl ?_ rfl; clear S; intro a S
              refine s_skip S rfl rfl rfl rfl (neq_f hb33) rfl ?_ rfl; clear S; intro a S
              refine s_skip S rfl rfl rfl rfl (neq_f hb33) rfl ?_ rfl; clear S; intro a S
              refine s_skip S rfl rfl rfl rfl (neq_f hb33) rfl ?_ rfl; clear S; intro a S
              refine s_skip S rfl rfl rfl rfl (neq_f hb33) rfl ?_ rfl; clear S; intro a S
              refine s_skip S rfl rfl rfl rfl (neq_f hb33) rfl ?_ rfl; clear S; intro a S
              refine s_want S rfl rfl rfl rfl hb32 ?_
              refine s_lv0 S (rn_and_f (decide (p_b.Club ≤ (mgetD x2 (Gswimmer_place.mk (swimmer_clubAt p_m y1.Who p_b.Day) y1.Race) 0))) hb33 (S.tm rfl) rfl) rfl ?_; clear S; intro a S
              refine s_done ?_
              exact ⟨Keep.refl _ _, S.nf [true, true, true, true, true, true, true, true] rfl ⟨rfl, rfl, rfl, rfl, rfl, rfl, rfl, rfl, rfl, rfl, rfl, rfl, rfl, rfl, rfl, rfl, rfl, rfl, rfl, rfl, rfl, rfl, rfl, rfl, rfl, rfl, rfl, rfl, rfl, rfl, rfl, rfl, trivial⟩⟩
            clear S; rintro a w68 ⟨hk62, S⟩
            refine s_lv S rfl (rn_or_f hb32 (S.tm rfl) (S.tm rfl)) rfl ?_; clear S; intro a S
            refine s_done ?_
            exact ⟨hk62, S.nf [true, true, true, true, true, true, true, true] rfl ⟨rfl, rfl, rfl, rfl, rfl, rfl, rfl, rfl, rfl, rfl, rfl, rfl, rfl, rfl, rfl, rfl, rfl, rfl, rfl, rfl, rfl, rfl, rfl, rfl, rfl, rfl, rfl, trivial⟩⟩
          clear S; rintro a w67 ⟨hk63, S⟩
          refine s_done ?_
          replace S := S.nk [.blk b8 [.string (swimmer_clubAt p_m y1.Who p_b.Day), .string y1.Race] 92, .blk b6 [.string r3.1.Key, .int .i64 r3.1.Metres, .int .i64 r3.1.Stroke, .int .i64 r3.1.Course, .int .i64 r3.1.Legs, .int .i64 r3.1.Sex, .int .i64 r3.1.Young, .int .i64 r3.1.Old] 52, .blk b5 [.string y1.Who, .string y1.Race] 45, .own v3 3 1 x1.length (x1.flatMap eInt), .map b3 (ments (fun x => Value.agg (Gswimmer_place.enc x).toArray) (Value.int .i64) x2) x2.length, .map b2 (ments Value.string (Value.int .i64) x3) x3.length, .blk b1 [.int .i64 p_b.Races, .int .i64 p_b.Club, .int .i64 p_b.Age, .int .i64 p_b.Day] 33] [(0, v_p_r), (1, v_p_s), (2, v_p_m), (8, .pointer (some ⟨b1, 0, none⟩)), (14, .map (some b2)), (15, .map (some b3)), (16, v3), (17, .int .i64 (i1 : Int)), (18, .pointer (some ⟨b5, 0, none⟩)), (23, .pointer (some ⟨b8, 0, none⟩)), (39, v_p_l), (40, .int .i64 (p_l.length : Int)), (41, .int .i64 (i1 : Int)), (74, .pointer (some ⟨b6, 4, none⟩)), (75, .int .i64 r3.1.Legs), (76, .bool (decide (1 < r3.1.Legs))), (79, .bool r4.2), (80, .bool (!r4.2)), (83, .agg #[.string r3.1.Key, .int .i64 r3.1.Metres, .int .i64 r3.1.Stroke, .int .i64 r3.1.Course, .int .i64 r3.1.Legs, .int .i64 r3.1.Sex, .int .i64 r3.1.Young, .int .i64 r3.1.Old]), (84, .agg #[.string r4.1.Key, .int .i64 r4.1.Sex, .int .i64 r4.1.Born]), (85, .pointer (some ⟨b1, 3, none⟩)), (86, .int .i64 p_b.Day), (87, .pointer (some ⟨b1, 2, none⟩)), (88, .int .i64 p_b.Age), (89, .bool r8), (90, .bool (!r8)), (113, .bool (((!r8) || (decide (p_b.Races ≤ (mgetD x3 y1.Who 0)))) || ((!decide ((swimmer_clubAt p_m y1.Who p_b.Day) = k_empty)) && (decide (p_b.Club ≤ (mgetD x2 (Gswimmer_place.mk (swimmer_clubAt p_m y1.Who p_b.Day) y1.Race) 0))))))] [true, false, true, true, true, true, true, true] rfl ⟨rfl, rfl, rfl, rfl, rfl, rfl, rfl, rfl, rfl, rfl, rfl, rfl, rfl, rfl, rfl, rfl, rfl, rfl, rfl, rfl, rfl, rfl, rfl, rfl, rfl, rfl, rfl, trivial⟩
          refine then_n ?_
          exact ⟨(((!r8) || (decide (p_b.Races ≤ (mgetD x3 y1.Who 0)))) || ((!decide ((swimmer_clubAt p_m y1.Who p_b.Day) = k_empty)) && (decide (p_b.Club ≤ (mgetD x2 (Gswimmer_place.mk (swimmer_clubAt p_m y1.Who p_b.Day) y1.Race) 0))))), h, S.nf [true, false, true, true, true, true, true] rfl ⟨rfl, rfl, rfl, rfl, rfl, rfl, rfl, rfl, rfl, rfl, rfl, rfl, rfl, rfl, trivial⟩⟩
      clear S h; rintro a w28 ⟨x7, h, S⟩; rw [hj4] at h; clear hj4 j4
      refine then_n ?_
      refine f_cond (S.tm rfl) (fun hb34 => ?_) (fun hb34 => ?_)
      ·replace h := iteT h hb34
       refine f_seq ?_
       refine f_region ?_
       refine lv S (rn_move (S.tm rfl)) rfl ?_; clear S; intro a S
       refine lv S (rn_move (S.tm rfl)) rfl ?_; clear S; intro a S
       refine l_buildSlice S Tryz.underlying22 Tryz.sizeOf3 Tryz.zeroValue3 rfl rfl (pv := [(0, .int .i64 (i1 : Int))]) ⟨rfl, (S.tm rfl), trivial⟩ (cs := [.int .i64 (i1 : Int)]) (by kernel_rfl) rfl ?_; clear S; intro a w69 b12 hz10 hk64 S
       obtain ⟨hc1, h⟩ := chkE h
       refine l_appendT sl_22 enc_int S (S.tm rfl) (i := 3) rfl (S.tm rfl) (j := 0) rfl (ys := [(i1 : Int)]) rfl rfl rfl rfl (by have := room_lt hc1; omega) rfl ?_; clear S; intro v18 a w70 hk65 S
       refine lv S (rn_assign (S.tm rfl)) rfl ?_; clear S; intro a S
       refine l_done ?_
       replace S := S.nk [.own v18 3 1 (x1 ++ [(i1 : Int)]).length ((x1 ++ [(i1 : Int)]).flatMap eInt), .map b3 (ments (fun x => Value.agg (Gswimmer_place.enc x).toArray) (Value.int .i64) x2) x2.length, .map b2 (ments Value.string (Value.int .i64) x3) x3.length, .blk b1 [.int .i64 p_b.Races, .int .i64 p_b.Club, .int .i64 p_b.Age, .int .i64 p_b.Day] 33] [(0, v_p_r), (1, v_p_s), (2, v_p_m), (8, .pointer (some ⟨b1, 0, none⟩)), (14, .map (some b2)), (15, .map (some b3)), (16, v18), (39, v_p_l), (40, .int .i64 (p_l.length : Int)), (41, .int .i64 (i1 : Int))] [false, false, false, true, true, true, true] rfl ⟨rfl, rfl, rfl, rfl, rfl, rfl, rfl, rfl, rfl, rfl, trivial⟩
       refine then_n ?_
       refine wp_exit ?_
       refine then_x ?_
       refine x_same ?_
       refine then_n ?_
       exact ⟨(x1 ++ [(i1 : Int)]), x2, x3, v18, h, S.nf [true, true, true, true] rfl ⟨rfl, rfl, rfl, rfl, rfl, rfl, rfl, rfl, rfl, rfl, trivial⟩⟩
      ·replace h := iteF h hb34
       refine wp_skip ?_
       refine then_n ?_
       refine f_seq ?_
       refine f_region ?_
       refine lv S (rn_move (S.tm rfl)) rfl ?_; clear S; intro a S
       refine lv S (rn_fld fa_45_0 (S.tm rfl)) rfl ?_; clear S; intro a S
       refine lv S (rn_load Tryz.isAgg9 (S.tm rfl) (S.cell (i := 1) rfl rfl)) rfl ?_; clear S; intro a S
       refine lv S (rn_lookup (kv := Value.string) (vv := (Value.int .i64)) (m := x3) (key := y1.Who) (z := 0) (S.map_at (i := 4) rfl) Tryz.underlying84 (keyT_str Tryz.underlying9) Tryz.zeroValue3 (S.tm rfl) (S.tm rfl)) rfl ?_; clear S; intro a S
       refine lv S (rn_add (S.tm rfl) rfl) rfl ?_; clear S; intro a S
       refine l_mapUpdate (kv := Value.string) (vv := (Value.int .i64)) (m := x3) (key := y1.Who) (val := W ((mgetD x3 y1.Who 0) + 1)) S (i := 4) rfl Tryz.underlying84 (keyT_str Tryz.underlying9) (S.tm rfl) (S.tm rfl) (S.tm rfl) ?_; clear S; intro w71 hk66 S
       refine l_done ?_
       replace S := S.nk [.blk b8 [.string (swimmer_clubAt p_m y1.Who p_b.Day), .string y1.Race] 92, .own v3 3 1 x1.length (x1.flatMap eInt), .map b3 (ments (fun x => Value.agg (Gswimmer_place.enc x).toArray) (Value.int .i64) x2) x2.length, .map b2 (ments Value.string (Value.int .i64) (mput x3 y1.Who (W ((mgetD x3 y1.Who 0) + 1)))) (mput x3 y1.Who (W ((mgetD x3 y1.Who 0) + 1))).length, .blk b1 [.int .i64 p_b.Races, .int .i64 p_b.Club, .int .i64 p_b.Age, .int .i64 p_b.Day] 33] [(0, v_p_r), (1, v_p_s), (2, v_p_m), (8, .pointer (some ⟨b1, 0, none⟩)), (14, .map (some b2)), (15, .map (some b3)), (16, v3), (23, .pointer (some ⟨b8, 0, none⟩)), (39, v_p_l), (40, .int .i64 (p_l.length : Int)), (41, .int .i64 (i1 : Int))] [true, false, true, true, true, true] rfl ⟨rfl, rfl, rfl, rfl, rfl, rfl, rfl, rfl, rfl, rfl, rfl, trivial⟩
       refine then_n ?_
       obtain ⟨j5, hj5, h⟩ := joinE h
       refine f_join (fun a w' => j5 = some r ∧ Sx w [] nov [.own v3 3 1 x1.length (x1.flatMap eInt), .map b3 (ments (fun x => Value.agg (Gswimmer_place.enc x).toArray) (Value.int .i64) (mput x2 (Gswimmer_place.mk (swimmer_clubAt p_m y1.Who p_b.Day) y1.Race) (W ((mgetD x2 (Gswimmer_place.mk (swimmer_clubAt p_m y1.Who p_b.Day) y1.Race) 0) + 1)))) (mput x2 (Gswimmer_place.mk (swimmer_clubAt p_m y1.Who p_b.Day) y1.Race) (W ((mgetD x2 (Gswimmer_place.mk (swimmer_clubAt p_m y1.Who p_b.Day) y1.Race) 0) + 1))).length, .map b2 (ments Value.string (Value.int .i64) (mput x3 y1.Who (W ((mgetD x3 y1.Who 0) + 1)))) (mput x3 y1.Who (W ((mgetD x3 y1.Who 0) + 1))).length, .blk b1 [.int .i64 p_b.Races, .int .i64 p_b.Club, .int .i64 p_b.Age, .int .i64 p_b.Day] 33] [(0, v_p_r), (1, v_p_s), (2, v_p_m), (8, .pointer (some ⟨b1, 0, none⟩)), (14, .map (some b2)), (15, .map (some b3)), (16, v3), (39, v_p_l), (40, .int .i64 (p_l.length : Int)), (41, .int .i64 (i1 : Int))] 131 a w') ?_ ?_
       ·refine d_region [] ([b3]) Tryz.mixed S rfl (by kernel_rfl) ?_; clear S; intro w75 hk69 hsel S
        refine d_quiet 0 S hsel rfl rfl rfl (by kernel_rfl) (by kernel_rfl) rfl (fun _ hw => (rn_move (S.tm rfl))) ?_; clear S; intro a S
        refine d_quiet 1 S hsel rfl rfl rfl (by kernel_rfl) (by kernel_rfl) rfl (fun _ hw => (rn_ldA Tryz.isAgg92 Tryz.sizeOf92 (off := 0) (o := 0) (part := [.string (swimmer_clubAt p_m y1.Who p_b.Day), .string y1.Race]) rfl rfl (S.tm rfl) ((S.blk_mem (i := 0) (cells := [.string (swimmer_clubAt p_m y1.Who p_b.Day), .string y1.Race]) (b := b8) (T := 92) rfl (ne_fp (i := 2) (j := 0) (e := .map b3 (ments (fun x => Value.agg (Gswimmer_place.enc x).toArray) (Value.int .i64) x2) x2.length) (e' := .blk b8 [.string (swimmer_clubAt p_m y1.Who p_b.Day), .string y1.Race] 92) S rfl rfl rfl)).kept hw))) ?_; clear S; intro a S
        refine d_loud2 2 4 (by kernel_rfl) rfl rfl ?_ ?_
        ·refine lv S (rn_lookup (kv := (fun x => Value.agg (Gswimmer_place.enc x).toArray)) (vv := (Value.int .i64)) (m := x2) (key := (Gswimmer_place.mk (swimmer_clubAt p_m y1.Who p_b.Day) y1.Race)) (z := 0) (S.map_at (i := 2) rfl) Tryz.underlying85 keyT_92 Tryz.zeroValue3 (S.tm rfl) (S.tm rfl)) rfl ?_; clear S; intro a S
         refine l_done ?_
         refine d_next (Keep.refl _ _) ?_
         refine d_quiet 3 S hsel rfl rfl rfl (by kernel_rfl) (by kernel_rfl) rfl (fun _ hw => (rn_add (S.tm rfl) rfl)) ?_; clear S; intro a S
         refine d_loud1 4 (by kernel_rfl) rfl ?_
         refine l_mapEntry (kv := (fun x => Value.agg (Gswimmer_place.enc x).toArray)) (vv := (Value.int .i64)) (m := x2) (key := (Gswimmer_place.mk (swimmer_clubAt p_m y1.Who p_b.Day) y1.Race)) (z := 0) S (i := 2) rfl Tryz.underlying85 keyT_92 Tryz.zeroValue3 (S.tm rfl) (S.tm rfl) rfl ?_; clear S; intro a w76 hk70 S
         refine l_done ?_
         refine d_next hk70 ?_
         refine d_quiet 5 S hsel rfl rfl rfl (by kernel_rfl) (by kernel_rfl) rfl (fun _ hw => (rn_extract (S.tm rfl) rfl)) ?_; clear S; intro a S
         refine d_loud1 6 (by kernel_rfl) rfl ?_
         refine l_entryStore (kv := (fun x => Value.agg (Gswimmer_place.enc x).toArray)) (vv := (Value.int .i64)) (m := x2) (key := (Gswimmer_place.mk (swimmer_clubAt p_m y1.Who p_b.Day) y1.Race)) (old := (mgetD x2 (Gswimmer_place.mk (swimmer_clubAt p_m y1.Who p_b.Day) y1.Race) 0)) (val := W ((mgetD x2 (Gswimmer_place.mk (swimmer_clubAt p_m y1.Who p_b.Day) y1.Race) 0) + 1)) S (i := 2) rfl (S.tm rfl) (S.tm rfl) (S.tm rfl) ?_; clear S; intro w77 hk71 S
         refine l_done ?_
         refine d_next hk71 ?_
         refine d_end (by kernel_rfl) ?_
         clear hsel
         replace S := S.nk [.own v3 3 1 x1.length (x1.flatMap eInt), .map b3 (ments (fun x => Value.agg (Gswimmer_place.enc x).toArray) (Value.int .i64) (mput x2 (Gswimmer_place.mk (swimmer_clubAt p_m y1.Who p_b.Day) y1.Race) (W ((mgetD x2 (Gswimmer_place.mk (swimmer_clubAt p_m y1.Who p_b.Day) y1.Race) 0) + 1)))) (mput x2 (Gswimmer_place.mk (swimmer_clubAt p_m y1.Who p_b.Day) y1.Race) (W ((mgetD x2 (Gswimmer_place.mk (swimmer_clubAt p_m y1.Who p_b.Day) y1.Race) 0) + 1))).length, .map b2 (ments Value.string (Value.int .i64) (mput x3 y1.Who (W ((mgetD x3 y1.Who 0) + 1)))) (mput x3 y1.Who (W ((mgetD x3 y1.Who 0) + 1))).length, .blk b1 [.int .i64 p_b.Races, .int .i64 p_b.Club, .int .i64 p_b.Age, .int .i64 p_b.Day] 33] [(0, v_p_r), (1, v_p_s), (2, v_p_m), (8, .pointer (some ⟨b1, 0, none⟩)), (14, .map (some b2)), (15, .map (some b3)), (16, v3), (39, v_p_l), (40, .int .i64 (p_l.length : Int)), (41, .int .i64 (i1 : Int))] [false, true, true, true, true] rfl ⟨rfl, rfl, rfl, rfl, rfl, rfl, rfl, rfl, rfl, rfl, trivial⟩
         refine then_n ?_
         exact ⟨h, S.nf [true, true, true, true] rfl ⟨rfl, rfl, rfl, rfl, rfl, rfl, rfl, rfl, rfl, rfl, trivial⟩⟩
        ·refine l_mapEntry (kv := (fun x => Value.agg (Gswimmer_place.enc x).toArray)) (vv := (Value.int .i64)) (m := x2) (key := (Gswimmer_place.mk (swimmer_clubAt p_m y1.Who p_b.Day) y1.Race)) (z := 0) S (i := 2) rfl Tryz.underlying85 keyT_92 Tryz.zeroValue3 (S.tm rfl) (S.tm rfl) rfl ?_; clear S; intro a w78 hk72 S
         refine l_done ?_
         refine d_next hk72 ?_
         refine d_quiet 5 S hsel rfl rfl rfl (by kernel_rfl) (by kernel_rfl) rfl (fun _ hw => (rn_extract (S.tm rfl) rfl)) ?_; clear S; intro a S
         refine d_loud1 2 (by kernel_rfl) rfl ?_
         refine lv S (rn_lookupP (kv := (fun x => Value.agg (Gswimmer_place.enc x).toArray)) (vv := (Value.int .i64)) (m := x2) (key := (Gswimmer_place.mk (swimmer_clubAt p_m y1.Who p_b.Day) y1.Race)) (u := (mgetD x2 (Gswimmer_place.mk (swimmer_clubAt p_m y1.Who p_b.Day) y1.Race) 0)) (z := 0) (S.map_at (i := 2) rfl) Tryz.underlying85 keyT_92 Tryz.zeroValue3 (S.tm rfl) (S.tm rfl)) rfl ?_; clear S; intro a S
         refine l_done ?_
         refine d_next (Keep.refl _ _) ?_
         refine d_quiet 3 S hsel rfl rfl rfl (by kernel_rfl) (by kernel_rfl) rfl (fun _ hw => (rn_add (S.tm rfl) rfl)) ?_; clear S; intro a S
         refine d_loud1 6 (by kernel_rfl) rfl ?_
         refine l_entryStore (kv := (fun x => Value.agg (Gswimmer_place.enc x).toArray)) (vv := (Value.int .i64)) (m := x2) (key := (Gswimmer_place.mk (swimmer_clubAt p_m y1.Who p_b.Day) y1.Race)) (old := (mgetD x2 (Gswimmer_place.mk (swimmer_clubAt p_m y1.Who p_b.Day) y1.Race) 0)) (val := W ((mgetD x2 (Gswimmer_place.mk (swimmer_clubAt p_m y1.Who p_b.Day) y1.Race) 0) + 1)) S (i := 2) rfl (S.tm rfl) (S.tm rfl) (S.tm rfl) ?_; clear S; intro w79 hk73 S
         refine l_done ?_
         refine d_next hk73 ?_
         refine d_end (by kernel_rfl) ?_
         clear hsel
         replace S := S.nk [.own v3 3 1 x1.length (x1.flatMap eInt), .map b3 (ments (fun x => Value.agg (Gswimmer_place.enc x).toArray) (Value.int .i64) (mput x2 (Gswimmer_place.mk (swimmer_clubAt p_m y1.Who p_b.Day) y1.Race) (W ((mgetD x2 (Gswimmer_place.mk (swimmer_clubAt p_m y1.Who p_b.Day) y1.Race) 0) + 1)))) (mput x2 (Gswimmer_place.mk (swimmer_clubAt p_m y1.Who p_b.Day) y1.Race) (W ((mgetD x2 (Gswimmer_place.mk (swimmer_clubAt p_m y1.Who p_b.Day) y1.Race) 0) + 1))).length, .map b2 (ments Value.string (Value.int .i64) (mput x3 y1.Who (W ((mgetD x3 y1.Who 0) + 1)))) (mput x3 y1.Who (W ((mgetD x3 y1.Who 0) + 1))).length, .blk b1 [.int .i64 p_b.Races, .int .i64 p_b.Club, .int .i64 p_b.Age, .int .i64 p_b.Day] 33] [(0, v_p_r), (1, v_p_s), (2, v_p_m), (8, .pointer (some ⟨b1, 0, none⟩)), (14, .map (some b2)), (15, .map (some b3)), (16, v3), (39, v_p_l), (40, .int .i64 (p_l.length : Int)), (41, .int .i64 (i1 : Int))] [false, true, true, true, true] rfl ⟨rfl, rfl, rfl, rfl, rfl, rfl, rfl, rfl, rfl, rfl, trivial⟩
         refine then_n ?_
         exact ⟨h, S.nf [true, true, true, true] rfl ⟨rfl, rfl, rfl, rfl, rfl, rfl, rfl, rfl, rfl, rfl, trivial⟩⟩
       clear S h; rintro a w72 ⟨h, S⟩; rw [hj5] at h; clear hj5 j5
       refine blk_n ?_
       refine then_n ?_
       exact ⟨x1, (mput x2 (Gswimmer_place.mk (swimmer_clubAt p_m y1.Who p_b.Day) y1.Race) (W ((mgetD x2 (Gswimmer_place.mk (swimmer_clubAt p_m y1.Who p_b.Day) y1.Race) 0) + 1))), (mput x3 y1.Who (W ((mgetD x3 y1.Who 0) + 1))), v3, h, S.nf [true, true, true, true] rfl ⟨rfl, rfl, rfl, rfl, rfl, rfl, rfl, rfl, rfl, rfl, trivial⟩⟩
     clear S h; rintro a w8 ⟨x4, x5, x6, v4, h, S⟩; rw [hj2] at h; clear hj2 j2
     refine then_n ?_
     refine f_region ?_
     refine lv S (rn_add (S.tm rfl) rfl) rfl ?_; clear S; intro a S
     refine lv S (rn_move (S.tm rfl)) rfl ?_; clear S; intro a S
     refine l_done ?_
     replace S := S.nk [.own v4 3 1 x4.length (x4.flatMap eInt), .map b3 (ments (fun x => Value.agg (Gswimmer_place.enc x).toArray) (Value.int .i64) x5) x5.length, .map b2 (ments Value.string (Value.int .i64) x6) x6.length, .blk b1 [.int .i64 p_b.Races, .int .i64 p_b.Club, .int .i64 p_b.Age, .int .i64 p_b.Day] 33] [(0, v_p_r), (1, v_p_s), (2, v_p_m), (8, .pointer (some ⟨b1, 0, none⟩)), (14, .map (some b2)), (15, .map (some b3)), (16, v4), (39, v_p_l), (40, .int .i64 (p_l.length : Int)), (41, .int .i64 (W ((i1 : Int) + 1)))] [true, true, true, true] rfl ⟨rfl, rfl, rfl, rfl, rfl, rfl, rfl, rfl, rfl, rfl, trivial⟩
     refine then_n ?_
     exact ⟨ys1, ⟨i1 + 1, x4, x5, x6, v4, ⟨_, (hd1).trans (List.append_cons _ _ _), by simp [hi1]⟩, h, S.nf [true, true, true, true] rfl ⟨rfl, rfl, rfl, rfl, rfl, rfl, rfl, rfl, rfl, (congrArg (fun z => some (Value.int .i64 z)) (rng_next hd1 hi1 (slc_max hs_p_l))), trivial⟩⟩, Nat.lt_succ_self _⟩
   clear S h; rintro a w7 ⟨x1, x2, x3, v3, h, S⟩; rw [hj1] at h; clear hj1 j1
   refine then_n ?_
   refine f_seq ?_
   refine f_region ?_
   refine lv S (rn_move (S.tm rfl)) rfl ?_; clear S; intro a S
   refine lv S (rn_assign (S.tm rfl)) rfl ?_; clear S; intro a S
   refine lv S (rn_assign rfl) rfl ?_; clear S; intro a S
   refine l_done ?_
   replace S := S.nk [.own v3 3 1 x1.length (x1.flatMap eInt)] [(10, v3), (11, .int .i64 0)] [true, false, false, false] rfl ⟨rfl, rfl, trivial⟩
   refine then_n ?_
   refine wp_ret ?_
   obtain rfl := Option.some.inj h
   exact f_ret2 S Tryz.results13 rfl rfl ⟨_, rfl, (own_retT S (i := 0) rfl rfl)⟩
theorem slices_Index_int_ok (w : World) (v_p_s : Value) (p_s : List Int) (hs_p_s : Slc (view w []) 1 v_p_s (p_s.map eInt)) (p_v : Int) (r : Int) (h : slices_Index_int p_s p_v = r) :
    Calls Tryz.prog 36 [v_p_s, .int .i64 p_v].toArray w (Ret w [] fun _ v _ => v = .int .i64 r) := by
 refine f_enter [] [] Tryz.func36 rfl Tryz.ntmps36 rfl (by simp) (by simp [fps]) (by simp [fps]) fun a S => ?_
 unfold slices_Index_int at h
 replace S := S.nk [] [(0, v_p_s), (1, .int .i64 p_v)] [] rfl ⟨rfl, rfl, trivial⟩
 refine f_seq ?_
 refine f_region ?_
 refine lv S (rn_assign rfl) rfl ?_; clear S; intro a S
 refine l_done ?_
 replace S := S.nk [] [(0, v_p_s), (1, .int .i64 p_v)] [] rfl ⟨rfl, rfl, trivial⟩
 refine then_n ?_
 refine f_seq ?_
 refine f_seq ?_
 refine f_region ?_
 refine lv S (rn_move (S.tm rfl)) rfl ?_; clear S; intro a S
 refine lv S (rn_lenT sl_22 (S.tm rfl) (slc_len hs_p_s)) rfl ?_; clear S; intro a S
 refine lv S (rn_move rfl) rfl ?_; clear S; intro a S
 refine l_done ?_
 replace S := S.nk [] [(0, v_p_s), (1, .int .i64 p_v), (7, .int .i64 (p_s.length : Int)), (8, .int .i64 0)] [] rfl ⟨rfl, rfl, rfl, rfl, trivial⟩
 refine then_n ?_
 obtain ⟨j1, hj1, h⟩ := joinE h
 refine f_join (fun a w' => j1 = r ∧ Sx w [] nov [] [] 19 a w') ?_ ?_
 ·refine wp_block ?_
  refine f_loop (fun (ys1 : List Int) a w' => ∃ i1 : Nat, (∃ dn, p_s = dn ++ ys1 ∧ dn.length = i1) ∧ slices_Index_int_l1 p_v j1 ys1 i1 = r ∧ Sx w [] nov [] [(0, v_p_s), (1, .int .i64 p_v), (7, .int .i64 (p_s.length : Int)), (8, .int .i64 (i1 : Int))] 19 a w') List.length p_s ⟨0, ⟨[], rfl, rfl⟩, h, S.nf [] rfl ⟨rfl, rfl, rfl, rfl, trivial⟩⟩ ?_
  clear S h; rintro ys1 a w1 ⟨i1, ⟨dn, hd1, hi1⟩, h, S⟩
  cases ys1 with
  | nil =>
   rw [slices_Index_int_l1.eq_1] at h
   refine f_seq ?_
   refine f_region ?_
   refine lv S (rn_lss (S.tm rfl) (S.tm rfl)) rfl ?_; clear S; intro a S
   refine l_done ?_
   replace S := S.nk [] [(0, v_p_s), (1, .int .i64 p_v), (7, .int .i64 (p_s.length : Int)), (8, .int .i64 (i1 : Int)), (9, .bool (decide ((i1 : Int) < (p_s.length : Int))))] [] rfl ⟨rfl, rfl, rfl, rfl, rfl, trivial⟩
   refine then_n ?_
   refine f_seq ?_
   refine wp_cond_false ((S.tm rfl).trans (congrArg Value.bool (rng_nil hd1 hi1))) ?_
   refine wp_exit ?_
   refine then_x ?_
   refine then_x ?_
   refine x_same ?_
   refine then_n ?_
   exact ⟨h, S.nf [] rfl trivial⟩
  | cons y1 ys1 =>
   rw [slices_Index_int_l1.eq_2] at h
   refine f_seq ?_
   refine f_region ?_
   refine lv S (rn_lss (S.tm rfl) (S.tm rfl)) rfl ?_; clear S; intro a S
   refine l_done ?_
   replace S := S.nk [] [(0, v_p_s), (1, .int .i64 p_v), (7, .int .i64 (p_s.length : Int)), (8, .int .i64 (i1 : Int)), (9, .bool (decide ((i1 : Int) < (p_s.length : Int))))] [] rfl ⟨rfl, rfl, rfl, rfl, rfl, trivial⟩
   refine then_n ?_
   refine f_seq ?_
   refine wp_cond_true ((S.tm rfl).trans (congrArg Value.bool (rng_cons hd1 hi1))) ?_
   refine wp_skip ?_
   refine then_n ?_
   refine f_seq ?_
   refine wp_block ?_
   refine f_seq ?_
   refine f_region ?_
   refine lv S (rn_move (S.tm rfl)) rfl ?_; clear S; intro a S
   refine lv S (rn_assign (S.tm rfl)) rfl ?_; clear S; intro a S
   refine l_done ?_
   replace S := S.nk [] [(0, v_p_s), (1, .int .i64 p_v), (5, .int .i64 (i1 : Int)), (7, .int .i64 (p_s.length : Int)), (8, .int .i64 (i1 : Int))] [] rfl ⟨rfl, rfl, rfl, rfl, rfl, trivial⟩
   refine then_n ?_
   refine f_seq ?_
   refine f_region ?_
   refine lv S (rn_move (S.tm rfl)) rfl ?_; clear S; intro a S
   refine lv S (rn_move (S.tm rfl)) rfl ?_; clear S; intro a S
   refine lv S (rn_move (S.tm rfl)) rfl ?_; clear S; intro a S
   obtain ⟨b1, o1, hm1, hr1⟩ := rn_indexT (a := a) (x := .tmp 12) (y := .tmp 13) (ty := 0) sl_22 hs_p_s (get_mid hd1 hi1) rfl (S.tm rfl) (S.tm rfl)
   refine lv S (hr1 _) rfl ?_; clear S; intro a S
   clear hr1
   refine lv S (rn_ld Tryz.isAgg3 (off := o1) (o := 0) (S.tm rfl) (hm1.at S.emb0) rfl) rfl ?_; clear S; intro a S
   refine lv S (rn_eql (S.tm rfl) (S.tm rfl)) rfl ?_; clear S; intro a S
   refine l_done ?_
   replace S := S.nk [] [(0, v_p_s), (1, .int .i64 p_v), (5, .int .i64 (i1 : Int)), (7, .int .i64 (p_s.length : Int)), (8, .int .i64 (i1 : Int)), (16, .bool (decide (p_v = y1)))] [] rfl ⟨rfl, rfl, rfl, rfl, rfl, rfl, trivial⟩
   refine then_n ?_
   refine f_cond (S.tm rfl) (fun hb1 => ?_) (fun hb1 => ?_)
   ·replace h := iteT h hb1
    refine f_seq ?_
    refine f_region ?_
    refine lv S (rn_move (S.tm rfl)) rfl ?_; clear S; intro a S
    refine lv S (rn_assign (S.tm rfl)) rfl ?_; clear S; intro a S
    refine l_done ?_
    replace S := S.nk [] [(4, .int .i64 (i1 : Int))] [] rfl ⟨rfl, trivial⟩
    refine then_n ?_
    refine wp_ret ?_
    refine blk_r ?_
    refine then_r ?_
    refine then_r ?_
    refine blk_r ?_
    refine then_r ?_
    refine then_r ?_
    subst h
    exact f_ret S Tryz.results36 rfl rfl
   ·replace h := iteF h hb1
    refine wp_skip ?_
    refine blk_n ?_
    refine then_n ?_
    refine f_region ?_
    refine lv S (rn_add (S.tm rfl) rfl) rfl ?_; clear S; intro a S
    refine lv S (rn_move (S.tm rfl)) rfl ?_; clear S; intro a S
    refine l_done ?_
    replace S := S.nk [] [(0, v_p_s), (1, .int .i64 p_v), (7, .int .i64 (p_s.length : Int)), (8, .int .i64 (W ((i1 : Int) + 1)))] [] rfl ⟨rfl, rfl, rfl, rfl, trivial⟩
    refine then_n ?_
    exact ⟨ys1, ⟨i1 + 1, ⟨_, (hd1).trans (List.append_cons _ _ _), by simp [hi1]⟩, h, S.nf [] rfl ⟨rfl, rfl, rfl, (congrArg (fun z => some (Value.int .i64 z)) (rng_next hd1 hi1 (slc_max hs_p_s))), trivial⟩⟩, Nat.lt_succ_self _⟩
 clear S h; rintro a w2 ⟨h, S⟩; rw [hj1] at h; clear hj1 j1
 refine then_n ?_
 refine f_seq ?_
 refine f_region ?_
 refine lv S (rn_assign rfl) rfl ?_; clear S; intro a S
 refine l_done ?_
 replace S := S.nk [] [(4, .int .i64 (-1))] [] rfl ⟨rfl, trivial⟩
 refine then_n ?_
 refine wp_ret ?_
 subst h
 exact f_ret S Tryz.results36 rfl rfl
theorem slices_Contains_int_ok (w : World) (v_p_s : Value) (p_s : List Int) (hs_p_s : Slc (view w []) 1 v_p_s (p_s.map eInt)) (p_v : Int) (r : Bool) (h : slices_Contains_int p_s p_v = r) :
    Calls Tryz.prog 14 [v_p_s, .int .i64 p_v].toArray w (Ret w [] fun _ v _ => v = .bool r) := by
 refine f_enter [] [] Tryz.func14 rfl Tryz.ntmps14 rfl (by simp) (by simp [fps]) (by simp [fps]) fun a S => ?_
 unfold slices_Contains_int at h
 replace S := S.nk [] [(0, v_p_s), (1, .int .i64 p_v)] [] rfl ⟨rfl, rfl, trivial⟩
 refine f_seq ?_
 refine f_region ?_
 refine lv S (rn_assign rfl) rfl ?_; clear S; intro a S
 refine l_done ?_
 replace S := S.nk [] [(0, v_p_s), (1, .int .i64 p_v)] [] rfl ⟨rfl, rfl, trivial⟩
 refine then_n ?_
 refine f_seq ?_
 refine f_region ?_
 refine lv S (rn_move (S.tm rfl)) rfl ?_; clear S; intro a S
 refine lv S (rn_move (S.tm rfl)) rfl ?_; clear S; intro a S
 refine l_enter S (fun _ => run_call (vs := [v_p_s, .int .i64 p_v]) ⟨(S.tm rfl), (S.tm rfl), trivial⟩ Tryz.call36) (slices_Index_int_ok _ v_p_s p_s (hs_p_s.mono (S.le_arg nil_sub)) p_v _ rfl) rfl ?_; clear S; intro v1 a w1 hv1 hk1 hn1 S
 subst hv1
 refine lv S (rn_geq (S.tm rfl) rfl) rfl ?_; clear S; intro a S
 refine lv S (rn_assign (S.tm rfl)) rfl ?_; clear S; intro a S
 refine l_done ?_
 replace S := S.nk [] [(4, .bool (decide (0 ≤ (slices_Index_int p_s p_v))))] [] rfl ⟨rfl, trivial⟩
 refine then_n ?_
 refine wp_ret ?_
 subst h
 exact f_ret S Tryz.results14 rfl rfl
theorem tumbkeep2_EntriesKeepBounds_ok (w : World) (v_p_l : Value) (p_l : List Int) (hs_p_l : Slc (view w []) 1 v_p_l (p_l.map eInt)) (r : Bool) (h : tumbkeep2_EntriesKeepBounds p_l = some r) :
    Calls Tryz.prog 3 [v_p_l].toArray w (Ret w [] fun _ v _ => v = .bool r) := by
 refine f_enter [] [] Tryz.func3 rfl Tryz.ntmps3 rfl (by simp) (by simp [fps]) (by simp [fps]) fun a S => ?_
 unfold tumbkeep2_EntriesKeepBounds at h
 replace S := S.nk [] [(0, v_p_l)] [] rfl ⟨rfl, trivial⟩
 refine f_seq ?_
 refine f_region ?_
 refine lv S (rn_assign rfl) rfl ?_; clear S; intro a S
 refine l_done ?_
 replace S := S.nk [] [(0, v_p_l)] [] rfl ⟨rfl, trivial⟩
 refine then_n ?_
 refine f_seq ?_
 refine f_region ?_
 refine lv S (rn_move (S.tm rfl)) rfl ?_; clear S; intro a S
 refine lv S (rn_bld bt_25 (pv := [(0, v_p_l)]) ⟨rfl, (S.tm rfl), trivial⟩ (cs := [v_p_l, .int .i64 0]) (by obtain ⟨_, _, hv⟩ := (slc_len hs_p_l); rw [hv]; clear hv; kernel_rfl)) rfl ?_; clear S; intro a S
 refine l_box S (S.tm rfl) (cs := [v_p_l, .int .i64 0]) rfl rfl ?_; clear S; intro a w1 b1 hz1 hk1 S
 refine lv S (rn_assign (S.tm rfl)) rfl ?_; clear S; intro a S
 refine l_done ?_
 replace S := S.nk [.blk b1 [v_p_l, .int .i64 0] 25] [(3, .pointer (some ⟨b1, 0, none⟩))] [true] rfl ⟨rfl, trivial⟩
 refine then_n ?_
 refine f_seq ?_
 refine f_region ?_
 refine lv S (rn_move (S.tm rfl)) rfl ?_; clear S; intro a S
 obtain ⟨r1, hr1, h⟩ := bindE h
 have hz2 := S.keep.size
 refine l_enter1 0 S (b := b1) rfl rfl (fun _ => .blk b1 [v_p_l, .int .i64 r1.2] 25) (fun _ => run_call (vs := [.pointer (some ⟨b1, 0, none⟩)]) ⟨(S.tm rfl), trivial⟩ Tryz.call4) (Stream_MeetRaces_ok _ b1 v_p_l p_l (hs_p_l.mono (S.le_arg (fp_sub (i := 0) (e := .blk b1 [v_p_l, .int .i64 0] 25) rfl))) 0 (S.holds _ (List.mem_of_getElem? (i := 0) rfl)) _ hr1) rfl (fun _ _ _ h => ⟨h.1, fun _ hc => by cases hc; rfl⟩) ?_; clear S; intro v1 a w2 hv1 hk2 hn1 S
 replace hv1 := hv1.2
 obtain ⟨φ1, hl1, hm1, S⟩ := S.see' hn1 hz2
 have hs1 := hv1.mono hm1
 refine lv S (rn_move (S.tm rfl)) rfl ?_; clear S; intro a S
 obtain ⟨r2, hr2, h⟩ := bindE h
 have hz3 := S.keep.size
 refine l_enter1 0 S (b := b1) rfl rfl (fun _ => .blk b1 [v_p_l, .int .i64 r2.2] 25) (fun _ => run_call (vs := [.pointer (some ⟨b1, 0, none⟩)]) ⟨(S.tm rfl), trivial⟩ Tryz.call5) (Stream_RightSwimmers_ok _ b1 v_p_l p_l (hs_p_l.mono (S.le_arg (fp_sub (i := 0) (e := .blk b1 [v_p_l, .int .i64 r1.2] 25) rfl))) r1.2 (S.holds _ (List.mem_of_getElem? (i := 0) rfl)) _ hr2) rfl (fun _ _ _ h => ⟨h.1, fun _ hc => by cases hc; rfl⟩) ?_; clear S; intro v2 a w3 hv2 hk3 hn2 S
 replace hv2 := hv2.2
 obtain ⟨φ2, hl2, hm2, S⟩ := S.see' hn2 hz3
 have hs2 := hv2.mono hm2
 refine lv S (rn_move (S.tm rfl)) rfl ?_; clear S; intro a S
 obtain ⟨r3, hr3, h⟩ := bindE h
 have hz4 := S.keep.size
 refine l_enter S (fun _ => run_call (vs := [.pointer (some ⟨b1, 0, none⟩)]) ⟨(S.tm rfl), trivial⟩ Tryz.call6) (Stream_OneClub_ok _ b1 v_p_l p_l (hs_p_l.mono (S.le_arg nil_sub)) r2.2 (S.blk_view (i := 0) rfl ((ne_nil (e' := .blk b1 [v_p_l, .int .i64 r2.2] 25)) _ rfl)) _ hr3) rfl ?_; clear S; intro v3 a w4 hv3 hk4 hn3 S
 obtain ⟨φ3, hl3, hm3, S⟩ := S.see' hn3 hz4
 have hs3 := hv3.mono hm3
 refine lv S (rn_move (S.tm rfl)) rfl ?_; clear S; intro a S
 obtain ⟨r4, hr4, h⟩ := bindE h
 refine l_enter1 0 S (b := b1) rfl rfl (fun _ => .blk b1 [v_p_l, .int .i64 r4.2] 25) (fun _ => run_call (vs := [.pointer (some ⟨b1, 0, none⟩)]) ⟨(S.tm rfl), trivial⟩ Tryz.call7) (Stream_Bounds_ok _ b1 v_p_l p_l (hs_p_l.mono (S.le_arg (fp_sub (i := 0) (e := .blk b1 [v_p_l, .int .i64 r2.2] 25) rfl))) r2.2 (S.holds _ (List.mem_of_getElem? (i := 0) rfl)) _ hr4) rfl (fun _ _ _ h => ⟨h.1, fun _ hc => by cases hc; rfl⟩) ?_; clear S; intro v4 a w5 hv4 hk5 hn4 S
 replace hv4 := hv4.2
 subst hv4
 refine lv S (rn_move (S.tm rfl)) rfl ?_; clear S; intro a S
 refine lv S (rn_move (S.tm rfl)) rfl ?_; clear S; intro a S
 obtain ⟨r5, hr5, h⟩ := bindE h
 refine l_enter1 0 S (b := b1) rfl rfl (fun _ => .blk b1 [v_p_l, .int .i64 r5.2] 25) (fun _ => run_call (vs := [.pointer (some ⟨b1, 0, none⟩), .int .i64 0, .int .i64 14]) ⟨(S.tm rfl), rfl, rfl, trivial⟩ Tryz.call9) (Stream_Range_ok _ b1 v_p_l p_l (hs_p_l.mono (S.le_arg (fp_sub (i := 0) (e := .blk b1 [v_p_l, .int .i64 r4.2] 25) rfl))) r4.2 (S.holds _ (List.mem_of_getElem? (i := 0) rfl)) 0 14 _ hr5) rfl (fun _ _ _ h => ⟨h.1, fun _ hc => by cases hc; rfl⟩) ?_; clear S; intro v5 a w6 hv5 hk6 hn5 S
 replace hv5 := hv5.2
 subst hv5
 obtain ⟨r6, hr6, h⟩ := bindE h
 have hz5 := S.keep.size
 refine l_enter1 0 S (b := b1) rfl rfl (fun _ => .blk b1 [v_p_l, .int .i64 r6.2] 25) (fun _ => run_call (vs := [.pointer (some ⟨b1, 0, none⟩), .int .i64 r5.1]) ⟨(S.tm rfl), (S.tm rfl), trivial⟩ Tryz.call8) (Stream_Entries_ok _ b1 v_p_l p_l (hs_p_l.mono (S.le_arg (fp_sub (i := 0) (e := .blk b1 [v_p_l, .int .i64 r5.2] 25) rfl))) r5.2 (S.holds _ (List.mem_of_getElem? (i := 0) rfl)) r5.1 _ hr6) rfl (fun _ _ _ h => ⟨h.1, fun _ hc => by cases hc; rfl⟩) ?_; clear S; intro v6 a w7 hv6 hk7 hn6 S
 replace hv6 := hv6.2
 obtain ⟨φ4, hl4, hm4, S⟩ := S.see' hn6 hz5
 have hs4 := hv6.mono hm4
 refine l_alloc S Tryz.zeroValue33 (cs := [.int .i64 0, .int .i64 0, .int .i64 0, .int .i64 0]) rfl rfl ?_; clear S; intro a w8 b2 hz6 hk8 S
 refine lv S (rn_assign (S.tm rfl)) rfl ?_; clear S; intro a S
 refine lv S (rn_assign (S.tm rfl)) rfl ?_; clear S; intro a S
 refine lv S (rn_assign (S.tm rfl)) rfl ?_; clear S; intro a S
 refine l_store S (S.tm rfl) (S.tm rfl) (i := 0) (off := 0) rfl Tryz.sizeOf33 (vs := [.int .i64 r4.1.Races, .int .i64 r4.1.Club, .int .i64 r4.1.Age, .int .i64 r4.1.Day]) rfl rfl rfl rfl ?_; clear S; intro w9 hk9 S
 refine lv S (rn_assign (S.tm rfl)) rfl ?_; clear S; intro a S
 refine l_done ?_
 replace S := S.nk [.blk b2 [.int .i64 r4.1.Races, .int .i64 r4.1.Club, .int .i64 r4.1.Age, .int .i64 r4.1.Day] 33] [(4, v1), (5, v2), (6, v3), (7, .pointer (some ⟨b2, 0, none⟩)), (8, v6)] [true, false] rfl ⟨rfl, rfl, rfl, rfl, rfl, trivial⟩
 refine then_n ?_
 refine f_seq ?_
 refine f_seq ?_
 refine f_region ?_
 refine lv S (rn_ldA Tryz.isAgg33 Tryz.sizeOf33 (off := 0) (o := 0) (part := [.int .i64 r4.1.Races, .int .i64 r4.1.Club, .int .i64 r4.1.Age, .int .i64 r4.1.Day]) rfl rfl (S.tm rfl) (S.cellsAt (i := 0) rfl)) rfl ?_; clear S; intro a S
 refine l_enter S (fun _ => run_call (vs := [.agg (GBounds.enc r4.1).toArray]) ⟨(S.tm rfl), trivial⟩ Tryz.call10) (tumbref2_BoundsFault_ok _ r4.1 _ rfl) rfl ?_; clear S; intro v7 a w10 hv7 hk10 hn7 S
 subst hv7
 refine lv S (rn_neq (S.tm rfl) rfl) rfl ?_; clear S; intro a S
 refine lv S (rn_move (S.tm rfl)) rfl ?_; clear S; intro a S
 obtain ⟨j1, hj1, h⟩ := joinE h
 refine f_cutm 4 (fun a w' => ∃ c1, j1 c1 = some r ∧ Keep [] w10 w' ∧ Sx w [] φ4 [.blk b2 [.int .i64 r4.1.Races, .int .i64 r4.1.Club, .int .i64 r4.1.Age, .int .i64 r4.1.Day] 33] [(4, v1), (5, v2), (6, v3), (7, .pointer (some ⟨b2, 0, none⟩)), (8, v6), (44, .bool c1)] 134 a w') ?_ ?_
 ·rcases Bool.eq_false_or_eq_true (!decide ((tumbref2_BoundsFault r4.1) = 0)) with hb1 | hb1
  ·replace h := iteT h hb1
   refine l_skip S rfl rfl rfl (neq_t hb1) rfl ?_ rfl; clear S; intro a S
   refine l_skip S rfl rfl rfl (neq_t hb1) rfl ?_ rfl; clear S; intro a S
   refine l_skip S rfl rfl rfl (neq_t hb1) rfl ?_ rfl; clear S; intro a S
   refine lv S (rn_or_t true hb1 (S.tm rfl) rfl) rfl ?_; clear S; intro a S
   refine l_done ?_
   refine then_n ?_
   exact ⟨_, h, Keep.refl _ _, S.nf [true] rfl ⟨rfl, rfl, rfl, rfl, rfl, rfl, trivial⟩⟩
  ·replace h := iteF h hb1
   refine l_want S rfl rfl rfl hb1 ?_
   refine lv S (rn_move (S.tm rfl)) rfl ?_; clear S; intro a S
   refine l_want S rfl rfl rfl hb1 ?_
   obtain ⟨r7, hr7, h⟩ := bindE h
   refine l_enter S (fun _ => run_call (vs := [v6]) ⟨(S.tm rfl), trivial⟩ Tryz.call11) (tumbref2_EntriesFault_ok _ v6 r6.1 (((ownV_slcT GEntry.enc_ok hs4)).mono (S.le_new nil_sub)) _ hr7) rfl ?_; clear S; intro v8 a w12 hv8 hk11 hn8 S
   subst hv8
   refine l_want S rfl rfl rfl hb1 ?_
   refine lv S (rn_neq (S.tm rfl) rfl) rfl ?_; clear S; intro a S
   refine lv S (rn_or_f hb1 (S.tm rfl) (S.tm rfl)) rfl ?_; clear S; intro a S
   refine l_done ?_
   refine then_n ?_
   exact ⟨_, h, hk11, S.nf [true] rfl ⟨rfl, rfl, rfl, rfl, rfl, rfl, trivial⟩⟩
 clear S h; rintro a w11 ⟨c1, h, hk12, S⟩; rw [hj1] at h; clear hj1 j1
 refine lv S (rn_move (S.tm rfl)) rfl ?_; clear S; intro a S
 refine f_cutm 4 (fun a w' => Keep [] w11 w' ∧ Sx w [] φ4 [.blk b2 [.int .i64 r4.1.Races, .int .i64 r4.1.Club, .int .i64 r4.1.Age, .int .i64 r4.1.Day] 33] [(4, v1), (5, v2), (6, v3), (7, .pointer (some ⟨b2, 0, none⟩)), (8, v6), (49, .bool (c1 || (decide (r4.1.Day < 0))))] 134 a w') ?_ ?_
 ·rcases Bool.eq_false_or_eq_true c1 with hb2 | hb2
  ·refine l_skip S rfl rfl rfl (neq_t hb2) rfl ?_ rfl; clear S; intro a S
   refine l_skip S rfl rfl rfl (neq_t hb2) rfl ?_ rfl; clear S; intro a S
   refine l_skip S rfl rfl rfl (neq_t hb2) rfl ?_ rfl; clear S; intro a S
   refine lv S (rn_or_t (decide (r4.1.Day < 0)) hb2 (S.tm rfl) rfl) rfl ?_; clear S; intro a S
   refine l_done ?_
   refine then_n ?_
   exact ⟨Keep.refl _ _, S.nf [true] rfl ⟨rfl, rfl, rfl, rfl, rfl, rfl, trivial⟩⟩
  ·refine l_want S rfl rfl rfl hb2 ?_
   refine lv S (rn_fld fa_33_3 (S.tm rfl)) rfl ?_; clear S; intro a S
   refine l_want S rfl rfl rfl hb2 ?_
   refine lv S (rn_load Tryz.isAgg3 (S.tm rfl) (S.cell (i := 0) rfl rfl)) rfl ?_; clear S; intro a S
   refine l_want S rfl rfl rfl hb2 ?_
   refine lv S (rn_lss (S.tm rfl) rfl) rfl ?_; clear S; intro a S
   refine lv S (rn_or_f hb2 (S.tm rfl) (S.tm rfl)) rfl ?_; clear S; intro a S
   refine l_done ?_
   refine then_n ?_
   exact ⟨Keep.refl _ _, S.nf [true] rfl ⟨rfl, rfl, rfl, rfl, rfl, rfl, trivial⟩⟩
 clear S; rintro a w13 ⟨hk13, S⟩
 refine l_done ?_
 replace S := S.nk [.blk b2 [.int .i64 r4.1.Races, .int .i64 r4.1.Club, .int .i64 r4.1.Age, .int .i64 r4.1.Day] 33] [(4, v1), (5, v2), (6, v3), (7, .pointer (some ⟨b2, 0, none⟩)), (8, v6), (49, .bool (c1 || (decide (r4.1.Day < 0))))] [true] rfl ⟨rfl, rfl, rfl, rfl, rfl, rfl, trivial⟩
 refine then_n ?_
 refine f_cond (S.tm rfl) (fun hb3 => ?_) (fun hb3 => ?_)
 ·replace h := iteT h hb3
  refine f_seq ?_
  refine f_region ?_
  obtain ⟨r8, hr8, h⟩ := bindE h
  refine l_enter S (fun _ => run_call (vs := []) trivial Tryz.call12) (tumbkeep2_ready_ok _ _ hr8) rfl ?_; clear S; intro v9 a w14 hv9 hk14 hn9 S
  subst hv9
  refine lv S (rn_assign (S.tm rfl)) rfl ?_; clear S; intro a S
  refine l_done ?_
  replace S := S.nk [] [(2, .bool r8)] [false] rfl ⟨rfl, trivial⟩
  refine then_n ?_
  refine wp_ret ?_
  refine then_r ?_
  obtain rfl := Option.some.inj h
  exact f_ret S Tryz.results3 rfl rfl
 ·replace h := iteF h hb3
  refine wp_skip ?_
  refine then_n ?_
  refine f_seq ?_
  refine f_region ?_
  refine lv S (rn_move (S.tm rfl)) rfl ?_; clear S; intro a S
  refine lv S (rn_move (S.tm rfl)) rfl ?_; clear S; intro a S
  refine lv S (rn_move (S.tm rfl)) rfl ?_; clear S; intro a S
  refine lv S (rn_ldA Tryz.isAgg33 Tryz.sizeOf33 (off := 0) (o := 0) (part := [.int .i64 r4.1.Races, .int .i64 r4.1.Club, .int .i64 r4.1.Age, .int .i64 r4.1.Day]) rfl rfl (S.tm rfl) (S.cellsAt (i := 0) rfl)) rfl ?_; clear S; intro a S
  refine lv S (rn_move (S.tm rfl)) rfl ?_; clear S; intro a S
  obtain ⟨r9, hr9, h⟩ := bindE h
  have hz7 := S.keep.size
  refine l_enter S (fun _ => run_call (vs := [v1, v2, v3, .agg (GBounds.enc r4.1).toArray, v6]) ⟨(S.tm rfl), (S.tm rfl), (S.tm rfl), (S.tm rfl), (S.tm rfl), trivial⟩ Tryz.call13) (swimmer_Refused_ok _ v1 r1.1 (((ownV_slcT GRace.enc_ok hs1).mono (View.le_trans (View.le_trans hl2 hl3) hl4)).mono (S.le_new nil_sub)) v2 r2.1 (((ownV_slcT GSwimmer.enc_ok hs2).mono (View.le_trans hl3 hl4)).mono (S.le_new nil_sub)) v3 r3 (((ownV_slcT GMove.enc_ok hs3).mono hl4).mono (S.le_new nil_sub)) r4.1 v6 r6.1 (((ownV_slcT GEntry.enc_ok hs4)).mono (S.le_new nil_sub)) _ hr9) rfl ?_; clear S; intro v10 a w15 hv10 hk15 hn10 S
  obtain ⟨u5, rfl, ho5⟩ := hv10
  obtain ⟨φ5, hl5, hm5, S⟩ := S.see' hn10 hz7
  have hs5 := ho5.mono hm5
  refine lv S (rn_move (S.tm rfl)) rfl ?_; clear S; intro a S
  refine lv S (rn_extract (S.tm rfl) rfl) rfl ?_; clear S; intro a S
  refine lv S (rn_extract (S.tm rfl) rfl) rfl ?_; clear S; intro a S
  refine lv S (rn_assign (S.tm rfl)) rfl ?_; clear S; intro a S
  refine lv S (rn_assign (S.tm rfl)) rfl ?_; clear S; intro a S
  refine l_done ?_
  replace S := S.nk [.blk b2 [.int .i64 r4.1.Races, .int .i64 r4.1.Club, .int .i64 r4.1.Age, .int .i64 r4.1.Day] 33] [(4, v1), (5, v2), (6, v3), (7, .pointer (some ⟨b2, 0, none⟩)), (8, v6), (9, u5), (10, .int .i64 r9.2)] [true] rfl ⟨rfl, rfl, rfl, rfl, rfl, rfl, rfl, trivial⟩
  refine then_n ?_
  refine f_seq ?_
  refine f_region ?_
  refine lv S (rn_assign rfl) rfl ?_; clear S; intro a S
  replace S := S.nil 45 2
  refine l_done ?_
  replace S := S.nk [.own (.slice none 0 0) 45 2 ([] : List GEntry).length (([] : List GEntry).flatMap GEntry.enc), .blk b2 [.int .i64 r4.1.Races, .int .i64 r4.1.Club, .int .i64 r4.1.Age, .int .i64 r4.1.Day] 33] [(4, v1), (5, v2), (6, v3), (7, .pointer (some ⟨b2, 0, none⟩)), (8, v6), (9, u5), (10, .int .i64 r9.2), (11, (.slice none 0 0))] [true, true] rfl ⟨rfl, rfl, rfl, rfl, rfl, rfl, rfl, rfl, trivial⟩
  refine then_n ?_
  refine f_seq ?_
  refine f_seq ?_
  refine f_region ?_
  refine lv S (rn_move (S.tm rfl)) rfl ?_; clear S; intro a S
  refine lv S (rn_lenT sl_35 (S.tm rfl) (slc_len (ownV_slcT GEntry.enc_ok hs4))) rfl ?_; clear S; intro a S
  refine lv S (rn_move rfl) rfl ?_; clear S; intro a S
  refine l_done ?_
  replace S := S.nk [.own (.slice none 0 0) 45 2 ([] : List GEntry).length (([] : List GEntry).flatMap GEntry.enc), .blk b2 [.int .i64 r4.1.Races, .int .i64 r4.1.Club, .int .i64 r4.1.Age, .int .i64 r4.1.Day] 33] [(4, v1), (5, v2), (6, v3), (7, .pointer (some ⟨b2, 0, none⟩)), (9, u5), (10, .int .i64 r9.2), (11, (.slice none 0 0)), (60, v6), (61, .int .i64 (r6.1.length : Int)), (62, .int .i64 0)] [true, true] rfl ⟨rfl, rfl, rfl, rfl, rfl, rfl, rfl, rfl, rfl, rfl, trivial⟩
  refine then_n ?_
  obtain ⟨j2, hj2, h⟩ := joinE h
  refine f_join (fun a w' => ∃ x1 : List GEntry, ∃ v11 : Value, j2 x1 = some r ∧ Sx w [] φ5 [.own v11 45 2 x1.length (x1.flatMap GEntry.enc), .blk b2 [.int .i64 r4.1.Races, .int .i64 r4.1.Club, .int .i64 r4.1.Age, .int .i64 r4.1.Day] 33] [(4, v1), (5, v2), (6, v3), (7, .pointer (some ⟨b2, 0, none⟩)), (10, .int .i64 r9.2), (11, v11)] 134 a w') ?_ ?_
  ·refine wp_block ?_
   refine f_loop (fun (ys1 : List GEntry) a w' => ∃ i1 : Nat, ∃ x1 : List GEntry, ∃ v11 : Value, (∃ dn, r6.1 = dn ++ ys1 ∧ dn.length = i1) ∧ tumbkeep2_EntriesKeepBounds_l1 r9 j2 ys1 i1 x1 = some r ∧ Sx w [] φ5 [.own v11 45 2 x1.length (x1.flatMap GEntry.enc), .blk b2 [.int .i64 r4.1.Races, .int .i64 r4.1.Club, .int .i64 r4.1.Age, .int .i64 r4.1.Day] 33] [(4, v1), (5, v2), (6, v3), (7, .pointer (some ⟨b2, 0, none⟩)), (9, u5), (10, .int .i64 r9.2), (11, v11), (60, v6), (61, .int .i64 (r6.1.length : Int)), (62, .int .i64 (i1 : Int))] 134 a w') List.length r6.1 ⟨0, ([] : List GEntry), (.slice none 0 0), ⟨[], rfl, rfl⟩, h, S.nf [true, true] rfl ⟨rfl, rfl, rfl, rfl, rfl, rfl, rfl, rfl, rfl, rfl, trivial⟩⟩ ?_
   clear S h; rintro ys1 a w16 ⟨i1, x1, v11, ⟨dn, hd1, hi1⟩, h, S⟩
   cases ys1 with
   | nil =>
    rw [tumbkeep2_EntriesKeepBounds_l1.eq_1] at h
    refine f_seq ?_
    refine f_region ?_
    refine lv S (rn_lss (S.tm rfl) (S.tm rfl)) rfl ?_; clear S; intro a S
    refine l_done ?_
    replace S := S.nk [.own v11 45 2 x1.length (x1.flatMap GEntry.enc), .blk b2 [.int .i64 r4.1.Races, .int .i64 r4.1.Club, .int .i64 r4.1.Age, .int .i64 r4.1.Day] 33] [(4, v1), (5, v2), (6, v3), (7, .pointer (some ⟨b2, 0, none⟩)), (9, u5), (10, .int .i64 r9.2), (11, v11), (60, v6), (61, .int .i64 (r6.1.length : Int)), (62, .int .i64 (i1 : Int)), (63, .bool (decide ((i1 : Int) < (r6.1.length : Int))))] [true, true] rfl ⟨rfl, rfl, rfl, rfl, rfl, rfl, rfl, rfl, rfl, rfl, rfl, trivial⟩
    refine then_n ?_
    refine f_seq ?_
    refine wp_cond_false ((S.tm rfl).trans (congrArg Value.bool (rng_nil hd1 hi1))) ?_
    refine wp_exit ?_
    refine then_x ?_
    refine then_x ?_
    refine x_same ?_
    refine then_n ?_
    exact ⟨x1, v11, h, S.nf [true, true] rfl ⟨rfl, rfl, rfl, rfl, rfl, rfl, trivial⟩⟩
   | cons y1 ys1 =>
    rw [tumbkeep2_EntriesKeepBounds_l1.eq_2] at h
    refine f_seq ?_
    refine f_region ?_
    refine lv S (rn_lss (S.tm rfl) (S.tm rfl)) rfl ?_; clear S; intro a S
    refine l_done ?_
    replace S := S.nk [.own v11 45 2 x1.length (x1.flatMap GEntry.enc), .blk b2 [.int .i64 r4.1.Races, .int .i64 r4.1.Club, .int .i64 r4.1.Age, .int .i64 r4.1.Day] 33] [(4, v1), (5, v2), (6, v3), (7, .pointer (some ⟨b2, 0, none⟩)), (9, u5), (10, .int .i64 r9.2), (11, v11), (60, v6), (61, .int .i64 (r6.1.length : Int)), (62, .int .i64 (i1 : Int)), (63, .bool (decide ((i1 : Int) < (r6.1.length : Int))))] [true, true] rfl ⟨rfl, rfl, rfl, rfl, rfl, rfl, rfl, rfl, rfl, rfl, rfl, trivial⟩
    refine then_n ?_
    refine f_seq ?_
    refine wp_cond_true ((S.tm rfl).trans (congrArg Value.bool (rng_cons hd1 hi1))) ?_
    refine wp_skip ?_
    refine then_n ?_
    refine f_seq ?_
    obtain ⟨j3, hj3, h⟩ := joinE h
    refine f_join (fun a w' => ∃ x2 : List GEntry, ∃ v12 : Value, j3 x2 = some r ∧ Sx w [] φ5 [.own v12 45 2 x2.length (x2.flatMap GEntry.enc), .blk b2 [.int .i64 r4.1.Races, .int .i64 r4.1.Club, .int .i64 r4.1.Age, .int .i64 r4.1.Day] 33] [(4, v1), (5, v2), (6, v3), (7, .pointer (some ⟨b2, 0, none⟩)), (9, u5), (10, .int .i64 r9.2), (11, v12), (60, v6), (61, .int .i64 (r6.1.length : Int)), (62, .int .i64 (i1 : Int))] 134 a w') ?_ ?_
    ·refine wp_block ?_
     refine f_seq ?_
     refine f_region ?_
     refine lv S (rn_move (S.tm rfl)) rfl ?_; clear S; intro a S
     obtain ⟨b3, o1, hm6, hr10⟩ := rn_indexT (a := a) (x := .tmp 60) (y := .tmp 62) (ty := 0) sl_35 (ownV_slcT GEntry.enc_ok hs4) (get_mid hd1 hi1) rfl (S.tm rfl) (S.tm rfl)
     refine lv S (hr10 _) rfl ?_; clear S; intro a S
     clear hr10
     refine lv S (rn_ldA Tryz.isAgg45 Tryz.sizeOf45 (off := o1) (o := 0) (part := [.string y1.Who, .string y1.Race]) rfl rfl (S.tm rfl) ((hm6.mono hl5).at S.emb)) rfl ?_; clear S; intro a S
     refine l_alloc S Tryz.zeroValue45 (cs := [.string k_empty, .string k_empty]) rfl rfl ?_; clear S; intro a w19 b4 hz8 hk16 S
     refine lv S (rn_assign (S.tm rfl)) rfl ?_; clear S; intro a S
     refine l_store S (S.tm rfl) (S.tm rfl) (i := 0) (off := 0) rfl Tryz.sizeOf45 (vs := [.string y1.Who, .string y1.Race]) rfl rfl rfl rfl ?_; clear S; intro w20 hk17 S
     refine l_done ?_
     replace S := S.nk [.blk b4 [.string y1.Who, .string y1.Race] 45, .own v11 45 2 x1.length (x1.flatMap GEntry.enc), .blk b2 [.int .i64 r4.1.Races, .int .i64 r4.1.Club, .int .i64 r4.1.Age, .int .i64 r4.1.Day] 33] [(4, v1), (5, v2), (6, v3), (7, .pointer (some ⟨b2, 0, none⟩)), (9, u5), (10, .int .i64 r9.2), (11, v11), (12, .int .i64 (i1 : Int)), (13, .pointer (some ⟨b4, 0, none⟩)), (60, v6), (61, .int .i64 (r6.1.length : Int)), (62, .int .i64 (i1 : Int))] [true, true, true] rfl ⟨rfl, rfl, rfl, rfl, rfl, rfl, rfl, rfl, rfl, rfl, rfl, rfl, trivial⟩
     refine then_n ?_
     refine f_seq ?_
     refine f_region ?_
     refine lv S (rn_move (S.tm rfl)) rfl ?_; clear S; intro a S
     refine lv S (rn_move (S.tm rfl)) rfl ?_; clear S; intro a S
     refine l_enter S (fun _ => run_call (vs := [u5, .int .i64 (i1 : Int)]) ⟨(S.tm rfl), (S.tm rfl), trivial⟩ Tryz.call14) (slices_Contains_int_ok _ u5 r9.1 (((ownV_slcT enc_int hs5)).mono (S.le_new nil_sub)) (i1 : Int) _ rfl) rfl ?_; clear S; intro v13 a w21 hv11 hk18 hn11 S
     subst hv11
     refine lv S (rn_not (S.tm rfl)) rfl ?_; clear S; intro a S
     refine l_done ?_
     replace S := S.nk [.blk b4 [.string y1.Who, .string y1.Race] 45, .own v11 45 2 x1.length (x1.flatMap GEntry.enc), .blk b2 [.int .i64 r4.1.Races, .int .i64 r4.1.Club, .int .i64 r4.1.Age, .int .i64 r4.1.Day] 33] [(4, v1), (5, v2), (6, v3), (7, .pointer (some ⟨b2, 0, none⟩)), (9, u5), (10, .int .i64 r9.2), (11, v11), (13, .pointer (some ⟨b4, 0, none⟩)), (60, v6), (61, .int .i64 (r6.1.length : Int)), (62, .int .i64 (i1 : Int)), (70, .bool (!(slices_Contains_int r9.1 (i1 : Int))))] [true, true, true] rfl ⟨rfl, rfl, rfl, rfl, rfl, rfl, rfl, rfl, rfl, rfl, rfl, rfl, trivial⟩
     refine then_n ?_
     obtain ⟨j4, hj4, h⟩ := joinE h
     refine f_join (fun a w' => ∃ x3 : List GEntry, ∃ v14 : Value, j4 x3 = some r ∧ Sx w [] φ5 [.own v14 45 2 x3.length (x3.flatMap GEntry.enc), .blk b2 [.int .i64 r4.1.Races, .int .i64 r4.1.Club, .int .i64 r4.1.Age, .int .i64 r4.1.Day] 33] [(4, v1), (5, v2), (6, v3), (7, .pointer (some ⟨b2, 0, none⟩)), (9, u5), (10, .int .i64 r9.2), (11, v14), (60, v6), (61, .int .i64 (r6.1.length : Int)), (62, .int .i64 (i1 : Int))] 134 a w') ?_ ?_
     ·refine f_cond (S.tm rfl) (fun hb4 => ?_) (fun hb4 => ?_)
      ·replace h := iteT h hb4
       refine f_region ?_
       refine lv S (rn_move (S.tm rfl)) rfl ?_; clear S; intro a S
       refine lv S (rn_ldA Tryz.isAgg45 Tryz.sizeOf45 (off := 0) (o := 0) (part := [.string y1.Who, .string y1.Race]) rfl rfl (S.tm rfl) (S.cellsAt (i := 0) rfl)) rfl ?_; clear S; intro a S
       refine l_buildSlice S Tryz.underlying35 Tryz.sizeOf45 Tryz.zeroValue45 rfl rfl (pv := [(0, .agg #[.string y1.Who, .string y1.Race])]) ⟨rfl, (S.tm rfl), trivial⟩ (cs := [.string y1.Who, .string y1.Race]) (by kernel_rfl) rfl ?_; clear S; intro a w23 b5 hz9 hk19 S
       obtain ⟨hc1, h⟩ := chkE h
       refine l_appendT sl_35 GEntry.enc_ok S (S.tm rfl) (i := 2) rfl (S.tm rfl) (j := 0) rfl (ys := [y1]) rfl rfl rfl rfl (by have := room_lt hc1; omega) rfl ?_; clear S; intro v15 a w24 hk20 S
       refine lv S (rn_assign (S.tm rfl)) rfl ?_; clear S; intro a S
       refine l_done ?_
       replace S := S.nk [.own v15 45 2 (x1 ++ [y1]).length ((x1 ++ [y1]).flatMap GEntry.enc), .blk b2 [.int .i64 r4.1.Races, .int .i64 r4.1.Club, .int .i64 r4.1.Age, .int .i64 r4.1.Day] 33] [(4, v1), (5, v2), (6, v3), (7, .pointer (some ⟨b2, 0, none⟩)), (9, u5), (10, .int .i64 r9.2), (11, v15), (60, v6), (61, .int .i64 (r6.1.length : Int)), (62, .int .i64 (i1 : Int))] [false, false, true, true] rfl ⟨rfl, rfl, rfl, rfl, rfl, rfl, rfl, rfl, rfl, rfl, trivial⟩
       refine then_n ?_
       exact ⟨(x1 ++ [y1]), v15, h, S.nf [true, true] rfl ⟨rfl, rfl, rfl, rfl, rfl, rfl, rfl, rfl, rfl, rfl, trivial⟩⟩
      ·replace h := iteF h hb4
       refine wp_skip ?_
       refine then_n ?_
       exact ⟨x1, v11, h, S.nf [false, true, true] rfl ⟨rfl, rfl, rfl, rfl, rfl, rfl, rfl, rfl, rfl, rfl, trivial⟩⟩
     clear S h; rintro a w22 ⟨x3, v14, h, S⟩; rw [hj4] at h; clear hj4 j4
     refine blk_n ?_
     refine then_n ?_
     exact ⟨x3, v14, h, S.nf [true, true] rfl ⟨rfl, rfl, rfl, rfl, rfl, rfl, rfl, rfl, rfl, rfl, trivial⟩⟩
    clear S h; rintro a w18 ⟨x2, v12, h, S⟩; rw [hj3] at h; clear hj3 j3
    refine then_n ?_
    refine f_region ?_
    refine lv S (rn_add (S.tm rfl) rfl) rfl ?_; clear S; intro a S
    refine lv S (rn_move (S.tm rfl)) rfl ?_; clear S; intro a S
    refine l_done ?_
    replace S := S.nk [.own v12 45 2 x2.length (x2.flatMap GEntry.enc), .blk b2 [.int .i64 r4.1.Races, .int .i64 r4.1.Club, .int .i64 r4.1.Age, .int .i64 r4.1.Day] 33] [(4, v1), (5, v2), (6, v3), (7, .pointer (some ⟨b2, 0, none⟩)), (9, u5), (10, .int .i64 r9.2), (11, v12), (60, v6), (61, .int .i64 (r6.1.length : Int)), (62, .int .i64 (W ((i1 : Int) + 1)))] [true, true] rfl ⟨rfl, rfl, rfl, rfl, rfl, rfl, rfl, rfl, rfl, rfl, trivial⟩
    refine then_n ?_
    exact ⟨ys1, ⟨i1 + 1, x2, v12, ⟨_, (hd1).trans (List.append_cons _ _ _), by simp [hi1]⟩, h, S.nf [true, true] rfl ⟨rfl, rfl, rfl, rfl, rfl, rfl, rfl, rfl, rfl, (congrArg (fun z => some (Value.int .i64 z)) (rng_next hd1 hi1 (slc_max (ownV_slcT GEntry.enc_ok hs4)))), trivial⟩⟩, Nat.lt_succ_self _⟩
  clear S h; rintro a w17 ⟨x1, v11, h, S⟩; rw [hj2] at h; clear hj2 j2
  refine then_n ?_
  refine f_seq ?_
  refine f_region ?_
  refine lv S (rn_move (S.tm rfl)) rfl ?_; clear S; intro a S
  refine lv S (rn_move (S.tm rfl)) rfl ?_; clear S; intro a S
  refine lv S (rn_move (S.tm rfl)) rfl ?_; clear S; intro a S
  refine lv S (rn_ldA Tryz.isAgg33 Tryz.sizeOf33 (off := 0) (o := 0) (part := [.int .i64 r4.1.Races, .int .i64 r4.1.Club, .int .i64 r4.1.Age, .int .i64 r4.1.Day]) rfl rfl (S.tm rfl) (S.cellsAt (i := 1) rfl)) rfl ?_; clear S; intro a S
  refine lv S (rn_move (S.tm rfl)) rfl ?_; clear S; intro a S
  obtain ⟨r10, hr11, h⟩ := bindE h
  have hz10 := S.keep.size
  refine l_enter S (fun _ => run_call (vs := [v1, v2, v3, .agg (GBounds.enc r4.1).toArray, v11]) ⟨(S.tm rfl), (S.tm rfl), (S.tm rfl), (S.tm rfl), (S.tm rfl), trivial⟩ Tryz.call13) (swimmer_Refused_ok _ v1 r1.1 (((ownV_slcT GRace.enc_ok hs1).mono (View.le_trans (View.le_trans (View.le_trans hl2 hl3) hl4) hl5)).mono (S.le_new nil_sub)) v2 r2.1 (((ownV_slcT GSwimmer.enc_ok hs2).mono (View.le_trans (View.le_trans hl3 hl4) hl5)).mono (S.le_new nil_sub)) v3 r3 (((ownV_slcT GMove.enc_ok hs3).mono (View.le_trans hl4 hl5)).mono (S.le_new nil_sub)) r4.1 v11 x1 (own_slcT GEntry.enc_ok S (i := 0) rfl (ne_nil (e' := .own v11 45 2 x1.length (x1.flatMap GEntry.enc)))) _ hr11) rfl ?_; clear S; intro v16 a w25 hv12 hk21 hn12 S
  obtain ⟨u6, rfl, ho6⟩ := hv12
  obtain ⟨φ6, hl6, hm7, S⟩ := S.see' hn12 hz10
  have hs6 := ho6.mono hm7
  refine lv S (rn_move (S.tm rfl)) rfl ?_; clear S; intro a S
  refine lv S (rn_extract (S.tm rfl) rfl) rfl ?_; clear S; intro a S
  refine lv S (rn_extract (S.tm rfl) rfl) rfl ?_; clear S; intro a S
  refine lv S (rn_assign (S.tm rfl)) rfl ?_; clear S; intro a S
  refine lv S (rn_assign (S.tm rfl)) rfl ?_; clear S; intro a S
  refine l_done ?_
  replace S := S.nk [.own v11 45 2 x1.length (x1.flatMap GEntry.enc), .blk b2 [.int .i64 r4.1.Races, .int .i64 r4.1.Club, .int .i64 r4.1.Age, .int .i64 r4.1.Day] 33] [(7, .pointer (some ⟨b2, 0, none⟩)), (10, .int .i64 r9.2), (11, v11), (14, u6), (15, .int .i64 r10.2)] [true, true] rfl ⟨rfl, rfl, rfl, rfl, rfl, trivial⟩
  refine then_n ?_
  refine f_seq ?_
  refine f_seq ?_
  refine f_region ?_
  refine lv S (rn_move (S.tm rfl)) rfl ?_; clear S; intro a S
  refine lv S (rn_move (S.tm rfl)) rfl ?_; clear S; intro a S
  refine l_buildSlice S Tryz.underlying95 Tryz.sizeOf38 Tryz.zeroValue38 rfl rfl (pv := [(0, .int .i64 r9.2), (1, .int .i64 r10.2)]) ⟨rfl, (S.tm rfl), rfl, (S.tm rfl), trivial⟩ (cs := [.int .i64 r9.2, .int .i64 r10.2]) (by kernel_rfl) rfl ?_; clear S; intro a w26 b6 hz11 hk22 S
  refine l_enter S (fun _ => run_call (vs := [.slice (some ⟨b6, 0, none⟩) 2 2]) ⟨(S.tm rfl), trivial⟩ Tryz.call15) (tumbkeep2_errs_ok _ (.slice (some ⟨b6, 0, none⟩) 2 2) [r9.2, r10.2] (lit_slcT enc_int S (i := 0) rfl rfl rfl rfl ((ne_nil (e' := .blk b6 [.int .i64 r9.2, .int .i64 r10.2] 38)) _ rfl)) _ rfl) rfl ?_; clear S; intro v17 a w27 hv13 hk23 hn13 S
  subst hv13
  refine lv S (rn_neq (S.tm rfl) rfl) rfl ?_; clear S; intro a S
  refine lv S (rn_move (S.tm rfl)) rfl ?_; clear S; intro a S
  refine f_cutm 4 (fun a w' => Keep [] w27 w' ∧ Sx w [] φ6 [.blk b6 [.int .i64 r9.2, .int .i64 r10.2] 38, .own v11 45 2 x1.length (x1.flatMap GEntry.enc), .blk b2 [.int .i64 r4.1.Races, .int .i64 r4.1.Club, .int .i64 r4.1.Age, .int .i64 r4.1.Day] 33] [(7, .pointer (some ⟨b2, 0, none⟩)), (11, v11), (94, .bool ((!decide ((tumbkeep2_errs [r9.2, r10.2]) = 0)) || (!decide ((r10.1.length : Int) = 0))))] 134 a w') ?_ ?_
  ·rcases Bool.eq_false_or_eq_true (!decide ((tumbkeep2_errs [r9.2, r10.2]) = 0)) with hb5 | hb5
   ·refine l_skip S rfl rfl rfl (neq_t hb5) rfl ?_ rfl; clear S; intro a S
    refine l_skip S rfl rfl rfl (neq_t hb5) rfl ?_ rfl; clear S; intro a S
    refine l_skip S rfl rfl rfl (neq_t hb5) rfl ?_ rfl; clear S; intro a S
    refine lv S (rn_or_t (!decide ((r10.1.length : Int) = 0)) hb5 (S.tm rfl) rfl) rfl ?_; clear S; intro a S
    refine l_done ?_
    refine then_n ?_
    exact ⟨Keep.refl _ _, S.nf [true, true, true] rfl ⟨rfl, rfl, rfl, trivial⟩⟩
   ·refine l_want S rfl rfl rfl hb5 ?_
    refine lv S (rn_move (S.tm rfl)) rfl ?_; clear S; intro a S
    refine l_want S rfl rfl rfl hb5 ?_
    refine lv S (rn_lenT sl_22 (S.tm rfl) (slc_len (ownV_slcT enc_int hs6))) rfl ?_; clear S; intro a S
    refine l_want S rfl rfl rfl hb5 ?_
    refine lv S (rn_neq (S.tm rfl) rfl) rfl ?_; clear S; intro a S
    refine lv S (rn_or_f hb5 (S.tm rfl) (S.tm rfl)) rfl ?_; clear S; intro a S
    refine l_done ?_
    refine then_n ?_
    exact ⟨Keep.refl _ _, S.nf [true, true, true] rfl ⟨rfl, rfl, rfl, trivial⟩⟩
  clear S; rintro a w28 ⟨hk24, S⟩
  refine l_done ?_
  replace S := S.nk [.own v11 45 2 x1.length (x1.flatMap GEntry.enc), .blk b2 [.int .i64 r4.1.Races, .int .i64 r4.1.Club, .int .i64 r4.1.Age, .int .i64 r4.1.Day] 33] [(7, .pointer (some ⟨b2, 0, none⟩)), (11, v11), (94, .bool ((!decide ((tumbkeep2_errs [r9.2, r10.2]) = 0)) || (!decide ((r10.1.length : Int) = 0))))] [false, true, true] rfl ⟨rfl, rfl, rfl, trivial⟩
  refine then_n ?_
  refine f_cond (S.tm rfl) (fun hb6 => ?_) (fun hb6 => ?_)
  ·replace h := iteT h hb6
   refine f_seq ?_
   refine f_region ?_
   refine lv S (rn_assign rfl) rfl ?_; clear S; intro a S
   refine l_done ?_
   replace S := S.nk [] [(2, .bool false)] [false, false] rfl ⟨rfl, trivial⟩
   refine then_n ?_
   refine wp_ret ?_
   refine then_r ?_
   obtain rfl := Option.some.inj h
   exact f_ret S Tryz.results3 rfl rfl
  ·replace h := iteF h hb6
   refine wp_skip ?_
   refine then_n ?_
   refine f_seq ?_
   refine f_seq ?_
   refine f_region ?_
   refine lv S (rn_move (S.tm rfl)) rfl ?_; clear S; intro a S
   refine lv S (rn_lenT sl_35 (S.tm rfl) (own_len (S.own_at (i := 0) rfl))) rfl ?_; clear S; intro a S
   refine lv S (rn_move rfl) rfl ?_; clear S; intro a S
   refine l_done ?_
   replace S := S.nk [.own v11 45 2 x1.length (x1.flatMap GEntry.enc), .blk b2 [.int .i64 r4.1.Races, .int .i64 r4.1.Club, .int .i64 r4.1.Age, .int .i64 r4.1.Day] 33] [(7, .pointer (some ⟨b2, 0, none⟩)), (11, v11), (95, v11), (96, .int .i64 (x1.length : Int)), (97, .int .i64 0)] [true, true] rfl ⟨rfl, rfl, rfl, rfl, rfl, trivial⟩
   refine then_n ?_
   have hm8 := own_max (S.own_at (i := 0) rfl)
   obtain ⟨j5, hj5, h⟩ := joinE h
   refine f_join (fun a w' => j5 = some r ∧ Sx w [] φ6 [.own v11 45 2 x1.length (x1.flatMap GEntry.enc), .blk b2 [.int .i64 r4.1.Races, .int .i64 r4.1.Club, .int .i64 r4.1.Age, .int .i64 r4.1.Day] 33] [] 134 a w') ?_ ?_
   ·refine wp_block ?_
    refine f_loop (fun (ys2 : List GEntry) a w' => ∃ i2 : Nat, (∃ dn, x1 = dn ++ ys2 ∧ dn.length = i2) ∧ tumbkeep2_EntriesKeepBounds_l2 r4 x1 j5 ys2 i2 = some r ∧ Sx w [] φ6 [.own v11 45 2 x1.length (x1.flatMap GEntry.enc), .blk b2 [.int .i64 r4.1.Races, .int .i64 r4.1.Club, .int .i64 r4.1.Age, .int .i64 r4.1.Day] 33] [(7, .pointer (some ⟨b2, 0, none⟩)), (11, v11), (95, v11), (96, .int .i64 (x1.length : Int)), (97, .int .i64 (i2 : Int))] 134 a w') List.length x1 ⟨0, ⟨[], rfl, rfl⟩, h, S.nf [true, true] rfl ⟨rfl, rfl, rfl, rfl, rfl, trivial⟩⟩ ?_
    clear S h; rintro ys2 a w29 ⟨i2, ⟨dn, hd2, hi2⟩, h, S⟩
    cases ys2 with
    | nil =>
     rw [tumbkeep2_EntriesKeepBounds_l2.eq_1] at h
     refine f_seq ?_
     refine f_region ?_
     refine lv S (rn_lss (S.tm rfl) (S.tm rfl)) rfl ?_; clear S; intro a S
     refine l_done ?_
     replace S := S.nk [.own v11 45 2 x1.length (x1.flatMap GEntry.enc), .blk b2 [.int .i64 r4.1.Races, .int .i64 r4.1.Club, .int .i64 r4.1.Age, .int .i64 r4.1.Day] 33] [(7, .pointer (some ⟨b2, 0, none⟩)), (11, v11), (95, v11), (96, .int .i64 (x1.length : Int)), (97, .int .i64 (i2 : Int)), (98, .bool (decide ((i2 : Int) < (x1.length : Int))))] [true, true] rfl ⟨rfl, rfl, rfl, rfl, rfl, rfl, trivial⟩
     refine then_n ?_
     refine f_seq ?_
     refine wp_cond_false ((S.tm rfl).trans (congrArg Value.bool (rng_nil hd2 hi2))) ?_
     refine wp_exit ?_
     refine then_x ?_
     refine then_x ?_
     refine x_same ?_
     refine then_n ?_
     exact ⟨h, S.nf [true, true] rfl trivial⟩
    | cons y2 ys2 =>
     rw [tumbkeep2_EntriesKeepBounds_l2.eq_2] at h
     refine f_seq ?_
     refine f_region ?_
     refine lv S (rn_lss (S.tm rfl) (S.tm rfl)) rfl ?_; clear S; intro a S
     refine l_done ?_
     replace S := S.nk [.own v11 45 2 x1.length (x1.flatMap GEntry.enc), .blk b2 [.int .i64 r4.1.Races, .int .i64 r4.1.Club, .int .i64 r4.1.Age, .int .i64 r4.1.Day] 33] [(7, .pointer (some ⟨b2, 0, none⟩)), (11, v11), (95, v11), (96, .int .i64 (x1.length : Int)), (97, .int .i64 (i2 : Int)), (98, .bool (decide ((i2 : Int) < (x1.length : Int))))] [true, true] rfl ⟨rfl, rfl, rfl, rfl, rfl, rfl, trivial⟩
     refine then_n ?_
     refine f_seq ?_
     refine wp_cond_true ((S.tm rfl).trans (congrArg Value.bool (rng_cons hd2 hi2))) ?_
     refine wp_skip ?_
     refine then_n ?_
     refine f_seq ?_
     refine wp_block ?_
     refine f_seq ?_
     refine f_region ?_
     obtain ⟨b7, hg1, hr12⟩ := rn_indexS (a := a) (x := .tmp 95) (y := .tmp 97) (ty := 0) sl_35 GEntry.enc_ok S (i := 0) rfl (get_mid hd2 hi2) rfl (S.tm rfl) (S.tm rfl)
     refine lv S (hr12 _) rfl ?_; clear S; intro a S
     clear hr12
     refine lv S (rn_ldA Tryz.isAgg45 Tryz.sizeOf45 (off := i2 * 2) (o := 0) (part := [.string y2.Who, .string y2.Race]) rfl rfl (S.tm rfl) (own_cells GEntry.enc_ok S (i := 0) rfl hg1 (get_mid hd2 hi2))) rfl ?_; clear S; intro a S
     refine l_alloc S Tryz.zeroValue45 (cs := [.string k_empty, .string k_empty]) rfl rfl ?_; clear S; intro a w31 b8 hz12 hk25 S
     refine l_store S (S.tm rfl) (S.tm rfl) (i := 0) (off := 0) rfl Tryz.sizeOf45 (vs := [.string y2.Who, .string y2.Race]) rfl rfl rfl rfl ?_; clear S; intro w32 hk26 S
     refine l_done ?_
     replace S := S.nk [.blk b8 [.string y2.Who, .string y2.Race] 45, .own v11 45 2 x1.length (x1.flatMap GEntry.enc), .blk b2 [.int .i64 r4.1.Races, .int .i64 r4.1.Club, .int .i64 r4.1.Age, .int .i64 r4.1.Day] 33] [(7, .pointer (some ⟨b2, 0, none⟩)), (11, v11), (17, .pointer (some ⟨b8, 0, none⟩)), (95, v11), (96, .int .i64 (x1.length : Int)), (97, .int .i64 (i2 : Int))] [true, true, true] rfl ⟨rfl, rfl, rfl, rfl, rfl, rfl, trivial⟩
     refine then_n ?_
     refine f_seq ?_
     refine f_region ?_
     refine lv S (rn_assign rfl) rfl ?_; clear S; intro a S
     refine lv S (rn_assign rfl) rfl ?_; clear S; intro a S
     refine l_done ?_
     replace S := S.nk [.blk b8 [.string y2.Who, .string y2.Race] 45, .own v11 45 2 x1.length (x1.flatMap GEntry.enc), .blk b2 [.int .i64 r4.1.Races, .int .i64 r4.1.Club, .int .i64 r4.1.Age, .int .i64 r4.1.Day] 33] [(7, .pointer (some ⟨b2, 0, none⟩)), (11, v11), (17, .pointer (some ⟨b8, 0, none⟩)), (18, .int .i64 0), (19, .int .i64 0), (95, v11), (96, .int .i64 (x1.length : Int)), (97, .int .i64 (i2 : Int))] [true, true, true] rfl ⟨rfl, rfl, rfl, rfl, rfl, rfl, rfl, rfl, trivial⟩
     refine then_n ?_
     refine f_seq ?_
     refine f_seq ?_
     refine f_region ?_
     refine lv S (rn_move (S.tm rfl)) rfl ?_; clear S; intro a S
     refine lv S (rn_lenT sl_35 (S.tm rfl) (own_len (S.own_at (i := 1) rfl))) rfl ?_; clear S; intro a S
     refine lv S (rn_move rfl) rfl ?_; clear S; intro a S
     refine l_done ?_
     replace S := S.nk [.blk b8 [.string y2.Who, .string y2.Race] 45, .own v11 45 2 x1.length (x1.flatMap GEntry.enc), .blk b2 [.int .i64 r4.1.Races, .int .i64 r4.1.Club, .int .i64 r4.1.Age, .int .i64 r4.1.Day] 33] [(7, .pointer (some ⟨b2, 0, none⟩)), (11, v11), (17, .pointer (some ⟨b8, 0, none⟩)), (18, .int .i64 0), (19, .int .i64 0), (95, v11), (96, .int .i64 (x1.length : Int)), (97, .int .i64 (i2 : Int)), (101, v11), (102, .int .i64 (x1.length : Int)), (103, .int .i64 0)] [true, true, true] rfl ⟨rfl, rfl, rfl, rfl, rfl, rfl, rfl, rfl, rfl, rfl, rfl, trivial⟩
     refine then_n ?_
     have hm10 := own_max (S.own_at (i := 1) rfl)
     obtain ⟨j6, hj6, h⟩ := joinE h
     refine f_join (fun a w' => ∃ x4 : Int, ∃ x5 : Int, j6 x4 x5 = some r ∧ Sx w [] φ6 [.blk b8 [.string y2.Who, .string y2.Race] 45, .own v11 45 2 x1.length (x1.flatMap GEntry.enc), .blk b2 [.int .i64 r4.1.Races, .int .i64 r4.1.Club, .int .i64 r4.1.Age, .int .i64 r4.1.Day] 33] [(7, .pointer (some ⟨b2, 0, none⟩)), (11, v11), (18, .int .i64 x4), (19, .int .i64 x5), (95, v11), (96, .int .i64 (x1.length : Int)), (97, .int .i64 (i2 : Int))] 134 a w') ?_ ?_
     ·refine wp_block ?_
      refine f_loop (fun (ys3 : List GEntry) a w' => ∃ i3 : Nat, ∃ x4 : Int, ∃ x5 : Int, (∃ dn, x1 = dn ++ ys3 ∧ dn.length = i3) ∧ tumbkeep2_EntriesKeepBounds_l3 y2 j6 ys3 i3 x4 x5 = some r ∧ Sx w [] φ6 [.blk b8 [.string y2.Who, .string y2.Race] 45, .own v11 45 2 x1.length (x1.flatMap GEntry.enc), .blk b2 [.int .i64 r4.1.Races, .int .i64 r4.1.Club, .int .i64 r4.1.Age, .int .i64 r4.1.Day] 33] [(7, .pointer (some ⟨b2, 0, none⟩)), (11, v11), (17, .pointer (some ⟨b8, 0, none⟩)), (18, .int .i64 x4), (19, .int .i64 x5), (95, v11), (96, .int .i64 (x1.length : Int)), (97, .int .i64 (i2 : Int)), (101, v11), (102, .int .i64 (x1.length : Int)), (103, .int .i64 (i3 : Int))] 134 a w') List.length x1 ⟨0, 0, 0, ⟨[], rfl, rfl⟩, h, S.nf [true, true, true] rfl ⟨rfl, rfl, rfl, rfl, rfl, rfl, rfl, rfl, rfl, rfl, rfl, trivial⟩⟩ ?_
      clear S h; rintro ys3 a w33 ⟨i3, x4, x5, ⟨dn, hd3, hi3⟩, h, S⟩
      cases ys3 with
      | nil =>
       rw [tumbkeep2_EntriesKeepBounds_l3.eq_1] at h
       refine f_seq ?_
       refine f_region ?_
       refine lv S (rn_lss (S.tm rfl) (S.tm rfl)) rfl ?_; clear S; intro a S
       refine l_done ?_
       replace S := S.nk [.blk b8 [.string y2.Who, .string y2.Race] 45, .own v11 45 2 x1.length (x1.flatMap GEntry.enc), .blk b2 [.int .i64 r4.1.Races, .int .i64 r4.1.Club, .int .i64 r4.1.Age, .int .i64 r4.1.Day] 33] [(7, .pointer (some ⟨b2, 0, none⟩)), (11, v11), (17, .pointer (some ⟨b8, 0, none⟩)), (18, .int .i64 x4), (19, .int .i64 x5), (95, v11), (96, .int .i64 (x1.length : Int)), (97, .int .i64 (i2 : Int)), (101, v11), (102, .int .i64 (x1.length : Int)), (103, .int .i64 (i3 : Int)), (104, .bool (decide ((i3 : Int) < (x1.length : Int))))] [true, true, true] rfl ⟨rfl, rfl, rfl, rfl, rfl, rfl, rfl, rfl, rfl, rfl, rfl, rfl, trivial⟩
       refine then_n ?_
       refine f_seq ?_
       refine wp_cond_false ((S.tm rfl).trans (congrArg Value.bool (rng_nil hd3 hi3))) ?_
       refine wp_exit ?_
       refine then_x ?_
       refine then_x ?_
       refine x_same ?_
       refine then_n ?_
       exact ⟨x4, x5, h, S.nf [true, true, true] rfl ⟨rfl, rfl, rfl, rfl, rfl, rfl, rfl, trivial⟩⟩
      | cons y3 ys3 =>
       rw [tumbkeep2_EntriesKeepBounds_l3.eq_2] at h
       refine f_seq ?_
       refine f_region ?_
       refine lv S (rn_lss (S.tm rfl) (S.tm rfl)) rfl ?_; clear S; intro a S
       refine l_done ?_
       replace S := S.nk [.blk b8 [.string y2.Who, .string y2.Race] 45, .own v11 45 2 x1.length (x1.flatMap GEntry.enc), .blk b2 [.int .i64 r4.1.Races, .int .i64 r4.1.Club, .int .i64 r4.1.Age, .int .i64 r4.1.Day] 33] [(7, .pointer (some ⟨b2, 0, none⟩)), (11, v11), (17, .pointer (some ⟨b8, 0, none⟩)), (18, .int .i64 x4), (19, .int .i64 x5), (95, v11), (96, .int .i64 (x1.length : Int)), (97, .int .i64 (i2 : Int)), (101, v11), (102, .int .i64 (x1.length : Int)), (103, .int .i64 (i3 : Int)), (104, .bool (decide ((i3 : Int) < (x1.length : Int))))] [true, true, true] rfl ⟨rfl, rfl, rfl, rfl, rfl, rfl, rfl, rfl, rfl, rfl, rfl, rfl, trivial⟩
       refine then_n ?_
       refine f_seq ?_
       refine wp_cond_true ((S.tm rfl).trans (congrArg Value.bool (rng_cons hd3 hi3))) ?_
       refine wp_skip ?_
       refine then_n ?_
       refine f_seq ?_
       obtain ⟨j7, hj7, h⟩ := joinE h
       refine f_join (fun a w' => ∃ x6 : Int, ∃ x7 : Int, j7 x6 x7 = some r ∧ Sx w [] φ6 [.blk b8 [.string y2.Who, .string y2.Race] 45, .own v11 45 2 x1.length (x1.flatMap GEntry.enc), .blk b2 [.int .i64 r4.1.Races, .int .i64 r4.1.Club, .int .i64 r4.1.Age, .int .i64 r4.1.Day] 33] [(7, .pointer (some ⟨b2, 0, none⟩)), (11, v11), (17, .pointer (some ⟨b8, 0, none⟩)), (18, .int .i64 x6), (19, .int .i64 x7), (95, v11), (96, .int .i64 (x1.length : Int)), (97, .int .i64 (i2 : Int)), (101, v11), (102, .int .i64 (x1.length : Int)), (103, .int .i64 (i3 : Int))] 134 a w') ?_ ?_
       ·refine wp_block ?_
        refine f_seq ?_
        refine f_region ?_
        obtain ⟨b9, hg2, hr13⟩ := rn_indexS (a := a) (x := .tmp 101) (y := .tmp 103) (ty := 0) sl_35 GEntry.enc_ok S (i := 1) rfl (get_mid hd3 hi3) rfl (S.tm rfl) (S.tm rfl)
        refine lv S (hr13 _) rfl ?_; clear S; intro a S
        clear hr13
        refine lv S (rn_ldA Tryz.isAgg45 Tryz.sizeOf45 (off := i3 * 2) (o := 0) (part := [.string y3.Who, .string y3.Race]) rfl rfl (S.tm rfl) (own_cells GEntry.enc_ok S (i := 1) rfl hg2 (get_mid hd3 hi3))) rfl ?_; clear S; intro a S
        refine l_alloc S Tryz.zeroValue45 (cs := [.string k_empty, .string k_empty]) rfl rfl ?_; clear S; intro a w36 b10 hz13 hk27 S
        refine l_store S (S.tm rfl) (S.tm rfl) (i := 0) (off := 0) rfl Tryz.sizeOf45 (vs := [.string y3.Who, .string y3.Race]) rfl rfl rfl rfl ?_; clear S; intro w37 hk28 S
        refine l_done ?_
        replace S := S.nk [.blk b10 [.string y3.Who, .string y3.Race] 45, .blk b8 [.string y2.Who, .string y2.Race] 45, .own v11 45 2 x1.length (x1.flatMap GEntry.enc), .blk b2 [.int .i64 r4.1.Races, .int .i64 r4.1.Club, .int .i64 r4.1.Age, .int .i64 r4.1.Day] 33] [(7, .pointer (some ⟨b2, 0, none⟩)), (11, v11), (17, .pointer (some ⟨b8, 0, none⟩)), (18, .int .i64 x4), (19, .int .i64 x5), (21, .pointer (some ⟨b10, 0, none⟩)), (95, v11), (96, .int .i64 (x1.length : Int)), (97, .int .i64 (i2 : Int)), (101, v11), (102, .int .i64 (x1.length : Int)), (103, .int .i64 (i3 : Int))] [true, true, true, true] rfl ⟨rfl, rfl, rfl, rfl, rfl, rfl, rfl, rfl, rfl, rfl, rfl, rfl, trivial⟩
        refine then_n ?_
        refine f_seq ?_
        refine f_seq ?_
        refine f_region ?_
        refine lv S (rn_fld fa_45_0 (S.tm rfl)) rfl ?_; clear S; intro a S
        refine lv S (rn_load Tryz.isAgg9 (S.tm rfl) (S.cell (i := 0) rfl rfl)) rfl ?_; clear S; intro a S
        refine lv S (rn_fld fa_45_0 (S.tm rfl)) rfl ?_; clear S; intro a S
        refine lv S (rn_load Tryz.isAgg9 (S.tm rfl) (S.cell (i := 1) rfl rfl)) rfl ?_; clear S; intro a S
        refine lv S (rn_seql (S.tm rfl) (S.tm rfl)) rfl ?_; clear S; intro a S
        refine l_done ?_
        replace S := S.nk [.blk b10 [.string y3.Who, .string y3.Race] 45, .blk b8 [.string y2.Who, .string y2.Race] 45, .own v11 45 2 x1.length (x1.flatMap GEntry.enc), .blk b2 [.int .i64 r4.1.Races, .int .i64 r4.1.Club, .int .i64 r4.1.Age, .int .i64 r4.1.Day] 33] [(7, .pointer (some ⟨b2, 0, none⟩)), (11, v11), (17, .pointer (some ⟨b8, 0, none⟩)), (18, .int .i64 x4), (19, .int .i64 x5), (21, .pointer (some ⟨b10, 0, none⟩)), (95, v11), (96, .int .i64 (x1.length : Int)), (97, .int .i64 (i2 : Int)), (101, v11), (102, .int .i64 (x1.length : Int)), (103, .int .i64 (i3 : Int)), (111, .bool (decide (y3.Who = y2.Who)))] [true, true, true, true] rfl ⟨rfl, rfl, rfl, rfl, rfl, rfl, rfl, rfl, rfl, rfl, rfl, rfl, rfl, trivial⟩
        refine then_n ?_
        obtain ⟨j8, hj8, h⟩ := joinE h
        refine f_join (fun a w' => ∃ x8 : Int, j8 x8 = some r ∧ Sx w [] φ6 [.blk b10 [.string y3.Who, .string y3.Race] 45, .blk b8 [.string y2.Who, .string y2.Race] 45, .own v11 45 2 x1.length (x1.flatMap GEntry.enc), .blk b2 [.int .i64 r4.1.Races, .int .i64 r4.1.Club, .int .i64 r4.1.Age, .int .i64 r4.1.Day] 33] [(7, .pointer (some ⟨b2, 0, none⟩)), (11, v11), (17, .pointer (some ⟨b8, 0, none⟩)), (18, .int .i64 x8), (19, .int .i64 x5), (21, .pointer (some ⟨b10, 0, none⟩)), (95, v11), (96, .int .i64 (x1.length : Int)), (97, .int .i64 (i2 : Int)), (101, v11), (102, .int .i64 (x1.length : Int)), (103, .int .i64 (i3 : Int))] 134 a w') ?_ ?_
        ·refine f_cond (S.tm rfl) (fun hb7 => ?_) (fun hb7 => ?_)
         ·replace h := iteT h hb7
          refine f_region ?_
          refine lv S (rn_move (S.tm rfl)) rfl ?_; clear S; intro a S
          refine lv S (rn_add (S.tm rfl) rfl) rfl ?_; clear S; intro a S
          refine lv S (rn_assign (S.tm rfl)) rfl ?_; clear S; intro a S
          refine l_done ?_
          replace S := S.nk [.blk b10 [.string y3.Who, .string y3.Race] 45, .blk b8 [.string y2.Who, .string y2.Race] 45, .own v11 45 2 x1.length (x1.flatMap GEntry.enc), .blk b2 [.int .i64 r4.1.Races, .int .i64 r4.1.Club, .int .i64 r4.1.Age, .int .i64 r4.1.Day] 33] [(7, .pointer (some ⟨b2, 0, none⟩)), (11, v11), (17, .pointer (some ⟨b8, 0, none⟩)), (18, .int .i64 (W (x4 + 1))), (19, .int .i64 x5), (21, .pointer (some ⟨b10, 0, none⟩)), (95, v11), (96, .int .i64 (x1.length : Int)), (97, .int .i64 (i2 : Int)), (101, v11), (102, .int .i64 (x1.length : Int)), (103, .int .i64 (i3 : Int))] [true, true, true, true] rfl ⟨rfl, rfl, rfl, rfl, rfl, rfl, rfl, rfl, rfl, rfl, rfl, rfl, trivial⟩
          refine then_n ?_
          exact ⟨W (x4 + 1), h, S.nf [true, true, true, true] rfl ⟨rfl, rfl, rfl, rfl, rfl, rfl, rfl, rfl, rfl, rfl, rfl, rfl, trivial⟩⟩
         ·replace h := iteF h hb7
          refine wp_skip ?_
          refine then_n ?_
          exact ⟨x4, h, S.nf [true, true, true, true] rfl ⟨rfl, rfl, rfl, rfl, rfl, rfl, rfl, rfl, rfl, rfl, rfl, rfl, trivial⟩⟩
        clear S h; rintro a w38 ⟨x8, h, S⟩; rw [hj8] at h; clear hj8 j8
        refine then_n ?_
        refine f_seq ?_
        refine f_region ?_
        refine lv S (rn_fld fa_45_1 (S.tm rfl)) rfl ?_; clear S; intro a S
        refine lv S (rn_load Tryz.isAgg9 (S.tm rfl) (S.cell (i := 0) rfl rfl)) rfl ?_; clear S; intro a S
        refine lv S (rn_fld fa_45_1 (S.tm rfl)) rfl ?_; clear S; intro a S
        refine lv S (rn_load Tryz.isAgg9 (S.tm rfl) (S.cell (i := 1) rfl rfl)) rfl ?_; clear S; intro a S
        refine lv S (rn_seql (S.tm rfl) (S.tm rfl)) rfl ?_; clear S; intro a S
        refine l_done ?_
        replace S := S.nk [.blk b8 [.string y2.Who, .string y2.Race] 45, .own v11 45 2 x1.length (x1.flatMap GEntry.enc), .blk b2 [.int .i64 r4.1.Races, .int .i64 r4.1.Club, .int .i64 r4.1.Age, .int .i64 r4.1.Day] 33] [(7, .pointer (some ⟨b2, 0, none⟩)), (11, v11), (17, .pointer (some ⟨b8, 0, none⟩)), (18, .int .i64 x8), (19, .int .i64 x5), (95, v11), (96, .int .i64 (x1.length : Int)), (97, .int .i64 (i2 : Int)), (101, v11), (102, .int .i64 (x1.length : Int)), (103, .int .i64 (i3 : Int)), (118, .bool (decide (y3.Race = y2.Race)))] [false, true, true, true] rfl ⟨rfl, rfl, rfl, rfl, rfl, rfl, rfl, rfl, rfl, rfl, rfl, rfl, trivial⟩
        refine then_n ?_
        obtain ⟨j9, hj9, h⟩ := joinE h
        refine f_join (fun a w' => ∃ x9 : Int, j9 x9 = some r ∧ Sx w [] φ6 [.blk b8 [.string y2.Who, .string y2.Race] 45, .own v11 45 2 x1.length (x1.flatMap GEntry.enc), .blk b2 [.int .i64 r4.1.Races, .int .i64 r4.1.Club, .int .i64 r4.1.Age, .int .i64 r4.1.Day] 33] [(7, .pointer (some ⟨b2, 0, none⟩)), (11, v11), (17, .pointer (some ⟨b8, 0, none⟩)), (18, .int .i64 x8), (19, .int .i64 x9), (95, v11), (96, .int .i64 (x1.length : Int)), (97, .int .i64 (i2 : Int)), (101, v11), (102, .int .i64 (x1.length : Int)), (103, .int .i64 (i3 : Int))] 134 a w') ?_ ?_
        ·refine f_cond (S.tm rfl) (fun hb8 => ?_) (fun hb8 => ?_)
         ·replace h := iteT h hb8
          refine f_region ?_
          refine lv S (rn_move (S.tm rfl)) rfl ?_; clear S; intro a S
          refine lv S (rn_add (S.tm rfl) rfl) rfl ?_; clear S; intro a S
          refine lv S (rn_assign (S.tm rfl)) rfl ?_; clear S; intro a S
          refine l_done ?_
          replace S := S.nk [.blk b8 [.string y2.Who, .string y2.Race] 45, .own v11 45 2 x1.length (x1.flatMap GEntry.enc), .blk b2 [.int .i64 r4.1.Races, .int .i64 r4.1.Club, .int .i64 r4.1.Age, .int .i64 r4.1.Day] 33] [(7, .pointer (some ⟨b2, 0, none⟩)), (11, v11), (17, .pointer (some ⟨b8, 0, none⟩)), (18, .int .i64 x8), (19, .int .i64 (W (x5 + 1))), (95, v11), (96, .int .i64 (x1.length : Int)), (97, .int .i64 (i2 : Int)), (101, v11), (102, .int .i64 (x1.length : Int)), (103, .int .i64 (i3 : Int))] [true, true, true] rfl ⟨rfl, rfl, rfl, rfl, rfl, rfl, rfl, rfl, rfl, rfl, rfl, trivial⟩
          refine then_n ?_
          exact ⟨W (x5 + 1), h, S.nf [true, true, true] rfl ⟨rfl, rfl, rfl, rfl, rfl, rfl, rfl, rfl, rfl, rfl, rfl, trivial⟩⟩
         ·replace h := iteF h hb8
          refine wp_skip ?_
          refine then_n ?_
          exact ⟨x5, h, S.nf [true, true, true] rfl ⟨rfl, rfl, rfl, rfl, rfl, rfl, rfl, rfl, rfl, rfl, rfl, trivial⟩⟩
        clear S h; rintro a w39 ⟨x9, h, S⟩; rw [hj9] at h; clear hj9 j9
        refine blk_n ?_
        refine then_n ?_
        exact ⟨x8, x9, h, S.nf [true, true, true] rfl ⟨rfl, rfl, rfl, rfl, rfl, rfl, rfl, rfl, rfl, rfl, rfl, trivial⟩⟩
       clear S h; rintro a w35 ⟨x6, x7, h, S⟩; rw [hj7] at h; clear hj7 j7
       refine then_n ?_
       refine f_region ?_
       refine lv S (rn_add (S.tm rfl) rfl) rfl ?_; clear S; intro a S
       refine lv S (rn_move (S.tm rfl)) rfl ?_; clear S; intro a S
       refine l_done ?_
       replace S := S.nk [.blk b8 [.string y2.Who, .string y2.Race] 45, .own v11 45 2 x1.length (x1.flatMap GEntry.enc), .blk b2 [.int .i64 r4.1.Races, .int .i64 r4.1.Club, .int .i64 r4.1.Age, .int .i64 r4.1.Day] 33] [(7, .pointer (some ⟨b2, 0, none⟩)), (11, v11), (17, .pointer (some ⟨b8, 0, none⟩)), (18, .int .i64 x6), (19, .int .i64 x7), (95, v11), (96, .int .i64 (x1.length : Int)), (97, .int .i64 (i2 : Int)), (101, v11), (102, .int .i64 (x1.length : Int)), (103, .int .i64 (W ((i3 : Int) + 1)))] [true, true, true] rfl ⟨rfl, rfl, rfl, rfl, rfl, rfl, rfl, rfl, rfl, rfl, rfl, trivial⟩
       refine then_n ?_
       exact ⟨ys3, ⟨i3 + 1, x6, x7, ⟨_, (hd3).trans (List.append_cons _ _ _), by simp [hi3]⟩, h, S.nf [true, true, true] rfl ⟨rfl, rfl, rfl, rfl, rfl, rfl, rfl, rfl, rfl, rfl, (congrArg (fun z => some (Value.int .i64 z)) (rng_next hd3 hi3 hm10)), trivial⟩⟩, Nat.lt_succ_self _⟩
     clear S h; rintro a w34 ⟨x4, x5, h, S⟩; rw [hj6] at h; clear hj6 j6
     refine then_n ?_
     refine f_seq ?_
     refine f_region ?_
     refine lv S (rn_move (S.tm rfl)) rfl ?_; clear S; intro a S
     refine lv S (rn_fld fa_33_0 (S.tm rfl)) rfl ?_; clear S; intro a S
     refine lv S (rn_load Tryz.isAgg3 (S.tm rfl) (S.cell (i := 2) rfl rfl)) rfl ?_; clear S; intro a S
     refine lv S (rn_gtr (S.tm rfl) (S.tm rfl)) rfl ?_; clear S; intro a S
     refine lv S (rn_move (S.tm rfl)) rfl ?_; clear S; intro a S
     refine f_cutm 5 (fun a w' => Keep [] w34 w' ∧ Sx w [] φ6 [.blk b8 [.string y2.Who, .string y2.Race] 45, .own v11 45 2 x1.length (x1.flatMap GEntry.enc), .blk b2 [.int .i64 r4.1.Races, .int .i64 r4.1.Club, .int .i64 r4.1.Age, .int .i64 r4.1.Day] 33] [(7, .pointer (some ⟨b2, 0, none⟩)), (11, v11), (95, v11), (96, .int .i64 (x1.length : Int)), (97, .int .i64 (i2 : Int)), (131, .bool ((decide (r4.1.Races < x4)) || (decide (r4.1.Club < x5))))] 134 a w') ?_ ?_
     ·rcases Bool.eq_false_or_eq_true (decide (r4.1.Races < x4)) with hb9 | hb9
      ·refine l_skip S rfl rfl rfl (neq_t hb9) rfl ?_ rfl; clear S; intro a S
       refine l_skip S rfl rfl rfl (neq_t hb9) rfl ?_ rfl; clear S; intro a S
       refine l_skip S rfl rfl rfl (neq_t hb9) rfl ?_ rfl; clear S; intro a S
       refine l_skip S rfl rfl rfl (neq_t hb9) rfl ?_ rfl; clear S; intro a S
       refine lv S (rn_or_t (decide (r4.1.Club < x5)) hb9 (S.tm rfl) rfl) rfl ?_; clear S; intro a S
       refine l_done ?_
       refine then_n ?_
       exact ⟨Keep.refl _ _, S.nf [true, true, true] rfl ⟨rfl, rfl, rfl, rfl, rfl, rfl, trivial⟩⟩
      ·refine l_want S rfl rfl rfl hb9 ?_
       refine lv S (rn_move (S.tm rfl)) rfl ?_; clear S; intro a S
       refine l_want S rfl rfl rfl hb9 ?_
       refine lv S (rn_fld fa_33_1 (S.tm rfl)) rfl ?_; clear S; intro a S
       refine l_want S rfl rfl rfl hb9 ?_
       refine lv S (rn_load Tryz.isAgg3 (S.tm rfl) (S.cell (i := 2) rfl rfl)) rfl ?_; clear S; intro a S
       refine l_want S rfl rfl rfl hb9 ?_
       refine lv S (rn_gtr (S.tm rfl) (S.tm rfl)) rfl ?_; clear S; intro a S
       refine lv S (rn_or_f hb9 (S.tm rfl) (S.tm rfl)) rfl ?_; clear S; intro a S
       refine l_done ?_
       refine then_n ?_
       exact ⟨Keep.refl _ _, S.nf [true, true, true] rfl ⟨rfl, rfl, rfl, rfl, rfl, rfl, trivial⟩⟩
     clear S; rintro a w40 ⟨hk29, S⟩
     refine l_done ?_
     replace S := S.nk [.own v11 45 2 x1.length (x1.flatMap GEntry.enc), .blk b2 [.int .i64 r4.1.Races, .int .i64 r4.1.Club, .int .i64 r4.1.Age, .int .i64 r4.1.Day] 33] [(7, .pointer (some ⟨b2, 0, none⟩)), (11, v11), (95, v11), (96, .int .i64 (x1.length : Int)), (97, .int .i64 (i2 : Int)), (131, .bool ((decide (r4.1.Races < x4)) || (decide (r4.1.Club < x5))))] [false, true, true] rfl ⟨rfl, rfl, rfl, rfl, rfl, rfl, trivial⟩
     refine then_n ?_
     refine f_cond (S.tm rfl) (fun hb10 => ?_) (fun hb10 => ?_)
     ·replace h := iteT h hb10
      refine f_seq ?_
      refine f_region ?_
      refine lv S (rn_assign rfl) rfl ?_; clear S; intro a S
      refine l_done ?_
      replace S := S.nk [] [(2, .bool false)] [false, false] rfl ⟨rfl, trivial⟩
      refine then_n ?_
      refine wp_ret ?_
      refine blk_r ?_
      refine then_r ?_
      refine then_r ?_
      refine blk_r ?_
      refine then_r ?_
      refine then_r ?_
      obtain rfl := Option.some.inj h
      exact f_ret S Tryz.results3 rfl rfl
     ·replace h := iteF h hb10
      refine wp_skip ?_
      refine blk_n ?_
      refine then_n ?_
      refine f_region ?_
      refine lv S (rn_add (S.tm rfl) rfl) rfl ?_; clear S; intro a S
      refine lv S (rn_move (S.tm rfl)) rfl ?_; clear S; intro a S
      refine l_done ?_
      replace S := S.nk [.own v11 45 2 x1.length (x1.flatMap GEntry.enc), .blk b2 [.int .i64 r4.1.Races, .int .i64 r4.1.Club, .int .i64 r4.1.Age, .int .i64 r4.1.Day] 33] [(7, .pointer (some ⟨b2, 0, none⟩)), (11, v11), (95, v11), (96, .int .i64 (x1.length : Int)), (97, .int .i64 (W ((i2 : Int) + 1)))] [true, true] rfl ⟨rfl, rfl, rfl, rfl, rfl, trivial⟩
      refine then_n ?_
      exact ⟨ys2, ⟨i2 + 1, ⟨_, (hd2).trans (List.append_cons _ _ _), by simp [hi2]⟩, h, S.nf [true, true] rfl ⟨rfl, rfl, rfl, rfl, (congrArg (fun z => some (Value.int .i64 z)) (rng_next hd2 hi2 hm8)), trivial⟩⟩, Nat.lt_succ_self _⟩
   clear S h; rintro a w30 ⟨h, S⟩; rw [hj5] at h; clear hj5 j5
   refine then_n ?_
   refine f_seq ?_
   refine f_region ?_
   obtain ⟨r11, hr14, h⟩ := bindE h
   refine l_enter S (fun _ => run_call (vs := []) trivial Tryz.call12) (tumbkeep2_ready_ok _ _ hr14) rfl ?_; clear S; intro v18 a w41 hv14 hk30 hn14 S
   subst hv14
   refine lv S (rn_assign (S.tm rfl)) rfl ?_; clear S; intro a S
   refine l_done ?_
   replace S := S.nk [] [(2, .bool r11)] [false, false] rfl ⟨rfl, trivial⟩
   refine then_n ?_
   refine wp_ret ?_
   obtain rfl := Option.some.inj h
   exact f_ret S Tryz.results3 rfl rfl
end Go.Proofs.YtdcmeoefpigcdaaGreatDoor
