/- Each Go function computes its plain twin, by program. -/
import Derived.Test.YtacfgpcommiihaaGreatDoorWk4
namespace Go.Proofs.YtacfgpcommiihaaGreatDoor
open Go
set_option maxRecDepth 20000 in
theorem swimmer_DayOf_ok (w : World) (p_d : GDate) (r : Int × Int) (h : swimmer_DayOf p_d = some r) :
    Calls Tryz.prog 43 [.agg (GDate.enc p_d).toArray].toArray w (Ret w [] fun τ v w' => v = .tuple #[.int .i64 r.1, .int .i64 r.2]) := by
 refine f_enter [] [] Tryz.func43 rfl Tryz.ntmps43 rfl (by simp) (by simp [fps]) (by simp [fps]) fun a S => ?_
 unfold swimmer_DayOf at h
 replace S := S.nk [] [(0, .agg (GDate.enc p_d).toArray)] [] rfl ⟨rfl, trivial⟩
 refine f_seq ?_
 refine f_region ?_
 refine l_box S (S.tm rfl) (cs := [.int .i64 p_d.Year, .int .i64 p_d.Month, .int .i64 p_d.Day]) rfl rfl ?_; clear S; intro a w1 b1 hz1 hk1 S
 refine lv S (rn_assign rfl) rfl ?_; clear S; intro a S
 refine lv S (rn_assign rfl) rfl ?_; clear S; intro a S
 refine l_done ?_
 replace S := S.nk [.blk b1 [.int .i64 p_d.Year, .int .i64 p_d.Month, .int .i64 p_d.Day] 89] [(1, .pointer (some ⟨b1, 0, none⟩))] [true] rfl ⟨rfl, trivial⟩
 refine then_n ?_
 refine f_seq ?_
 refine f_seq ?_
 obtain ⟨j1, hj1, h⟩ := joinE h
 refine f_join (fun a w' => ∃ x1 : Bool, j1 x1 = some r ∧ Sx w [] nov [.blk b1 [.int .i64 p_d.Year, .int .i64 p_d.Month, .int .i64 p_d.Day] 89] [(1, .pointer (some ⟨b1, 0, none⟩)), (28, .bool x1)] 68 a w') ?_ ?_
 ·rcases Bool.eq_false_or_eq_true (!(words_Within p_d.Year 1900 2100)) with hb1 | hb1
  ·replace h := iteT h hb1
   rcases Bool.eq_false_or_eq_true true with hb2 | hb2
   ·replace h := iteT h hb2
    refine d_region [] ([]) Tryz.mixed S rfl (by kernel_rfl) ?_; clear S; intro w6 hk5 hsel S
    refine d_quiet 0 S hsel rfl rfl rfl (by kernel_rfl) (by kernel_rfl) rfl (fun _ hw => (rn_fld fa_89_0 (S.tm rfl))) ?_; clear S; intro a S
    refine d_quiet 1 S hsel rfl rfl rfl (by kernel_rfl) (by kernel_rfl) rfl (fun _ hw => (rn_ld Tryz.isAgg3 (off := 0) (o := 0) (S.tm rfl) ((S.blk_mem (i := 0) (cells := [.int .i64 p_d.Year, .int .i64 p_d.Month, .int .i64 p_d.Day]) (b := b1) (T := 89) rfl (ne_nil (e' := .blk b1 [.int .i64 p_d.Year, .int .i64 p_d.Month, .int .i64 p_d.Day] 89))).kept hw) rfl)) ?_; clear S; intro a S
    refine d_loud1 2 (by kernel_rfl) rfl ?_
    refine l_enter S (fun _ => run_call (vs := [.int .i64 p_d.Year, .int .i64 1900, .int .i64 2100]) ⟨(S.tm rfl), rfl, rfl, trivial⟩ Tryz.call55) (words_Within_ok _ p_d.Year 1900 2100 _ rfl) rfl ?_; clear S; intro v4 a w7 hv4 hk6 hn4 S
    subst hv4
    refine l_done ?_
    refine d_next hk6 ?_
    refine d_rest [3, 4, 5, 6, 7, 8, 9, 10, 11, 12, 13, 14, 15, 16, 17, 18, 19, 20] hsel (by kernel_rfl) rfl ?_
    clear hsel
    refine s_lv S rfl (rn_not (S.tm rfl)) rfl ?_; clear S; intro a S
    refine s_lv S rfl (rn_move (S.tm rfl)) rfl ?_; clear S; intro a S
    refine s_skip S rfl rfl rfl rfl (neq_t hb1) rfl ?_ rfl; clear S; intro a S
    refine s_skip S rfl rfl rfl rfl (neq_t hb1) rfl ?_ rfl; clear S; intro a S
    refine s_skip S rfl rfl rfl rfl (neq_t hb1) rfl ?_ rfl; clear S; intro a S
    refine s_skip S rfl rfl rfl rfl (neq_t hb1) rfl ?_ rfl; clear S; intro a S
    refine s_lv S rfl (rn_pick_b hb1 (S.tm rfl) rfl) rfl ?_; clear S; intro a S
    refine s_lv S rfl (rn_move (S.tm rfl)) rfl ?_; clear S; intro a S
    refine s_skip S rfl rfl rfl rfl (neq_t hb2) rfl ?_ rfl; clear S; intro a S
    refine s_skip S rfl rfl rfl rfl (neq_t hb2) rfl ?_ rfl; clear S; intro a S
    refine s_skip S rfl rfl rfl rfl (neq_t hb2) rfl ?_ rfl; clear S; intro a S
    refine s_skip S rfl rfl rfl rfl (neq_t hb2) rfl ?_ rfl; clear S; intro a S
    refine s_skip S rfl rfl rfl rfl (neq_t hb2) rfl ?_ rfl; clear S; intro a S
    refine s_skip S rfl rfl rfl rfl (neq_t hb2) rfl ?_ rfl; clear S; intro a S
    refine s_skip S rfl rfl rfl rfl (neq_t hb2) rfl ?_ rfl; clear S; intro a S
    refine s_skip S rfl rfl rfl rfl (neq_t hb2) rfl ?_ rfl; clear S; intro a S
    refine s_skip S rfl rfl rfl rfl (neq_t hb2) rfl ?_ rfl; clear S; intro a S
    refine s_lv S rfl (rn_pick_b hb2 (S.tm rfl) rfl) rfl ?_; clear S; intro a S
    refine s_done ?_
    replace S := S.nk [.blk b1 [.int .i64 p_d.Year, .int .i64 p_d.Month, .int .i64 p_d.Day] 89] [(1, .pointer (some ⟨b1, 0, none⟩)), (28, .bool true)] [true] rfl ⟨rfl, rfl, trivial⟩
    refine then_n ?_
    exact ⟨true, h, S.nf [true] rfl ⟨rfl, rfl, trivial⟩⟩
   ·replace h := iteF h hb2
    refine d_region [] ([]) Tryz.mixed S rfl (by kernel_rfl) ?_; clear S; intro w11 hk10 hsel S
    refine d_quiet 0 S hsel rfl rfl rfl (by kernel_rfl) (by kernel_rfl) rfl (fun _ hw => (rn_fld fa_89_0 (S.tm rfl))) ?_; clear S; intro a S
    refine d_quiet 1 S hsel rfl rfl rfl (by kernel_rfl) (by kernel_rfl) rfl (fun _ hw => (rn_ld Tryz.isAgg3 (off := 0) (o := 0) (S.tm rfl) ((S.blk_mem (i := 0) (cells := [.int .i64 p_d.Year, .int .i64 p_d.Month, .int .i64 p_d.Day]) (b := b1) (T := 89) rfl (ne_nil (e' := .blk b1 [.int .i64 p_d.Year, .int .i64 p_d.Month, .int .i64 p_d.Day] 89))).kept hw) rfl)) ?_; clear S; intro a S
    refine d_loud1 2 (by kernel_rfl) rfl ?_
    refine l_enter S (fun _ => run_call (vs := [.int .i64 p_d.Year, .int .i64 1900, .int .i64 2100]) ⟨(S.tm rfl), rfl, rfl, trivial⟩ Tryz.call55) (words_Within_ok _ p_d.Year 1900 2100 _ rfl) rfl ?_; clear S; intro v8 a w12 hv8 hk11 hn8 S
    subst hv8
    refine l_done ?_
    refine d_next hk11 ?_
    refine d_quiet 3 S hsel rfl rfl rfl (by kernel_rfl) (by kernel_rfl) rfl (fun _ hw => (rn_not (S.tm rfl))) ?_; clear S; intro a S
    refine d_quiet 4 S hsel rfl rfl rfl (by kernel_rfl) (by kernel_rfl) rfl (fun _ hw => (rn_move (S.tm rfl))) ?_; clear S; intro a S
    refine d_skip 5 S hsel rfl rfl rfl rfl (neq_t hb1) rfl (by kernel_rfl) (by kernel_rfl) rfl ?_; clear S; intro a S
    refine d_skip 6 S hsel rfl rfl rfl rfl (neq_t hb1) rfl (by kernel_rfl) (by kernel_rfl) rfl ?_; clear S; intro a S
    refine d_skip 7 S hsel rfl rfl rfl rfl (neq_t hb1) rfl (by kernel_rfl) (by kernel_rfl) rfl ?_; clear S; intro a S
    refine d_skip 8 S hsel rfl rfl rfl rfl (neq_t hb1) rfl (by kernel_rfl) (by kernel_rfl) rfl ?_; clear S; intro a S
    refine d_quiet 9 S hsel rfl rfl rfl (by kernel_rfl) (by kernel_rfl) rfl (fun _ hw => (rn_pick_b hb1 (S.tm rfl) rfl)) ?_; clear S; intro a S
    refine d_quiet 10 S hsel rfl rfl rfl (by kernel_rfl) (by kernel_rfl) rfl (fun _ hw => (rn_move (S.tm rfl))) ?_; clear S; intro a S
    refine d_quiet_g 11 S hsel rfl rfl rfl rfl hb2 rfl rfl (by kernel_rfl) (by kernel_rfl) rfl (fun _ hw => (rn_fld fa_89_2 (S.tm rfl))) ?_; clear S; intro a S
    refine d_quiet_g 12 S hsel rfl rfl rfl rfl hb2 rfl rfl (by kernel_rfl) (by kernel_rfl) rfl (fun _ hw => (rn_ld Tryz.isAgg3 (off := 0) (o := 2) (S.tm rfl) ((S.blk_mem (i := 0) (cells := [.int .i64 p_d.Year, .int .i64 p_d.Month, .int .i64 p_d.Day]) (b := b1) (T := 89) rfl (ne_nil (e' := .blk b1 [.int .i64 p_d.Year, .int .i64 p_d.Month, .int .i64 p_d.Day] 89))).kept hw) rfl)) ?_; clear S; intro a S
    refine d_quiet_g 13 S hsel rfl rfl rfl rfl hb2 rfl rfl (by kernel_rfl) (by kernel_rfl) rfl (fun _ hw => (rn_fld fa_89_0 (S.tm rfl))) ?_; clear S; intro a S
    refine d_quiet_g 14 S hsel rfl rfl rfl rfl hb2 rfl rfl (by kernel_rfl) (by kernel_rfl) rfl (fun _ hw => (rn_ld Tryz.isAgg3 (off := 0) (o := 0) (S.tm rfl) ((S.blk_mem (i := 0) (cells := [.int .i64 p_d.Year, .int .i64 p_d.Month, .int .i64 p_d.Day]) (b := b1) (T := 89) rfl (ne_nil (e' := .blk b1 [.int .i64 p_d.Year, .int .i64 p_d.Month, .int .i64 p_d.Day] 89))).kept hw) rfl)) ?_; clear S; intro a S
    refine d_quiet_g 15 S hsel rfl rfl rfl rfl hb2 rfl rfl (by kernel_rfl) (by kernel_rfl) rfl (fun _ hw => (rn_fld fa_89_1 (S.tm rfl))) ?_; clear S; intro a S
    refine d_quiet_g 16 S hsel rfl rfl rfl rfl hb2 rfl rfl (by kernel_rfl) (by kernel_rfl) rfl (fun _ hw => (rn_ld Tryz.isAgg3 (off := 0) (o := 1) (S.tm rfl) ((S.blk_mem (i := 0) (cells := [.int .i64 p_d.Year, .int .i64 p_d.Month, .int .i64 p_d.Day]) (b := b1) (T := 89) rfl (ne_nil (e' := .blk b1 [.int .i64 p_d.Year, .int .i64 p_d.Month, .int .i64 p_d.Day] 89))).kept hw) rfl)) ?_; clear S; intro a S
    refine d_loud1 17 (by kernel_rfl) rfl ?_
    refine l_want S rfl rfl rfl hb2 ?_
    refine l_enter S (fun _ => run_call (vs := [.int .i64 p_d.Year, .int .i64 p_d.Month]) ⟨(S.tm rfl), (S.tm rfl), trivial⟩ Tryz.call67) (swimmer_long_ok _ p_d.Year p_d.Month _ rfl) rfl ?_; clear S; intro v9 a w13 hv9 hk12 hn9 S
    subst hv9
    refine l_done ?_
    refine d_next hk12 ?_
    refine d_loud1 18 (by kernel_rfl) rfl ?_
    refine l_want S rfl rfl rfl hb2 ?_
    refine l_enter S (fun _ => run_call (vs := [.int .i64 p_d.Day, .int .i64 1, .int .i64 (swimmer_long p_d.Year p_d.Month)]) ⟨(S.tm rfl), rfl, (S.tm rfl), trivial⟩ Tryz.call55) (words_Within_ok _ p_d.Day 1 (swimmer_long p_d.Year p_d.Month) _ rfl) rfl ?_; clear S; intro v10 a w14 hv10 hk13 hn10 S
    subst hv10
    refine l_done ?_
    refine d_next hk13 ?_
    refine d_rest [19, 20] hsel (by kernel_rfl) rfl ?_
    clear hsel
    refine s_want S rfl rfl rfl rfl hb2 ?_
    refine s_lv0 S (rn_not (S.tm rfl)) rfl ?_; clear S; intro a S
    refine s_lv S rfl (rn_pick_c hb2 (S.tm rfl) (S.tm rfl)) rfl ?_; clear S; intro a S
    refine s_done ?_
    replace S := S.nk [.blk b1 [.int .i64 p_d.Year, .int .i64 p_d.Month, .int .i64 p_d.Day] 89] [(1, .pointer (some ⟨b1, 0, none⟩)), (28, .bool (!(words_Within p_d.Day 1 (swimmer_long p_d.Year p_d.Month))))] [true] rfl ⟨rfl, rfl, trivial⟩
    refine then_n ?_
    exact ⟨!(words_Within p_d.Day 1 (swimmer_long p_d.Year p_d.Month)), h, S.nf [true] rfl ⟨rfl, rfl, trivial⟩⟩
  ·replace h := iteF h hb1
   rcases Bool.eq_false_or_eq_true (!(words_Within p_d.Month 1 12)) with hb3 | hb3
   ·replace h := iteT h hb3
    refine d_region [] ([]) Tryz.mixed S rfl (by kernel_rfl) ?_; clear S; intro w19 hk18 hsel S
    refine d_quiet 0 S hsel rfl rfl rfl (by kernel_rfl) (by kernel_rfl) rfl (fun _ hw => (rn_fld fa_89_0 (S.tm rfl))) ?_; clear S; intro a S
    refine d_quiet 1 S hsel rfl rfl rfl (by kernel_rfl) (by kernel_rfl) rfl (fun _ hw => (rn_ld Tryz.isAgg3 (off := 0) (o := 0) (S.tm rfl) ((S.blk_mem (i := 0) (cells := [.int .i64 p_d.Year, .int .i64 p_d.Month, .int .i64 p_d.Day]) (b := b1) (T := 89) rfl (ne_nil (e' := .blk b1 [.int .i64 p_d.Year, .int .i64 p_d.Month, .int .i64 p_d.Day] 89))).kept hw) rfl)) ?_; clear S; intro a S
    refine d_loud1 2 (by kernel_rfl) rfl ?_
    refine l_enter S (fun _ => run_call (vs := [.int .i64 p_d.Year, .int .i64 1900, .int .i64 2100]) ⟨(S.tm rfl), rfl, rfl, trivial⟩ Tryz.call55) (words_Within_ok _ p_d.Year 1900 2100 _ rfl) rfl ?_; clear S; intro v15 a w20 hv15 hk19 hn15 S
    subst hv15
    refine l_done ?_
    refine d_next hk19 ?_
    refine d_quiet 3 S hsel rfl rfl rfl (by kernel_rfl) (by kernel_rfl) rfl (fun _ hw => (rn_not (S.tm rfl))) ?_; clear S; intro a S
    refine d_quiet 4 S hsel rfl rfl rfl (by kernel_rfl) (by kernel_rfl) rfl (fun _ hw => (rn_move (S.tm rfl))) ?_; clear S; intro a S
    refine d_quiet_g 5 S hsel rfl rfl rfl rfl hb1 rfl rfl (by kernel_rfl) (by kernel_rfl) rfl (fun _ hw => (rn_fld fa_89_1 (S.tm rfl))) ?_; clear S; intro a S
    refine d_quiet_g 6 S hsel rfl rfl rfl rfl hb1 rfl rfl (by kernel_rfl) (by kernel_rfl) rfl (fun _ hw => (rn_ld Tryz.isAgg3 (off := 0) (o := 1) (S.tm rfl) ((S.blk_mem (i := 0) (cells := [.int .i64 p_d.Year, .int .i64 p_d.Month, .int .i64 p_d.Day]) (b := b1) (T := 89) rfl (ne_nil (e' := .blk b1 [.int .i64 p_d.Year, .int .i64 p_d.Month, .int .i64 p_d.Day] 89))).kept hw) rfl)) ?_; clear S; intro a S
    refine d_loud1 7 (by kernel_rfl) rfl ?_
    refine l_want S rfl rfl rfl hb1 ?_
    refine l_enter S (fun _ => run_call (vs := [.int .i64 p_d.Month, .int .i64 1, .int .i64 12]) ⟨(S.tm rfl), rfl, rfl, trivial⟩ Tryz.call55) (words_Within_ok _ p_d.Month 1 12 _ rfl) rfl ?_; clear S; intro v16 a w21 hv16 hk20 hn16 S
    subst hv16
    refine l_done ?_
    refine d_next hk20 ?_
    refine d_rest [8, 9, 10, 11, 12, 13, 14, 15, 16, 17, 18, 19, 20] hsel (by kernel_rfl) rfl ?_
    clear hsel
    refine s_want S rfl rfl rfl rfl hb1 ?_
    refine s_lv0 S (rn_not (S.tm rfl)) rfl ?_; clear S; intro a S
    refine s_lv S rfl (rn_pick_c hb1 (S.tm rfl) (S.tm rfl)) rfl ?_; clear S; intro a S
    refine s_lv S rfl (rn_move (S.tm rfl)) rfl ?_; clear S; intro a S
    refine s_skip S rfl rfl rfl rfl (neq_t hb3) rfl ?_ rfl; clear S; intro a S
    refine s_skip S rfl rfl rfl rfl (neq_t hb3) rfl ?_ rfl; clear S; intro a S
    refine s_skip S rfl rfl rfl rfl (neq_t hb3) rfl ?_ rfl; clear S; intro a S
    refine s_skip S rfl rfl rfl rfl (neq_t hb3) rfl ?_ rfl; clear S; intro a S
    refine s_skip S rfl rfl rfl rfl (neq_t hb3) rfl ?_ rfl; clear S; intro a S
    refine s_skip S rfl rfl rfl rfl (neq_t hb3) rfl ?_ rfl; clear S; intro a S
    refine s_skip S rfl rfl rfl rfl (neq_t hb3) rfl ?_ rfl; clear S; intro a S
    refine s_skip S rfl rfl rfl rfl (neq_t hb3) rfl ?_ rfl; clear S; intro a S
    refine s_skip S rfl rfl rfl rfl (neq_t hb3) rfl ?_ rfl; clear S; intro a S
    refine s_lv S rfl (rn_pick_b hb3 (S.tm rfl) rfl) rfl ?_; clear S; intro a S
    refine s_done ?_
    replace S := S.nk [.blk b1 [.int .i64 p_d.Year, .int .i64 p_d.Month, .int .i64 p_d.Day] 89] [(1, .pointer (some ⟨b1, 0, none⟩)), (28, .bool true)] [true] rfl ⟨rfl, rfl, trivial⟩
    refine then_n ?_
    exact ⟨true, h, S.nf [true] rfl ⟨rfl, rfl, trivial⟩⟩
   ·replace h := iteF h hb3
    refine d_region [] ([]) Tryz.mixed S rfl (by kernel_rfl) ?_; clear S; intro w26 hk25 hsel S
    refine d_quiet 0 S hsel rfl rfl rfl (by kernel_rfl) (by kernel_rfl) rfl (fun _ hw => (rn_fld fa_89_0 (S.tm rfl))) ?_; clear S; intro a S
    refine d_quiet 1 S hsel rfl rfl rfl (by kernel_rfl) (by kernel_rfl) rfl (fun _ hw => (rn_ld Tryz.isAgg3 (off := 0) (o := 0) (S.tm rfl) ((S.blk_mem (i := 0) (cells := [.int .i64 p_d.Year, .int .i64 p_d.Month, .int .i64 p_d.Day]) (b := b1) (T := 89) rfl (ne_nil (e' := .blk b1 [.int .i64 p_d.Year, .int .i64 p_d.Month, .int .i64 p_d.Day] 89))).kept hw) rfl)) ?_; clear S; intro a S
    refine d_loud1 2 (by kernel_rfl) rfl ?_
    refine l_enter S (fun _ => run_call (vs := [.int .i64 p_d.Year, .int .i64 1900, .int .i64 2100]) ⟨(S.tm rfl), rfl, rfl, trivial⟩ Tryz.call55) (words_Within_ok _ p_d.Year 1900 2100 _ rfl) rfl ?_; clear S; intro v21 a w27 hv21 hk26 hn21 S
    subst hv21
    refine l_done ?_
    refine d_next hk26 ?_
    refine d_quiet 3 S hsel rfl rfl rfl (by kernel_rfl) (by kernel_rfl) rfl (fun _ hw => (rn_not (S.tm rfl))) ?_; clear S; intro a S
    refine d_quiet 4 S hsel rfl rfl rfl (by kernel_rfl) (by kernel_rfl) rfl (fun _ hw => (rn_move (S.tm rfl))) ?_; clear S; intro a S
    refine d_quiet_g 5 S hsel rfl rfl rfl rfl hb1 rfl rfl (by kernel_rfl) (by kernel_rfl) rfl (fun _ hw => (rn_fld fa_89_1 (S.tm rfl))) ?_; clear S; intro a S
    refine d_quiet_g 6 S hsel rfl rfl rfl rfl hb1 rfl rfl (by kernel_rfl) (by kernel_rfl) rfl (fun _ hw => (rn_ld Tryz.isAgg3 (off := 0) (o := 1) (S.tm rfl) ((S.blk_mem (i := 0) (cells := [.int .i64 p_d.Year, .int .i64 p_d.Month, .int .i64 p_d.Day]) (b := b1) (T := 89) rfl (ne_nil (e' := .blk b1 [.int .i64 p_d.Year, .int .i64 p_d.Month, .int .i64 p_d.Day] 89))).kept hw) rfl)) ?_; clear S; intro a S
    refine d_loud1 7 (by kernel_rfl) rfl ?_
    refine l_want S rfl rfl rfl hb1 ?_
    refine l_enter S (fun _ => run_call (vs := [.int .i64 p_d.Month, .int .i64 1, .int .i64 12]) ⟨(S.tm rfl), rfl, rfl, trivial⟩ Tryz.call55) (words_Within_ok _ p_d.Month 1 12 _ rfl) rfl ?_; clear S; intro v22 a w28 hv22 hk27 hn22 S
    subst hv22
    refine l_done ?_
    refine d_next hk27 ?_
    refine d_quiet_g 8 S hsel rfl rfl rfl rfl hb1 rfl rfl (by kernel_rfl) (by kernel_rfl) rfl (fun _ hw => (rn_not (S.tm rfl))) ?_; clear S; intro a S
    refine d_quiet 9 S hsel rfl rfl rfl (by kernel_rfl) (by kernel_rfl) rfl (fun _ hw => (rn_pick_c hb1 (S.tm rfl) (S.tm rfl))) ?_; clear S; intro a S
    refine d_quiet 10 S hsel rfl rfl rfl (by kernel_rfl) (by kernel_rfl) rfl (fun _ hw => (rn_move (S.tm rfl))) ?_; clear S; intro a S
    refine d_quiet_g 11 S hsel rfl rfl rfl rfl hb3 rfl rfl (by kernel_rfl) (by kernel_rfl) rfl (fun _ hw => (rn_fld fa_89_2 (S.tm rfl))) ?_; clear S; intro a S
    refine d_quiet_g 12 S hsel rfl rfl rfl rfl hb3 rfl rfl (by kernel_rfl) (by kernel_rfl) rfl (fun _ hw => (rn_ld Tryz.isAgg3 (off := 0) (o := 2) (S.tm rfl) ((S.blk_mem (i := 0) (cells := [.int .i64 p_d.Year, .int .i64 p_d.Month, .int .i64 p_d.Day]) (b := b1) (T := 89) rfl (ne_nil (e' := .blk b1 [.int .i64 p_d.Year, .int .i64 p_d.Month, .int .i64 p_d.Day] 89))).kept hw) rfl)) ?_; clear S; intro a S
    refine d_quiet_g 13 S hsel rfl rfl rfl rfl hb3 rfl rfl (by kernel_rfl) (by kernel_rfl) rfl (fun _ hw => (rn_fld fa_89_0 (S.tm rfl))) ?_; clear S; intro a S
    refine d_quiet_g 14 S hsel rfl rfl rfl rfl hb3 rfl rfl (by kernel_rfl) (by kernel_rfl) rfl (fun _ hw => (rn_ld Tryz.isAgg3 (off := 0) (o := 0) (S.tm rfl) ((S.blk_mem (i := 0) (cells := [.int .i64 p_d.Year, .int .i64 p_d.Month, .int .i64 p_d.Day]) (b := b1) (T := 89) rfl (ne_nil (e' := .blk b1 [.int .i64 p_d.Year, .int .i64 p_d.Month, .int .i64 p_d.Day] 89))).kept hw) rfl)) ?_; clear S; intro a S
    refine d_quiet_g 15 S hsel rfl rfl rfl rfl hb3 rfl rfl (by kernel_rfl) (by kernel_rfl) rfl (fun _ hw => (rn_fld fa_89_1 (S.tm rfl))) ?_; clear S; intro a S
    refine d_quiet_g 16 S hsel rfl rfl rfl rfl hb3 rfl rfl (by kernel_rfl) (by kernel_rfl) rfl (fun _ hw => (rn_ld Tryz.isAgg3 (off := 0) (o := 1) (S.tm rfl) ((S.blk_mem (i := 0) (cells := [.int .i64 p_d.Year, .int .i64 p_d.Month, .int .i64 p_d.Day]) (b := b1) (T := 89) rfl (ne_nil (e' := .blk b1 [.int .i64 p_d.Year, .int .i64 p_d.Month, .int .i64 p_d.Day] 89))).kept hw) rfl)) ?_; clear S; intro a S
    refine d_loud1 17 (by kernel_rfl) rfl ?_
    refine l_want S rfl rfl rfl hb3 ?_
    refine l_enter S (fun _ => run_call (vs := [.int .i64 p_d.Year, .int .i64 p_d.Month]) ⟨(S.tm rfl), (S.tm rfl), trivial⟩ Tryz.call67) (swimmer_long_ok _ p_d.Year p_d.Month _ rfl) rfl ?_; clear S; intro v23 a w29 hv23 hk28 hn23 S
    subst hv23
    refine l_done ?_
    refine d_next hk28 ?_
    refine d_loud1 18 (by kernel_rfl) rfl ?_
    refine l_want S rfl rfl rfl hb3 ?_
    refine l_enter S (fun _ => run_call (vs := [.int .i64 p_d.Day, .int .i64 1, .int .i64 (swimmer_long p_d.Year p_d.Month)]) ⟨(S.tm rfl), rfl, (S.tm rfl), trivial⟩ Tryz.call55) (words_Within_ok _ p_d.Day 1 (swimmer_long p_d.Year p_d.Month) _ rfl) rfl ?_; clear S; intro v24 a w30 hv24 hk29 hn24 S
    subst hv24
    refine l_done ?_
    refine d_next hk29 ?_
    refine d_rest [19, 20] hsel (by kernel_rfl) rfl ?_
    clear hsel
    refine s_want S rfl rfl rfl rfl hb3 ?_
    refine s_lv0 S (rn_not (S.tm rfl)) rfl ?_; clear S; intro a S
    refine s_lv S rfl (rn_pick_c hb3 (S.tm rfl) (S.tm rfl)) rfl ?_; clear S; intro a S
    refine s_done ?_
    replace S := S.nk [.blk b1 [.int .i64 p_d.Year, .int .i64 p_d.Month, .int .i64 p_d.Day] 89] [(1, .pointer (some ⟨b1, 0, none⟩)), (28, .bool (!(words_Within p_d.Day 1 (swimmer_long p_d.Year p_d.Month))))] [true] rfl ⟨rfl, rfl, trivial⟩
    refine then_n ?_
    exact ⟨!(words_Within p_d.Day 1 (swimmer_long p_d.Year p_d.Month)), h, S.nf [true] rfl ⟨rfl, rfl, trivial⟩⟩
 clear S h; rintro a w2 ⟨x1, h, S⟩; rw [hj1] at h; clear hj1 j1
 refine then_n ?_
 refine f_cond (S.tm rfl) (fun hb4 => ?_) (fun hb4 => ?_)
 ·replace h := iteT h hb4
  refine f_seq ?_
  refine f_region ?_
  refine lv S (rn_assign rfl) rfl ?_; clear S; intro a S
  refine lv S (rn_assign rfl) rfl ?_; clear S; intro a S
  refine l_done ?_
  replace S := S.nk [] [(2, .int .i64 0), (3, .int .i64 1)] [false] rfl ⟨rfl, rfl, trivial⟩
  refine then_n ?_
  refine wp_ret ?_
  refine then_r ?_
  obtain rfl := Option.some.inj h
  exact f_ret2 S Tryz.results43 rfl rfl rfl
 ·replace h := iteF h hb4
  refine wp_skip ?_
  refine then_n ?_
  refine f_seq ?_
  refine f_region ?_
  refine lv S (rn_fld fa_89_2 (S.tm rfl)) rfl ?_; clear S; intro a S
  refine lv S (rn_load Tryz.isAgg3 (S.tm rfl) (S.cell (i := 0) rfl rfl)) rfl ?_; clear S; intro a S
  refine lv S (rn_sub (S.tm rfl) rfl) rfl ?_; clear S; intro a S
  refine lv S (rn_assign (S.tm rfl)) rfl ?_; clear S; intro a S
  refine l_done ?_
  replace S := S.nk [.blk b1 [.int .i64 p_d.Year, .int .i64 p_d.Month, .int .i64 p_d.Day] 89] [(1, .pointer (some ⟨b1, 0, none⟩)), (4, .int .i64 (W (p_d.Day - 1)))] [true] rfl ⟨rfl, rfl, trivial⟩
  refine then_n ?_
  refine f_seq ?_
  refine f_seq ?_
  refine f_region ?_
  refine lv S (rn_assign rfl) rfl ?_; clear S; intro a S
  refine l_done ?_
  replace S := S.nk [.blk b1 [.int .i64 p_d.Year, .int .i64 p_d.Month, .int .i64 p_d.Day] 89] [(1, .pointer (some ⟨b1, 0, none⟩)), (4, .int .i64 (W (p_d.Day - 1))), (5, .int .i64 1)] [true] rfl ⟨rfl, rfl, rfl, trivial⟩
  refine then_n ?_
  obtain ⟨j2, hj2, h⟩ := joinE h
  refine f_join (fun a w' => ∃ x2 : Int, j2 x2 = some r ∧ Sx w [] nov [.blk b1 [.int .i64 p_d.Year, .int .i64 p_d.Month, .int .i64 p_d.Day] 89] [(1, .pointer (some ⟨b1, 0, none⟩)), (4, .int .i64 x2)] 68 a w') ?_ ?_
  ·refine wp_block ?_
   refine f_loop (fun (m1 : Nat) a w' => ∃ x2 : Int, ∃ x3 : Int, swimmer_DayOf_l1 p_d j2 m1 x2 x3 = some r ∧ Sx w [] nov [.blk b1 [.int .i64 p_d.Year, .int .i64 p_d.Month, .int .i64 p_d.Day] 89] [(1, .pointer (some ⟨b1, 0, none⟩)), (4, .int .i64 x2), (5, .int .i64 x3)] 68 a w') id ((p_d.Month - 1).toNat + 2) ⟨W (p_d.Day - 1), 1, h, S.nf [true] rfl ⟨rfl, rfl, rfl, trivial⟩⟩ ?_
   clear S h; rintro m1 a w31 ⟨x2, x3, h, S⟩
   cases m1 with
   | zero => rw [swimmer_DayOf_l1.eq_1] at h; cases h
   | succ m1 =>
    rw [swimmer_DayOf_l1.eq_2] at h
    refine f_seq ?_
    refine f_seq ?_
    refine f_region ?_
    refine lv S (rn_move (S.tm rfl)) rfl ?_; clear S; intro a S
    refine lv S (rn_fld fa_89_1 (S.tm rfl)) rfl ?_; clear S; intro a S
    refine lv S (rn_load Tryz.isAgg3 (S.tm rfl) (S.cell (i := 0) rfl rfl)) rfl ?_; clear S; intro a S
    refine lv S (rn_lss (S.tm rfl) (S.tm rfl)) rfl ?_; clear S; intro a S
    refine l_done ?_
    replace S := S.nk [.blk b1 [.int .i64 p_d.Year, .int .i64 p_d.Month, .int .i64 p_d.Day] 89] [(1, .pointer (some ⟨b1, 0, none⟩)), (4, .int .i64 x2), (5, .int .i64 x3), (35, .bool (decide (x3 < p_d.Month)))] [true] rfl ⟨rfl, rfl, rfl, rfl, trivial⟩
    refine then_n ?_
    refine f_cond (S.tm rfl) (fun hb5 => ?_) (fun hb5 => ?_)
    ·replace h := iteT h hb5
     refine wp_skip ?_
     refine then_n ?_
     refine f_seq ?_
     refine wp_block ?_
     refine f_region ?_
     refine lv S (rn_move (S.tm rfl)) rfl ?_; clear S; intro a S
     refine lv S (rn_fld fa_89_0 (S.tm rfl)) rfl ?_; clear S; intro a S
     refine lv S (rn_load Tryz.isAgg3 (S.tm rfl) (S.cell (i := 0) rfl rfl)) rfl ?_; clear S; intro a S
     refine lv S (rn_move (S.tm rfl)) rfl ?_; clear S; intro a S
     refine l_enter S (fun _ => run_call (vs := [.int .i64 p_d.Year, .int .i64 x3]) ⟨(S.tm rfl), (S.tm rfl), trivial⟩ Tryz.call67) (swimmer_long_ok _ p_d.Year x3 _ rfl) rfl ?_; clear S; intro v25 a w33 hv25 hk30 hn25 S
     subst hv25
     refine lv S (rn_add (S.tm rfl) (S.tm rfl)) rfl ?_; clear S; intro a S
     refine lv S (rn_assign (S.tm rfl)) rfl ?_; clear S; intro a S
     refine l_done ?_
     replace S := S.nk [.blk b1 [.int .i64 p_d.Year, .int .i64 p_d.Month, .int .i64 p_d.Day] 89] [(1, .pointer (some ⟨b1, 0, none⟩)), (4, .int .i64 (W (x2 + (swimmer_long p_d.Year x3)))), (5, .int .i64 x3)] [true] rfl ⟨rfl, rfl, rfl, trivial⟩
     refine blk_n ?_
     refine then_n ?_
     refine f_region ?_
     refine lv S (rn_move (S.tm rfl)) rfl ?_; clear S; intro a S
     refine lv S (rn_add (S.tm rfl) rfl) rfl ?_; clear S; intro a S
     refine lv S (rn_assign (S.tm rfl)) rfl ?_; clear S; intro a S
     refine l_done ?_
     replace S := S.nk [.blk b1 [.int .i64 p_d.Year, .int .i64 p_d.Month, .int .i64 p_d.Day] 89] [(1, .pointer (some ⟨b1, 0, none⟩)), (4, .int .i64 (W (x2 + (swimmer_long p_d.Year x3)))), (5, .int .i64 (W (x3 + 1)))] [true] rfl ⟨rfl, rfl, rfl, trivial⟩
     refine then_n ?_
     exact ⟨m1, ⟨W (x2 + (swimmer_long p_d.Year x3)), W (x3 + 1), h, S.nf [true] rfl ⟨rfl, rfl, rfl, trivial⟩⟩, Nat.lt_succ_self _⟩
    ·replace h := iteF h hb5
     refine wp_exit ?_
     refine then_x ?_
     refine then_x ?_
     refine x_same ?_
     refine then_n ?_
     exact ⟨x2, h, S.nf [true] rfl ⟨rfl, rfl, trivial⟩⟩
  clear S h; rintro a w32 ⟨x2, h, S⟩; rw [hj2] at h; clear hj2 j2
  refine then_n ?_
  refine f_seq ?_
  refine f_seq ?_
  refine f_region ?_
  refine lv S (rn_assign rfl) rfl ?_; clear S; intro a S
  refine l_done ?_
  replace S := S.nk [.blk b1 [.int .i64 p_d.Year, .int .i64 p_d.Month, .int .i64 p_d.Day] 89] [(1, .pointer (some ⟨b1, 0, none⟩)), (4, .int .i64 x2), (6, .int .i64 2024)] [true] rfl ⟨rfl, rfl, rfl, trivial⟩
  refine then_n ?_
  obtain ⟨j3, hj3, h⟩ := joinE h
  refine f_join (fun a w' => ∃ x4 : Int, j3 x4 = some r ∧ Sx w [] nov [.blk b1 [.int .i64 p_d.Year, .int .i64 p_d.Month, .int .i64 p_d.Day] 89] [(1, .pointer (some ⟨b1, 0, none⟩)), (4, .int .i64 x4)] 68 a w') ?_ ?_
  ·refine wp_block ?_
   refine f_loop (fun (m2 : Nat) a w' => ∃ x4 : Int, ∃ x5 : Int, swimmer_DayOf_l2 p_d j3 m2 x4 x5 = some r ∧ Sx w [] nov [.blk b1 [.int .i64 p_d.Year, .int .i64 p_d.Month, .int .i64 p_d.Day] 89] [(1, .pointer (some ⟨b1, 0, none⟩)), (4, .int .i64 x4), (6, .int .i64 x5)] 68 a w') id ((p_d.Year - 2024).toNat + 2) ⟨x2, 2024, h, S.nf [true] rfl ⟨rfl, rfl, rfl, trivial⟩⟩ ?_
   clear S h; rintro m2 a w34 ⟨x4, x5, h, S⟩
   cases m2 with
   | zero => rw [swimmer_DayOf_l2.eq_1] at h; cases h
   | succ m2 =>
    rw [swimmer_DayOf_l2.eq_2] at h
    refine f_seq ?_
    refine f_seq ?_
    refine f_region ?_
    refine lv S (rn_move (S.tm rfl)) rfl ?_; clear S; intro a S
    refine lv S (rn_fld fa_89_0 (S.tm rfl)) rfl ?_; clear S; intro a S
    refine lv S (rn_load Tryz.isAgg3 (S.tm rfl) (S.cell (i := 0) rfl rfl)) rfl ?_; clear S; intro a S
    refine lv S (rn_lss (S.tm rfl) (S.tm rfl)) rfl ?_; clear S; intro a S
    refine l_done ?_
    replace S := S.nk [.blk b1 [.int .i64 p_d.Year, .int .i64 p_d.Month, .int .i64 p_d.Day] 89] [(1, .pointer (some ⟨b1, 0, none⟩)), (4, .int .i64 x4), (6, .int .i64 x5), (47, .bool (decide (x5 < p_d.Year)))] [true] rfl ⟨rfl, rfl, rfl, rfl, trivial⟩
    refine then_n ?_
    refine f_cond (S.tm rfl) (fun hb6 => ?_) (fun hb6 => ?_)
    ·replace h := iteT h hb6
     refine wp_skip ?_
     refine then_n ?_
     refine f_seq ?_
     refine wp_block ?_
     refine f_region ?_
     refine lv S (rn_move (S.tm rfl)) rfl ?_; clear S; intro a S
     refine lv S (rn_move (S.tm rfl)) rfl ?_; clear S; intro a S
     refine l_enter S (fun _ => run_call (vs := [.int .i64 x5]) ⟨(S.tm rfl), trivial⟩ Tryz.call68) (swimmer_yearLong_ok _ x5 _ rfl) rfl ?_; clear S; intro v26 a w36 hv26 hk31 hn26 S
     subst hv26
     refine lv S (rn_add (S.tm rfl) (S.tm rfl)) rfl ?_; clear S; intro a S
     refine lv S (rn_assign (S.tm rfl)) rfl ?_; clear S; intro a S
     refine l_done ?_
     replace S := S.nk [.blk b1 [.int .i64 p_d.Year, .int .i64 p_d.Month, .int .i64 p_d.Day] 89] [(1, .pointer (some ⟨b1, 0, none⟩)), (4, .int .i64 (W (x4 + (swimmer_yearLong x5)))), (6, .int .i64 x5)] [true] rfl ⟨rfl, rfl, rfl, trivial⟩
     refine blk_n ?_
     refine then_n ?_
     refine f_region ?_
     refine lv S (rn_move (S.tm rfl)) rfl ?_; clear S; intro a S
     refine lv S (rn_add (S.tm rfl) rfl) rfl ?_; clear S; intro a S
     refine lv S (rn_assign (S.tm rfl)) rfl ?_; clear S; intro a S
     refine l_done ?_
     replace S := S.nk [.blk b1 [.int .i64 p_d.Year, .int .i64 p_d.Month, .int .i64 p_d.Day] 89] [(1, .pointer (some ⟨b1, 0, none⟩)), (4, .int .i64 (W (x4 + (swimmer_yearLong x5)))), (6, .int .i64 (W (x5 + 1)))] [true] rfl ⟨rfl, rfl, rfl, trivial⟩
     refine then_n ?_
     exact ⟨m2, ⟨W (x4 + (swimmer_yearLong x5)), W (x5 + 1), h, S.nf [true] rfl ⟨rfl, rfl, rfl, trivial⟩⟩, Nat.lt_succ_self _⟩
    ·replace h := iteF h hb6
     refine wp_exit ?_
     refine then_x ?_
     refine then_x ?_
     refine x_same ?_
     refine then_n ?_
     exact ⟨x4, h, S.nf [true] rfl ⟨rfl, rfl, trivial⟩⟩
  clear S h; rintro a w35 ⟨x4, h, S⟩; rw [hj3] at h; clear hj3 j3
  refine then_n ?_
  refine f_seq ?_
  refine f_seq ?_
  refine f_region ?_
  refine lv S (rn_fld fa_89_0 (S.tm rfl)) rfl ?_; clear S; intro a S
  refine lv S (rn_load Tryz.isAgg3 (S.tm rfl) (S.cell (i := 0) rfl rfl)) rfl ?_; clear S; intro a S
  refine lv S (rn_assign (S.tm rfl)) rfl ?_; clear S; intro a S
  refine l_done ?_
  replace S := S.nk [] [(4, .int .i64 x4), (7, .int .i64 p_d.Year)] [false] rfl ⟨rfl, rfl, trivial⟩
  refine then_n ?_
  obtain ⟨j4, hj4, h⟩ := joinE h
  refine f_join (fun a w' => ∃ x6 : Int, j4 x6 = some r ∧ Sx w [] nov [] [(4, .int .i64 x6)] 68 a w') ?_ ?_
  ·refine wp_block ?_
   refine f_loop (fun (m3 : Nat) a w' => ∃ x6 : Int, ∃ x7 : Int, swimmer_DayOf_l3 j4 m3 x6 x7 = some r ∧ Sx w [] nov [] [(4, .int .i64 x6), (7, .int .i64 x7)] 68 a w') id ((2024 - p_d.Year).toNat + 2) ⟨x4, p_d.Year, h, S.nf [] rfl ⟨rfl, rfl, trivial⟩⟩ ?_
   clear S h; rintro m3 a w37 ⟨x6, x7, h, S⟩
   cases m3 with
   | zero => rw [swimmer_DayOf_l3.eq_1] at h; cases h
   | succ m3 =>
    rw [swimmer_DayOf_l3.eq_2] at h
    refine f_seq ?_
    refine f_seq ?_
    refine f_region ?_
    refine lv S (rn_move (S.tm rfl)) rfl ?_; clear S; intro a S
    refine lv S (rn_lss (S.tm rfl) rfl) rfl ?_; clear S; intro a S
    refine l_done ?_
    replace S := S.nk [] [(4, .int .i64 x6), (7, .int .i64 x7), (57, .bool (decide (x7 < 2024)))] [] rfl ⟨rfl, rfl, rfl, trivial⟩
    refine then_n ?_
    refine f_cond (S.tm rfl) (fun hb7 => ?_) (fun hb7 => ?_)
    ·replace h := iteT h hb7
     refine wp_skip ?_
     refine then_n ?_
     refine f_seq ?_
     refine wp_block ?_
     refine f_region ?_
     refine lv S (rn_move (S.tm rfl)) rfl ?_; clear S; intro a S
     refine lv S (rn_move (S.tm rfl)) rfl ?_; clear S; intro a S
     refine l_enter S (fun _ => run_call (vs := [.int .i64 x7]) ⟨(S.tm rfl), trivial⟩ Tryz.call68) (swimmer_yearLong_ok _ x7 _ rfl) rfl ?_; clear S; intro v27 a w39 hv27 hk32 hn27 S
     subst hv27
     refine lv S (rn_sub (S.tm rfl) (S.tm rfl)) rfl ?_; clear S; intro a S
     refine lv S (rn_assign (S.tm rfl)) rfl ?_; clear S; intro a S
     refine l_done ?_
     replace S := S.nk [] [(4, .int .i64 (W (x6 - (swimmer_yearLong x7)))), (7, .int .i64 x7)] [] rfl ⟨rfl, rfl, trivial⟩
     refine blk_n ?_
     refine then_n ?_
     refine f_region ?_
     refine lv S (rn_move (S.tm rfl)) rfl ?_; clear S; intro a S
     refine lv S (rn_add (S.tm rfl) rfl) rfl ?_; clear S; intro a S
     refine lv S (rn_assign (S.tm rfl)) rfl ?_; clear S; intro a S
     refine l_done ?_
     replace S := S.nk [] [(4, .int .i64 (W (x6 - (swimmer_yearLong x7)))), (7, .int .i64 (W (x7 + 1)))] [] rfl ⟨rfl, rfl, trivial⟩
     refine then_n ?_
     exact ⟨m3, ⟨W (x6 - (swimmer_yearLong x7)), W (x7 + 1), h, S.nf [] rfl ⟨rfl, rfl, trivial⟩⟩, Nat.lt_succ_self _⟩
    ·replace h := iteF h hb7
     refine wp_exit ?_
     refine then_x ?_
     refine then_x ?_
     refine x_same ?_
     refine then_n ?_
     exact ⟨x6, h, S.nf [] rfl ⟨rfl, trivial⟩⟩
  clear S h; rintro a w38 ⟨x6, h, S⟩; rw [hj4] at h; clear hj4 j4
  refine then_n ?_
  refine f_seq ?_
  refine f_seq ?_
  refine f_region ?_
  refine lv S (rn_move (S.tm rfl)) rfl ?_; clear S; intro a S
  refine l_enter S (fun _ => run_call (vs := [.int .i64 x6]) ⟨(S.tm rfl), trivial⟩ Tryz.call69) (swimmer_isDay_ok _ x6 _ rfl) rfl ?_; clear S; intro v28 a w40 hv28 hk33 hn28 S
  subst hv28
  refine lv S (rn_not (S.tm rfl)) rfl ?_; clear S; intro a S
  refine l_done ?_
  replace S := S.nk [] [(4, .int .i64 x6), (66, .bool (!(swimmer_isDay x6)))] [] rfl ⟨rfl, rfl, trivial⟩
  refine then_n ?_
  refine f_cond (S.tm rfl) (fun hb8 => ?_) (fun hb8 => ?_)
  ·replace h := iteT h hb8
   refine f_seq ?_
   refine f_region ?_
   refine lv S (rn_assign rfl) rfl ?_; clear S; intro a S
   refine lv S (rn_assign rfl) rfl ?_; clear S; intro a S
   refine l_done ?_
   replace S := S.nk [] [(2, .int .i64 0), (3, .int .i64 1)] [] rfl ⟨rfl, rfl, trivial⟩
   refine then_n ?_
   refine wp_ret ?_
   refine then_r ?_
   obtain rfl := Option.some.inj h
   exact f_ret2 S Tryz.results43 rfl rfl rfl
  ·replace h := iteF h hb8
   refine wp_skip ?_
   refine then_n ?_
   refine f_seq ?_
   refine f_region ?_
   refine lv S (rn_move (S.tm rfl)) rfl ?_; clear S; intro a S
   refine lv S (rn_assign (S.tm rfl)) rfl ?_; clear S; intro a S
   refine lv S (rn_assign rfl) rfl ?_; clear S; intro a S
   refine l_done ?_
   replace S := S.nk [] [(2, .int .i64 x6), (3, .int .i64 0)] [] rfl ⟨rfl, rfl, trivial⟩
   refine then_n ?_
   refine wp_ret ?_
   obtain rfl := Option.some.inj h
   exact f_ret2 S Tryz.results43 rfl rfl rfl
theorem tumblaw2_dated_ok (w : World) (r : Bool) (h : tumblaw2_dated = some r) :
    Calls Tryz.prog 22 [].toArray w (Ret w [] fun τ v w' => v = .bool r) := by
 refine f_enter [] [] Tryz.func22 rfl Tryz.ntmps22 rfl (by simp) (by simp [fps]) (by simp [fps]) fun a S => ?_
 unfold tumblaw2_dated at h
 replace S := S.nk [] [] [] rfl trivial
 refine f_seq ?_
 refine f_region ?_
 refine lv S (rn_assign rfl) rfl ?_; clear S; intro a S
 refine l_done ?_
 replace S := S.nk [] [] [] rfl trivial
 refine then_n ?_
 refine f_seq ?_
 refine f_region ?_
 refine lv S (rn_bld bt_89 (pv := [(0, .int .i64 2024), (1, .int .i64 3), (2, .int .i64 1)]) ⟨rfl, rfl, rfl, rfl, rfl, rfl, trivial⟩ (cs := [.int .i64 2024, .int .i64 3, .int .i64 1]) (by kernel_rfl)) rfl ?_; clear S; intro a S
 obtain ⟨r1, hr1, h⟩ := bindE h
 refine l_enter S (fun _ => run_call (vs := [.agg (GDate.enc (GDate.mk 2024 3 1)).toArray]) ⟨(S.tm rfl), trivial⟩ Tryz.call43) (swimmer_DayOf_ok _ (GDate.mk 2024 3 1) _ hr1) rfl ?_; clear S; intro v1 a w1 hv1 hk1 hn1 S
 subst hv1
 refine lv S (rn_move (S.tm rfl)) rfl ?_; clear S; intro a S
 refine lv S (rn_extract (S.tm rfl) rfl) rfl ?_; clear S; intro a S
 refine lv S (rn_extract (S.tm rfl) rfl) rfl ?_; clear S; intro a S
 refine lv S (rn_assign (S.tm rfl)) rfl ?_; clear S; intro a S
 refine lv S (rn_assign (S.tm rfl)) rfl ?_; clear S; intro a S
 refine l_done ?_
 replace S := S.nk [] [(1, .int .i64 r1.1), (2, .int .i64 r1.2)] [] rfl ⟨rfl, rfl, trivial⟩
 refine then_n ?_
 refine f_seq ?_
 refine f_region ?_
 refine lv S (rn_move (S.tm rfl)) rfl ?_; clear S; intro a S
 refine lv S (rn_eql (S.tm rfl) rfl) rfl ?_; clear S; intro a S
 refine lv S (rn_move (S.tm rfl)) rfl ?_; clear S; intro a S
 refine f_cutm 3 (fun a w' => Keep [] w1 w' ∧ Sx w [] nov [] [(13, .bool ((decide (r1.2 = 0)) && (decide (r1.1 = 60))))] 14 a w') ?_ ?_
 ·rcases Bool.eq_false_or_eq_true (decide (r1.2 = 0)) with hb1 | hb1
  ·refine l_want S rfl rfl rfl hb1 ?_
   refine lv S (rn_move (S.tm rfl)) rfl ?_; clear S; intro a S
   refine l_want S rfl rfl rfl hb1 ?_
   refine lv S (rn_eql (S.tm rfl) rfl) rfl ?_; clear S; intro a S
   refine lv S (rn_and_t hb1 (S.tm rfl) (S.tm rfl)) rfl ?_; clear S; intro a S
   refine l_done ?_
   refine then_n ?_
   exact ⟨Keep.refl _ _, S.nf [] rfl ⟨rfl, trivial⟩⟩
  ·refine l_skip S rfl rfl rfl (neq_f hb1) rfl ?_ rfl; clear S; intro a S
   refine l_skip S rfl rfl rfl (neq_f hb1) rfl ?_ rfl; clear S; intro a S
   refine lv S (rn_and_f (decide (r1.1 = 60)) hb1 (S.tm rfl) rfl) rfl ?_; clear S; intro a S
   refine l_done ?_
   refine then_n ?_
   exact ⟨Keep.refl _ _, S.nf [] rfl ⟨rfl, trivial⟩⟩
 clear S; rintro a w2 ⟨hk2, S⟩
 refine lv S (rn_assign (S.tm rfl)) rfl ?_; clear S; intro a S
 refine l_done ?_
 replace S := S.nk [] [(0, .bool ((decide (r1.2 = 0)) && (decide (r1.1 = 60))))] [] rfl ⟨rfl, trivial⟩
 refine then_n ?_
 refine wp_ret ?_
 obtain rfl := Option.some.inj h
 exact f_ret S Tryz.results22 rfl rfl
set_option maxRecDepth 20000 in
theorem tumblaw2_EntriesCount_ok (w : World) (v_p_l : Value) (p_l : List Int) (hs_p_l : Slc (view w []) 1 v_p_l (p_l.map eInt)) (r : Bool) (h : tumblaw2_EntriesCount p_l = some r) :
    Calls Tryz.prog 3 [v_p_l].toArray w (Ret w [] fun τ v w' => v = .bool r) := by
 refine f_enter [] [] Tryz.func3 rfl Tryz.ntmps3 rfl (by simp) (by simp [fps]) (by simp [fps]) fun a S => ?_
 unfold tumblaw2_EntriesCount at h
 replace S := S.nk [] [(0, v_p_l)] [] rfl ⟨rfl, trivial⟩
 refine f_seq ?_
 refine f_region ?_
 refine lv S (rn_assign rfl) rfl ?_; clear S; intro a S
 refine l_done ?_
 replace S := S.nk [] [(0, v_p_l)] [] rfl ⟨rfl, trivial⟩
 refine then_n ?_
 refine f_seq ?_
 refine f_region ?_
 refine lv S (rn_move (S.tm rfl)) rfl ?_; clear S; intro a S
 refine lv S (rn_bld bt_25 (pv := [(0, v_p_l)]) ⟨rfl, (S.tm rfl), trivial⟩ (cs := [v_p_l, .int .i64 0]) (by obtain ⟨_, _, hv⟩ := (slc_len hs_p_l); rw [hv]; clear hv; kernel_rfl)) rfl ?_; clear S; intro a S
 refine l_box S (S.tm rfl) (cs := [v_p_l, .int .i64 0]) rfl rfl ?_; clear S; intro a w1 b1 hz1 hk1 S
 refine lv S (rn_assign (S.tm rfl)) rfl ?_; clear S; intro a S
 refine l_done ?_
 replace S := S.nk [.blk b1 [v_p_l, .int .i64 0] 25] [(3, .pointer (some ⟨b1, 0, none⟩))] [true] rfl ⟨rfl, trivial⟩
 refine then_n ?_
 refine f_seq ?_
 refine f_region ?_
 refine lv S (rn_move (S.tm rfl)) rfl ?_; clear S; intro a S
 obtain ⟨r1, hr1, h⟩ := bindE h
 have hz2 := S.keep.size
 refine l_enter1 0 S (b := b1) rfl rfl (fun _ => .blk b1 [v_p_l, .int .i64 r1.2] 25) (fun _ => run_call (vs := [.pointer (some ⟨b1, 0, none⟩)]) ⟨(S.tm rfl), trivial⟩ Tryz.call4) (Stream_SpoiltRaces_ok _ b1 v_p_l p_l (hs_p_l.mono (S.le_arg (fp_sub (i := 0) (e := .blk b1 [v_p_l, .int .i64 0] 25) rfl))) 0 (S.holds _ (List.mem_of_getElem? (i := 0) rfl)) _ hr1) rfl (fun _ _ _ h => ⟨h.1, fun _ hc => by cases hc; rfl⟩) ?_; clear S; intro v1 a w2 hv1 hk2 hn1 S
 replace hv1 := hv1.2
 obtain ⟨φ1, hl1, hm1, S⟩ := S.see' hn1 hz2
 have hs1 := hv1.mono hm1
 refine lv S (rn_move (S.tm rfl)) rfl ?_; clear S; intro a S
 obtain ⟨r2, hr2, h⟩ := bindE h
 have hz3 := S.keep.size
 refine l_enter1 0 S (b := b1) rfl rfl (fun _ => .blk b1 [v_p_l, .int .i64 r2.2] 25) (fun _ => run_call (vs := [.pointer (some ⟨b1, 0, none⟩)]) ⟨(S.tm rfl), trivial⟩ Tryz.call5) (Stream_Swimmers_ok _ b1 v_p_l p_l (hs_p_l.mono (S.le_arg (fp_sub (i := 0) (e := .blk b1 [v_p_l, .int .i64 r1.2] 25) rfl))) r1.2 (S.holds _ (List.mem_of_getElem? (i := 0) rfl)) _ hr2) rfl (fun _ _ _ h => ⟨h.1, fun _ hc => by cases hc; rfl⟩) ?_; clear S; intro v2 a w3 hv2 hk3 hn2 S
 replace hv2 := hv2.2
 obtain ⟨φ2, hl2, hm2, S⟩ := S.see' hn2 hz3
 have hs2 := hv2.mono hm2
 refine lv S (rn_move (S.tm rfl)) rfl ?_; clear S; intro a S
 obtain ⟨r3, hr3, h⟩ := bindE h
 have hz4 := S.keep.size
 refine l_enter1 0 S (b := b1) rfl rfl (fun _ => .blk b1 [v_p_l, .int .i64 r3.2] 25) (fun _ => run_call (vs := [.pointer (some ⟨b1, 0, none⟩)]) ⟨(S.tm rfl), trivial⟩ Tryz.call6) (Stream_Moves_ok _ b1 v_p_l p_l (hs_p_l.mono (S.le_arg (fp_sub (i := 0) (e := .blk b1 [v_p_l, .int .i64 r2.2] 25) rfl))) r2.2 (S.holds _ (List.mem_of_getElem? (i := 0) rfl)) _ hr3) rfl (fun _ _ _ h => ⟨h.1, fun _ hc => by cases hc; rfl⟩) ?_; clear S; intro v3 a w4 hv3 hk4 hn3 S
 replace hv3 := hv3.2
 obtain ⟨φ3, hl3, hm3, S⟩ := S.see' hn3 hz4
 have hs3 := hv3.mono hm3
 refine lv S (rn_move (S.tm rfl)) rfl ?_; clear S; intro a S
 obtain ⟨r4, hr4, h⟩ := bindE h
 refine l_enter1 0 S (b := b1) rfl rfl (fun _ => .blk b1 [v_p_l, .int .i64 r4.2] 25) (fun _ => run_call (vs := [.pointer (some ⟨b1, 0, none⟩)]) ⟨(S.tm rfl), trivial⟩ Tryz.call7) (Stream_Bounds_ok _ b1 v_p_l p_l (hs_p_l.mono (S.le_arg (fp_sub (i := 0) (e := .blk b1 [v_p_l, .int .i64 r3.2] 25) rfl))) r3.2 (S.holds _ (List.mem_of_getElem? (i := 0) rfl)) _ hr4) rfl (fun _ _ _ h => ⟨h.1, fun _ hc => by cases hc; rfl⟩) ?_; clear S; intro v4 a w5 hv4 hk5 hn4 S
 replace hv4 := hv4.2
 subst hv4
 refine lv S (rn_move (S.tm rfl)) rfl ?_; clear S; intro a S
 refine lv S (rn_move (S.tm rfl)) rfl ?_; clear S; intro a S
 obtain ⟨r5, hr5, h⟩ := bindE h
 refine l_enter1 0 S (b := b1) rfl rfl (fun _ => .blk b1 [v_p_l, .int .i64 r5.2] 25) (fun _ => run_call (vs := [.pointer (some ⟨b1, 0, none⟩), .int .i64 0, .int .i64 14]) ⟨(S.tm rfl), rfl, rfl, trivial⟩ Tryz.call9) (Stream_Range_ok _ b1 v_p_l p_l (hs_p_l.mono (S.le_arg (fp_sub (i := 0) (e := .blk b1 [v_p_l, .int .i64 r4.2] 25) rfl))) r4.2 (S.holds _ (List.mem_of_getElem? (i := 0) rfl)) 0 14 _ hr5) rfl (fun _ _ _ h => ⟨h.1, fun _ hc => by cases hc; rfl⟩) ?_; clear S; intro v5 a w6 hv5 hk6 hn5 S
 replace hv5 := hv5.2
 subst hv5
 obtain ⟨r6, hr6, h⟩ := bindE h
 have hz5 := S.keep.size
 refine l_enter1 0 S (b := b1) rfl rfl (fun _ => .blk b1 [v_p_l, .int .i64 r6.2] 25) (fun _ => run_call (vs := [.pointer (some ⟨b1, 0, none⟩), .int .i64 r5.1]) ⟨(S.tm rfl), (S.tm rfl), trivial⟩ Tryz.call8) (Stream_Entries_ok _ b1 v_p_l p_l (hs_p_l.mono (S.le_arg (fp_sub (i := 0) (e := .blk b1 [v_p_l, .int .i64 r5.2] 25) rfl))) r5.2 (S.holds _ (List.mem_of_getElem? (i := 0) rfl)) r5.1 _ hr6) rfl (fun _ _ _ h => ⟨h.1, fun _ hc => by cases hc; rfl⟩) ?_; clear S; intro v6 a w7 hv6 hk7 hn6 S
 replace hv6 := hv6.2
 obtain ⟨φ4, hl4, hm4, S⟩ := S.see' hn6 hz5
 have hs4 := hv6.mono hm4
 refine l_alloc S Tryz.zeroValue33 (cs := [.int .i64 0, .int .i64 0, .int .i64 0, .int .i64 0]) rfl rfl ?_; clear S; intro a w8 b2 hz6 hk8 S
 refine lv S (rn_assign (S.tm rfl)) rfl ?_; clear S; intro a S
 refine lv S (rn_assign (S.tm rfl)) rfl ?_; clear S; intro a S
 refine lv S (rn_assign (S.tm rfl)) rfl ?_; clear S; intro a S
 refine l_store S (S.tm rfl) (S.tm rfl) (i := 0) (off := 0) rfl Tryz.sizeOf33 (vs := [.int .i64 r4.1.Races, .int .i64 r4.1.Club, .int .i64 r4.1.Age, .int .i64 r4.1.Day]) rfl rfl rfl rfl ?_; clear S; intro w9 hk9 S
 refine lv S (rn_assign (S.tm rfl)) rfl ?_; clear S; intro a S
 refine l_done ?_
 replace S := S.nk [.blk b2 [.int .i64 r4.1.Races, .int .i64 r4.1.Club, .int .i64 r4.1.Age, .int .i64 r4.1.Day] 33, .blk b1 [v_p_l, .int .i64 r6.2] 25] [(3, .pointer (some ⟨b1, 0, none⟩)), (4, v1), (5, v2), (6, v3), (7, .pointer (some ⟨b2, 0, none⟩)), (8, v6)] [true, true] rfl ⟨rfl, rfl, rfl, rfl, rfl, rfl, trivial⟩
 refine then_n ?_
 refine f_seq ?_
 refine f_seq ?_
 refine f_region ?_
 refine lv S (rn_move (S.tm rfl)) rfl ?_; clear S; intro a S
 obtain ⟨r7, hr7, h⟩ := bindE h
 refine l_enter1 1 S (b := b1) rfl rfl (fun _ => .blk b1 [v_p_l, .int .i64 r7.2] 25) (fun _ => run_call (vs := [.pointer (some ⟨b1, 0, none⟩), .int .i64 2]) ⟨(S.tm rfl), rfl, trivial⟩ Tryz.call10) (Stream_Flip_ok _ b1 v_p_l p_l (hs_p_l.mono (S.le_arg (fp_sub (i := 1) (e := .blk b1 [v_p_l, .int .i64 r6.2] 25) rfl))) r6.2 (S.holds _ (List.mem_of_getElem? (i := 1) rfl)) 2 _ hr7) rfl (fun _ _ _ h => ⟨h.1, fun _ hc => by cases hc; rfl⟩) ?_; clear S; intro v7 a w10 hv7 hk10 hn7 S
 replace hv7 := hv7.2
 subst hv7
 refine l_done ?_
 replace S := S.nk [.blk b2 [.int .i64 r4.1.Races, .int .i64 r4.1.Club, .int .i64 r4.1.Age, .int .i64 r4.1.Day] 33, .blk b1 [v_p_l, .int .i64 r7.2] 25] [(3, .pointer (some ⟨b1, 0, none⟩)), (4, v1), (5, v2), (6, v3), (7, .pointer (some ⟨b2, 0, none⟩)), (8, v6), (29, .bool r7.1)] [true, true] rfl ⟨rfl, rfl, rfl, rfl, rfl, rfl, rfl, trivial⟩
 refine then_n ?_
 obtain ⟨j1, hj1, h⟩ := joinE h
 refine f_join (fun a w' => ∃ x1 : List GMove, ∃ φ5 : View, ∃ v8 : Value, j1 x1 = some r ∧ View.le φ4 φ5 ∧ OwnV φ5 63 3 v8 x1.length (x1.flatMap GMove.enc) ∧ Sx w [] φ5 [.blk b2 [.int .i64 r4.1.Races, .int .i64 r4.1.Club, .int .i64 r4.1.Age, .int .i64 r4.1.Day] 33] [(4, v1), (5, v2), (6, v8), (7, .pointer (some ⟨b2, 0, none⟩)), (8, v6)] 79 a w') ?_ ?_
 ·refine f_cond (S.tm rfl) (fun hb1 => ?_) (fun hb1 => ?_)
  ·replace h := iteT h hb1
   refine f_region ?_
   refine lv S (rn_move (S.tm rfl)) rfl ?_; clear S; intro a S
   obtain ⟨r8, hr8, h⟩ := bindE h
   have hz7 := S.keep.size
   refine l_enter S (fun _ => run_call (vs := [.pointer (some ⟨b1, 0, none⟩)]) ⟨(S.tm rfl), trivial⟩ Tryz.call11) (Stream_OneClub_ok _ b1 v_p_l p_l (hs_p_l.mono (S.le_arg nil_sub)) r7.2 (S.blk_view (i := 1) rfl ((ne_nil (e' := .blk b1 [v_p_l, .int .i64 r7.2] 25)) _ rfl)) _ hr8) rfl ?_; clear S; intro v9 a w12 hv8 hk11 hn8 S
   obtain ⟨φ6, hl6, hm5, S⟩ := S.see' hn8 hz7
   have hs6 := hv8.mono hm5
   refine lv S (rn_assign (S.tm rfl)) rfl ?_; clear S; intro a S
   refine l_done ?_
   replace S := S.nk [.blk b2 [.int .i64 r4.1.Races, .int .i64 r4.1.Club, .int .i64 r4.1.Age, .int .i64 r4.1.Day] 33] [(4, v1), (5, v2), (6, v9), (7, .pointer (some ⟨b2, 0, none⟩)), (8, v6)] [true, false] rfl ⟨rfl, rfl, rfl, rfl, rfl, trivial⟩
   refine then_n ?_
   exact ⟨r8, φ6, v9, h, hl6, hs6, S.nf [true] rfl ⟨rfl, rfl, rfl, rfl, rfl, trivial⟩⟩
  ·replace h := iteF h hb1
   refine wp_skip ?_
   refine then_n ?_
   exact ⟨r3.1, φ4, v3, h, (View.le_refl _), (hs3.mono hl4), S.nf [true, false] rfl ⟨rfl, rfl, rfl, rfl, rfl, trivial⟩⟩
 clear S h; rintro a w11 ⟨x1, φ5, v8, h, hl5, hs5, S⟩; rw [hj1] at h; clear hj1 j1
 refine then_n ?_
 refine f_seq ?_
 refine f_region ?_
 refine lv S (rn_move (S.tm rfl)) rfl ?_; clear S; intro a S
 refine lv S (rn_move (S.tm rfl)) rfl ?_; clear S; intro a S
 refine lv S (rn_move (S.tm rfl)) rfl ?_; clear S; intro a S
 refine lv S (rn_ldA Tryz.isAgg33 Tryz.sizeOf33 (off := 0) (o := 0) (part := [.int .i64 r4.1.Races, .int .i64 r4.1.Club, .int .i64 r4.1.Age, .int .i64 r4.1.Day]) rfl rfl (S.tm rfl) (S.cellsAt (i := 0) rfl)) rfl ?_; clear S; intro a S
 refine lv S (rn_move (S.tm rfl)) rfl ?_; clear S; intro a S
 obtain ⟨r9, hr9, h⟩ := bindE h
 have hz8 := S.keep.size
 refine l_enter S (fun _ => run_call (vs := [v1, v2, v8, .agg (GBounds.enc r4.1).toArray, v6]) ⟨(S.tm rfl), (S.tm rfl), (S.tm rfl), (S.tm rfl), (S.tm rfl), trivial⟩ Tryz.call12) (swimmer_Refused_ok _ v1 r1.1 (((ownV_slcT GRace.enc_ok hs1).mono (View.le_trans (View.le_trans (View.le_trans hl2 hl3) hl4) hl5)).mono (S.le_new nil_sub)) v2 r2.1 (((ownV_slcT GSwimmer.enc_ok hs2).mono (View.le_trans (View.le_trans hl3 hl4) hl5)).mono (S.le_new nil_sub)) v8 x1 (((ownV_slcT GMove.enc_ok hs5)).mono (S.le_new nil_sub)) r4.1 v6 r6.1 (((ownV_slcT GEntry.enc_ok hs4).mono hl5).mono (S.le_new nil_sub)) _ hr9) rfl ?_; clear S; intro v10 a w13 hv9 hk12 hn9 S
 obtain ⟨u6, rfl, ho6⟩ := hv9
 obtain ⟨φ7, hl7, hm6, S⟩ := S.see' hn9 hz8
 have hs7 := ho6.mono hm6
 refine lv S (rn_move (S.tm rfl)) rfl ?_; clear S; intro a S
 refine lv S (rn_extract (S.tm rfl) rfl) rfl ?_; clear S; intro a S
 refine lv S (rn_extract (S.tm rfl) rfl) rfl ?_; clear S; intro a S
 refine lv S (rn_assign (S.tm rfl)) rfl ?_; clear S; intro a S
 refine lv S (rn_assign (S.tm rfl)) rfl ?_; clear S; intro a S
 refine l_done ?_
 replace S := S.nk [.blk b2 [.int .i64 r4.1.Races, .int .i64 r4.1.Club, .int .i64 r4.1.Age, .int .i64 r4.1.Day] 33] [(4, v1), (5, v2), (6, v8), (7, .pointer (some ⟨b2, 0, none⟩)), (8, v6), (9, u6), (10, .int .i64 r9.2)] [true] rfl ⟨rfl, rfl, rfl, rfl, rfl, rfl, rfl, trivial⟩
 refine then_n ?_
 refine f_seq ?_
 obtain ⟨r10, hr10, h⟩ := bindE h
 obtain ⟨r11, hr11, h⟩ := bindE h
 obtain ⟨r12, hr12, h⟩ := bindE h
 obtain ⟨r13, hr13, h⟩ := bindE h
 refine d_region [] ([]) Tryz.mixed S rfl (by kernel_rfl) ?_; clear S; intro w21 hk20 hsel S
 refine d_quiet 0 S hsel rfl rfl rfl (by kernel_rfl) (by kernel_rfl) rfl (fun _ hw => (rn_move (S.tm rfl))) ?_; clear S; intro a S
 refine d_quiet 2 S hsel rfl rfl rfl (by kernel_rfl) (by kernel_rfl) rfl (fun _ hw => (rn_move (S.tm rfl))) ?_; clear S; intro a S
 refine d_quiet 4 S hsel rfl rfl rfl (by kernel_rfl) (by kernel_rfl) rfl (fun _ hw => (rn_move (S.tm rfl))) ?_; clear S; intro a S
 refine d_quiet 6 S hsel rfl rfl rfl (by kernel_rfl) (by kernel_rfl) rfl (fun _ hw => (rn_ldA Tryz.isAgg33 Tryz.sizeOf33 (off := 0) (o := 0) (part := [.int .i64 r4.1.Races, .int .i64 r4.1.Club, .int .i64 r4.1.Age, .int .i64 r4.1.Day]) rfl rfl (S.tm rfl) ((S.blk_mem (i := 0) (cells := [.int .i64 r4.1.Races, .int .i64 r4.1.Club, .int .i64 r4.1.Age, .int .i64 r4.1.Day]) (b := b2) (T := 33) rfl (ne_nil (e' := .blk b2 [.int .i64 r4.1.Races, .int .i64 r4.1.Club, .int .i64 r4.1.Age, .int .i64 r4.1.Day] 33))).kept hw))) ?_; clear S; intro a S
 refine d_quiet 8 S hsel rfl rfl rfl (by kernel_rfl) (by kernel_rfl) rfl (fun _ hw => (rn_move (S.tm rfl))) ?_; clear S; intro a S
 refine d_loud1 1 (by kernel_rfl) rfl ?_
 refine l_enter S (fun _ => run_call (vs := [v1]) ⟨(S.tm rfl), trivial⟩ Tryz.call14) (tumblaw2_racesFault_ok _ v1 r1.1 (((ownV_slcT GRace.enc_ok hs1).mono (View.le_trans (View.le_trans (View.le_trans (View.le_trans hl2 hl3) hl4) hl5) hl7)).mono (S.le_new nil_sub)) _ hr10) rfl ?_; clear S; intro v17 a w22 hv16 hk21 hn16 S
 subst hv16
 refine l_done ?_
 refine d_next hk21 ?_
 refine d_loud1 3 (by kernel_rfl) rfl ?_
 refine l_enter S (fun _ => run_call (vs := [v2]) ⟨(S.tm rfl), trivial⟩ Tryz.call15) (tumbref2_SwimmersFault_ok _ v2 r2.1 (((ownV_slcT GSwimmer.enc_ok hs2).mono (View.le_trans (View.le_trans (View.le_trans hl3 hl4) hl5) hl7)).mono (S.le_new nil_sub)) _ hr11) rfl ?_; clear S; intro v18 a w23 hv17 hk22 hn17 S
 subst hv17
 refine l_done ?_
 refine d_next hk22 ?_
 refine d_loud1 5 (by kernel_rfl) rfl ?_
 refine l_enter S (fun _ => run_call (vs := [v8]) ⟨(S.tm rfl), trivial⟩ Tryz.call16) (tumbref2_MovesFault_ok _ v8 x1 (((ownV_slcT GMove.enc_ok hs5).mono hl7).mono (S.le_new nil_sub)) _ hr12) rfl ?_; clear S; intro v19 a w24 hv18 hk23 hn18 S
 subst hv18
 refine l_done ?_
 refine d_next hk23 ?_
 refine d_loud1 7 (by kernel_rfl) rfl ?_
 refine l_enter S (fun _ => run_call (vs := [.agg (GBounds.enc r4.1).toArray]) ⟨(S.tm rfl), trivial⟩ Tryz.call17) (tumbref2_BoundsFault_ok _ r4.1 _ rfl) rfl ?_; clear S; intro v20 a w25 hv19 hk24 hn19 S
 subst hv19
 refine l_done ?_
 refine d_next hk24 ?_
 refine d_loud1 9 (by kernel_rfl) rfl ?_
 refine l_enter S (fun _ => run_call (vs := [v6]) ⟨(S.tm rfl), trivial⟩ Tryz.call18) (tumbref2_EntriesFault_ok _ v6 r6.1 (((ownV_slcT GEntry.enc_ok hs4).mono (View.le_trans hl5 hl7)).mono (S.le_new nil_sub)) _ hr13) rfl ?_; clear S; intro v21 a w26 hv20 hk25 hn20 S
 subst hv20
 refine l_done ?_
 refine d_next hk25 ?_
 refine d_loud1 10 (by kernel_rfl) rfl ?_
 refine l_buildSlice S Tryz.underlying79 Tryz.sizeOf39 Tryz.zeroValue39 rfl rfl (pv := [(0, .int .i64 r10), (1, .int .i64 r11), (2, .int .i64 r12), (3, .int .i64 (tumbref2_BoundsFault r4.1)), (4, .int .i64 r13)]) ⟨rfl, (S.tm rfl), rfl, (S.tm rfl), rfl, (S.tm rfl), rfl, (S.tm rfl), rfl, (S.tm rfl), trivial⟩ (cs := [.int .i64 r10, .int .i64 r11, .int .i64 r12, .int .i64 (tumbref2_BoundsFault r4.1), .int .i64 r13]) (by kernel_rfl) rfl ?_; clear S; intro a w27 b4 hz10 hk26 S
 refine l_done ?_
 refine d_next hk26 ?_
 refine d_loud1 11 (by kernel_rfl) rfl ?_
 refine l_enter S (fun _ => run_call (vs := [.slice (some ⟨b4, 0, none⟩) 5 5]) ⟨(S.tm rfl), trivial⟩ Tryz.call13) (tumblaw2_errs_ok _ (.slice (some ⟨b4, 0, none⟩) 5 5) [r10, r11, r12, (tumbref2_BoundsFault r4.1), r13] (lit_slcT enc_int S (i := 0) rfl rfl rfl rfl ((ne_nil (e' := .blk b4 [.int .i64 r10, .int .i64 r11, .int .i64 r12, .int .i64 (tumbref2_BoundsFault r4.1), .int .i64 r13] 39)) _ rfl)) _ rfl) rfl ?_; clear S; intro v22 a w28 hv21 hk27 hn21 S
 subst hv21
 refine l_done ?_
 refine d_next hk27 ?_
 refine d_rest [12] hsel (by kernel_rfl) rfl ?_
 clear hsel
 refine s_lv S rfl (rn_assign (S.tm rfl)) rfl ?_; clear S; intro a S
 refine s_done ?_
 replace S := S.nk [.blk b2 [.int .i64 r4.1.Races, .int .i64 r4.1.Club, .int .i64 r4.1.Age, .int .i64 r4.1.Day] 33] [(4, v1), (5, v2), (6, v8), (7, .pointer (some ⟨b2, 0, none⟩)), (8, v6), (9, u6), (10, .int .i64 r9.2), (11, .int .i64 (tumblaw2_errs [r10, r11, r12, (tumbref2_BoundsFault r4.1), r13]))] [false, true] rfl ⟨rfl, rfl, rfl, rfl, rfl, rfl, rfl, rfl, trivial⟩
 refine then_n ?_
 refine f_seq ?_
 refine f_region ?_
 refine lv S (rn_assign rfl) rfl ?_; clear S; intro a S
 refine l_done ?_
 replace S := S.nk [.blk b2 [.int .i64 r4.1.Races, .int .i64 r4.1.Club, .int .i64 r4.1.Age, .int .i64 r4.1.Day] 33] [(4, v1), (5, v2), (6, v8), (7, .pointer (some ⟨b2, 0, none⟩)), (8, v6), (9, u6), (10, .int .i64 r9.2), (11, .int .i64 (tumblaw2_errs [r10, r11, r12, (tumbref2_BoundsFault r4.1), r13])), (12, .slice none 0 0)] [true] rfl ⟨rfl, rfl, rfl, rfl, rfl, rfl, rfl, rfl, rfl, trivial⟩
 refine then_n ?_
 refine f_seq ?_
 refine f_seq ?_
 refine f_region ?_
 refine lv S (rn_move (S.tm rfl)) rfl ?_; clear S; intro a S
 refine lv S (rn_eql (S.tm rfl) rfl) rfl ?_; clear S; intro a S
 refine l_done ?_
 replace S := S.nk [.blk b2 [.int .i64 r4.1.Races, .int .i64 r4.1.Club, .int .i64 r4.1.Age, .int .i64 r4.1.Day] 33] [(4, v1), (5, v2), (6, v8), (7, .pointer (some ⟨b2, 0, none⟩)), (8, v6), (9, u6), (10, .int .i64 r9.2), (11, .int .i64 (tumblaw2_errs [r10, r11, r12, (tumbref2_BoundsFault r4.1), r13])), (12, .slice none 0 0), (54, .bool (decide ((tumblaw2_errs [r10, r11, r12, (tumbref2_BoundsFault r4.1), r13]) = 0)))] [true] rfl ⟨rfl, rfl, rfl, rfl, rfl, rfl, rfl, rfl, rfl, rfl, trivial⟩
 refine then_n ?_
 obtain ⟨j2, hj2, h⟩ := joinE h
 refine f_join (fun a w' => ∃ x2 : List Int, ∃ φ8 : View, ∃ v23 : Value, j2 x2 = some r ∧ View.le φ7 φ8 ∧ OwnV φ8 3 1 v23 x2.length (x2.flatMap eInt) ∧ Sx w [] φ8 [] [(8, v6), (9, u6), (10, .int .i64 r9.2), (11, .int .i64 (tumblaw2_errs [r10, r11, r12, (tumbref2_BoundsFault r4.1), r13])), (12, v23)] 79 a w') ?_ ?_
 ·refine f_cond (S.tm rfl) (fun hb2 => ?_) (fun hb2 => ?_)
  ·replace h := iteT h hb2
   refine f_region ?_
   refine lv S (rn_move (S.tm rfl)) rfl ?_; clear S; intro a S
   refine lv S (rn_move (S.tm rfl)) rfl ?_; clear S; intro a S
   refine lv S (rn_move (S.tm rfl)) rfl ?_; clear S; intro a S
   refine lv S (rn_ldA Tryz.isAgg33 Tryz.sizeOf33 (off := 0) (o := 0) (part := [.int .i64 r4.1.Races, .int .i64 r4.1.Club, .int .i64 r4.1.Age, .int .i64 r4.1.Day]) rfl rfl (S.tm rfl) (S.cellsAt (i := 0) rfl)) rfl ?_; clear S; intro a S
   refine lv S (rn_move (S.tm rfl)) rfl ?_; clear S; intro a S
   obtain ⟨r14, hr14, h⟩ := bindE h
   have hz11 := S.keep.size
   refine l_enter S (fun _ => run_call (vs := [v1, v2, v8, .agg (GBounds.enc r4.1).toArray, v6]) ⟨(S.tm rfl), (S.tm rfl), (S.tm rfl), (S.tm rfl), (S.tm rfl), trivial⟩ Tryz.call19) (tumbref2_RefusedEntries_ok _ v1 r1.1 (((ownV_slcT GRace.enc_ok hs1).mono (View.le_trans (View.le_trans (View.le_trans (View.le_trans hl2 hl3) hl4) hl5) hl7)).mono (S.le_new nil_sub)) v2 r2.1 (((ownV_slcT GSwimmer.enc_ok hs2).mono (View.le_trans (View.le_trans (View.le_trans hl3 hl4) hl5) hl7)).mono (S.le_new nil_sub)) v8 x1 (((ownV_slcT GMove.enc_ok hs5).mono hl7).mono (S.le_new nil_sub)) r4.1 v6 r6.1 (((ownV_slcT GEntry.enc_ok hs4).mono (View.le_trans hl5 hl7)).mono (S.le_new nil_sub)) _ hr14) rfl ?_; clear S; intro v24 a w30 hv22 hk28 hn22 S
   obtain ⟨φ9, hl9, hm7, S⟩ := S.see' hn22 hz11
   have hs9 := hv22.mono hm7
   refine lv S (rn_assign (S.tm rfl)) rfl ?_; clear S; intro a S
   refine l_done ?_
   replace S := S.nk [] [(8, v6), (9, u6), (10, .int .i64 r9.2), (11, .int .i64 (tumblaw2_errs [r10, r11, r12, (tumbref2_BoundsFault r4.1), r13])), (12, v24)] [false] rfl ⟨rfl, rfl, rfl, rfl, rfl, trivial⟩
   refine then_n ?_
   exact ⟨r14, φ9, v24, h, hl9, hs9, S.nf [] rfl ⟨rfl, rfl, rfl, rfl, rfl, trivial⟩⟩
  ·replace h := iteF h hb2
   refine wp_skip ?_
   refine then_n ?_
   exact ⟨([] : List Int), φ7, .slice none 0 0, h, (View.le_refl _), (ownV_nil _ _ _), S.nf [false] rfl ⟨rfl, rfl, rfl, rfl, rfl, trivial⟩⟩
 clear S h; rintro a w29 ⟨x2, φ8, v23, h, hl8, hs8, S⟩; rw [hj2] at h; clear hj2 j2
 refine then_n ?_
 refine f_seq ?_
 refine f_region ?_
 refine lv S (rn_move (S.tm rfl)) rfl ?_; clear S; intro a S
 obtain ⟨r15, hr15, h⟩ := bindE h
 refine l_enter S (fun _ => run_call (vs := [v6]) ⟨(S.tm rfl), trivial⟩ Tryz.call20) (swimmer_CheckEntries_ok _ v6 r6.1 (((ownV_slcT GEntry.enc_ok hs4).mono (View.le_trans (View.le_trans hl5 hl7) hl8)).mono (S.le_new nil_sub)) _ hr15) rfl ?_; clear S; intro v25 a w31 hv23 hk29 hn23 S
 subst hv23
 refine lv S (rn_move (S.tm rfl)) rfl ?_; clear S; intro a S
 obtain ⟨r16, hr16, h⟩ := bindE h
 refine l_enter S (fun _ => run_call (vs := [v6]) ⟨(S.tm rfl), trivial⟩ Tryz.call18) (tumbref2_EntriesFault_ok _ v6 r6.1 (((ownV_slcT GEntry.enc_ok hs4).mono (View.le_trans (View.le_trans hl5 hl7) hl8)).mono (S.le_new nil_sub)) _ hr16) rfl ?_; clear S; intro v26 a w32 hv24 hk30 hn24 S
 subst hv24
 refine lv S (rn_eql (S.tm rfl) (S.tm rfl)) rfl ?_; clear S; intro a S
 refine lv S (rn_move (S.tm rfl)) rfl ?_; clear S; intro a S
 refine f_cutm 4 (fun a w' => Keep [] w32 w' ∧ Sx w [] φ8 [] [(9, u6), (12, v23), (70, .bool ((decide (r15 = r16)) && (decide (r9.2 = (tumblaw2_errs [r10, r11, r12, (tumbref2_BoundsFault r4.1), r13])))))] 79 a w') ?_ ?_
 ·rcases Bool.eq_false_or_eq_true (decide (r15 = r16)) with hb3 | hb3
  ·refine l_want S rfl rfl rfl hb3 ?_
   refine lv S (rn_move (S.tm rfl)) rfl ?_; clear S; intro a S
   refine l_want S rfl rfl rfl hb3 ?_
   refine lv S (rn_move (S.tm rfl)) rfl ?_; clear S; intro a S
   refine l_want S rfl rfl rfl hb3 ?_
   refine lv S (rn_eql (S.tm rfl) (S.tm rfl)) rfl ?_; clear S; intro a S
   refine lv S (rn_and_t hb3 (S.tm rfl) (S.tm rfl)) rfl ?_; clear S; intro a S
   refine l_done ?_
   refine then_n ?_
   exact ⟨Keep.refl _ _, S.nf [] rfl ⟨rfl, rfl, rfl, trivial⟩⟩
  ·refine l_skip S rfl rfl rfl (neq_f hb3) rfl ?_ rfl; clear S; intro a S
   refine l_skip S rfl rfl rfl (neq_f hb3) rfl ?_ rfl; clear S; intro a S
   refine l_skip S rfl rfl rfl (neq_f hb3) rfl ?_ rfl; clear S; intro a S
   refine lv S (rn_and_f (decide (r9.2 = (tumblaw2_errs [r10, r11, r12, (tumbref2_BoundsFault r4.1), r13]))) hb3 (S.tm rfl) rfl) rfl ?_; clear S; intro a S
   refine l_done ?_
   refine then_n ?_
   exact ⟨Keep.refl _ _, S.nf [] rfl ⟨rfl, rfl, rfl, trivial⟩⟩
 clear S; rintro a w33 ⟨hk31, S⟩
 refine lv S (rn_move (S.tm rfl)) rfl ?_; clear S; intro a S
 obtain ⟨j3, hj3, h⟩ := joinE h
 refine f_cutm 4 (fun a w' => ∃ c1, j3 c1 = some r ∧ Keep [] w33 w' ∧ Sx w [] φ8 [] [(75, .bool c1)] 79 a w') ?_ ?_
 ·rcases Bool.eq_false_or_eq_true ((decide (r15 = r16)) && (decide (r9.2 = (tumblaw2_errs [r10, r11, r12, (tumbref2_BoundsFault r4.1), r13])))) with hb4 | hb4
  ·replace h := iteT h hb4
   refine l_want S rfl rfl rfl hb4 ?_
   refine lv S (rn_move (S.tm rfl)) rfl ?_; clear S; intro a S
   refine l_want S rfl rfl rfl hb4 ?_
   refine lv S (rn_move (S.tm rfl)) rfl ?_; clear S; intro a S
   refine l_want S rfl rfl rfl hb4 ?_
   obtain ⟨r17, hr17, h⟩ := bindE h
   refine l_enter S (fun _ => run_call (vs := [u6, v23]) ⟨(S.tm rfl), (S.tm rfl), trivial⟩ Tryz.call21) (slices_Equal_int_ok _ u6 r9.1 (((ownV_slcT enc_int hs7).mono hl8).mono (S.le_new nil_sub)) v23 x2 (((ownV_slcT enc_int hs8)).mono (S.le_new nil_sub)) _ hr17) rfl ?_; clear S; intro v27 a w35 hv25 hk32 hn25 S
   subst hv25
   refine lv S (rn_and_t hb4 (S.tm rfl) (S.tm rfl)) rfl ?_; clear S; intro a S
   refine l_done ?_
   refine then_n ?_
   exact ⟨_, h, hk32, S.nf [] rfl ⟨rfl, trivial⟩⟩
  ·replace h := iteF h hb4
   refine l_skip S rfl rfl rfl (neq_f hb4) rfl ?_ rfl; clear S; intro a S
   refine l_skip S rfl rfl rfl (neq_f hb4) rfl ?_ rfl; clear S; intro a S
   refine l_skip S rfl rfl rfl (neq_f hb4) rfl ?_ rfl; clear S; intro a S
   refine lv S (rn_and_f true hb4 (S.tm rfl) rfl) rfl ?_; clear S; intro a S
   refine l_done ?_
   refine then_n ?_
   exact ⟨_, h, Keep.refl _ _, S.nf [] rfl ⟨rfl, trivial⟩⟩
 clear S h; rintro a w34 ⟨c1, h, hk33, S⟩; rw [hj3] at h; clear hj3 j3
 refine lv S (rn_move (S.tm rfl)) rfl ?_; clear S; intro a S
 obtain ⟨j4, hj4, h⟩ := joinE h
 refine f_cutm 2 (fun a w' => ∃ c2, j4 c2 = some r ∧ Keep [] w34 w' ∧ Sx w [] φ8 [] [(78, .bool c2)] 79 a w') ?_ ?_
 ·rcases Bool.eq_false_or_eq_true c1 with hb5 | hb5
  ·replace h := iteT h hb5
   refine l_want S rfl rfl rfl hb5 ?_
   obtain ⟨r18, hr18, h⟩ := bindE h
   refine l_enter S (fun _ => run_call (vs := []) trivial Tryz.call22) (tumblaw2_dated_ok _ _ hr18) rfl ?_; clear S; intro v28 a w37 hv26 hk34 hn26 S
   subst hv26
   refine lv S (rn_and_t hb5 (S.tm rfl) (S.tm rfl)) rfl ?_; clear S; intro a S
   refine l_done ?_
   refine then_n ?_
   exact ⟨_, h, hk34, S.nf [] rfl ⟨rfl, trivial⟩⟩
  ·replace h := iteF h hb5
   refine l_skip S rfl rfl rfl (neq_f hb5) rfl ?_ rfl; clear S; intro a S
   refine lv S (rn_and_f true hb5 (S.tm rfl) rfl) rfl ?_; clear S; intro a S
   refine l_done ?_
   refine then_n ?_
   exact ⟨_, h, Keep.refl _ _, S.nf [] rfl ⟨rfl, trivial⟩⟩
 clear S h; rintro a w36 ⟨c2, h, hk35, S⟩; rw [hj4] at h; clear hj4 j4
 refine lv S (rn_assign (S.tm rfl)) rfl ?_; clear S; intro a S
 refine l_done ?_
 replace S := S.nk [] [(2, .bool c2)] [] rfl ⟨rfl, trivial⟩
 refine then_n ?_
 refine wp_ret ?_
 obtain rfl := Option.some.inj h
 exact f_ret S Tryz.results3 rfl rfl
end Go.Proofs.YtacfgpcommiihaaGreatDoor
