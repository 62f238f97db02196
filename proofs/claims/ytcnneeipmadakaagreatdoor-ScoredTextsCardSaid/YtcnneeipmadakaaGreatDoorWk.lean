/- Each Go function computes its plain twin, by program. -/
import Derived.Test.YtcnneeipmadakaaGreatDoorWk2
namespace Go.Proofs.YtcnneeipmadakaaGreatDoor
open Go
set_option maxRecDepth 20000 in
theorem bits_Div64_ok (w : World) (Bb : Int) (Aj : Int) (Ah : Int) (r : Int × Int) (h : bits_Div64 Bb Aj Ah = some r) :
    Calls Tryz.prog 94 [.int .u64 Bb, .int .u64 Aj, .int .u64 Ah].toArray w (Ret w [] fun _ v _ => v = .tuple #[.int .u64 r.1, .int .u64 r.2]) := by
 refine f_enter [] [] Tryz.func94 rfl Tryz.ntmps94 rfl (by simp) (by simp [fps]) (by simp [fps]) fun a S => ?_
 unfold bits_Div64 at h
 replace S := S.nk [] [(0, .int .u64 Bb), (1, .int .u64 Aj), (2, .int .u64 Ah)] [] rfl (subR rfl)
 refine Fs (Fg (lv S (Ra rfl) rfl ?_));clear S;intro a S
 refine lv S (Ra rfl) rfl ?_;clear S;intro a S
 refine Ld (Tn (Fs (Fs (Fg (lv S (Rm (S.tm rfl)) rfl ?_)))));clear S;intro a S
 refine lv S (rn_eql (S.tm rfl) rfl) rfl ?_;clear S;intro a S
 refine Ld (Tn (f_cond (S.tm rfl) (fun hb1 => ?_) (fun hb1 => ?_)))
 ·replace h := iteT h hb1
  cases h
 ·replace h := iteF h hb1
  refine wp_skip (Tn (Fs (Fs (Fg (lv S (Rm (S.tm rfl)) rfl ?_)))));clear S;intro a S
  refine lv S (Rm (S.tm rfl)) rfl ?_;clear S;intro a S
  refine lv S (rn_leq (S.tm rfl) (S.tm rfl)) rfl ?_;clear S;intro a S
  refine Ld (Tn (f_cond (S.tm rfl) (fun hb2 => ?_) (fun hb2 => ?_)))
  ·replace h := iteT h hb2
   cases h
  ·replace h := iteF h hb2
   refine wp_skip (Tn (Fs (Fs (Fg (lv S (Rm (S.tm rfl)) rfl ?_)))));clear S;intro a S
   refine lv S (rn_eql (S.tm rfl) rfl) rfl ?_;clear S;intro a S
   refine Ld (Tn (f_cond (S.tm rfl) (fun hb3 => ?_) (fun hb3 => ?_)))
   ·replace h := iteT h hb3
    refine Fs (d_region [] ([]) Tryz.mixed S rfl (by kernel_rfl) ?_);clear S;intro w1 hk1 hsel S
    refine d_rest [0, 1, 2, 3, 4, 5, 6, 7] hsel (by kernel_rfl) rfl ?_
    clear hsel
    refine s_lv S rfl (Rm (S.tm rfl)) rfl ?_;clear S;intro a S
    refine s_lv S rfl (Rm (S.tm rfl)) rfl ?_;clear S;intro a S
    obtain ⟨hc1, h⟩ := chkE h
    refine s_lv S rfl (rn_quok (S.tm rfl) (S.tm rfl) (ne0_of hc1)) rfl ?_;clear S;intro a S
    refine s_lv S rfl (Rm (S.tm rfl)) rfl ?_;clear S;intro a S
    refine s_lv S rfl (Rm (S.tm rfl)) rfl ?_;clear S;intro a S
    obtain ⟨hc2, h⟩ := chkE h
    refine s_lv S rfl (rn_remk (S.tm rfl) (S.tm rfl) (ne0_of hc2)) rfl ?_;clear S;intro a S
    refine s_lv S rfl (Ra (S.tm rfl)) rfl ?_;clear S;intro a S
    refine s_lv S rfl (Ra (S.tm rfl)) rfl ?_;clear S;intro a S
    refine s_done ?_
    replace S := S.nk [] [(6, .int .u64 (IntKind.wrap .u64 (Int.tdiv Aj Ah))), (7, .int .u64 (Int.tmod Aj Ah))] [] rfl (subR rfl)
    refine Tn (wp_ret (then_r ?_))
    obtain rfl := Option.some.inj h
    exact f_ret2 S Tryz.results94 rfl rfl rfl
   ·replace h := iteF h hb3
    refine wp_skip (Tn (Fs (Fg (lv S (Rm (S.tm rfl)) rfl ?_))));clear S;intro a S
    obtain ⟨r1, hr1, h⟩ := bindE h
    refine l_enter S (fun _ => run_call (vs := [.int .u64 Ah]) ⟨(S.tm rfl), trivial⟩ Tryz.call127) (bits_LeadingZeros64_ok _ Ah _ hr1) rfl ?_;clear S;intro v1 a w2 hv1 hk2 hn1 S
    subst hv1
    refine lv S (rn_conv Tryz.underlying3 Tryz.underlying92 (S.tm rfl)) rfl ?_;clear S;intro a S
    refine lv S (Ra (S.tm rfl)) rfl ?_;clear S;intro a S
    refine Ld ?_
    replace S := S.nk [] [(0, .int .u64 Bb), (1, .int .u64 Aj), (2, .int .u64 Ah), (8, .int .u64 (IntKind.wrap .u64 r1))] [] rfl (subR rfl)
    refine Tn (Fs (Fg (lv S (Rm (S.tm rfl)) rfl ?_)));clear S;intro a S
    refine lv S (Rm (S.tm rfl)) rfl ?_;clear S;intro a S
    obtain ⟨hc3, h⟩ := chkE h
    refine lv S (rn_shl (S.tm rfl) (S.tm rfl) (of_decide_eq_true hc3)) rfl ?_;clear S;intro a S
    refine lv S (Ra (S.tm rfl)) rfl ?_;clear S;intro a S
    refine Ld (Tn (Fs (Fg (lv S (Rm (S.tm rfl)) rfl ?_))));clear S;intro a S
    refine lv S (rn_shr (S.tm rfl) rfl (by decide)) rfl ?_;clear S;intro a S
    refine lv S (Ra (S.tm rfl)) rfl ?_;clear S;intro a S
    refine Ld (Tn (Fs (Fg (lv S (Rm (S.tm rfl)) rfl ?_))));clear S;intro a S
    refine lv S (rn_and_ (S.tm rfl) rfl) rfl ?_;clear S;intro a S
    refine lv S (Ra (S.tm rfl)) rfl ?_;clear S;intro a S
    refine Ld (Tn (Fs (Fg (lv S (Rm (S.tm rfl)) rfl ?_))));clear S;intro a S
    refine lv S (Rm (S.tm rfl)) rfl ?_;clear S;intro a S
    obtain ⟨hc4, h⟩ := chkE h
    refine lv S (rn_shl (S.tm rfl) (S.tm rfl) (of_decide_eq_true hc4)) rfl ?_;clear S;intro a S
    refine lv S (Rm (S.tm rfl)) rfl ?_;clear S;intro a S
    refine lv S (Rm (S.tm rfl)) rfl ?_;clear S;intro a S
    refine lv S (rn_subk rfl (S.tm rfl)) rfl ?_;clear S;intro a S
    obtain ⟨hc5, h⟩ := chkE h
    refine lv S (rn_shr (S.tm rfl) (S.tm rfl) (of_decide_eq_true hc5)) rfl ?_;clear S;intro a S
    refine lv S (rn_or_ (S.tm rfl) (S.tm rfl)) rfl ?_;clear S;intro a S
    refine lv S (Ra (S.tm rfl)) rfl ?_;clear S;intro a S
    refine Ld ?_
    replace S := S.nk [] [(1, .int .u64 Aj), (2, .int .u64 (bitShl .u64 Ah (IntKind.wrap .u64 r1))), (8, .int .u64 (IntKind.wrap .u64 r1)), (9, .int .u64 (bitShr .u64 (bitShl .u64 Ah (IntKind.wrap .u64 r1)) 32)), (10, .int .u64 (bitAnd .u64 (bitShl .u64 Ah (IntKind.wrap .u64 r1)) 4294967295)), (11, .int .u64 (bitOr .u64 (bitShl .u64 Bb (IntKind.wrap .u64 r1)) (bitShr .u64 Aj (IntKind.wrap .u64 (64 - (IntKind.wrap .u64 r1))))))] [] rfl (subR rfl)
    refine Tn (Fs (Fg (lv S (Rm (S.tm rfl)) rfl ?_)));clear S;intro a S
    refine lv S (Rm (S.tm rfl)) rfl ?_;clear S;intro a S
    obtain ⟨hc6, h⟩ := chkE h
    refine lv S (rn_shl (S.tm rfl) (S.tm rfl) (of_decide_eq_true hc6)) rfl ?_;clear S;intro a S
    refine lv S (Ra (S.tm rfl)) rfl ?_;clear S;intro a S
    refine Ld (Tn (Fs (Fg (lv S (Rm (S.tm rfl)) rfl ?_))));clear S;intro a S
    refine lv S (rn_shr (S.tm rfl) rfl (by decide)) rfl ?_;clear S;intro a S
    refine lv S (Ra (S.tm rfl)) rfl ?_;clear S;intro a S
    refine Ld (Tn (Fs (Fg (lv S (Rm (S.tm rfl)) rfl ?_))));clear S;intro a S
    refine lv S (rn_and_ (S.tm rfl) rfl) rfl ?_;clear S;intro a S
    refine lv S (Ra (S.tm rfl)) rfl ?_;clear S;intro a S
    refine Ld ?_
    replace S := S.nk [] [(2, .int .u64 (bitShl .u64 Ah (IntKind.wrap .u64 r1))), (8, .int .u64 (IntKind.wrap .u64 r1)), (9, .int .u64 (bitShr .u64 (bitShl .u64 Ah (IntKind.wrap .u64 r1)) 32)), (10, .int .u64 (bitAnd .u64 (bitShl .u64 Ah (IntKind.wrap .u64 r1)) 4294967295)), (11, .int .u64 (bitOr .u64 (bitShl .u64 Bb (IntKind.wrap .u64 r1)) (bitShr .u64 Aj (IntKind.wrap .u64 (64 - (IntKind.wrap .u64 r1)))))), (13, .int .u64 (bitShr .u64 (bitShl .u64 Aj (IntKind.wrap .u64 r1)) 32)), (14, .int .u64 (bitAnd .u64 (bitShl .u64 Aj (IntKind.wrap .u64 r1)) 4294967295))] [] rfl (subR rfl)
    refine Tn (Fs (Fg (lv S (Rm (S.tm rfl)) rfl ?_)));clear S;intro a S
    refine lv S (Rm (S.tm rfl)) rfl ?_;clear S;intro a S
    obtain ⟨hc7, h⟩ := chkE h
    refine lv S (rn_quok (S.tm rfl) (S.tm rfl) (ne0_of hc7)) rfl ?_;clear S;intro a S
    refine lv S (Ra (S.tm rfl)) rfl ?_;clear S;intro a S
    refine Ld (Tn (Fs (Fg (lv S (Rm (S.tm rfl)) rfl ?_))));clear S;intro a S
    refine lv S (Rm (S.tm rfl)) rfl ?_;clear S;intro a S
    refine lv S (Rm (S.tm rfl)) rfl ?_;clear S;intro a S
    refine lv S (rn_mulk (S.tm rfl) (S.tm rfl)) rfl ?_;clear S;intro a S
    refine lv S (rn_subk (S.tm rfl) (S.tm rfl)) rfl ?_;clear S;intro a S
    refine lv S (Ra (S.tm rfl)) rfl ?_;clear S;intro a S
    refine Ld ?_
    replace S := S.nk [] [(2, .int .u64 (bitShl .u64 Ah (IntKind.wrap .u64 r1))), (8, .int .u64 (IntKind.wrap .u64 r1)), (9, .int .u64 (bitShr .u64 (bitShl .u64 Ah (IntKind.wrap .u64 r1)) 32)), (10, .int .u64 (bitAnd .u64 (bitShl .u64 Ah (IntKind.wrap .u64 r1)) 4294967295)), (11, .int .u64 (bitOr .u64 (bitShl .u64 Bb (IntKind.wrap .u64 r1)) (bitShr .u64 Aj (IntKind.wrap .u64 (64 - (IntKind.wrap .u64 r1)))))), (13, .int .u64 (bitShr .u64 (bitShl .u64 Aj (IntKind.wrap .u64 r1)) 32)), (14, .int .u64 (bitAnd .u64 (bitShl .u64 Aj (IntKind.wrap .u64 r1)) 4294967295)), (15, .int .u64 (IntKind.wrap .u64 (Int.tdiv (bitOr .u64 (bitShl .u64 Bb (IntKind.wrap .u64 r1)) (bitShr .u64 Aj (IntKind.wrap .u64 (64 - (IntKind.wrap .u64 r1))))) (bitShr .u64 (bitShl .u64 Ah (IntKind.wrap .u64 r1)) 32)))), (16, .int .u64 (IntKind.wrap .u64 ((bitOr .u64 (bitShl .u64 Bb (IntKind.wrap .u64 r1)) (bitShr .u64 Aj (IntKind.wrap .u64 (64 - (IntKind.wrap .u64 r1))))) - (IntKind.wrap .u64 ((IntKind.wrap .u64 (Int.tdiv (bitOr .u64 (bitShl .u64 Bb (IntKind.wrap .u64 r1)) (bitShr .u64 Aj (IntKind.wrap .u64 (64 - (IntKind.wrap .u64 r1))))) (bitShr .u64 (bitShl .u64 Ah (IntKind.wrap .u64 r1)) 32))) * (bitShr .u64 (bitShl .u64 Ah (IntKind.wrap .u64 r1)) 32))))))] [] rfl (subR rfl)
    refine Tn (Fs ?_)
    obtain ⟨j1, hj1, h⟩ := joinE h
    refine f_join (fun a w' => ∃ x1 : Int, j1 x1 = some r ∧ Sx w [] nov [] [(2, .int .u64 (bitShl .u64 Ah (IntKind.wrap .u64 r1))), (8, .int .u64 (IntKind.wrap .u64 r1)), (9, .int .u64 (bitShr .u64 (bitShl .u64 Ah (IntKind.wrap .u64 r1)) 32)), (10, .int .u64 (bitAnd .u64 (bitShl .u64 Ah (IntKind.wrap .u64 r1)) 4294967295)), (11, .int .u64 (bitOr .u64 (bitShl .u64 Bb (IntKind.wrap .u64 r1)) (bitShr .u64 Aj (IntKind.wrap .u64 (64 - (IntKind.wrap .u64 r1)))))), (13, .int .u64 (bitShr .u64 (bitShl .u64 Aj (IntKind.wrap .u64 r1)) 32)), (14, .int .u64 (bitAnd .u64 (bitShl .u64 Aj (IntKind.wrap .u64 r1)) 4294967295)), (15, .int .u64 x1)] 135 a w') ?_ ?_
    ·refine wp_block (f_loop (fun (m1 : Nat) a w' => ∃ x1 : Int, ∃ x2 : Int, bits_Div64_l1 Aj r1 Ah j1 m1 x1 x2 = some r ∧ Sx w [] nov [] [(2, .int .u64 (bitShl .u64 Ah (IntKind.wrap .u64 r1))), (8, .int .u64 (IntKind.wrap .u64 r1)), (9, .int .u64 (bitShr .u64 (bitShl .u64 Ah (IntKind.wrap .u64 r1)) 32)), (10, .int .u64 (bitAnd .u64 (bitShl .u64 Ah (IntKind.wrap .u64 r1)) 4294967295)), (11, .int .u64 (bitOr .u64 (bitShl .u64 Bb (IntKind.wrap .u64 r1)) (bitShr .u64 Aj (IntKind.wrap .u64 (64 - (IntKind.wrap .u64 r1)))))), (13, .int .u64 (bitShr .u64 (bitShl .u64 Aj (IntKind.wrap .u64 r1)) 32)), (14, .int .u64 (bitAnd .u64 (bitShl .u64 Aj (IntKind.wrap .u64 r1)) 4294967295)), (15, .int .u64 x1), (16, .int .u64 x2)] 135 a w') id (((IntKind.wrap .u64 (Int.tdiv (bitOr .u64 (bitShl .u64 Bb (IntKind.wrap .u64 r1)) (bitShr .u64 Aj (IntKind.wrap .u64 (64 - (IntKind.wrap .u64 r1))))) (bitShr .u64 (bitShl .u64 Ah (IntKind.wrap .u64 r1)) 32))) - 4294967296).toNat + 2) ⟨IntKind.wrap .u64 (Int.tdiv (bitOr .u64 (bitShl .u64 Bb (IntKind.wrap .u64 r1)) (bitShr .u64 Aj (IntKind.wrap .u64 (64 - (IntKind.wrap .u64 r1))))) (bitShr .u64 (bitShl .u64 Ah (IntKind.wrap .u64 r1)) 32)), IntKind.wrap .u64 ((bitOr .u64 (bitShl .u64 Bb (IntKind.wrap .u64 r1)) (bitShr .u64 Aj (IntKind.wrap .u64 (64 - (IntKind.wrap .u64 r1))))) - (IntKind.wrap .u64 ((IntKind.wrap .u64 (Int.tdiv (bitOr .u64 (bitShl .u64 Bb (IntKind.wrap .u64 r1)) (bitShr .u64 Aj (IntKind.wrap .u64 (64 - (IntKind.wrap .u64 r1))))) (bitShr .u64 (bitShl .u64 Ah (IntKind.wrap .u64 r1)) 32))) * (bitShr .u64 (bitShl .u64 Ah (IntKind.wrap .u64 r1)) 32)))), h, S.nf [] rfl (subR rfl)⟩ ?_)
     clear S h;rintro m1 a w3 ⟨x1, x2, h, S⟩
     cases m1 with
     | zero => rw [bits_Div64_l1.eq_1] at h;cases h
     | succ m1 =>
      rw [bits_Div64_l1.eq_2] at h
      refine Fs (Fs (Fg (lv S (Rm (S.tm rfl)) rfl ?_)));clear S;intro a S
      refine lv S (rn_geq (S.tm rfl) rfl) rfl ?_;clear S;intro a S
      refine lv S (Rm (S.tm rfl)) rfl ?_;clear S;intro a S
      refine f_cutm 9 (fun a w' => Keep [] w3 w' ∧ Sx w [] nov [] [(2, .int .u64 (bitShl .u64 Ah (IntKind.wrap .u64 r1))), (8, .int .u64 (IntKind.wrap .u64 r1)), (9, .int .u64 (bitShr .u64 (bitShl .u64 Ah (IntKind.wrap .u64 r1)) 32)), (10, .int .u64 (bitAnd .u64 (bitShl .u64 Ah (IntKind.wrap .u64 r1)) 4294967295)), (11, .int .u64 (bitOr .u64 (bitShl .u64 Bb (IntKind.wrap .u64 r1)) (bitShr .u64 Aj (IntKind.wrap .u64 (64 - (IntKind.wrap .u64 r1)))))), (13, .int .u64 (bitShr .u64 (bitShl .u64 Aj (IntKind.wrap .u64 r1)) 32)), (14, .int .u64 (bitAnd .u64 (bitShl .u64 Aj (IntKind.wrap .u64 r1)) 4294967295)), (15, .int .u64 x1), (16, .int .u64 x2), (78, bV ((decide (4294967296 ≤ x1)) || (decide ((IntKind.wrap .u64 ((IntKind.wrap .u64 (4294967296 * x2)) + (bitShr .u64 (bitShl .u64 Aj (IntKind.wrap .u64 r1)) 32))) < (IntKind.wrap .u64 (x1 * (bitAnd .u64 (bitShl .u64 Ah (IntKind.wrap .u64 r1)) 4294967295)))))))] 135 a w') ?_ ?_
      ·rcases Bool.eq_false_or_eq_true (decide (4294967296 ≤ x1)) with hb4 | hb4
       ·iterate 8 (refine l_skip S rfl rfl rfl (neq_t hb4) rfl ?_ rfl;clear S;intro a S)
        refine lv S (rn_or_t (decide ((IntKind.wrap .u64 ((IntKind.wrap .u64 (4294967296 * x2)) + (bitShr .u64 (bitShl .u64 Aj (IntKind.wrap .u64 r1)) 32))) < (IntKind.wrap .u64 (x1 * (bitAnd .u64 (bitShl .u64 Ah (IntKind.wrap .u64 r1)) 4294967295))))) hb4 (S.tm rfl) rfl) rfl ?_;clear S;intro a S
        refine Ld (Tn ?_)
        exact ⟨Keep.refl _ _, S.nf [] rfl (subR rfl)⟩
       ·refine l_want S rfl rfl rfl hb4 (lv S (Rm (S.tm rfl)) rfl ?_);clear S;intro a S
        refine l_want S rfl rfl rfl hb4 (lv S (Rm (S.tm rfl)) rfl ?_);clear S;intro a S
        refine l_want S rfl rfl rfl hb4 (lv S (rn_mulk (S.tm rfl) (S.tm rfl)) rfl ?_);clear S;intro a S
        refine l_want S rfl rfl rfl hb4 (lv S (Rm (S.tm rfl)) rfl ?_);clear S;intro a S
        refine l_want S rfl rfl rfl hb4 (lv S (rn_mulk rfl (S.tm rfl)) rfl ?_);clear S;intro a S
        refine l_want S rfl rfl rfl hb4 (lv S (Rm (S.tm rfl)) rfl ?_);clear S;intro a S
        refine l_want S rfl rfl rfl hb4 (lv S (rn_addk (S.tm rfl) (S.tm rfl)) rfl ?_);clear S;intro a S
        refine l_want S rfl rfl rfl hb4 (lv S (rn_gtr (S.tm rfl) (S.tm rfl)) rfl ?_);clear S;intro a S
        refine lv S (rn_or_f hb4 (S.tm rfl) (S.tm rfl)) rfl ?_;clear S;intro a S
        refine Ld (Tn ?_)
        exact ⟨Keep.refl _ _, S.nf [] rfl (subR rfl)⟩
      clear S;rintro a w5 ⟨hk3, S⟩
      refine Ld (Tn (f_cond (S.tm rfl) (fun hb5 => ?_) (fun hb5 => ?_)))
      ·replace h := iteT h hb5
       refine wp_skip (Tn (wp_block (Fs (Fg (lv S (Rm (S.tm rfl)) rfl ?_)))));clear S;intro a S
       refine lv S (rn_subk (S.tm rfl) rfl) rfl ?_;clear S;intro a S
       refine lv S (Ra (S.tm rfl)) rfl ?_;clear S;intro a S
       refine Ld (Tn (Fs (Fg (lv S (Rm (S.tm rfl)) rfl ?_))));clear S;intro a S
       refine lv S (Rm (S.tm rfl)) rfl ?_;clear S;intro a S
       refine lv S (rn_addk (S.tm rfl) (S.tm rfl)) rfl ?_;clear S;intro a S
       refine lv S (Ra (S.tm rfl)) rfl ?_;clear S;intro a S
       refine Ld ?_
       replace S := S.nk [] [(2, .int .u64 (bitShl .u64 Ah (IntKind.wrap .u64 r1))), (8, .int .u64 (IntKind.wrap .u64 r1)), (9, .int .u64 (bitShr .u64 (bitShl .u64 Ah (IntKind.wrap .u64 r1)) 32)), (10, .int .u64 (bitAnd .u64 (bitShl .u64 Ah (IntKind.wrap .u64 r1)) 4294967295)), (11, .int .u64 (bitOr .u64 (bitShl .u64 Bb (IntKind.wrap .u64 r1)) (bitShr .u64 Aj (IntKind.wrap .u64 (64 - (IntKind.wrap .u64 r1)))))), (13, .int .u64 (bitShr .u64 (bitShl .u64 Aj (IntKind.wrap .u64 r1)) 32)), (14, .int .u64 (bitAnd .u64 (bitShl .u64 Aj (IntKind.wrap .u64 r1)) 4294967295)), (15, .int .u64 (IntKind.wrap .u64 (x1 - 1))), (16, .int .u64 (IntKind.wrap .u64 (x2 + (bitShr .u64 (bitShl .u64 Ah (IntKind.wrap .u64 r1)) 32))))] [] rfl (subR rfl)
       refine Tn (Fs (Fg (lv S (Rm (S.tm rfl)) rfl ?_)));clear S;intro a S
       refine lv S (rn_geq (S.tm rfl) rfl) rfl ?_;clear S;intro a S
       refine Ld (Tn (f_cond (S.tm rfl) (fun hb6 => ?_) (fun hb6 => ?_)))
       ·replace h := iteT h hb6
        refine wp_exit (x_other rfl (then_x (x_same (Tn ?_))))
        exact ⟨IntKind.wrap .u64 (x1 - 1), h, S.nf [] rfl (subR rfl)⟩
       ·replace h := iteF h hb6
        refine wp_skip (blk_n (Tn ?_))
        exact ⟨m1, ⟨IntKind.wrap .u64 (x1 - 1), IntKind.wrap .u64 (x2 + (bitShr .u64 (bitShl .u64 Ah (IntKind.wrap .u64 r1)) 32)), h, S.nf [] rfl ⟨rfl, rfl, rfl, rfl, rfl, rfl, rfl, rfl, rfl, trivial⟩⟩, Nat.lt_succ_self _⟩
      ·replace h := iteF h hb5
       refine wp_exit (then_x (then_x (x_same (Tn ?_))))
       exact ⟨x1, h, S.nf [] rfl (subR rfl)⟩
    clear S h;rintro a w4 ⟨x1, h, S⟩;rw [hj1] at h;clear hj1 j1
    refine Tn (Fs (Fg (lv S (Rm (S.tm rfl)) rfl ?_)));clear S;intro a S
    refine lv S (rn_mulk (S.tm rfl) rfl) rfl ?_;clear S;intro a S
    refine lv S (Rm (S.tm rfl)) rfl ?_;clear S;intro a S
    refine lv S (rn_addk (S.tm rfl) (S.tm rfl)) rfl ?_;clear S;intro a S
    refine lv S (Rm (S.tm rfl)) rfl ?_;clear S;intro a S
    refine lv S (Rm (S.tm rfl)) rfl ?_;clear S;intro a S
    refine lv S (rn_mulk (S.tm rfl) (S.tm rfl)) rfl ?_;clear S;intro a S
    refine lv S (rn_subk (S.tm rfl) (S.tm rfl)) rfl ?_;clear S;intro a S
    refine lv S (Ra (S.tm rfl)) rfl ?_;clear S;intro a S
    refine Ld ?_
    replace S := S.nk [] [(2, .int .u64 (bitShl .u64 Ah (IntKind.wrap .u64 r1))), (8, .int .u64 (IntKind.wrap .u64 r1)), (9, .int .u64 (bitShr .u64 (bitShl .u64 Ah (IntKind.wrap .u64 r1)) 32)), (10, .int .u64 (bitAnd .u64 (bitShl .u64 Ah (IntKind.wrap .u64 r1)) 4294967295)), (14, .int .u64 (bitAnd .u64 (bitShl .u64 Aj (IntKind.wrap .u64 r1)) 4294967295)), (15, .int .u64 x1), (17, .int .u64 (IntKind.wrap .u64 ((IntKind.wrap .u64 ((IntKind.wrap .u64 ((bitOr .u64 (bitShl .u64 Bb (IntKind.wrap .u64 r1)) (bitShr .u64 Aj (IntKind.wrap .u64 (64 - (IntKind.wrap .u64 r1))))) * 4294967296)) + (bitShr .u64 (bitShl .u64 Aj (IntKind.wrap .u64 r1)) 32))) - (IntKind.wrap .u64 (x1 * (bitShl .u64 Ah (IntKind.wrap .u64 r1)))))))] [] rfl (subR rfl)
    refine Tn (Fs (Fg (lv S (Rm (S.tm rfl)) rfl ?_)));clear S;intro a S
    refine lv S (Rm (S.tm rfl)) rfl ?_;clear S;intro a S
    obtain ⟨hc8, h⟩ := chkE h
    refine lv S (rn_quok (S.tm rfl) (S.tm rfl) (ne0_of hc8)) rfl ?_;clear S;intro a S
    refine lv S (Ra (S.tm rfl)) rfl ?_;clear S;intro a S
    refine Ld (Tn (Fs (Fg (lv S (Rm (S.tm rfl)) rfl ?_))));clear S;intro a S
    refine lv S (Rm (S.tm rfl)) rfl ?_;clear S;intro a S
    refine lv S (Rm (S.tm rfl)) rfl ?_;clear S;intro a S
    refine lv S (rn_mulk (S.tm rfl) (S.tm rfl)) rfl ?_;clear S;intro a S
    refine lv S (rn_subk (S.tm rfl) (S.tm rfl)) rfl ?_;clear S;intro a S
    refine lv S (Ra (S.tm rfl)) rfl ?_;clear S;intro a S
    refine Ld ?_
    replace S := S.nk [] [(2, .int .u64 (bitShl .u64 Ah (IntKind.wrap .u64 r1))), (8, .int .u64 (IntKind.wrap .u64 r1)), (9, .int .u64 (bitShr .u64 (bitShl .u64 Ah (IntKind.wrap .u64 r1)) 32)), (10, .int .u64 (bitAnd .u64 (bitShl .u64 Ah (IntKind.wrap .u64 r1)) 4294967295)), (14, .int .u64 (bitAnd .u64 (bitShl .u64 Aj (IntKind.wrap .u64 r1)) 4294967295)), (15, .int .u64 x1), (16, .int .u64 (IntKind.wrap .u64 ((IntKind.wrap .u64 ((IntKind.wrap .u64 ((IntKind.wrap .u64 ((bitOr .u64 (bitShl .u64 Bb (IntKind.wrap .u64 r1)) (bitShr .u64 Aj (IntKind.wrap .u64 (64 - (IntKind.wrap .u64 r1))))) * 4294967296)) + (bitShr .u64 (bitShl .u64 Aj (IntKind.wrap .u64 r1)) 32))) - (IntKind.wrap .u64 (x1 * (bitShl .u64 Ah (IntKind.wrap .u64 r1)))))) - (IntKind.wrap .u64 ((IntKind.wrap .u64 (Int.tdiv (IntKind.wrap .u64 ((IntKind.wrap .u64 ((IntKind.wrap .u64 ((bitOr .u64 (bitShl .u64 Bb (IntKind.wrap .u64 r1)) (bitShr .u64 Aj (IntKind.wrap .u64 (64 - (IntKind.wrap .u64 r1))))) * 4294967296)) + (bitShr .u64 (bitShl .u64 Aj (IntKind.wrap .u64 r1)) 32))) - (IntKind.wrap .u64 (x1 * (bitShl .u64 Ah (IntKind.wrap .u64 r1)))))) (bitShr .u64 (bitShl .u64 Ah (IntKind.wrap .u64 r1)) 32))) * (bitShr .u64 (bitShl .u64 Ah (IntKind.wrap .u64 r1)) 32)))))), (17, .int .u64 (IntKind.wrap .u64 ((IntKind.wrap .u64 ((IntKind.wrap .u64 ((bitOr .u64 (bitShl .u64 Bb (IntKind.wrap .u64 r1)) (bitShr .u64 Aj (IntKind.wrap .u64 (64 - (IntKind.wrap .u64 r1))))) * 4294967296)) + (bitShr .u64 (bitShl .u64 Aj (IntKind.wrap .u64 r1)) 32))) - (IntKind.wrap .u64 (x1 * (bitShl .u64 Ah (IntKind.wrap .u64 r1))))))), (18, .int .u64 (IntKind.wrap .u64 (Int.tdiv (IntKind.wrap .u64 ((IntKind.wrap .u64 ((IntKind.wrap .u64 ((bitOr .u64 (bitShl .u64 Bb (IntKind.wrap .u64 r1)) (bitShr .u64 Aj (IntKind.wrap .u64 (64 - (IntKind.wrap .u64 r1))))) * 4294967296)) + (bitShr .u64 (bitShl .u64 Aj (IntKind.wrap .u64 r1)) 32))) - (IntKind.wrap .u64 (x1 * (bitShl .u64 Ah (IntKind.wrap .u64 r1)))))) (bitShr .u64 (bitShl .u64 Ah (IntKind.wrap .u64 r1)) 32))))] [] rfl (subR rfl)
    refine Tn (Fs ?_)
    obtain ⟨j2, hj2, h⟩ := joinE h
    refine f_join (fun a w' => ∃ x4 : Int, j2 x4 = some r ∧ Sx w [] nov [] [(2, .int .u64 (bitShl .u64 Ah (IntKind.wrap .u64 r1))), (8, .int .u64 (IntKind.wrap .u64 r1)), (14, .int .u64 (bitAnd .u64 (bitShl .u64 Aj (IntKind.wrap .u64 r1)) 4294967295)), (15, .int .u64 x1), (17, .int .u64 (IntKind.wrap .u64 ((IntKind.wrap .u64 ((IntKind.wrap .u64 ((bitOr .u64 (bitShl .u64 Bb (IntKind.wrap .u64 r1)) (bitShr .u64 Aj (IntKind.wrap .u64 (64 - (IntKind.wrap .u64 r1))))) * 4294967296)) + (bitShr .u64 (bitShl .u64 Aj (IntKind.wrap .u64 r1)) 32))) - (IntKind.wrap .u64 (x1 * (bitShl .u64 Ah (IntKind.wrap .u64 r1))))))), (18, .int .u64 x4)] 135 a w') ?_ ?_
    ·refine wp_block (f_loop (fun (m2 : Nat) a w' => ∃ x3 : Int, ∃ x4 : Int, bits_Div64_l2 Aj r1 Ah j2 m2 x3 x4 = some r ∧ Sx w [] nov [] [(2, .int .u64 (bitShl .u64 Ah (IntKind.wrap .u64 r1))), (8, .int .u64 (IntKind.wrap .u64 r1)), (9, .int .u64 (bitShr .u64 (bitShl .u64 Ah (IntKind.wrap .u64 r1)) 32)), (10, .int .u64 (bitAnd .u64 (bitShl .u64 Ah (IntKind.wrap .u64 r1)) 4294967295)), (14, .int .u64 (bitAnd .u64 (bitShl .u64 Aj (IntKind.wrap .u64 r1)) 4294967295)), (15, .int .u64 x1), (16, .int .u64 x3), (17, .int .u64 (IntKind.wrap .u64 ((IntKind.wrap .u64 ((IntKind.wrap .u64 ((bitOr .u64 (bitShl .u64 Bb (IntKind.wrap .u64 r1)) (bitShr .u64 Aj (IntKind.wrap .u64 (64 - (IntKind.wrap .u64 r1))))) * 4294967296)) + (bitShr .u64 (bitShl .u64 Aj (IntKind.wrap .u64 r1)) 32))) - (IntKind.wrap .u64 (x1 * (bitShl .u64 Ah (IntKind.wrap .u64 r1))))))), (18, .int .u64 x4)] 135 a w') id (((IntKind.wrap .u64 (Int.tdiv (IntKind.wrap .u64 ((IntKind.wrap .u64 ((IntKind.wrap .u64 ((bitOr .u64 (bitShl .u64 Bb (IntKind.wrap .u64 r1)) (bitShr .u64 Aj (IntKind.wrap .u64 (64 - (IntKind.wrap .u64 r1))))) * 4294967296)) + (bitShr .u64 (bitShl .u64 Aj (IntKind.wrap .u64 r1)) 32))) - (IntKind.wrap .u64 (x1 * (bitShl .u64 Ah (IntKind.wrap .u64 r1)))))) (bitShr .u64 (bitShl .u64 Ah (IntKind.wrap .u64 r1)) 32))) - 4294967296).toNat + 2) ⟨IntKind.wrap .u64 ((IntKind.wrap .u64 ((IntKind.wrap .u64 ((IntKind.wrap .u64 ((bitOr .u64 (bitShl .u64 Bb (IntKind.wrap .u64 r1)) (bitShr .u64 Aj (IntKind.wrap .u64 (64 - (IntKind.wrap .u64 r1))))) * 4294967296)) + (bitShr .u64 (bitShl .u64 Aj (IntKind.wrap .u64 r1)) 32))) - (IntKind.wrap .u64 (x1 * (bitShl .u64 Ah (IntKind.wrap .u64 r1)))))) - (IntKind.wrap .u64 ((IntKind.wrap .u64 (Int.tdiv (IntKind.wrap .u64 ((IntKind.wrap .u64 ((IntKind.wrap .u64 ((bitOr .u64 (bitShl .u64 Bb (IntKind.wrap .u64 r1)) (bitShr .u64 Aj (IntKind.wrap .u64 (64 - (IntKind.wrap .u64 r1))))) * 4294967296)) + (bitShr .u64 (bitShl .u64 Aj (IntKind.wrap .u64 r1)) 32))) - (IntKind.wrap .u64 (x1 * (bitShl .u64 Ah (IntKind.wrap .u64 r1)))))) (bitShr .u64 (bitShl .u64 Ah (IntKind.wrap .u64 r1)) 32))) * (bitShr .u64 (bitShl .u64 Ah (IntKind.wrap .u64 r1)) 32)))), IntKind.wrap .u64 (Int.tdiv (IntKind.wrap .u64 ((IntKind.wrap .u64 ((IntKind.wrap .u64 ((bitOr .u64 (bitShl .u64 Bb (IntKind.wrap .u64 r1)) (bitShr .u64 Aj (IntKind.wrap .u64 (64 - (IntKind.wrap .u64 r1))))) * 4294967296)) + (bitShr .u64 (bitShl .u64 Aj (IntKind.wrap .u64 r1)) 32))) - (IntKind.wrap .u64 (x1 * (bitShl .u64 Ah (IntKind.wrap .u64 r1)))))) (bitShr .u64 (bitShl .u64 Ah (IntKind.wrap .u64 r1)) 32)), h, S.nf [] rfl (subR rfl)⟩ ?_)
     clear S h;rintro m2 a w6 ⟨x3, x4, h, S⟩
     cases m2 with
     | zero => rw [bits_Div64_l2.eq_1] at h;cases h
     | succ m2 =>
      rw [bits_Div64_l2.eq_2] at h
      refine Fs (Fs (Fg (lv S (Rm (S.tm rfl)) rfl ?_)));clear S;intro a S
      refine lv S (rn_geq (S.tm rfl) rfl) rfl ?_;clear S;intro a S
      refine lv S (Rm (S.tm rfl)) rfl ?_;clear S;intro a S
      refine f_cutm 9 (fun a w' => Keep [] w6 w' ∧ Sx w [] nov [] [(2, .int .u64 (bitShl .u64 Ah (IntKind.wrap .u64 r1))), (8, .int .u64 (IntKind.wrap .u64 r1)), (9, .int .u64 (bitShr .u64 (bitShl .u64 Ah (IntKind.wrap .u64 r1)) 32)), (10, .int .u64 (bitAnd .u64 (bitShl .u64 Ah (IntKind.wrap .u64 r1)) 4294967295)), (14, .int .u64 (bitAnd .u64 (bitShl .u64 Aj (IntKind.wrap .u64 r1)) 4294967295)), (15, .int .u64 x1), (16, .int .u64 x3), (17, .int .u64 (IntKind.wrap .u64 ((IntKind.wrap .u64 ((IntKind.wrap .u64 ((bitOr .u64 (bitShl .u64 Bb (IntKind.wrap .u64 r1)) (bitShr .u64 Aj (IntKind.wrap .u64 (64 - (IntKind.wrap .u64 r1))))) * 4294967296)) + (bitShr .u64 (bitShl .u64 Aj (IntKind.wrap .u64 r1)) 32))) - (IntKind.wrap .u64 (x1 * (bitShl .u64 Ah (IntKind.wrap .u64 r1))))))), (18, .int .u64 x4), (113, bV ((decide (4294967296 ≤ x4)) || (decide ((IntKind.wrap .u64 ((IntKind.wrap .u64 (4294967296 * x3)) + (bitAnd .u64 (bitShl .u64 Aj (IntKind.wrap .u64 r1)) 4294967295))) < (IntKind.wrap .u64 (x4 * (bitAnd .u64 (bitShl .u64 Ah (IntKind.wrap .u64 r1)) 4294967295)))))))] 135 a w') ?_ ?_
      ·rcases Bool.eq_false_or_eq_true (decide (4294967296 ≤ x4)) with hb7 | hb7
       ·iterate 8 (refine l_skip S rfl rfl rfl (neq_t hb7) rfl ?_ rfl;clear S;intro a S)
        refine lv S (rn_or_t (decide ((IntKind.wrap .u64 ((IntKind.wrap .u64 (4294967296 * x3)) + (bitAnd .u64 (bitShl .u64 Aj (IntKind.wrap .u64 r1)) 4294967295))) < (IntKind.wrap .u64 (x4 * (bitAnd .u64 (bitShl .u64 Ah (IntKind.wrap .u64 r1)) 4294967295))))) hb7 (S.tm rfl) rfl) rfl ?_;clear S;intro a S
        refine Ld (Tn ?_)
        exact ⟨Keep.refl _ _, S.nf [] rfl (subR rfl)⟩
       ·refine l_want S rfl rfl rfl hb7 (lv S (Rm (S.tm rfl)) rfl ?_);clear S;intro a S
        refine l_want S rfl rfl rfl hb7 (lv S (Rm (S.tm rfl)) rfl ?_);clear S;intro a S
        refine l_want S rfl rfl rfl hb7 (lv S (rn_mulk (S.tm rfl) (S.tm rfl)) rfl ?_);clear S;intro a S
        refine l_want S rfl rfl rfl hb7 (lv S (Rm (S.tm rfl)) rfl ?_);clear S;intro a S
        refine l_want S rfl rfl rfl hb7 (lv S (rn_mulk rfl (S.tm rfl)) rfl ?_);clear S;intro a S
        refine l_want S rfl rfl rfl hb7 (lv S (Rm (S.tm rfl)) rfl ?_);clear S;intro a S
        refine l_want S rfl rfl rfl hb7 (lv S (rn_addk (S.tm rfl) (S.tm rfl)) rfl ?_);clear S;intro a S
        refine l_want S rfl rfl rfl hb7 (lv S (rn_gtr (S.tm rfl) (S.tm rfl)) rfl ?_);clear S;intro a S
        refine lv S (rn_or_f hb7 (S.tm rfl) (S.tm rfl)) rfl ?_;clear S;intro a S
        refine Ld (Tn ?_)
        exact ⟨Keep.refl _ _, S.nf [] rfl (subR rfl)⟩
      clear S;rintro a w8 ⟨hk4, S⟩
      refine Ld (Tn (f_cond (S.tm rfl) (fun hb8 => ?_) (fun hb8 => ?_)))
      ·replace h := iteT h hb8
       refine wp_skip (Tn (wp_block (Fs (Fg (lv S (Rm (S.tm rfl)) rfl ?_)))));clear S;intro a S
       refine lv S (rn_subk (S.tm rfl) rfl) rfl ?_;clear S;intro a S
       refine lv S (Ra (S.tm rfl)) rfl ?_;clear S;intro a S
       refine Ld (Tn (Fs (Fg (lv S (Rm (S.tm rfl)) rfl ?_))));clear S;intro a S
       refine lv S (Rm (S.tm rfl)) rfl ?_;clear S;intro a S
       refine lv S (rn_addk (S.tm rfl) (S.tm rfl)) rfl ?_;clear S;intro a S
       refine lv S (Ra (S.tm rfl)) rfl ?_;clear S;intro a S
       refine Ld ?_
       replace S := S.nk [] [(2, .int .u64 (bitShl .u64 Ah (IntKind.wrap .u64 r1))), (8, .int .u64 (IntKind.wrap .u64 r1)), (9, .int .u64 (bitShr .u64 (bitShl .u64 Ah (IntKind.wrap .u64 r1)) 32)), (10, .int .u64 (bitAnd .u64 (bitShl .u64 Ah (IntKind.wrap .u64 r1)) 4294967295)), (14, .int .u64 (bitAnd .u64 (bitShl .u64 Aj (IntKind.wrap .u64 r1)) 4294967295)), (15, .int .u64 x1), (16, .int .u64 (IntKind.wrap .u64 (x3 + (bitShr .u64 (bitShl .u64 Ah (IntKind.wrap .u64 r1)) 32)))), (17, .int .u64 (IntKind.wrap .u64 ((IntKind.wrap .u64 ((IntKind.wrap .u64 ((bitOr .u64 (bitShl .u64 Bb (IntKind.wrap .u64 r1)) (bitShr .u64 Aj (IntKind.wrap .u64 (64 - (IntKind.wrap .u64 r1))))) * 4294967296)) + (bitShr .u64 (bitShl .u64 Aj (IntKind.wrap .u64 r1)) 32))) - (IntKind.wrap .u64 (x1 * (bitShl .u64 Ah (IntKind.wrap .u64 r1))))))), (18, .int .u64 (IntKind.wrap .u64 (x4 - 1)))] [] rfl (subR rfl)
       refine Tn (Fs (Fg (lv S (Rm (S.tm rfl)) rfl ?_)));clear S;intro a S
       refine lv S (rn_geq (S.tm rfl) rfl) rfl ?_;clear S;intro a S
       refine Ld (Tn (f_cond (S.tm rfl) (fun hb9 => ?_) (fun hb9 => ?_)))
       ·replace h := iteT h hb9
        refine wp_exit (x_other rfl (then_x (x_same (Tn ?_))))
        exact ⟨IntKind.wrap .u64 (x4 - 1), h, S.nf [] rfl (subR rfl)⟩
       ·replace h := iteF h hb9
        refine wp_skip (blk_n (Tn ?_))
        exact ⟨m2, ⟨IntKind.wrap .u64 (x3 + (bitShr .u64 (bitShl .u64 Ah (IntKind.wrap .u64 r1)) 32)), IntKind.wrap .u64 (x4 - 1), h, S.nf [] rfl ⟨rfl, rfl, rfl, rfl, rfl, rfl, rfl, rfl, rfl, trivial⟩⟩, Nat.lt_succ_self _⟩
      ·replace h := iteF h hb8
       refine wp_exit (then_x (then_x (x_same (Tn ?_))))
       exact ⟨x4, h, S.nf [] rfl (subR rfl)⟩
    clear S h;rintro a w7 ⟨x4, h, S⟩;rw [hj2] at h;clear hj2 j2
    refine Tn (Fs (Fg (lv S (Rm (S.tm rfl)) rfl ?_)));clear S;intro a S
    refine lv S (rn_mulk (S.tm rfl) rfl) rfl ?_;clear S;intro a S
    refine lv S (Rm (S.tm rfl)) rfl ?_;clear S;intro a S
    refine lv S (rn_addk (S.tm rfl) (S.tm rfl)) rfl ?_;clear S;intro a S
    refine lv S (Rm (S.tm rfl)) rfl ?_;clear S;intro a S
    refine lv S (rn_mulk (S.tm rfl) rfl) rfl ?_;clear S;intro a S
    refine lv S (Rm (S.tm rfl)) rfl ?_;clear S;intro a S
    refine lv S (rn_addk (S.tm rfl) (S.tm rfl)) rfl ?_;clear S;intro a S
    refine lv S (Rm (S.tm rfl)) rfl ?_;clear S;intro a S
    refine lv S (Rm (S.tm rfl)) rfl ?_;clear S;intro a S
    refine lv S (rn_mulk (S.tm rfl) (S.tm rfl)) rfl ?_;clear S;intro a S
    refine lv S (rn_subk (S.tm rfl) (S.tm rfl)) rfl ?_;clear S;intro a S
    refine lv S (Rm (S.tm rfl)) rfl ?_;clear S;intro a S
    obtain ⟨hc9, h⟩ := chkE h
    refine lv S (rn_shr (S.tm rfl) (S.tm rfl) (of_decide_eq_true hc9)) rfl ?_;clear S;intro a S
    refine lv S (Ra (S.tm rfl)) rfl ?_;clear S;intro a S
    refine lv S (Ra (S.tm rfl)) rfl ?_;clear S;intro a S
    refine Ld ?_
    replace S := S.nk [] [(6, .int .u64 (IntKind.wrap .u64 ((IntKind.wrap .u64 (x1 * 4294967296)) + x4))), (7, .int .u64 (bitShr .u64 (IntKind.wrap .u64 ((IntKind.wrap .u64 ((IntKind.wrap .u64 ((IntKind.wrap .u64 ((IntKind.wrap .u64 ((IntKind.wrap .u64 ((bitOr .u64 (bitShl .u64 Bb (IntKind.wrap .u64 r1)) (bitShr .u64 Aj (IntKind.wrap .u64 (64 - (IntKind.wrap .u64 r1))))) * 4294967296)) + (bitShr .u64 (bitShl .u64 Aj (IntKind.wrap .u64 r1)) 32))) - (IntKind.wrap .u64 (x1 * (bitShl .u64 Ah (IntKind.wrap .u64 r1)))))) * 4294967296)) + (bitAnd .u64 (bitShl .u64 Aj (IntKind.wrap .u64 r1)) 4294967295))) - (IntKind.wrap .u64 (x4 * (bitShl .u64 Ah (IntKind.wrap .u64 r1)))))) (IntKind.wrap .u64 r1)))] [] rfl (subR rfl)
    refine Tn (wp_ret ?_)
    obtain rfl := Option.some.inj h
    exact f_ret2 S Tryz.results94 rfl rfl rfl
theorem points_byTime_ok (w : World) (At : Int) (Bc : Int) (r : Int) (h : points_byTime At Bc = some r) :
    Calls Tryz.prog 66 [iV At, iV Bc].toArray w (Ret w [] fun _ v _ => v = iV r) := by
 refine f_enter [] [] Tryz.func66 rfl Tryz.ntmps66 rfl (by simp) (by simp [fps]) (by simp [fps]) fun a S => ?_
 unfold points_byTime at h
 replace S := S.nk [] [(0, iV At), (1, iV Bc)] [] rfl (subR rfl)
 refine Fs (Fg (lv S (Ra rfl) rfl ?_));clear S;intro a S
 refine Ld (Tn (Fs (Fg (lv S (Rm (S.tm rfl)) rfl ?_))));clear S;intro a S
 refine lv S (rn_conv Tryz.underlying3 Tryz.underlying114 (S.tm rfl)) rfl ?_;clear S;intro a S
 refine lv S (Rm (S.tm rfl)) rfl ?_;clear S;intro a S
 refine lv S (rn_conv Tryz.underlying3 Tryz.underlying114 (S.tm rfl)) rfl ?_;clear S;intro a S
 refine lv S (Ra (S.tm rfl)) rfl ?_;clear S;intro a S
 refine lv S (Ra (S.tm rfl)) rfl ?_;clear S;intro a S
 refine Ld (Tn (Fs (Fg (lv S (Rm (S.tm rfl)) rfl ?_))));clear S;intro a S
 refine lv S (Rm (S.tm rfl)) rfl ?_;clear S;intro a S
 refine lv S (rn_mulk (S.tm rfl) (S.tm rfl)) rfl ?_;clear S;intro a S
 refine lv S (Rm (S.tm rfl)) rfl ?_;clear S;intro a S
 refine lv S (rn_mulk (S.tm rfl) (S.tm rfl)) rfl ?_;clear S;intro a S
 refine l_enter S (fun _ => run_call (vs := [.int .u64 (IntKind.wrap .u64 ((IntKind.wrap .u64 ((IntKind.wrap .u64 At) * (IntKind.wrap .u64 At))) * (IntKind.wrap .u64 At))), .int .u64 1000]) ⟨(S.tm rfl), rfl, trivial⟩ Tryz.call93) (bits_Mul64_ok _ (IntKind.wrap .u64 ((IntKind.wrap .u64 ((IntKind.wrap .u64 At) * (IntKind.wrap .u64 At))) * (IntKind.wrap .u64 At))) 1000 _ rfl) rfl ?_;clear S;intro v1 a w1 hv1 hk1 hn1 S
 subst hv1
 refine lv S (Rm (S.tm rfl)) rfl ?_;clear S;intro a S
 refine lv S (rn_extract (S.tm rfl) rfl) rfl ?_;clear S;intro a S
 refine lv S (rn_extract (S.tm rfl) rfl) rfl ?_;clear S;intro a S
 refine lv S (Ra (S.tm rfl)) rfl ?_;clear S;intro a S
 refine lv S (Ra (S.tm rfl)) rfl ?_;clear S;intro a S
 refine Ld ?_
 replace S := S.nk [] [(6, .int .u64 (IntKind.wrap .u64 Bc)), (7, .int .u64 ((bits_Mul64 (IntKind.wrap .u64 ((IntKind.wrap .u64 ((IntKind.wrap .u64 At) * (IntKind.wrap .u64 At))) * (IntKind.wrap .u64 At))) 1000).1)), (8, .int .u64 ((bits_Mul64 (IntKind.wrap .u64 ((IntKind.wrap .u64 ((IntKind.wrap .u64 At) * (IntKind.wrap .u64 At))) * (IntKind.wrap .u64 At))) 1000).2))] [] rfl (subR rfl)
 refine Tn (Fs (Fg (lv S (Rm (S.tm rfl)) rfl ?_)));clear S;intro a S
 refine lv S (Rm (S.tm rfl)) rfl ?_;clear S;intro a S
 refine lv S (rn_mulk (S.tm rfl) (S.tm rfl)) rfl ?_;clear S;intro a S
 refine lv S (Rm (S.tm rfl)) rfl ?_;clear S;intro a S
 refine lv S (rn_mulk (S.tm rfl) (S.tm rfl)) rfl ?_;clear S;intro a S
 refine lv S (Ra (S.tm rfl)) rfl ?_;clear S;intro a S
 refine Ld (Tn (Fs (Fs (Fg (lv S (Rm (S.tm rfl)) rfl ?_)))));clear S;intro a S
 refine lv S (Rm (S.tm rfl)) rfl ?_;clear S;intro a S
 refine lv S (rn_geq (S.tm rfl) (S.tm rfl)) rfl ?_;clear S;intro a S
 refine Ld (Tn (f_cond (S.tm rfl) (fun hb1 => ?_) (fun hb1 => ?_)))
 ·replace h := iteT h hb1
  refine Fs (Fg (lv S (Ra rfl) rfl ?_));clear S;intro a S
  refine Ld (Tn (wp_ret (then_r ?_)))
  obtain rfl := Option.some.inj h
  exact f_ret S Tryz.results66 rfl rfl
 ·replace h := iteF h hb1
  refine wp_skip (Tn (Fs (Fg (lv S (Rm (S.tm rfl)) rfl ?_))));clear S;intro a S
  refine lv S (Rm (S.tm rfl)) rfl ?_;clear S;intro a S
  refine lv S (Rm (S.tm rfl)) rfl ?_;clear S;intro a S
  obtain ⟨r1, hr1, h⟩ := bindE h
  refine l_enter S (fun _ => run_call (vs := [.int .u64 ((bits_Mul64 (IntKind.wrap .u64 ((IntKind.wrap .u64 ((IntKind.wrap .u64 At) * (IntKind.wrap .u64 At))) * (IntKind.wrap .u64 At))) 1000).1), .int .u64 ((bits_Mul64 (IntKind.wrap .u64 ((IntKind.wrap .u64 ((IntKind.wrap .u64 At) * (IntKind.wrap .u64 At))) * (IntKind.wrap .u64 At))) 1000).2), .int .u64 (IntKind.wrap .u64 ((IntKind.wrap .u64 ((IntKind.wrap .u64 Bc) * (IntKind.wrap .u64 Bc))) * (IntKind.wrap .u64 Bc)))]) ⟨(S.tm rfl), (S.tm rfl), (S.tm rfl), trivial⟩ Tryz.call94) (bits_Div64_ok _ ((bits_Mul64 (IntKind.wrap .u64 ((IntKind.wrap .u64 ((IntKind.wrap .u64 At) * (IntKind.wrap .u64 At))) * (IntKind.wrap .u64 At))) 1000).1) ((bits_Mul64 (IntKind.wrap .u64 ((IntKind.wrap .u64 ((IntKind.wrap .u64 At) * (IntKind.wrap .u64 At))) * (IntKind.wrap .u64 At))) 1000).2) (IntKind.wrap .u64 ((IntKind.wrap .u64 ((IntKind.wrap .u64 Bc) * (IntKind.wrap .u64 Bc))) * (IntKind.wrap .u64 Bc))) _ hr1) rfl ?_;clear S;intro v2 a w2 hv2 hk2 hn2 S
  subst hv2
  refine lv S (Rm (S.tm rfl)) rfl ?_;clear S;intro a S
  refine lv S (rn_extract (S.tm rfl) rfl) rfl ?_;clear S;intro a S
  refine lv S (rn_extract (S.tm rfl) rfl) rfl ?_;clear S;intro a S
  refine lv S (Ra (S.tm rfl)) rfl ?_;clear S;intro a S
  refine lv S (Ra (S.tm rfl)) rfl ?_;clear S;intro a S
  refine Ld ?_
  replace S := S.nk [] [(9, .int .u64 r1.1)] [] rfl ⟨rfl, trivial⟩
  refine Tn (Fs (Fg (lv S (Rm (S.tm rfl)) rfl ?_)));clear S;intro a S
  refine lv S (rn_min2 (S.tm rfl) rfl) rfl ?_;clear S;intro a S
  refine lv S (rn_conv Tryz.underlying114 Tryz.underlying3 (S.tm rfl)) rfl ?_;clear S;intro a S
  refine lv S (Ra (S.tm rfl)) rfl ?_;clear S;intro a S
  refine Ld (Tn (wp_ret ?_))
  obtain rfl := Option.some.inj h
  exact f_ret S Tryz.results66 rfl rfl
theorem points_ByTime_ok (w : World) (V : Value) (Z : List GBase) (Af : Slc (view w []) 2 V (Z.map GBase.enc)) (Bd : ByteArray) (Bc : Int) (r : Int × Int) (h : points_ByTime Z Bd Bc = some r) :
    Calls Tryz.prog 42 [V, sV Bd, iV Bc].toArray w (Ret w [] fun _ v _ => v = .tuple #[iV r.1, iV r.2]) := by
 refine f_enter [] [] Tryz.func42 rfl Tryz.ntmps42 rfl (by simp) (by simp [fps]) (by simp [fps]) fun a S => ?_
 unfold points_ByTime at h
 replace S := S.nk [] [(0, V), (1, sV Bd), (2, iV Bc)] [] rfl (subR rfl)
 refine Fs (Fg (lv S (Ra rfl) rfl ?_));clear S;intro a S
 refine lv S (Ra rfl) rfl ?_;clear S;intro a S
 refine Ld (Tn (Fs (Fs (Fg (lv S (Rm (S.tm rfl)) rfl ?_)))));clear S;intro a S
 obtain ⟨r1, hr1, h⟩ := bindE h
 refine l_enter S (fun _ => run_call (vs := [V]) ⟨(S.tm rfl), trivial⟩ Tryz.call63) (points_CheckBase_ok _ V Z (Af.mono (S.le_arg nil_sub)) _ hr1) rfl ?_;clear S;intro v1 a w1 hv1 hk1 hn1 S
 subst hv1
 refine lv S (Ra (S.tm rfl)) rfl ?_;clear S;intro a S
 refine Ld (Tn (Fs (Fg (lv S (Rm (S.tm rfl)) rfl ?_))));clear S;intro a S
 refine lv S (rn_neq (S.tm rfl) rfl) rfl ?_;clear S;intro a S
 refine Ld (Tn (f_cond (S.tm rfl) (fun hb1 => ?_) (fun hb1 => ?_)))
 ·replace h := iteT h hb1
  refine Fs (Fg (lv S (Rm (S.tm rfl)) rfl ?_));clear S;intro a S
  refine lv S (Ra rfl) rfl ?_;clear S;intro a S
  refine lv S (Ra (S.tm rfl)) rfl ?_;clear S;intro a S
  refine Ld (Tn (wp_ret (then_r ?_)))
  obtain rfl := Option.some.inj h
  exact f_ret2 S Tryz.results42 rfl rfl rfl
 ·replace h := iteF h hb1
  refine wp_skip (Tn (Fs (Fg (lv S (Rm (S.tm rfl)) rfl ?_))));clear S;intro a S
  refine lv S (Rm (S.tm rfl)) rfl ?_;clear S;intro a S
  refine l_enter S (fun _ => run_call (vs := [V, sV Bd]) ⟨(S.tm rfl), (S.tm rfl), trivial⟩ Tryz.call64) (points_baseOf_ok _ V Z (Af.mono (S.le_arg nil_sub)) Bd _ rfl) rfl ?_;clear S;intro v2 a w2 hv2 hk2 hn2 S
  subst hv2
  refine lv S (Ra (S.tm rfl)) rfl ?_;clear S;intro a S
  refine Ld (Tn (Fs (Fs (Fg (lv S (Rm (S.tm rfl)) rfl ?_)))));clear S;intro a S
  refine lv S (rn_eql (S.tm rfl) rfl) rfl ?_;clear S;intro a S
  refine Ld ?_
  replace S := S.nk [] [(2, iV Bc), (9, iV (points_baseOf Z Bd)), (19, bV (decide ((points_baseOf Z Bd) = 0)))] [] rfl (subR rfl)
  refine Tn (f_cond (S.tm rfl) (fun hb2 => ?_) (fun hb2 => ?_))
  ·replace h := iteT h hb2
   refine Fs (Fg (lv S (Ra rfl) rfl ?_));clear S;intro a S
   refine lv S (Ra rfl) rfl ?_;clear S;intro a S
   refine Ld (Tn (wp_ret (then_r ?_)))
   obtain rfl := Option.some.inj h
   exact f_ret2 S Tryz.results42 rfl rfl rfl
  ·replace h := iteF h hb2
   refine wp_skip (Tn (Fs (Fs (Fg (lv S (Rm (S.tm rfl)) rfl ?_)))));clear S;intro a S
   refine l_enter S (fun _ => run_call (vs := [iV Bc]) ⟨(S.tm rfl), trivial⟩ Tryz.call65) (timing_IsTime_ok _ Bc _ rfl) rfl ?_;clear S;intro v3 a w3 hv3 hk3 hn3 S
   subst hv3
   refine lv S (rn_not (S.tm rfl)) rfl ?_;clear S;intro a S
   refine Ld (Tn (f_cond (S.tm rfl) (fun hb3 => ?_) (fun hb3 => ?_)))
   ·replace h := iteT h hb3
    refine Fs (Fg (lv S (Ra rfl) rfl ?_));clear S;intro a S
    refine lv S (Ra rfl) rfl ?_;clear S;intro a S
    refine Ld (Tn (wp_ret (then_r ?_)))
    obtain rfl := Option.some.inj h
    exact f_ret2 S Tryz.results42 rfl rfl rfl
   ·replace h := iteF h hb3
    refine wp_skip (Tn (Fs (Fg (lv S (Rm (S.tm rfl)) rfl ?_))));clear S;intro a S
    refine lv S (Rm (S.tm rfl)) rfl ?_;clear S;intro a S
    obtain ⟨r2, hr2, h⟩ := bindE h
    refine l_enter S (fun _ => run_call (vs := [iV (points_baseOf Z Bd), iV Bc]) ⟨(S.tm rfl), (S.tm rfl), trivial⟩ Tryz.call66) (points_byTime_ok _ (points_baseOf Z Bd) Bc _ hr2) rfl ?_;clear S;intro v4 a w4 hv4 hk4 hn4 S
    subst hv4
    refine lv S (Ra (S.tm rfl)) rfl ?_;clear S;intro a S
    refine lv S (Ra rfl) rfl ?_;clear S;intro a S
    refine Ld (Tn (wp_ret ?_))
    obtain rfl := Option.some.inj h
    exact f_ret2 S Tryz.results42 rfl rfl rfl
theorem tumblaw2_pointed_ok (w : World) (r : Bool) (h : tumblaw2_pointed = some r) :
    Calls Tryz.prog 12 [].toArray w (Ret w [] fun _ v _ => v = bV r) := by
 refine f_enter [] [] Tryz.func12 rfl Tryz.ntmps12 rfl (by simp) (by simp [fps]) (by simp [fps]) fun a S => ?_
 unfold tumblaw2_pointed at h
 replace S := S.nk [] [] [] rfl trivial
 refine Fs (Fg (lv S (Ra rfl) rfl ?_));clear S;intro a S
 refine Ld (Tn (Fs (Fg (lv S (rn_bld bt_74 (pv := [(0, sV k_r), (1, iV 3000)]) ⟨rfl, rfl, rfl, rfl, trivial⟩ (cs := [sV k_r, iV 3000]) (by kernel_rfl)) rfl ?_))));clear S;intro a S
 refine l_buildSlice S Tryz.underlying75 Tryz.sizeOf74 Tryz.zeroValue74 rfl rfl (pv := [(0, .agg #[sV k_r, iV 3000])]) ⟨rfl, (S.tm rfl), trivial⟩ (cs := [sV k_r, iV 3000]) (by kernel_rfl) rfl ?_;clear S;intro a w1 b1 hz1 hk1 S
 obtain ⟨r1, hr1, h⟩ := bindE h
 refine l_enter S (fun _ => run_call (vs := [.slice (some ⟨b1, 0, none⟩) 1 1, sV k_r, iV 6000]) ⟨(S.tm rfl), rfl, rfl, trivial⟩ Tryz.call42) (points_ByTime_ok _ (.slice (some ⟨b1, 0, none⟩) 1 1) [(GBase.mk k_r 3000)] (lit_slcT GBase.enc_ok S (i := 0) rfl rfl rfl rfl ((ne_nil (e' := .blk b1 [sV k_r, iV 3000] 74)) _ rfl)) k_r 6000 _ hr1) rfl ?_;clear S;intro v1 a w2 hv1 hk2 hn1 S
 subst hv1
 refine lv S (Rm (S.tm rfl)) rfl ?_;clear S;intro a S
 refine lv S (rn_extract (S.tm rfl) rfl) rfl ?_;clear S;intro a S
 refine lv S (rn_extract (S.tm rfl) rfl) rfl ?_;clear S;intro a S
 refine lv S (Ra (S.tm rfl)) rfl ?_;clear S;intro a S
 refine lv S (Ra (S.tm rfl)) rfl ?_;clear S;intro a S
 refine Ld (Tn (Fs (Fg (lv S (Rm (S.tm rfl)) rfl ?_))));clear S;intro a S
 refine lv S (rn_eql (S.tm rfl) rfl) rfl ?_;clear S;intro a S
 refine lv S (Rm (S.tm rfl)) rfl ?_;clear S;intro a S
 refine f_cutm 3 (fun a w' => Keep [] w2 w' ∧ Sx w [] nov [.blk b1 [sV k_r, iV 3000] 74] [(14, bV ((decide (r1.2 = 0)) && (decide (r1.1 = 125))))] 15 a w') ?_ ?_
 ·rcases Bool.eq_false_or_eq_true (decide (r1.2 = 0)) with hb1 | hb1
  ·refine l_want S rfl rfl rfl hb1 (lv S (Rm (S.tm rfl)) rfl ?_);clear S;intro a S
   refine l_want S rfl rfl rfl hb1 (lv S (rn_eql (S.tm rfl) rfl) rfl ?_);clear S;intro a S
   refine lv S (rn_and_t hb1 (S.tm rfl) (S.tm rfl)) rfl ?_;clear S;intro a S
   refine Ld (Tn ?_)
   exact ⟨Keep.refl _ _, S.nf [true] rfl ⟨rfl, trivial⟩⟩
  ·refine l_skip S rfl rfl rfl (neq_f hb1) rfl ?_ rfl;clear S;intro a S
   refine l_skip S rfl rfl rfl (neq_f hb1) rfl ?_ rfl;clear S;intro a S
   refine lv S (rn_and_f (decide (r1.1 = 125)) hb1 (S.tm rfl) rfl) rfl ?_;clear S;intro a S
   refine Ld (Tn ?_)
   exact ⟨Keep.refl _ _, S.nf [true] rfl ⟨rfl, trivial⟩⟩
 clear S;rintro a w3 ⟨hk3, S⟩
 refine lv S (Ra (S.tm rfl)) rfl ?_;clear S;intro a S
 refine Ld (Tn (wp_ret ?_))
 obtain rfl := Option.some.inj h
 exact f_ret S Tryz.results12 rfl rfl
theorem tumblaw2_ScoredTexts_ok (w : World) (V : Value) (Z : List Int) (Af : Slc (view w []) 1 V (Z.map eInt)) (hg_maxlen : GlobI (view w []) 0) (hg_pow10 : Glob (view w []) 3 pow10Cells) (r : Bool) (h : tumblaw2_ScoredTexts Z = some r) :
    Calls Tryz.prog 3 [V].toArray w (Ret w [] fun _ v _ => v = bV r) := by
 refine f_enter [] [] Tryz.func3 rfl Tryz.ntmps3 rfl (by simp) (by simp [fps]) (by simp [fps]) fun a S => ?_
 unfold tumblaw2_ScoredTexts at h
 replace S := S.nk [] [(0, V)] [] rfl ⟨rfl, trivial⟩
 refine Fs (Fg (lv S (Ra rfl) rfl ?_));clear S;intro a S
 refine Ld (Tn (Fs (Fg (lv S (Rm (S.tm rfl)) rfl ?_))));clear S;intro a S
 refine lv S (rn_bld bt_25 (pv := [(0, V)]) ⟨rfl, (S.tm rfl), trivial⟩ (cs := [V, iV 0]) (by obtain ⟨_, _, hv⟩ := (slc_len Af);rw [hv];clear hv;kernel_rfl)) rfl ?_;clear S;intro a S
 refine l_box S (S.tm rfl) (cs := [V, iV 0]) rfl rfl ?_;clear S;intro a w1 b1 hz1 hk1 S
 refine lv S (Ra (S.tm rfl)) rfl ?_;clear S;intro a S
 refine Ld (Tn (Fs (Fg (lv S (Rm (S.tm rfl)) rfl ?_))));clear S;intro a S
 obtain ⟨r1, hr1, h⟩ := bindE h
 have hz2 := S.keep.size
 refine l_enter1 0 S (b := b1) rfl rfl (fun _ => .blk b1 [V, iV r1.2] 25) (fun _ => run_call (vs := [.pointer (some ⟨b1, 0, none⟩)]) ⟨(S.tm rfl), trivial⟩ Tryz.call4) (Stream_Scored_ok _ b1 V Z (Af.mono (S.le_arg (fp_sub (i := 0) (e := .blk b1 [V, iV 0] 25) rfl))) 0 (S.holds _ (List.mem_of_getElem? (i := 0) rfl)) _ hr1) rfl (fun _ _ _ h => ⟨h.1, fun _ hc => by cases hc;rfl⟩) ?_;clear S;intro v1 a w2 hv1 hk2 hn1 S
 replace hv1 := hv1.2
 obtain ⟨φ1, hl1, hm1, S⟩ := S.see' hn1 hz2
 have hs1 := hv1.mono hm1
 refine lv S (Rm (S.tm rfl)) rfl ?_;clear S;intro a S
 obtain ⟨r2, hr2, h⟩ := bindE h
 refine l_enter1 0 S (b := b1) rfl rfl (fun _ => .blk b1 [V, iV r2.2] 25) (fun _ => run_call (vs := [.pointer (some ⟨b1, 0, none⟩)]) ⟨(S.tm rfl), trivial⟩ Tryz.call5) (Stream_ScoredText_ok _ b1 V Z (Af.mono (S.le_arg (fp_sub (i := 0) (e := .blk b1 [V, iV r1.2] 25) rfl))) r1.2 (S.holds _ (List.mem_of_getElem? (i := 0) rfl)) (hg_pow10.mono (S.le_arg (fp_sub (i := 0) (e := .blk b1 [V, iV r1.2] 25) rfl))) _ hr2) rfl (fun _ _ _ h => ⟨h.1, fun _ hc => by cases hc;rfl⟩) ?_;clear S;intro v2 a w3 hv2 hk3 hn2 S
 replace hv2 := hv2.2
 subst hv2
 refine lv S (Ra (S.tm rfl)) rfl ?_;clear S;intro a S
 refine lv S (Ra (S.tm rfl)) rfl ?_;clear S;intro a S
 refine Ld (Tn (Fs (Fg (lv S (Rm (S.tm rfl)) rfl ?_))));clear S;intro a S
 obtain ⟨r3, hr3, h⟩ := bindE h
 refine l_enter S (fun _ => run_call (vs := [v1]) ⟨(S.tm rfl), trivial⟩ Tryz.call6) (points_Text_ok _ v1 r1.1 ((ownV_slcT GScored.enc_ok hs1).mono (S.le_new nil_sub)) (hg_pow10.mono (S.le_arg nil_sub)) _ hr3) rfl ?_;clear S;intro v3 a w4 hv3 hk4 hn3 S
 subst hv3
 refine lv S (Rm (S.tm rfl)) rfl ?_;clear S;intro a S
 refine lv S (rn_extract (S.tm rfl) rfl) rfl ?_;clear S;intro a S
 refine lv S (rn_extract (S.tm rfl) rfl) rfl ?_;clear S;intro a S
 refine lv S (Ra (S.tm rfl)) rfl ?_;clear S;intro a S
 refine lv S (Ra (S.tm rfl)) rfl ?_;clear S;intro a S
 refine Ld ?_
 replace S := S.nk [] [(4, v1), (5, sV r2.1), (6, sV r3.1), (7, iV r3.2)] [false] rfl (subR rfl)
 refine Tn (Fs (Fg (lv S (Rm (S.tm rfl)) rfl ?_)));clear S;intro a S
 obtain ⟨r4, hr4, h⟩ := bindE h
 refine l_enter S (fun _ => run_call (vs := [v1]) ⟨(S.tm rfl), trivial⟩ Tryz.call7) (tumbref2_ScoredFault_ok _ v1 r1.1 ((ownV_slcT GScored.enc_ok hs1).mono (S.le_new nil_sub)) _ hr4) rfl ?_;clear S;intro v4 a w5 hv4 hk5 hn4 S
 subst hv4
 refine lv S (Ra (S.tm rfl)) rfl ?_;clear S;intro a S
 refine lv S (Ra rfl) rfl ?_;clear S;intro a S
 refine Ld (Tn (Fs (Fs (Fg (lv S (Rm (S.tm rfl)) rfl ?_)))));clear S;intro a S
 refine lv S (rn_eql (S.tm rfl) rfl) rfl ?_;clear S;intro a S
 refine Ld (Tn ?_)
 obtain ⟨j1, hj1, h⟩ := joinE h
 refine f_join (fun a w' => ∃ x1 : ByteArray, j1 x1 = some r ∧ Sx w [] φ1 [] [(5, sV r2.1), (6, sV r3.1), (7, iV r3.2), (8, iV r4), (9, sV x1)] 72 a w') ?_ ?_
 ·refine f_cond (S.tm rfl) (fun hb1 => ?_) (fun hb1 => ?_)
  ·replace h := iteT h hb1
   refine Fg (lv S (Rm (S.tm rfl)) rfl ?_);clear S;intro a S
   obtain ⟨r5, hr5, h⟩ := bindE h
   refine l_enter S (fun _ => run_call (vs := [v1]) ⟨(S.tm rfl), trivial⟩ Tryz.call8) (tumbref2_ScoredLines_ok _ v1 r1.1 ((ownV_slcT GScored.enc_ok hs1).mono (S.le_new nil_sub)) (hg_pow10.mono (S.le_arg nil_sub)) _ hr5) rfl ?_;clear S;intro v5 a w7 hv5 hk6 hn5 S
   subst hv5
   refine lv S (Ra (S.tm rfl)) rfl ?_;clear S;intro a S
   refine Ld (Tn ?_)
   exact ⟨r5, h, S.nf [] rfl (subR rfl)⟩
  ·replace h := iteF h hb1
   refine wp_skip (Tn ?_)
   exact ⟨k_empty, h, S.nf [] rfl (subR rfl)⟩
 clear S h;rintro a w6 ⟨x1, h, S⟩;rw [hj1] at h;clear hj1 j1
 refine Tn (Fs (Fg (lv S (Rm (S.tm rfl)) rfl ?_)));clear S;intro a S
 obtain ⟨r6, hr6, h⟩ := bindE h
 have hz3 := S.keep.size
 refine l_enter S (fun _ => run_call (vs := [sV r2.1]) ⟨(S.tm rfl), trivial⟩ Tryz.call9) (points_Read_ok _ r2.1 (hg_maxlen.mono (S.le_arg nil_sub)) _ hr6) rfl ?_;clear S;intro v6 a w8 hv6 hk7 hn6 S
 obtain ⟨u2, rfl, ho2⟩ := hv6
 obtain ⟨φ2, hl2, hm2, S⟩ := S.see' hn6 hz3
 have hs2 := ho2.mono hm2
 refine lv S (Rm (S.tm rfl)) rfl ?_;clear S;intro a S
 iterate 3 (refine lv S (rn_extract (S.tm rfl) rfl) rfl ?_;clear S;intro a S)
 iterate 3 (refine lv S (Ra (S.tm rfl)) rfl ?_;clear S;intro a S)
 refine Ld (Tn (Fs (Fg (lv S (Rm (S.tm rfl)) rfl ?_))));clear S;intro a S
 obtain ⟨r7, hr7, h⟩ := bindE h
 have hz4 := S.keep.size
 refine l_enter S (fun _ => run_call (vs := [sV r2.1]) ⟨(S.tm rfl), trivial⟩ Tryz.call10) (tumbref2_ScoredRead_ok _ r2.1 (hg_maxlen.mono (S.le_arg nil_sub)) (hg_pow10.mono (S.le_arg nil_sub)) _ hr7) rfl ?_;clear S;intro v7 a w9 hv7 hk8 hn7 S
 obtain ⟨u3, rfl, ho3⟩ := hv7
 obtain ⟨φ3, hl3, hm3, S⟩ := S.see' hn7 hz4
 have hs3 := ho3.mono hm3
 refine lv S (Rm (S.tm rfl)) rfl ?_;clear S;intro a S
 iterate 3 (refine lv S (rn_extract (S.tm rfl) rfl) rfl ?_;clear S;intro a S)
 iterate 3 (refine lv S (Ra (S.tm rfl)) rfl ?_;clear S;intro a S)
 refine Ld ?_
 replace S := S.nk [] [(6, sV r3.1), (7, iV r3.2), (8, iV r4), (9, sV x1), (10, u2), (11, iV r6.2.1), (12, iV r6.2.2), (13, u3), (14, iV r7.2.1), (15, iV r7.2.2)] [] rfl (subR rfl)
 refine Tn (Fs (Fg (lv S (Rm (S.tm rfl)) rfl ?_)));clear S;intro a S
 refine lv S (Rm (S.tm rfl)) rfl ?_;clear S;intro a S
 refine lv S (rn_eql (S.tm rfl) (S.tm rfl)) rfl ?_;clear S;intro a S
 refine lv S (Rm (S.tm rfl)) rfl ?_;clear S;intro a S
 refine f_cutm 4 (fun a w' => Keep [] w9 w' ∧ Sx w [] φ3 [] [(10, u2), (11, iV r6.2.1), (12, iV r6.2.2), (13, u3), (14, iV r7.2.1), (15, iV r7.2.2), (53, bV ((decide (r3.2 = r4)) && (decide (r3.1 = x1))))] 72 a w') ?_ ?_
 ·rcases Bool.eq_false_or_eq_true (decide (r3.2 = r4)) with hb2 | hb2
  ·refine l_want S rfl rfl rfl hb2 (lv S (Rm (S.tm rfl)) rfl ?_);clear S;intro a S
   refine l_want S rfl rfl rfl hb2 (lv S (Rm (S.tm rfl)) rfl ?_);clear S;intro a S
   refine l_want S rfl rfl rfl hb2 (lv S (rn_seql (S.tm rfl) (S.tm rfl)) rfl ?_);clear S;intro a S
   refine lv S (rn_and_t hb2 (S.tm rfl) (S.tm rfl)) rfl ?_;clear S;intro a S
   refine Ld (Tn ?_)
   exact ⟨Keep.refl _ _, S.nf [] rfl (subR rfl)⟩
  ·iterate 3 (refine l_skip S rfl rfl rfl (neq_f hb2) rfl ?_ rfl;clear S;intro a S)
   refine lv S (rn_and_f (decide (r3.1 = x1)) hb2 (S.tm rfl) rfl) rfl ?_;clear S;intro a S
   refine Ld (Tn ?_)
   exact ⟨Keep.refl _ _, S.nf [] rfl (subR rfl)⟩
 clear S;rintro a w10 ⟨hk9, S⟩
 refine lv S (Rm (S.tm rfl)) rfl ?_;clear S;intro a S
 obtain ⟨j2, hj2, h⟩ := joinE h
 refine f_cutm 4 (fun a w' => ∃ c1, j2 c1 = some r ∧ Keep [] w10 w' ∧ Sx w [] φ3 [] [(11, iV r6.2.1), (12, iV r6.2.2), (14, iV r7.2.1), (15, iV r7.2.2), (58, bV c1)] 72 a w') ?_ ?_
 ·rcases Bool.eq_false_or_eq_true ((decide (r3.2 = r4)) && (decide (r3.1 = x1))) with hb3 | hb3
  ·replace h := iteT h hb3
   refine l_want S rfl rfl rfl hb3 (lv S (Rm (S.tm rfl)) rfl ?_);clear S;intro a S
   refine l_want S rfl rfl rfl hb3 (lv S (Rm (S.tm rfl)) rfl ?_);clear S;intro a S
   refine l_want S rfl rfl rfl hb3 ?_
   obtain ⟨r8, hr8, h⟩ := bindE h
   refine l_enter S (fun _ => run_call (vs := [u2, u3]) ⟨(S.tm rfl), (S.tm rfl), trivial⟩ Tryz.call11) (slices_Equal_Scored_ok _ u2 r6.1 ((ownV_slcT GScored.enc_ok hs2).mono (View.le_trans hl3 (S.le_new nil_sub))) u3 r7.1 ((ownV_slcT GScored.enc_ok hs3).mono (S.le_new nil_sub)) _ hr8) rfl ?_;clear S;intro v8 a w12 hv8 hk10 hn8 S
   subst hv8
   refine lv S (rn_and_t hb3 (S.tm rfl) (S.tm rfl)) rfl ?_;clear S;intro a S
   refine Ld (Tn ?_)
   exact ⟨_, h, hk10, S.nf [] rfl (subR rfl)⟩
  ·replace h := iteF h hb3
   iterate 3 (refine l_skip S rfl rfl rfl (neq_f hb3) rfl ?_ rfl;clear S;intro a S)
   refine lv S (rn_and_f true hb3 (S.tm rfl) rfl) rfl ?_;clear S;intro a S
   refine Ld (Tn ?_)
   exact ⟨_, h, Keep.refl _ _, S.nf [] rfl (subR rfl)⟩
 clear S h;rintro a w11 ⟨c1, h, hk11, S⟩;rw [hj2] at h;clear hj2 j2
 refine lv S (Rm (S.tm rfl)) rfl ?_;clear S;intro a S
 refine f_cutm 4 (fun a w' => Keep [] w11 w' ∧ Sx w [] φ3 [] [(12, iV r6.2.2), (15, iV r7.2.2), (63, bV (c1 && (decide (r6.2.1 = r7.2.1))))] 72 a w') ?_ ?_
 ·rcases Bool.eq_false_or_eq_true c1 with hb4 | hb4
  ·refine l_want S rfl rfl rfl hb4 (lv S (Rm (S.tm rfl)) rfl ?_);clear S;intro a S
   refine l_want S rfl rfl rfl hb4 (lv S (Rm (S.tm rfl)) rfl ?_);clear S;intro a S
   refine l_want S rfl rfl rfl hb4 (lv S (rn_eql (S.tm rfl) (S.tm rfl)) rfl ?_);clear S;intro a S
   refine lv S (rn_and_t hb4 (S.tm rfl) (S.tm rfl)) rfl ?_;clear S;intro a S
   refine Ld (Tn ?_)
   exact ⟨Keep.refl _ _, S.nf [] rfl (subR rfl)⟩
  ·iterate 3 (refine l_skip S rfl rfl rfl (neq_f hb4) rfl ?_ rfl;clear S;intro a S)
   refine lv S (rn_and_f (decide (r6.2.1 = r7.2.1)) hb4 (S.tm rfl) rfl) rfl ?_;clear S;intro a S
   refine Ld (Tn ?_)
   exact ⟨Keep.refl _ _, S.nf [] rfl (subR rfl)⟩
 clear S;rintro a w13 ⟨hk12, S⟩
 refine lv S (Rm (S.tm rfl)) rfl ?_;clear S;intro a S
 refine f_cutm 4 (fun a w' => Keep [] w13 w' ∧ Sx w [] φ3 [] [(68, bV ((c1 && (decide (r6.2.1 = r7.2.1))) && (decide (r6.2.2 = r7.2.2))))] 72 a w') ?_ ?_
 ·rcases Bool.eq_false_or_eq_true (c1 && (decide (r6.2.1 = r7.2.1))) with hb5 | hb5
  ·refine l_want S rfl rfl rfl hb5 (lv S (Rm (S.tm rfl)) rfl ?_);clear S;intro a S
   refine l_want S rfl rfl rfl hb5 (lv S (Rm (S.tm rfl)) rfl ?_);clear S;intro a S
   refine l_want S rfl rfl rfl hb5 (lv S (rn_eql (S.tm rfl) (S.tm rfl)) rfl ?_);clear S;intro a S
   refine lv S (rn_and_t hb5 (S.tm rfl) (S.tm rfl)) rfl ?_;clear S;intro a S
   refine Ld (Tn ?_)
   exact ⟨Keep.refl _ _, S.nf [] rfl ⟨rfl, trivial⟩⟩
  ·iterate 3 (refine l_skip S rfl rfl rfl (neq_f hb5) rfl ?_ rfl;clear S;intro a S)
   refine lv S (rn_and_f (decide (r6.2.2 = r7.2.2)) hb5 (S.tm rfl) rfl) rfl ?_;clear S;intro a S
   refine Ld (Tn ?_)
   exact ⟨Keep.refl _ _, S.nf [] rfl ⟨rfl, trivial⟩⟩
 clear S;rintro a w14 ⟨hk13, S⟩
 refine lv S (Rm (S.tm rfl)) rfl ?_;clear S;intro a S
 obtain ⟨j3, hj3, h⟩ := joinE h
 refine f_cutm 2 (fun a w' => ∃ c2, j3 c2 = some r ∧ Keep [] w14 w' ∧ Sx w [] φ3 [] [(71, bV c2)] 72 a w') ?_ ?_
 ·rcases Bool.eq_false_or_eq_true ((c1 && (decide (r6.2.1 = r7.2.1))) && (decide (r6.2.2 = r7.2.2))) with hb6 | hb6
  ·replace h := iteT h hb6
   refine l_want S rfl rfl rfl hb6 ?_
   obtain ⟨r9, hr9, h⟩ := bindE h
   refine l_enter S (fun _ => run_call (vs := []) trivial Tryz.call12) (tumblaw2_pointed_ok _ _ hr9) rfl ?_;clear S;intro v9 a w16 hv9 hk14 hn9 S
   subst hv9
   refine lv S (rn_and_t hb6 (S.tm rfl) (S.tm rfl)) rfl ?_;clear S;intro a S
   refine Ld (Tn ?_)
   exact ⟨_, h, hk14, S.nf [] rfl ⟨rfl, trivial⟩⟩
  ·replace h := iteF h hb6
   refine l_skip S rfl rfl rfl (neq_f hb6) rfl ?_ rfl;clear S;intro a S
   refine lv S (rn_and_f true hb6 (S.tm rfl) rfl) rfl ?_;clear S;intro a S
   refine Ld (Tn ?_)
   exact ⟨_, h, Keep.refl _ _, S.nf [] rfl ⟨rfl, trivial⟩⟩
 clear S h;rintro a w15 ⟨c2, h, hk15, S⟩;rw [hj3] at h;clear hj3 j3
 refine lv S (Ra (S.tm rfl)) rfl ?_;clear S;intro a S
 refine Ld (Tn (wp_ret ?_))
 obtain rfl := Option.some.inj h
 exact f_ret S Tryz.results3 rfl rfl
end Go.Proofs.YtcnneeipmadakaaGreatDoor
