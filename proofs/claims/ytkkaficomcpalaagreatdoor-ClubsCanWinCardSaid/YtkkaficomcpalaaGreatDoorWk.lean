/- Each Go function computes its plain twin, by program. -/
import Derived.Test.YtkkaficomcpalaaGreatDoorWk3
namespace Go.Proofs.YtkkaficomcpalaaGreatDoor
open Go
set_option maxRecDepth 20000 in
theorem bits_Div64_ok (w : World) (Bg : Int) (At : Int) (Aq : Int) (r : Int × Int) (h : bits_Div64 Bg At Aq = some r) :
    Calls Tryz.prog 80 [.int .u64 Bg, .int .u64 At, .int .u64 Aq].toArray w (Ret w [] fun _ v _ => v = .tuple #[.int .u64 r.1, .int .u64 r.2]) := by
 refine f_enter [] [] Tryz.func80 rfl Tryz.ntmps80 rfl (by simp) (by simp [fps]) (by simp [fps]) fun a S => ?_
 unfold bits_Div64 at h
 replace S := S.nk [] [(0, .int .u64 Bg), (1, .int .u64 At), (2, .int .u64 Aq)] [] rfl (subR rfl)
 refine Fs (Fg (lv S (Ra rfl) rfl ?_));clear S;intro a S
 refine lv S (Ra rfl) rfl ?_;clear S;intro a S
 refine Ld (Tn (Fs (Fs (Fg (lv S (Rm (S.tm rfl)) rfl ?_)))));clear S;intro a S
 refine lv S (rn_eql (S.tm rfl) rfl) rfl ?_;clear S;intro a S
 refine Ld (Tn (f_cond (S.tm rfl) (fun hb1 => ?_) (fun hb1 => ?_)))
 ·replace h := iteT h hb1
  cases h
 ·replace h := iteF h hb1
  refine wp_skip (Tn (Fs (Fs (Fg (lv S (Rm (S.tm rfl)) rfl ?_)))));clear S;intro a S
  refine lv S (Rm (S.tm rfl)) rfl ?_;clear S;intro a S
  refine lv S (rn_leq (S.tm rfl) (S.tm rfl)) rfl ?_;clear S;intro a S
  refine Ld (Tn (f_cond (S.tm rfl) (fun hb2 => ?_) (fun hb2 => ?_)))
  ·replace h := iteT h hb2
   cases h
  ·replace h := iteF h hb2
   refine wp_skip (Tn (Fs (Fs (Fg (lv S (Rm (S.tm rfl)) rfl ?_)))));clear S;intro a S
   refine lv S (rn_eql (S.tm rfl) rfl) rfl ?_;clear S;intro a S
   refine Ld (Tn (f_cond (S.tm rfl) (fun hb3 => ?_) (fun hb3 => ?_)))
   ·replace h := iteT h hb3
    refine Fs (d_region [] ([]) Tryz.mixed S rfl (by kernel_rfl) ?_);clear S;intro w1 hk1 hsel S
    refine d_rest [0, 1, 2, 3, 4, 5, 6, 7] hsel (by kernel_rfl) rfl ?_
    clear hsel
    refine s_lv S rfl (Rm (S.tm rfl)) rfl ?_;clear S;intro a S
    refine s_lv S rfl (Rm (S.tm rfl)) rfl ?_;clear S;intro a S
    obtain ⟨hc1, h⟩ := chkE h
    refine s_lv S rfl (rn_quok (S.tm rfl) (S.tm rfl) (ne0_of hc1)) rfl ?_;clear S;intro a S
    refine s_lv S rfl (Rm (S.tm rfl)) rfl ?_;clear S;intro a S
    refine s_lv S rfl (Rm (S.tm rfl)) rfl ?_;clear S;intro a S
    obtain ⟨hc2, h⟩ := chkE h
    refine s_lv S rfl (rn_remk (S.tm rfl) (S.tm rfl) (ne0_of hc2)) rfl ?_;clear S;intro a S
    refine s_lv S rfl (Ra (S.tm rfl)) rfl ?_;clear S;intro a S
    refine s_lv S rfl (Ra (S.tm rfl)) rfl ?_;clear S;intro a S
    refine s_done ?_
    replace S := S.nk [] [(6, .int .u64 (IntKind.wrap .u64 (Int.tdiv At Aq))), (7, .int .u64 (Int.tmod At Aq))] [] rfl (subR rfl)
    refine Tn (wp_ret (then_r ?_))
    obtain rfl := Option.some.inj h
    exact f_ret2 S Tryz.results80 rfl rfl rfl
   ·replace h := iteF h hb3
    refine wp_skip (Tn (Fs (Fg (lv S (Rm (S.tm rfl)) rfl ?_))));clear S;intro a S
    obtain ⟨r1, hr1, h⟩ := bindE h
    refine l_enter S (fun _ => run_call (vs := [.int .u64 Aq]) ⟨(S.tm rfl), trivial⟩ Tryz.call108) (bits_LeadingZeros64_ok _ Aq _ hr1) rfl ?_;clear S;intro v1 a w2 hv1 hk2 hn1 S
    subst hv1
    refine lv S (rn_conv Tryz.underlying3 Tryz.underlying100 (S.tm rfl)) rfl ?_;clear S;intro a S
    refine lv S (Ra (S.tm rfl)) rfl ?_;clear S;intro a S
    refine Ld ?_
    replace S := S.nk [] [(0, .int .u64 Bg), (1, .int .u64 At), (2, .int .u64 Aq), (8, .int .u64 (IntKind.wrap .u64 r1))] [] rfl (subR rfl)
    refine Tn (Fs (Fg (lv S (Rm (S.tm rfl)) rfl ?_)));clear S;intro a S
    refine lv S (Rm (S.tm rfl)) rfl ?_;clear S;intro a S
    obtain ⟨hc3, h⟩ := chkE h
    refine lv S (rn_shl (S.tm rfl) (S.tm rfl) (of_decide_eq_true hc3)) rfl ?_;clear S;intro a S
    refine lv S (Ra (S.tm rfl)) rfl ?_;clear S;intro a S
    refine Ld (Tn (Fs (Fg (lv S (Rm (S.tm rfl)) rfl ?_))));clear S;intro a S
    refine lv S (rn_shr (S.tm rfl) rfl (by decide)) rfl ?_;clear S;intro a S
    refine lv S (Ra (S.tm rfl)) rfl ?_;clear S;intro a S
    refine Ld (Tn (Fs (Fg (lv S (Rm (S.tm rfl)) rfl ?_))));clear S;intro a S
    refine lv S (rn_and_ (S.tm rfl) rfl) rfl ?_;clear S;intro a S
    refine lv S (Ra (S.tm rfl)) rfl ?_;clear S;intro a S
    refine Ld (Tn (Fs (Fg (lv S (Rm (S.tm rfl)) rfl ?_))));clear S;intro a S
    refine lv S (Rm (S.tm rfl)) rfl ?_;clear S;intro a S
    obtain ⟨hc4, h⟩ := chkE h
    refine lv S (rn_shl (S.tm rfl) (S.tm rfl) (of_decide_eq_true hc4)) rfl ?_;clear S;intro a S
    refine lv S (Rm (S.tm rfl)) rfl ?_;clear S;intro a S
    refine lv S (Rm (S.tm rfl)) rfl ?_;clear S;intro a S
    refine lv S (rn_subk rfl (S.tm rfl)) rfl ?_;clear S;intro a S
    obtain ⟨hc5, h⟩ := chkE h
    refine lv S (rn_shr (S.tm rfl) (S.tm rfl) (of_decide_eq_true hc5)) rfl ?_;clear S;intro a S
    refine lv S (rn_or_ (S.tm rfl) (S.tm rfl)) rfl ?_;clear S;intro a S
    refine lv S (Ra (S.tm rfl)) rfl ?_;clear S;intro a S
    refine Ld ?_
    replace S := S.nk [] [(1, .int .u64 At), (2, .int .u64 (bitShl .u64 Aq (IntKind.wrap .u64 r1))), (8, .int .u64 (IntKind.wrap .u64 r1)), (9, .int .u64 (bitShr .u64 (bitShl .u64 Aq (IntKind.wrap .u64 r1)) 32)), (10, .int .u64 (bitAnd .u64 (bitShl .u64 Aq (IntKind.wrap .u64 r1)) 4294967295)), (11, .int .u64 (bitOr .u64 (bitShl .u64 Bg (IntKind.wrap .u64 r1)) (bitShr .u64 At (IntKind.wrap .u64 (64 - (IntKind.wrap .u64 r1))))))] [] rfl (subR rfl)
    refine Tn (Fs (Fg (lv S (Rm (S.tm rfl)) rfl ?_)));clear S;intro a S
    refine lv S (Rm (S.tm rfl)) rfl ?_;clear S;intro a S
    obtain ⟨hc6, h⟩ := chkE h
    refine lv S (rn_shl (S.tm rfl) (S.tm rfl) (of_decide_eq_true hc6)) rfl ?_;clear S;intro a S
    refine lv S (Ra (S.tm rfl)) rfl ?_;clear S;intro a S
    refine Ld (Tn (Fs (Fg (lv S (Rm (S.tm rfl)) rfl ?_))));clear S;intro a S
    refine lv S (rn_shr (S.tm rfl) rfl (by decide)) rfl ?_;clear S;intro a S
    refine lv S (Ra (S.tm rfl)) rfl ?_;clear S;intro a S
    refine Ld (Tn (Fs (Fg (lv S (Rm (S.tm rfl)) rfl ?_))));clear S;intro a S
    refine lv S (rn_and_ (S.tm rfl) rfl) rfl ?_;clear S;intro a S
    refine lv S (Ra (S.tm rfl)) rfl ?_;clear S;intro a S
    refine Ld ?_
    replace S := S.nk [] [(2, .int .u64 (bitShl .u64 Aq (IntKind.wrap .u64 r1))), (8, .int .u64 (IntKind.wrap .u64 r1)), (9, .int .u64 (bitShr .u64 (bitShl .u64 Aq (IntKind.wrap .u64 r1)) 32)), (10, .int .u64 (bitAnd .u64 (bitShl .u64 Aq (IntKind.wrap .u64 r1)) 4294967295)), (11, .int .u64 (bitOr .u64 (bitShl .u64 Bg (IntKind.wrap .u64 r1)) (bitShr .u64 At (IntKind.wrap .u64 (64 - (IntKind.wrap .u64 r1)))))), (13, .int .u64 (bitShr .u64 (bitShl .u64 At (IntKind.wrap .u64 r1)) 32)), (14, .int .u64 (bitAnd .u64 (bitShl .u64 At (IntKind.wrap .u64 r1)) 4294967295))] [] rfl (subR rfl)
    refine Tn (Fs (Fg (lv S (Rm (S.tm rfl)) rfl ?_)));clear S;intro a S
    refine lv S (Rm (S.tm rfl)) rfl ?_;clear S;intro a S
    obtain ⟨hc7, h⟩ := chkE h
    refine lv S (rn_quok (S.tm rfl) (S.tm rfl) (ne0_of hc7)) rfl ?_;clear S;intro a S
    refine lv S (Ra (S.tm rfl)) rfl ?_;clear S;intro a S
    refine Ld (Tn (Fs (Fg (lv S (Rm (S.tm rfl)) rfl ?_))));clear S;intro a S
    refine lv S (Rm (S.tm rfl)) rfl ?_;clear S;intro a S
    refine lv S (Rm (S.tm rfl)) rfl ?_;clear S;intro a S
    refine lv S (rn_mulk (S.tm rfl) (S.tm rfl)) rfl ?_;clear S;intro a S
    refine lv S (rn_subk (S.tm rfl) (S.tm rfl)) rfl ?_;clear S;intro a S
    refine lv S (Ra (S.tm rfl)) rfl ?_;clear S;intro a S
    refine Ld ?_
    replace S := S.nk [] [(2, .int .u64 (bitShl .u64 Aq (IntKind.wrap .u64 r1))), (8, .int .u64 (IntKind.wrap .u64 r1)), (9, .int .u64 (bitShr .u64 (bitShl .u64 Aq (IntKind.wrap .u64 r1)) 32)), (10, .int .u64 (bitAnd .u64 (bitShl .u64 Aq (IntKind.wrap .u64 r1)) 4294967295)), (11, .int .u64 (bitOr .u64 (bitShl .u64 Bg (IntKind.wrap .u64 r1)) (bitShr .u64 At (IntKind.wrap .u64 (64 - (IntKind.wrap .u64 r1)))))), (13, .int .u64 (bitShr .u64 (bitShl .u64 At (IntKind.wrap .u64 r1)) 32)), (14, .int .u64 (bitAnd .u64 (bitShl .u64 At (IntKind.wrap .u64 r1)) 4294967295)), (15, .int .u64 (IntKind.wrap .u64 (Int.tdiv (bitOr .u64 (bitShl .u64 Bg (IntKind.wrap .u64 r1)) (bitShr .u64 At (IntKind.wrap .u64 (64 - (IntKind.wrap .u64 r1))))) (bitShr .u64 (bitShl .u64 Aq (IntKind.wrap .u64 r1)) 32)))), (16, .int .u64 (IntKind.wrap .u64 ((bitOr .u64 (bitShl .u64 Bg (IntKind.wrap .u64 r1)) (bitShr .u64 At (IntKind.wrap .u64 (64 - (IntKind.wrap .u64 r1))))) - (IntKind.wrap .u64 ((IntKind.wrap .u64 (Int.tdiv (bitOr .u64 (bitShl .u64 Bg (IntKind.wrap .u64 r1)) (bitShr .u64 At (IntKind.wrap .u64 (64 - (IntKind.wrap .u64 r1))))) (bitShr .u64 (bitShl .u64 Aq (IntKind.wrap .u64 r1)) 32))) * (bitShr .u64 (bitShl .u64 Aq (IntKind.wrap .u64 r1)) 32))))))] [] rfl (subR rfl)
    refine Tn (Fs ?_)
    obtain ⟨j1, hj1, h⟩ := joinE h
    refine f_join (fun a w' => ∃ x1 : Int, j1 x1 = some r ∧ Sx w [] nov [] [(2, .int .u64 (bitShl .u64 Aq (IntKind.wrap .u64 r1))), (8, .int .u64 (IntKind.wrap .u64 r1)), (9, .int .u64 (bitShr .u64 (bitShl .u64 Aq (IntKind.wrap .u64 r1)) 32)), (10, .int .u64 (bitAnd .u64 (bitShl .u64 Aq (IntKind.wrap .u64 r1)) 4294967295)), (11, .int .u64 (bitOr .u64 (bitShl .u64 Bg (IntKind.wrap .u64 r1)) (bitShr .u64 At (IntKind.wrap .u64 (64 - (IntKind.wrap .u64 r1)))))), (13, .int .u64 (bitShr .u64 (bitShl .u64 At (IntKind.wrap .u64 r1)) 32)), (14, .int .u64 (bitAnd .u64 (bitShl .u64 At (IntKind.wrap .u64 r1)) 4294967295)), (15, .int .u64 x1)] 135 a w') ?_ ?_
    ·refine wp_block (f_loop (fun (m1 : Nat) a w' => ∃ x1 : Int, ∃ x2 : Int, bits_Div64_l1 At r1 Aq j1 m1 x1 x2 = some r ∧ Sx w [] nov [] [(2, .int .u64 (bitShl .u64 Aq (IntKind.wrap .u64 r1))), (8, .int .u64 (IntKind.wrap .u64 r1)), (9, .int .u64 (bitShr .u64 (bitShl .u64 Aq (IntKind.wrap .u64 r1)) 32)), (10, .int .u64 (bitAnd .u64 (bitShl .u64 Aq (IntKind.wrap .u64 r1)) 4294967295)), (11, .int .u64 (bitOr .u64 (bitShl .u64 Bg (IntKind.wrap .u64 r1)) (bitShr .u64 At (IntKind.wrap .u64 (64 - (IntKind.wrap .u64 r1)))))), (13, .int .u64 (bitShr .u64 (bitShl .u64 At (IntKind.wrap .u64 r1)) 32)), (14, .int .u64 (bitAnd .u64 (bitShl .u64 At (IntKind.wrap .u64 r1)) 4294967295)), (15, .int .u64 x1), (16, .int .u64 x2)] 135 a w') id (((IntKind.wrap .u64 (Int.tdiv (bitOr .u64 (bitShl .u64 Bg (IntKind.wrap .u64 r1)) (bitShr .u64 At (IntKind.wrap .u64 (64 - (IntKind.wrap .u64 r1))))) (bitShr .u64 (bitShl .u64 Aq (IntKind.wrap .u64 r1)) 32))) - 4294967296).toNat + 2) ⟨IntKind.wrap .u64 (Int.tdiv (bitOr .u64 (bitShl .u64 Bg (IntKind.wrap .u64 r1)) (bitShr .u64 At (IntKind.wrap .u64 (64 - (IntKind.wrap .u64 r1))))) (bitShr .u64 (bitShl .u64 Aq (IntKind.wrap .u64 r1)) 32)), IntKind.wrap .u64 ((bitOr .u64 (bitShl .u64 Bg (IntKind.wrap .u64 r1)) (bitShr .u64 At (IntKind.wrap .u64 (64 - (IntKind.wrap .u64 r1))))) - (IntKind.wrap .u64 ((IntKind.wrap .u64 (Int.tdiv (bitOr .u64 (bitShl .u64 Bg (IntKind.wrap .u64 r1)) (bitShr .u64 At (IntKind.wrap .u64 (64 - (IntKind.wrap .u64 r1))))) (bitShr .u64 (bitShl .u64 Aq (IntKind.wrap .u64 r1)) 32))) * (bitShr .u64 (bitShl .u64 Aq (IntKind.wrap .u64 r1)) 32)))), h, S.nf [] rfl (subR rfl)⟩ ?_)
     clear S h; rintro m1 a w3 ⟨x1, x2, h, S⟩
     cases m1 with
     | zero => rw [bits_Div64_l1.eq_1] at h; cases h
     | succ m1 =>
      rw [bits_Div64_l1.eq_2] at h
      refine Fs (Fs (Fg (lv S (Rm (S.tm rfl)) rfl ?_)));clear S;intro a S
      refine lv S (rn_geq (S.tm rfl) rfl) rfl ?_;clear S;intro a S
      refine lv S (Rm (S.tm rfl)) rfl ?_;clear S;intro a S
      refine f_cutm 9 (fun a w' => Keep [] w3 w' ∧ Sx w [] nov [] [(2, .int .u64 (bitShl .u64 Aq (IntKind.wrap .u64 r1))), (8, .int .u64 (IntKind.wrap .u64 r1)), (9, .int .u64 (bitShr .u64 (bitShl .u64 Aq (IntKind.wrap .u64 r1)) 32)), (10, .int .u64 (bitAnd .u64 (bitShl .u64 Aq (IntKind.wrap .u64 r1)) 4294967295)), (11, .int .u64 (bitOr .u64 (bitShl .u64 Bg (IntKind.wrap .u64 r1)) (bitShr .u64 At (IntKind.wrap .u64 (64 - (IntKind.wrap .u64 r1)))))), (13, .int .u64 (bitShr .u64 (bitShl .u64 At (IntKind.wrap .u64 r1)) 32)), (14, .int .u64 (bitAnd .u64 (bitShl .u64 At (IntKind.wrap .u64 r1)) 4294967295)), (15, .int .u64 x1), (16, .int .u64 x2), (78, bV ((decide (4294967296 ≤ x1)) || (decide ((IntKind.wrap .u64 ((IntKind.wrap .u64 (4294967296 * x2)) + (bitShr .u64 (bitShl .u64 At (IntKind.wrap .u64 r1)) 32))) < (IntKind.wrap .u64 (x1 * (bitAnd .u64 (bitShl .u64 Aq (IntKind.wrap .u64 r1)) 4294967295)))))))] 135 a w') ?_ ?_
      ·rcases Bool.eq_false_or_eq_true (decide (4294967296 ≤ x1)) with hb4 | hb4
       ·iterate 8 (refine l_skip S rfl rfl rfl (neq_t hb4) rfl ?_ rfl;clear S;intro a S)
        refine lv S (rn_or_t (decide ((IntKind.wrap .u64 ((IntKind.wrap .u64 (4294967296 * x2)) + (bitShr .u64 (bitShl .u64 At (IntKind.wrap .u64 r1)) 32))) < (IntKind.wrap .u64 (x1 * (bitAnd .u64 (bitShl .u64 Aq (IntKind.wrap .u64 r1)) 4294967295))))) hb4 (S.tm rfl) rfl) rfl ?_;clear S;intro a S
        refine Ld (Tn ?_)
        exact ⟨Keep.refl _ _, S.nf [] rfl (subR rfl)⟩
       ·refine l_want S rfl rfl rfl hb4 (lv S (Rm (S.tm rfl)) rfl ?_);clear S;intro a S
        refine l_want S rfl rfl rfl hb4 (lv S (Rm (S.tm rfl)) rfl ?_);clear S;intro a S
        refine l_want S rfl rfl rfl hb4 (lv S (rn_mulk (S.tm rfl) (S.tm rfl)) rfl ?_);clear S;intro a S
        refine l_want S rfl rfl rfl hb4 (lv S (Rm (S.tm rfl)) rfl ?_);clear S;intro a S
        refine l_want S rfl rfl rfl hb4 (lv S (rn_mulk rfl (S.tm rfl)) rfl ?_);clear S;intro a S
        refine l_want S rfl rfl rfl hb4 (lv S (Rm (S.tm rfl)) rfl ?_);clear S;intro a S
        refine l_want S rfl rfl rfl hb4 (lv S (rn_addk (S.tm rfl) (S.tm rfl)) rfl ?_);clear S;intro a S
        refine l_want S rfl rfl rfl hb4 (lv S (rn_gtr (S.tm rfl) (S.tm rfl)) rfl ?_);clear S;intro a S
        refine lv S (rn_or_f hb4 (S.tm rfl) (S.tm rfl)) rfl ?_;clear S;intro a S
        refine Ld (Tn ?_)
        exact ⟨Keep.refl _ _, S.nf [] rfl (subR rfl)⟩
      clear S; rintro a w5 ⟨hk3, S⟩
      refine Ld (Tn (f_cond (S.tm rfl) (fun hb5 => ?_) (fun hb5 => ?_)))
      ·replace h := iteT h hb5
       refine wp_skip (Tn (wp_block (Fs (Fg (lv S (Rm (S.tm rfl)) rfl ?_)))));clear S;intro a S
       refine lv S (rn_subk (S.tm rfl) rfl) rfl ?_;clear S;intro a S
       refine lv S (Ra (S.tm rfl)) rfl ?_;clear S;intro a S
       refine Ld (Tn (Fs (Fg (lv S (Rm (S.tm rfl)) rfl ?_))));clear S;intro a S
       refine lv S (Rm (S.tm rfl)) rfl ?_;clear S;intro a S
       refine lv S (rn_addk (S.tm rfl) (S.tm rfl)) rfl ?_;clear S;intro a S
       refine lv S (Ra (S.tm rfl)) rfl ?_;clear S;intro a S
       refine Ld ?_
       replace S := S.nk [] [(2, .int .u64 (bitShl .u64 Aq (IntKind.wrap .u64 r1))), (8, .int .u64 (IntKind.wrap .u64 r1)), (9, .int .u64 (bitShr .u64 (bitShl .u64 Aq (IntKind.wrap .u64 r1)) 32)), (10, .int .u64 (bitAnd .u64 (bitShl .u64 Aq (IntKind.wrap .u64 r1)) 4294967295)), (11, .int .u64 (bitOr .u64 (bitShl .u64 Bg (IntKind.wrap .u64 r1)) (bitShr .u64 At (IntKind.wrap .u64 (64 - (IntKind.wrap .u64 r1)))))), (13, .int .u64 (bitShr .u64 (bitShl .u64 At (IntKind.wrap .u64 r1)) 32)), (14, .int .u64 (bitAnd .u64 (bitShl .u64 At (IntKind.wrap .u64 r1)) 4294967295)), (15, .int .u64 (IntKind.wrap .u64 (x1 - 1))), (16, .int .u64 (IntKind.wrap .u64 (x2 + (bitShr .u64 (bitShl .u64 Aq (IntKind.wrap .u64 r1)) 32))))] [] rfl (subR rfl)
       refine Tn (Fs (Fg (lv S (Rm (S.tm rfl)) rfl ?_)));clear S;intro a S
       refine lv S (rn_geq (S.tm rfl) rfl) rfl ?_;clear S;intro a S
       refine Ld (Tn (f_cond (S.tm rfl) (fun hb6 => ?_) (fun hb6 => ?_)))
       ·replace h := iteT h hb6
        refine wp_exit (x_other rfl (then_x (x_same (Tn ?_))))
        exact ⟨IntKind.wrap .u64 (x1 - 1), h, S.nf [] rfl (subR rfl)⟩
       ·replace h := iteF h hb6
        refine wp_skip (blk_n (Tn ?_))
        exact ⟨m1, ⟨IntKind.wrap .u64 (x1 - 1), IntKind.wrap .u64 (x2 + (bitShr .u64 (bitShl .u64 Aq (IntKind.wrap .u64 r1)) 32)), h, S.nf [] rfl ⟨rfl, rfl, rfl, rfl, rfl, rfl, rfl, rfl, rfl, trivial⟩⟩, Nat.lt_succ_self _⟩
      ·replace h := iteF h hb5
       refine wp_exit (then_x (then_x (x_same (Tn ?_))))
       exact ⟨x1, h, S.nf [] rfl (subR rfl)⟩
    clear S h; rintro a w4 ⟨x1, h, S⟩; rw [hj1] at h; clear hj1 j1
    refine Tn (Fs (Fg (lv S (Rm (S.tm rfl)) rfl ?_)));clear S;intro a S
    refine lv S (rn_mulk (S.tm rfl) rfl) rfl ?_;clear S;intro a S
    refine lv S (Rm (S.tm rfl)) rfl ?_;clear S;intro a S
    refine lv S (rn_addk (S.tm rfl) (S.tm rfl)) rfl ?_;clear S;intro a S
    refine lv S (Rm (S.tm rfl)) rfl ?_;clear S;intro a S
    refine lv S (Rm (S.tm rfl)) rfl ?_;clear S;intro a S
    refine lv S (rn_mulk (S.tm rfl) (S.tm rfl)) rfl ?_;clear S;intro a S
    refine lv S (rn_subk (S.tm rfl) (S.tm rfl)) rfl ?_;clear S;intro a S
    refine lv S (Ra (S.tm rfl)) rfl ?_;clear S;intro a S
    refine Ld ?_
    replace S := S.nk [] [(2, .int .u64 (bitShl .u64 Aq (IntKind.wrap .u64 r1))), (8, .int .u64 (IntKind.wrap .u64 r1)), (9, .int .u64 (bitShr .u64 (bitShl .u64 Aq (IntKind.wrap .u64 r1)) 32)), (10, .int .u64 (bitAnd .u64 (bitShl .u64 Aq (IntKind.wrap .u64 r1)) 4294967295)), (14, .int .u64 (bitAnd .u64 (bitShl .u64 At (IntKind.wrap .u64 r1)) 4294967295)), (15, .int .u64 x1), (17, .int .u64 (IntKind.wrap .u64 ((IntKind.wrap .u64 ((IntKind.wrap .u64 ((bitOr .u64 (bitShl .u64 Bg (IntKind.wrap .u64 r1)) (bitShr .u64 At (IntKind.wrap .u64 (64 - (IntKind.wrap .u64 r1))))) * 4294967296)) + (bitShr .u64 (bitShl .u64 At (IntKind.wrap .u64 r1)) 32))) - (IntKind.wrap .u64 (x1 * (bitShl .u64 Aq (IntKind.wrap .u64 r1)))))))] [] rfl (subR rfl)
    refine Tn (Fs (Fg (lv S (Rm (S.tm rfl)) rfl ?_)));clear S;intro a S
    refine lv S (Rm (S.tm rfl)) rfl ?_;clear S;intro a S
    obtain ⟨hc8, h⟩ := chkE h
    refine lv S (rn_quok (S.tm rfl) (S.tm rfl) (ne0_of hc8)) rfl ?_;clear S;intro a S
    refine lv S (Ra (S.tm rfl)) rfl ?_;clear S;intro a S
    refine Ld (Tn (Fs (Fg (lv S (Rm (S.tm rfl)) rfl ?_))));clear S;intro a S
    refine lv S (Rm (S.tm rfl)) rfl ?_;clear S;intro a S
    refine lv S (Rm (S.tm rfl)) rfl ?_;clear S;intro a S
    refine lv S (rn_mulk (S.tm rfl) (S.tm rfl)) rfl ?_;clear S;intro a S
    refine lv S (rn_subk (S.tm rfl) (S.tm rfl)) rfl ?_;clear S;intro a S
    refine lv S (Ra (S.tm rfl)) rfl ?_;clear S;intro a S
    refine Ld ?_
    replace S := S.nk [] [(2, .int .u64 (bitShl .u64 Aq (IntKind.wrap .u64 r1))), (8, .int .u64 (IntKind.wrap .u64 r1)), (9, .int .u64 (bitShr .u64 (bitShl .u64 Aq (IntKind.wrap .u64 r1)) 32)), (10, .int .u64 (bitAnd .u64 (bitShl .u64 Aq (IntKind.wrap .u64 r1)) 4294967295)), (14, .int .u64 (bitAnd .u64 (bitShl .u64 At (IntKind.wrap .u64 r1)) 4294967295)), (15, .int .u64 x1), (16, .int .u64 (IntKind.wrap .u64 ((IntKind.wrap .u64 ((IntKind.wrap .u64 ((IntKind.wrap .u64 ((bitOr .u64 (bitShl .u64 Bg (IntKind.wrap .u64 r1)) (bitShr .u64 At (IntKind.wrap .u64 (64 - (IntKind.wrap .u64 r1))))) * 4294967296)) + (bitShr .u64 (bitShl .u64 At (IntKind.wrap .u64 r1)) 32))) - (IntKind.wrap .u64 (x1 * (bitShl .u64 Aq (IntKind.wrap .u64 r1)))))) - (IntKind.wrap .u64 ((IntKind.wrap .u64 (Int.tdiv (IntKind.wrap .u64 ((IntKind.wrap .u64 ((IntKind.wrap .u64 ((bitOr .u64 (bitShl .u64 Bg (IntKind.wrap .u64 r1)) (bitShr .u64 At (IntKind.wrap .u64 (64 - (IntKind.wrap .u64 r1))))) * 4294967296)) + (bitShr .u64 (bitShl .u64 At (IntKind.wrap .u64 r1)) 32))) - (IntKind.wrap .u64 (x1 * (bitShl .u64 Aq (IntKind.wrap .u64 r1)))))) (bitShr .u64 (bitShl .u64 Aq (IntKind.wrap .u64 r1)) 32))) * (bitShr .u64 (bitShl .u64 Aq (IntKind.wrap .u64 r1)) 32)))))), (17, .int .u64 (IntKind.wrap .u64 ((IntKind.wrap .u64 ((IntKind.wrap .u64 ((bitOr .u64 (bitShl .u64 Bg (IntKind.wrap .u64 r1)) (bitShr .u64 At (IntKind.wrap .u64 (64 - (IntKind.wrap .u64 r1))))) * 4294967296)) + (bitShr .u64 (bitShl .u64 At (IntKind.wrap .u64 r1)) 32))) - (IntKind.wrap .u64 (x1 * (bitShl .u64 Aq (IntKind.wrap .u64 r1))))))), (18, .int .u64 (IntKind.wrap .u64 (Int.tdiv (IntKind.wrap .u64 ((IntKind.wrap .u64 ((IntKind.wrap .u64 ((bitOr .u64 (bitShl .u64 Bg (IntKind.wrap .u64 r1)) (bitShr .u64 At (IntKind.wrap .u64 (64 - (IntKind.wrap .u64 r1))))) * 4294967296)) + (bitShr .u64 (bitShl .u64 At (IntKind.wrap .u64 r1)) 32))) - (IntKind.wrap .u64 (x1 * (bitShl .u64 Aq (IntKind.wrap .u64 r1)))))) (bitShr .u64 (bitShl .u64 Aq (IntKind.wrap .u64 r1)) 32))))] [] rfl (subR rfl)
    refine Tn (Fs ?_)
    obtain ⟨j2, hj2, h⟩ := joinE h
    refine f_join (fun a w' => ∃ x4 : Int, j2 x4 = some r ∧ Sx w [] nov [] [(2, .int .u64 (bitShl .u64 Aq (IntKind.wrap .u64 r1))), (8, .int .u64 (IntKind.wrap .u64 r1)), (14, .int .u64 (bitAnd .u64 (bitShl .u64 At (IntKind.wrap .u64 r1)) 4294967295)), (15, .int .u64 x1), (17, .int .u64 (IntKind.wrap .u64 ((IntKind.wrap .u64 ((IntKind.wrap .u64 ((bitOr .u64 (bitShl .u64 Bg (IntKind.wrap .u64 r1)) (bitShr .u64 At (IntKind.wrap .u64 (64 - (IntKind.wrap .u64 r1))))) * 4294967296)) + (bitShr .u64 (bitShl .u64 At (IntKind.wrap .u64 r1)) 32))) - (IntKind.wrap .u64 (x1 * (bitShl .u64 Aq (IntKind.wrap .u64 r1))))))), (18, .int .u64 x4)] 135 a w') ?_ ?_
    ·refine wp_block (f_loop (fun (m2 : Nat) a w' => ∃ x3 : Int, ∃ x4 : Int, bits_Div64_l2 At r1 Aq j2 m2 x3 x4 = some r ∧ Sx w [] nov [] [(2, .int .u64 (bitShl .u64 Aq (IntKind.wrap .u64 r1))), (8, .int .u64 (IntKind.wrap .u64 r1)), (9, .int .u64 (bitShr .u64 (bitShl .u64 Aq (IntKind.wrap .u64 r1)) 32)), (10, .int .u64 (bitAnd .u64 (bitShl .u64 Aq (IntKind.wrap .u64 r1)) 4294967295)), (14, .int .u64 (bitAnd .u64 (bitShl .u64 At (IntKind.wrap .u64 r1)) 4294967295)), (15, .int .u64 x1), (16, .int .u64 x3), (17, .int .u64 (IntKind.wrap .u64 ((IntKind.wrap .u64 ((IntKind.wrap .u64 ((bitOr .u64 (bitShl .u64 Bg (IntKind.wrap .u64 r1)) (bitShr .u64 At (IntKind.wrap .u64 (64 - (IntKind.wrap .u64 r1))))) * 4294967296)) + (bitShr .u64 (bitShl .u64 At (IntKind.wrap .u64 r1)) 32))) - (IntKind.wrap .u64 (x1 * (bitShl .u64 Aq (IntKind.wrap .u64 r1))))))), (18, .int .u64 x4)] 135 a w') id (((IntKind.wrap .u64 (Int.tdiv (IntKind.wrap .u64 ((IntKind.wrap .u64 ((IntKind.wrap .u64 ((bitOr .u64 (bitShl .u64 Bg (IntKind.wrap .u64 r1)) (bitShr .u64 At (IntKind.wrap .u64 (64 - (IntKind.wrap .u64 r1))))) * 4294967296)) + (bitShr .u64 (bitShl .u64 At (IntKind.wrap .u64 r1)) 32))) - (IntKind.wrap .u64 (x1 * (bitShl .u64 Aq (IntKind.wrap .u64 r1)))))) (bitShr .u64 (bitShl .u64 Aq (IntKind.wrap .u64 r1)) 32))) - 4294967296).toNat + 2) ⟨IntKind.wrap .u64 ((IntKind.wrap .u64 ((IntKind.wrap .u64 ((IntKind.wrap .u64 ((bitOr .u64 (bitShl .u64 Bg (IntKind.wrap .u64 r1)) (bitShr .u64 At (IntKind.wrap .u64 (64 - (IntKind.wrap .u64 r1))))) * 4294967296)) + (bitShr .u64 (bitShl .u64 At (IntKind.wrap .u64 r1)) 32))) - (IntKind.wrap .u64 (x1 * (bitShl .u64 Aq (IntKind.wrap .u64 r1)))))) - (IntKind.wrap .u64 ((IntKind.wrap .u64 (Int.tdiv (IntKind.wrap .u64 ((IntKind.wrap .u64 ((IntKind.wrap .u64 ((bitOr .u64 (bitShl .u64 Bg (IntKind.wrap .u64 r1)) (bitShr .u64 At (IntKind.wrap .u64 (64 - (IntKind.wrap .u64 r1))))) * 4294967296)) + (bitShr .u64 (bitShl .u64 At (IntKind.wrap .u64 r1)) 32))) - (IntKind.wrap .u64 (x1 * (bitShl .u64 Aq (IntKind.wrap .u64 r1)))))) (bitShr .u64 (bitShl .u64 Aq (IntKind.wrap .u64 r1)) 32))) * (bitShr .u64 (bitShl .u64 Aq (IntKind.wrap .u64 r1)) 32)))), IntKind.wrap .u64 (Int.tdiv (IntKind.wrap .u64 ((IntKind.wrap .u64 ((IntKind.wrap .u64 ((bitOr .u64 (bitShl .u64 Bg (IntKind.wrap .u64 r1)) (bitShr .u64 At (IntKind.wrap .u64 (64 - (IntKind.wrap .u64 r1))))) * 4294967296)) + (bitShr .u64 (bitShl .u64 At (IntKind.wrap .u64 r1)) 32))) - (IntKind.wrap .u64 (x1 * (bitShl .u64 Aq (IntKind.wrap .u64 r1)))))) (bitShr .u64 (bitShl .u64 Aq (IntKind.wrap .u64 r1)) 32)), h, S.nf [] rfl (subR rfl)⟩ ?_)
     clear S h; rintro m2 a w6 ⟨x3, x4, h, S⟩
     cases m2 with
     | zero => rw [bits_Div64_l2.eq_1] at h; cases h
     | succ m2 =>
      rw [bits_Div64_l2.eq_2] at h
      refine Fs (Fs (Fg (lv S (Rm (S.tm rfl)) rfl ?_)));clear S;intro a S
      refine lv S (rn_geq (S.tm rfl) rfl) rfl ?_;clear S;intro a S
      refine lv S (Rm (S.tm rfl)) rfl ?_;clear S;intro a S
      refine f_cutm 9 (fun a w' => Keep [] w6 w' ∧ Sx w [] nov [] [(2, .int .u64 (bitShl .u64 Aq (IntKind.wrap .u64 r1))), (8, .int .u64 (IntKind.wrap .u64 r1)), (9, .int .u64 (bitShr .u64 (bitShl .u64 Aq (IntKind.wrap .u64 r1)) 32)), (10, .int .u64 (bitAnd .u64 (bitShl .u64 Aq (IntKind.wrap .u64 r1)) 4294967295)), (14, .int .u64 (bitAnd .u64 (bitShl .u64 At (IntKind.wrap .u64 r1)) 4294967295)), (15, .int .u64 x1), (16, .int .u64 x3), (17, .int .u64 (IntKind.wrap .u64 ((IntKind.wrap .u64 ((IntKind.wrap .u64 ((bitOr .u64 (bitShl .u64 Bg (IntKind.wrap .u64 r1)) (bitShr .u64 At (IntKind.wrap .u64 (64 - (IntKind.wrap .u64 r1))))) * 4294967296)) + (bitShr .u64 (bitShl .u64 At (IntKind.wrap .u64 r1)) 32))) - (IntKind.wrap .u64 (x1 * (bitShl .u64 Aq (IntKind.wrap .u64 r1))))))), (18, .int .u64 x4), (113, bV ((decide (4294967296 ≤ x4)) || (decide ((IntKind.wrap .u64 ((IntKind.wrap .u64 (4294967296 * x3)) + (bitAnd .u64 (bitShl .u64 At (IntKind.wrap .u64 r1)) 4294967295))) < (IntKind.wrap .u64 (x4 * (bitAnd .u64 (bitShl .u64 Aq (IntKind.wrap .u64 r1)) 4294967295)))))))] 135 a w') ?_ ?_
      ·rcases Bool.eq_false_or_eq_true (decide (4294967296 ≤ x4)) with hb7 | hb7
       ·iterate 8 (refine l_skip S rfl rfl rfl (neq_t hb7) rfl ?_ rfl;clear S;intro a S)
        refine lv S (rn_or_t (decide ((IntKind.wrap .u64 ((IntKind.wrap .u64 (4294967296 * x3)) + (bitAnd .u64 (bitShl .u64 At (IntKind.wrap .u64 r1)) 4294967295))) < (IntKind.wrap .u64 (x4 * (bitAnd .u64 (bitShl .u64 Aq (IntKind.wrap .u64 r1)) 4294967295))))) hb7 (S.tm rfl) rfl) rfl ?_;clear S;intro a S
        refine Ld (Tn ?_)
        exact ⟨Keep.refl _ _, S.nf [] rfl (subR rfl)⟩
       ·refine l_want S rfl rfl rfl hb7 (lv S (Rm (S.tm rfl)) rfl ?_);clear S;intro a S
        refine l_want S rfl rfl rfl hb7 (lv S (Rm (S.tm rfl)) rfl ?_);clear S;intro a S
        refine l_want S rfl rfl rfl hb7 (lv S (rn_mulk (S.tm rfl) (S.tm rfl)) rfl ?_);clear S;intro a S
        refine l_want S rfl rfl rfl hb7 (lv S (Rm (S.tm rfl)) rfl ?_);clear S;intro a S
        refine l_want S rfl rfl rfl hb7 (lv S (rn_mulk rfl (S.tm rfl)) rfl ?_);clear S;intro a S
        refine l_want S rfl rfl rfl hb7 (lv S (Rm (S.tm rfl)) rfl ?_);clear S;intro a S
        refine l_want S rfl rfl rfl hb7 (lv S (rn_addk (S.tm rfl) (S.tm rfl)) rfl ?_);clear S;intro a S
        refine l_want S rfl rfl rfl hb7 (lv S (rn_gtr (S.tm rfl) (S.tm rfl)) rfl ?_);clear S;intro a S
        refine lv S (rn_or_f hb7 (S.tm rfl) (S.tm rfl)) rfl ?_;clear S;intro a S
        refine Ld (Tn ?_)
        exact ⟨Keep.refl _ _, S.nf [] rfl (subR rfl)⟩
      clear S; rintro a w8 ⟨hk4, S⟩
      refine Ld (Tn (f_cond (S.tm rfl) (fun hb8 => ?_) (fun hb8 => ?_)))
      ·replace h := iteT h hb8
       refine wp_skip (Tn (wp_block (Fs (Fg (lv S (Rm (S.tm rfl)) rfl ?_)))));clear S;intro a S
       refine lv S (rn_subk (S.tm rfl) rfl) rfl ?_;clear S;intro a S
       refine lv S (Ra (S.tm rfl)) rfl ?_;clear S;intro a S
       refine Ld (Tn (Fs (Fg (lv S (Rm (S.tm rfl)) rfl ?_))));clear S;intro a S
       refine lv S (Rm (S.tm rfl)) rfl ?_;clear S;intro a S
       refine lv S (rn_addk (S.tm rfl) (S.tm rfl)) rfl ?_;clear S;intro a S
       refine lv S (Ra (S.tm rfl)) rfl ?_;clear S;intro a S
       refine Ld ?_
       replace S := S.nk [] [(2, .int .u64 (bitShl .u64 Aq (IntKind.wrap .u64 r1))), (8, .int .u64 (IntKind.wrap .u64 r1)), (9, .int .u64 (bitShr .u64 (bitShl .u64 Aq (IntKind.wrap .u64 r1)) 32)), (10, .int .u64 (bitAnd .u64 (bitShl .u64 Aq (IntKind.wrap .u64 r1)) 4294967295)), (14, .int .u64 (bitAnd .u64 (bitShl .u64 At (IntKind.wrap .u64 r1)) 4294967295)), (15, .int .u64 x1), (16, .int .u64 (IntKind.wrap .u64 (x3 + (bitShr .u64 (bitShl .u64 Aq (IntKind.wrap .u64 r1)) 32)))), (17, .int .u64 (IntKind.wrap .u64 ((IntKind.wrap .u64 ((IntKind.wrap .u64 ((bitOr .u64 (bitShl .u64 Bg (IntKind.wrap .u64 r1)) (bitShr .u64 At (IntKind.wrap .u64 (64 - (IntKind.wrap .u64 r1))))) * 4294967296)) + (bitShr .u64 (bitShl .u64 At (IntKind.wrap .u64 r1)) 32))) - (IntKind.wrap .u64 (x1 * (bitShl .u64 Aq (IntKind.wrap .u64 r1))))))), (18, .int .u64 (IntKind.wrap .u64 (x4 - 1)))] [] rfl (subR rfl)
       refine Tn (Fs (Fg (lv S (Rm (S.tm rfl)) rfl ?_)));clear S;intro a S
       refine lv S (rn_geq (S.tm rfl) rfl) rfl ?_;clear S;intro a S
       refine Ld (Tn (f_cond (S.tm rfl) (fun hb9 => ?_) (fun hb9 => ?_)))
       ·replace h := iteT h hb9
        refine wp_exit (x_other rfl (then_x (x_same (Tn ?_))))
        exact ⟨IntKind.wrap .u64 (x4 - 1), h, S.nf [] rfl (subR rfl)⟩
       ·replace h := iteF h hb9
        refine wp_skip (blk_n (Tn ?_))
        exact ⟨m2, ⟨IntKind.wrap .u64 (x3 + (bitShr .u64 (bitShl .u64 Aq (IntKind.wrap .u64 r1)) 32)), IntKind.wrap .u64 (x4 - 1), h, S.nf [] rfl ⟨rfl, rfl, rfl, rfl, rfl, rfl, rfl, rfl, rfl, trivial⟩⟩, Nat.lt_succ_self _⟩
      ·replace h := iteF h hb8
       refine wp_exit (then_x (then_x (x_same (Tn ?_))))
       exact ⟨x4, h, S.nf [] rfl (subR rfl)⟩
    clear S h; rintro a w7 ⟨x4, h, S⟩; rw [hj2] at h; clear hj2 j2
    refine Tn (Fs (Fg (lv S (Rm (S.tm rfl)) rfl ?_)));clear S;intro a S
    refine lv S (rn_mulk (S.tm rfl) rfl) rfl ?_;clear S;intro a S
    refine lv S (Rm (S.tm rfl)) rfl ?_;clear S;intro a S
    refine lv S (rn_addk (S.tm rfl) (S.tm rfl)) rfl ?_;clear S;intro a S
    refine lv S (Rm (S.tm rfl)) rfl ?_;clear S;intro a S
    refine lv S (rn_mulk (S.tm rfl) rfl) rfl ?_;clear S;intro a S
    refine lv S (Rm (S.tm rfl)) rfl ?_;clear S;intro a S
    refine lv S (rn_addk (S.tm rfl) (S.tm rfl)) rfl ?_;clear S;intro a S
    refine lv S (Rm (S.tm rfl)) rfl ?_;clear S;intro a S
    refine lv S (Rm (S.tm rfl)) rfl ?_;clear S;intro a S
    refine lv S (rn_mulk (S.tm rfl) (S.tm rfl)) rfl ?_;clear S;intro a S
    refine lv S (rn_subk (S.tm rfl) (S.tm rfl)) rfl ?_;clear S;intro a S
    refine lv S (Rm (S.tm rfl)) rfl ?_;clear S;intro a S
    obtain ⟨hc9, h⟩ := chkE h
    refine lv S (rn_shr (S.tm rfl) (S.tm rfl) (of_decide_eq_true hc9)) rfl ?_;clear S;intro a S
    refine lv S (Ra (S.tm rfl)) rfl ?_;clear S;intro a S
    refine lv S (Ra (S.tm rfl)) rfl ?_;clear S;intro a S
    refine Ld ?_
    replace S := S.nk [] [(6, .int .u64 (IntKind.wrap .u64 ((IntKind.wrap .u64 (x1 * 4294967296)) + x4))), (7, .int .u64 (bitShr .u64 (IntKind.wrap .u64 ((IntKind.wrap .u64 ((IntKind.wrap .u64 ((IntKind.wrap .u64 ((IntKind.wrap .u64 ((IntKind.wrap .u64 ((bitOr .u64 (bitShl .u64 Bg (IntKind.wrap .u64 r1)) (bitShr .u64 At (IntKind.wrap .u64 (64 - (IntKind.wrap .u64 r1))))) * 4294967296)) + (bitShr .u64 (bitShl .u64 At (IntKind.wrap .u64 r1)) 32))) - (IntKind.wrap .u64 (x1 * (bitShl .u64 Aq (IntKind.wrap .u64 r1)))))) * 4294967296)) + (bitAnd .u64 (bitShl .u64 At (IntKind.wrap .u64 r1)) 4294967295))) - (IntKind.wrap .u64 (x4 * (bitShl .u64 Aq (IntKind.wrap .u64 r1)))))) (IntKind.wrap .u64 r1)))] [] rfl (subR rfl)
    refine Tn (wp_ret ?_)
    obtain rfl := Option.some.inj h
    exact f_ret2 S Tryz.results80 rfl rfl rfl
theorem points_byTime_ok (w : World) (Bb : Int) (Bj : Int) (r : Int) (h : points_byTime Bb Bj = some r) :
    Calls Tryz.prog 64 [iV Bb, iV Bj].toArray w (Ret w [] fun _ v _ => v = iV r) := by
 refine f_enter [] [] Tryz.func64 rfl Tryz.ntmps64 rfl (by simp) (by simp [fps]) (by simp [fps]) fun a S => ?_
 unfold points_byTime at h
 replace S := S.nk [] [(0, iV Bb), (1, iV Bj)] [] rfl (subR rfl)
 refine Fs (Fg (lv S (Ra rfl) rfl ?_));clear S;intro a S
 refine Ld (Tn (Fs (Fg (lv S (Rm (S.tm rfl)) rfl ?_))));clear S;intro a S
 refine lv S (rn_conv Tryz.underlying3 Tryz.underlying108 (S.tm rfl)) rfl ?_;clear S;intro a S
 refine lv S (Rm (S.tm rfl)) rfl ?_;clear S;intro a S
 refine lv S (rn_conv Tryz.underlying3 Tryz.underlying108 (S.tm rfl)) rfl ?_;clear S;intro a S
 refine lv S (Ra (S.tm rfl)) rfl ?_;clear S;intro a S
 refine lv S (Ra (S.tm rfl)) rfl ?_;clear S;intro a S
 refine Ld (Tn (Fs (Fg (lv S (Rm (S.tm rfl)) rfl ?_))));clear S;intro a S
 refine lv S (Rm (S.tm rfl)) rfl ?_;clear S;intro a S
 refine lv S (rn_mulk (S.tm rfl) (S.tm rfl)) rfl ?_;clear S;intro a S
 refine lv S (Rm (S.tm rfl)) rfl ?_;clear S;intro a S
 refine lv S (rn_mulk (S.tm rfl) (S.tm rfl)) rfl ?_;clear S;intro a S
 refine l_enter S (fun _ => run_call (vs := [.int .u64 (IntKind.wrap .u64 ((IntKind.wrap .u64 ((IntKind.wrap .u64 Bb) * (IntKind.wrap .u64 Bb))) * (IntKind.wrap .u64 Bb))), .int .u64 1000]) ⟨(S.tm rfl), rfl, trivial⟩ Tryz.call79) (bits_Mul64_ok _ (IntKind.wrap .u64 ((IntKind.wrap .u64 ((IntKind.wrap .u64 Bb) * (IntKind.wrap .u64 Bb))) * (IntKind.wrap .u64 Bb))) 1000 _ rfl) rfl ?_;clear S;intro v1 a w1 hv1 hk1 hn1 S
 subst hv1
 refine lv S (Rm (S.tm rfl)) rfl ?_;clear S;intro a S
 refine lv S (rn_extract (S.tm rfl) rfl) rfl ?_;clear S;intro a S
 refine lv S (rn_extract (S.tm rfl) rfl) rfl ?_;clear S;intro a S
 refine lv S (Ra (S.tm rfl)) rfl ?_;clear S;intro a S
 refine lv S (Ra (S.tm rfl)) rfl ?_;clear S;intro a S
 refine Ld ?_
 replace S := S.nk [] [(6, .int .u64 (IntKind.wrap .u64 Bj)), (7, .int .u64 ((bits_Mul64 (IntKind.wrap .u64 ((IntKind.wrap .u64 ((IntKind.wrap .u64 Bb) * (IntKind.wrap .u64 Bb))) * (IntKind.wrap .u64 Bb))) 1000).1)), (8, .int .u64 ((bits_Mul64 (IntKind.wrap .u64 ((IntKind.wrap .u64 ((IntKind.wrap .u64 Bb) * (IntKind.wrap .u64 Bb))) * (IntKind.wrap .u64 Bb))) 1000).2))] [] rfl (subR rfl)
 refine Tn (Fs (Fg (lv S (Rm (S.tm rfl)) rfl ?_)));clear S;intro a S
 refine lv S (Rm (S.tm rfl)) rfl ?_;clear S;intro a S
 refine lv S (rn_mulk (S.tm rfl) (S.tm rfl)) rfl ?_;clear S;intro a S
 refine lv S (Rm (S.tm rfl)) rfl ?_;clear S;intro a S
 refine lv S (rn_mulk (S.tm rfl) (S.tm rfl)) rfl ?_;clear S;intro a S
 refine lv S (Ra (S.tm rfl)) rfl ?_;clear S;intro a S
 refine Ld (Tn (Fs (Fs (Fg (lv S (Rm (S.tm rfl)) rfl ?_)))));clear S;intro a S
 refine lv S (Rm (S.tm rfl)) rfl ?_;clear S;intro a S
 refine lv S (rn_geq (S.tm rfl) (S.tm rfl)) rfl ?_;clear S;intro a S
 refine Ld (Tn (f_cond (S.tm rfl) (fun hb1 => ?_) (fun hb1 => ?_)))
 ·replace h := iteT h hb1
  refine Fs (Fg (lv S (Ra rfl) rfl ?_));clear S;intro a S
  refine Ld (Tn (wp_ret (then_r ?_)))
  obtain rfl := Option.some.inj h
  exact f_ret S Tryz.results64 rfl rfl
 ·replace h := iteF h hb1
  refine wp_skip (Tn (Fs (Fg (lv S (Rm (S.tm rfl)) rfl ?_))));clear S;intro a S
  refine lv S (Rm (S.tm rfl)) rfl ?_;clear S;intro a S
  refine lv S (Rm (S.tm rfl)) rfl ?_;clear S;intro a S
  obtain ⟨r1, hr1, h⟩ := bindE h
  refine l_enter S (fun _ => run_call (vs := [.int .u64 ((bits_Mul64 (IntKind.wrap .u64 ((IntKind.wrap .u64 ((IntKind.wrap .u64 Bb) * (IntKind.wrap .u64 Bb))) * (IntKind.wrap .u64 Bb))) 1000).1), .int .u64 ((bits_Mul64 (IntKind.wrap .u64 ((IntKind.wrap .u64 ((IntKind.wrap .u64 Bb) * (IntKind.wrap .u64 Bb))) * (IntKind.wrap .u64 Bb))) 1000).2), .int .u64 (IntKind.wrap .u64 ((IntKind.wrap .u64 ((IntKind.wrap .u64 Bj) * (IntKind.wrap .u64 Bj))) * (IntKind.wrap .u64 Bj)))]) ⟨(S.tm rfl), (S.tm rfl), (S.tm rfl), trivial⟩ Tryz.call80) (bits_Div64_ok _ ((bits_Mul64 (IntKind.wrap .u64 ((IntKind.wrap .u64 ((IntKind.wrap .u64 Bb) * (IntKind.wrap .u64 Bb))) * (IntKind.wrap .u64 Bb))) 1000).1) ((bits_Mul64 (IntKind.wrap .u64 ((IntKind.wrap .u64 ((IntKind.wrap .u64 Bb) * (IntKind.wrap .u64 Bb))) * (IntKind.wrap .u64 Bb))) 1000).2) (IntKind.wrap .u64 ((IntKind.wrap .u64 ((IntKind.wrap .u64 Bj) * (IntKind.wrap .u64 Bj))) * (IntKind.wrap .u64 Bj))) _ hr1) rfl ?_;clear S;intro v2 a w2 hv2 hk2 hn2 S
  subst hv2
  refine lv S (Rm (S.tm rfl)) rfl ?_;clear S;intro a S
  refine lv S (rn_extract (S.tm rfl) rfl) rfl ?_;clear S;intro a S
  refine lv S (rn_extract (S.tm rfl) rfl) rfl ?_;clear S;intro a S
  refine lv S (Ra (S.tm rfl)) rfl ?_;clear S;intro a S
  refine lv S (Ra (S.tm rfl)) rfl ?_;clear S;intro a S
  refine Ld ?_
  replace S := S.nk [] [(9, .int .u64 r1.1)] [] rfl ⟨rfl, trivial⟩
  refine Tn (Fs (Fg (lv S (Rm (S.tm rfl)) rfl ?_)));clear S;intro a S
  refine lv S (rn_min2 (S.tm rfl) rfl) rfl ?_;clear S;intro a S
  refine lv S (rn_conv Tryz.underlying108 Tryz.underlying3 (S.tm rfl)) rfl ?_;clear S;intro a S
  refine lv S (Ra (S.tm rfl)) rfl ?_;clear S;intro a S
  refine Ld (Tn (wp_ret ?_))
  obtain rfl := Option.some.inj h
  exact f_ret S Tryz.results64 rfl rfl
theorem points_ByTime_ok (w : World) (U : Value) (Ae : List GBase) (Ag : Slc (view w []) 2 U (Ae.map GBase.enc)) (Bk : ByteArray) (Bj : Int) (r : Int × Int) (h : points_ByTime Ae Bk Bj = some r) :
    Calls Tryz.prog 41 [U, sV Bk, iV Bj].toArray w (Ret w [] fun _ v _ => v = .tuple #[iV r.1, iV r.2]) := by
 refine f_enter [] [] Tryz.func41 rfl Tryz.ntmps41 rfl (by simp) (by simp [fps]) (by simp [fps]) fun a S => ?_
 unfold points_ByTime at h
 replace S := S.nk [] [(0, U), (1, sV Bk), (2, iV Bj)] [] rfl (subR rfl)
 refine Fs (Fg (lv S (Ra rfl) rfl ?_));clear S;intro a S
 refine lv S (Ra rfl) rfl ?_;clear S;intro a S
 refine Ld (Tn (Fs (Fs (Fg (lv S (Rm (S.tm rfl)) rfl ?_)))));clear S;intro a S
 obtain ⟨r1, hr1, h⟩ := bindE h
 refine l_enter S (fun _ => run_call (vs := [U]) ⟨(S.tm rfl), trivial⟩ Tryz.call61) (points_CheckBase_ok _ U Ae (Ag.mono (S.le_arg nil_sub)) _ hr1) rfl ?_;clear S;intro v1 a w1 hv1 hk1 hn1 S
 subst hv1
 refine lv S (Ra (S.tm rfl)) rfl ?_;clear S;intro a S
 refine Ld (Tn (Fs (Fg (lv S (Rm (S.tm rfl)) rfl ?_))));clear S;intro a S
 refine lv S (rn_neq (S.tm rfl) rfl) rfl ?_;clear S;intro a S
 refine Ld (Tn (f_cond (S.tm rfl) (fun hb1 => ?_) (fun hb1 => ?_)))
 ·replace h := iteT h hb1
  refine Fs (Fg (lv S (Rm (S.tm rfl)) rfl ?_));clear S;intro a S
  refine lv S (Ra rfl) rfl ?_;clear S;intro a S
  refine lv S (Ra (S.tm rfl)) rfl ?_;clear S;intro a S
  refine Ld (Tn (wp_ret (then_r ?_)))
  obtain rfl := Option.some.inj h
  exact f_ret2 S Tryz.results41 rfl rfl rfl
 ·replace h := iteF h hb1
  refine wp_skip (Tn (Fs (Fg (lv S (Rm (S.tm rfl)) rfl ?_))));clear S;intro a S
  refine lv S (Rm (S.tm rfl)) rfl ?_;clear S;intro a S
  refine l_enter S (fun _ => run_call (vs := [U, sV Bk]) ⟨(S.tm rfl), (S.tm rfl), trivial⟩ Tryz.call62) (points_baseOf_ok _ U Ae (Ag.mono (S.le_arg nil_sub)) Bk _ rfl) rfl ?_;clear S;intro v2 a w2 hv2 hk2 hn2 S
  subst hv2
  refine lv S (Ra (S.tm rfl)) rfl ?_;clear S;intro a S
  refine Ld (Tn (Fs (Fs (Fg (lv S (Rm (S.tm rfl)) rfl ?_)))));clear S;intro a S
  refine lv S (rn_eql (S.tm rfl) rfl) rfl ?_;clear S;intro a S
  refine Ld ?_
  replace S := S.nk [] [(2, iV Bj), (9, iV (points_baseOf Ae Bk)), (19, bV (decide ((points_baseOf Ae Bk) = 0)))] [] rfl (subR rfl)
  refine Tn (f_cond (S.tm rfl) (fun hb2 => ?_) (fun hb2 => ?_))
  ·replace h := iteT h hb2
   refine Fs (Fg (lv S (Ra rfl) rfl ?_));clear S;intro a S
   refine lv S (Ra rfl) rfl ?_;clear S;intro a S
   refine Ld (Tn (wp_ret (then_r ?_)))
   obtain rfl := Option.some.inj h
   exact f_ret2 S Tryz.results41 rfl rfl rfl
  ·replace h := iteF h hb2
   refine wp_skip (Tn (Fs (Fs (Fg (lv S (Rm (S.tm rfl)) rfl ?_)))));clear S;intro a S
   refine l_enter S (fun _ => run_call (vs := [iV Bj]) ⟨(S.tm rfl), trivial⟩ Tryz.call63) (timing_IsTime_ok _ Bj _ rfl) rfl ?_;clear S;intro v3 a w3 hv3 hk3 hn3 S
   subst hv3
   refine lv S (rn_not (S.tm rfl)) rfl ?_;clear S;intro a S
   refine Ld (Tn (f_cond (S.tm rfl) (fun hb3 => ?_) (fun hb3 => ?_)))
   ·replace h := iteT h hb3
    refine Fs (Fg (lv S (Ra rfl) rfl ?_));clear S;intro a S
    refine lv S (Ra rfl) rfl ?_;clear S;intro a S
    refine Ld (Tn (wp_ret (then_r ?_)))
    obtain rfl := Option.some.inj h
    exact f_ret2 S Tryz.results41 rfl rfl rfl
   ·replace h := iteF h hb3
    refine wp_skip (Tn (Fs (Fg (lv S (Rm (S.tm rfl)) rfl ?_))));clear S;intro a S
    refine lv S (Rm (S.tm rfl)) rfl ?_;clear S;intro a S
    obtain ⟨r2, hr2, h⟩ := bindE h
    refine l_enter S (fun _ => run_call (vs := [iV (points_baseOf Ae Bk), iV Bj]) ⟨(S.tm rfl), (S.tm rfl), trivial⟩ Tryz.call64) (points_byTime_ok _ (points_baseOf Ae Bk) Bj _ hr2) rfl ?_;clear S;intro v4 a w4 hv4 hk4 hn4 S
    subst hv4
    refine lv S (Ra (S.tm rfl)) rfl ?_;clear S;intro a S
    refine lv S (Ra rfl) rfl ?_;clear S;intro a S
    refine Ld (Tn (wp_ret ?_))
    obtain rfl := Option.some.inj h
    exact f_ret2 S Tryz.results41 rfl rfl rfl
theorem tumblaw2_pointed_ok (w : World) (r : Bool) (h : tumblaw2_pointed = some r) :
    Calls Tryz.prog 16 [].toArray w (Ret w [] fun _ v _ => v = bV r) := by
 refine f_enter [] [] Tryz.func16 rfl Tryz.ntmps16 rfl (by simp) (by simp [fps]) (by simp [fps]) fun a S => ?_
 unfold tumblaw2_pointed at h
 replace S := S.nk [] [] [] rfl trivial
 refine Fs (Fg (lv S (Ra rfl) rfl ?_));clear S;intro a S
 refine Ld (Tn (Fs (Fg (lv S (rn_bld bt_77 (pv := [(0, sV k_r), (1, iV 3000)]) ⟨rfl, rfl, rfl, rfl, trivial⟩ (cs := [sV k_r, iV 3000]) (by kernel_rfl)) rfl ?_))));clear S;intro a S
 refine l_buildSlice S Tryz.underlying78 Tryz.sizeOf77 Tryz.zeroValue77 rfl rfl (pv := [(0, .agg #[sV k_r, iV 3000])]) ⟨rfl, (S.tm rfl), trivial⟩ (cs := [sV k_r, iV 3000]) (by kernel_rfl) rfl ?_;clear S;intro a w1 b1 hz1 hk1 S
 obtain ⟨r1, hr1, h⟩ := bindE h
 refine l_enter S (fun _ => run_call (vs := [.slice (some ⟨b1, 0, none⟩) 1 1, sV k_r, iV 6000]) ⟨(S.tm rfl), rfl, rfl, trivial⟩ Tryz.call41) (points_ByTime_ok _ (.slice (some ⟨b1, 0, none⟩) 1 1) [(GBase.mk k_r 3000)] (lit_slcT GBase.enc_ok S (i := 0) rfl rfl rfl rfl ((ne_nil (e' := .blk b1 [sV k_r, iV 3000] 77)) _ rfl)) k_r 6000 _ hr1) rfl ?_;clear S;intro v1 a w2 hv1 hk2 hn1 S
 subst hv1
 refine lv S (Rm (S.tm rfl)) rfl ?_;clear S;intro a S
 refine lv S (rn_extract (S.tm rfl) rfl) rfl ?_;clear S;intro a S
 refine lv S (rn_extract (S.tm rfl) rfl) rfl ?_;clear S;intro a S
 refine lv S (Ra (S.tm rfl)) rfl ?_;clear S;intro a S
 refine lv S (Ra (S.tm rfl)) rfl ?_;clear S;intro a S
 refine Ld (Tn (Fs (Fg (lv S (Rm (S.tm rfl)) rfl ?_))));clear S;intro a S
 refine lv S (rn_eql (S.tm rfl) rfl) rfl ?_;clear S;intro a S
 refine lv S (Rm (S.tm rfl)) rfl ?_;clear S;intro a S
 refine f_cutm 3 (fun a w' => Keep [] w2 w' ∧ Sx w [] nov [.blk b1 [sV k_r, iV 3000] 77] [(14, bV ((decide (r1.2 = 0)) && (decide (r1.1 = 125))))] 15 a w') ?_ ?_
 ·rcases Bool.eq_false_or_eq_true (decide (r1.2 = 0)) with hb1 | hb1
  ·refine l_want S rfl rfl rfl hb1 (lv S (Rm (S.tm rfl)) rfl ?_);clear S;intro a S
   refine l_want S rfl rfl rfl hb1 (lv S (rn_eql (S.tm rfl) rfl) rfl ?_);clear S;intro a S
   refine lv S (rn_and_t hb1 (S.tm rfl) (S.tm rfl)) rfl ?_;clear S;intro a S
   refine Ld (Tn ?_)
   exact ⟨Keep.refl _ _, S.nf [true] rfl ⟨rfl, trivial⟩⟩
  ·refine l_skip S rfl rfl rfl (neq_f hb1) rfl ?_ rfl;clear S;intro a S
   refine l_skip S rfl rfl rfl (neq_f hb1) rfl ?_ rfl;clear S;intro a S
   refine lv S (rn_and_f (decide (r1.1 = 125)) hb1 (S.tm rfl) rfl) rfl ?_;clear S;intro a S
   refine Ld (Tn ?_)
   exact ⟨Keep.refl _ _, S.nf [true] rfl ⟨rfl, trivial⟩⟩
 clear S; rintro a w3 ⟨hk3, S⟩
 refine lv S (Ra (S.tm rfl)) rfl ?_;clear S;intro a S
 refine Ld (Tn (wp_ret ?_))
 obtain rfl := Option.some.inj h
 exact f_ret S Tryz.results16 rfl rfl
theorem tumblaw2_ClubsCanWin_ok (w : World) (U : Value) (Ae : List Int) (Ag : Slc (view w []) 1 U (Ae.map eInt)) (r : Bool) (h : tumblaw2_ClubsCanWin Ae = some r) :
    Calls Tryz.prog 3 [U].toArray w (Ret w [] fun _ v _ => v = bV r) := by
 refine f_enter [] [] Tryz.func3 rfl Tryz.ntmps3 rfl (by simp) (by simp [fps]) (by simp [fps]) fun a S => ?_
 unfold tumblaw2_ClubsCanWin at h
 replace S := S.nk [] [(0, U)] [] rfl ⟨rfl, trivial⟩
 refine Fs (Fg (lv S (Ra rfl) rfl ?_));clear S;intro a S
 refine Ld (Tn (Fs (Fg (lv S (Rm (S.tm rfl)) rfl ?_))));clear S;intro a S
 refine lv S (rn_bld bt_25 (pv := [(0, U)]) ⟨rfl, (S.tm rfl), trivial⟩ (cs := [U, iV 0]) (by obtain ⟨_, _, hv⟩ := (slc_len Ag); rw [hv]; clear hv; kernel_rfl)) rfl ?_;clear S;intro a S
 refine l_box S (S.tm rfl) (cs := [U, iV 0]) rfl rfl ?_;clear S;intro a w1 b1 hz1 hk1 S
 refine lv S (Ra (S.tm rfl)) rfl ?_;clear S;intro a S
 refine Ld (Tn (Fs (Fg (lv S (Rm (S.tm rfl)) rfl ?_))));clear S;intro a S
 obtain ⟨r1, hr1, h⟩ := bindE h
 have hz2 := S.keep.size
 refine l_enter1 0 S (b := b1) rfl rfl (fun _ => .blk b1 [U, iV r1.2] 25) (fun _ => run_call (vs := [.pointer (some ⟨b1, 0, none⟩)]) ⟨(S.tm rfl), trivial⟩ Tryz.call4) (Stream_Table_ok _ b1 U Ae (Ag.mono (S.le_arg (fp_sub (i := 0) (e := .blk b1 [U, iV 0] 25) rfl))) 0 (S.holds _ (List.mem_of_getElem? (i := 0) rfl)) _ hr1) rfl (fun _ _ _ h => ⟨h.1, fun _ hc => by cases hc; rfl⟩) ?_;clear S;intro v1 a w2 hv1 hk2 hn1 S
 replace hv1 := hv1.2
 obtain ⟨q1, rfl, hq1⟩ := hv1
 obtain ⟨φ1, hl1, hm1, S⟩ := S.see' hn1 hz2
 obtain ⟨u2, rfl, hs1⟩ := rel_27_mono hm1 _ _ hq1
 refine lv S (Rm (S.tm rfl)) rfl ?_;clear S;intro a S
 obtain ⟨r2, hr2, h⟩ := bindE h
 have hz3 := S.keep.size
 refine l_enter1 0 S (b := b1) rfl rfl (fun _ => .blk b1 [U, iV r2.2] 25) (fun _ => run_call (vs := [.pointer (some ⟨b1, 0, none⟩)]) ⟨(S.tm rfl), trivial⟩ Tryz.call5) (Stream_Scored_ok _ b1 U Ae (Ag.mono (S.le_arg (fp_sub (i := 0) (e := .blk b1 [U, iV r1.2] 25) rfl))) r1.2 (S.holds _ (List.mem_of_getElem? (i := 0) rfl)) _ hr2) rfl (fun _ _ _ h => ⟨h.1, fun _ hc => by cases hc; rfl⟩) ?_;clear S;intro v2 a w3 hv2 hk3 hn2 S
 replace hv2 := hv2.2
 obtain ⟨φ2, hl2, hm2, S⟩ := S.see' hn2 hz3
 have hs2 := hv2.mono hm2
 refine lv S (Rm (S.tm rfl)) rfl ?_;clear S;intro a S
 refine l_buildSlice S Tryz.underlying22 Tryz.sizeOf3 Tryz.zeroValue3 rfl rfl (pv := [(0, iV 0), (1, iV 1), (2, iV 2), (3, iV (-1))]) ⟨rfl, rfl, rfl, rfl, rfl, rfl, rfl, rfl, trivial⟩ (cs := [iV 0, iV 1, iV 2, iV (-1)]) (by kernel_rfl) rfl ?_;clear S;intro a w4 b2 hz4 hk4 S
 obtain ⟨r3, hr3, h⟩ := bindE h
 refine l_enter1 1 S (b := b1) rfl rfl (fun _ => .blk b1 [U, iV r3.2] 25) (fun _ => run_call (vs := [.pointer (some ⟨b1, 0, none⟩), .slice (some ⟨b2, 0, none⟩) 4 4]) ⟨(S.tm rfl), (S.tm rfl), trivial⟩ Tryz.call6) (Stream_Pick_ok _ b1 U Ae (Ag.mono (S.le_arg (fp_sub (i := 1) (e := .blk b1 [U, iV r2.2] 25) rfl))) r2.2 (S.holds _ (List.mem_of_getElem? (i := 1) rfl)) (.slice (some ⟨b2, 0, none⟩) 4 4) [0, 1, 2, (-1)] (lit_slcT enc_int S (i := 0) rfl rfl rfl rfl ((ne_fp (i := 1) (j := 0) (e := .blk b1 [U, iV r2.2] 25) (e' := .blk b2 [iV 0, iV 1, iV 2, iV (-1)] 3) S rfl rfl rfl) _ rfl)) _ hr3) rfl (fun _ _ _ h => ⟨h.1, fun _ hc => by cases hc; rfl⟩) ?_;clear S;intro v3 a w5 hv3 hk5 hn3 S
 replace hv3 := hv3.2
 subst hv3
 refine lv S (Rm (S.tm rfl)) rfl ?_;clear S;intro a S
 refine l_buildSlice S Tryz.underlying22 Tryz.sizeOf3 Tryz.zeroValue3 rfl rfl (pv := [(0, iV 0), (1, iV 1), (2, iV 2), (3, iV 9), (4, iV 11)]) ⟨rfl, rfl, rfl, rfl, rfl, rfl, rfl, rfl, rfl, rfl, trivial⟩ (cs := [iV 0, iV 1, iV 2, iV 9, iV 11]) (by kernel_rfl) rfl ?_;clear S;intro a w6 b3 hz5 hk6 S
 obtain ⟨r4, hr4, h⟩ := bindE h
 refine l_enter1 2 S (b := b1) rfl rfl (fun _ => .blk b1 [U, iV r4.2] 25) (fun _ => run_call (vs := [.pointer (some ⟨b1, 0, none⟩), .slice (some ⟨b3, 0, none⟩) 5 5]) ⟨(S.tm rfl), (S.tm rfl), trivial⟩ Tryz.call6) (Stream_Pick_ok _ b1 U Ae (Ag.mono (S.le_arg (fp_sub (i := 2) (e := .blk b1 [U, iV r3.2] 25) rfl))) r3.2 (S.holds _ (List.mem_of_getElem? (i := 2) rfl)) (.slice (some ⟨b3, 0, none⟩) 5 5) [0, 1, 2, 9, 11] (lit_slcT enc_int S (i := 0) rfl rfl rfl rfl ((ne_fp (i := 2) (j := 0) (e := .blk b1 [U, iV r3.2] 25) (e' := .blk b3 [iV 0, iV 1, iV 2, iV 9, iV 11] 3) S rfl rfl rfl) _ rfl)) _ hr4) rfl (fun _ _ _ h => ⟨h.1, fun _ hc => by cases hc; rfl⟩) ?_;clear S;intro v4 a w7 hv4 hk7 hn4 S
 replace hv4 := hv4.2
 subst hv4
 refine lv S (Rm (S.tm rfl)) rfl ?_;clear S;intro a S
 refine l_buildSlice S Tryz.underlying22 Tryz.sizeOf3 Tryz.zeroValue3 rfl rfl (pv := [(0, iV 0), (1, iV 1), (2, iV 2), (3, iV 101)]) ⟨rfl, rfl, rfl, rfl, rfl, rfl, rfl, rfl, trivial⟩ (cs := [iV 0, iV 1, iV 2, iV 101]) (by kernel_rfl) rfl ?_;clear S;intro a w8 b4 hz6 hk8 S
 obtain ⟨r5, hr5, h⟩ := bindE h
 refine l_enter1 3 S (b := b1) rfl rfl (fun _ => .blk b1 [U, iV r5.2] 25) (fun _ => run_call (vs := [.pointer (some ⟨b1, 0, none⟩), .slice (some ⟨b4, 0, none⟩) 4 4]) ⟨(S.tm rfl), (S.tm rfl), trivial⟩ Tryz.call6) (Stream_Pick_ok _ b1 U Ae (Ag.mono (S.le_arg (fp_sub (i := 3) (e := .blk b1 [U, iV r4.2] 25) rfl))) r4.2 (S.holds _ (List.mem_of_getElem? (i := 3) rfl)) (.slice (some ⟨b4, 0, none⟩) 4 4) [0, 1, 2, 101] (lit_slcT enc_int S (i := 0) rfl rfl rfl rfl ((ne_fp (i := 3) (j := 0) (e := .blk b1 [U, iV r4.2] 25) (e' := .blk b4 [iV 0, iV 1, iV 2, iV 101] 3) S rfl rfl rfl) _ rfl)) _ hr5) rfl (fun _ _ _ h => ⟨h.1, fun _ hc => by cases hc; rfl⟩) ?_;clear S;intro v5 a w9 hv5 hk9 hn5 S
 replace hv5 := hv5.2
 subst hv5
 refine l_alloc S Tryz.zeroValue27 (cs := [.slice none 0 0, iV 0, iV 0]) rfl rfl ?_;clear S;intro a w10 b5 hz7 hk10 S
 refine l_store S (S.tm rfl) (S.tm rfl) (i := 0) (off := 0) rfl Tryz.sizeOf27 (vs := [u2.val, iV r1.1.Relay, iV r1.1.Most]) rfl rfl rfl (all1 (SlcLen.one (slc_len hs1)) (all1 rfl (all1 rfl rfl))) ?_;clear S;intro w11 hk11 S
 iterate 4 (refine lv S (Ra (S.tm rfl)) rfl ?_;clear S;intro a S)
 refine Ld ?_
 replace S := S.nk [.blk b5 [u2.val, iV r1.1.Relay, iV r1.1.Most] 27] [(4, .pointer (some ⟨b5, 0, none⟩)), (5, v2), (6, iV r3.1), (7, iV r4.1), (8, iV r5.1)] [true, false, false, false, false] rfl (subR rfl)
 refine Tn (Fs (Fg (lv S (rn_ldA Tryz.isAgg27 Tryz.sizeOf27 (off := 0) (o := 0) (part := [u2.val, iV r1.1.Relay, iV r1.1.Most]) rfl rfl (S.tm rfl) (S.cellsAt (i := 0) rfl)) rfl ?_)));clear S;intro a S
 iterate 3 (refine lv S (Rm (S.tm rfl)) rfl ?_;clear S;intro a S)
 obtain ⟨r6, hr6, h⟩ := bindE h
 refine l_enter S (fun _ => run_call (vs := [.agg (R27.enc (R27.mk u2 r1.1.Relay r1.1.Most)).toArray, iV r3.1, iV r4.1, iV r5.1]) ⟨(S.tm rfl), (S.tm rfl), (S.tm rfl), (S.tm rfl), trivial⟩ Tryz.call7) (points_Left_ok _ r1.1 (R27.mk u2 r1.1.Relay r1.1.Most) ⟨u2, rfl, (hs1.mono (View.le_trans hl2 (S.le_new nil_sub)))⟩ r3.1 r4.1 r5.1 _ hr6) rfl ?_;clear S;intro v6 a w12 hv6 hk12 hn6 S
 subst hv6
 refine lv S (Rm (S.tm rfl)) rfl ?_;clear S;intro a S
 refine lv S (rn_extract (S.tm rfl) rfl) rfl ?_;clear S;intro a S
 refine lv S (rn_extract (S.tm rfl) rfl) rfl ?_;clear S;intro a S
 refine lv S (Ra (S.tm rfl)) rfl ?_;clear S;intro a S
 refine lv S (Ra (S.tm rfl)) rfl ?_;clear S;intro a S
 refine Ld ?_
 replace S := S.nk [.blk b5 [u2.val, iV r1.1.Relay, iV r1.1.Most] 27] [(4, .pointer (some ⟨b5, 0, none⟩)), (5, v2), (6, iV r3.1), (7, iV r4.1), (8, iV r5.1), (9, iV r6.1), (10, iV r6.2)] [true] rfl (subR rfl)
 refine Tn (Fs (Fg (lv S (rn_ldA Tryz.isAgg27 Tryz.sizeOf27 (off := 0) (o := 0) (part := [u2.val, iV r1.1.Relay, iV r1.1.Most]) rfl rfl (S.tm rfl) (S.cellsAt (i := 0) rfl)) rfl ?_)));clear S;intro a S
 iterate 4 (refine lv S (Rm (S.tm rfl)) rfl ?_;clear S;intro a S)
 obtain ⟨r7, hr7, h⟩ := bindE h
 have hz8 := S.keep.size
 refine l_enter S (fun _ => run_call (vs := [.agg (R27.enc (R27.mk u2 r1.1.Relay r1.1.Most)).toArray, v2, iV r3.1, iV r4.1, iV r5.1]) ⟨(S.tm rfl), (S.tm rfl), (S.tm rfl), (S.tm rfl), (S.tm rfl), trivial⟩ Tryz.call8) (points_CanWin_ok _ r1.1 (R27.mk u2 r1.1.Relay r1.1.Most) ⟨u2, rfl, (hs1.mono (View.le_trans hl2 (S.le_new nil_sub)))⟩ v2 r2.1 ((ownV_slcT GScored.enc_ok hs2).mono (S.le_new nil_sub)) r3.1 r4.1 r5.1 _ hr7) rfl ?_;clear S;intro v7 a w13 hv7 hk13 hn7 S
 obtain ⟨u4, rfl, ho3⟩ := hv7
 obtain ⟨φ3, hl3, hm3, S⟩ := S.see' hn7 hz8
 have hs3 := ho3.mono hm3
 refine lv S (Rm (S.tm rfl)) rfl ?_;clear S;intro a S
 refine lv S (rn_extract (S.tm rfl) rfl) rfl ?_;clear S;intro a S
 refine lv S (rn_extract (S.tm rfl) rfl) rfl ?_;clear S;intro a S
 refine lv S (Ra (S.tm rfl)) rfl ?_;clear S;intro a S
 refine lv S (Ra (S.tm rfl)) rfl ?_;clear S;intro a S
 refine Ld ?_
 replace S := S.nk [.blk b5 [u2.val, iV r1.1.Relay, iV r1.1.Most] 27] [(4, .pointer (some ⟨b5, 0, none⟩)), (5, v2), (6, iV r3.1), (7, iV r4.1), (8, iV r5.1), (9, iV r6.1), (10, iV r6.2), (11, u4), (12, iV r7.2)] [true] rfl (subR rfl)
 refine Tn (Fs (Fg (lv S (rn_ldA Tryz.isAgg27 Tryz.sizeOf27 (off := 0) (o := 0) (part := [u2.val, iV r1.1.Relay, iV r1.1.Most]) rfl rfl (S.tm rfl) (S.cellsAt (i := 0) rfl)) rfl ?_)));clear S;intro a S
 obtain ⟨r8, hr8, h⟩ := bindE h
 refine l_enter S (fun _ => run_call (vs := [.agg (R27.enc (R27.mk u2 r1.1.Relay r1.1.Most)).toArray]) ⟨(S.tm rfl), trivial⟩ Tryz.call10) (tumbref2_TableFault_ok _ r1.1 (R27.mk u2 r1.1.Relay r1.1.Most) ⟨u2, rfl, (hs1.mono (View.le_trans (View.le_trans hl2 hl3) (S.le_new nil_sub)))⟩ _ hr8) rfl ?_;clear S;intro v8 a w14 hv8 hk14 hn8 S
 subst hv8
 iterate 3 (refine lv S (Rm (S.tm rfl)) rfl ?_;clear S;intro a S)
 refine l_enter S (fun _ => run_call (vs := [iV r3.1, iV r4.1, iV r5.1]) ⟨(S.tm rfl), (S.tm rfl), (S.tm rfl), trivial⟩ Tryz.call11) (tumbref2_LeftFault_ok _ r3.1 r4.1 r5.1 _ rfl) rfl ?_;clear S;intro v9 a w15 hv9 hk15 hn9 S
 subst hv9
 refine l_buildSlice S Tryz.underlying68 Tryz.sizeOf32 Tryz.zeroValue32 rfl rfl (pv := [(0, iV r8), (1, iV (tumbref2_LeftFault r3.1 r4.1 r5.1))]) ⟨rfl, (S.tm rfl), rfl, (S.tm rfl), trivial⟩ (cs := [iV r8, iV (tumbref2_LeftFault r3.1 r4.1 r5.1)]) (by kernel_rfl) rfl ?_;clear S;intro a w16 b6 hz9 hk16 S
 refine l_enter S (fun _ => run_call (vs := [.slice (some ⟨b6, 0, none⟩) 2 2]) ⟨(S.tm rfl), trivial⟩ Tryz.call9) (tumblaw2_errs_ok _ (.slice (some ⟨b6, 0, none⟩) 2 2) [r8, (tumbref2_LeftFault r3.1 r4.1 r5.1)] (lit_slcT enc_int S (i := 0) rfl rfl rfl rfl ((ne_nil (e' := .blk b6 [iV r8, iV (tumbref2_LeftFault r3.1 r4.1 r5.1)] 32)) _ rfl)) _ rfl) rfl ?_;clear S;intro v10 a w17 hv10 hk17 hn10 S
 subst hv10
 refine lv S (Ra (S.tm rfl)) rfl ?_;clear S;intro a S
 refine Ld ?_
 replace S := S.nk [.blk b5 [u2.val, iV r1.1.Relay, iV r1.1.Most] 27] [(4, .pointer (some ⟨b5, 0, none⟩)), (5, v2), (6, iV r3.1), (7, iV r4.1), (8, iV r5.1), (9, iV r6.1), (10, iV r6.2), (11, u4), (12, iV r7.2), (13, iV (tumblaw2_errs [r8, (tumbref2_LeftFault r3.1 r4.1 r5.1)]))] [false, true] rfl (subR rfl)
 refine Tn (Fs (Fg (lv S (rn_ldA Tryz.isAgg27 Tryz.sizeOf27 (off := 0) (o := 0) (part := [u2.val, iV r1.1.Relay, iV r1.1.Most]) rfl rfl (S.tm rfl) (S.cellsAt (i := 0) rfl)) rfl ?_)));clear S;intro a S
 obtain ⟨r9, hr9, h⟩ := bindE h
 refine l_enter S (fun _ => run_call (vs := [.agg (R27.enc (R27.mk u2 r1.1.Relay r1.1.Most)).toArray]) ⟨(S.tm rfl), trivial⟩ Tryz.call10) (tumbref2_TableFault_ok _ r1.1 (R27.mk u2 r1.1.Relay r1.1.Most) ⟨u2, rfl, (hs1.mono (View.le_trans (View.le_trans hl2 hl3) (S.le_new nil_sub)))⟩ _ hr9) rfl ?_;clear S;intro v11 a w18 hv11 hk18 hn11 S
 subst hv11
 refine lv S (Rm (S.tm rfl)) rfl ?_;clear S;intro a S
 obtain ⟨r10, hr10, h⟩ := bindE h
 refine l_enter S (fun _ => run_call (vs := [v2]) ⟨(S.tm rfl), trivial⟩ Tryz.call12) (tumbref2_ScoredFault_ok _ v2 r2.1 ((ownV_slcT GScored.enc_ok hs2).mono (View.le_trans hl3 (S.le_new nil_sub))) _ hr10) rfl ?_;clear S;intro v12 a w19 hv12 hk19 hn12 S
 subst hv12
 iterate 3 (refine lv S (Rm (S.tm rfl)) rfl ?_;clear S;intro a S)
 refine l_enter S (fun _ => run_call (vs := [iV r3.1, iV r4.1, iV r5.1]) ⟨(S.tm rfl), (S.tm rfl), (S.tm rfl), trivial⟩ Tryz.call11) (tumbref2_LeftFault_ok _ r3.1 r4.1 r5.1 _ rfl) rfl ?_;clear S;intro v13 a w20 hv13 hk20 hn13 S
 subst hv13
 refine l_buildSlice S Tryz.underlying68 Tryz.sizeOf32 Tryz.zeroValue32 rfl rfl (pv := [(0, iV r9), (1, iV r10), (2, iV (tumbref2_LeftFault r3.1 r4.1 r5.1))]) ⟨rfl, (S.tm rfl), rfl, (S.tm rfl), rfl, (S.tm rfl), trivial⟩ (cs := [iV r9, iV r10, iV (tumbref2_LeftFault r3.1 r4.1 r5.1)]) (by kernel_rfl) rfl ?_;clear S;intro a w21 b7 hz10 hk21 S
 refine l_enter S (fun _ => run_call (vs := [.slice (some ⟨b7, 0, none⟩) 3 3]) ⟨(S.tm rfl), trivial⟩ Tryz.call9) (tumblaw2_errs_ok _ (.slice (some ⟨b7, 0, none⟩) 3 3) [r9, r10, (tumbref2_LeftFault r3.1 r4.1 r5.1)] (lit_slcT enc_int S (i := 0) rfl rfl rfl rfl ((ne_nil (e' := .blk b7 [iV r9, iV r10, iV (tumbref2_LeftFault r3.1 r4.1 r5.1)] 32)) _ rfl)) _ rfl) rfl ?_;clear S;intro v14 a w22 hv14 hk22 hn14 S
 subst hv14
 refine lv S (Ra (S.tm rfl)) rfl ?_;clear S;intro a S
 refine Ld ?_
 replace S := S.nk [.blk b5 [u2.val, iV r1.1.Relay, iV r1.1.Most] 27] [(4, .pointer (some ⟨b5, 0, none⟩)), (5, v2), (6, iV r3.1), (7, iV r4.1), (8, iV r5.1), (9, iV r6.1), (10, iV r6.2), (11, u4), (12, iV r7.2), (13, iV (tumblaw2_errs [r8, (tumbref2_LeftFault r3.1 r4.1 r5.1)])), (14, iV (tumblaw2_errs [r9, r10, (tumbref2_LeftFault r3.1 r4.1 r5.1)]))] [false, true] rfl (subR rfl)
 refine Tn (Fs (Fg (lv S (Ra rfl) rfl ?_)));clear S;intro a S
 refine Ld (Tn (Fs (Fs (Fg (lv S (Rm (S.tm rfl)) rfl ?_)))));clear S;intro a S
 refine lv S (rn_eql (S.tm rfl) rfl) rfl ?_;clear S;intro a S
 refine Ld (Tn ?_)
 obtain ⟨j1, hj1, h⟩ := joinE h
 refine f_join (fun a w' => ∃ x1 : Int, j1 x1 = some r ∧ Sx w [] φ3 [.blk b5 [u2.val, iV r1.1.Relay, iV r1.1.Most] 27] [(4, .pointer (some ⟨b5, 0, none⟩)), (5, v2), (6, iV r3.1), (7, iV r4.1), (8, iV r5.1), (9, iV r6.1), (10, iV r6.2), (11, u4), (12, iV r7.2), (13, iV (tumblaw2_errs [r8, (tumbref2_LeftFault r3.1 r4.1 r5.1)])), (14, iV (tumblaw2_errs [r9, r10, (tumbref2_LeftFault r3.1 r4.1 r5.1)])), (15, iV x1)] 104 a w') ?_ ?_
 ·refine f_cond (S.tm rfl) (fun hb1 => ?_) (fun hb1 => ?_)
  ·replace h := iteT h hb1
   refine Fg (lv S (rn_ldA Tryz.isAgg27 Tryz.sizeOf27 (off := 0) (o := 0) (part := [u2.val, iV r1.1.Relay, iV r1.1.Most]) rfl rfl (S.tm rfl) (S.cellsAt (i := 0) rfl)) rfl ?_);clear S;intro a S
   iterate 3 (refine lv S (Rm (S.tm rfl)) rfl ?_;clear S;intro a S)
   refine l_enter S (fun _ => run_call (vs := [.agg (R27.enc (R27.mk u2 r1.1.Relay r1.1.Most)).toArray, iV r3.1, iV r4.1, iV r5.1]) ⟨(S.tm rfl), (S.tm rfl), (S.tm rfl), (S.tm rfl), trivial⟩ Tryz.call13) (tumbref2_LeftOf_ok _ r1.1 (R27.mk u2 r1.1.Relay r1.1.Most) ⟨u2, rfl, (hs1.mono (View.le_trans (View.le_trans hl2 hl3) (S.le_new nil_sub)))⟩ r3.1 r4.1 r5.1 _ rfl) rfl ?_;clear S;intro v15 a w24 hv15 hk23 hn15 S
   subst hv15
   refine lv S (Ra (S.tm rfl)) rfl ?_;clear S;intro a S
   refine Ld ?_
   replace S := S.nk [.blk b5 [u2.val, iV r1.1.Relay, iV r1.1.Most] 27] [(4, .pointer (some ⟨b5, 0, none⟩)), (5, v2), (6, iV r3.1), (7, iV r4.1), (8, iV r5.1), (9, iV r6.1), (10, iV r6.2), (11, u4), (12, iV r7.2), (13, iV (tumblaw2_errs [r8, (tumbref2_LeftFault r3.1 r4.1 r5.1)])), (14, iV (tumblaw2_errs [r9, r10, (tumbref2_LeftFault r3.1 r4.1 r5.1)])), (15, iV (tumbref2_LeftOf r1.1 r3.1 r4.1 r5.1))] [true] rfl (subR rfl)
   refine Tn ?_
   exact ⟨(tumbref2_LeftOf r1.1 r3.1 r4.1 r5.1), h, S.nf [true] rfl (subR rfl)⟩
  ·replace h := iteF h hb1
   refine wp_skip (Tn ?_)
   exact ⟨0, h, S.nf [true] rfl (subR rfl)⟩
 clear S h; rintro a w23 ⟨x1, h, S⟩; rw [hj1] at h; clear hj1 j1
 refine Tn (Fs (Fg (lv S (Ra rfl) rfl ?_)));clear S;intro a S
 refine Ld (Tn (Fs (Fs (Fg (lv S (Rm (S.tm rfl)) rfl ?_)))));clear S;intro a S
 refine lv S (rn_eql (S.tm rfl) rfl) rfl ?_;clear S;intro a S
 refine Ld ?_
 replace S := S.nk [.blk b5 [u2.val, iV r1.1.Relay, iV r1.1.Most] 27] [(4, .pointer (some ⟨b5, 0, none⟩)), (5, v2), (6, iV r3.1), (7, iV r4.1), (8, iV r5.1), (9, iV r6.1), (10, iV r6.2), (11, u4), (12, iV r7.2), (13, iV (tumblaw2_errs [r8, (tumbref2_LeftFault r3.1 r4.1 r5.1)])), (14, iV (tumblaw2_errs [r9, r10, (tumbref2_LeftFault r3.1 r4.1 r5.1)])), (15, iV x1), (16, .slice none 0 0), (76, bV (decide ((tumblaw2_errs [r9, r10, (tumbref2_LeftFault r3.1 r4.1 r5.1)]) = 0)))] [true] rfl (subR rfl)
 refine Tn ?_
 obtain ⟨j2, hj2, h⟩ := joinE h
 refine f_join (fun a w' => ∃ x2 : List ByteArray, ∃ φ4 : View, ∃ v16 : Value, j2 x2 = some r ∧ View.le φ3 φ4 ∧ OwnV φ4 9 1 v16 x2.length (x2.flatMap eStr) ∧ Sx w [] φ4 [] [(9, iV r6.1), (10, iV r6.2), (11, u4), (12, iV r7.2), (13, iV (tumblaw2_errs [r8, (tumbref2_LeftFault r3.1 r4.1 r5.1)])), (14, iV (tumblaw2_errs [r9, r10, (tumbref2_LeftFault r3.1 r4.1 r5.1)])), (15, iV x1), (16, v16)] 104 a w') ?_ ?_
 ·refine f_cond (S.tm rfl) (fun hb2 => ?_) (fun hb2 => ?_)
  ·replace h := iteT h hb2
   refine Fg (lv S (rn_ldA Tryz.isAgg27 Tryz.sizeOf27 (off := 0) (o := 0) (part := [u2.val, iV r1.1.Relay, iV r1.1.Most]) rfl rfl (S.tm rfl) (S.cellsAt (i := 0) rfl)) rfl ?_);clear S;intro a S
   iterate 4 (refine lv S (Rm (S.tm rfl)) rfl ?_;clear S;intro a S)
   obtain ⟨r11, hr11, h⟩ := bindE h
   have hz11 := S.keep.size
   refine l_enter S (fun _ => run_call (vs := [.agg (R27.enc (R27.mk u2 r1.1.Relay r1.1.Most)).toArray, v2, iV r3.1, iV r4.1, iV r5.1]) ⟨(S.tm rfl), (S.tm rfl), (S.tm rfl), (S.tm rfl), (S.tm rfl), trivial⟩ Tryz.call14) (tumbref2_WinnersOf_ok _ r1.1 (R27.mk u2 r1.1.Relay r1.1.Most) ⟨u2, rfl, (hs1.mono (View.le_trans (View.le_trans hl2 hl3) (S.le_new nil_sub)))⟩ v2 r2.1 ((ownV_slcT GScored.enc_ok hs2).mono (View.le_trans hl3 (S.le_new nil_sub))) r3.1 r4.1 r5.1 _ hr11) rfl ?_;clear S;intro v17 a w26 hv16 hk24 hn16 S
   obtain ⟨φ5, hl5, hm4, S⟩ := S.see' hn16 hz11
   have hs5 := hv16.mono hm4
   refine lv S (Ra (S.tm rfl)) rfl ?_;clear S;intro a S
   refine Ld ?_
   replace S := S.nk [] [(9, iV r6.1), (10, iV r6.2), (11, u4), (12, iV r7.2), (13, iV (tumblaw2_errs [r8, (tumbref2_LeftFault r3.1 r4.1 r5.1)])), (14, iV (tumblaw2_errs [r9, r10, (tumbref2_LeftFault r3.1 r4.1 r5.1)])), (15, iV x1), (16, v17)] [false] rfl (subR rfl)
   refine Tn ?_
   exact ⟨r11, φ5, v17, h, hl5, hs5, S.nf [] rfl (subR rfl)⟩
  ·replace h := iteF h hb2
   refine wp_skip (Tn ?_)
   exact ⟨([] : List ByteArray), φ3, .slice none 0 0, h, (View.le_refl _), (ownV_nil _ _ _), S.nf [false] rfl (subR rfl)⟩
 clear S h; rintro a w25 ⟨x2, φ4, v16, h, hl4, hs4, S⟩; rw [hj2] at h; clear hj2 j2
 refine Tn (Fs (Fg (lv S (Rm (S.tm rfl)) rfl ?_)));clear S;intro a S
 refine lv S (Rm (S.tm rfl)) rfl ?_;clear S;intro a S
 refine lv S (rn_eql (S.tm rfl) (S.tm rfl)) rfl ?_;clear S;intro a S
 refine lv S (Rm (S.tm rfl)) rfl ?_;clear S;intro a S
 refine f_cutm 4 (fun a w' => Keep [] w25 w' ∧ Sx w [] φ4 [] [(11, u4), (12, iV r7.2), (14, iV (tumblaw2_errs [r9, r10, (tumbref2_LeftFault r3.1 r4.1 r5.1)])), (16, v16), (90, bV ((decide (r6.2 = (tumblaw2_errs [r8, (tumbref2_LeftFault r3.1 r4.1 r5.1)]))) && (decide (r6.1 = x1))))] 104 a w') ?_ ?_
 ·rcases Bool.eq_false_or_eq_true (decide (r6.2 = (tumblaw2_errs [r8, (tumbref2_LeftFault r3.1 r4.1 r5.1)]))) with hb3 | hb3
  ·refine l_want S rfl rfl rfl hb3 (lv S (Rm (S.tm rfl)) rfl ?_);clear S;intro a S
   refine l_want S rfl rfl rfl hb3 (lv S (Rm (S.tm rfl)) rfl ?_);clear S;intro a S
   refine l_want S rfl rfl rfl hb3 (lv S (rn_eql (S.tm rfl) (S.tm rfl)) rfl ?_);clear S;intro a S
   refine lv S (rn_and_t hb3 (S.tm rfl) (S.tm rfl)) rfl ?_;clear S;intro a S
   refine Ld (Tn ?_)
   exact ⟨Keep.refl _ _, S.nf [] rfl (subR rfl)⟩
  ·iterate 3 (refine l_skip S rfl rfl rfl (neq_f hb3) rfl ?_ rfl;clear S;intro a S)
   refine lv S (rn_and_f (decide (r6.1 = x1)) hb3 (S.tm rfl) rfl) rfl ?_;clear S;intro a S
   refine Ld (Tn ?_)
   exact ⟨Keep.refl _ _, S.nf [] rfl (subR rfl)⟩
 clear S; rintro a w27 ⟨hk25, S⟩
 refine lv S (Rm (S.tm rfl)) rfl ?_;clear S;intro a S
 refine f_cutm 4 (fun a w' => Keep [] w27 w' ∧ Sx w [] φ4 [] [(11, u4), (16, v16), (95, bV (((decide (r6.2 = (tumblaw2_errs [r8, (tumbref2_LeftFault r3.1 r4.1 r5.1)]))) && (decide (r6.1 = x1))) && (decide (r7.2 = (tumblaw2_errs [r9, r10, (tumbref2_LeftFault r3.1 r4.1 r5.1)])))))] 104 a w') ?_ ?_
 ·rcases Bool.eq_false_or_eq_true ((decide (r6.2 = (tumblaw2_errs [r8, (tumbref2_LeftFault r3.1 r4.1 r5.1)]))) && (decide (r6.1 = x1))) with hb4 | hb4
  ·refine l_want S rfl rfl rfl hb4 (lv S (Rm (S.tm rfl)) rfl ?_);clear S;intro a S
   refine l_want S rfl rfl rfl hb4 (lv S (Rm (S.tm rfl)) rfl ?_);clear S;intro a S
   refine l_want S rfl rfl rfl hb4 (lv S (rn_eql (S.tm rfl) (S.tm rfl)) rfl ?_);clear S;intro a S
   refine lv S (rn_and_t hb4 (S.tm rfl) (S.tm rfl)) rfl ?_;clear S;intro a S
   refine Ld (Tn ?_)
   exact ⟨Keep.refl _ _, S.nf [] rfl (subR rfl)⟩
  ·iterate 3 (refine l_skip S rfl rfl rfl (neq_f hb4) rfl ?_ rfl;clear S;intro a S)
   refine lv S (rn_and_f (decide (r7.2 = (tumblaw2_errs [r9, r10, (tumbref2_LeftFault r3.1 r4.1 r5.1)]))) hb4 (S.tm rfl) rfl) rfl ?_;clear S;intro a S
   refine Ld (Tn ?_)
   exact ⟨Keep.refl _ _, S.nf [] rfl (subR rfl)⟩
 clear S; rintro a w28 ⟨hk26, S⟩
 refine lv S (Rm (S.tm rfl)) rfl ?_;clear S;intro a S
 obtain ⟨j3, hj3, h⟩ := joinE h
 refine f_cutm 4 (fun a w' => ∃ c1, j3 c1 = some r ∧ Keep [] w28 w' ∧ Sx w [] φ4 [] [(100, bV c1)] 104 a w') ?_ ?_
 ·rcases Bool.eq_false_or_eq_true (((decide (r6.2 = (tumblaw2_errs [r8, (tumbref2_LeftFault r3.1 r4.1 r5.1)]))) && (decide (r6.1 = x1))) && (decide (r7.2 = (tumblaw2_errs [r9, r10, (tumbref2_LeftFault r3.1 r4.1 r5.1)])))) with hb5 | hb5
  ·replace h := iteT h hb5
   refine l_want S rfl rfl rfl hb5 (lv S (Rm (S.tm rfl)) rfl ?_);clear S;intro a S
   refine l_want S rfl rfl rfl hb5 (lv S (Rm (S.tm rfl)) rfl ?_);clear S;intro a S
   refine l_want S rfl rfl rfl hb5 ?_
   obtain ⟨r12, hr12, h⟩ := bindE h
   refine l_enter S (fun _ => run_call (vs := [u4, v16]) ⟨(S.tm rfl), (S.tm rfl), trivial⟩ Tryz.call15) (slices_Equal_string_ok _ u4 r7.1 ((ownV_slcT enc_str hs3).mono (View.le_trans hl4 (S.le_new nil_sub))) v16 x2 ((ownV_slcT enc_str hs4).mono (S.le_new nil_sub)) _ hr12) rfl ?_;clear S;intro v18 a w30 hv17 hk27 hn17 S
   subst hv17
   refine lv S (rn_and_t hb5 (S.tm rfl) (S.tm rfl)) rfl ?_;clear S;intro a S
   refine Ld (Tn ?_)
   exact ⟨_, h, hk27, S.nf [] rfl ⟨rfl, trivial⟩⟩
  ·replace h := iteF h hb5
   iterate 3 (refine l_skip S rfl rfl rfl (neq_f hb5) rfl ?_ rfl;clear S;intro a S)
   refine lv S (rn_and_f true hb5 (S.tm rfl) rfl) rfl ?_;clear S;intro a S
   refine Ld (Tn ?_)
   exact ⟨_, h, Keep.refl _ _, S.nf [] rfl ⟨rfl, trivial⟩⟩
 clear S h; rintro a w29 ⟨c1, h, hk28, S⟩; rw [hj3] at h; clear hj3 j3
 refine lv S (Rm (S.tm rfl)) rfl ?_;clear S;intro a S
 obtain ⟨j4, hj4, h⟩ := joinE h
 refine f_cutm 2 (fun a w' => ∃ c2, j4 c2 = some r ∧ Keep [] w29 w' ∧ Sx w [] φ4 [] [(103, bV c2)] 104 a w') ?_ ?_
 ·rcases Bool.eq_false_or_eq_true c1 with hb6 | hb6
  ·replace h := iteT h hb6
   refine l_want S rfl rfl rfl hb6 ?_
   obtain ⟨r13, hr13, h⟩ := bindE h
   refine l_enter S (fun _ => run_call (vs := []) trivial Tryz.call16) (tumblaw2_pointed_ok _ _ hr13) rfl ?_;clear S;intro v19 a w32 hv18 hk29 hn18 S
   subst hv18
   refine lv S (rn_and_t hb6 (S.tm rfl) (S.tm rfl)) rfl ?_;clear S;intro a S
   refine Ld (Tn ?_)
   exact ⟨_, h, hk29, S.nf [] rfl ⟨rfl, trivial⟩⟩
  ·replace h := iteF h hb6
   refine l_skip S rfl rfl rfl (neq_f hb6) rfl ?_ rfl;clear S;intro a S
   refine lv S (rn_and_f true hb6 (S.tm rfl) rfl) rfl ?_;clear S;intro a S
   refine Ld (Tn ?_)
   exact ⟨_, h, Keep.refl _ _, S.nf [] rfl ⟨rfl, trivial⟩⟩
 clear S h; rintro a w31 ⟨c2, h, hk30, S⟩; rw [hj4] at h; clear hj4 j4
 refine lv S (Ra (S.tm rfl)) rfl ?_;clear S;intro a S
 refine Ld (Tn (wp_ret ?_))
 obtain rfl := Option.some.inj h
 exact f_ret S Tryz.results3 rfl rfl
end Go.Proofs.YtkkaficomcpalaaGreatDoor
