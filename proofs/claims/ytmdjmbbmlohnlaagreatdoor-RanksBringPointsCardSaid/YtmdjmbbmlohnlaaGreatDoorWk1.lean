/- Each Go function computes its plain twin, by program. -/
import Derived.Test.YtmdjmbbmlohnlaaGreatDoorTab
import Derived.Test.YtmdjmbbmlohnlaaGreatDoorLay
namespace Go.Proofs.YtmdjmbbmlohnlaaGreatDoor
open Go
theorem tumbmake_Below_ok (w : World) (Ag : Int) (Bb : Int) (r : Int) (h : tumbmake_Below Ag Bb = some r) :
    Calls Tryz.prog 54 [iV Ag, iV Bb].toArray w (Ret w [] fun _ v _ => v = iV r) := by
 refine f_enter [] [] Tryz.func54 rfl Tryz.ntmps54 rfl (by simp) (by simp [fps]) (by simp [fps]) fun a S => ?_
 unfold tumbmake_Below at h
 replace S := S.nk [] [(0, iV Ag), (1, iV Bb)] [] rfl (subR rfl)
 refine Fs (Fg (lv S (Ra rfl) rfl ?_));clear S;intro a S
 refine Ld (Tn (Fs (Fs (Fg (lv S (Rm (S.tm rfl)) rfl ?_)))));clear S;intro a S
 refine lv S (rn_lss (S.tm rfl) rfl) rfl ?_;clear S;intro a S
 refine Ld (Tn (f_cond (S.tm rfl) (fun hb1 => ?_) (fun hb1 => ?_)))
 ·replace h := iteT h hb1
  refine Fs (Fg (lv S (Ra rfl) rfl ?_));clear S;intro a S
  refine Ld (Tn (wp_ret (then_r ?_)))
  obtain rfl := Option.some.inj h
  exact f_ret S Tryz.results54 rfl rfl
 ·replace h := iteF h hb1
  refine wp_skip (Tn (Fs (Fg (lv S (Rm (S.tm rfl)) rfl ?_))));clear S;intro a S
  refine lv S (Rm (S.tm rfl)) rfl ?_;clear S;intro a S
  obtain ⟨hc1, h⟩ := chkE h
  refine lv S (rn_rem (S.tm rfl) (S.tm rfl) (ne0_of hc1)) rfl ?_;clear S;intro a S
  refine lv S (Ra (S.tm rfl)) rfl ?_;clear S;intro a S
  refine Ld (Tn (Fs (Fs (Fg (lv S (Rm (S.tm rfl)) rfl ?_)))));clear S;intro a S
  refine lv S (rn_lss (S.tm rfl) rfl) rfl ?_;clear S;intro a S
  refine Ld (Tn ?_)
  obtain ⟨j1, hj1, h⟩ := joinE h
  refine f_join (fun a w' => ∃ x1 : Int, j1 x1 = some r ∧ Sx w [] nov [] [(0, iV x1)] 16 a w') ?_ ?_
  ·refine f_cond (S.tm rfl) (fun hb2 => ?_) (fun hb2 => ?_)
   ·replace h := iteT h hb2
    refine Fg (lv S (Rm (S.tm rfl)) rfl ?_);clear S;intro a S
    refine lv S (Rm (S.tm rfl)) rfl ?_;clear S;intro a S
    refine lv S (rn_add (S.tm rfl) (S.tm rfl)) rfl ?_;clear S;intro a S
    refine lv S (Ra (S.tm rfl)) rfl ?_;clear S;intro a S
    refine Ld (Tn ?_)
    exact ⟨W ((Int.tmod Ag Bb) + Bb), h, S.nf [] rfl ⟨rfl, trivial⟩⟩
   ·replace h := iteF h hb2
    refine wp_skip (Tn ?_)
    exact ⟨Int.tmod Ag Bb, h, S.nf [] rfl ⟨rfl, trivial⟩⟩
  clear S h;rintro a w1 ⟨x1, h, S⟩;rw [hj1] at h;clear hj1 j1
  refine Tn (Fs (Fg (lv S (Rm (S.tm rfl)) rfl ?_)));clear S;intro a S
  refine lv S (Ra (S.tm rfl)) rfl ?_;clear S;intro a S
  refine Ld (Tn (wp_ret ?_))
  obtain rfl := Option.some.inj h
  exact f_ret S Tryz.results54 rfl rfl
set_option maxRecDepth 20000 in
theorem Stream_Next_ok (w : World) (U : Nat) (Z : Value) (Ai : List Int) (Aj : Slc (view w [U]) 1 Z (Ai.map eInt)) (Ae : Int) (Ba : (LEnt.blk U [Z, iV Ae] 25).holds w) (Bb : Int) (r : Int × Int) (h : Stream_Next Ai Ae Bb = some r) :
    Calls Tryz.prog 28 [.pointer (some ⟨U, 0, none⟩), iV Bb].toArray w (Ret w [U] fun _ v w' => (LEnt.blk U [Z, iV r.2] 25).holds w' ∧ v = iV r.1) := by
 refine f_enter [U] [.blk U [Z, iV Ae] 25] Tryz.func28 rfl Tryz.ntmps28 rfl (fun e he => by simp only [List.mem_singleton] at he;subst he;exact Ba) (by simp [fps, LEnt.fp]) (by simp [fps, LEnt.fp]) fun a S => ?_
 unfold Stream_Next at h
 replace S := S.nk [.blk U [Z, iV Ae] 25] [(0, .pointer (some ⟨U, 0, none⟩)), (1, iV Bb)] [true] rfl (subR rfl)
 refine Fs (Fg (lv S (Ra rfl) rfl ?_));clear S;intro a S
 refine Ld (Tn (Fs (Fg (lv S (Rm (S.tm rfl)) rfl ?_))));clear S;intro a S
 refine lv S (rn_nilCheck (S.tm rfl)) rfl ?_;clear S;intro a S
 refine lv S (rn_fld fa_25_1 (S.tm rfl)) rfl ?_;clear S;intro a S
 refine lv S (rn_load Tryz.isAgg3 (S.tm rfl) (S.cell (i := 0) rfl rfl)) rfl ?_;clear S;intro a S
 refine lv S (rn_add (S.tm rfl) rfl) rfl ?_;clear S;intro a S
 refine lv S (rn_nilCheck (S.tm rfl)) rfl ?_;clear S;intro a S
 refine lv S (rn_fld fa_25_1 (S.tm rfl)) rfl ?_;clear S;intro a S
 refine l_store S (S.tm rfl) (S.tm rfl) (i := 0) (off := 1) rfl Tryz.sizeOf3 (vs := [iV (W (Ae + 1))]) rfl rfl rfl rfl ?_;clear S;intro w1 hk1 S
 refine Ld (Tn (Fs (Fs (Fg (lv S (Rm (S.tm rfl)) rfl ?_)))));clear S;intro a S
 refine lv S (rn_nilCheck (S.tm rfl)) rfl ?_;clear S;intro a S
 refine lv S (rn_fld fa_25_0 (S.tm rfl)) rfl ?_;clear S;intro a S
 refine lv S (rn_load Tryz.isAgg22 (S.tm rfl) (S.cell (i := 0) rfl rfl)) rfl ?_;clear S;intro a S
 refine lv S (rn_lenT sl_22 (S.tm rfl) (slc_len Aj)) rfl ?_;clear S;intro a S
 refine lv S (rn_eql (S.tm rfl) rfl) rfl ?_;clear S;intro a S
 refine Ld ?_
 replace S := S.nk [.blk U [Z, iV (W (Ae + 1))] 25] [(0, .pointer (some ⟨U, 0, none⟩)), (1, iV Bb), (19, bV (decide ((Ai.length : Int) = 0)))] [true] rfl (subR rfl)
 refine Tn (f_cond (S.tm rfl) (fun hb1 => ?_) (fun hb1 => ?_))
 ·replace h := iteT h hb1
  refine Fs (Fg (lv S (Rm (S.tm rfl)) rfl ?_));clear S;intro a S
  refine lv S (rn_nilCheck (S.tm rfl)) rfl ?_;clear S;intro a S
  refine lv S (rn_fld fa_25_1 (S.tm rfl)) rfl ?_;clear S;intro a S
  refine lv S (rn_load Tryz.isAgg3 (S.tm rfl) (S.cell (i := 0) rfl rfl)) rfl ?_;clear S;intro a S
  refine lv S (rn_mul (S.tm rfl) rfl) rfl ?_;clear S;intro a S
  refine lv S (Rm (S.tm rfl)) rfl ?_;clear S;intro a S
  obtain ⟨r1, hr1, h⟩ := bindE h
  refine l_enter S (fun _ => run_call (vs := [iV (W ((W (Ae + 1)) * 7919)), iV Bb]) ⟨(S.tm rfl), (S.tm rfl), trivial⟩ Tryz.call54) (tumbmake_Below_ok _ (W ((W (Ae + 1)) * 7919)) Bb _ hr1) rfl ?_;clear S;intro v1 a w2 hv1 hk2 hn1 S
  subst hv1
  refine lv S (Ra (S.tm rfl)) rfl ?_;clear S;intro a S
  refine Ld (Tn (wp_ret (then_r ?_)))
  obtain rfl := Option.some.inj h
  exact f_ret S Tryz.results28 rfl ⟨(S.holds _ (List.mem_of_getElem? (i := 0) rfl)), rfl⟩
 ·replace h := iteF h hb1
  refine wp_skip (Tn (Fs (d_region [] ([]) Tryz.mixed S rfl (by kernel_rfl) ?_)));clear S;intro w3 hk3 hsel S
  refine d_rest [0, 1, 2, 3, 4, 5, 6, 7, 8, 9, 10, 11] hsel (by kernel_rfl) rfl ?_
  clear hsel
  refine s_lv S rfl (Rm (S.tm rfl)) rfl ?_;clear S;intro a S
  refine s_lv S rfl (rn_nilCheck (S.tm rfl)) rfl ?_;clear S;intro a S
  refine s_lv S rfl (rn_fld fa_25_1 (S.tm rfl)) rfl ?_;clear S;intro a S
  refine s_lv S rfl (rn_load Tryz.isAgg3 (S.tm rfl) (S.cell (i := 0) rfl rfl)) rfl ?_;clear S;intro a S
  refine s_lv S rfl (rn_sub (S.tm rfl) rfl) rfl ?_;clear S;intro a S
  refine s_lv S rfl (Rm (S.tm rfl)) rfl ?_;clear S;intro a S
  refine s_lv S rfl (rn_nilCheck (S.tm rfl)) rfl ?_;clear S;intro a S
  refine s_lv S rfl (rn_fld fa_25_0 (S.tm rfl)) rfl ?_;clear S;intro a S
  refine s_lv S rfl (rn_load Tryz.isAgg22 (S.tm rfl) (S.cell (i := 0) rfl rfl)) rfl ?_;clear S;intro a S
  refine s_lv S rfl (rn_lenT sl_22 (S.tm rfl) (slc_len Aj)) rfl ?_;clear S;intro a S
  obtain ⟨hc1, h⟩ := chkE h
  refine s_lv S rfl (rn_rem (S.tm rfl) (S.tm rfl) (ne0_of hc1)) rfl ?_;clear S;intro a S
  refine s_lv S rfl (Ra (S.tm rfl)) rfl ?_;clear S;intro a S
  refine s_done ?_
  replace S := S.nk [.blk U [Z, iV (W (Ae + 1))] 25] [(0, .pointer (some ⟨U, 0, none⟩)), (1, iV Bb), (5, iV (Int.tmod (W ((W (Ae + 1)) - 1)) (Ai.length : Int)))] [true] rfl (subR rfl)
  refine Tn (Fs (d_region [] ([]) Tryz.mixed S rfl (by kernel_rfl) ?_));clear S;intro w4 hk4 hsel S
  refine d_rest [0, 1, 2, 3, 4, 5, 6, 7, 8, 9, 10, 11] hsel (by kernel_rfl) rfl ?_
  clear hsel
  refine s_lv S rfl (Rm (S.tm rfl)) rfl ?_;clear S;intro a S
  refine s_lv S rfl (rn_nilCheck (S.tm rfl)) rfl ?_;clear S;intro a S
  refine s_lv S rfl (rn_fld fa_25_1 (S.tm rfl)) rfl ?_;clear S;intro a S
  refine s_lv S rfl (rn_load Tryz.isAgg3 (S.tm rfl) (S.cell (i := 0) rfl rfl)) rfl ?_;clear S;intro a S
  refine s_lv S rfl (rn_sub (S.tm rfl) rfl) rfl ?_;clear S;intro a S
  refine s_lv S rfl (Rm (S.tm rfl)) rfl ?_;clear S;intro a S
  refine s_lv S rfl (rn_nilCheck (S.tm rfl)) rfl ?_;clear S;intro a S
  refine s_lv S rfl (rn_fld fa_25_0 (S.tm rfl)) rfl ?_;clear S;intro a S
  refine s_lv S rfl (rn_load Tryz.isAgg22 (S.tm rfl) (S.cell (i := 0) rfl rfl)) rfl ?_;clear S;intro a S
  refine s_lv S rfl (rn_lenT sl_22 (S.tm rfl) (slc_len Aj)) rfl ?_;clear S;intro a S
  obtain ⟨hc2, h⟩ := chkE h
  refine s_lv S rfl (rn_quo (S.tm rfl) (S.tm rfl) (ne0_of hc2)) rfl ?_;clear S;intro a S
  refine s_lv S rfl (Ra (S.tm rfl)) rfl ?_;clear S;intro a S
  refine s_done ?_
  replace S := S.nk [.blk U [Z, iV (W (Ae + 1))] 25] [(0, .pointer (some ⟨U, 0, none⟩)), (1, iV Bb), (5, iV (Int.tmod (W ((W (Ae + 1)) - 1)) (Ai.length : Int))), (6, iV (W (Int.tdiv (W ((W (Ae + 1)) - 1)) (Ai.length : Int))))] [true] rfl (subR rfl)
  refine Tn (Fs (Fg (lv S (Rm (S.tm rfl)) rfl ?_)));clear S;intro a S
  refine lv S (rn_nilCheck (S.tm rfl)) rfl ?_;clear S;intro a S
  refine lv S (rn_fld fa_25_0 (S.tm rfl)) rfl ?_;clear S;intro a S
  refine lv S (rn_load Tryz.isAgg22 (S.tm rfl) (S.cell (i := 0) rfl rfl)) rfl ?_;clear S;intro a S
  refine lv S (Rm (S.tm rfl)) rfl ?_;clear S;intro a S
  obtain ⟨hc3, h⟩ := chkE h
  obtain ⟨b1, o1, hm1, hr2⟩ := rn_indexT (a := a) (x := .tmp 52) (y := .tmp 53) (ty := 0) sl_22 Aj (inB_get hc3).1 (inB_get hc3).2 (S.tm rfl) (S.tm rfl)
  refine lv S (hr2 _) rfl ?_;clear S;intro a S
  clear hr2
  refine lv S (rn_ld Tryz.isAgg3 (off := o1) (o := 0) (S.tm rfl) (hm1.at S.emb0) rfl) rfl ?_;clear S;intro a S
  obtain ⟨r2, hr3, h⟩ := bindE h
  refine l_enter S (fun _ => run_call (vs := [iV (nth Ai (Int.tmod (W ((W (Ae + 1)) - 1)) (Ai.length : Int))), iV 1073741824]) ⟨(S.tm rfl), rfl, trivial⟩ Tryz.call54) (tumbmake_Below_ok _ (nth Ai (Int.tmod (W ((W (Ae + 1)) - 1)) (Ai.length : Int))) 1073741824 _ hr3) rfl ?_;clear S;intro v2 a w5 hv2 hk5 hn2 S
  subst hv2
  refine lv S (Rm (S.tm rfl)) rfl ?_;clear S;intro a S
  refine lv S (Rm (S.tm rfl)) rfl ?_;clear S;intro a S
  refine lv S (rn_add rfl (S.tm rfl)) rfl ?_;clear S;intro a S
  refine lv S (rn_mul (S.tm rfl) (S.tm rfl)) rfl ?_;clear S;intro a S
  refine lv S (rn_add (S.tm rfl) (S.tm rfl)) rfl ?_;clear S;intro a S
  refine lv S (Rm (S.tm rfl)) rfl ?_;clear S;intro a S
  obtain ⟨r3, hr4, h⟩ := bindE h
  refine l_enter S (fun _ => run_call (vs := [iV (W (r2 + (W ((W (Int.tdiv (W ((W (Ae + 1)) - 1)) (Ai.length : Int))) * (W (7919 + (Int.tmod (W ((W (Ae + 1)) - 1)) (Ai.length : Int)))))))), iV Bb]) ⟨(S.tm rfl), (S.tm rfl), trivial⟩ Tryz.call54) (tumbmake_Below_ok _ (W (r2 + (W ((W (Int.tdiv (W ((W (Ae + 1)) - 1)) (Ai.length : Int))) * (W (7919 + (Int.tmod (W ((W (Ae + 1)) - 1)) (Ai.length : Int)))))))) Bb _ hr4) rfl ?_;clear S;intro v3 a w6 hv3 hk6 hn3 S
  subst hv3
  refine lv S (Ra (S.tm rfl)) rfl ?_;clear S;intro a S
  refine Ld ?_
  replace S := S.nk [.blk U [Z, iV (W (Ae + 1))] 25] [(4, iV r3)] [true] rfl ⟨rfl, trivial⟩
  refine Tn (wp_ret ?_)
  obtain rfl := Option.some.inj h
  exact f_ret S Tryz.results28 rfl ⟨(S.holds _ (List.mem_of_getElem? (i := 0) rfl)), rfl⟩
theorem Stream_Pick_ok (w : World) (U : Nat) (Z : Value) (Ai : List Int) (Aj : Slc (view w [U]) 1 Z (Ai.map eInt)) (Ae : Int) (Ba : (LEnt.blk U [Z, iV Ae] 25).holds w) (O : Value) (Ab : List Int) (Ad : Slc (view w [U]) 1 O (Ab.map eInt)) (r : Int × Int) (h : Stream_Pick Ai Ae Ab = some r) :
    Calls Tryz.prog 52 [.pointer (some ⟨U, 0, none⟩), O].toArray w (Ret w [U] fun _ v w' => (LEnt.blk U [Z, iV r.2] 25).holds w' ∧ v = iV r.1) := by
 refine f_enter [U] [.blk U [Z, iV Ae] 25] Tryz.func52 rfl Tryz.ntmps52 rfl (fun e he => by simp only [List.mem_singleton] at he;subst he;exact Ba) (by simp [fps, LEnt.fp]) (by simp [fps, LEnt.fp]) fun a S => ?_
 unfold Stream_Pick at h
 replace S := S.nk [.blk U [Z, iV Ae] 25] [(0, .pointer (some ⟨U, 0, none⟩)), (1, O)] [true] rfl (subR rfl)
 refine Fs (Fg (lv S (Ra rfl) rfl ?_));clear S;intro a S
 refine Ld (Tn (Fs (Fg (lv S (Rm (S.tm rfl)) rfl ?_))));clear S;intro a S
 refine lv S (Rm (S.tm rfl)) rfl ?_;clear S;intro a S
 refine lv S (Rm (S.tm rfl)) rfl ?_;clear S;intro a S
 refine lv S (rn_lenT sl_22 (S.tm rfl) (slc_len Ad)) rfl ?_;clear S;intro a S
 obtain ⟨r1, hr1, h⟩ := bindE h
 refine l_enter1 0 S (b := U) rfl rfl (fun _ => .blk U [Z, iV r1.2] 25) (fun _ => run_call (vs := [.pointer (some ⟨U, 0, none⟩), iV (Ab.length : Int)]) ⟨(S.tm rfl), (S.tm rfl), trivial⟩ Tryz.call28) (Stream_Next_ok _ U Z Ai (Aj.mono (S.le_arg (fp_sub (i := 0) (e := .blk U [Z, iV Ae] 25) rfl))) Ae (S.holds _ (List.mem_of_getElem? (i := 0) rfl)) (Ab.length : Int) _ hr1) rfl (fun _ _ _ h => ⟨h.1, fun _ hc => by cases hc;rfl⟩) ?_;clear S;intro v1 a w1 hv1 hk1 hn1 S
 replace hv1 := hv1.2
 subst hv1
 obtain ⟨hc1, h⟩ := chkE h
 obtain ⟨b1, o1, hm1, hr2⟩ := rn_indexT (a := a) (x := .tmp 5) (y := .tmp 9) (ty := 0) sl_22 Ad (inB_get hc1).1 (inB_get hc1).2 (S.tm rfl) (S.tm rfl)
 refine lv S (hr2 _) rfl ?_;clear S;intro a S
 clear hr2
 refine lv S (rn_ld Tryz.isAgg3 (off := o1) (o := 0) (S.tm rfl) (hm1.at S.emb0) rfl) rfl ?_;clear S;intro a S
 refine lv S (Ra (S.tm rfl)) rfl ?_;clear S;intro a S
 refine Ld (Tn (wp_ret ?_))
 obtain rfl := Option.some.inj h
 exact f_ret S Tryz.results52 rfl ⟨(S.holds _ (List.mem_of_getElem? (i := 0) rfl)), rfl⟩
theorem Stream_Range_ok (w : World) (U : Nat) (Z : Value) (Ai : List Int) (Aj : Slc (view w [U]) 1 Z (Ai.map eInt)) (Ae : Int) (Ba : (LEnt.blk U [Z, iV Ae] 25).holds w) (Az : Int) (Au : Int) (r : Int × Int) (h : Stream_Range Ai Ae Az Au = some r) :
    Calls Tryz.prog 26 [.pointer (some ⟨U, 0, none⟩), iV Az, iV Au].toArray w (Ret w [U] fun _ v w' => (LEnt.blk U [Z, iV r.2] 25).holds w' ∧ v = iV r.1) := by
 refine f_enter [U] [.blk U [Z, iV Ae] 25] Tryz.func26 rfl Tryz.ntmps26 rfl (fun e he => by simp only [List.mem_singleton] at he;subst he;exact Ba) (by simp [fps, LEnt.fp]) (by simp [fps, LEnt.fp]) fun a S => ?_
 unfold Stream_Range at h
 replace S := S.nk [.blk U [Z, iV Ae] 25] [(0, .pointer (some ⟨U, 0, none⟩)), (1, iV Az), (2, iV Au)] [true] rfl (subR rfl)
 refine Fs (Fg (lv S (Ra rfl) rfl ?_));clear S;intro a S
 refine Ld (Tn (Fs (Fs (Fg (lv S (Rm (S.tm rfl)) rfl ?_)))));clear S;intro a S
 refine lv S (Rm (S.tm rfl)) rfl ?_;clear S;intro a S
 refine lv S (rn_lss (S.tm rfl) (S.tm rfl)) rfl ?_;clear S;intro a S
 refine Ld (Tn (f_cond (S.tm rfl) (fun hb1 => ?_) (fun hb1 => ?_)))
 ·replace h := iteT h hb1
  refine Fs (Fg (lv S (Rm (S.tm rfl)) rfl ?_));clear S;intro a S
  refine lv S (Ra (S.tm rfl)) rfl ?_;clear S;intro a S
  refine Ld (Tn (wp_ret (then_r ?_)))
  obtain rfl := Option.some.inj h
  exact f_ret S Tryz.results26 rfl ⟨(S.holds _ (List.mem_of_getElem? (i := 0) rfl)), rfl⟩
 ·replace h := iteF h hb1
  refine wp_skip (Tn (Fs (Fg (lv S (Rm (S.tm rfl)) rfl ?_))));clear S;intro a S
  iterate 3 (refine lv S (Rm (S.tm rfl)) rfl ?_;clear S;intro a S)
  refine lv S (rn_sub (S.tm rfl) (S.tm rfl)) rfl ?_;clear S;intro a S
  refine lv S (rn_add (S.tm rfl) rfl) rfl ?_;clear S;intro a S
  obtain ⟨r1, hr1, h⟩ := bindE h
  refine l_enter1 0 S (b := U) rfl rfl (fun _ => .blk U [Z, iV r1.2] 25) (fun _ => run_call (vs := [.pointer (some ⟨U, 0, none⟩), iV (W ((W (Au - Az)) + 1))]) ⟨(S.tm rfl), (S.tm rfl), trivial⟩ Tryz.call28) (Stream_Next_ok _ U Z Ai (Aj.mono (S.le_arg (fp_sub (i := 0) (e := .blk U [Z, iV Ae] 25) rfl))) Ae (S.holds _ (List.mem_of_getElem? (i := 0) rfl)) (W ((W (Au - Az)) + 1)) _ hr1) rfl (fun _ _ _ h => ⟨h.1, fun _ hc => by cases hc;rfl⟩) ?_;clear S;intro v1 a w1 hv1 hk1 hn1 S
  replace hv1 := hv1.2
  subst hv1
  refine lv S (rn_add (S.tm rfl) (S.tm rfl)) rfl ?_;clear S;intro a S
  refine lv S (Ra (S.tm rfl)) rfl ?_;clear S;intro a S
  refine Ld ?_
  replace S := S.nk [.blk U [Z, iV r1.2] 25] [(6, iV (W (Az + r1.1)))] [true] rfl ⟨rfl, trivial⟩
  refine Tn (wp_ret ?_)
  obtain rfl := Option.some.inj h
  exact f_ret S Tryz.results26 rfl ⟨(S.holds _ (List.mem_of_getElem? (i := 0) rfl)), rfl⟩
theorem Stream_RightTable_ok (w : World) (U : Nat) (Z : Value) (Ai : List Int) (Aj : Slc (view w [U]) 1 Z (Ai.map eInt)) (Ae : Int) (Ba : (LEnt.blk U [Z, iV Ae] 25).holds w) (r : GTable × Int) (h : Stream_RightTable Ai Ae = some r) :
    Calls Tryz.prog 21 [.pointer (some ⟨U, 0, none⟩)].toArray w (Ret w [U] fun τ v w' => (LEnt.blk U [Z, iV r.2] 25).holds w' ∧ ∃ q : R27, v = .agg (R27.enc q).toArray ∧ rel_27 τ r.1 q) := by
 refine f_enter [U] [.blk U [Z, iV Ae] 25] Tryz.func21 rfl Tryz.ntmps21 rfl (fun e he => by simp only [List.mem_singleton] at he;subst he;exact Ba) (by simp [fps, LEnt.fp]) (by simp [fps, LEnt.fp]) fun a S => ?_
 unfold Stream_RightTable at h
 replace S := S.nk [.blk U [Z, iV Ae] 25] [(0, .pointer (some ⟨U, 0, none⟩))] [true] rfl ⟨rfl, trivial⟩
 refine Fs (Fg (l_alloc S Tryz.zeroValue27 (cs := [.slice none 0 0, iV 0, iV 0]) rfl rfl ?_));clear S;intro a w1 b1 hz1 hk1 S
 replace S := S.nil 3 1
 refine Ld (Tn (Fs (Fg (lv S (Rm (S.tm rfl)) rfl ?_))));clear S;intro a S
 refine l_buildSlice S Tryz.underlying22 Tryz.sizeOf3 Tryz.zeroValue3 rfl rfl (pv := [(0, iV 1), (1, iV 2)]) ⟨rfl, rfl, rfl, rfl, trivial⟩ (cs := [iV 1, iV 2]) (by kernel_rfl) rfl ?_;clear S;intro a w2 b2 hz2 hk2 S
 obtain ⟨r1, hr1, h⟩ := bindE h
 refine l_enter1 3 S (b := U) rfl rfl (fun _ => .blk U [Z, iV r1.2] 25) (fun _ => run_call (vs := [.pointer (some ⟨U, 0, none⟩), .slice (some ⟨b2, 0, none⟩) 2 2]) ⟨(S.tm rfl), (S.tm rfl), trivial⟩ Tryz.call52) (Stream_Pick_ok _ U Z Ai (Aj.mono (S.le_arg (fp_sub (i := 3) (e := .blk U [Z, iV Ae] 25) rfl))) Ae (S.holds _ (List.mem_of_getElem? (i := 3) rfl)) (.slice (some ⟨b2, 0, none⟩) 2 2) [1, 2] (lit_slcT enc_int S (i := 0) rfl rfl rfl rfl ((ne_fp (i := 3) (j := 0) (e := .blk U [Z, iV Ae] 25) (e' := .blk b2 [iV 1, iV 2] 3) S rfl rfl rfl) _ rfl)) _ hr1) rfl (fun _ _ _ h => ⟨h.1, fun _ hc => by cases hc;rfl⟩) ?_;clear S;intro v1 a w3 hv1 hk3 hn1 S
 replace hv1 := hv1.2
 subst hv1
 refine lv S (Rm (S.tm rfl)) rfl ?_;clear S;intro a S
 refine l_buildSlice S Tryz.underlying22 Tryz.sizeOf3 Tryz.zeroValue3 rfl rfl (pv := [(0, iV 0), (1, iV 0), (2, iV 1), (3, iV 2)]) ⟨rfl, rfl, rfl, rfl, rfl, rfl, rfl, rfl, trivial⟩ (cs := [iV 0, iV 0, iV 1, iV 2]) (by kernel_rfl) rfl ?_;clear S;intro a w4 b3 hz3 hk4 S
 obtain ⟨r2, hr2, h⟩ := bindE h
 refine l_enter1 4 S (b := U) rfl rfl (fun _ => .blk U [Z, iV r2.2] 25) (fun _ => run_call (vs := [.pointer (some ⟨U, 0, none⟩), .slice (some ⟨b3, 0, none⟩) 4 4]) ⟨(S.tm rfl), (S.tm rfl), trivial⟩ Tryz.call52) (Stream_Pick_ok _ U Z Ai (Aj.mono (S.le_arg (fp_sub (i := 4) (e := .blk U [Z, iV r1.2] 25) rfl))) r1.2 (S.holds _ (List.mem_of_getElem? (i := 4) rfl)) (.slice (some ⟨b3, 0, none⟩) 4 4) [0, 0, 1, 2] (lit_slcT enc_int S (i := 0) rfl rfl rfl rfl ((ne_fp (i := 4) (j := 0) (e := .blk U [Z, iV r1.2] 25) (e' := .blk b3 [iV 0, iV 0, iV 1, iV 2] 3) S rfl rfl rfl) _ rfl)) _ hr2) rfl (fun _ _ _ h => ⟨h.1, fun _ hc => by cases hc;rfl⟩) ?_;clear S;intro v2 a w5 hv2 hk5 hn2 S
 replace hv2 := hv2.2
 subst hv2
 refine lv S (rn_bld bt_27 (pv := [(1, iV r1.1), (2, iV r2.1)]) ⟨rfl, (S.tm rfl), rfl, (S.tm rfl), trivial⟩ (cs := [.slice none 0 0, iV r1.1, iV r2.1]) (by kernel_rfl)) rfl ?_;clear S;intro a S
 refine l_alloc S Tryz.zeroValue27 (cs := [.slice none 0 0, iV 0, iV 0]) rfl rfl ?_;clear S;intro a w6 b4 hz4 hk6 S
 replace S := S.nil 3 1
 refine l_store S (S.tm rfl) (S.tm rfl) (i := 1) (off := 0) rfl Tryz.sizeOf27 (vs := [.slice none 0 0, iV r1.1, iV r2.1]) rfl rfl rfl rfl ?_;clear S;intro w7 hk7 S
 replace S := S.nil 3 1
 refine Ld ?_
 replace S := S.nk [.own (.slice none 0 0) 3 1 ([] : List Int).length (([] : List Int).flatMap eInt), .blk b4 [(.slice none 0 0), iV r1.1, iV r2.1] 27, .own (.slice none 0 0) 3 1 ([] : List Int).length (([] : List Int).flatMap eInt), .blk b1 [(.slice none 0 0), iV 0, iV 0] 27, .blk U [Z, iV r2.2] 25] [(0, .pointer (some ⟨U, 0, none⟩)), (2, .pointer (some ⟨b1, 0, none⟩)), (3, .pointer (some ⟨b4, 0, none⟩))] [true, false, true, false, false, true, true, true] rfl (subR rfl)
 refine Tn (Fs (Fg (lv S (Rm (S.tm rfl)) rfl ?_)));clear S;intro a S
 refine l_buildSlice S Tryz.underlying22 Tryz.sizeOf3 Tryz.zeroValue3 rfl rfl (pv := [(0, iV 10), (1, iV 9), (2, iV 7), (3, iV 5)]) ⟨rfl, rfl, rfl, rfl, rfl, rfl, rfl, rfl, trivial⟩ (cs := [iV 10, iV 9, iV 7, iV 5]) (by kernel_rfl) rfl ?_;clear S;intro a w8 b5 hz5 hk8 S
 obtain ⟨r3, hr3, h⟩ := bindE h
 refine l_enter1 5 S (b := U) rfl rfl (fun _ => .blk U [Z, iV r3.2] 25) (fun _ => run_call (vs := [.pointer (some ⟨U, 0, none⟩), .slice (some ⟨b5, 0, none⟩) 4 4]) ⟨(S.tm rfl), (S.tm rfl), trivial⟩ Tryz.call52) (Stream_Pick_ok _ U Z Ai (Aj.mono (S.le_arg (fp_sub (i := 5) (e := .blk U [Z, iV r2.2] 25) rfl))) r2.2 (S.holds _ (List.mem_of_getElem? (i := 5) rfl)) (.slice (some ⟨b5, 0, none⟩) 4 4) [10, 9, 7, 5] (lit_slcT enc_int S (i := 0) rfl rfl rfl rfl ((ne_fp (i := 5) (j := 0) (e := .blk U [Z, iV r2.2] 25) (e' := .blk b5 [iV 10, iV 9, iV 7, iV 5] 3) S rfl rfl rfl) _ rfl)) _ hr3) rfl (fun _ _ _ h => ⟨h.1, fun _ hc => by cases hc;rfl⟩) ?_;clear S;intro v3 a w9 hv3 hk9 hn3 S
 replace hv3 := hv3.2
 subst hv3
 refine lv S (Ra (S.tm rfl)) rfl ?_;clear S;intro a S
 refine Ld ?_
 replace S := S.nk [.own (.slice none 0 0) 3 1 ([] : List Int).length (([] : List Int).flatMap eInt), .blk b4 [(.slice none 0 0), iV r1.1, iV r2.1] 27, .own (.slice none 0 0) 3 1 ([] : List Int).length (([] : List Int).flatMap eInt), .blk b1 [(.slice none 0 0), iV 0, iV 0] 27, .blk U [Z, iV r3.2] 25] [(0, .pointer (some ⟨U, 0, none⟩)), (2, .pointer (some ⟨b1, 0, none⟩)), (3, .pointer (some ⟨b4, 0, none⟩)), (4, iV r3.1)] [false, true, true, true, true, true] rfl (subR rfl)
 refine Tn (Fs (Fs (Fg (lv S (Rm (S.tm rfl)) rfl ?_))));clear S;intro a S
 obtain ⟨r4, hr4, h⟩ := bindE h
 refine l_enter1 4 S (b := U) rfl rfl (fun _ => .blk U [Z, iV r4.2] 25) (fun _ => run_call (vs := [.pointer (some ⟨U, 0, none⟩), iV 0, iV 5]) ⟨(S.tm rfl), rfl, rfl, trivial⟩ Tryz.call26) (Stream_Range_ok _ U Z Ai (Aj.mono (S.le_arg (fp_sub (i := 4) (e := .blk U [Z, iV r3.2] 25) rfl))) r3.2 (S.holds _ (List.mem_of_getElem? (i := 4) rfl)) 0 5 _ hr4) rfl (fun _ _ _ h => ⟨h.1, fun _ hc => by cases hc;rfl⟩) ?_;clear S;intro v4 a w10 hv4 hk10 hn4 S
 replace hv4 := hv4.2
 subst hv4
 refine lv S (Rm rfl) rfl ?_;clear S;intro a S
 refine Ld (Tn ?_)
 replace S := S.nk [.own (.slice none 0 0) 3 1 ([] : List Int).length (([] : List Int).flatMap eInt), .blk b4 [(.slice none 0 0), iV r1.1, iV r2.1] 27, .own (.slice none 0 0) 3 1 ([] : List Int).length (([] : List Int).flatMap eInt), .blk b1 [(.slice none 0 0), iV 0, iV 0] 27, .blk U [Z, iV r4.2] 25] [(0, .pointer (some ⟨U, 0, none⟩)), (2, .pointer (some ⟨b1, 0, none⟩)), (3, .pointer (some ⟨b4, 0, none⟩)), (4, iV r3.1), (16, iV r4.1), (17, iV 0)] [true, true, true, true, true] rfl (subR rfl)
 obtain ⟨j1, hj1, h⟩ := joinE h
 refine f_join (fun a w' => ∃ x1 : List Int, ∃ x2 : Int, ∃ v5 : Value, j1 x1 x2 = some r ∧ Sx w [U] nov [.own v5 3 1 x1.length (x1.flatMap eInt), .blk b4 [v5, iV r1.1, iV r2.1] 27, .own (.slice none 0 0) 3 1 ([] : List Int).length (([] : List Int).flatMap eInt), .blk b1 [(.slice none 0 0), iV 0, iV 0] 27, .blk U [Z, iV x2] 25] [(2, .pointer (some ⟨b1, 0, none⟩)), (3, .pointer (some ⟨b4, 0, none⟩))] 33 a w') ?_ ?_
 ·refine wp_block (f_loop (fun (m1 : Nat) a w' => ∃ x1 : List Int, ∃ x2 : Int, ∃ x3 : Int, ∃ x4 : Int, ∃ v5 : Value, Stream_RightTable_l1 r4 Ai j1 m1 x1 x2 x3 x4 = some r ∧ Sx w [U] nov [.own v5 3 1 x1.length (x1.flatMap eInt), .blk b4 [v5, iV r1.1, iV r2.1] 27, .own (.slice none 0 0) 3 1 ([] : List Int).length (([] : List Int).flatMap eInt), .blk b1 [(.slice none 0 0), iV 0, iV 0] 27, .blk U [Z, iV x2] 25] [(0, .pointer (some ⟨U, 0, none⟩)), (2, .pointer (some ⟨b1, 0, none⟩)), (3, .pointer (some ⟨b4, 0, none⟩)), (4, iV x3), (16, iV r4.1), (17, iV x4)] 33 a w') id ((r4.1 - 0).toNat + 2) ⟨([] : List Int), r4.2, r3.1, 0, (.slice none 0 0), h, S.nf [true, true, true, true, true] rfl (subR rfl)⟩ ?_)
  clear S h;rintro m1 a w11 ⟨x1, x2, x3, x4, v5, h, S⟩
  cases m1 with
  | zero => rw [Stream_RightTable_l1.eq_1] at h;cases h
  | succ m1 =>
   rw [Stream_RightTable_l1.eq_2] at h
   refine Fs (Fg (lv S (rn_lss (S.tm rfl) (S.tm rfl)) rfl ?_));clear S;intro a S
   refine Ld (Tn (Fs (f_cond (S.tm rfl) (fun hb1 => ?_) (fun hb1 => ?_))))
   ·replace h := iteT h hb1
    refine wp_skip (Tn (Fs (wp_block (Fs (Fg (lv S (rn_fld fa_27_0 (S.tm rfl)) rfl ?_))))));clear S;intro a S
    refine lv S (rn_load Tryz.isAgg22 (S.tm rfl) (S.cell (i := 1) rfl rfl)) rfl ?_;clear S;intro a S
    refine lv S (Rm (S.tm rfl)) rfl ?_;clear S;intro a S
    refine l_buildSlice S Tryz.underlying22 Tryz.sizeOf3 Tryz.zeroValue3 rfl rfl (pv := [(0, iV x3)]) ⟨rfl, (S.tm rfl), trivial⟩ (cs := [iV x3]) (by kernel_rfl) rfl ?_;clear S;intro a w13 b6 hz6 hk11 S
    obtain ⟨hc1, h⟩ := chkE h
    refine l_appendT sl_22 enc_int S (S.tm rfl) (i := 1) rfl (S.tm rfl) (j := 0) rfl (ys := [x3]) rfl rfl rfl rfl (by have := room_lt hc1;omega) rfl ?_;clear S;intro v6 a w14 hk12 S
    refine lv S (rn_fld fa_27_0 (S.tm rfl)) rfl ?_;clear S;intro a S
    refine l_store S (S.tm rfl) (S.tm rfl) (i := 2) (off := 0) rfl Tryz.sizeOf22 (vs := [v6]) (SlcLen.cells (own_len (S.own_at (i := 1) rfl))) rfl rfl (all1 (SlcLen.one (own_len (S.own_at (i := 1) rfl))) rfl) ?_;clear S;intro w15 hk13 S
    refine Ld ?_
    replace S := S.nk [.own v6 3 1 (x1 ++ [x3]).length ((x1 ++ [x3]).flatMap eInt), .blk b4 [v6, iV r1.1, iV r2.1] 27, .own (.slice none 0 0) 3 1 ([] : List Int).length (([] : List Int).flatMap eInt), .blk b1 [(.slice none 0 0), iV 0, iV 0] 27, .blk U [Z, iV x2] 25] [(0, .pointer (some ⟨U, 0, none⟩)), (2, .pointer (some ⟨b1, 0, none⟩)), (3, .pointer (some ⟨b4, 0, none⟩)), (4, iV x3), (16, iV r4.1), (17, iV x4)] [false, true, true, true, true, true] rfl (subR rfl)
    refine Tn (Fg (lv S (Rm (S.tm rfl)) rfl ?_));clear S;intro a S
    refine lv S (Rm (S.tm rfl)) rfl ?_;clear S;intro a S
    refine l_buildSlice S Tryz.underlying22 Tryz.sizeOf3 Tryz.zeroValue3 rfl rfl (pv := [(0, iV 0), (1, iV 1), (2, iV 2), (3, iV 3)]) ⟨rfl, rfl, rfl, rfl, rfl, rfl, rfl, rfl, trivial⟩ (cs := [iV 0, iV 1, iV 2, iV 3]) (by kernel_rfl) rfl ?_;clear S;intro a w16 b7 hz7 hk14 S
    obtain ⟨r5, hr5, h⟩ := bindE h
    refine l_enter1 5 S (b := U) rfl rfl (fun _ => .blk U [Z, iV r5.2] 25) (fun _ => run_call (vs := [.pointer (some ⟨U, 0, none⟩), .slice (some ⟨b7, 0, none⟩) 4 4]) ⟨(S.tm rfl), (S.tm rfl), trivial⟩ Tryz.call52) (Stream_Pick_ok _ U Z Ai (Aj.mono (S.le_arg (fp_sub (i := 5) (e := .blk U [Z, iV x2] 25) rfl))) x2 (S.holds _ (List.mem_of_getElem? (i := 5) rfl)) (.slice (some ⟨b7, 0, none⟩) 4 4) [0, 1, 2, 3] (lit_slcT enc_int S (i := 0) rfl rfl rfl rfl ((ne_fp (i := 5) (j := 0) (e := .blk U [Z, iV x2] 25) (e' := .blk b7 [iV 0, iV 1, iV 2, iV 3] 3) S rfl rfl rfl) _ rfl)) _ hr5) rfl (fun _ _ _ h => ⟨h.1, fun _ hc => by cases hc;rfl⟩) ?_;clear S;intro v7 a w17 hv5 hk15 hn5 S
    replace hv5 := hv5.2
    subst hv5
    refine lv S (rn_sub (S.tm rfl) (S.tm rfl)) rfl ?_;clear S;intro a S
    refine lv S (rn_max2 rfl (S.tm rfl)) rfl ?_;clear S;intro a S
    refine lv S (Ra (S.tm rfl)) rfl ?_;clear S;intro a S
    refine Ld ?_
    replace S := S.nk [.own v6 3 1 (x1 ++ [x3]).length ((x1 ++ [x3]).flatMap eInt), .blk b4 [v6, iV r1.1, iV r2.1] 27, .own (.slice none 0 0) 3 1 ([] : List Int).length (([] : List Int).flatMap eInt), .blk b1 [(.slice none 0 0), iV 0, iV 0] 27, .blk U [Z, iV r5.2] 25] [(0, .pointer (some ⟨U, 0, none⟩)), (2, .pointer (some ⟨b1, 0, none⟩)), (3, .pointer (some ⟨b4, 0, none⟩)), (4, iV (imax 0 (W (x3 - r5.1)))), (16, iV r4.1), (17, iV x4)] [false, true, true, true, true, true] rfl (subR rfl)
    refine blk_n (Tn (Fg (lv S (rn_add (S.tm rfl) rfl) rfl ?_)));clear S;intro a S
    refine lv S (Rm (S.tm rfl)) rfl ?_;clear S;intro a S
    refine Ld (Tn ?_)
    exact ⟨m1, ⟨(x1 ++ [x3]), r5.2, imax 0 (W (x3 - r5.1)), W (x4 + 1), v6, h, S.nf [true, true, true, true, true] rfl ⟨rfl, rfl, rfl, rfl, rfl, rfl, trivial⟩⟩, Nat.lt_succ_self _⟩
   ·replace h := iteF h hb1
    refine wp_exit (then_x (then_x (x_same (Tn ?_))))
    exact ⟨x1, x2, v5, h, S.nf [true, true, true, true, true] rfl (subR rfl)⟩
 clear S h;rintro a w12 ⟨x1, x2, v5, h, S⟩;rw [hj1] at h;clear hj1 j1
 refine Tn (Fs (Fg (lv S (rn_ldA Tryz.isAgg27 Tryz.sizeOf27 (off := 0) (o := 0) (part := [v5, iV r1.1, iV r2.1]) rfl rfl (S.tm rfl) (S.cellsAt (i := 1) rfl)) rfl ?_)));clear S;intro a S
 refine l_store S (S.tm rfl) (S.tm rfl) (i := 3) (off := 0) rfl Tryz.sizeOf27 (vs := [v5, iV r1.1, iV r2.1]) rfl rfl rfl (all1 (SlcLen.one (own_len (S.own_at (i := 0) rfl))) (all1 rfl (all1 rfl rfl))) ?_;clear S;intro w18 hk16 S
 refine Ld (Tn (wp_ret ?_))
 obtain ⟨φ1, hl1, hs1, S⟩ := S.freezeT (xs := x1) (enc := eInt) (i := 0) rfl (fun c hc hh => not_fps S (i := 4) rfl rfl (j := 0) rfl rfl (by simp at hc;subst hc;exact hh))
 replace S := S.nk [.blk b4 [v5, iV r1.1, iV r2.1] 27, .own (.slice none 0 0) 3 1 ([] : List Int).length (([] : List Int).flatMap eInt), .blk b1 [v5, iV r1.1, iV r2.1] 27, .blk U [Z, iV x2] 25] [(2, .pointer (some ⟨b1, 0, none⟩)), (3, .pointer (some ⟨b4, 0, none⟩)), (32, .agg #[v5, iV r1.1, iV r2.1])] [] rfl (subR rfl)
 obtain rfl := Option.some.inj h
 exact f_retG S (rs := [.cell 2 27]) (vs := [.agg (R27.enc (R27.mk ⟨v5, SlcLen.one (slc_len (ownV_slcT enc_int hs1))⟩ r1.1 r2.1)).toArray]) Tryz.results21 ⟨(res_cell (off := 0) S rfl Tryz.isAgg27 Tryz.sizeOf27 rfl (S.cellsAt (i := 2) rfl)), trivial⟩ rfl ⟨(S.holds _ (List.mem_of_getElem? (i := 3) rfl)), ⟨(R27.mk ⟨v5, SlcLen.one (slc_len (ownV_slcT enc_int hs1))⟩ r1.1 r2.1), rfl, rel_27_mono S.le_newer _ _ ⟨⟨v5, SlcLen.one (slc_len (ownV_slcT enc_int hs1))⟩, rfl, (ownV_slcT enc_int hs1)⟩⟩⟩
theorem Stream_Flip_ok (w : World) (U : Nat) (Z : Value) (Ai : List Int) (Aj : Slc (view w [U]) 1 Z (Ai.map eInt)) (Ae : Int) (Ba : (LEnt.blk U [Z, iV Ae] 25).holds w) (Bb : Int) (r : Bool × Int) (h : Stream_Flip Ai Ae Bb = some r) :
    Calls Tryz.prog 22 [.pointer (some ⟨U, 0, none⟩), iV Bb].toArray w (Ret w [U] fun _ v w' => (LEnt.blk U [Z, iV r.2] 25).holds w' ∧ v = bV r.1) := by
 refine f_enter [U] [.blk U [Z, iV Ae] 25] Tryz.func22 rfl Tryz.ntmps22 rfl (fun e he => by simp only [List.mem_singleton] at he;subst he;exact Ba) (by simp [fps, LEnt.fp]) (by simp [fps, LEnt.fp]) fun a S => ?_
 unfold Stream_Flip at h
 replace S := S.nk [.blk U [Z, iV Ae] 25] [(0, .pointer (some ⟨U, 0, none⟩)), (1, iV Bb)] [true] rfl (subR rfl)
 refine Fs (Fg (lv S (Ra rfl) rfl ?_));clear S;intro a S
 refine Ld (Tn (Fs (Fg (lv S (Rm (S.tm rfl)) rfl ?_))));clear S;intro a S
 refine lv S (Rm (S.tm rfl)) rfl ?_;clear S;intro a S
 obtain ⟨r1, hr1, h⟩ := bindE h
 refine l_enter1 0 S (b := U) rfl rfl (fun _ => .blk U [Z, iV r1.2] 25) (fun _ => run_call (vs := [.pointer (some ⟨U, 0, none⟩), iV Bb]) ⟨(S.tm rfl), (S.tm rfl), trivial⟩ Tryz.call28) (Stream_Next_ok _ U Z Ai (Aj.mono (S.le_arg (fp_sub (i := 0) (e := .blk U [Z, iV Ae] 25) rfl))) Ae (S.holds _ (List.mem_of_getElem? (i := 0) rfl)) Bb _ hr1) rfl (fun _ _ _ h => ⟨h.1, fun _ hc => by cases hc;rfl⟩) ?_;clear S;intro v1 a w1 hv1 hk1 hn1 S
 replace hv1 := hv1.2
 subst hv1
 refine lv S (rn_eql (S.tm rfl) rfl) rfl ?_;clear S;intro a S
 refine lv S (Ra (S.tm rfl)) rfl ?_;clear S;intro a S
 refine Ld (Tn (wp_ret ?_))
 obtain rfl := Option.some.inj h
 exact f_ret S Tryz.results22 rfl ⟨(S.holds _ (List.mem_of_getElem? (i := 0) rfl)), rfl⟩
theorem Stream_Odd_ok (w : World) (U : Nat) (Z : Value) (Ai : List Int) (Aj : Slc (view w [U]) 1 Z (Ai.map eInt)) (Ae : Int) (Ba : (LEnt.blk U [Z, iV Ae] 25).holds w) (Az : Int) (Au : Int) (r : Int × Int) (h : Stream_Odd Ai Ae Az Au = some r) :
    Calls Tryz.prog 23 [.pointer (some ⟨U, 0, none⟩), iV Az, iV Au].toArray w (Ret w [U] fun _ v w' => (LEnt.blk U [Z, iV r.2] 25).holds w' ∧ v = iV r.1) := by
 refine f_enter [U] [.blk U [Z, iV Ae] 25] Tryz.func23 rfl Tryz.ntmps23 rfl (fun e he => by simp only [List.mem_singleton] at he;subst he;exact Ba) (by simp [fps, LEnt.fp]) (by simp [fps, LEnt.fp]) fun a S => ?_
 unfold Stream_Odd at h
 replace S := S.nk [.blk U [Z, iV Ae] 25] [(0, .pointer (some ⟨U, 0, none⟩)), (1, iV Az), (2, iV Au)] [true] rfl (subR rfl)
 refine Fs (Fg (lv S (Ra rfl) rfl ?_));clear S;intro a S
 refine Ld (Tn (Fs (Fs (Fg (lv S (Rm (S.tm rfl)) rfl ?_)))));clear S;intro a S
 obtain ⟨r1, hr1, h⟩ := bindE h
 refine l_enter1 0 S (b := U) rfl rfl (fun _ => .blk U [Z, iV r1.2] 25) (fun _ => run_call (vs := [.pointer (some ⟨U, 0, none⟩), iV 12]) ⟨(S.tm rfl), rfl, trivial⟩ Tryz.call22) (Stream_Flip_ok _ U Z Ai (Aj.mono (S.le_arg (fp_sub (i := 0) (e := .blk U [Z, iV Ae] 25) rfl))) Ae (S.holds _ (List.mem_of_getElem? (i := 0) rfl)) 12 _ hr1) rfl (fun _ _ _ h => ⟨h.1, fun _ hc => by cases hc;rfl⟩) ?_;clear S;intro v1 a w1 hv1 hk1 hn1 S
 replace hv1 := hv1.2
 subst hv1
 refine Ld (Tn (f_cond (S.tm rfl) (fun hb1 => ?_) (fun hb1 => ?_)))
 ·replace h := iteT h hb1
  refine Fs (Fg (lv S (Rm (S.tm rfl)) rfl ?_));clear S;intro a S
  refine lv S (Rm (S.tm rfl)) rfl ?_;clear S;intro a S
  refine lv S (rn_sub (S.tm rfl) rfl) rfl ?_;clear S;intro a S
  refine lv S (Rm (S.tm rfl)) rfl ?_;clear S;intro a S
  refine lv S (rn_add (S.tm rfl) rfl) rfl ?_;clear S;intro a S
  refine lv S (Rm (S.tm rfl)) rfl ?_;clear S;intro a S
  refine lv S (Rm (S.tm rfl)) rfl ?_;clear S;intro a S
  refine l_buildSlice S Tryz.underlying22 Tryz.sizeOf3 Tryz.zeroValue3 rfl rfl (pv := [(0, iV (W (Az - 1))), (1, iV (W (Au + 1))), (2, iV Az), (3, iV Au), (4, iV (-1099511627776)), (5, iV 1099511627776)]) ⟨rfl, (S.tm rfl), rfl, (S.tm rfl), rfl, (S.tm rfl), rfl, (S.tm rfl), rfl, rfl, rfl, rfl, trivial⟩ (cs := [iV (W (Az - 1)), iV (W (Au + 1)), iV Az, iV Au, iV (-1099511627776), iV 1099511627776]) (by kernel_rfl) rfl ?_;clear S;intro a w2 b1 hz1 hk2 S
  obtain ⟨r2, hr2, h⟩ := bindE h
  refine l_enter1 1 S (b := U) rfl rfl (fun _ => .blk U [Z, iV r2.2] 25) (fun _ => run_call (vs := [.pointer (some ⟨U, 0, none⟩), .slice (some ⟨b1, 0, none⟩) 6 6]) ⟨(S.tm rfl), (S.tm rfl), trivial⟩ Tryz.call52) (Stream_Pick_ok _ U Z Ai (Aj.mono (S.le_arg (fp_sub (i := 1) (e := .blk U [Z, iV r1.2] 25) rfl))) r1.2 (S.holds _ (List.mem_of_getElem? (i := 1) rfl)) (.slice (some ⟨b1, 0, none⟩) 6 6) [W (Az - 1), W (Au + 1), Az, Au, (-1099511627776), 1099511627776] (lit_slcT enc_int S (i := 0) rfl rfl rfl rfl ((ne_fp (i := 1) (j := 0) (e := .blk U [Z, iV r1.2] 25) (e' := .blk b1 [iV (W (Az - 1)), iV (W (Au + 1)), iV Az, iV Au, iV (-1099511627776), iV 1099511627776] 3) S rfl rfl rfl) _ rfl)) _ hr2) rfl (fun _ _ _ h => ⟨h.1, fun _ hc => by cases hc;rfl⟩) ?_;clear S;intro v2 a w3 hv2 hk3 hn2 S
  replace hv2 := hv2.2
  subst hv2
  refine lv S (Ra (S.tm rfl)) rfl ?_;clear S;intro a S
  refine Ld ?_
  replace S := S.nk [.blk U [Z, iV r2.2] 25] [(6, iV r2.1)] [false, true] rfl ⟨rfl, trivial⟩
  refine Tn (wp_ret (then_r ?_))
  obtain rfl := Option.some.inj h
  exact f_ret S Tryz.results23 rfl ⟨(S.holds _ (List.mem_of_getElem? (i := 0) rfl)), rfl⟩
 ·replace h := iteF h hb1
  refine wp_skip (Tn (Fs (Fg (lv S (Rm (S.tm rfl)) rfl ?_))));clear S;intro a S
  refine lv S (Rm (S.tm rfl)) rfl ?_;clear S;intro a S
  refine lv S (Rm (S.tm rfl)) rfl ?_;clear S;intro a S
  obtain ⟨r3, hr3, h⟩ := bindE h
  refine l_enter1 0 S (b := U) rfl rfl (fun _ => .blk U [Z, iV r3.2] 25) (fun _ => run_call (vs := [.pointer (some ⟨U, 0, none⟩), iV Az, iV Au]) ⟨(S.tm rfl), (S.tm rfl), (S.tm rfl), trivial⟩ Tryz.call26) (Stream_Range_ok _ U Z Ai (Aj.mono (S.le_arg (fp_sub (i := 0) (e := .blk U [Z, iV r1.2] 25) rfl))) r1.2 (S.holds _ (List.mem_of_getElem? (i := 0) rfl)) Az Au _ hr3) rfl (fun _ _ _ h => ⟨h.1, fun _ hc => by cases hc;rfl⟩) ?_;clear S;intro v3 a w4 hv3 hk4 hn3 S
  replace hv3 := hv3.2
  subst hv3
  refine lv S (Ra (S.tm rfl)) rfl ?_;clear S;intro a S
  refine Ld (Tn (wp_ret ?_))
  obtain rfl := Option.some.inj h
  exact f_ret S Tryz.results23 rfl ⟨(S.holds _ (List.mem_of_getElem? (i := 0) rfl)), rfl⟩
theorem slices_Clone_int_ok (w : World) (Al : Value) (Ak : List Int) (Bq : Slc (view w []) 1 Al (Ak.map eInt)) (r : (List Int)) (h : slices_Clone_int Ak = some r) :
    Calls Tryz.prog 24 [Al].toArray w (Ret w [] fun τ v _ => OwnV τ 3 1 v r.length (r.flatMap eInt)) := by
 refine f_enter [] [] Tryz.func24 rfl Tryz.ntmps24 rfl (by simp) (by simp [fps]) (by simp [fps]) fun a S => ?_
 unfold slices_Clone_int at h
 replace S := S.nk [] [(0, Al)] [] rfl ⟨rfl, trivial⟩
 refine Fs (Fg (lv S (Ra rfl) rfl ?_));clear S;intro a S
 refine Ld (Tn (Fs (Fs (Fg (lv S (Rm (S.tm rfl)) rfl ?_)))));clear S;intro a S
 refine lv S (rn_nileq Tryz.underlying22 (slc_len Bq) (S.tm rfl) rfl) rfl ?_;clear S;intro a S
 refine Ld (Tn (f_cond (S.tm rfl) (fun hb1 => ?_) (fun hb1 => ?_)))
 ·have hx1 := slc_nilB Bq hb1
  subst hx1
  replace h : some ([] : List Int) = some r := h
  refine Fs (Fg (lv S (Ra rfl) rfl ?_));clear S;intro a S
  refine Ld (Tn (wp_ret (then_r ?_)))
  obtain rfl := Option.some.inj h
  exact f_ret S Tryz.results24 rfl (ownV_nil _ _ _)
 ·refine wp_skip (Tn (Fs (Fg (l_buildSlice0 S Tryz.underlying22 Tryz.sizeOf3 rfl ?_))));clear S;intro a w1 b1 hz1 hk1 S
  refine lv S (Rm (S.tm rfl)) rfl ?_;clear S;intro a S
  replace S := S.litOwn (i := 0) (xs := ([] : List Int)) rfl enc_int rfl rfl rfl
  replace S := S.nk [.own (.slice (some ⟨b1, 0, none⟩) 0 0) 3 1 (([] : List Int) : List Int).length ((([] : List Int) : List Int).flatMap eInt)] [(0, Al), (2, .slice none 0 0), (3, Al), (4, bV (nilB Al)), (5, (.slice (some ⟨b1, 0, none⟩) 0 0)), (6, Al)] [] rfl (subR rfl)
  obtain ⟨hc1, h⟩ := chkE h
  refine l_appendS (Y := []) sl_22 enc_int S (S.tm rfl) (i := 0) rfl (S.tm rfl) (Bq.mono (S.le_arg (fun _ h => by cases h))) rfl rfl (by have := room_lt hc1;omega) rfl ?_;clear S;intro v1 a w2 hk2 S
  refine lv S (Ra (S.tm rfl)) rfl ?_;clear S;intro a S
  refine Ld (Tn (wp_ret ?_))
  obtain rfl := Option.some.inj h
  exact f_ret S Tryz.results24 rfl (own_retT S (i := 0) rfl rfl)
theorem Stream_Table_ok (w : World) (U : Nat) (Z : Value) (Ai : List Int) (Aj : Slc (view w [U]) 1 Z (Ai.map eInt)) (Ae : Int) (Ba : (LEnt.blk U [Z, iV Ae] 25).holds w) (r : GTable × Int) (h : Stream_Table Ai Ae = some r) :
    Calls Tryz.prog 4 [.pointer (some ⟨U, 0, none⟩)].toArray w (Ret w [U] fun τ v w' => (LEnt.blk U [Z, iV r.2] 25).holds w' ∧ ∃ q : R27, v = .agg (R27.enc q).toArray ∧ rel_27 τ r.1 q) := by
 refine f_enter [U] [.blk U [Z, iV Ae] 25] Tryz.func4 rfl Tryz.ntmps4 rfl (fun e he => by simp only [List.mem_singleton] at he;subst he;exact Ba) (by simp [fps, LEnt.fp]) (by simp [fps, LEnt.fp]) fun a S => ?_
 unfold Stream_Table at h
 replace S := S.nk [.blk U [Z, iV Ae] 25] [(0, .pointer (some ⟨U, 0, none⟩))] [true] rfl ⟨rfl, trivial⟩
 refine Fs (Fg (l_alloc S Tryz.zeroValue27 (cs := [.slice none 0 0, iV 0, iV 0]) rfl rfl ?_));clear S;intro a w1 b1 hz1 hk1 S
 replace S := S.nil 3 1
 refine Ld (Tn (Fs (Fg (lv S (Rm (S.tm rfl)) rfl ?_))));clear S;intro a S
 obtain ⟨r1, hr1, h⟩ := bindE h
 have hz2 := S.keep.size
 refine l_enter1 2 S (b := U) rfl rfl (fun _ => .blk U [Z, iV r1.2] 25) (fun _ => run_call (vs := [.pointer (some ⟨U, 0, none⟩)]) ⟨(S.tm rfl), trivial⟩ Tryz.call21) (Stream_RightTable_ok _ U Z Ai (Aj.mono (S.le_arg (fp_sub (i := 2) (e := .blk U [Z, iV Ae] 25) rfl))) Ae (S.holds _ (List.mem_of_getElem? (i := 2) rfl)) _ hr1) rfl (fun _ _ _ h => ⟨h.1, fun _ hc => by cases hc;rfl⟩) ?_;clear S;intro v1 a w2 hv1 hk2 hn1 S
 replace hv1 := hv1.2
 obtain ⟨q1, rfl, hq1⟩ := hv1
 obtain ⟨φ1, hl1, hm1, S⟩ := S.see' hn1 hz2
 obtain ⟨u2, rfl, hs1⟩ := rel_27_mono hm1 _ _ hq1
 refine l_alloc S Tryz.zeroValue27 (cs := [.slice none 0 0, iV 0, iV 0]) rfl rfl ?_;clear S;intro a w3 b2 hz3 hk3 S
 replace S := S.nil 3 1
 refine l_store S (S.tm rfl) (S.tm rfl) (i := 1) (off := 0) rfl Tryz.sizeOf27 (vs := [u2.val, iV r1.1.Relay, iV r1.1.Most]) rfl rfl rfl (all1 (SlcLen.one (slc_len hs1)) (all1 rfl (all1 rfl rfl))) ?_;clear S;intro w4 hk4 S
 refine Ld (Tn (Fs (Fs (Fg (lv S (Rm (S.tm rfl)) rfl ?_)))));clear S;intro a S
 obtain ⟨r2, hr2, h⟩ := bindE h
 refine l_enter1 4 S (b := U) rfl rfl (fun _ => .blk U [Z, iV r2.2] 25) (fun _ => run_call (vs := [.pointer (some ⟨U, 0, none⟩), iV 12]) ⟨(S.tm rfl), rfl, trivial⟩ Tryz.call22) (Stream_Flip_ok _ U Z Ai (Aj.mono (S.le_arg (fp_sub (i := 4) (e := .blk U [Z, iV r1.2] 25) rfl))) r1.2 (S.holds _ (List.mem_of_getElem? (i := 4) rfl)) 12 _ hr2) rfl (fun _ _ _ h => ⟨h.1, fun _ hc => by cases hc;rfl⟩) ?_;clear S;intro v2 a w5 hv2 hk5 hn2 S
 replace hv2 := hv2.2
 subst hv2
 refine Ld (Tn ?_)
 obtain ⟨j1, hj1, h⟩ := joinE h
 refine f_join (fun a w' => ∃ x1 : List Int, ∃ x2 : Int, ∃ x3 : Int, ∃ x4 : Int, ∃ φ2 : View, ∃ v3 : Value, j1 x1 x2 x3 x4 = some r ∧ View.le φ1 φ2 ∧ Slc φ2 1 v3 (x1.map eInt) ∧ Sx w [U] φ2 [.blk b2 [v3, iV x2, iV x3] 27, .own (.slice none 0 0) 3 1 ([] : List Int).length (([] : List Int).flatMap eInt), .blk b1 [(.slice none 0 0), iV 0, iV 0] 27, .blk U [Z, iV x4] 25] [(2, .pointer (some ⟨b1, 0, none⟩)), (3, .pointer (some ⟨b2, 0, none⟩))] 23 a w') ?_ ?_
 ·refine f_cond (S.tm rfl) (fun hb1 => ?_) (fun hb1 => ?_)
  ·replace h := iteT h hb1
   refine Fs (Fg (lv S (Rm (S.tm rfl)) rfl ?_));clear S;intro a S
   obtain ⟨r3, hr3, h⟩ := bindE h
   refine l_enter1 4 S (b := U) rfl rfl (fun _ => .blk U [Z, iV r3.2] 25) (fun _ => run_call (vs := [.pointer (some ⟨U, 0, none⟩), iV 1, iV 10]) ⟨(S.tm rfl), rfl, rfl, trivial⟩ Tryz.call23) (Stream_Odd_ok _ U Z Ai (Aj.mono (S.le_arg (fp_sub (i := 4) (e := .blk U [Z, iV r2.2] 25) rfl))) r2.2 (S.holds _ (List.mem_of_getElem? (i := 4) rfl)) 1 10 _ hr3) rfl (fun _ _ _ h => ⟨h.1, fun _ hc => by cases hc;rfl⟩) ?_;clear S;intro v4 a w7 hv3 hk6 hn3 S
   replace hv3 := hv3.2
   subst hv3
   refine lv S (Rm (S.tm rfl)) rfl ?_;clear S;intro a S
   obtain ⟨r4, hr4, h⟩ := bindE h
   refine l_enter1 4 S (b := U) rfl rfl (fun _ => .blk U [Z, iV r4.2] 25) (fun _ => run_call (vs := [.pointer (some ⟨U, 0, none⟩), iV 0, iV 10]) ⟨(S.tm rfl), rfl, rfl, trivial⟩ Tryz.call23) (Stream_Odd_ok _ U Z Ai (Aj.mono (S.le_arg (fp_sub (i := 4) (e := .blk U [Z, iV r3.2] 25) rfl))) r3.2 (S.holds _ (List.mem_of_getElem? (i := 4) rfl)) 0 10 _ hr4) rfl (fun _ _ _ h => ⟨h.1, fun _ hc => by cases hc;rfl⟩) ?_;clear S;intro v5 a w8 hv4 hk7 hn4 S
   replace hv4 := hv4.2
   subst hv4
   refine lv S (rn_fld fa_27_1 (S.tm rfl)) rfl ?_;clear S;intro a S
   refine l_store S (S.tm rfl) (S.tm rfl) (i := 1) (off := 1) rfl Tryz.sizeOf3 (vs := [iV r3.1]) rfl rfl rfl rfl ?_;clear S;intro w9 hk8 S
   refine lv S (rn_fld fa_27_2 (S.tm rfl)) rfl ?_;clear S;intro a S
   refine l_store S (S.tm rfl) (S.tm rfl) (i := 1) (off := 2) rfl Tryz.sizeOf3 (vs := [iV r4.1]) rfl rfl rfl rfl ?_;clear S;intro w10 hk9 S
   refine Ld (Tn (Fg (lv S (rn_fld fa_27_0 (S.tm rfl)) rfl ?_)));clear S;intro a S
   refine lv S (rn_load Tryz.isAgg22 (S.tm rfl) (S.cell (i := 1) rfl rfl)) rfl ?_;clear S;intro a S
   obtain ⟨r5, hr5, h⟩ := bindE h
   have hz4 := S.keep.size
   refine l_enter S (fun _ => run_call (vs := [u2.val]) ⟨(S.tm rfl), trivial⟩ Tryz.call24) (slices_Clone_int_ok _ u2.val r1.1.Points (hs1.mono (S.le_new nil_sub)) _ hr5) rfl ?_;clear S;intro v6 a w11 hv5 hk10 hn5 S
   replace S := S.take hn5 hz4 hv5
   refine lv S (Rm (S.tm rfl)) rfl ?_;clear S;intro a S
   obtain ⟨r6, hr6, h⟩ := bindE h
   refine l_enter1 5 S (b := U) rfl rfl (fun _ => .blk U [Z, iV r6.2] 25) (fun _ => run_call (vs := [.pointer (some ⟨U, 0, none⟩), iV 0, iV 20]) ⟨(S.tm rfl), rfl, rfl, trivial⟩ Tryz.call23) (Stream_Odd_ok _ U Z Ai (Aj.mono (S.le_arg (fp_sub (i := 5) (e := .blk U [Z, iV r4.2] 25) rfl))) r4.2 (S.holds _ (List.mem_of_getElem? (i := 5) rfl)) 0 20 _ hr6) rfl (fun _ _ _ h => ⟨h.1, fun _ hc => by cases hc;rfl⟩) ?_;clear S;intro v7 a w12 hv6 hk11 hn6 S
   replace hv6 := hv6.2
   subst hv6
   refine l_buildSlice S Tryz.underlying22 Tryz.sizeOf3 Tryz.zeroValue3 rfl rfl (pv := [(0, iV r6.1)]) ⟨rfl, (S.tm rfl), trivial⟩ (cs := [iV r6.1]) (by kernel_rfl) rfl ?_;clear S;intro a w13 b3 hz5 hk12 S
   obtain ⟨hc1, h⟩ := chkE h
   refine l_appendT sl_22 enc_int S (S.tm rfl) (i := 1) rfl (S.tm rfl) (j := 0) rfl (ys := [r6.1]) rfl rfl rfl rfl (by have := room_lt hc1;omega) rfl ?_;clear S;intro v8 a w14 hk13 S
   refine lv S (rn_fld fa_27_0 (S.tm rfl)) rfl ?_;clear S;intro a S
   refine l_store S (S.tm rfl) (S.tm rfl) (i := 3) (off := 0) rfl Tryz.sizeOf22 (vs := [v8]) (SlcLen.cells (own_len (S.own_at (i := 1) rfl))) rfl rfl (all1 (SlcLen.one (own_len (S.own_at (i := 1) rfl))) rfl) ?_;clear S;intro w15 hk14 S
   refine Ld ?_
   replace S := S.nk [.own v8 3 1 (r5 ++ [r6.1]).length ((r5 ++ [r6.1]).flatMap eInt), .blk b2 [v8, iV r3.1, iV r4.1] 27, .own (.slice none 0 0) 3 1 ([] : List Int).length (([] : List Int).flatMap eInt), .blk b1 [(.slice none 0 0), iV 0, iV 0] 27, .blk U [Z, iV r6.2] 25] [(2, .pointer (some ⟨b1, 0, none⟩)), (3, .pointer (some ⟨b2, 0, none⟩))] [false, true, false, true, true, true, true] rfl (subR rfl)
   obtain ⟨φ3, hl3, hs3, S⟩ := S.freezeT (xs := (r5 ++ [r6.1])) (enc := eInt) (i := 0) rfl (fun c hc hh => not_fps S (i := 4) rfl rfl (j := 0) rfl rfl (by simp at hc;subst hc;exact hh))
   replace S := S.nk [.blk b2 [v8, iV r3.1, iV r4.1] 27, .own (.slice none 0 0) 3 1 ([] : List Int).length (([] : List Int).flatMap eInt), .blk b1 [(.slice none 0 0), iV 0, iV 0] 27, .blk U [Z, iV r6.2] 25] [(2, .pointer (some ⟨b1, 0, none⟩)), (3, .pointer (some ⟨b2, 0, none⟩))] [] rfl (subR rfl)
   refine Tn ?_
   exact ⟨(r5 ++ [r6.1]), r3.1, r4.1, r6.2, φ3, v8, h, hl3, (ownV_slcT enc_int hs3), S.nf [true, true, true, true] rfl (subR rfl)⟩
  ·replace h := iteF h hb1
   refine wp_skip (Tn ?_)
   exact ⟨r1.1.Points, r1.1.Relay, r1.1.Most, r2.2, φ1, u2.val, h, (View.le_refl _), hs1, S.nf [false, true, true, true, true] rfl (subR rfl)⟩
 clear S h;rintro a w6 ⟨x1, x2, x3, x4, φ2, v3, h, hl2, hs2, S⟩;rw [hj1] at h;clear hj1 j1
 refine Tn (Fs (Fg (lv S (rn_ldA Tryz.isAgg27 Tryz.sizeOf27 (off := 0) (o := 0) (part := [v3, iV x2, iV x3]) rfl rfl (S.tm rfl) (S.cellsAt (i := 0) rfl)) rfl ?_)));clear S;intro a S
 refine l_store S (S.tm rfl) (S.tm rfl) (i := 2) (off := 0) rfl Tryz.sizeOf27 (vs := [v3, iV x2, iV x3]) rfl rfl rfl (all1 (SlcLen.one (slc_len hs2)) (all1 rfl (all1 rfl rfl))) ?_;clear S;intro w16 hk15 S
 refine Ld (Tn (wp_ret ?_))
 obtain rfl := Option.some.inj h
 exact f_retG S (rs := [.cell 2 27]) (vs := [.agg (R27.enc (R27.mk ⟨v3, SlcLen.one (slc_len hs2)⟩ x2 x3)).toArray]) Tryz.results4 ⟨(res_cell (off := 0) S rfl Tryz.isAgg27 Tryz.sizeOf27 rfl (S.cellsAt (i := 2) rfl)), trivial⟩ rfl ⟨(S.holds _ (List.mem_of_getElem? (i := 3) rfl)), ⟨(R27.mk ⟨v3, SlcLen.one (slc_len hs2)⟩ x2 x3), rfl, rel_27_mono S.le_newer _ _ ⟨⟨v3, SlcLen.one (slc_len hs2)⟩, rfl, hs2⟩⟩⟩
theorem Stream_Some_ok (w : World) (U : Nat) (Z : Value) (Ai : List Int) (Aj : Slc (view w [U]) 1 Z (Ai.map eInt)) (Ae : Int) (Ba : (LEnt.blk U [Z, iV Ae] 25).holds w) (O : Value) (Ab : List ByteArray) (Ad : Slc (view w [U]) 1 O (Ab.map eStr)) (r : ByteArray × Int) (h : Stream_Some Ai Ae Ab = some r) :
    Calls Tryz.prog 27 [.pointer (some ⟨U, 0, none⟩), O].toArray w (Ret w [U] fun _ v w' => (LEnt.blk U [Z, iV r.2] 25).holds w' ∧ v = sV r.1) := by
 refine f_enter [U] [.blk U [Z, iV Ae] 25] Tryz.func27 rfl Tryz.ntmps27 rfl (fun e he => by simp only [List.mem_singleton] at he;subst he;exact Ba) (by simp [fps, LEnt.fp]) (by simp [fps, LEnt.fp]) fun a S => ?_
 unfold Stream_Some at h
 replace S := S.nk [.blk U [Z, iV Ae] 25] [(0, .pointer (some ⟨U, 0, none⟩)), (1, O)] [true] rfl (subR rfl)
 refine Fs (Fg (lv S (Ra rfl) rfl ?_));clear S;intro a S
 refine Ld (Tn (Fs (Fg (lv S (Rm (S.tm rfl)) rfl ?_))));clear S;intro a S
 refine lv S (Rm (S.tm rfl)) rfl ?_;clear S;intro a S
 refine lv S (Rm (S.tm rfl)) rfl ?_;clear S;intro a S
 refine lv S (rn_lenT sl_81 (S.tm rfl) (slc_len Ad)) rfl ?_;clear S;intro a S
 obtain ⟨r1, hr1, h⟩ := bindE h
 refine l_enter1 0 S (b := U) rfl rfl (fun _ => .blk U [Z, iV r1.2] 25) (fun _ => run_call (vs := [.pointer (some ⟨U, 0, none⟩), iV (Ab.length : Int)]) ⟨(S.tm rfl), (S.tm rfl), trivial⟩ Tryz.call28) (Stream_Next_ok _ U Z Ai (Aj.mono (S.le_arg (fp_sub (i := 0) (e := .blk U [Z, iV Ae] 25) rfl))) Ae (S.holds _ (List.mem_of_getElem? (i := 0) rfl)) (Ab.length : Int) _ hr1) rfl (fun _ _ _ h => ⟨h.1, fun _ hc => by cases hc;rfl⟩) ?_;clear S;intro v1 a w1 hv1 hk1 hn1 S
 replace hv1 := hv1.2
 subst hv1
 obtain ⟨hc1, h⟩ := chkE h
 obtain ⟨b1, o1, hm1, hr2⟩ := rn_indexT (a := a) (x := .tmp 5) (y := .tmp 9) (ty := 0) sl_81 Ad (inB_get hc1).1 (inB_get hc1).2 (S.tm rfl) (S.tm rfl)
 refine lv S (hr2 _) rfl ?_;clear S;intro a S
 clear hr2
 refine lv S (rn_ld Tryz.isAgg9 (off := o1) (o := 0) (S.tm rfl) (hm1.at S.emb0) rfl) rfl ?_;clear S;intro a S
 refine lv S (Ra (S.tm rfl)) rfl ?_;clear S;intro a S
 refine Ld (Tn (wp_ret ?_))
 obtain rfl := Option.some.inj h
 exact f_ret S Tryz.results27 rfl ⟨(S.holds _ (List.mem_of_getElem? (i := 0) rfl)), rfl⟩
set_option maxRecDepth 20000 in
theorem bits_Len32_ok (w : World) (Ag : Int) (r : Int) (h : bits_Len32 Ag = some r) :
    Calls Tryz.prog 103 [.int .u32 Ag].toArray w (Ret w [] fun _ v _ => v = iV r) := by
 refine f_enter [] [] Tryz.func103 rfl Tryz.ntmps103 rfl (by simp) (by simp [fps]) (by simp [fps]) fun a S => ?_
 unfold bits_Len32 at h
 replace S := S.nk [] [(0, .int .u32 Ag)] [] rfl ⟨rfl, trivial⟩
 refine Fs (Fg (lv S (Ra rfl) rfl ?_));clear S;intro a S
 refine Ld (Tn (Fs (Fs (Fg (lv S (Rm (S.tm rfl)) rfl ?_)))));clear S;intro a S
 refine lv S (rn_geq (S.tm rfl) rfl) rfl ?_;clear S;intro a S
 refine Ld (Tn ?_)
 obtain ⟨j1, hj1, h⟩ := joinE h
 refine f_join (fun a w' => ∃ x1 : Int, ∃ x2 : Int, j1 x1 x2 = some r ∧ Sx w [] nov [] [(0, .int .u32 x1), (2, iV x2)] 19 a w') ?_ ?_
 ·refine f_cond (S.tm rfl) (fun hb1 => ?_) (fun hb1 => ?_)
  ·replace h := iteT h hb1
   refine Fs (Fg (lv S (Rm (S.tm rfl)) rfl ?_));clear S;intro a S
   refine lv S (rn_shr (S.tm rfl) rfl (by decide)) rfl ?_;clear S;intro a S
   refine lv S (Ra (S.tm rfl)) rfl ?_;clear S;intro a S
   refine Ld (Tn (Fg (lv S (Ra rfl) rfl ?_)));clear S;intro a S
   refine Ld (Tn ?_)
   exact ⟨bitShr .u32 Ag 16, 16, h, S.nf [] rfl (subR rfl)⟩
  ·replace h := iteF h hb1
   refine wp_skip (Tn ?_)
   exact ⟨Ag, 0, h, S.nf [] rfl (subR rfl)⟩
 clear S h;rintro a w1 ⟨x1, x2, h, S⟩;rw [hj1] at h;clear hj1 j1
 refine Tn (Fs (Fs (Fg (lv S (Rm (S.tm rfl)) rfl ?_))));clear S;intro a S
 refine lv S (rn_geq (S.tm rfl) rfl) rfl ?_;clear S;intro a S
 refine Ld (Tn ?_)
 obtain ⟨j2, hj2, h⟩ := joinE h
 refine f_join (fun a w' => ∃ x3 : Int, ∃ x4 : Int, j2 x3 x4 = some r ∧ Sx w [] nov [] [(0, .int .u32 x3), (2, iV x4)] 19 a w') ?_ ?_
 ·refine f_cond (S.tm rfl) (fun hb2 => ?_) (fun hb2 => ?_)
  ·replace h := iteT h hb2
   refine Fs (Fg (lv S (Rm (S.tm rfl)) rfl ?_));clear S;intro a S
   refine lv S (rn_shr (S.tm rfl) rfl (by decide)) rfl ?_;clear S;intro a S
   refine lv S (Ra (S.tm rfl)) rfl ?_;clear S;intro a S
   refine Ld (Tn (Fg (lv S (Rm (S.tm rfl)) rfl ?_)));clear S;intro a S
   refine lv S (rn_add (S.tm rfl) rfl) rfl ?_;clear S;intro a S
   refine lv S (Ra (S.tm rfl)) rfl ?_;clear S;intro a S
   refine Ld (Tn ?_)
   exact ⟨bitShr .u32 x1 8, W (x2 + 8), h, S.nf [] rfl (subR rfl)⟩
  ·replace h := iteF h hb2
   refine wp_skip (Tn ?_)
   exact ⟨x1, x2, h, S.nf [] rfl (subR rfl)⟩
 clear S h;rintro a w2 ⟨x3, x4, h, S⟩;rw [hj2] at h;clear hj2 j2
 refine Tn (Fs (Fg (lv S (Rm (S.tm rfl)) rfl ?_)));clear S;intro a S
 refine lv S (Rm (S.tm rfl)) rfl ?_;clear S;intro a S
 refine lv S (rn_conv Tryz.underlying134 Tryz.underlying5 (S.tm rfl)) rfl ?_;clear S;intro a S
 obtain ⟨hc1, h⟩ := chkE h
 refine lv S (rn_sindexT Tryz.underlying9 rfl (S.tm rfl) hc1) rfl ?_;clear S;intro a S
 refine lv S (rn_conv Tryz.underlying5 Tryz.underlying3 (S.tm rfl)) rfl ?_;clear S;intro a S
 refine lv S (rn_add (S.tm rfl) (S.tm rfl)) rfl ?_;clear S;intro a S
 refine lv S (Ra (S.tm rfl)) rfl ?_;clear S;intro a S
 refine Ld (Tn (wp_ret ?_))
 obtain rfl := Option.some.inj h
 exact f_ret S Tryz.results103 rfl rfl
set_option maxRecDepth 20000 in
theorem bits_Len64_ok (w : World) (Ag : Int) (r : Int) (h : bits_Len64 Ag = some r) :
    Calls Tryz.prog 104 [.int .u64 Ag].toArray w (Ret w [] fun _ v _ => v = iV r) := by
 refine f_enter [] [] Tryz.func104 rfl Tryz.ntmps104 rfl (by simp) (by simp [fps]) (by simp [fps]) fun a S => ?_
 unfold bits_Len64 at h
 replace S := S.nk [] [(0, .int .u64 Ag)] [] rfl ⟨rfl, trivial⟩
 refine Fs (Fg (lv S (Ra rfl) rfl ?_));clear S;intro a S
 refine Ld (Tn (Fs (Fs (Fg (lv S (Rm (S.tm rfl)) rfl ?_)))));clear S;intro a S
 refine lv S (rn_geq (S.tm rfl) rfl) rfl ?_;clear S;intro a S
 refine Ld (Tn ?_)
 obtain ⟨j1, hj1, h⟩ := joinE h
 refine f_join (fun a w' => ∃ x1 : Int, ∃ x2 : Int, j1 x1 x2 = some r ∧ Sx w [] nov [] [(0, .int .u64 x1), (2, iV x2)] 25 a w') ?_ ?_
 ·refine f_cond (S.tm rfl) (fun hb1 => ?_) (fun hb1 => ?_)
  ·replace h := iteT h hb1
   refine Fs (Fg (lv S (Rm (S.tm rfl)) rfl ?_));clear S;intro a S
   refine lv S (rn_shr (S.tm rfl) rfl (by decide)) rfl ?_;clear S;intro a S
   refine lv S (Ra (S.tm rfl)) rfl ?_;clear S;intro a S
   refine Ld (Tn (Fg (lv S (Ra rfl) rfl ?_)));clear S;intro a S
   refine Ld (Tn ?_)
   exact ⟨bitShr .u64 Ag 32, 32, h, S.nf [] rfl (subR rfl)⟩
  ·replace h := iteF h hb1
   refine wp_skip (Tn ?_)
   exact ⟨Ag, 0, h, S.nf [] rfl (subR rfl)⟩
 clear S h;rintro a w1 ⟨x1, x2, h, S⟩;rw [hj1] at h;clear hj1 j1
 refine Tn (Fs (Fs (Fg (lv S (Rm (S.tm rfl)) rfl ?_))));clear S;intro a S
 refine lv S (rn_geq (S.tm rfl) rfl) rfl ?_;clear S;intro a S
 refine Ld (Tn ?_)
 obtain ⟨j2, hj2, h⟩ := joinE h
 refine f_join (fun a w' => ∃ x3 : Int, ∃ x4 : Int, j2 x3 x4 = some r ∧ Sx w [] nov [] [(0, .int .u64 x3), (2, iV x4)] 25 a w') ?_ ?_
 ·refine f_cond (S.tm rfl) (fun hb2 => ?_) (fun hb2 => ?_)
  ·replace h := iteT h hb2
   refine Fs (Fg (lv S (Rm (S.tm rfl)) rfl ?_));clear S;intro a S
   refine lv S (rn_shr (S.tm rfl) rfl (by decide)) rfl ?_;clear S;intro a S
   refine lv S (Ra (S.tm rfl)) rfl ?_;clear S;intro a S
   refine Ld (Tn (Fg (lv S (Rm (S.tm rfl)) rfl ?_)));clear S;intro a S
   refine lv S (rn_add (S.tm rfl) rfl) rfl ?_;clear S;intro a S
   refine lv S (Ra (S.tm rfl)) rfl ?_;clear S;intro a S
   refine Ld (Tn ?_)
   exact ⟨bitShr .u64 x1 16, W (x2 + 16), h, S.nf [] rfl (subR rfl)⟩
  ·replace h := iteF h hb2
   refine wp_skip (Tn ?_)
   exact ⟨x1, x2, h, S.nf [] rfl (subR rfl)⟩
 clear S h;rintro a w2 ⟨x3, x4, h, S⟩;rw [hj2] at h;clear hj2 j2
 refine Tn (Fs (Fs (Fg (lv S (Rm (S.tm rfl)) rfl ?_))));clear S;intro a S
 refine lv S (rn_geq (S.tm rfl) rfl) rfl ?_;clear S;intro a S
 refine Ld (Tn ?_)
 obtain ⟨j3, hj3, h⟩ := joinE h
 refine f_join (fun a w' => ∃ x5 : Int, ∃ x6 : Int, j3 x5 x6 = some r ∧ Sx w [] nov [] [(0, .int .u64 x5), (2, iV x6)] 25 a w') ?_ ?_
 ·refine f_cond (S.tm rfl) (fun hb3 => ?_) (fun hb3 => ?_)
  ·replace h := iteT h hb3
   refine Fs (Fg (lv S (Rm (S.tm rfl)) rfl ?_));clear S;intro a S
   refine lv S (rn_shr (S.tm rfl) rfl (by decide)) rfl ?_;clear S;intro a S
   refine lv S (Ra (S.tm rfl)) rfl ?_;clear S;intro a S
   refine Ld (Tn (Fg (lv S (Rm (S.tm rfl)) rfl ?_)));clear S;intro a S
   refine lv S (rn_add (S.tm rfl) rfl) rfl ?_;clear S;intro a S
   refine lv S (Ra (S.tm rfl)) rfl ?_;clear S;intro a S
   refine Ld (Tn ?_)
   exact ⟨bitShr .u64 x3 8, W (x4 + 8), h, S.nf [] rfl (subR rfl)⟩
  ·replace h := iteF h hb3
   refine wp_skip (Tn ?_)
   exact ⟨x3, x4, h, S.nf [] rfl (subR rfl)⟩
 clear S h;rintro a w3 ⟨x5, x6, h, S⟩;rw [hj3] at h;clear hj3 j3
 refine Tn (Fs (Fg (lv S (Rm (S.tm rfl)) rfl ?_)));clear S;intro a S
 refine lv S (Rm (S.tm rfl)) rfl ?_;clear S;intro a S
 refine lv S (rn_conv Tryz.underlying119 Tryz.underlying5 (S.tm rfl)) rfl ?_;clear S;intro a S
 obtain ⟨hc1, h⟩ := chkE h
 refine lv S (rn_sindexT Tryz.underlying9 rfl (S.tm rfl) hc1) rfl ?_;clear S;intro a S
 refine lv S (rn_conv Tryz.underlying5 Tryz.underlying3 (S.tm rfl)) rfl ?_;clear S;intro a S
 refine lv S (rn_add (S.tm rfl) (S.tm rfl)) rfl ?_;clear S;intro a S
 refine lv S (Ra (S.tm rfl)) rfl ?_;clear S;intro a S
 refine Ld (Tn (wp_ret ?_))
 obtain rfl := Option.some.inj h
 exact f_ret S Tryz.results104 rfl rfl
theorem bits_Len_ok (w : World) (Ag : Int) (r : Int) (h : bits_Len Ag = some r) :
    Calls Tryz.prog 79 [.int .u64 Ag].toArray w (Ret w [] fun _ v _ => v = iV r) := by
 refine f_enter [] [] Tryz.func79 rfl Tryz.ntmps79 rfl (by simp) (by simp [fps]) (by simp [fps]) fun a S => ?_
 unfold bits_Len at h
 replace S := S.nk [] [(0, .int .u64 Ag)] [] rfl ⟨rfl, trivial⟩
 refine Fs (Fg (lv S (Ra rfl) rfl ?_));clear S;intro a S
 refine Ld (Tn (Fs (f_cond rfl (fun hb1 => ?_) (fun hb1 => ?_))))
 ·replace h := iteT h hb1
  refine Fs (Fg (lv S (Rm (S.tm rfl)) rfl ?_));clear S;intro a S
  refine lv S (rn_conv Tryz.underlying108 Tryz.underlying134 (S.tm rfl)) rfl ?_;clear S;intro a S
  obtain ⟨r1, hr1, h⟩ := bindE h
  refine l_enter S (fun _ => run_call (vs := [.int .u32 (IntKind.wrap .u32 Ag)]) ⟨(S.tm rfl), trivial⟩ Tryz.call103) (bits_Len32_ok _ (IntKind.wrap .u32 Ag) _ hr1) rfl ?_;clear S;intro v1 a w1 hv1 hk1 hn1 S
  subst hv1
  refine lv S (Ra (S.tm rfl)) rfl ?_;clear S;intro a S
  refine Ld (Tn (wp_ret (then_r ?_)))
  obtain rfl := Option.some.inj h
  exact f_ret S Tryz.results79 rfl rfl
 ·replace h := iteF h hb1
  refine wp_skip (Tn (Fs (Fg (lv S (Rm (S.tm rfl)) rfl ?_))));clear S;intro a S
  obtain ⟨r2, hr2, h⟩ := bindE h
  refine l_enter S (fun _ => run_call (vs := [.int .u64 Ag]) ⟨(S.tm rfl), trivial⟩ Tryz.call104) (bits_Len64_ok _ Ag _ hr2) rfl ?_;clear S;intro v2 a w2 hv2 hk2 hn2 S
  subst hv2
  refine lv S (Ra (S.tm rfl)) rfl ?_;clear S;intro a S
  refine Ld (Tn (wp_ret ?_))
  obtain rfl := Option.some.inj h
  exact f_ret S Tryz.results79 rfl rfl
theorem strings_Compare_ok (w : World) (s t : ByteArray) (r : Int) (h : strings_Compare s t = r) : Calls Tryz.prog 59 [.string s, .string t].toArray w (Ret w [] fun _ v _ => v = .int .i64 r) := by
  subst h
  exact ret_of_same (Any.strings_Compare Tryz.lays106 s t w)
theorem tumbref2_ScoredOrder_c1_ok (w : World) (Ak : GScored) (r : Int) (h : tumbref2_ScoredOrder_c1 Ak = r) :
    Calls Tryz.prog 62 [.agg (GScored.enc Ak).toArray].toArray w (Ret w [] fun _ v _ => v = iV r) := by
 refine f_enter [] [] Tryz.func62 rfl Tryz.ntmps62 rfl (by simp) (by simp [fps]) (by simp [fps]) fun a S => ?_
 unfold tumbref2_ScoredOrder_c1 at h
 replace S := S.nk [] [(0, .agg (GScored.enc Ak).toArray)] [] rfl ⟨rfl, trivial⟩
 refine Fs (Fg (l_box S (S.tm rfl) (cs := (GScored.enc Ak)) rfl rfl ?_));clear S;intro a w1 b1 hz1 hk1 S
 refine lv S (Ra rfl) rfl ?_;clear S;intro a S
 refine Ld (Tn (Fs (Fs (Fg (lv S (rn_fld fa_54_3 (S.tm rfl)) rfl ?_)))));clear S;intro a S
 refine lv S (rn_load Tryz.isAgg3 (S.tm rfl) (S.cell (i := 0) rfl rfl)) rfl ?_;clear S;intro a S
 refine lv S (rn_eql (S.tm rfl) rfl) rfl ?_;clear S;intro a S
 refine Ld (Tn (f_cond (S.tm rfl) (fun hb1 => ?_) (fun hb1 => ?_)))
 ·replace h := iteT h hb1
  refine Fs (Fg (lv S (Ra rfl) rfl ?_));clear S;intro a S
  refine Ld (Tn (wp_ret (then_r ?_)))
  subst h
  exact f_ret S Tryz.results62 rfl rfl
 ·replace h := iteF h hb1
  refine wp_skip (Tn (Fs (Fg (lv S (rn_fld fa_54_3 (S.tm rfl)) rfl ?_))));clear S;intro a S
  refine lv S (rn_load Tryz.isAgg3 (S.tm rfl) (S.cell (i := 0) rfl rfl)) rfl ?_;clear S;intro a S
  refine lv S (Ra (S.tm rfl)) rfl ?_;clear S;intro a S
  refine Ld (Tn (wp_ret ?_))
  subst h
  exact f_ret S Tryz.results62 rfl rfl
theorem tumbref2_sign_ok (w : World) (Bb : Int) (r : Int) (h : tumbref2_sign Bb = r) :
    Calls Tryz.prog 63 [iV Bb].toArray w (Ret w [] fun _ v _ => v = iV r) := by
 refine f_enter [] [] Tryz.func63 rfl Tryz.ntmps63 rfl (by simp) (by simp [fps]) (by simp [fps]) fun a S => ?_
 unfold tumbref2_sign at h
 replace S := S.nk [] [(0, iV Bb)] [] rfl ⟨rfl, trivial⟩
 refine Fs (Fg (lv S (Ra rfl) rfl ?_));clear S;intro a S
 refine Ld (Tn (Fs (wp_block (Fs (Fg (lv S (Rm (S.tm rfl)) rfl ?_))))));clear S;intro a S
 refine lv S (rn_lss (S.tm rfl) rfl) rfl ?_;clear S;intro a S
 refine lv S (Ra (S.tm rfl)) rfl ?_;clear S;intro a S
 refine Ld (Tn (f_cond (S.tm rfl) (fun hb1 => ?_) (fun hb1 => ?_)))
 ·replace h := iteT h hb1
  refine Fs (Fg (lv S (Ra rfl) rfl ?_));clear S;intro a S
  refine Ld (Tn (wp_ret (blk_r (then_r ?_))))
  subst h
  exact f_ret S Tryz.results63 rfl rfl
 ·replace h := iteF h hb1
  refine Fs (Fg (lv S (Rm (S.tm rfl)) rfl ?_));clear S;intro a S
  refine lv S (rn_gtr (S.tm rfl) rfl) rfl ?_;clear S;intro a S
  refine lv S (Ra (S.tm rfl)) rfl ?_;clear S;intro a S
  refine Ld (Tn (f_cond (S.tm rfl) (fun hb2 => ?_) (fun hb2 => ?_)))
  ·replace h := iteT h hb2
   refine Fs (Fg (lv S (Ra rfl) rfl ?_));clear S;intro a S
   refine Ld (Tn (wp_ret (blk_r (then_r ?_))))
   subst h
   exact f_ret S Tryz.results63 rfl rfl
  ·replace h := iteF h hb2
   refine wp_skip (blk_n (Tn (Fs (Fg (lv S (Ra rfl) rfl ?_)))));clear S;intro a S
   refine Ld (Tn (wp_ret ?_))
   subst h
   exact f_ret S Tryz.results63 rfl rfl
set_option maxRecDepth 20000 in
theorem tumbref2_ScoredOrder_ok (w : World) (Af : GScored) (Ah : GScored) (r : Int) (h : tumbref2_ScoredOrder Af Ah = r) :
    Calls Tryz.prog 37 [.agg (GScored.enc Af).toArray, .agg (GScored.enc Ah).toArray].toArray w (Ret w [] fun _ v _ => v = iV r) := by
 refine f_enter [] [] Tryz.func37 rfl Tryz.ntmps37 rfl (by simp) (by simp [fps]) (by simp [fps]) fun a S => ?_
 unfold tumbref2_ScoredOrder at h
 replace S := S.nk [] [(0, .agg (GScored.enc Af).toArray), (1, .agg (GScored.enc Ah).toArray)] [] rfl (subR rfl)
 refine Fs (Fg (l_box S (S.tm rfl) (cs := (GScored.enc Af)) rfl rfl ?_));clear S;intro a w1 b1 hz1 hk1 S
 refine l_box S (S.tm rfl) (cs := (GScored.enc Ah)) rfl rfl ?_;clear S;intro a w2 b2 hz2 hk2 S
 refine lv S (Ra rfl) rfl ?_;clear S;intro a S
 refine Ld (Tn (Fs (Fg (lv S (Ra rfl) rfl ?_))));clear S;intro a S
 refine Ld (Tn (Fs (wp_block (Fs (Fg (lv S (rn_fld fa_54_0 (S.tm rfl)) rfl ?_))))));clear S;intro a S
 refine lv S (rn_load Tryz.isAgg9 (S.tm rfl) (S.cell (i := 1) rfl rfl)) rfl ?_;clear S;intro a S
 refine lv S (rn_fld fa_54_0 (S.tm rfl)) rfl ?_;clear S;intro a S
 refine lv S (rn_load Tryz.isAgg9 (S.tm rfl) (S.cell (i := 0) rfl rfl)) rfl ?_;clear S;intro a S
 refine lv S (rn_sneq (S.tm rfl) (S.tm rfl)) rfl ?_;clear S;intro a S
 refine lv S (Ra (S.tm rfl)) rfl ?_;clear S;intro a S
 refine Ld (Tn (f_cond (S.tm rfl) (fun hb1 => ?_) (fun hb1 => ?_)))
 ·replace h := iteT h hb1
  refine Fs (Fg (lv S (rn_fld fa_54_0 (S.tm rfl)) rfl ?_));clear S;intro a S
  refine lv S (rn_load Tryz.isAgg9 (S.tm rfl) (S.cell (i := 1) rfl rfl)) rfl ?_;clear S;intro a S
  refine lv S (rn_fld fa_54_0 (S.tm rfl)) rfl ?_;clear S;intro a S
  refine lv S (rn_load Tryz.isAgg9 (S.tm rfl) (S.cell (i := 0) rfl rfl)) rfl ?_;clear S;intro a S
  refine l_enter S (fun _ => run_call (vs := [sV Af.Race, sV Ah.Race]) ⟨(S.tm rfl), (S.tm rfl), trivial⟩ Tryz.call59) (strings_Compare_ok _ Af.Race Ah.Race _ rfl) rfl ?_;clear S;intro v1 a w3 hv1 hk3 hn1 S
  subst hv1
  refine lv S (Ra (S.tm rfl)) rfl ?_;clear S;intro a S
  refine Ld ?_
  replace S := S.nk [] [(4, iV (strings_Compare Af.Race Ah.Race))] [false, false] rfl ⟨rfl, trivial⟩
  refine Tn (wp_ret (blk_r (then_r ?_)))
  subst h
  exact f_ret S Tryz.results37 rfl rfl
 ·replace h := iteF h hb1
  refine Fs (d_region [] ([]) Tryz.mixed S rfl (by kernel_rfl) ?_);clear S;intro w6 hk6 hsel S
  refine d_quiet 0 S hsel rfl rfl rfl (by kernel_rfl) (by kernel_rfl) rfl (fun _ hw => (Rm (S.tm rfl))) ?_;clear S;intro a S
  refine d_quiet 1 S hsel rfl rfl rfl (by kernel_rfl) (by kernel_rfl) rfl (fun _ hw => (rn_ldA Tryz.isAgg54 Tryz.sizeOf54 (off := 0) (o := 0) (part := (GScored.enc Af)) rfl rfl (S.tm rfl) ((S.blk_mem (i := 1) (cells := (GScored.enc Af)) (b := b1) (T := 54) rfl (ne_nil (e' := .blk b1 (GScored.enc Af) 54))).kept hw))) ?_;clear S;intro a S
  refine d_quiet 3 S hsel rfl rfl rfl (by kernel_rfl) (by kernel_rfl) rfl (fun _ hw => (Rm (S.tm rfl))) ?_;clear S;intro a S
  refine d_quiet 4 S hsel rfl rfl rfl (by kernel_rfl) (by kernel_rfl) rfl (fun _ hw => (rn_ldA Tryz.isAgg54 Tryz.sizeOf54 (off := 0) (o := 0) (part := (GScored.enc Ah)) rfl rfl (S.tm rfl) ((S.blk_mem (i := 0) (cells := (GScored.enc Ah)) (b := b2) (T := 54) rfl (ne_nil (e' := .blk b2 (GScored.enc Ah) 54))).kept hw))) ?_;clear S;intro a S
  refine d_loud1 2 (by kernel_rfl) rfl (l_enter S (fun _ => run_callV (cap := []) (S.tm rfl) (vs := [.agg (GScored.enc Af).toArray]) ⟨(S.tm rfl), trivial⟩ Tryz.call62) (tumbref2_ScoredOrder_c1_ok _ Af _ rfl) rfl ?_);clear S;intro v4 a w7 hv4 hk7 hn4 S
  subst hv4
  refine Ld (d_next hk7 (d_loud1 5 (by kernel_rfl) rfl (l_enter S (fun _ => run_callV (cap := []) (S.tm rfl) (vs := [.agg (GScored.enc Ah).toArray]) ⟨(S.tm rfl), trivial⟩ Tryz.call62) (tumbref2_ScoredOrder_c1_ok _ Ah _ rfl) rfl ?_)));clear S;intro v5 a w8 hv5 hk8 hn5 S
  subst hv5
  refine Ld (d_next hk8 (d_rest [6, 7] hsel (by kernel_rfl) rfl ?_))
  clear hsel
  refine s_lv S rfl (rn_neq (S.tm rfl) (S.tm rfl)) rfl ?_;clear S;intro a S
  refine s_lv S rfl (Ra (S.tm rfl)) rfl ?_;clear S;intro a S
  refine s_done ?_
  replace S := S.nk [.blk b2 (GScored.enc Ah) 54, .blk b1 (GScored.enc Af) 54] [(2, .pointer (some ⟨b1, 0, none⟩)), (3, .pointer (some ⟨b2, 0, none⟩)), (5, .func (.func 62) #[] #[]), (17, bV (!decide ((tumbref2_ScoredOrder_c1 Af) = (tumbref2_ScoredOrder_c1 Ah))))] [true, true] rfl (subR rfl)
  refine Tn (f_cond (S.tm rfl) (fun hb2 => ?_) (fun hb2 => ?_))
  ·replace h := iteT h hb2
   refine Fs (d_region [] ([]) Tryz.mixed S rfl (by kernel_rfl) ?_);clear S;intro w12 hk12 hsel S
   refine d_quiet 0 S hsel rfl rfl rfl (by kernel_rfl) (by kernel_rfl) rfl (fun _ hw => (Rm (S.tm rfl))) ?_;clear S;intro a S
   refine d_quiet 1 S hsel rfl rfl rfl (by kernel_rfl) (by kernel_rfl) rfl (fun _ hw => (rn_ldA Tryz.isAgg54 Tryz.sizeOf54 (off := 0) (o := 0) (part := (GScored.enc Af)) rfl rfl (S.tm rfl) ((S.blk_mem (i := 1) (cells := (GScored.enc Af)) (b := b1) (T := 54) rfl (ne_nil (e' := .blk b1 (GScored.enc Af) 54))).kept hw))) ?_;clear S;intro a S
   refine d_quiet 3 S hsel rfl rfl rfl (by kernel_rfl) (by kernel_rfl) rfl (fun _ hw => (Rm (S.tm rfl))) ?_;clear S;intro a S
   refine d_quiet 4 S hsel rfl rfl rfl (by kernel_rfl) (by kernel_rfl) rfl (fun _ hw => (rn_ldA Tryz.isAgg54 Tryz.sizeOf54 (off := 0) (o := 0) (part := (GScored.enc Ah)) rfl rfl (S.tm rfl) ((S.blk_mem (i := 0) (cells := (GScored.enc Ah)) (b := b2) (T := 54) rfl (ne_nil (e' := .blk b2 (GScored.enc Ah) 54))).kept hw))) ?_;clear S;intro a S
   refine d_loud1 2 (by kernel_rfl) rfl (l_enter S (fun _ => run_callV (cap := []) (S.tm rfl) (vs := [.agg (GScored.enc Af).toArray]) ⟨(S.tm rfl), trivial⟩ Tryz.call62) (tumbref2_ScoredOrder_c1_ok _ Af _ rfl) rfl ?_);clear S;intro v9 a w13 hv9 hk13 hn9 S
   subst hv9
   refine Ld (d_next hk13 (d_loud1 5 (by kernel_rfl) rfl (l_enter S (fun _ => run_callV (cap := []) (S.tm rfl) (vs := [.agg (GScored.enc Ah).toArray]) ⟨(S.tm rfl), trivial⟩ Tryz.call62) (tumbref2_ScoredOrder_c1_ok _ Ah _ rfl) rfl ?_)));clear S;intro v10 a w14 hv10 hk14 hn10 S
   subst hv10
   refine Ld (d_next hk14 (d_quiet 6 S hsel rfl rfl rfl (by kernel_rfl) (by kernel_rfl) rfl (fun _ hw => (rn_sub (S.tm rfl) (S.tm rfl))) ?_));clear S;intro a S
   refine d_loud1 7 (by kernel_rfl) rfl (l_enter S (fun _ => run_call (vs := [iV (W ((tumbref2_ScoredOrder_c1 Af) - (tumbref2_ScoredOrder_c1 Ah)))]) ⟨(S.tm rfl), trivial⟩ Tryz.call63) (tumbref2_sign_ok _ (W ((tumbref2_ScoredOrder_c1 Af) - (tumbref2_ScoredOrder_c1 Ah))) _ rfl) rfl ?_);clear S;intro v11 a w15 hv11 hk15 hn11 S
   subst hv11
   refine Ld (d_next hk15 (d_rest [8] hsel (by kernel_rfl) rfl ?_))
   clear hsel
   refine s_lv S rfl (Ra (S.tm rfl)) rfl ?_;clear S;intro a S
   refine s_done ?_
   replace S := S.nk [] [(4, iV (tumbref2_sign (W ((tumbref2_ScoredOrder_c1 Af) - (tumbref2_ScoredOrder_c1 Ah)))))] [false, false] rfl ⟨rfl, trivial⟩
   refine Tn (wp_ret (blk_r (then_r ?_)))
   subst h
   exact f_ret S Tryz.results37 rfl rfl
  ·replace h := iteF h hb2
   refine wp_skip (blk_n (Tn (Fs (Fg (lv S (rn_fld fa_54_1 (S.tm rfl)) rfl ?_)))));clear S;intro a S
   refine lv S (rn_load Tryz.isAgg9 (S.tm rfl) (S.cell (i := 1) rfl rfl)) rfl ?_;clear S;intro a S
   refine lv S (rn_fld fa_54_1 (S.tm rfl)) rfl ?_;clear S;intro a S
   refine lv S (rn_load Tryz.isAgg9 (S.tm rfl) (S.cell (i := 0) rfl rfl)) rfl ?_;clear S;intro a S
   refine l_enter S (fun _ => run_call (vs := [sV Af.Who, sV Ah.Who]) ⟨(S.tm rfl), (S.tm rfl), trivial⟩ Tryz.call59) (strings_Compare_ok _ Af.Who Ah.Who _ rfl) rfl ?_;clear S;intro v12 a w16 hv12 hk16 hn12 S
   subst hv12
   refine lv S (Ra (S.tm rfl)) rfl ?_;clear S;intro a S
   refine Ld (Tn (wp_ret ?_))
   subst h
   exact f_ret S Tryz.results37 rfl rfl
set_option maxRecDepth 20000 in
theorem slices_insertionSortCmpFunc_Scored_tumbref2_ScoredOrder_ok (w : World) (Ac : Value) (Ap : List GScored) (By : (LEnt.own Ac 54 5 Ap.length (Ap.flatMap GScored.enc)).holds w) (Af : Int) (Ah : Int) (r : (List GScored)) (h : slices_insertionSortCmpFunc_Scored_tumbref2_ScoredOrder Ap Af Ah = some r) :
    Calls Tryz.prog 95 [Ac, iV Af, iV Ah, .func (.func 37) #[] #[]].toArray w (Ret w (Ac.ownBlock.toList) fun _ v w' => (LEnt.own Ac 54 5 r.length (r.flatMap GScored.enc)).holds w' ∧ v = .tuple #[]) := by
 refine f_enter (Ac.ownBlock.toList) [.own Ac 54 5 Ap.length (Ap.flatMap GScored.enc)] Tryz.func95 rfl Tryz.ntmps95 rfl (fun e he => by simp only [List.mem_singleton] at he;subst he;exact By) (fps_one_nodup _) (fps_one_sub _) fun a S => ?_
 unfold slices_insertionSortCmpFunc_Scored_tumbref2_ScoredOrder at h
 replace S := S.nk [.own Ac 54 5 Ap.length (Ap.flatMap GScored.enc)] [(0, Ac), (1, iV Af), (2, iV Ah), (3, .func (.func 37) #[] #[])] [true] rfl (subR rfl)
 refine Fs (Fg (lv S (Rm (S.tm rfl)) rfl ?_));clear S;intro a S
 refine lv S (rn_add (S.tm rfl) rfl) rfl ?_;clear S;intro a S
 refine lv S (Ra (S.tm rfl)) rfl ?_;clear S;intro a S
 refine Ld (Tn ?_)
 replace S := S.nk [.own Ac 54 5 Ap.length (Ap.flatMap GScored.enc)] [(0, Ac), (1, iV Af), (2, iV Ah), (3, .func (.func 37) #[] #[]), (8, iV (W (Af + 1)))] [true] rfl (subR rfl)
 obtain ⟨j1, hj1, h⟩ := joinE h
 refine f_join (fun a w' => ∃ x1 : List GScored, j1 x1 = some r ∧ Sx w (Ac.ownBlock.toList) nov [.own Ac 54 5 x1.length (x1.flatMap GScored.enc)] [] 53 a w') ?_ ?_
 ·refine wp_block (f_loop (fun (m1 : Nat) a w' => ∃ x1 : List GScored, ∃ x2 : Int, slices_insertionSortCmpFunc_Scored_tumbref2_ScoredOrder_l1 Ah Af j1 m1 x1 x2 = some r ∧ Sx w (Ac.ownBlock.toList) nov [.own Ac 54 5 x1.length (x1.flatMap GScored.enc)] [(0, Ac), (1, iV Af), (2, iV Ah), (3, .func (.func 37) #[] #[]), (8, iV x2)] 53 a w') id ((Ah - (W (Af + 1))).toNat + 2) ⟨Ap, W (Af + 1), h, S.nf [true] rfl (subR rfl)⟩ ?_)
  clear S h;rintro m1 a w1 ⟨x1, x2, h, S⟩
  cases m1 with
  | zero => rw [slices_insertionSortCmpFunc_Scored_tumbref2_ScoredOrder_l1.eq_1] at h;cases h
  | succ m1 =>
   rw [slices_insertionSortCmpFunc_Scored_tumbref2_ScoredOrder_l1.eq_2] at h
   refine Fs (Fs (Fg (lv S (Rm (S.tm rfl)) rfl ?_)));clear S;intro a S
   refine lv S (Rm (S.tm rfl)) rfl ?_;clear S;intro a S
   refine lv S (rn_lss (S.tm rfl) (S.tm rfl)) rfl ?_;clear S;intro a S
   refine Ld (Tn (f_cond (S.tm rfl) (fun hb1 => ?_) (fun hb1 => ?_)))
   ·replace h := iteT h hb1
    refine wp_skip (Tn (Fs (wp_block (Fs (Fg (lv S (Rm (S.tm rfl)) rfl ?_))))));clear S;intro a S
    refine lv S (Ra (S.tm rfl)) rfl ?_;clear S;intro a S
    refine Ld (Tn ?_)
    replace S := S.nk [.own Ac 54 5 x1.length (x1.flatMap GScored.enc)] [(0, Ac), (1, iV Af), (2, iV Ah), (3, .func (.func 37) #[] #[]), (8, iV x2), (9, iV x2)] [true] rfl (subR rfl)
    obtain ⟨j2, hj2, h⟩ := joinE h
    refine f_join (fun a w' => ∃ x3 : List GScored, j2 x3 = some r ∧ Sx w (Ac.ownBlock.toList) nov [.own Ac 54 5 x3.length (x3.flatMap GScored.enc)] [(0, Ac), (1, iV Af), (2, iV Ah), (3, .func (.func 37) #[] #[]), (8, iV x2)] 53 a w') ?_ ?_
    ·refine wp_block (f_loop (fun (m2 : Nat) a w' => ∃ x3 : List GScored, ∃ x4 : Int, slices_insertionSortCmpFunc_Scored_tumbref2_ScoredOrder_l2 Af j2 m2 x3 x4 = some r ∧ Sx w (Ac.ownBlock.toList) nov [.own Ac 54 5 x3.length (x3.flatMap GScored.enc)] [(0, Ac), (1, iV Af), (2, iV Ah), (3, .func (.func 37) #[] #[]), (8, iV x2), (9, iV x4)] 53 a w') id ((x2 - Af).toNat + 2) ⟨x1, x2, h, S.nf [true] rfl (subR rfl)⟩ ?_)
     clear S h;rintro m2 a w3 ⟨x3, x4, h, S⟩
     cases m2 with
     | zero => rw [slices_insertionSortCmpFunc_Scored_tumbref2_ScoredOrder_l2.eq_1] at h;cases h
     | succ m2 =>
      rw [slices_insertionSortCmpFunc_Scored_tumbref2_ScoredOrder_l2.eq_2] at h
      refine Fs (Fs ?_)
      obtain ⟨j3, hj3, h⟩ := joinE h
      refine f_join (fun a w' => ∃ x5 : Bool, j3 x5 = some r ∧ Sx w (Ac.ownBlock.toList) nov [.own Ac 54 5 x3.length (x3.flatMap GScored.enc)] [(0, Ac), (1, iV Af), (2, iV Ah), (3, .func (.func 37) #[] #[]), (8, iV x2), (9, iV x4), (34, bV x5)] 53 a w') ?_ ?_
      ·rcases Bool.eq_false_or_eq_true (decide (Af < x4)) with hb2 | hb2
       ·replace h := iteT h hb2
        obtain ⟨hc1, h⟩ := chkE h
        obtain ⟨hc2, h⟩ := chkE h
        refine d_region [] ([]) Tryz.mixed S rfl (by kernel_rfl) ?_;clear S;intro w7 hk2 hsel S
        refine d_quiet 0 S hsel rfl rfl rfl (by kernel_rfl) (by kernel_rfl) rfl (fun _ hw => (Rm (S.tm rfl))) ?_;clear S;intro a S
        refine d_quiet 1 S hsel rfl rfl rfl (by kernel_rfl) (by kernel_rfl) rfl (fun _ hw => (Rm (S.tm rfl))) ?_;clear S;intro a S
        refine d_quiet 2 S hsel rfl rfl rfl (by kernel_rfl) (by kernel_rfl) rfl (fun _ hw => (rn_gtr (S.tm rfl) (S.tm rfl))) ?_;clear S;intro a S
        refine d_quiet 3 S hsel rfl rfl rfl (by kernel_rfl) (by kernel_rfl) rfl (fun _ hw => (Rm (S.tm rfl))) ?_;clear S;intro a S
        refine d_quiet_g 4 S hsel rfl rfl rfl rfl hb2 rfl rfl (by kernel_rfl) (by kernel_rfl) rfl (fun _ hw => (Rm (S.tm rfl))) ?_;clear S;intro a S
        refine d_quiet_g 5 S hsel rfl rfl rfl rfl hb2 rfl rfl (by kernel_rfl) (by kernel_rfl) rfl (fun _ hw => (Rm (S.tm rfl))) ?_;clear S;intro a S
        refine d_quiet_g 6 S hsel rfl rfl rfl rfl hb2 rfl rfl (by kernel_rfl) (by kernel_rfl) rfl (fun _ hw => (Rm (S.tm rfl))) ?_;clear S;intro a S
        obtain ⟨b3, hg3, hr3⟩ := rn_indexS (a := a) (x := .tmp 23) (y := .tmp 24) (ty := 0) sl_29 GScored.enc_ok S (i := 0) rfl (inB_get hc1).1 (inB_get hc1).2 (S.tm rfl) (S.tm rfl)
        refine d_quiet_g 7 S hsel rfl rfl rfl rfl hb2 rfl rfl (by kernel_rfl) (by kernel_rfl) rfl (fun _ hw => (hr3 _)) ?_;clear S;intro a S
        clear hr3
        refine d_quiet_g 8 S hsel rfl rfl rfl rfl hb2 rfl rfl (by kernel_rfl) (by kernel_rfl) rfl (fun _ hw => (rn_ldA Tryz.isAgg54 Tryz.sizeOf54 (off := x4.toNat * 5) (o := 0) (part := (GScored.enc (nth x3 x4))) rfl rfl (S.tm rfl) ((own_mem GScored.enc_ok S (i := 0) rfl hg3 (inB_get hc1).1 (ne_nil (e' := .own Ac 54 5 x3.length (x3.flatMap GScored.enc)))).kept hw))) ?_;clear S;intro a S
        refine d_quiet_g 9 S hsel rfl rfl rfl rfl hb2 rfl rfl (by kernel_rfl) (by kernel_rfl) rfl (fun _ hw => (Rm (S.tm rfl))) ?_;clear S;intro a S
        refine d_quiet_g 10 S hsel rfl rfl rfl rfl hb2 rfl rfl (by kernel_rfl) (by kernel_rfl) rfl (fun _ hw => (Rm (S.tm rfl))) ?_;clear S;intro a S
        refine d_quiet_g 11 S hsel rfl rfl rfl rfl hb2 rfl rfl (by kernel_rfl) (by kernel_rfl) rfl (fun _ hw => (rn_sub (S.tm rfl) rfl)) ?_;clear S;intro a S
        obtain ⟨b4, hg4, hr4⟩ := rn_indexS (a := a) (x := .tmp 27) (y := .tmp 29) (ty := 0) sl_29 GScored.enc_ok S (i := 0) rfl (inB_get hc2).1 (inB_get hc2).2 (S.tm rfl) (S.tm rfl)
        refine d_quiet_g 12 S hsel rfl rfl rfl rfl hb2 rfl rfl (by kernel_rfl) (by kernel_rfl) rfl (fun _ hw => (hr4 _)) ?_;clear S;intro a S
        clear hr4
        refine d_quiet_g 13 S hsel rfl rfl rfl rfl hb2 rfl rfl (by kernel_rfl) (by kernel_rfl) rfl (fun _ hw => (rn_ldA Tryz.isAgg54 Tryz.sizeOf54 (off := ((W (x4 - 1)).toNat) * 5) (o := 0) (part := (GScored.enc (nth x3 (W (x4 - 1))))) rfl rfl (S.tm rfl) ((own_mem GScored.enc_ok S (i := 0) rfl hg4 (inB_get hc2).1 (ne_nil (e' := .own Ac 54 5 x3.length (x3.flatMap GScored.enc)))).kept hw))) ?_;clear S;intro a S
        refine d_loud1 14 (by kernel_rfl) rfl (l_want S rfl rfl rfl hb2 (l_enter S (fun _ => run_callV (cap := []) (S.tm rfl) (vs := [.agg (GScored.enc (nth x3 x4)).toArray, .agg (GScored.enc (nth x3 (W (x4 - 1)))).toArray]) ⟨(S.tm rfl), (S.tm rfl), trivial⟩ Tryz.call37) (tumbref2_ScoredOrder_ok _ (nth x3 x4) (nth x3 (W (x4 - 1))) _ rfl) rfl ?_));clear S;intro v2 a w8 hv2 hk3 hn2 S
        subst hv2
        refine Ld (d_next hk3 (d_rest [15, 16] hsel (by kernel_rfl) rfl ?_))
        clear hsel
        refine s_want S rfl rfl rfl rfl hb2 (s_lv0 S (rn_lss (S.tm rfl) rfl) rfl ?_);clear S;intro a S
        refine s_lv S rfl (rn_pick_b hb2 (S.tm rfl) (S.tm rfl)) rfl ?_;clear S;intro a S
        refine s_done ?_
        replace S := S.nk [.own Ac 54 5 x3.length (x3.flatMap GScored.enc)] [(0, Ac), (1, iV Af), (2, iV Ah), (3, .func (.func 37) #[] #[]), (8, iV x2), (9, iV x4), (22, .func (.func 37) #[] #[]), (23, Ac), (24, iV x4), (25, .pointer (some ⟨b3, x4.toNat * 5, none⟩)), (26, .agg (GScored.enc (nth x3 x4)).toArray), (27, Ac), (28, iV x4), (29, iV (W (x4 - 1))), (30, .pointer (some ⟨b4, ((W (x4 - 1)).toNat) * 5, none⟩)), (31, .agg (GScored.enc (nth x3 (W (x4 - 1)))).toArray), (32, iV (tumbref2_ScoredOrder (nth x3 x4) (nth x3 (W (x4 - 1))))), (33, bV (decide ((tumbref2_ScoredOrder (nth x3 x4) (nth x3 (W (x4 - 1)))) < 0))), (34, bV (decide ((tumbref2_ScoredOrder (nth x3 x4) (nth x3 (W (x4 - 1)))) < 0)))] [true] rfl (subR rfl)
        refine Tn ?_
        exact ⟨decide ((tumbref2_ScoredOrder (nth x3 x4) (nth x3 (W (x4 - 1)))) < 0), h, S.nf [true] rfl (subR rfl)⟩
       ·replace h := iteF h hb2
        refine d_region [] ([]) Tryz.mixed S rfl (by kernel_rfl) ?_;clear S;intro w9 hk4 hsel S
        refine d_rest [0, 1, 2, 3, 4, 5, 6, 7, 8, 9, 10, 11, 12, 13, 14, 15, 16] hsel (by kernel_rfl) rfl ?_
        clear hsel
        refine s_lv S rfl (Rm (S.tm rfl)) rfl ?_;clear S;intro a S
        refine s_lv S rfl (Rm (S.tm rfl)) rfl ?_;clear S;intro a S
        refine s_lv S rfl (rn_gtr (S.tm rfl) (S.tm rfl)) rfl ?_;clear S;intro a S
        refine s_lv S rfl (Rm (S.tm rfl)) rfl ?_;clear S;intro a S
        iterate 12 (refine s_skip S rfl rfl rfl rfl (neq_f hb2) rfl ?_ rfl;clear S;intro a S)
        refine s_lv S rfl (rn_pick_c hb2 (S.tm rfl) rfl) rfl ?_;clear S;intro a S
        refine s_done ?_
        replace S := S.nk [.own Ac 54 5 x3.length (x3.flatMap GScored.enc)] [(0, Ac), (1, iV Af), (2, iV Ah), (3, .func (.func 37) #[] #[]), (8, iV x2), (9, iV x4), (34, bV false)] [true] rfl (subR rfl)
        refine Tn ?_
        exact ⟨false, h, S.nf [true] rfl (subR rfl)⟩
      clear S h;rintro a w5 ⟨x5, h, S⟩;rw [hj3] at h;clear hj3 j3
      refine Tn (f_cond (S.tm rfl) (fun hb3 => ?_) (fun hb3 => ?_))
      ·replace h := iteT h hb3
       refine wp_skip (Tn (Fs (wp_block ?_)))
       obtain ⟨hc3, h⟩ := chkE h
       obtain ⟨hc4, h⟩ := chkE h
       obtain ⟨hc5, h⟩ := chkE h
       obtain ⟨hc6, h⟩ := chkE h
       refine d_region [15, 17] ([]) Tryz.mixed S rfl (by kernel_rfl) ?_;clear S;intro w14 hk9 hsel S
       refine d_pure 0 S hsel rfl rfl (by kernel_rfl) (by kernel_rfl) rfl (fun _ => (Rm (S.tm rfl))) ?_;clear S;intro a S
       refine d_pure 1 S hsel rfl rfl (by kernel_rfl) (by kernel_rfl) rfl (fun _ => (Rm (S.tm rfl))) ?_;clear S;intro a S
       refine d_pure 2 S hsel rfl rfl (by kernel_rfl) (by kernel_rfl) rfl (fun _ => (Rm (S.tm rfl))) ?_;clear S;intro a S
       refine d_pure 3 S hsel rfl rfl (by kernel_rfl) (by kernel_rfl) rfl (fun _ => (Rm (S.tm rfl))) ?_;clear S;intro a S
       refine d_pure 4 S hsel rfl rfl (by kernel_rfl) (by kernel_rfl) rfl (fun _ => (rn_sub (S.tm rfl) rfl)) ?_;clear S;intro a S
       refine d_pure 5 S hsel rfl rfl (by kernel_rfl) (by kernel_rfl) rfl (fun _ => (Rm (S.tm rfl))) ?_;clear S;intro a S
       refine d_pure 6 S hsel rfl rfl (by kernel_rfl) (by kernel_rfl) rfl (fun _ => (Rm (S.tm rfl))) ?_;clear S;intro a S
       refine d_pure 7 S hsel rfl rfl (by kernel_rfl) (by kernel_rfl) rfl (fun _ => (rn_sub (S.tm rfl) rfl)) ?_;clear S;intro a S
       obtain ⟨b9, hg9, hr9⟩ := rn_indexS (a := a) (x := .tmp 42) (y := .tmp 44) (ty := 0) sl_29 GScored.enc_ok S (i := 0) rfl (inB_get hc3).1 (inB_get hc3).2 (S.tm rfl) (S.tm rfl)
       refine d_pure 8 S hsel rfl rfl (by kernel_rfl) (by kernel_rfl) rfl (fun _ => (hr9 _)) ?_;clear S;intro a S
       clear hr9
       refine d_quiet 9 S hsel rfl (by kernel_rfl) (by kernel_rfl) (by kernel_rfl) (by kernel_rfl) rfl (fun _ hw => (rn_ldA Tryz.isAgg54 Tryz.sizeOf54 (off := ((W (x4 - 1)).toNat) * 5) (o := 0) (part := (GScored.enc (nth x3 (W (x4 - 1))))) rfl rfl (S.tm rfl) ((own_mem GScored.enc_ok S (i := 0) rfl hg9 (inB_get hc3).1 (ne_nil (e' := .own Ac 54 5 x3.length (x3.flatMap GScored.enc)))).kept hw))) ?_;clear S;intro a S
       refine d_pure 10 S hsel rfl rfl (by kernel_rfl) (by kernel_rfl) rfl (fun _ => (Rm (S.tm rfl))) ?_;clear S;intro a S
       refine d_pure 11 S hsel rfl rfl (by kernel_rfl) (by kernel_rfl) rfl (fun _ => (Rm (S.tm rfl))) ?_;clear S;intro a S
       obtain ⟨b10, hg10, hr10⟩ := rn_indexS (a := a) (x := .tmp 47) (y := .tmp 48) (ty := 0) sl_29 GScored.enc_ok S (i := 0) rfl (inB_get hc4).1 (inB_get hc4).2 (S.tm rfl) (S.tm rfl)
       refine d_pure 12 S hsel rfl rfl (by kernel_rfl) (by kernel_rfl) rfl (fun _ => (hr10 _)) ?_;clear S;intro a S
       clear hr10
       refine d_quiet 13 S hsel rfl (by kernel_rfl) (by kernel_rfl) (by kernel_rfl) (by kernel_rfl) rfl (fun _ hw => (rn_ldA Tryz.isAgg54 Tryz.sizeOf54 (off := x4.toNat * 5) (o := 0) (part := (GScored.enc (nth x3 x4))) rfl rfl (S.tm rfl) ((own_mem GScored.enc_ok S (i := 0) rfl hg10 (inB_get hc4).1 (ne_nil (e' := .own Ac 54 5 x3.length (x3.flatMap GScored.enc)))).kept hw))) ?_;clear S;intro a S
       obtain ⟨b11, hg11, hr11⟩ := rn_indexS (a := a) (x := .tmp 37) (y := .tmp 38) (ty := 0) sl_29 GScored.enc_ok S (i := 0) rfl (inB_get hc5).1 (inB_get hc5).2 (S.tm rfl) (S.tm rfl)
       refine d_pure 14 S hsel rfl rfl (by kernel_rfl) (by kernel_rfl) rfl (fun _ => (hr11 _)) ?_;clear S;intro a S
       clear hr11
       refine d_loudB 15 (Ac.ownBlock.toList) rfl (by kernel_rfl) rfl (l_storeO (c := 0) (j := x4.toNat) (nth x3 (W (x4 - 1))) GScored.enc_ok S (S.tm rfl) (S.tm rfl) (i := 0) rfl hg11 (inB_get hc5).1 Tryz.sizeOf54 (vs := [sV ((nth x3 (W (x4 - 1))).Race), sV ((nth x3 (W (x4 - 1))).Who), sV ((nth x3 (W (x4 - 1))).Club), iV ((nth x3 (W (x4 - 1))).Rank), bV ((nth x3 (W (x4 - 1))).Relay)]) rfl rfl rfl rfl rfl ?_);clear S;intro w16 hk11 S
       refine Ld (d_nextB ?_)
       obtain ⟨b12, hg12, hr12⟩ := rn_indexS (a := a) (x := .tmp 39) (y := .tmp 41) (ty := 0) sl_29 GScored.enc_ok S (i := 0) rfl (inB_get hc6).1 (inB_get hc6).2 (S.tm rfl) (S.tm rfl)
       refine d_quiet 16 S hsel rfl rfl rfl (by kernel_rfl) (by kernel_rfl) rfl (fun _ hw => (hr12 _)) ?_;clear S;intro a S
       clear hr12
       refine d_loud1 17 (by kernel_rfl) rfl (l_storeO (c := 0) (j := (W (x4 - 1)).toNat) (nth x3 x4) GScored.enc_ok S (S.tm rfl) (S.tm rfl) (i := 0) rfl hg12 (inB_get hc6).1 Tryz.sizeOf54 (vs := [sV ((nth x3 x4).Race), sV ((nth x3 x4).Who), sV ((nth x3 x4).Club), iV ((nth x3 x4).Rank), bV ((nth x3 x4).Relay)]) rfl rfl rfl rfl rfl ?_);clear S;intro w18 hk13 S
       refine Ld (d_next hk13 (d_end (by kernel_rfl) ?_))
       clear hsel
       replace S := S.nk [.own Ac 54 5 ((x3.set x4.toNat (nth x3 (W (x4 - 1)))).set ((W (x4 - 1)).toNat) (nth x3 x4)).length (((x3.set x4.toNat (nth x3 (W (x4 - 1)))).set ((W (x4 - 1)).toNat) (nth x3 x4)).flatMap GScored.enc)] [(0, Ac), (1, iV Af), (2, iV Ah), (3, .func (.func 37) #[] #[]), (8, iV x2), (9, iV x4)] [true] rfl (subR rfl)
       refine blk_n (Tn (Fg (lv S (Rm (S.tm rfl)) rfl ?_)));clear S;intro a S
       refine lv S (rn_sub (S.tm rfl) rfl) rfl ?_;clear S;intro a S
       refine lv S (Ra (S.tm rfl)) rfl ?_;clear S;intro a S
       refine Ld (Tn ?_)
       exact ⟨m2, ⟨((x3.set x4.toNat (nth x3 (W (x4 - 1)))).set ((W (x4 - 1)).toNat) (nth x3 x4)), W (x4 - 1), h, S.nf [true] rfl ⟨rfl, rfl, rfl, rfl, rfl, rfl, trivial⟩⟩, Nat.lt_succ_self _⟩
      ·replace h := iteF h hb3
       refine wp_exit (then_x (then_x (x_same (Tn ?_))))
       exact ⟨x3, h, S.nf [true] rfl (subR rfl)⟩
    clear S h;rintro a w4 ⟨x3, h, S⟩;rw [hj2] at h;clear hj2 j2
    refine blk_n (Tn (Fg (lv S (Rm (S.tm rfl)) rfl ?_)));clear S;intro a S
    refine lv S (rn_add (S.tm rfl) rfl) rfl ?_;clear S;intro a S
    refine lv S (Ra (S.tm rfl)) rfl ?_;clear S;intro a S
    refine Ld (Tn ?_)
    exact ⟨m1, ⟨x3, W (x2 + 1), h, S.nf [true] rfl ⟨rfl, rfl, rfl, rfl, rfl, trivial⟩⟩, Nat.lt_succ_self _⟩
   ·replace h := iteF h hb1
    refine wp_exit (then_x (then_x (x_same (Tn ?_))))
    exact ⟨x1, h, S.nf [true] rfl trivial⟩
 clear S h;rintro a w2 ⟨x1, h, S⟩;rw [hj1] at h;clear hj1 j1
 obtain rfl := Option.some.inj h
 exact f_ret0 S Tryz.results95 ⟨(S.holds _ (List.mem_of_getElem? (i := 0) rfl)), rfl⟩
theorem slices_pdqsortCmpFunc_Scored_tumbref2_ScoredOrder_ok (w : World) (Ac : Value) (Ap : List GScored) (By : (LEnt.own Ac 54 5 Ap.length (Ap.flatMap GScored.enc)).holds w) (Af : Int) (Ah : Int) (Bt : Int) (r : (List GScored)) (h : slices_pdqsortCmpFunc_Scored_tumbref2_ScoredOrder Ap Af Ah Bt = some r) :
    Calls Tryz.prog 78 [Ac, iV Af, iV Ah, iV Bt, .func (.func 37) #[] #[]].toArray w (Ret w (Ac.ownBlock.toList) fun _ v w' => (LEnt.own Ac 54 5 r.length (r.flatMap GScored.enc)).holds w' ∧ v = .tuple #[]) := by
 refine f_enter (Ac.ownBlock.toList) [.own Ac 54 5 Ap.length (Ap.flatMap GScored.enc)] Tryz.func78 rfl Tryz.ntmps78 rfl (fun e he => by simp only [List.mem_singleton] at he;subst he;exact By) (fps_one_nodup _) (fps_one_sub _) fun a S => ?_
 unfold slices_pdqsortCmpFunc_Scored_tumbref2_ScoredOrder at h
 replace S := S.nk [.own Ac 54 5 Ap.length (Ap.flatMap GScored.enc)] [(0, Ac), (1, iV Af), (2, iV Ah), (3, iV Bt), (4, .func (.func 37) #[] #[])] [true] rfl (subR rfl)
 refine Fs (Fg (lv S (Ra rfl) rfl ?_));clear S;intro a S
 refine Ld (Tn (Fs (Fg (lv S (Ra rfl) rfl ?_))));clear S;intro a S
 refine Ld (Tn ?_)
 replace S := S.nk [.own Ac 54 5 Ap.length (Ap.flatMap GScored.enc)] [(0, Ac), (1, iV Af), (2, iV Ah), (3, iV Bt), (4, .func (.func 37) #[] #[]), (10, bV true)] [true] rfl (subR rfl)
 refine f_join (fun a w' => False) ?_ ?_
 ·refine wp_block (f_loop (fun (m1 : Nat) a w' => ∃ x1 : Int, ∃ x2 : Int, ∃ x3 : Int, ∃ x4 : Bool, slices_pdqsortCmpFunc_Scored_tumbref2_ScoredOrder_l1 Ap m1 x1 x2 x3 x4 = some r ∧ Sx w (Ac.ownBlock.toList) nov [.own Ac 54 5 Ap.length (Ap.flatMap GScored.enc)] [(0, Ac), (1, iV x1), (2, iV x2), (3, iV x3), (4, .func (.func 37) #[] #[]), (10, bV x4)] 148 a w') id 4611686018427387904 ⟨Af, Ah, Bt, true, h, S.nf [true] rfl (subR rfl)⟩ ?_)
  clear S h;rintro m1 a w1 ⟨x1, x2, x3, x4, h, S⟩
  cases m1 with
  | zero => rw [slices_pdqsortCmpFunc_Scored_tumbref2_ScoredOrder_l1.eq_1] at h;cases h
  | succ m1 =>
   rw [slices_pdqsortCmpFunc_Scored_tumbref2_ScoredOrder_l1.eq_2] at h
   refine wp_block (Fs (Fg (lv S (Rm (S.tm rfl)) rfl ?_)));clear S;intro a S
   refine lv S (Rm (S.tm rfl)) rfl ?_;clear S;intro a S
   refine lv S (rn_sub (S.tm rfl) (S.tm rfl)) rfl ?_;clear S;intro a S
   refine lv S (Ra (S.tm rfl)) rfl ?_;clear S;intro a S
   refine Ld (Tn (Fs (Fs (Fg (lv S (Rm (S.tm rfl)) rfl ?_)))));clear S;intro a S
   refine lv S (rn_leq (S.tm rfl) rfl) rfl ?_;clear S;intro a S
   refine Ld (Tn (f_cond (S.tm rfl) (fun hb1 => ?_) (fun hb1 => ?_)))
   ·replace h := iteT h hb1
    refine Fs (Fg (lv S (Rm (S.tm rfl)) rfl ?_));clear S;intro a S
    iterate 3 (refine lv S (Rm (S.tm rfl)) rfl ?_;clear S;intro a S)
    obtain ⟨r1, hr1, h⟩ := bindE h
    refine l_enterO 0 S rfl (fun _ => .own Ac 54 5 r1.length (r1.flatMap GScored.enc)) (fun _ => run_call (vs := [Ac, iV x1, iV x2, .func (.func 37) #[] #[]]) ⟨(S.tm rfl), (S.tm rfl), (S.tm rfl), (S.tm rfl), trivial⟩ Tryz.call95) (slices_insertionSortCmpFunc_Scored_tumbref2_ScoredOrder_ok _ Ac Ap (S.holds _ (List.mem_of_getElem? (i := 0) rfl)) x1 x2 _ hr1) rfl (fun _ _ _ h => ⟨h.1, fun _ hc => hc⟩) ?_;clear S;intro v1 a w3 hv1 hk1 hn1 S
    replace hv1 := hv1.2
    subst hv1
    refine Ld ?_
    replace S := S.nk [.own Ac 54 5 r1.length (r1.flatMap GScored.enc)] [] [true] rfl trivial
    refine Tn (wp_ret (then_r (blk_r (then_r (blk_r (then_r ?_))))))
    obtain rfl := Option.some.inj h
    exact f_ret0 S Tryz.results78 ⟨(S.holds _ (List.mem_of_getElem? (i := 0) rfl)), rfl⟩
   ·replace h := iteF h hb1
    refine wp_skip (Tn (Fs (Fs (Fg (lv S (Rm (S.tm rfl)) rfl ?_)))));clear S;intro a S
    refine lv S (rn_eql (S.tm rfl) rfl) rfl ?_;clear S;intro a S
    refine Ld (Tn (f_cond (S.tm rfl) (fun hb2 => ?_) (fun hb2 => ?_)))
    ·replace h := iteT h hb2
     refine Fs ?_
     cases h
    ·replace h := iteF h hb2
     refine wp_skip (Tn (Fs (Fs (Fg (lv S (Rm (S.tm rfl)) rfl ?_)))));clear S;intro a S
     refine lv S (rn_not (S.tm rfl)) rfl ?_;clear S;intro a S
     refine Ld ?_
     replace S := S.nk [.own Ac 54 5 Ap.length (Ap.flatMap GScored.enc)] [(39, bV (!x4))] [true] rfl ⟨rfl, trivial⟩
     refine Tn (f_cond (S.tm rfl) (fun hb3 => ?_) (fun hb3 => ?_))
     ·replace h := iteT h hb3
      refine Fs ?_
      cases h
     ·replace h := iteF h hb3
      refine wp_skip (Tn (Fs ?_))
      cases h
 exact fun _ _ h => h.elim
theorem slices_SortFunc_Scored_tumbref2_ScoredOrder_ok (w : World) (Bc : Value) (Ag : List GScored) (Cw : (LEnt.own Bc 54 5 Ag.length (Ag.flatMap GScored.enc)).holds w) (r : (List GScored)) (h : slices_SortFunc_Scored_tumbref2_ScoredOrder Ag = some r) :
    Calls Tryz.prog 53 [Bc, .func (.func 37) #[] #[]].toArray w (Ret w (Bc.ownBlock.toList) fun _ v w' => (LEnt.own Bc 54 5 r.length (r.flatMap GScored.enc)).holds w' ∧ v = .tuple #[]) := by
 refine f_enter (Bc.ownBlock.toList) [.own Bc 54 5 Ag.length (Ag.flatMap GScored.enc)] Tryz.func53 rfl Tryz.ntmps53 rfl (fun e he => by simp only [List.mem_singleton] at he;subst he;exact Cw) (fps_one_nodup _) (fps_one_sub _) fun a S => ?_
 unfold slices_SortFunc_Scored_tumbref2_ScoredOrder at h
 replace S := S.nk [.own Bc 54 5 Ag.length (Ag.flatMap GScored.enc)] [(0, Bc), (1, .func (.func 37) #[] #[])] [true] rfl (subR rfl)
 refine Fs (Fg (lv S (Rm (S.tm rfl)) rfl ?_));clear S;intro a S
 refine lv S (rn_lenT sl_29 (S.tm rfl) (own_len (S.own_at (i := 0) rfl))) rfl ?_;clear S;intro a S
 refine lv S (Ra (S.tm rfl)) rfl ?_;clear S;intro a S
 refine Ld (Tn (Fg (lv S (Rm (S.tm rfl)) rfl ?_)));clear S;intro a S
 refine lv S (Rm (S.tm rfl)) rfl ?_;clear S;intro a S
 refine lv S (Rm (S.tm rfl)) rfl ?_;clear S;intro a S
 refine lv S (rn_conv Tryz.underlying3 Tryz.underlying108 (S.tm rfl)) rfl ?_;clear S;intro a S
 obtain ⟨r1, hr1, h⟩ := bindE h
 refine l_enter S (fun _ => run_call (vs := [.int .u64 (IntKind.wrap .u64 (Ag.length : Int))]) ⟨(S.tm rfl), trivial⟩ Tryz.call79) (bits_Len_ok _ (IntKind.wrap .u64 (Ag.length : Int)) _ hr1) rfl ?_;clear S;intro v1 a w1 hv1 hk1 hn1 S
 subst hv1
 refine lv S (Rm (S.tm rfl)) rfl ?_;clear S;intro a S
 obtain ⟨r2, hr2, h⟩ := bindE h
 refine l_enterO 0 S rfl (fun _ => .own Bc 54 5 r2.length (r2.flatMap GScored.enc)) (fun _ => run_call (vs := [Bc, iV 0, iV (Ag.length : Int), iV r1, .func (.func 37) #[] #[]]) ⟨(S.tm rfl), rfl, (S.tm rfl), (S.tm rfl), (S.tm rfl), trivial⟩ Tryz.call78) (slices_pdqsortCmpFunc_Scored_tumbref2_ScoredOrder_ok _ Bc Ag (S.holds _ (List.mem_of_getElem? (i := 0) rfl)) 0 (Ag.length : Int) r1 _ hr2) rfl (fun _ _ _ h => ⟨h.1, fun _ hc => hc⟩) ?_;clear S;intro v2 a w2 hv2 hk2 hn2 S
 replace hv2 := hv2.2
 subst hv2
 refine Ld ?_
 obtain rfl := Option.some.inj h
 exact f_ret0 S Tryz.results53 ⟨(S.holds _ (List.mem_of_getElem? (i := 0) rfl)), rfl⟩
theorem Stream_RightScored_ok (w : World) (U : Nat) (Z : Value) (Ai : List Int) (Aj : Slc (view w [U]) 1 Z (Ai.map eInt)) (Ae : Int) (Ba : (LEnt.blk U [Z, iV Ae] 25).holds w) (r : (List GScored) × Int) (h : Stream_RightScored Ai Ae = some r) :
    Calls Tryz.prog 25 [.pointer (some ⟨U, 0, none⟩)].toArray w (Ret w [U] fun τ v w' => (LEnt.blk U [Z, iV r.2] 25).holds w' ∧ OwnV τ 54 5 v r.1.length (r.1.flatMap GScored.enc)) := by
 refine f_enter [U] [.blk U [Z, iV Ae] 25] Tryz.func25 rfl Tryz.ntmps25 rfl (fun e he => by simp only [List.mem_singleton] at he;subst he;exact Ba) (by simp [fps, LEnt.fp]) (by simp [fps, LEnt.fp]) fun a S => ?_
 unfold Stream_RightScored at h
 replace S := S.nk [.blk U [Z, iV Ae] 25] [(0, .pointer (some ⟨U, 0, none⟩))] [true] rfl ⟨rfl, trivial⟩
 refine Fs (Fg (lv S (Ra rfl) rfl ?_));clear S;intro a S
 refine Ld (Tn (Fs (Fg (lv S (Ra rfl) rfl ?_))));clear S;intro a S
 replace S := S.nil 54 5
 refine Ld (Tn (Fs (Fs (Fg (l_buildSlice S Tryz.underlying81 Tryz.sizeOf9 Tryz.zeroValue9 rfl rfl (pv := [(0, sV k_ra), (1, sV k_rb), (2, sV k_rc)]) ⟨rfl, rfl, rfl, rfl, rfl, rfl, trivial⟩ (cs := [sV k_ra, sV k_rb, sV k_rc]) (by kernel_rfl) rfl ?_)))));clear S;intro a w1 b1 hz1 hk1 S
 refine lv S (rn_lenT sl_81 (S.tm rfl) ⟨_, _, rfl⟩) rfl ?_;clear S;intro a S
 refine lv S (Rm rfl) rfl ?_;clear S;intro a S
 refine Ld (Tn ?_)
 replace S := S.nk [.blk b1 [sV k_ra, sV k_rb, sV k_rc] 9, .own (.slice none 0 0) 54 5 ([] : List GScored).length (([] : List GScored).flatMap GScored.enc), .blk U [Z, iV Ae] 25] [(0, .pointer (some ⟨U, 0, none⟩)), (3, (.slice none 0 0)), (16, .slice (some ⟨b1, 0, none⟩) 3 3), (17, iV (([k_ra, k_rb, k_rc] : List ByteArray).length : Int)), (18, iV 0)] [true, true, true] rfl (subR rfl)
 replace S := S.litOwn (i := 0) (xs := [k_ra, k_rb, k_rc]) rfl enc_str rfl rfl rfl
 replace S := S.nk [.own (.slice (some ⟨b1, 0, none⟩) 3 3) 9 1 ([k_ra, k_rb, k_rc] : List ByteArray).length (([k_ra, k_rb, k_rc] : List ByteArray).flatMap eStr), .own (.slice none 0 0) 54 5 ([] : List GScored).length (([] : List GScored).flatMap GScored.enc), .blk U [Z, iV Ae] 25] [(0, .pointer (some ⟨U, 0, none⟩)), (3, (.slice none 0 0)), (16, (.slice (some ⟨b1, 0, none⟩) 3 3)), (17, iV (([k_ra, k_rb, k_rc] : List ByteArray).length : Int)), (18, iV 0)] [] rfl (subR rfl)
 obtain ⟨φ1, hl1, hs1, S⟩ := S.freezeT (xs := ([k_ra, k_rb, k_rc] : List ByteArray)) (enc := eStr) (i := 0) rfl (fun c hc hh => not_fps S (i := 2) rfl rfl (j := 0) rfl rfl (by simp at hc;subst hc;exact hh))
 replace S := S.nk [.own (.slice none 0 0) 54 5 ([] : List GScored).length (([] : List GScored).flatMap GScored.enc), .blk U [Z, iV Ae] 25] [(0, .pointer (some ⟨U, 0, none⟩)), (3, (.slice none 0 0)), (16, (.slice (some ⟨b1, 0, none⟩) 3 3)), (17, iV (([k_ra, k_rb, k_rc] : List ByteArray).length : Int)), (18, iV 0)] [] rfl (subR rfl)
 obtain ⟨j1, hj1, h⟩ := joinE h
 refine f_join (fun a w' => ∃ x1 : List GScored, ∃ x2 : Int, ∃ φ2 : View, ∃ v1 : Value, j1 x1 x2 = some r ∧ View.le φ1 φ2 ∧ Sx w [U] φ2 [.own v1 54 5 x1.length (x1.flatMap GScored.enc), .blk U [Z, iV x2] 25] [(3, v1)] 114 a w') ?_ ?_
 ·refine wp_block (f_loop (fun (ys1 : List ByteArray) a w' => ∃ i1 : Nat, ∃ x1 : List GScored, ∃ x2 : Int, ∃ φ2 : View, ∃ v1 : Value, (∃ dn, ([k_ra, k_rb, k_rc] : List ByteArray) = dn ++ ys1 ∧ dn.length = i1) ∧ Stream_RightScored_l1 Ai j1 ys1 i1 x1 x2 = some r ∧ View.le φ1 φ2 ∧ Sx w [U] φ2 [.own v1 54 5 x1.length (x1.flatMap GScored.enc), .blk U [Z, iV x2] 25] [(0, .pointer (some ⟨U, 0, none⟩)), (3, v1), (16, (.slice (some ⟨b1, 0, none⟩) 3 3)), (17, iV (([k_ra, k_rb, k_rc] : List ByteArray).length : Int)), (18, iV (i1 : Int))] 114 a w') List.length ([k_ra, k_rb, k_rc] : List ByteArray) ⟨0, ([] : List GScored), Ae, φ1, (.slice none 0 0), ⟨[], rfl, rfl⟩, h, View.le_refl _, S.nf [true, true] rfl (subR rfl)⟩ ?_)
  clear S h;rintro ys1 a w2 ⟨i1, x1, x2, φ2, v1, ⟨dn, hd1, hi1⟩, h, hl2, S⟩
  cases ys1 with
  | nil =>
   rw [Stream_RightScored_l1.eq_1] at h
   refine Fs (Fg (lv S (rn_lss (S.tm rfl) (S.tm rfl)) rfl ?_));clear S;intro a S
   refine Ld ?_
   replace S := S.nk [.own v1 54 5 x1.length (x1.flatMap GScored.enc), .blk U [Z, iV x2] 25] [(0, .pointer (some ⟨U, 0, none⟩)), (3, v1), (16, (.slice (some ⟨b1, 0, none⟩) 3 3)), (17, iV (([k_ra, k_rb, k_rc] : List ByteArray).length : Int)), (18, iV (i1 : Int)), (19, bV (decide ((i1 : Int) < (([k_ra, k_rb, k_rc] : List ByteArray).length : Int))))] [true, true] rfl (subR rfl)
   refine Tn (Fs (wp_cond_false ((S.tm rfl).trans (congrArg Value.bool (rng_nil hd1 hi1))) (wp_exit (then_x (then_x (x_same ?_))))))
   refine Tn ?_
   exact ⟨x1, x2, φ2, v1, h, hl2, S.nf [true, true] rfl ⟨rfl, trivial⟩⟩
  | cons y1 ys1 =>
   rw [Stream_RightScored_l1.eq_2] at h
   refine Fs (Fg (lv S (rn_lss (S.tm rfl) (S.tm rfl)) rfl ?_));clear S;intro a S
   refine Ld ?_
   replace S := S.nk [.own v1 54 5 x1.length (x1.flatMap GScored.enc), .blk U [Z, iV x2] 25] [(0, .pointer (some ⟨U, 0, none⟩)), (3, v1), (16, (.slice (some ⟨b1, 0, none⟩) 3 3)), (17, iV (([k_ra, k_rb, k_rc] : List ByteArray).length : Int)), (18, iV (i1 : Int)), (19, bV (decide ((i1 : Int) < (([k_ra, k_rb, k_rc] : List ByteArray).length : Int))))] [true, true] rfl (subR rfl)
   refine Tn (Fs (wp_cond_true ((S.tm rfl).trans (congrArg Value.bool (rng_cons hd1 hi1))) (wp_skip (Tn (Fs (wp_block ?_))))))
   refine Fs (Fg ?_)
   obtain ⟨b2, o1, hm1, hr1⟩ := rn_indexT (a := a) (x := .tmp 16) (y := .tmp 18) (ty := 0) sl_81 (ownV_slcT enc_str hs1) (get_mid hd1 hi1) rfl (S.tm rfl) (S.tm rfl)
   refine lv S (hr1 _) rfl ?_;clear S;intro a S
   clear hr1
   refine lv S (rn_ld Tryz.isAgg9 (off := o1) (o := 0) (S.tm rfl) ((hm1.mono hl2).at S.emb) rfl) rfl ?_;clear S;intro a S
   refine lv S (Ra (S.tm rfl)) rfl ?_;clear S;intro a S
   refine Ld (Tn (Fs (Fg (lv S (Rm (S.tm rfl)) rfl ?_))));clear S;intro a S
   obtain ⟨r1, hr2, h⟩ := bindE h
   refine l_enter1 1 S (b := U) rfl rfl (fun _ => .blk U [Z, iV r1.2] 25) (fun _ => run_call (vs := [.pointer (some ⟨U, 0, none⟩), iV 3]) ⟨(S.tm rfl), rfl, trivial⟩ Tryz.call22) (Stream_Flip_ok _ U Z Ai (Aj.mono (S.le_arg (fp_sub (i := 1) (e := .blk U [Z, iV x2] 25) rfl))) x2 (S.holds _ (List.mem_of_getElem? (i := 1) rfl)) 3 _ hr2) rfl (fun _ _ _ h => ⟨h.1, fun _ hc => by cases hc;rfl⟩) ?_;clear S;intro v2 a w4 hv1 hk2 hn1 S
   replace hv1 := hv1.2
   subst hv1
   refine lv S (Ra (S.tm rfl)) rfl ?_;clear S;intro a S
   refine Ld (Tn (Fs (Fg (lv S (Ra rfl) rfl ?_))));clear S;intro a S
   replace S := S.nil 54 5
   refine Ld (Tn (Fs (Fs (Fg (l_buildSlice S Tryz.underlying81 Tryz.sizeOf9 Tryz.zeroValue9 rfl rfl (pv := [(0, sV k_ann), (1, sV k_bea), (2, sV k_cid), (3, sV k_dan), (4, sV k_eve)]) ⟨rfl, rfl, rfl, rfl, rfl, rfl, rfl, rfl, rfl, rfl, trivial⟩ (cs := [sV k_ann, sV k_bea, sV k_cid, sV k_dan, sV k_eve]) (by kernel_rfl) rfl ?_)))));clear S;intro a w5 b3 hz2 hk3 S
   refine lv S (rn_lenT sl_81 (S.tm rfl) ⟨_, _, rfl⟩) rfl ?_;clear S;intro a S
   refine lv S (Rm rfl) rfl ?_;clear S;intro a S
   refine Ld ?_
   replace S := S.nk [.blk b3 [sV k_ann, sV k_bea, sV k_cid, sV k_dan, sV k_eve] 9, .own (.slice none 0 0) 54 5 ([] : List GScored).length (([] : List GScored).flatMap GScored.enc), .own v1 54 5 x1.length (x1.flatMap GScored.enc), .blk U [Z, iV r1.2] 25] [(0, .pointer (some ⟨U, 0, none⟩)), (3, v1), (5, sV y1), (6, bV r1.1), (7, (.slice none 0 0)), (16, (.slice (some ⟨b1, 0, none⟩) 3 3)), (17, iV (([k_ra, k_rb, k_rc] : List ByteArray).length : Int)), (18, iV (i1 : Int)), (24, .slice (some ⟨b3, 0, none⟩) 5 5), (25, iV (([k_ann, k_bea, k_cid, k_dan, k_eve] : List ByteArray).length : Int)), (26, iV 0)] [true, true, true, true] rfl (subR rfl)
   refine Tn ?_
   replace S := S.litOwn (i := 0) (xs := [k_ann, k_bea, k_cid, k_dan, k_eve]) rfl enc_str rfl rfl rfl
   replace S := S.nk [.own (.slice (some ⟨b3, 0, none⟩) 5 5) 9 1 ([k_ann, k_bea, k_cid, k_dan, k_eve] : List ByteArray).length (([k_ann, k_bea, k_cid, k_dan, k_eve] : List ByteArray).flatMap eStr), .own (.slice none 0 0) 54 5 ([] : List GScored).length (([] : List GScored).flatMap GScored.enc), .own v1 54 5 x1.length (x1.flatMap GScored.enc), .blk U [Z, iV r1.2] 25] [(0, .pointer (some ⟨U, 0, none⟩)), (3, v1), (5, sV y1), (6, bV r1.1), (7, (.slice none 0 0)), (16, (.slice (some ⟨b1, 0, none⟩) 3 3)), (17, iV (([k_ra, k_rb, k_rc] : List ByteArray).length : Int)), (18, iV (i1 : Int)), (24, (.slice (some ⟨b3, 0, none⟩) 5 5)), (25, iV (([k_ann, k_bea, k_cid, k_dan, k_eve] : List ByteArray).length : Int)), (26, iV 0)] [] rfl (subR rfl)
   obtain ⟨φ3, hl3, hs2, S⟩ := S.freezeT (xs := ([k_ann, k_bea, k_cid, k_dan, k_eve] : List ByteArray)) (enc := eStr) (i := 0) rfl (fun c hc hh => not_fps S (i := 3) rfl rfl (j := 0) rfl rfl (by simp at hc;subst hc;exact hh))
   replace S := S.nk [.own (.slice none 0 0) 54 5 ([] : List GScored).length (([] : List GScored).flatMap GScored.enc), .own v1 54 5 x1.length (x1.flatMap GScored.enc), .blk U [Z, iV r1.2] 25] [(0, .pointer (some ⟨U, 0, none⟩)), (3, v1), (5, sV y1), (6, bV r1.1), (7, (.slice none 0 0)), (16, (.slice (some ⟨b1, 0, none⟩) 3 3)), (17, iV (([k_ra, k_rb, k_rc] : List ByteArray).length : Int)), (18, iV (i1 : Int)), (24, (.slice (some ⟨b3, 0, none⟩) 5 5)), (25, iV (([k_ann, k_bea, k_cid, k_dan, k_eve] : List ByteArray).length : Int)), (26, iV 0)] [] rfl (subR rfl)
   obtain ⟨j2, hj2, h⟩ := joinE h
   refine f_join (fun a w' => ∃ x3 : List GScored, ∃ x4 : Int, ∃ v3 : Value, j2 x3 x4 = some r ∧ Sx w [U] φ3 [.own v3 54 5 x3.length (x3.flatMap GScored.enc), .own v1 54 5 x1.length (x1.flatMap GScored.enc), .blk U [Z, iV x4] 25] [(0, .pointer (some ⟨U, 0, none⟩)), (3, v1), (7, v3), (16, (.slice (some ⟨b1, 0, none⟩) 3 3)), (17, iV (([k_ra, k_rb, k_rc] : List ByteArray).length : Int)), (18, iV (i1 : Int))] 114 a w') ?_ ?_
   ·refine wp_block (f_loop (fun (ys2 : List ByteArray) a w' => ∃ i2 : Nat, ∃ x3 : List GScored, ∃ x4 : Int, ∃ v3 : Value, (∃ dn, ([k_ann, k_bea, k_cid, k_dan, k_eve] : List ByteArray) = dn ++ ys2 ∧ dn.length = i2) ∧ Stream_RightScored_l2 Ai y1 r1 j2 ys2 i2 x3 x4 = some r ∧ Sx w [U] φ3 [.own v3 54 5 x3.length (x3.flatMap GScored.enc), .own v1 54 5 x1.length (x1.flatMap GScored.enc), .blk U [Z, iV x4] 25] [(0, .pointer (some ⟨U, 0, none⟩)), (3, v1), (5, sV y1), (6, bV r1.1), (7, v3), (16, (.slice (some ⟨b1, 0, none⟩) 3 3)), (17, iV (([k_ra, k_rb, k_rc] : List ByteArray).length : Int)), (18, iV (i1 : Int)), (24, (.slice (some ⟨b3, 0, none⟩) 5 5)), (25, iV (([k_ann, k_bea, k_cid, k_dan, k_eve] : List ByteArray).length : Int)), (26, iV (i2 : Int))] 114 a w') List.length ([k_ann, k_bea, k_cid, k_dan, k_eve] : List ByteArray) ⟨0, ([] : List GScored), r1.2, (.slice none 0 0), ⟨[], rfl, rfl⟩, h, S.nf [true, true, true] rfl (subR rfl)⟩ ?_)
    clear S h;rintro ys2 a w6 ⟨i2, x3, x4, v3, ⟨dn, hd2, hi2⟩, h, S⟩
    cases ys2 with
    | nil =>
     rw [Stream_RightScored_l2.eq_1] at h
     refine Fs (Fg (lv S (rn_lss (S.tm rfl) (S.tm rfl)) rfl ?_));clear S;intro a S
     refine Ld ?_
     replace S := S.nk [.own v3 54 5 x3.length (x3.flatMap GScored.enc), .own v1 54 5 x1.length (x1.flatMap GScored.enc), .blk U [Z, iV x4] 25] [(0, .pointer (some ⟨U, 0, none⟩)), (3, v1), (5, sV y1), (6, bV r1.1), (7, v3), (16, (.slice (some ⟨b1, 0, none⟩) 3 3)), (17, iV (([k_ra, k_rb, k_rc] : List ByteArray).length : Int)), (18, iV (i1 : Int)), (24, (.slice (some ⟨b3, 0, none⟩) 5 5)), (25, iV (([k_ann, k_bea, k_cid, k_dan, k_eve] : List ByteArray).length : Int)), (26, iV (i2 : Int)), (27, bV (decide ((i2 : Int) < (([k_ann, k_bea, k_cid, k_dan, k_eve] : List ByteArray).length : Int))))] [true, true, true] rfl (subR rfl)
     refine Tn (Fs (wp_cond_false ((S.tm rfl).trans (congrArg Value.bool (rng_nil hd2 hi2))) (wp_exit (then_x (then_x (x_same ?_))))))
     refine Tn ?_
     exact ⟨x3, x4, v3, h, S.nf [true, true, true] rfl (subR rfl)⟩
    | cons y2 ys2 =>
     rw [Stream_RightScored_l2.eq_2] at h
     refine Fs (Fg (lv S (rn_lss (S.tm rfl) (S.tm rfl)) rfl ?_));clear S;intro a S
     refine Ld ?_
     replace S := S.nk [.own v3 54 5 x3.length (x3.flatMap GScored.enc), .own v1 54 5 x1.length (x1.flatMap GScored.enc), .blk U [Z, iV x4] 25] [(0, .pointer (some ⟨U, 0, none⟩)), (3, v1), (5, sV y1), (6, bV r1.1), (7, v3), (16, (.slice (some ⟨b1, 0, none⟩) 3 3)), (17, iV (([k_ra, k_rb, k_rc] : List ByteArray).length : Int)), (18, iV (i1 : Int)), (24, (.slice (some ⟨b3, 0, none⟩) 5 5)), (25, iV (([k_ann, k_bea, k_cid, k_dan, k_eve] : List ByteArray).length : Int)), (26, iV (i2 : Int)), (27, bV (decide ((i2 : Int) < (([k_ann, k_bea, k_cid, k_dan, k_eve] : List ByteArray).length : Int))))] [true, true, true] rfl (subR rfl)
     refine Tn (Fs (wp_cond_true ((S.tm rfl).trans (congrArg Value.bool (rng_cons hd2 hi2))) (wp_skip (Tn (Fs ?_)))))
     obtain ⟨j3, hj3, h⟩ := joinE h
     refine f_join (fun a w' => ∃ x5 : List GScored, ∃ x6 : Int, ∃ v4 : Value, j3 x5 x6 = some r ∧ Sx w [U] φ3 [.own v4 54 5 x5.length (x5.flatMap GScored.enc), .own v1 54 5 x1.length (x1.flatMap GScored.enc), .blk U [Z, iV x6] 25] [(0, .pointer (some ⟨U, 0, none⟩)), (3, v1), (5, sV y1), (6, bV r1.1), (7, v4), (16, (.slice (some ⟨b1, 0, none⟩) 3 3)), (17, iV (([k_ra, k_rb, k_rc] : List ByteArray).length : Int)), (18, iV (i1 : Int)), (24, (.slice (some ⟨b3, 0, none⟩) 5 5)), (25, iV (([k_ann, k_bea, k_cid, k_dan, k_eve] : List ByteArray).length : Int)), (26, iV (i2 : Int))] 114 a w') ?_ ?_
     ·refine wp_block (Fs (Fg ?_))
      obtain ⟨b4, o2, hm2, hr3⟩ := rn_indexT (a := a) (x := .tmp 24) (y := .tmp 26) (ty := 0) sl_81 (ownV_slcT enc_str hs2) (get_mid hd2 hi2) rfl (S.tm rfl) (S.tm rfl)
      refine lv S (hr3 _) rfl ?_;clear S;intro a S
      clear hr3
      refine lv S (rn_ld Tryz.isAgg9 (off := o2) (o := 0) (S.tm rfl) (hm2.at S.emb) rfl) rfl ?_;clear S;intro a S
      refine lv S (Ra (S.tm rfl)) rfl ?_;clear S;intro a S
      refine Ld ?_
      replace S := S.nk [.own v3 54 5 x3.length (x3.flatMap GScored.enc), .own v1 54 5 x1.length (x1.flatMap GScored.enc), .blk U [Z, iV x4] 25] [(0, .pointer (some ⟨U, 0, none⟩)), (3, v1), (5, sV y1), (6, bV r1.1), (7, v3), (9, sV y2), (16, (.slice (some ⟨b1, 0, none⟩) 3 3)), (17, iV (([k_ra, k_rb, k_rc] : List ByteArray).length : Int)), (18, iV (i1 : Int)), (24, (.slice (some ⟨b3, 0, none⟩) 5 5)), (25, iV (([k_ann, k_bea, k_cid, k_dan, k_eve] : List ByteArray).length : Int)), (26, iV (i2 : Int))] [true, true, true] rfl (subR rfl)
      refine Tn (Fs (Fg (lv S (Rm (S.tm rfl)) rfl ?_)));clear S;intro a S
      obtain ⟨r2, hr4, h⟩ := bindE h
      refine l_enter1 2 S (b := U) rfl rfl (fun _ => .blk U [Z, iV r2.2] 25) (fun _ => run_call (vs := [.pointer (some ⟨U, 0, none⟩), iV 4]) ⟨(S.tm rfl), rfl, trivial⟩ Tryz.call22) (Stream_Flip_ok _ U Z Ai (Aj.mono (S.le_arg (fp_sub (i := 2) (e := .blk U [Z, iV x4] 25) rfl))) x4 (S.holds _ (List.mem_of_getElem? (i := 2) rfl)) 4 _ hr4) rfl (fun _ _ _ h => ⟨h.1, fun _ hc => by cases hc;rfl⟩) ?_;clear S;intro v5 a w9 hv2 hk4 hn2 S
      replace hv2 := hv2.2
      subst hv2
      refine lv S (rn_not (S.tm rfl)) rfl ?_;clear S;intro a S
      refine Ld ?_
      replace S := S.nk [.own v3 54 5 x3.length (x3.flatMap GScored.enc), .own v1 54 5 x1.length (x1.flatMap GScored.enc), .blk U [Z, iV r2.2] 25] [(0, .pointer (some ⟨U, 0, none⟩)), (3, v1), (5, sV y1), (6, bV r1.1), (7, v3), (9, sV y2), (16, (.slice (some ⟨b1, 0, none⟩) 3 3)), (17, iV (([k_ra, k_rb, k_rc] : List ByteArray).length : Int)), (18, iV (i1 : Int)), (24, (.slice (some ⟨b3, 0, none⟩) 5 5)), (25, iV (([k_ann, k_bea, k_cid, k_dan, k_eve] : List ByteArray).length : Int)), (26, iV (i2 : Int)), (32, bV (!r2.1))] [true, true, true] rfl (subR rfl)
      refine Tn ?_
      obtain ⟨j4, hj4, h⟩ := joinE h
      refine f_join (fun a w' => ∃ x7 : List GScored, ∃ x8 : Int, ∃ v6 : Value, j4 x7 x8 = some r ∧ Sx w [U] φ3 [.own v6 54 5 x7.length (x7.flatMap GScored.enc), .own v1 54 5 x1.length (x1.flatMap GScored.enc), .blk U [Z, iV x8] 25] [(0, .pointer (some ⟨U, 0, none⟩)), (3, v1), (5, sV y1), (6, bV r1.1), (7, v6), (16, (.slice (some ⟨b1, 0, none⟩) 3 3)), (17, iV (([k_ra, k_rb, k_rc] : List ByteArray).length : Int)), (18, iV (i1 : Int)), (24, (.slice (some ⟨b3, 0, none⟩) 5 5)), (25, iV (([k_ann, k_bea, k_cid, k_dan, k_eve] : List ByteArray).length : Int)), (26, iV (i2 : Int))] 114 a w') ?_ ?_
      ·refine f_cond (S.tm rfl) (fun hb1 => ?_) (fun hb1 => ?_)
       ·replace h := iteT h hb1
        refine Fg (lv S (Rm (S.tm rfl)) rfl ?_);clear S;intro a S
        iterate 3 (refine lv S (Rm (S.tm rfl)) rfl ?_;clear S;intro a S)
        refine l_buildSlice S Tryz.underlying81 Tryz.sizeOf9 Tryz.zeroValue9 rfl rfl (pv := [(0, sV k_blue), (1, sV k_blue), (2, sV k_red), (3, sV k_grey), (4, sV k_empty)]) ⟨rfl, rfl, rfl, rfl, rfl, rfl, rfl, rfl, rfl, rfl, trivial⟩ (cs := [sV k_blue, sV k_blue, sV k_red, sV k_grey, sV k_empty]) (by kernel_rfl) rfl ?_;clear S;intro a w11 b5 hz3 hk5 S
        obtain ⟨r3, hr5, h⟩ := bindE h
        refine l_enter1 3 S (b := U) rfl rfl (fun _ => .blk U [Z, iV r3.2] 25) (fun _ => run_call (vs := [.pointer (some ⟨U, 0, none⟩), .slice (some ⟨b5, 0, none⟩) 5 5]) ⟨(S.tm rfl), (S.tm rfl), trivial⟩ Tryz.call27) (Stream_Some_ok _ U Z Ai (Aj.mono (S.le_arg (fp_sub (i := 3) (e := .blk U [Z, iV r2.2] 25) rfl))) r2.2 (S.holds _ (List.mem_of_getElem? (i := 3) rfl)) (.slice (some ⟨b5, 0, none⟩) 5 5) [k_blue, k_blue, k_red, k_grey, k_empty] (lit_slcT enc_str S (i := 0) rfl rfl rfl rfl ((ne_fp (i := 3) (j := 0) (e := .blk U [Z, iV r2.2] 25) (e' := .blk b5 [sV k_blue, sV k_blue, sV k_red, sV k_grey, sV k_empty] 9) S rfl rfl rfl) _ rfl)) _ hr5) rfl (fun _ _ _ h => ⟨h.1, fun _ hc => by cases hc;rfl⟩) ?_;clear S;intro v7 a w12 hv3 hk6 hn3 S
        replace hv3 := hv3.2
        subst hv3
        refine lv S (Rm (S.tm rfl)) rfl ?_;clear S;intro a S
        refine l_buildSlice S Tryz.underlying22 Tryz.sizeOf3 Tryz.zeroValue3 rfl rfl (pv := [(0, iV 0), (1, iV 1), (2, iV 2), (3, iV 2), (4, iV 3), (5, iV 4)]) ⟨rfl, rfl, rfl, rfl, rfl, rfl, rfl, rfl, rfl, rfl, rfl, rfl, trivial⟩ (cs := [iV 0, iV 1, iV 2, iV 2, iV 3, iV 4]) (by kernel_rfl) rfl ?_;clear S;intro a w13 b6 hz4 hk7 S
        obtain ⟨r4, hr6, h⟩ := bindE h
        refine l_enter1 4 S (b := U) rfl rfl (fun _ => .blk U [Z, iV r4.2] 25) (fun _ => run_call (vs := [.pointer (some ⟨U, 0, none⟩), .slice (some ⟨b6, 0, none⟩) 6 6]) ⟨(S.tm rfl), (S.tm rfl), trivial⟩ Tryz.call52) (Stream_Pick_ok _ U Z Ai (Aj.mono (S.le_arg (fp_sub (i := 4) (e := .blk U [Z, iV r3.2] 25) rfl))) r3.2 (S.holds _ (List.mem_of_getElem? (i := 4) rfl)) (.slice (some ⟨b6, 0, none⟩) 6 6) [0, 1, 2, 2, 3, 4] (lit_slcT enc_int S (i := 0) rfl rfl rfl rfl ((ne_fp (i := 4) (j := 0) (e := .blk U [Z, iV r3.2] 25) (e' := .blk b6 [iV 0, iV 1, iV 2, iV 2, iV 3, iV 4] 3) S rfl rfl rfl) _ rfl)) _ hr6) rfl (fun _ _ _ h => ⟨h.1, fun _ hc => by cases hc;rfl⟩) ?_;clear S;intro v8 a w14 hv4 hk8 hn4 S
        replace hv4 := hv4.2
        subst hv4
        refine lv S (Rm (S.tm rfl)) rfl ?_;clear S;intro a S
        refine lv S (rn_bld bt_54 (pv := [(0, sV y1), (1, sV y2), (2, sV r3.1), (3, iV r4.1), (4, bV r1.1)]) ⟨rfl, (S.tm rfl), rfl, (S.tm rfl), rfl, (S.tm rfl), rfl, (S.tm rfl), rfl, (S.tm rfl), trivial⟩ (cs := [sV y1, sV y2, sV r3.1, iV r4.1, bV r1.1]) (by kernel_rfl)) rfl ?_;clear S;intro a S
        refine l_buildSlice S Tryz.underlying29 Tryz.sizeOf54 Tryz.zeroValue54 rfl rfl (pv := [(0, .agg #[sV y1, sV y2, sV r3.1, iV r4.1, bV r1.1])]) ⟨rfl, (S.tm rfl), trivial⟩ (cs := [sV y1, sV y2, sV r3.1, iV r4.1, bV r1.1]) (by kernel_rfl) rfl ?_;clear S;intro a w15 b7 hz5 hk9 S
        obtain ⟨hc1, h⟩ := chkE h
        refine l_appendT sl_29 GScored.enc_ok S (S.tm rfl) (i := 3) rfl (S.tm rfl) (j := 0) rfl (ys := [(GScored.mk y1 y2 r3.1 r4.1 r1.1)]) rfl rfl rfl rfl (by have := room_lt hc1;omega) rfl ?_;clear S;intro v9 a w16 hk10 S
        refine lv S (Ra (S.tm rfl)) rfl ?_;clear S;intro a S
        refine Ld ?_
        replace S := S.nk [.own v9 54 5 (x3 ++ [(GScored.mk y1 y2 r3.1 r4.1 r1.1)]).length ((x3 ++ [(GScored.mk y1 y2 r3.1 r4.1 r1.1)]).flatMap GScored.enc), .own v1 54 5 x1.length (x1.flatMap GScored.enc), .blk U [Z, iV r4.2] 25] [(0, .pointer (some ⟨U, 0, none⟩)), (3, v1), (5, sV y1), (6, bV r1.1), (7, v9), (16, (.slice (some ⟨b1, 0, none⟩) 3 3)), (17, iV (([k_ra, k_rb, k_rc] : List ByteArray).length : Int)), (18, iV (i1 : Int)), (24, (.slice (some ⟨b3, 0, none⟩) 5 5)), (25, iV (([k_ann, k_bea, k_cid, k_dan, k_eve] : List ByteArray).length : Int)), (26, iV (i2 : Int))] [false, false, false, true, true, true] rfl (subR rfl)
        refine Tn ?_
        exact ⟨(x3 ++ [(GScored.mk y1 y2 r3.1 r4.1 r1.1)]), r4.2, v9, h, S.nf [true, true, true] rfl (subR rfl)⟩
       ·replace h := iteF h hb1
        refine wp_skip (Tn ?_)
        exact ⟨x3, r2.2, v3, h, S.nf [true, true, true] rfl (subR rfl)⟩
      clear S h;rintro a w10 ⟨x7, x8, v6, h, S⟩;rw [hj4] at h;clear hj4 j4
      refine blk_n (Tn ?_)
      exact ⟨x7, x8, v6, h, S.nf [true, true, true] rfl (subR rfl)⟩
     clear S h;rintro a w8 ⟨x5, x6, v4, h, S⟩;rw [hj3] at h;clear hj3 j3
     refine Tn (Fg (lv S (rn_add (S.tm rfl) rfl) rfl ?_));clear S;intro a S
     refine lv S (Rm (S.tm rfl)) rfl ?_;clear S;intro a S
     refine Ld (Tn ?_)
     exact ⟨ys2, ⟨i2 + 1, x5, x6, v4, ⟨_, (hd2).trans (List.append_cons _ _ _), by simp [hi2]⟩, h, S.nf [true, true, true] rfl ⟨rfl, rfl, rfl, rfl, rfl, rfl, rfl, rfl, rfl, rfl, (congrArg (fun z => some (Value.int .i64 z)) (rng_next hd2 hi2 (slc_max (ownV_slcT enc_str hs2)))), trivial⟩⟩, Nat.lt_succ_self _⟩
   clear S h;rintro a w7 ⟨x3, x4, v3, h, S⟩;rw [hj2] at h;clear hj2 j2
   refine Tn (Fs (Fs (Fg (lv S (Rm (S.tm rfl)) rfl ?_))));clear S;intro a S
   refine lv S (rn_lenT sl_29 (S.tm rfl) (own_len (S.own_at (i := 0) rfl))) rfl ?_;clear S;intro a S
   refine lv S (Rm rfl) rfl ?_;clear S;intro a S
   refine Ld (Tn ?_)
   replace S := S.nk [.own v3 54 5 x3.length (x3.flatMap GScored.enc), .own v1 54 5 x1.length (x1.flatMap GScored.enc), .blk U [Z, iV x4] 25] [(0, .pointer (some ⟨U, 0, none⟩)), (3, v1), (7, v3), (16, (.slice (some ⟨b1, 0, none⟩) 3 3)), (17, iV (([k_ra, k_rb, k_rc] : List ByteArray).length : Int)), (18, iV (i1 : Int)), (47, v3), (48, iV (x3.length : Int)), (49, iV 0)] [true, true, true] rfl (subR rfl)
   have hm3 := own_max (S.own_at (i := 0) rfl)
   obtain ⟨j5, hj5, h⟩ := joinE h
   refine f_join (fun a w' => ∃ x9 : List GScored, ∃ v10 : Value, j5 x9 = some r ∧ Sx w [U] φ3 [.own v10 54 5 x9.length (x9.flatMap GScored.enc), .own v1 54 5 x1.length (x1.flatMap GScored.enc), .blk U [Z, iV x4] 25] [(0, .pointer (some ⟨U, 0, none⟩)), (3, v1), (7, v10), (16, (.slice (some ⟨b1, 0, none⟩) 3 3)), (17, iV (([k_ra, k_rb, k_rc] : List ByteArray).length : Int)), (18, iV (i1 : Int))] 114 a w') ?_ ?_
   ·refine wp_block (f_loop (fun (ys3 : List GScored) a w' => ∃ i3 : Nat, ∃ x9 : List GScored, ∃ v10 : Value, (∃ dn, x3 = dn ++ ys3 ∧ dn.length = i3) ∧ Stream_RightScored_l3 j5 ys3 i3 x9 = some r ∧ Sx w [U] φ3 [.own v10 54 5 x9.length (x9.flatMap GScored.enc), .own v1 54 5 x1.length (x1.flatMap GScored.enc), .blk U [Z, iV x4] 25] [(0, .pointer (some ⟨U, 0, none⟩)), (3, v1), (7, v10), (16, (.slice (some ⟨b1, 0, none⟩) 3 3)), (17, iV (([k_ra, k_rb, k_rc] : List ByteArray).length : Int)), (18, iV (i1 : Int)), (47, v10), (48, iV (x3.length : Int)), (49, iV (i3 : Int))] 114 a w') List.length x3 ⟨0, x3, v3, ⟨[], rfl, rfl⟩, h, S.nf [true, true, true] rfl (subR rfl)⟩ ?_)
    clear S h;rintro ys3 a w17 ⟨i3, x9, v10, ⟨dn, hd3, hi3⟩, h, S⟩
    cases ys3 with
    | nil =>
     rw [Stream_RightScored_l3.eq_1] at h
     refine Fs (Fg (lv S (rn_lss (S.tm rfl) (S.tm rfl)) rfl ?_));clear S;intro a S
     refine Ld ?_
     replace S := S.nk [.own v10 54 5 x9.length (x9.flatMap GScored.enc), .own v1 54 5 x1.length (x1.flatMap GScored.enc), .blk U [Z, iV x4] 25] [(0, .pointer (some ⟨U, 0, none⟩)), (3, v1), (7, v10), (16, (.slice (some ⟨b1, 0, none⟩) 3 3)), (17, iV (([k_ra, k_rb, k_rc] : List ByteArray).length : Int)), (18, iV (i1 : Int)), (47, v10), (48, iV (x3.length : Int)), (49, iV (i3 : Int)), (50, bV (decide ((i3 : Int) < (x3.length : Int))))] [true, true, true] rfl (subR rfl)
     refine Tn (Fs (wp_cond_false ((S.tm rfl).trans (congrArg Value.bool (rng_nil hd3 hi3))) (wp_exit (then_x (then_x (x_same ?_))))))
     refine Tn ?_
     exact ⟨x9, v10, h, S.nf [true, true, true] rfl (subR rfl)⟩
    | cons y3 ys3 =>
     rw [Stream_RightScored_l3.eq_2] at h
     refine Fs (Fg (lv S (rn_lss (S.tm rfl) (S.tm rfl)) rfl ?_));clear S;intro a S
     refine Ld ?_
     replace S := S.nk [.own v10 54 5 x9.length (x9.flatMap GScored.enc), .own v1 54 5 x1.length (x1.flatMap GScored.enc), .blk U [Z, iV x4] 25] [(0, .pointer (some ⟨U, 0, none⟩)), (3, v1), (7, v10), (16, (.slice (some ⟨b1, 0, none⟩) 3 3)), (17, iV (([k_ra, k_rb, k_rc] : List ByteArray).length : Int)), (18, iV (i1 : Int)), (47, v10), (48, iV (x3.length : Int)), (49, iV (i3 : Int)), (50, bV (decide ((i3 : Int) < (x3.length : Int))))] [true, true, true] rfl (subR rfl)
     refine Tn (Fs (wp_cond_true ((S.tm rfl).trans (congrArg Value.bool (rng_cons hd3 hi3))) (wp_skip (Tn (Fs ?_)))))
     obtain ⟨j6, hj6, h⟩ := joinE h
     refine f_join (fun a w' => ∃ x10 : List GScored, j6 x10 = some r ∧ Sx w [U] φ3 [.own v10 54 5 x10.length (x10.flatMap GScored.enc), .own v1 54 5 x1.length (x1.flatMap GScored.enc), .blk U [Z, iV x4] 25] [(0, .pointer (some ⟨U, 0, none⟩)), (3, v1), (7, v10), (16, (.slice (some ⟨b1, 0, none⟩) 3 3)), (17, iV (([k_ra, k_rb, k_rc] : List ByteArray).length : Int)), (18, iV (i1 : Int)), (47, v10), (48, iV (x3.length : Int)), (49, iV (i3 : Int))] 114 a w') ?_ ?_
     ·refine wp_block (Fs (Fg (lv S (Rm (S.tm rfl)) rfl ?_)));clear S;intro a S
      obtain ⟨hc2, h⟩ := chkE h
      obtain ⟨b8, hg1, hr7⟩ := rn_indexS (a := a) (x := .tmp 47) (y := .tmp 49) (ty := 0) sl_29 GScored.enc_ok S (i := 0) rfl (inB_get hc2).1 (inB_get hc2).2 (S.tm rfl) (S.tm rfl)
      refine lv S (hr7 _) rfl ?_;clear S;intro a S
      clear hr7
      refine lv S (rn_ldA Tryz.isAgg54 Tryz.sizeOf54 (off := ((i3 : Int).toNat) * 5) (o := 0) (part := (GScored.enc (nth x9 (i3 : Int)))) rfl rfl (S.tm rfl) (own_cells GScored.enc_ok S (i := 0) rfl hg1 (inB_get hc2).1)) rfl ?_;clear S;intro a S
      refine l_alloc S Tryz.zeroValue54 (cs := [sV k_empty, sV k_empty, sV k_empty, iV 0, bV false]) rfl rfl ?_;clear S;intro a w20 b9 hz6 hk11 S
      refine lv S (Ra (S.tm rfl)) rfl ?_;clear S;intro a S
      refine l_store S (S.tm rfl) (S.tm rfl) (i := 0) (off := 0) rfl Tryz.sizeOf54 (vs := (GScored.enc (nth x9 (i3 : Int)))) rfl rfl rfl rfl ?_;clear S;intro w21 hk12 S
      refine Ld ?_
      replace S := S.nk [.blk b9 (GScored.enc (nth x9 (i3 : Int))) 54, .own v10 54 5 x9.length (x9.flatMap GScored.enc), .own v1 54 5 x1.length (x1.flatMap GScored.enc), .blk U [Z, iV x4] 25] [(0, .pointer (some ⟨U, 0, none⟩)), (3, v1), (7, v10), (10, iV (i3 : Int)), (11, .pointer (some ⟨b9, 0, none⟩)), (16, (.slice (some ⟨b1, 0, none⟩) 3 3)), (17, iV (([k_ra, k_rb, k_rc] : List ByteArray).length : Int)), (18, iV (i1 : Int)), (47, v10), (48, iV (x3.length : Int)), (49, iV (i3 : Int))] [true, true, true, true] rfl (subR rfl)
      refine Tn (Fs (Fg (lv S (Ra rfl) rfl ?_)));clear S;intro a S
      refine Ld (Tn (Fs (Fs (Fg (lv S (Rm (S.tm rfl)) rfl ?_)))));clear S;intro a S
      refine lv S (rn_lenT sl_29 (S.tm rfl) (own_len (S.own_at (i := 1) rfl))) rfl ?_;clear S;intro a S
      refine lv S (Rm rfl) rfl ?_;clear S;intro a S
      refine Ld ?_
      replace S := S.nk [.blk b9 (GScored.enc (nth x9 (i3 : Int))) 54, .own v10 54 5 x9.length (x9.flatMap GScored.enc), .own v1 54 5 x1.length (x1.flatMap GScored.enc), .blk U [Z, iV x4] 25] [(0, .pointer (some ⟨U, 0, none⟩)), (3, v1), (7, v10), (10, iV (i3 : Int)), (11, .pointer (some ⟨b9, 0, none⟩)), (12, iV 1), (16, (.slice (some ⟨b1, 0, none⟩) 3 3)), (17, iV (([k_ra, k_rb, k_rc] : List ByteArray).length : Int)), (18, iV (i1 : Int)), (47, v10), (48, iV (x3.length : Int)), (49, iV (i3 : Int)), (54, v10), (55, iV (x9.length : Int)), (56, iV 0)] [true, true, true, true] rfl (subR rfl)
      refine Tn ?_
      have hm5 := own_max (S.own_at (i := 1) rfl)
      obtain ⟨j7, hj7, h⟩ := joinE h
      refine f_join (fun a w' => ∃ x11 : Int, j7 x11 = some r ∧ Sx w [U] φ3 [.blk b9 (GScored.enc (nth x9 (i3 : Int))) 54, .own v10 54 5 x9.length (x9.flatMap GScored.enc), .own v1 54 5 x1.length (x1.flatMap GScored.enc), .blk U [Z, iV x4] 25] [(0, .pointer (some ⟨U, 0, none⟩)), (3, v1), (7, v10), (10, iV (i3 : Int)), (11, .pointer (some ⟨b9, 0, none⟩)), (12, iV x11), (16, (.slice (some ⟨b1, 0, none⟩) 3 3)), (17, iV (([k_ra, k_rb, k_rc] : List ByteArray).length : Int)), (18, iV (i1 : Int)), (47, v10), (48, iV (x3.length : Int)), (49, iV (i3 : Int))] 114 a w') ?_ ?_
      ·refine wp_block (f_loop (fun (ys4 : List GScored) a w' => ∃ i4 : Nat, ∃ x11 : Int, (∃ dn, x9 = dn ++ ys4 ∧ dn.length = i4) ∧ Stream_RightScored_l4 x9 i3 j7 ys4 i4 x11 = some r ∧ Sx w [U] φ3 [.blk b9 (GScored.enc (nth x9 (i3 : Int))) 54, .own v10 54 5 x9.length (x9.flatMap GScored.enc), .own v1 54 5 x1.length (x1.flatMap GScored.enc), .blk U [Z, iV x4] 25] [(0, .pointer (some ⟨U, 0, none⟩)), (3, v1), (7, v10), (10, iV (i3 : Int)), (11, .pointer (some ⟨b9, 0, none⟩)), (12, iV x11), (16, (.slice (some ⟨b1, 0, none⟩) 3 3)), (17, iV (([k_ra, k_rb, k_rc] : List ByteArray).length : Int)), (18, iV (i1 : Int)), (47, v10), (48, iV (x3.length : Int)), (49, iV (i3 : Int)), (54, v10), (55, iV (x9.length : Int)), (56, iV (i4 : Int))] 114 a w') List.length x9 ⟨0, 1, ⟨[], rfl, rfl⟩, h, S.nf [true, true, true, true] rfl (subR rfl)⟩ ?_)
       clear S h;rintro ys4 a w22 ⟨i4, x11, ⟨dn, hd4, hi4⟩, h, S⟩
       cases ys4 with
       | nil =>
        rw [Stream_RightScored_l4.eq_1] at h
        refine Fs (Fg (lv S (rn_lss (S.tm rfl) (S.tm rfl)) rfl ?_));clear S;intro a S
        refine Ld ?_
        replace S := S.nk [.blk b9 (GScored.enc (nth x9 (i3 : Int))) 54, .own v10 54 5 x9.length (x9.flatMap GScored.enc), .own v1 54 5 x1.length (x1.flatMap GScored.enc), .blk U [Z, iV x4] 25] [(0, .pointer (some ⟨U, 0, none⟩)), (3, v1), (7, v10), (10, iV (i3 : Int)), (11, .pointer (some ⟨b9, 0, none⟩)), (12, iV x11), (16, (.slice (some ⟨b1, 0, none⟩) 3 3)), (17, iV (([k_ra, k_rb, k_rc] : List ByteArray).length : Int)), (18, iV (i1 : Int)), (47, v10), (48, iV (x3.length : Int)), (49, iV (i3 : Int)), (54, v10), (55, iV (x9.length : Int)), (56, iV (i4 : Int)), (57, bV (decide ((i4 : Int) < (x9.length : Int))))] [true, true, true, true] rfl (subR rfl)
        refine Tn (Fs (wp_cond_false ((S.tm rfl).trans (congrArg Value.bool (rng_nil hd4 hi4))) (wp_exit (then_x (then_x (x_same ?_))))))
        refine Tn ?_
        exact ⟨x11, h, S.nf [true, true, true, true] rfl (subR rfl)⟩
       | cons y4 ys4 =>
        rw [Stream_RightScored_l4.eq_2] at h
        refine Fs (Fg (lv S (rn_lss (S.tm rfl) (S.tm rfl)) rfl ?_));clear S;intro a S
        refine Ld ?_
        replace S := S.nk [.blk b9 (GScored.enc (nth x9 (i3 : Int))) 54, .own v10 54 5 x9.length (x9.flatMap GScored.enc), .own v1 54 5 x1.length (x1.flatMap GScored.enc), .blk U [Z, iV x4] 25] [(0, .pointer (some ⟨U, 0, none⟩)), (3, v1), (7, v10), (10, iV (i3 : Int)), (11, .pointer (some ⟨b9, 0, none⟩)), (12, iV x11), (16, (.slice (some ⟨b1, 0, none⟩) 3 3)), (17, iV (([k_ra, k_rb, k_rc] : List ByteArray).length : Int)), (18, iV (i1 : Int)), (47, v10), (48, iV (x3.length : Int)), (49, iV (i3 : Int)), (54, v10), (55, iV (x9.length : Int)), (56, iV (i4 : Int)), (57, bV (decide ((i4 : Int) < (x9.length : Int))))] [true, true, true, true] rfl (subR rfl)
        refine Tn (Fs (wp_cond_true ((S.tm rfl).trans (congrArg Value.bool (rng_cons hd4 hi4))) (wp_skip (Tn (Fs ?_)))))
        obtain ⟨j8, hj8, h⟩ := joinE h
        refine f_join (fun a w' => ∃ x12 : Int, j8 x12 = some r ∧ Sx w [U] φ3 [.blk b9 (GScored.enc (nth x9 (i3 : Int))) 54, .own v10 54 5 x9.length (x9.flatMap GScored.enc), .own v1 54 5 x1.length (x1.flatMap GScored.enc), .blk U [Z, iV x4] 25] [(0, .pointer (some ⟨U, 0, none⟩)), (3, v1), (7, v10), (10, iV (i3 : Int)), (11, .pointer (some ⟨b9, 0, none⟩)), (12, iV x12), (16, (.slice (some ⟨b1, 0, none⟩) 3 3)), (17, iV (([k_ra, k_rb, k_rc] : List ByteArray).length : Int)), (18, iV (i1 : Int)), (47, v10), (48, iV (x3.length : Int)), (49, iV (i3 : Int)), (54, v10), (55, iV (x9.length : Int)), (56, iV (i4 : Int))] 114 a w') ?_ ?_
        ·refine wp_block (Fs (Fg ?_))
         obtain ⟨b10, hg2, hr8⟩ := rn_indexS (a := a) (x := .tmp 54) (y := .tmp 56) (ty := 0) sl_29 GScored.enc_ok S (i := 1) rfl (get_mid hd4 hi4) rfl (S.tm rfl) (S.tm rfl)
         refine lv S (hr8 _) rfl ?_;clear S;intro a S
         clear hr8
         refine lv S (rn_ldA Tryz.isAgg54 Tryz.sizeOf54 (off := i4 * 5) (o := 0) (part := (GScored.enc y4)) rfl rfl (S.tm rfl) (own_cells GScored.enc_ok S (i := 1) rfl hg2 (get_mid hd4 hi4))) rfl ?_;clear S;intro a S
         refine l_alloc S Tryz.zeroValue54 (cs := [sV k_empty, sV k_empty, sV k_empty, iV 0, bV false]) rfl rfl ?_;clear S;intro a w25 b11 hz7 hk13 S
         refine l_store S (S.tm rfl) (S.tm rfl) (i := 0) (off := 0) rfl Tryz.sizeOf54 (vs := (GScored.enc y4)) rfl rfl rfl rfl ?_;clear S;intro w26 hk14 S
         refine Ld ?_
         replace S := S.nk [.blk b11 (GScored.enc y4) 54, .blk b9 (GScored.enc (nth x9 (i3 : Int))) 54, .own v10 54 5 x9.length (x9.flatMap GScored.enc), .own v1 54 5 x1.length (x1.flatMap GScored.enc), .blk U [Z, iV x4] 25] [(0, .pointer (some ⟨U, 0, none⟩)), (3, v1), (7, v10), (10, iV (i3 : Int)), (11, .pointer (some ⟨b9, 0, none⟩)), (12, iV x11), (14, .pointer (some ⟨b11, 0, none⟩)), (16, (.slice (some ⟨b1, 0, none⟩) 3 3)), (17, iV (([k_ra, k_rb, k_rc] : List ByteArray).length : Int)), (18, iV (i1 : Int)), (47, v10), (48, iV (x3.length : Int)), (49, iV (i3 : Int)), (54, v10), (55, iV (x9.length : Int)), (56, iV (i4 : Int))] [true, true, true, true, true] rfl (subR rfl)
         refine Tn (Fs (Fg (lv S (rn_fld fa_54_3 (S.tm rfl)) rfl ?_)));clear S;intro a S
         refine lv S (rn_load Tryz.isAgg3 (S.tm rfl) (S.cell (i := 0) rfl rfl)) rfl ?_;clear S;intro a S
         refine lv S (rn_gtr (S.tm rfl) rfl) rfl ?_;clear S;intro a S
         refine lv S (Rm (S.tm rfl)) rfl ?_;clear S;intro a S
         refine f_cutm 8 (fun a w' => Keep [] w26 w' ∧ Sx w [U] φ3 [.blk b11 (GScored.enc y4) 54, .blk b9 (GScored.enc (nth x9 (i3 : Int))) 54, .own v10 54 5 x9.length (x9.flatMap GScored.enc), .own v1 54 5 x1.length (x1.flatMap GScored.enc), .blk U [Z, iV x4] 25] [(0, .pointer (some ⟨U, 0, none⟩)), (3, v1), (7, v10), (10, iV (i3 : Int)), (11, .pointer (some ⟨b9, 0, none⟩)), (12, iV x11), (16, (.slice (some ⟨b1, 0, none⟩) 3 3)), (17, iV (([k_ra, k_rb, k_rc] : List ByteArray).length : Int)), (18, iV (i1 : Int)), (47, v10), (48, iV (x3.length : Int)), (49, iV (i3 : Int)), (54, v10), (55, iV (x9.length : Int)), (56, iV (i4 : Int)), (71, bV ((decide (0 < y4.Rank)) && (decide ((Int.tmod y4.Rank 10) < (Int.tmod ((nth x9 (i3 : Int)).Rank) 10)))))] 114 a w') ?_ ?_
         ·rcases Bool.eq_false_or_eq_true (decide (0 < y4.Rank)) with hb2 | hb2
          ·refine l_want S rfl rfl rfl hb2 (lv S (rn_fld fa_54_3 (S.tm rfl)) rfl ?_);clear S;intro a S
           refine l_want S rfl rfl rfl hb2 (lv S (rn_load Tryz.isAgg3 (S.tm rfl) (S.cell (i := 0) rfl rfl)) rfl ?_);clear S;intro a S
           refine l_want S rfl rfl rfl hb2 (lv S (rn_rem (S.tm rfl) rfl (by decide)) rfl ?_);clear S;intro a S
           refine l_want S rfl rfl rfl hb2 (lv S (rn_fld fa_54_3 (S.tm rfl)) rfl ?_);clear S;intro a S
           refine l_want S rfl rfl rfl hb2 (lv S (rn_load Tryz.isAgg3 (S.tm rfl) (S.cell (i := 1) rfl rfl)) rfl ?_);clear S;intro a S
           refine l_want S rfl rfl rfl hb2 (lv S (rn_rem (S.tm rfl) rfl (by decide)) rfl ?_);clear S;intro a S
           refine l_want S rfl rfl rfl hb2 (lv S (rn_lss (S.tm rfl) (S.tm rfl)) rfl ?_);clear S;intro a S
           refine lv S (rn_and_t hb2 (S.tm rfl) (S.tm rfl)) rfl ?_;clear S;intro a S
           refine Ld (Tn ?_)
           exact ⟨Keep.refl _ _, S.nf [true, true, true, true, true] rfl (subR rfl)⟩
          ·iterate 7 (refine l_skip S rfl rfl rfl (neq_f hb2) rfl ?_ rfl;clear S;intro a S)
           refine lv S (rn_and_f (decide ((Int.tmod y4.Rank 10) < (Int.tmod ((nth x9 (i3 : Int)).Rank) 10))) hb2 (S.tm rfl) rfl) rfl ?_;clear S;intro a S
           refine Ld (Tn ?_)
           exact ⟨Keep.refl _ _, S.nf [true, true, true, true, true] rfl (subR rfl)⟩
         clear S;rintro a w27 ⟨hk15, S⟩
         refine lv S (Rm (S.tm rfl)) rfl ?_;clear S;intro a S
         refine f_cutm 4 (fun a w' => Keep [] w27 w' ∧ Sx w [U] φ3 [.blk b11 (GScored.enc y4) 54, .blk b9 (GScored.enc (nth x9 (i3 : Int))) 54, .own v10 54 5 x9.length (x9.flatMap GScored.enc), .own v1 54 5 x1.length (x1.flatMap GScored.enc), .blk U [Z, iV x4] 25] [(0, .pointer (some ⟨U, 0, none⟩)), (3, v1), (7, v10), (10, iV (i3 : Int)), (11, .pointer (some ⟨b9, 0, none⟩)), (12, iV x11), (16, (.slice (some ⟨b1, 0, none⟩) 3 3)), (17, iV (([k_ra, k_rb, k_rc] : List ByteArray).length : Int)), (18, iV (i1 : Int)), (47, v10), (48, iV (x3.length : Int)), (49, iV (i3 : Int)), (54, v10), (55, iV (x9.length : Int)), (56, iV (i4 : Int)), (76, bV (((decide (0 < y4.Rank)) && (decide ((Int.tmod y4.Rank 10) < (Int.tmod ((nth x9 (i3 : Int)).Rank) 10)))) && (decide (0 < ((nth x9 (i3 : Int)).Rank)))))] 114 a w') ?_ ?_
         ·rcases Bool.eq_false_or_eq_true ((decide (0 < y4.Rank)) && (decide ((Int.tmod y4.Rank 10) < (Int.tmod ((nth x9 (i3 : Int)).Rank) 10)))) with hb3 | hb3
          ·refine l_want S rfl rfl rfl hb3 (lv S (rn_fld fa_54_3 (S.tm rfl)) rfl ?_);clear S;intro a S
           refine l_want S rfl rfl rfl hb3 (lv S (rn_load Tryz.isAgg3 (S.tm rfl) (S.cell (i := 1) rfl rfl)) rfl ?_);clear S;intro a S
           refine l_want S rfl rfl rfl hb3 (lv S (rn_gtr (S.tm rfl) rfl) rfl ?_);clear S;intro a S
           refine lv S (rn_and_t hb3 (S.tm rfl) (S.tm rfl)) rfl ?_;clear S;intro a S
           refine Ld (Tn ?_)
           exact ⟨Keep.refl _ _, S.nf [true, true, true, true, true] rfl (subR rfl)⟩
          ·iterate 3 (refine l_skip S rfl rfl rfl (neq_f hb3) rfl ?_ rfl;clear S;intro a S)
           refine lv S (rn_and_f (decide (0 < ((nth x9 (i3 : Int)).Rank))) hb3 (S.tm rfl) rfl) rfl ?_;clear S;intro a S
           refine Ld (Tn ?_)
           exact ⟨Keep.refl _ _, S.nf [true, true, true, true, true] rfl (subR rfl)⟩
         clear S;rintro a w28 ⟨hk16, S⟩
         refine Ld ?_
         replace S := S.nk [.blk b9 (GScored.enc (nth x9 (i3 : Int))) 54, .own v10 54 5 x9.length (x9.flatMap GScored.enc), .own v1 54 5 x1.length (x1.flatMap GScored.enc), .blk U [Z, iV x4] 25] [(0, .pointer (some ⟨U, 0, none⟩)), (3, v1), (7, v10), (10, iV (i3 : Int)), (11, .pointer (some ⟨b9, 0, none⟩)), (12, iV x11), (16, (.slice (some ⟨b1, 0, none⟩) 3 3)), (17, iV (([k_ra, k_rb, k_rc] : List ByteArray).length : Int)), (18, iV (i1 : Int)), (47, v10), (48, iV (x3.length : Int)), (49, iV (i3 : Int)), (54, v10), (55, iV (x9.length : Int)), (56, iV (i4 : Int)), (76, bV (((decide (0 < y4.Rank)) && (decide ((Int.tmod y4.Rank 10) < (Int.tmod ((nth x9 (i3 : Int)).Rank) 10)))) && (decide (0 < ((nth x9 (i3 : Int)).Rank)))))] [false, true, true, true, true] rfl (subR rfl)
         refine Tn ?_
         obtain ⟨j9, hj9, h⟩ := joinE h
         refine f_join (fun a w' => ∃ x13 : Int, j9 x13 = some r ∧ Sx w [U] φ3 [.blk b9 (GScored.enc (nth x9 (i3 : Int))) 54, .own v10 54 5 x9.length (x9.flatMap GScored.enc), .own v1 54 5 x1.length (x1.flatMap GScored.enc), .blk U [Z, iV x4] 25] [(0, .pointer (some ⟨U, 0, none⟩)), (3, v1), (7, v10), (10, iV (i3 : Int)), (11, .pointer (some ⟨b9, 0, none⟩)), (12, iV x13), (16, (.slice (some ⟨b1, 0, none⟩) 3 3)), (17, iV (([k_ra, k_rb, k_rc] : List ByteArray).length : Int)), (18, iV (i1 : Int)), (47, v10), (48, iV (x3.length : Int)), (49, iV (i3 : Int)), (54, v10), (55, iV (x9.length : Int)), (56, iV (i4 : Int))] 114 a w') ?_ ?_
         ·refine f_cond (S.tm rfl) (fun hb4 => ?_) (fun hb4 => ?_)
          ·replace h := iteT h hb4
           refine Fg (lv S (Rm (S.tm rfl)) rfl ?_);clear S;intro a S
           refine lv S (rn_add (S.tm rfl) rfl) rfl ?_;clear S;intro a S
           refine lv S (Ra (S.tm rfl)) rfl ?_;clear S;intro a S
           refine Ld ?_
           replace S := S.nk [.blk b9 (GScored.enc (nth x9 (i3 : Int))) 54, .own v10 54 5 x9.length (x9.flatMap GScored.enc), .own v1 54 5 x1.length (x1.flatMap GScored.enc), .blk U [Z, iV x4] 25] [(0, .pointer (some ⟨U, 0, none⟩)), (3, v1), (7, v10), (10, iV (i3 : Int)), (11, .pointer (some ⟨b9, 0, none⟩)), (12, iV (W (x11 + 1))), (16, (.slice (some ⟨b1, 0, none⟩) 3 3)), (17, iV (([k_ra, k_rb, k_rc] : List ByteArray).length : Int)), (18, iV (i1 : Int)), (47, v10), (48, iV (x3.length : Int)), (49, iV (i3 : Int)), (54, v10), (55, iV (x9.length : Int)), (56, iV (i4 : Int))] [true, true, true, true] rfl (subR rfl)
           refine Tn ?_
           exact ⟨W (x11 + 1), h, S.nf [true, true, true, true] rfl (subR rfl)⟩
          ·replace h := iteF h hb4
           refine wp_skip (Tn ?_)
           exact ⟨x11, h, S.nf [true, true, true, true] rfl (subR rfl)⟩
         clear S h;rintro a w29 ⟨x13, h, S⟩;rw [hj9] at h;clear hj9 j9
         refine blk_n (Tn ?_)
         exact ⟨x13, h, S.nf [true, true, true, true] rfl (subR rfl)⟩
        clear S h;rintro a w24 ⟨x12, h, S⟩;rw [hj8] at h;clear hj8 j8
        refine Tn (Fg (lv S (rn_add (S.tm rfl) rfl) rfl ?_));clear S;intro a S
        refine lv S (Rm (S.tm rfl)) rfl ?_;clear S;intro a S
        refine Ld ?_
        replace S := S.nk [.blk b9 (GScored.enc (nth x9 (i3 : Int))) 54, .own v10 54 5 x9.length (x9.flatMap GScored.enc), .own v1 54 5 x1.length (x1.flatMap GScored.enc), .blk U [Z, iV x4] 25] [(0, .pointer (some ⟨U, 0, none⟩)), (3, v1), (7, v10), (10, iV (i3 : Int)), (11, .pointer (some ⟨b9, 0, none⟩)), (12, iV x12), (16, (.slice (some ⟨b1, 0, none⟩) 3 3)), (17, iV (([k_ra, k_rb, k_rc] : List ByteArray).length : Int)), (18, iV (i1 : Int)), (47, v10), (48, iV (x3.length : Int)), (49, iV (i3 : Int)), (54, v10), (55, iV (x9.length : Int)), (56, iV (W ((i4 : Int) + 1)))] [true, true, true, true] rfl (subR rfl)
        refine Tn ?_
        exact ⟨ys4, ⟨i4 + 1, x12, ⟨_, (hd4).trans (List.append_cons _ _ _), by simp [hi4]⟩, h, S.nf [true, true, true, true] rfl ⟨rfl, rfl, rfl, rfl, rfl, rfl, rfl, rfl, rfl, rfl, rfl, rfl, rfl, rfl, (congrArg (fun z => some (Value.int .i64 z)) (rng_next hd4 hi4 hm5)), trivial⟩⟩, Nat.lt_succ_self _⟩
      clear S h;rintro a w23 ⟨x11, h, S⟩;rw [hj7] at h;clear hj7 j7
      refine Tn (Fs (Fg (lv S (rn_fld fa_54_3 (S.tm rfl)) rfl ?_)));clear S;intro a S
      refine lv S (rn_load Tryz.isAgg3 (S.tm rfl) (S.cell (i := 0) rfl rfl)) rfl ?_;clear S;intro a S
      refine lv S (rn_gtr (S.tm rfl) rfl) rfl ?_;clear S;intro a S
      refine Ld ?_
      replace S := S.nk [.blk b9 (GScored.enc (nth x9 (i3 : Int))) 54, .own v10 54 5 x9.length (x9.flatMap GScored.enc), .own v1 54 5 x1.length (x1.flatMap GScored.enc), .blk U [Z, iV x4] 25] [(0, .pointer (some ⟨U, 0, none⟩)), (3, v1), (7, v10), (10, iV (i3 : Int)), (11, .pointer (some ⟨b9, 0, none⟩)), (12, iV x11), (16, (.slice (some ⟨b1, 0, none⟩) 3 3)), (17, iV (([k_ra, k_rb, k_rc] : List ByteArray).length : Int)), (18, iV (i1 : Int)), (47, v10), (48, iV (x3.length : Int)), (49, iV (i3 : Int)), (82, bV (decide (0 < ((nth x9 (i3 : Int)).Rank))))] [true, true, true, true] rfl (subR rfl)
      refine Tn ?_
      obtain ⟨j10, hj10, h⟩ := joinE h
      refine f_join (fun a w' => ∃ x14 : List GScored, j10 x14 = some r ∧ Sx w [U] φ3 [.own v10 54 5 x14.length (x14.flatMap GScored.enc), .own v1 54 5 x1.length (x1.flatMap GScored.enc), .blk U [Z, iV x4] 25] [(0, .pointer (some ⟨U, 0, none⟩)), (3, v1), (7, v10), (16, (.slice (some ⟨b1, 0, none⟩) 3 3)), (17, iV (([k_ra, k_rb, k_rc] : List ByteArray).length : Int)), (18, iV (i1 : Int)), (47, v10), (48, iV (x3.length : Int)), (49, iV (i3 : Int))] 114 a w') ?_ ?_
      ·refine f_cond (S.tm rfl) (fun hb5 => ?_) (fun hb5 => ?_)
       ·replace h := iteT h hb5
        refine Fg (lv S (Rm (S.tm rfl)) rfl ?_);clear S;intro a S
        refine lv S (Rm (S.tm rfl)) rfl ?_;clear S;intro a S
        refine lv S (rn_fld fa_54_3 (S.tm rfl)) rfl ?_;clear S;intro a S
        refine lv S (rn_load Tryz.isAgg3 (S.tm rfl) (S.cell (i := 0) rfl rfl)) rfl ?_;clear S;intro a S
        refine lv S (Rm (S.tm rfl)) rfl ?_;clear S;intro a S
        refine lv S (rn_mul rfl (S.tm rfl)) rfl ?_;clear S;intro a S
        refine lv S (rn_add (S.tm rfl) (S.tm rfl)) rfl ?_;clear S;intro a S
        obtain ⟨hc3, h⟩ := chkE h
        obtain ⟨b12, hg3, hr9⟩ := rn_indexS (a := a) (x := .tmp 83) (y := .tmp 84) (ty := 0) sl_29 GScored.enc_ok S (i := 1) rfl (inB_get hc3).1 (inB_get hc3).2 (S.tm rfl) (S.tm rfl)
        refine lv S (hr9 _) rfl ?_;clear S;intro a S
        clear hr9
        refine lv S (rn_fld fa_54_3 (S.tm rfl)) rfl ?_;clear S;intro a S
        refine l_storeO (c := 3) (j := (i3 : Int).toNat) (GScored.mk ((nth x9 (i3 : Int)).Race) ((nth x9 (i3 : Int)).Who) ((nth x9 (i3 : Int)).Club) (W (((nth x9 (i3 : Int)).Rank) + (W (10 * x11)))) ((nth x9 (i3 : Int)).Relay)) GScored.enc_ok S (S.tm rfl) (S.tm rfl) (i := 1) rfl hg3 (inB_get hc3).1 Tryz.sizeOf3 (vs := [iV (W (((nth x9 (i3 : Int)).Rank) + (W (10 * x11))))]) rfl rfl rfl rfl rfl ?_;clear S;intro w32 hk18 S
        refine Ld ?_
        replace S := S.nk [.own v10 54 5 (x9.set ((i3 : Int).toNat) (GScored.mk ((nth x9 (i3 : Int)).Race) ((nth x9 (i3 : Int)).Who) ((nth x9 (i3 : Int)).Club) (W (((nth x9 (i3 : Int)).Rank) + (W (10 * x11)))) ((nth x9 (i3 : Int)).Relay))).length ((x9.set ((i3 : Int).toNat) (GScored.mk ((nth x9 (i3 : Int)).Race) ((nth x9 (i3 : Int)).Who) ((nth x9 (i3 : Int)).Club) (W (((nth x9 (i3 : Int)).Rank) + (W (10 * x11)))) ((nth x9 (i3 : Int)).Relay))).flatMap GScored.enc), .own v1 54 5 x1.length (x1.flatMap GScored.enc), .blk U [Z, iV x4] 25] [(0, .pointer (some ⟨U, 0, none⟩)), (3, v1), (7, v10), (16, (.slice (some ⟨b1, 0, none⟩) 3 3)), (17, iV (([k_ra, k_rb, k_rc] : List ByteArray).length : Int)), (18, iV (i1 : Int)), (47, v10), (48, iV (x3.length : Int)), (49, iV (i3 : Int))] [false, true, true, true] rfl (subR rfl)
        refine Tn ?_
        exact ⟨(x9.set ((i3 : Int).toNat) (GScored.mk ((nth x9 (i3 : Int)).Race) ((nth x9 (i3 : Int)).Who) ((nth x9 (i3 : Int)).Club) (W (((nth x9 (i3 : Int)).Rank) + (W (10 * x11)))) ((nth x9 (i3 : Int)).Relay))), h, S.nf [true, true, true] rfl (subR rfl)⟩
       ·replace h := iteF h hb5
        refine wp_skip (Tn ?_)
        exact ⟨x9, h, S.nf [false, true, true, true] rfl (subR rfl)⟩
      clear S h;rintro a w30 ⟨x14, h, S⟩;rw [hj10] at h;clear hj10 j10
      refine blk_n (Tn ?_)
      exact ⟨x14, h, S.nf [true, true, true] rfl (subR rfl)⟩
     clear S h;rintro a w19 ⟨x10, h, S⟩;rw [hj6] at h;clear hj6 j6
     refine Tn (Fg (lv S (rn_add (S.tm rfl) rfl) rfl ?_));clear S;intro a S
     refine lv S (Rm (S.tm rfl)) rfl ?_;clear S;intro a S
     refine Ld (Tn ?_)
     exact ⟨ys3, ⟨i3 + 1, x10, v10, ⟨_, (hd3).trans (List.append_cons _ _ _), by simp [hi3]⟩, h, S.nf [true, true, true] rfl ⟨rfl, rfl, rfl, rfl, rfl, rfl, rfl, rfl, (congrArg (fun z => some (Value.int .i64 z)) (rng_next hd3 hi3 hm3)), trivial⟩⟩, Nat.lt_succ_self _⟩
   clear S h;rintro a w18 ⟨x9, v10, h, S⟩;rw [hj5] at h;clear hj5 j5
   refine Tn (Fs (Fs (Fg (lv S (Rm (S.tm rfl)) rfl ?_))));clear S;intro a S
   refine lv S (rn_lenT sl_29 (S.tm rfl) (own_len (S.own_at (i := 0) rfl))) rfl ?_;clear S;intro a S
   refine lv S (Rm rfl) rfl ?_;clear S;intro a S
   refine Ld (Tn ?_)
   replace S := S.nk [.own v10 54 5 x9.length (x9.flatMap GScored.enc), .own v1 54 5 x1.length (x1.flatMap GScored.enc), .blk U [Z, iV x4] 25] [(0, .pointer (some ⟨U, 0, none⟩)), (3, v1), (7, v10), (16, (.slice (some ⟨b1, 0, none⟩) 3 3)), (17, iV (([k_ra, k_rb, k_rc] : List ByteArray).length : Int)), (18, iV (i1 : Int)), (94, iV (x9.length : Int)), (95, iV 0)] [true, true, true] rfl (subR rfl)
   have hm8 := own_max (S.own_at (i := 0) rfl)
   obtain ⟨j11, hj11, h⟩ := joinE h
   refine f_join (fun a w' => ∃ x15 : List GScored, ∃ v11 : Value, j11 x15 = some r ∧ Sx w [U] φ3 [.own v11 54 5 x15.length (x15.flatMap GScored.enc), .own v1 54 5 x1.length (x1.flatMap GScored.enc), .blk U [Z, iV x4] 25] [(0, .pointer (some ⟨U, 0, none⟩)), (3, v1), (7, v11), (16, (.slice (some ⟨b1, 0, none⟩) 3 3)), (17, iV (([k_ra, k_rb, k_rc] : List ByteArray).length : Int)), (18, iV (i1 : Int))] 114 a w') ?_ ?_
   ·refine wp_block (f_loop (fun (ys5 : List GScored) a w' => ∃ i5 : Nat, ∃ x15 : List GScored, ∃ v11 : Value, (∃ dn, x9 = dn ++ ys5 ∧ dn.length = i5) ∧ Stream_RightScored_l5 j11 ys5 i5 x15 = some r ∧ Sx w [U] φ3 [.own v11 54 5 x15.length (x15.flatMap GScored.enc), .own v1 54 5 x1.length (x1.flatMap GScored.enc), .blk U [Z, iV x4] 25] [(0, .pointer (some ⟨U, 0, none⟩)), (3, v1), (7, v11), (16, (.slice (some ⟨b1, 0, none⟩) 3 3)), (17, iV (([k_ra, k_rb, k_rc] : List ByteArray).length : Int)), (18, iV (i1 : Int)), (94, iV (x9.length : Int)), (95, iV (i5 : Int))] 114 a w') List.length x9 ⟨0, x9, v10, ⟨[], rfl, rfl⟩, h, S.nf [true, true, true] rfl (subR rfl)⟩ ?_)
    clear S h;rintro ys5 a w33 ⟨i5, x15, v11, ⟨dn, hd5, hi5⟩, h, S⟩
    cases ys5 with
    | nil =>
     rw [Stream_RightScored_l5.eq_1] at h
     refine Fs (Fg (lv S (rn_lss (S.tm rfl) (S.tm rfl)) rfl ?_));clear S;intro a S
     refine Ld ?_
     replace S := S.nk [.own v11 54 5 x15.length (x15.flatMap GScored.enc), .own v1 54 5 x1.length (x1.flatMap GScored.enc), .blk U [Z, iV x4] 25] [(0, .pointer (some ⟨U, 0, none⟩)), (3, v1), (7, v11), (16, (.slice (some ⟨b1, 0, none⟩) 3 3)), (17, iV (([k_ra, k_rb, k_rc] : List ByteArray).length : Int)), (18, iV (i1 : Int)), (94, iV (x9.length : Int)), (95, iV (i5 : Int)), (96, bV (decide ((i5 : Int) < (x9.length : Int))))] [true, true, true] rfl (subR rfl)
     refine Tn (Fs (wp_cond_false ((S.tm rfl).trans (congrArg Value.bool (rng_nil hd5 hi5))) (wp_exit (then_x (then_x (x_same ?_))))))
     refine Tn ?_
     exact ⟨x15, v11, h, S.nf [true, true, true] rfl (subR rfl)⟩
    | cons y5 ys5 =>
     rw [Stream_RightScored_l5.eq_2] at h
     refine Fs (Fg (lv S (rn_lss (S.tm rfl) (S.tm rfl)) rfl ?_));clear S;intro a S
     refine Ld ?_
     replace S := S.nk [.own v11 54 5 x15.length (x15.flatMap GScored.enc), .own v1 54 5 x1.length (x1.flatMap GScored.enc), .blk U [Z, iV x4] 25] [(0, .pointer (some ⟨U, 0, none⟩)), (3, v1), (7, v11), (16, (.slice (some ⟨b1, 0, none⟩) 3 3)), (17, iV (([k_ra, k_rb, k_rc] : List ByteArray).length : Int)), (18, iV (i1 : Int)), (94, iV (x9.length : Int)), (95, iV (i5 : Int)), (96, bV (decide ((i5 : Int) < (x9.length : Int))))] [true, true, true] rfl (subR rfl)
     refine Tn (Fs (wp_cond_true ((S.tm rfl).trans (congrArg Value.bool (rng_cons hd5 hi5))) (wp_skip (Tn (Fs (wp_block ?_))))))
     refine Fs (Fg (lv S (Rm (S.tm rfl)) rfl ?_));clear S;intro a S
     refine lv S (Ra (S.tm rfl)) rfl ?_;clear S;intro a S
     refine Ld (Tn (Fg (lv S (Rm (S.tm rfl)) rfl ?_)));clear S;intro a S
     refine lv S (Rm (S.tm rfl)) rfl ?_;clear S;intro a S
     obtain ⟨hc4, h⟩ := chkE h
     obtain ⟨b13, hg4, hr10⟩ := rn_indexS (a := a) (x := .tmp 98) (y := .tmp 99) (ty := 0) sl_29 GScored.enc_ok S (i := 0) rfl (inB_get hc4).1 (inB_get hc4).2 (S.tm rfl) (S.tm rfl)
     refine lv S (hr10 _) rfl ?_;clear S;intro a S
     clear hr10
     refine lv S (rn_fld fa_54_3 (S.tm rfl)) rfl ?_;clear S;intro a S
     refine lv S (rn_ld Tryz.isAgg3 (off := ((i5 : Int).toNat) * 5) (o := 3) (S.tm rfl) (own_cells GScored.enc_ok S (i := 0) rfl hg4 (inB_get hc4).1) rfl) rfl ?_;clear S;intro a S
     refine lv S (rn_quo (S.tm rfl) rfl (by decide)) rfl ?_;clear S;intro a S
     obtain ⟨hc5, h⟩ := chkE h
     obtain ⟨b14, hg5, hr11⟩ := rn_indexS (a := a) (x := .tmp 98) (y := .tmp 99) (ty := 0) sl_29 GScored.enc_ok S (i := 0) rfl (inB_get hc5).1 (inB_get hc5).2 (S.tm rfl) (S.tm rfl)
     refine lv S (hr11 _) rfl ?_;clear S;intro a S
     clear hr11
     refine lv S (rn_fld fa_54_3 (S.tm rfl)) rfl ?_;clear S;intro a S
     refine l_storeO (c := 3) (j := (i5 : Int).toNat) (GScored.mk ((nth x15 (i5 : Int)).Race) ((nth x15 (i5 : Int)).Who) ((nth x15 (i5 : Int)).Club) (W (Int.tdiv ((nth x15 (i5 : Int)).Rank) 10)) ((nth x15 (i5 : Int)).Relay)) GScored.enc_ok S (S.tm rfl) (S.tm rfl) (i := 0) rfl hg5 (inB_get hc5).1 Tryz.sizeOf3 (vs := [iV (W (Int.tdiv ((nth x15 (i5 : Int)).Rank) 10))]) rfl rfl rfl rfl rfl ?_;clear S;intro w36 hk20 S
     refine Ld ?_
     replace S := S.nk [.own v11 54 5 (x15.set ((i5 : Int).toNat) (GScored.mk ((nth x15 (i5 : Int)).Race) ((nth x15 (i5 : Int)).Who) ((nth x15 (i5 : Int)).Club) (W (Int.tdiv ((nth x15 (i5 : Int)).Rank) 10)) ((nth x15 (i5 : Int)).Relay))).length ((x15.set ((i5 : Int).toNat) (GScored.mk ((nth x15 (i5 : Int)).Race) ((nth x15 (i5 : Int)).Who) ((nth x15 (i5 : Int)).Club) (W (Int.tdiv ((nth x15 (i5 : Int)).Rank) 10)) ((nth x15 (i5 : Int)).Relay))).flatMap GScored.enc), .own v1 54 5 x1.length (x1.flatMap GScored.enc), .blk U [Z, iV x4] 25] [(0, .pointer (some ⟨U, 0, none⟩)), (3, v1), (7, v11), (16, (.slice (some ⟨b1, 0, none⟩) 3 3)), (17, iV (([k_ra, k_rb, k_rc] : List ByteArray).length : Int)), (18, iV (i1 : Int)), (94, iV (x9.length : Int)), (95, iV (i5 : Int))] [true, true, true] rfl (subR rfl)
     refine blk_n (Tn (Fg (lv S (rn_add (S.tm rfl) rfl) rfl ?_)));clear S;intro a S
     refine lv S (Rm (S.tm rfl)) rfl ?_;clear S;intro a S
     refine Ld (Tn ?_)
     exact ⟨ys5, ⟨i5 + 1, (x15.set ((i5 : Int).toNat) (GScored.mk ((nth x15 (i5 : Int)).Race) ((nth x15 (i5 : Int)).Who) ((nth x15 (i5 : Int)).Club) (W (Int.tdiv ((nth x15 (i5 : Int)).Rank) 10)) ((nth x15 (i5 : Int)).Relay))), v11, ⟨_, (hd5).trans (List.append_cons _ _ _), by simp [hi5]⟩, h, S.nf [true, true, true] rfl ⟨rfl, rfl, rfl, rfl, rfl, rfl, rfl, (congrArg (fun z => some (Value.int .i64 z)) (rng_next hd5 hi5 hm8)), trivial⟩⟩, Nat.lt_succ_self _⟩
   clear S h;rintro a w34 ⟨x15, v11, h, S⟩;rw [hj11] at h;clear hj11 j11
   refine Tn (Fs (Fg (lv S (Rm (S.tm rfl)) rfl ?_)));clear S;intro a S
   obtain ⟨r5, hr12, h⟩ := bindE h
   refine l_enterO 0 S rfl (fun _ => .own v11 54 5 r5.length (r5.flatMap GScored.enc)) (fun _ => run_call (vs := [v11, .func (.func 37) #[] #[]]) ⟨(S.tm rfl), rfl, trivial⟩ Tryz.call53) (slices_SortFunc_Scored_tumbref2_ScoredOrder_ok _ v11 x15 (S.holds _ (List.mem_of_getElem? (i := 0) rfl)) _ hr12) rfl (fun _ _ _ h => ⟨h.1, fun _ hc => hc⟩) ?_;clear S;intro v12 a w37 hv5 hk21 hn5 S
   replace hv5 := hv5.2
   subst hv5
   refine Ld (Tn (Fg (lv S (Rm (S.tm rfl)) rfl ?_)));clear S;intro a S
   refine lv S (Rm (S.tm rfl)) rfl ?_;clear S;intro a S
   obtain ⟨hc6, h⟩ := chkE h
   refine l_appendS (Y := []) sl_29 GScored.enc_ok S (S.tm rfl) (i := 1) rfl (S.tm rfl) (own_slcT GScored.enc_ok S (i := 0) rfl (fun _ _ h => by cases h)) rfl rfl (by have := room_lt hc6;omega) rfl ?_;clear S;intro v13 a w38 hk22 S
   refine lv S (Ra (S.tm rfl)) rfl ?_;clear S;intro a S
   refine Ld (blk_n (Tn (Fg (lv S (rn_add (S.tm rfl) rfl) rfl ?_))));clear S;intro a S
   refine lv S (Rm (S.tm rfl)) rfl ?_;clear S;intro a S
   refine Ld (Tn ?_)
   exact ⟨ys1, ⟨i1 + 1, (x1 ++ r5), x4, φ3, v13, ⟨_, (hd1).trans (List.append_cons _ _ _), by simp [hi1]⟩, h, (View.le_trans hl2 hl3), S.nf [false, true, true] rfl ⟨rfl, rfl, rfl, rfl, (congrArg (fun z => some (Value.int .i64 z)) (rng_next hd1 hi1 (slc_max (ownV_slcT enc_str hs1)))), trivial⟩⟩, Nat.lt_succ_self _⟩
 clear S h;rintro a w3 ⟨x1, x2, φ2, v1, h, hl2, S⟩;rw [hj1] at h;clear hj1 j1
 refine Tn (Fs (Fg (lv S (Rm (S.tm rfl)) rfl ?_)));clear S;intro a S
 refine lv S (Ra (S.tm rfl)) rfl ?_;clear S;intro a S
 refine Ld (Tn (wp_ret ?_))
 obtain rfl := Option.some.inj h
 exact f_ret S Tryz.results25 rfl ⟨(S.holds _ (List.mem_of_getElem? (i := 1) rfl)), (own_retX S (i := 0) rfl (fun c hc hh => not_fps S (i := 1) rfl rfl (j := 0) rfl rfl (by simp at hc;subst hc;exact hh)))⟩
theorem Stream_Scored_ok (w : World) (U : Nat) (Z : Value) (Ai : List Int) (Aj : Slc (view w [U]) 1 Z (Ai.map eInt)) (Ae : Int) (Ba : (LEnt.blk U [Z, iV Ae] 25).holds w) (r : (List GScored) × Int) (h : Stream_Scored Ai Ae = some r) :
    Calls Tryz.prog 5 [.pointer (some ⟨U, 0, none⟩)].toArray w (Ret w [U] fun τ v w' => (LEnt.blk U [Z, iV r.2] 25).holds w' ∧ OwnV τ 54 5 v r.1.length (r.1.flatMap GScored.enc)) := by
 refine f_enter [U] [.blk U [Z, iV Ae] 25] Tryz.func5 rfl Tryz.ntmps5 rfl (fun e he => by simp only [List.mem_singleton] at he;subst he;exact Ba) (by simp [fps, LEnt.fp]) (by simp [fps, LEnt.fp]) fun a S => ?_
 unfold Stream_Scored at h
 replace S := S.nk [.blk U [Z, iV Ae] 25] [(0, .pointer (some ⟨U, 0, none⟩))] [true] rfl ⟨rfl, trivial⟩
 refine Fs (Fg (lv S (Ra rfl) rfl ?_));clear S;intro a S
 refine Ld (Tn (Fs (Fg (lv S (Rm (S.tm rfl)) rfl ?_))));clear S;intro a S
 obtain ⟨r1, hr1, h⟩ := bindE h
 have hz1 := S.keep.size
 refine l_enter1 0 S (b := U) rfl rfl (fun _ => .blk U [Z, iV r1.2] 25) (fun _ => run_call (vs := [.pointer (some ⟨U, 0, none⟩)]) ⟨(S.tm rfl), trivial⟩ Tryz.call25) (Stream_RightScored_ok _ U Z Ai (Aj.mono (S.le_arg (fp_sub (i := 0) (e := .blk U [Z, iV Ae] 25) rfl))) Ae (S.holds _ (List.mem_of_getElem? (i := 0) rfl)) _ hr1) rfl (fun _ _ _ h => ⟨h.1, fun _ hc => by cases hc;rfl⟩) ?_;clear S;intro v1 a w1 hv1 hk1 hn1 S
 replace hv1 := hv1.2
 replace S := S.take hn1 hz1 hv1
 refine lv S (Ra (S.tm rfl)) rfl ?_;clear S;intro a S
 refine Ld (Tn (Fs (Fs (Fg (lv S (Rm (S.tm rfl)) rfl ?_)))));clear S;intro a S
 obtain ⟨r2, hr2, h⟩ := bindE h
 refine l_enter1 1 S (b := U) rfl rfl (fun _ => .blk U [Z, iV r2.2] 25) (fun _ => run_call (vs := [.pointer (some ⟨U, 0, none⟩), iV 20]) ⟨(S.tm rfl), rfl, trivial⟩ Tryz.call22) (Stream_Flip_ok _ U Z Ai (Aj.mono (S.le_arg (fp_sub (i := 1) (e := .blk U [Z, iV r1.2] 25) rfl))) r1.2 (S.holds _ (List.mem_of_getElem? (i := 1) rfl)) 20 _ hr2) rfl (fun _ _ _ h => ⟨h.1, fun _ hc => by cases hc;rfl⟩) ?_;clear S;intro v2 a w2 hv2 hk2 hn2 S
 replace hv2 := hv2.2
 subst hv2
 refine Ld (Tn ?_)
 obtain ⟨j1, hj1, h⟩ := joinE h
 refine f_join (fun a w' => ∃ x1 : Int, ∃ x2 : List GScored, ∃ v3 : Value, j1 x1 x2 = some r ∧ Sx w [U] nov [.own v3 54 5 x2.length (x2.flatMap GScored.enc), .blk U [Z, iV x1] 25] [(0, .pointer (some ⟨U, 0, none⟩)), (3, v3)] 88 a w') ?_ ?_
 ·refine f_cond (S.tm rfl) (fun hb1 => ?_) (fun hb1 => ?_)
  ·replace h := iteT h hb1
   refine Fs (Fg (lv S (Ra rfl) rfl ?_));clear S;intro a S
   replace S := S.nil 54 5
   refine Ld (Tn (Fs (Fg (lv S (Rm (S.tm rfl)) rfl ?_))));clear S;intro a S
   obtain ⟨r3, hr3, h⟩ := bindE h
   refine l_enter1 2 S (b := U) rfl rfl (fun _ => .blk U [Z, iV r3.2] 25) (fun _ => run_call (vs := [.pointer (some ⟨U, 0, none⟩), iV 9, iV 12]) ⟨(S.tm rfl), rfl, rfl, trivial⟩ Tryz.call26) (Stream_Range_ok _ U Z Ai (Aj.mono (S.le_arg (fp_sub (i := 2) (e := .blk U [Z, iV r2.2] 25) rfl))) r2.2 (S.holds _ (List.mem_of_getElem? (i := 2) rfl)) 9 12 _ hr3) rfl (fun _ _ _ h => ⟨h.1, fun _ hc => by cases hc;rfl⟩) ?_;clear S;intro v4 a w4 hv3 hk3 hn3 S
   replace hv3 := hv3.2
   subst hv3
   refine lv S (Rm rfl) rfl ?_;clear S;intro a S
   refine Ld (Tn ?_)
   replace S := S.nk [.own (.slice none 0 0) 54 5 ([] : List GScored).length (([] : List GScored).flatMap GScored.enc), .blk U [Z, iV r3.2] 25] [(0, .pointer (some ⟨U, 0, none⟩)), (3, (.slice none 0 0)), (11, iV r3.1), (12, iV 0)] [true, false, true] rfl (subR rfl)
   obtain ⟨j2, hj2, h⟩ := joinE h
   refine f_join (fun a w' => ∃ x3 : List GScored, ∃ x4 : Int, ∃ v5 : Value, j2 x3 x4 = some r ∧ Sx w [U] nov [.own v5 54 5 x3.length (x3.flatMap GScored.enc), .blk U [Z, iV x4] 25] [(0, .pointer (some ⟨U, 0, none⟩)), (3, v5)] 88 a w') ?_ ?_
   ·refine wp_block (f_loop (fun (m1 : Nat) a w' => ∃ x3 : List GScored, ∃ x4 : Int, ∃ x5 : Int, ∃ v5 : Value, Stream_Scored_l1 r3 Ai j2 m1 x3 x4 x5 = some r ∧ Sx w [U] nov [.own v5 54 5 x3.length (x3.flatMap GScored.enc), .blk U [Z, iV x4] 25] [(0, .pointer (some ⟨U, 0, none⟩)), (3, v5), (11, iV r3.1), (12, iV x5)] 88 a w') id ((r3.1 - 0).toNat + 2) ⟨([] : List GScored), r3.2, 0, (.slice none 0 0), h, S.nf [true, true] rfl (subR rfl)⟩ ?_)
    clear S h;rintro m1 a w5 ⟨x3, x4, x5, v5, h, S⟩
    cases m1 with
    | zero => rw [Stream_Scored_l1.eq_1] at h;cases h
    | succ m1 =>
     rw [Stream_Scored_l1.eq_2] at h
     refine Fs (Fg (lv S (rn_lss (S.tm rfl) (S.tm rfl)) rfl ?_));clear S;intro a S
     refine Ld (Tn (Fs (f_cond (S.tm rfl) (fun hb2 => ?_) (fun hb2 => ?_))))
     ·replace h := iteT h hb2
      refine wp_skip (Tn (Fs (wp_block (Fs (Fg (lv S (Rm (S.tm rfl)) rfl ?_))))));clear S;intro a S
      refine lv S (Ra (S.tm rfl)) rfl ?_;clear S;intro a S
      refine Ld (Tn (Fg (lv S (Rm (S.tm rfl)) rfl ?_)));clear S;intro a S
      refine lv S (Rm (S.tm rfl)) rfl ?_;clear S;intro a S
      refine lv S (rn_add rfl (S.tm rfl)) rfl ?_;clear S;intro a S
      refine lv S (rn_conv Tryz.underlying3 Tryz.underlying21 (S.tm rfl)) rfl ?_;clear S;intro a S
      refine lv S (rn_runestr Tryz.underlying21 Tryz.underlying9 (S.tm rfl)) rfl ?_;clear S;intro a S
      refine lv S (Rm (S.tm rfl)) rfl ?_;clear S;intro a S
      refine l_buildSlice S Tryz.underlying81 Tryz.sizeOf9 Tryz.zeroValue9 rfl rfl (pv := [(0, sV k_blue), (1, sV k_red)]) ⟨rfl, rfl, rfl, rfl, trivial⟩ (cs := [sV k_blue, sV k_red]) (by kernel_rfl) rfl ?_;clear S;intro a w7 b1 hz2 hk4 S
      obtain ⟨r4, hr4, h⟩ := bindE h
      refine l_enter1 2 S (b := U) rfl rfl (fun _ => .blk U [Z, iV r4.2] 25) (fun _ => run_call (vs := [.pointer (some ⟨U, 0, none⟩), .slice (some ⟨b1, 0, none⟩) 2 2]) ⟨(S.tm rfl), (S.tm rfl), trivial⟩ Tryz.call27) (Stream_Some_ok _ U Z Ai (Aj.mono (S.le_arg (fp_sub (i := 2) (e := .blk U [Z, iV x4] 25) rfl))) x4 (S.holds _ (List.mem_of_getElem? (i := 2) rfl)) (.slice (some ⟨b1, 0, none⟩) 2 2) [k_blue, k_red] (lit_slcT enc_str S (i := 0) rfl rfl rfl rfl ((ne_fp (i := 2) (j := 0) (e := .blk U [Z, iV x4] 25) (e' := .blk b1 [sV k_blue, sV k_red] 9) S rfl rfl rfl) _ rfl)) _ hr4) rfl (fun _ _ _ h => ⟨h.1, fun _ hc => by cases hc;rfl⟩) ?_;clear S;intro v6 a w8 hv4 hk5 hn4 S
      replace hv4 := hv4.2
      subst hv4
      refine lv S (rn_bld bt_54 (pv := [(0, sV k_ra), (1, sV (Utf8.encode (IntKind.wrap .i32 (W (97 + x5))))), (2, sV r4.1), (3, iV 1)]) ⟨rfl, rfl, rfl, (S.tm rfl), rfl, (S.tm rfl), rfl, rfl, trivial⟩ (cs := [sV k_ra, sV (Utf8.encode (IntKind.wrap .i32 (W (97 + x5)))), sV r4.1, iV 1, bV false]) (by kernel_rfl)) rfl ?_;clear S;intro a S
      refine l_buildSlice S Tryz.underlying29 Tryz.sizeOf54 Tryz.zeroValue54 rfl rfl (pv := [(0, .agg #[sV k_ra, sV (Utf8.encode (IntKind.wrap .i32 (W (97 + x5)))), sV r4.1, iV 1, bV false])]) ⟨rfl, (S.tm rfl), trivial⟩ (cs := [sV k_ra, sV (Utf8.encode (IntKind.wrap .i32 (W (97 + x5)))), sV r4.1, iV 1, bV false]) (by kernel_rfl) rfl ?_;clear S;intro a w9 b2 hz3 hk6 S
      obtain ⟨hc1, h⟩ := chkE h
      refine l_appendT sl_29 GScored.enc_ok S (S.tm rfl) (i := 2) rfl (S.tm rfl) (j := 0) rfl (ys := [(GScored.mk k_ra (Utf8.encode (IntKind.wrap .i32 (W (97 + x5)))) r4.1 1 false)]) rfl rfl rfl rfl (by have := room_lt hc1;omega) rfl ?_;clear S;intro v7 a w10 hk7 S
      refine lv S (Ra (S.tm rfl)) rfl ?_;clear S;intro a S
      refine Ld ?_
      replace S := S.nk [.own v7 54 5 (x3 ++ [(GScored.mk k_ra (Utf8.encode (IntKind.wrap .i32 (W (97 + x5)))) r4.1 1 false)]).length ((x3 ++ [(GScored.mk k_ra (Utf8.encode (IntKind.wrap .i32 (W (97 + x5)))) r4.1 1 false)]).flatMap GScored.enc), .blk U [Z, iV r4.2] 25] [(0, .pointer (some ⟨U, 0, none⟩)), (3, v7), (11, iV r3.1), (12, iV x5)] [false, false, true, true] rfl (subR rfl)
      refine blk_n (Tn (Fg (lv S (rn_add (S.tm rfl) rfl) rfl ?_)));clear S;intro a S
      refine lv S (Rm (S.tm rfl)) rfl ?_;clear S;intro a S
      refine Ld (Tn ?_)
      exact ⟨m1, ⟨(x3 ++ [(GScored.mk k_ra (Utf8.encode (IntKind.wrap .i32 (W (97 + x5)))) r4.1 1 false)]), r4.2, W (x5 + 1), v7, h, S.nf [true, true] rfl ⟨rfl, rfl, rfl, rfl, trivial⟩⟩, Nat.lt_succ_self _⟩
     ·replace h := iteF h hb2
      refine wp_exit (then_x (then_x (x_same (Tn ?_))))
      exact ⟨x3, x4, v5, h, S.nf [true, true] rfl (subR rfl)⟩
   clear S h;rintro a w6 ⟨x3, x4, v5, h, S⟩;rw [hj2] at h;clear hj2 j2
   refine Tn ?_
   exact ⟨x4, x3, v5, h, S.nf [true, true] rfl (subR rfl)⟩
  ·replace h := iteF h hb1
   refine wp_skip (Tn ?_)
   exact ⟨r2.2, r1.1, v1, h, S.nf [true, true] rfl (subR rfl)⟩
 clear S h;rintro a w3 ⟨x1, x2, v3, h, S⟩;rw [hj1] at h;clear hj1 j1
 refine Tn (Fs (Fs (Fg (lv S (Rm (S.tm rfl)) rfl ?_))));clear S;intro a S
 refine lv S (rn_lenT sl_29 (S.tm rfl) (own_len (S.own_at (i := 0) rfl))) rfl ?_;clear S;intro a S
 refine lv S (rn_gtr (S.tm rfl) rfl) rfl ?_;clear S;intro a S
 refine lv S (Rm (S.tm rfl)) rfl ?_;clear S;intro a S
 obtain ⟨j3, hj3, h⟩ := joinE h
 refine f_cutm 3 (fun a w' => ∃ x6 : Int, ∃ x7 : Bool, j3 x6 x7 = some r ∧ Sx w [U] nov [.own v3 54 5 x2.length (x2.flatMap GScored.enc), .blk U [Z, iV x6] 25] [(0, .pointer (some ⟨U, 0, none⟩)), (3, v3), (33, bV x7)] 88 a w') ?_ ?_
 ·rcases Bool.eq_false_or_eq_true (decide (0 < (x2.length : Int))) with hb3 | hb3
  ·replace h := iteT h hb3
   refine l_want S rfl rfl rfl hb3 (lv S (Rm (S.tm rfl)) rfl ?_);clear S;intro a S
   refine l_want S rfl rfl rfl hb3 ?_
   obtain ⟨r5, hr5, h⟩ := bindE h
   refine l_enter1 1 S (b := U) rfl rfl (fun _ => .blk U [Z, iV r5.2] 25) (fun _ => run_call (vs := [.pointer (some ⟨U, 0, none⟩), iV 12]) ⟨(S.tm rfl), rfl, trivial⟩ Tryz.call22) (Stream_Flip_ok _ U Z Ai (Aj.mono (S.le_arg (fp_sub (i := 1) (e := .blk U [Z, iV x1] 25) rfl))) x1 (S.holds _ (List.mem_of_getElem? (i := 1) rfl)) 12 _ hr5) rfl (fun _ _ _ h => ⟨h.1, fun _ hc => by cases hc;rfl⟩) ?_;clear S;intro v8 a w12 hv5 hk8 hn5 S
   replace hv5 := hv5.2
   subst hv5
   refine lv S (rn_pick_b hb3 (S.tm rfl) (S.tm rfl)) rfl ?_;clear S;intro a S
   refine Ld (Tn ?_)
   exact ⟨r5.2, r5.1, h, S.nf [true, true] rfl (subR rfl)⟩
  ·replace h := iteF h hb3
   refine l_skip S rfl rfl rfl (neq_f hb3) rfl ?_ rfl;clear S;intro a S
   refine l_skip S rfl rfl rfl (neq_f hb3) rfl ?_ rfl;clear S;intro a S
   refine lv S (rn_pick_c hb3 (S.tm rfl) rfl) rfl ?_;clear S;intro a S
   refine Ld (Tn ?_)
   exact ⟨x1, false, h, S.nf [true, true] rfl (subR rfl)⟩
 clear S h;rintro a w11 ⟨x6, x7, h, S⟩;rw [hj3] at h;clear hj3 j3
 refine Ld (Tn ?_)
 obtain ⟨j4, hj4, h⟩ := joinE h
 refine f_join (fun a w' => ∃ x8 : List GScored, ∃ x9 : Int, j4 x8 x9 = some r ∧ Sx w [U] nov [.own v3 54 5 x8.length (x8.flatMap GScored.enc), .blk U [Z, iV x9] 25] [(3, v3)] 88 a w') ?_ ?_
 ·refine f_cond (S.tm rfl) (fun hb4 => ?_) (fun hb4 => ?_)
  ·replace h := iteT h hb4
   refine Fs (Fg (lv S (Rm (S.tm rfl)) rfl ?_));clear S;intro a S
   refine lv S (Rm (S.tm rfl)) rfl ?_;clear S;intro a S
   refine lv S (Rm (S.tm rfl)) rfl ?_;clear S;intro a S
   refine lv S (rn_lenT sl_29 (S.tm rfl) (own_len (S.own_at (i := 0) rfl))) rfl ?_;clear S;intro a S
   obtain ⟨r6, hr6, h⟩ := bindE h
   refine l_enter1 1 S (b := U) rfl rfl (fun _ => .blk U [Z, iV r6.2] 25) (fun _ => run_call (vs := [.pointer (some ⟨U, 0, none⟩), iV (x2.length : Int)]) ⟨(S.tm rfl), (S.tm rfl), trivial⟩ Tryz.call28) (Stream_Next_ok _ U Z Ai (Aj.mono (S.le_arg (fp_sub (i := 1) (e := .blk U [Z, iV x6] 25) rfl))) x6 (S.holds _ (List.mem_of_getElem? (i := 1) rfl)) (x2.length : Int) _ hr6) rfl (fun _ _ _ h => ⟨h.1, fun _ hc => by cases hc;rfl⟩) ?_;clear S;intro v9 a w14 hv6 hk9 hn6 S
   replace hv6 := hv6.2
   subst hv6
   obtain ⟨hc2, h⟩ := chkE h
   obtain ⟨b3, hg1, hr7⟩ := rn_indexS (a := a) (x := .tmp 34) (y := .tmp 38) (ty := 0) sl_29 GScored.enc_ok S (i := 0) rfl (inB_get hc2).1 (inB_get hc2).2 (S.tm rfl) (S.tm rfl)
   refine lv S (hr7 _) rfl ?_;clear S;intro a S
   clear hr7
   refine lv S (Ra (S.tm rfl)) rfl ?_;clear S;intro a S
   refine Ld (Tn (Fs (Fg (lv S (Rm (S.tm rfl)) rfl ?_))));clear S;intro a S
   obtain ⟨r7, hr8, h⟩ := bindE h
   refine l_enter1 1 S (b := U) rfl rfl (fun _ => .blk U [Z, iV r7.2] 25) (fun _ => run_call (vs := [.pointer (some ⟨U, 0, none⟩), iV 4]) ⟨(S.tm rfl), rfl, trivial⟩ Tryz.call28) (Stream_Next_ok _ U Z Ai (Aj.mono (S.le_arg (fp_sub (i := 1) (e := .blk U [Z, iV r6.2] 25) rfl))) r6.2 (S.holds _ (List.mem_of_getElem? (i := 1) rfl)) 4 _ hr8) rfl (fun _ _ _ h => ⟨h.1, fun _ hc => by cases hc;rfl⟩) ?_;clear S;intro v10 a w15 hv7 hk10 hn7 S
   replace hv7 := hv7.2
   subst hv7
   refine Ld (Tn ?_)
   obtain ⟨j5, hj5, h⟩ := joinE h
   refine f_join (fun a w' => ∃ x10 : List GScored, ∃ x11 : Int, j5 x10 x11 = some r ∧ Sx w [U] nov [.own v3 54 5 x10.length (x10.flatMap GScored.enc), .blk U [Z, iV x11] 25] [(3, v3)] 88 a w') ?_ ?_
   ·refine wp_block (Fs (Fg (lv S (rn_eql (S.tm rfl) rfl) rfl ?_)));clear S;intro a S
    refine lv S (Ra (S.tm rfl)) rfl ?_;clear S;intro a S
    refine Ld (Tn ?_)
    obtain ⟨j6, hj6, h⟩ := joinE h
    refine f_join (fun a w' => ∃ x12 : List GScored, ∃ x13 : Int, j6 x12 x13 = some r ∧ Sx w [U] nov [.own v3 54 5 x12.length (x12.flatMap GScored.enc), .blk U [Z, iV x13] 25] [(3, v3)] 88 a w') ?_ ?_
    ·refine f_cond (S.tm rfl) (fun hb5 => ?_) (fun hb5 => ?_)
     ·replace h := iteT h hb5
      obtain ⟨j7, hj7, h⟩ := joinE h
      refine f_join (fun a w' => ∃ x14 : List GScored, ∃ x15 : Int, j7 x14 x15 = some r ∧ Sx w [U] nov [.own v3 54 5 x14.length (x14.flatMap GScored.enc), .blk U [Z, iV x15] 25] [(3, v3)] 88 a w') ?_ ?_
      ·obtain ⟨r8, hr9, h⟩ := bindE h
       obtain ⟨r9, hr10, h⟩ := bindE h
       refine d_region [18, 21] ([U]) Tryz.mixed S rfl (by kernel_rfl) ?_;clear S;intro w27 hk19 hsel S
       refine d_pure 0 S hsel rfl rfl (by kernel_rfl) (by kernel_rfl) rfl (fun _ => (Rm (S.tm rfl))) ?_;clear S;intro a S
       refine d_pure 1 S hsel rfl rfl (by kernel_rfl) (by kernel_rfl) rfl (fun _ => (Rm (S.tm rfl))) ?_;clear S;intro a S
       refine d_pure 2 S hsel rfl rfl (by kernel_rfl) (by kernel_rfl) rfl (fun _ => (Rm (S.tm rfl))) ?_;clear S;intro a S
       refine d_pure 3 S hsel rfl rfl (by kernel_rfl) (by kernel_rfl) rfl (fun _ => (Rm (S.tm rfl))) ?_;clear S;intro a S
       refine d_pure 4 S hsel rfl rfl (by kernel_rfl) (by kernel_rfl) rfl (fun _ => (rn_nilCheck (S.tm rfl))) ?_;clear S;intro a S
       refine d_pure 5 S hsel rfl rfl (by kernel_rfl) (by kernel_rfl) rfl (fun _ => (rn_fld fa_54_0 (S.tm rfl))) ?_;clear S;intro a S
       refine d_quiet 6 S hsel rfl (by kernel_rfl) (by kernel_rfl) (by kernel_rfl) (by kernel_rfl) rfl (fun _ hw => (rn_ld Tryz.isAgg9 (off := r6.1.toNat * 5) (o := 0) (S.tm rfl) ((own_mem GScored.enc_ok S (i := 0) rfl hg1 (inB_get hc2).1 (ne_fp (i := 1) (j := 0) (e := .blk U [Z, iV r7.2] 25) (e' := .own v3 54 5 x2.length (x2.flatMap GScored.enc)) S rfl rfl rfl)).kept hw) rfl)) ?_;clear S;intro a S
       refine d_pure 9 S hsel rfl rfl (by kernel_rfl) (by kernel_rfl) rfl (fun _ => (Rm (S.tm rfl))) ?_;clear S;intro a S
       refine d_pure 10 S hsel rfl rfl (by kernel_rfl) (by kernel_rfl) rfl (fun _ => (Rm (S.tm rfl))) ?_;clear S;intro a S
       refine d_pure 11 S hsel rfl rfl (by kernel_rfl) (by kernel_rfl) rfl (fun _ => (rn_nilCheck (S.tm rfl))) ?_;clear S;intro a S
       refine d_pure 12 S hsel rfl rfl (by kernel_rfl) (by kernel_rfl) rfl (fun _ => (rn_fld fa_54_1 (S.tm rfl))) ?_;clear S;intro a S
       refine d_quiet 13 S hsel rfl (by kernel_rfl) (by kernel_rfl) (by kernel_rfl) (by kernel_rfl) rfl (fun _ hw => (rn_ld Tryz.isAgg9 (off := r6.1.toNat * 5) (o := 1) (S.tm rfl) ((own_mem GScored.enc_ok S (i := 0) rfl hg1 (inB_get hc2).1 (ne_fp (i := 1) (j := 0) (e := .blk U [Z, iV r7.2] 25) (e' := .own v3 54 5 x2.length (x2.flatMap GScored.enc)) S rfl rfl rfl)).kept hw) rfl)) ?_;clear S;intro a S
       refine d_loud2 7 14 (by kernel_rfl) rfl rfl ?_ ?_
       ·refine l_buildSlice S Tryz.underlying81 Tryz.sizeOf9 Tryz.zeroValue9 rfl rfl (pv := [(0, sV ((nth x2 r6.1).Race)), (1, sV k_empty), (2, sV k_ra)]) ⟨rfl, (S.tm rfl), rfl, rfl, rfl, rfl, trivial⟩ (cs := [sV ((nth x2 r6.1).Race), sV k_empty, sV k_ra]) (by kernel_rfl) rfl ?_;clear S;intro a w28 b6 hz6 hk20 S
        refine Ld (d_next (Keep.none hk20) (d_loud2 8 14 (by kernel_rfl) rfl rfl ?_ ?_))
        ·refine l_enter1 2 S (b := U) rfl rfl (fun _ => .blk U [Z, iV r8.2] 25) (fun _ => run_call (vs := [.pointer (some ⟨U, 0, none⟩), .slice (some ⟨b6, 0, none⟩) 3 3]) ⟨(S.tm rfl), (S.tm rfl), trivial⟩ Tryz.call27) (Stream_Some_ok _ U Z Ai (Aj.mono (S.le_arg (fp_sub (i := 2) (e := .blk U [Z, iV r7.2] 25) rfl))) r7.2 (S.holds _ (List.mem_of_getElem? (i := 2) rfl)) (.slice (some ⟨b6, 0, none⟩) 3 3) [(nth x2 r6.1).Race, k_empty, k_ra] (lit_slcT enc_str S (i := 0) rfl rfl rfl rfl ((ne_fp (i := 2) (j := 0) (e := .blk U [Z, iV r7.2] 25) (e' := .blk b6 [sV ((nth x2 r6.1).Race), sV k_empty, sV k_ra] 9) S rfl rfl rfl) _ rfl)) _ hr9) rfl (fun _ _ _ h => ⟨h.1, fun _ hc => by cases hc;rfl⟩) ?_;clear S;intro v13 a w29 hv10 hk21 hn10 S
         replace hv10 := hv10.2
         subst hv10
         refine Ld (d_next hk21 (d_loud1 14 (by kernel_rfl) rfl (l_buildSlice S Tryz.underlying81 Tryz.sizeOf9 Tryz.zeroValue9 rfl rfl (pv := [(0, sV ((nth x2 r6.1).Who)), (1, sV k_A), (2, sV k_ann)]) ⟨rfl, (S.tm rfl), rfl, rfl, rfl, rfl, trivial⟩ (cs := [sV ((nth x2 r6.1).Who), sV k_A, sV k_ann]) (by kernel_rfl) rfl ?_)));clear S;intro a w30 b7 hz7 hk22 S
         refine Ld (d_next (Keep.none hk22) (d_loud1 15 (by kernel_rfl) rfl ?_))
         refine l_enter1 3 S (b := U) rfl rfl (fun _ => .blk U [Z, iV r9.2] 25) (fun _ => run_call (vs := [.pointer (some ⟨U, 0, none⟩), .slice (some ⟨b7, 0, none⟩) 3 3]) ⟨(S.tm rfl), (S.tm rfl), trivial⟩ Tryz.call27) (Stream_Some_ok _ U Z Ai (Aj.mono (S.le_arg (fp_sub (i := 3) (e := .blk U [Z, iV r8.2] 25) rfl))) r8.2 (S.holds _ (List.mem_of_getElem? (i := 3) rfl)) (.slice (some ⟨b7, 0, none⟩) 3 3) [(nth x2 r6.1).Who, k_A, k_ann] (lit_slcT enc_str S (i := 0) rfl rfl rfl rfl ((ne_fp (i := 3) (j := 0) (e := .blk U [Z, iV r8.2] 25) (e' := .blk b7 [sV ((nth x2 r6.1).Who), sV k_A, sV k_ann] 9) S rfl rfl rfl) _ rfl)) _ hr10) rfl (fun _ _ _ h => ⟨h.1, fun _ hc => by cases hc;rfl⟩) ?_;clear S;intro v14 a w31 hv11 hk23 hn11 S
         replace hv11 := hv11.2
         subst hv11
         refine Ld (d_next hk23 (d_pure 16 S hsel rfl rfl (by kernel_rfl) (by kernel_rfl) rfl (fun _ => (rn_nilCheck (S.tm rfl))) ?_));clear S;intro a S
         refine d_pure 17 S hsel rfl rfl (by kernel_rfl) (by kernel_rfl) rfl (fun _ => (rn_fld fa_54_0 (S.tm rfl))) ?_;clear S;intro a S
         refine d_loudB 18 ([U] ++ v3.ownBlock.toList) rfl (by kernel_rfl) rfl (l_storeO (c := 0) (j := r6.1.toNat) (GScored.mk r8.1 ((nth x2 r6.1).Who) ((nth x2 r6.1).Club) ((nth x2 r6.1).Rank) ((nth x2 r6.1).Relay)) GScored.enc_ok S (S.tm rfl) (S.tm rfl) (i := 2) rfl hg1 (inB_get hc2).1 Tryz.sizeOf9 (vs := [sV r8.1]) rfl rfl rfl rfl rfl ?_);clear S;intro w33 hk25 S
         refine Ld (d_nextB (d_quiet 19 S hsel rfl rfl rfl (by kernel_rfl) (by kernel_rfl) rfl (fun _ hw => (rn_nilCheck (S.tm rfl))) ?_));clear S;intro a S
         refine d_quiet 20 S hsel rfl rfl rfl (by kernel_rfl) (by kernel_rfl) rfl (fun _ hw => (rn_fld fa_54_1 (S.tm rfl))) ?_;clear S;intro a S
         refine d_loud1 21 (by kernel_rfl) rfl (l_storeO (c := 1) (j := r6.1.toNat) (GScored.mk r8.1 r9.1 ((nth x2 r6.1).Club) ((nth x2 r6.1).Rank) ((nth x2 r6.1).Relay)) GScored.enc_ok S (S.tm rfl) (S.tm rfl) (i := 2) rfl hg1 (get_set (inB_get hc2).1) Tryz.sizeOf9 (vs := [sV r9.1]) rfl rfl rfl rfl rfl ?_);clear S;intro w35 hk27 S
         refine Ld ?_
         refine d_next (hk27.sub (by intro y hy;simp at hy ⊢;simp [hy])) ?_
         refine d_end (by kernel_rfl) ?_
         clear hsel
         replace S := S.nk [.own v3 54 5 ((x2.set r6.1.toNat (GScored.mk r8.1 ((nth x2 r6.1).Who) ((nth x2 r6.1).Club) ((nth x2 r6.1).Rank) ((nth x2 r6.1).Relay))).set r6.1.toNat (GScored.mk r8.1 r9.1 ((nth x2 r6.1).Club) ((nth x2 r6.1).Rank) ((nth x2 r6.1).Relay))).length (((x2.set r6.1.toNat (GScored.mk r8.1 ((nth x2 r6.1).Who) ((nth x2 r6.1).Club) ((nth x2 r6.1).Rank) ((nth x2 r6.1).Relay))).set r6.1.toNat (GScored.mk r8.1 r9.1 ((nth x2 r6.1).Club) ((nth x2 r6.1).Rank) ((nth x2 r6.1).Relay))).flatMap GScored.enc), .blk U [Z, iV r9.2] 25] [(3, v3)] [false, false, true, true] rfl ⟨rfl, trivial⟩
         refine Tn ?_
         exact ⟨((x2.set r6.1.toNat (GScored.mk r8.1 ((nth x2 r6.1).Who) ((nth x2 r6.1).Club) ((nth x2 r6.1).Rank) ((nth x2 r6.1).Relay))).set r6.1.toNat (GScored.mk r8.1 r9.1 ((nth x2 r6.1).Club) ((nth x2 r6.1).Rank) ((nth x2 r6.1).Relay))), r9.2, h, S.nf [true, true] rfl ⟨rfl, trivial⟩⟩
        ·refine l_buildSlice S Tryz.underlying81 Tryz.sizeOf9 Tryz.zeroValue9 rfl rfl (pv := [(0, sV ((nth x2 r6.1).Who)), (1, sV k_A), (2, sV k_ann)]) ⟨rfl, (S.tm rfl), rfl, rfl, rfl, rfl, trivial⟩ (cs := [sV ((nth x2 r6.1).Who), sV k_A, sV k_ann]) (by kernel_rfl) rfl ?_;clear S;intro a w36 b8 hz8 hk28 S
         refine Ld (d_next (Keep.none hk28) (d_loud1 8 (by kernel_rfl) rfl ?_))
         refine l_enter1 3 S (b := U) rfl rfl (fun _ => .blk U [Z, iV r8.2] 25) (fun _ => run_call (vs := [.pointer (some ⟨U, 0, none⟩), .slice (some ⟨b6, 0, none⟩) 3 3]) ⟨(S.tm rfl), (S.tm rfl), trivial⟩ Tryz.call27) (Stream_Some_ok _ U Z Ai (Aj.mono (S.le_arg (fp_sub (i := 3) (e := .blk U [Z, iV r7.2] 25) rfl))) r7.2 (S.holds _ (List.mem_of_getElem? (i := 3) rfl)) (.slice (some ⟨b6, 0, none⟩) 3 3) [(nth x2 r6.1).Race, k_empty, k_ra] (lit_slcT enc_str S (i := 1) rfl rfl rfl rfl ((ne_fp (i := 3) (j := 1) (e := .blk U [Z, iV r7.2] 25) (e' := .blk b6 [sV ((nth x2 r6.1).Race), sV k_empty, sV k_ra] 9) S rfl rfl rfl) _ rfl)) _ hr9) rfl (fun _ _ _ h => ⟨h.1, fun _ hc => by cases hc;rfl⟩) ?_;clear S;intro v15 a w37 hv12 hk29 hn12 S
         replace hv12 := hv12.2
         subst hv12
         refine Ld (d_next hk29 (d_loud1 15 (by kernel_rfl) rfl ?_))
         refine l_enter1 3 S (b := U) rfl rfl (fun _ => .blk U [Z, iV r9.2] 25) (fun _ => run_call (vs := [.pointer (some ⟨U, 0, none⟩), .slice (some ⟨b8, 0, none⟩) 3 3]) ⟨(S.tm rfl), (S.tm rfl), trivial⟩ Tryz.call27) (Stream_Some_ok _ U Z Ai (Aj.mono (S.le_arg (fp_sub (i := 3) (e := .blk U [Z, iV r8.2] 25) rfl))) r8.2 (S.holds _ (List.mem_of_getElem? (i := 3) rfl)) (.slice (some ⟨b8, 0, none⟩) 3 3) [(nth x2 r6.1).Who, k_A, k_ann] (lit_slcT enc_str S (i := 0) rfl rfl rfl rfl ((ne_fp (i := 3) (j := 0) (e := .blk U [Z, iV r8.2] 25) (e' := .blk b8 [sV ((nth x2 r6.1).Who), sV k_A, sV k_ann] 9) S rfl rfl rfl) _ rfl)) _ hr10) rfl (fun _ _ _ h => ⟨h.1, fun _ hc => by cases hc;rfl⟩) ?_;clear S;intro v16 a w38 hv13 hk30 hn13 S
         replace hv13 := hv13.2
         subst hv13
         refine Ld (d_next hk30 (d_pure 16 S hsel rfl rfl (by kernel_rfl) (by kernel_rfl) rfl (fun _ => (rn_nilCheck (S.tm rfl))) ?_));clear S;intro a S
         refine d_pure 17 S hsel rfl rfl (by kernel_rfl) (by kernel_rfl) rfl (fun _ => (rn_fld fa_54_0 (S.tm rfl))) ?_;clear S;intro a S
         refine d_loudB 18 ([U] ++ v3.ownBlock.toList) rfl (by kernel_rfl) rfl (l_storeO (c := 0) (j := r6.1.toNat) (GScored.mk r8.1 ((nth x2 r6.1).Who) ((nth x2 r6.1).Club) ((nth x2 r6.1).Rank) ((nth x2 r6.1).Relay)) GScored.enc_ok S (S.tm rfl) (S.tm rfl) (i := 2) rfl hg1 (inB_get hc2).1 Tryz.sizeOf9 (vs := [sV r8.1]) rfl rfl rfl rfl rfl ?_);clear S;intro w40 hk32 S
         refine Ld (d_nextB (d_quiet 19 S hsel rfl rfl rfl (by kernel_rfl) (by kernel_rfl) rfl (fun _ hw => (rn_nilCheck (S.tm rfl))) ?_));clear S;intro a S
         refine d_quiet 20 S hsel rfl rfl rfl (by kernel_rfl) (by kernel_rfl) rfl (fun _ hw => (rn_fld fa_54_1 (S.tm rfl))) ?_;clear S;intro a S
         refine d_loud1 21 (by kernel_rfl) rfl (l_storeO (c := 1) (j := r6.1.toNat) (GScored.mk r8.1 r9.1 ((nth x2 r6.1).Club) ((nth x2 r6.1).Rank) ((nth x2 r6.1).Relay)) GScored.enc_ok S (S.tm rfl) (S.tm rfl) (i := 2) rfl hg1 (get_set (inB_get hc2).1) Tryz.sizeOf9 (vs := [sV r9.1]) rfl rfl rfl rfl rfl ?_);clear S;intro w42 hk34 S
         refine Ld ?_
         refine d_next (hk34.sub (by intro y hy;simp at hy ⊢;simp [hy])) ?_
         refine d_end (by kernel_rfl) ?_
         clear hsel
         replace S := S.nk [.own v3 54 5 ((x2.set r6.1.toNat (GScored.mk r8.1 ((nth x2 r6.1).Who) ((nth x2 r6.1).Club) ((nth x2 r6.1).Rank) ((nth x2 r6.1).Relay))).set r6.1.toNat (GScored.mk r8.1 r9.1 ((nth x2 r6.1).Club) ((nth x2 r6.1).Rank) ((nth x2 r6.1).Relay))).length (((x2.set r6.1.toNat (GScored.mk r8.1 ((nth x2 r6.1).Who) ((nth x2 r6.1).Club) ((nth x2 r6.1).Rank) ((nth x2 r6.1).Relay))).set r6.1.toNat (GScored.mk r8.1 r9.1 ((nth x2 r6.1).Club) ((nth x2 r6.1).Rank) ((nth x2 r6.1).Relay))).flatMap GScored.enc), .blk U [Z, iV r9.2] 25] [(3, v3)] [false, false, true, true] rfl ⟨rfl, trivial⟩
         refine Tn ?_
         exact ⟨((x2.set r6.1.toNat (GScored.mk r8.1 ((nth x2 r6.1).Who) ((nth x2 r6.1).Club) ((nth x2 r6.1).Rank) ((nth x2 r6.1).Relay))).set r6.1.toNat (GScored.mk r8.1 r9.1 ((nth x2 r6.1).Club) ((nth x2 r6.1).Rank) ((nth x2 r6.1).Relay))), r9.2, h, S.nf [true, true] rfl ⟨rfl, trivial⟩⟩
       ·refine l_buildSlice S Tryz.underlying81 Tryz.sizeOf9 Tryz.zeroValue9 rfl rfl (pv := [(0, sV ((nth x2 r6.1).Who)), (1, sV k_A), (2, sV k_ann)]) ⟨rfl, (S.tm rfl), rfl, rfl, rfl, rfl, trivial⟩ (cs := [sV ((nth x2 r6.1).Who), sV k_A, sV k_ann]) (by kernel_rfl) rfl ?_;clear S;intro a w43 b9 hz9 hk35 S
        refine Ld (d_next (Keep.none hk35) (d_loud1 7 (by kernel_rfl) rfl (l_buildSlice S Tryz.underlying81 Tryz.sizeOf9 Tryz.zeroValue9 rfl rfl (pv := [(0, sV ((nth x2 r6.1).Race)), (1, sV k_empty), (2, sV k_ra)]) ⟨rfl, (S.tm rfl), rfl, rfl, rfl, rfl, trivial⟩ (cs := [sV ((nth x2 r6.1).Race), sV k_empty, sV k_ra]) (by kernel_rfl) rfl ?_)));clear S;intro a w44 b10 hz10 hk36 S
        refine Ld (d_next (Keep.none hk36) (d_loud1 8 (by kernel_rfl) rfl ?_))
        refine l_enter1 3 S (b := U) rfl rfl (fun _ => .blk U [Z, iV r8.2] 25) (fun _ => run_call (vs := [.pointer (some ⟨U, 0, none⟩), .slice (some ⟨b10, 0, none⟩) 3 3]) ⟨(S.tm rfl), (S.tm rfl), trivial⟩ Tryz.call27) (Stream_Some_ok _ U Z Ai (Aj.mono (S.le_arg (fp_sub (i := 3) (e := .blk U [Z, iV r7.2] 25) rfl))) r7.2 (S.holds _ (List.mem_of_getElem? (i := 3) rfl)) (.slice (some ⟨b10, 0, none⟩) 3 3) [(nth x2 r6.1).Race, k_empty, k_ra] (lit_slcT enc_str S (i := 0) rfl rfl rfl rfl ((ne_fp (i := 3) (j := 0) (e := .blk U [Z, iV r7.2] 25) (e' := .blk b10 [sV ((nth x2 r6.1).Race), sV k_empty, sV k_ra] 9) S rfl rfl rfl) _ rfl)) _ hr9) rfl (fun _ _ _ h => ⟨h.1, fun _ hc => by cases hc;rfl⟩) ?_;clear S;intro v17 a w45 hv14 hk37 hn14 S
        replace hv14 := hv14.2
        subst hv14
        refine Ld (d_next hk37 (d_loud1 15 (by kernel_rfl) rfl ?_))
        refine l_enter1 3 S (b := U) rfl rfl (fun _ => .blk U [Z, iV r9.2] 25) (fun _ => run_call (vs := [.pointer (some ⟨U, 0, none⟩), .slice (some ⟨b9, 0, none⟩) 3 3]) ⟨(S.tm rfl), (S.tm rfl), trivial⟩ Tryz.call27) (Stream_Some_ok _ U Z Ai (Aj.mono (S.le_arg (fp_sub (i := 3) (e := .blk U [Z, iV r8.2] 25) rfl))) r8.2 (S.holds _ (List.mem_of_getElem? (i := 3) rfl)) (.slice (some ⟨b9, 0, none⟩) 3 3) [(nth x2 r6.1).Who, k_A, k_ann] (lit_slcT enc_str S (i := 1) rfl rfl rfl rfl ((ne_fp (i := 3) (j := 1) (e := .blk U [Z, iV r8.2] 25) (e' := .blk b9 [sV ((nth x2 r6.1).Who), sV k_A, sV k_ann] 9) S rfl rfl rfl) _ rfl)) _ hr10) rfl (fun _ _ _ h => ⟨h.1, fun _ hc => by cases hc;rfl⟩) ?_;clear S;intro v18 a w46 hv15 hk38 hn15 S
        replace hv15 := hv15.2
        subst hv15
        refine Ld (d_next hk38 (d_pure 16 S hsel rfl rfl (by kernel_rfl) (by kernel_rfl) rfl (fun _ => (rn_nilCheck (S.tm rfl))) ?_));clear S;intro a S
        refine d_pure 17 S hsel rfl rfl (by kernel_rfl) (by kernel_rfl) rfl (fun _ => (rn_fld fa_54_0 (S.tm rfl))) ?_;clear S;intro a S
        refine d_loudB 18 ([U] ++ v3.ownBlock.toList) rfl (by kernel_rfl) rfl (l_storeO (c := 0) (j := r6.1.toNat) (GScored.mk r8.1 ((nth x2 r6.1).Who) ((nth x2 r6.1).Club) ((nth x2 r6.1).Rank) ((nth x2 r6.1).Relay)) GScored.enc_ok S (S.tm rfl) (S.tm rfl) (i := 2) rfl hg1 (inB_get hc2).1 Tryz.sizeOf9 (vs := [sV r8.1]) rfl rfl rfl rfl rfl ?_);clear S;intro w48 hk40 S
        refine Ld (d_nextB (d_quiet 19 S hsel rfl rfl rfl (by kernel_rfl) (by kernel_rfl) rfl (fun _ hw => (rn_nilCheck (S.tm rfl))) ?_));clear S;intro a S
        refine d_quiet 20 S hsel rfl rfl rfl (by kernel_rfl) (by kernel_rfl) rfl (fun _ hw => (rn_fld fa_54_1 (S.tm rfl))) ?_;clear S;intro a S
        refine d_loud1 21 (by kernel_rfl) rfl (l_storeO (c := 1) (j := r6.1.toNat) (GScored.mk r8.1 r9.1 ((nth x2 r6.1).Club) ((nth x2 r6.1).Rank) ((nth x2 r6.1).Relay)) GScored.enc_ok S (S.tm rfl) (S.tm rfl) (i := 2) rfl hg1 (get_set (inB_get hc2).1) Tryz.sizeOf9 (vs := [sV r9.1]) rfl rfl rfl rfl rfl ?_);clear S;intro w50 hk42 S
        refine Ld ?_
        refine d_next (hk42.sub (by intro y hy;simp at hy ⊢;simp [hy])) ?_
        refine d_end (by kernel_rfl) ?_
        clear hsel
        replace S := S.nk [.own v3 54 5 ((x2.set r6.1.toNat (GScored.mk r8.1 ((nth x2 r6.1).Who) ((nth x2 r6.1).Club) ((nth x2 r6.1).Rank) ((nth x2 r6.1).Relay))).set r6.1.toNat (GScored.mk r8.1 r9.1 ((nth x2 r6.1).Club) ((nth x2 r6.1).Rank) ((nth x2 r6.1).Relay))).length (((x2.set r6.1.toNat (GScored.mk r8.1 ((nth x2 r6.1).Who) ((nth x2 r6.1).Club) ((nth x2 r6.1).Rank) ((nth x2 r6.1).Relay))).set r6.1.toNat (GScored.mk r8.1 r9.1 ((nth x2 r6.1).Club) ((nth x2 r6.1).Rank) ((nth x2 r6.1).Relay))).flatMap GScored.enc), .blk U [Z, iV r9.2] 25] [(3, v3)] [false, false, true, true] rfl ⟨rfl, trivial⟩
        refine Tn ?_
        exact ⟨((x2.set r6.1.toNat (GScored.mk r8.1 ((nth x2 r6.1).Who) ((nth x2 r6.1).Club) ((nth x2 r6.1).Rank) ((nth x2 r6.1).Relay))).set r6.1.toNat (GScored.mk r8.1 r9.1 ((nth x2 r6.1).Club) ((nth x2 r6.1).Rank) ((nth x2 r6.1).Relay))), r9.2, h, S.nf [true, true] rfl ⟨rfl, trivial⟩⟩
      clear S h;rintro a w18 ⟨x14, x15, h, S⟩;rw [hj7] at h;clear hj7 j7
      refine Tn ?_
      exact ⟨x14, x15, h, S.nf [true, true] rfl ⟨rfl, trivial⟩⟩
     ·replace h := iteF h hb5
      refine Fs (Fg (lv S (rn_eql (S.tm rfl) rfl) rfl ?_));clear S;intro a S
      refine lv S (Ra (S.tm rfl)) rfl ?_;clear S;intro a S
      refine Ld ?_
      replace S := S.nk [.own v3 54 5 x2.length (x2.flatMap GScored.enc), .blk U [Z, iV r7.2] 25] [(0, .pointer (some ⟨U, 0, none⟩)), (3, v3), (5, .pointer (some ⟨b3, r6.1.toNat * 5, none⟩)), (41, iV r7.1), (72, bV (decide (r7.1 = 1)))] [true, true] rfl (subR rfl)
      refine Tn ?_
      obtain ⟨j8, hj8, h⟩ := joinE h
      refine f_join (fun a w' => ∃ x16 : List GScored, ∃ x17 : Int, j8 x16 x17 = some r ∧ Sx w [U] nov [.own v3 54 5 x16.length (x16.flatMap GScored.enc), .blk U [Z, iV x17] 25] [(3, v3)] 88 a w') ?_ ?_
      ·refine f_cond (S.tm rfl) (fun hb6 => ?_) (fun hb6 => ?_)
       ·replace h := iteT h hb6
        refine Fg (lv S (Rm (S.tm rfl)) rfl ?_);clear S;intro a S
        refine lv S (Rm (S.tm rfl)) rfl ?_;clear S;intro a S
        refine l_buildSlice S Tryz.underlying81 Tryz.sizeOf9 Tryz.zeroValue9 rfl rfl (pv := [(0, sV k_blue), (1, sV k_A)]) ⟨rfl, rfl, rfl, rfl, trivial⟩ (cs := [sV k_blue, sV k_A]) (by kernel_rfl) rfl ?_;clear S;intro a w52 b11 hz11 hk43 S
        obtain ⟨r10, hr11, h⟩ := bindE h
        refine l_enter1 2 S (b := U) rfl rfl (fun _ => .blk U [Z, iV r10.2] 25) (fun _ => run_call (vs := [.pointer (some ⟨U, 0, none⟩), .slice (some ⟨b11, 0, none⟩) 2 2]) ⟨(S.tm rfl), (S.tm rfl), trivial⟩ Tryz.call27) (Stream_Some_ok _ U Z Ai (Aj.mono (S.le_arg (fp_sub (i := 2) (e := .blk U [Z, iV r7.2] 25) rfl))) r7.2 (S.holds _ (List.mem_of_getElem? (i := 2) rfl)) (.slice (some ⟨b11, 0, none⟩) 2 2) [k_blue, k_A] (lit_slcT enc_str S (i := 0) rfl rfl rfl rfl ((ne_fp (i := 2) (j := 0) (e := .blk U [Z, iV r7.2] 25) (e' := .blk b11 [sV k_blue, sV k_A] 9) S rfl rfl rfl) _ rfl)) _ hr11) rfl (fun _ _ _ h => ⟨h.1, fun _ hc => by cases hc;rfl⟩) ?_;clear S;intro v19 a w53 hv16 hk44 hn16 S
        replace hv16 := hv16.2
        subst hv16
        refine lv S (rn_nilCheck (S.tm rfl)) rfl ?_;clear S;intro a S
        refine lv S (rn_fld fa_54_2 (S.tm rfl)) rfl ?_;clear S;intro a S
        refine l_storeO (c := 2) (j := r6.1.toNat) (GScored.mk ((nth x2 r6.1).Race) ((nth x2 r6.1).Who) r10.1 ((nth x2 r6.1).Rank) ((nth x2 r6.1).Relay)) GScored.enc_ok S (S.tm rfl) (S.tm rfl) (i := 1) rfl hg1 (inB_get hc2).1 Tryz.sizeOf9 (vs := [sV r10.1]) rfl rfl rfl rfl rfl ?_;clear S;intro w55 hk46 S
        refine Ld (Tn ?_)
        exact ⟨(x2.set r6.1.toNat (GScored.mk ((nth x2 r6.1).Race) ((nth x2 r6.1).Who) r10.1 ((nth x2 r6.1).Rank) ((nth x2 r6.1).Relay))), r10.2, h, S.nf [false, true, true] rfl ⟨rfl, trivial⟩⟩
       ·replace h := iteF h hb6
        refine Fs (Fg (lv S (rn_eql (S.tm rfl) rfl) rfl ?_));clear S;intro a S
        refine lv S (Ra (S.tm rfl)) rfl ?_;clear S;intro a S
        refine Ld (Tn ?_)
        obtain ⟨j9, hj9, h⟩ := joinE h
        refine f_join (fun a w' => ∃ x18 : List GScored, ∃ x19 : Int, j9 x18 x19 = some r ∧ Sx w [U] nov [.own v3 54 5 x18.length (x18.flatMap GScored.enc), .blk U [Z, iV x19] 25] [(3, v3)] 88 a w') ?_ ?_
        ·refine f_cond (S.tm rfl) (fun hb7 => ?_) (fun hb7 => ?_)
         ·replace h := iteT h hb7
          refine Fg (lv S (Rm (S.tm rfl)) rfl ?_);clear S;intro a S
          refine lv S (Rm (S.tm rfl)) rfl ?_;clear S;intro a S
          obtain ⟨r11, hr12, h⟩ := bindE h
          refine l_enter1 1 S (b := U) rfl rfl (fun _ => .blk U [Z, iV r11.2] 25) (fun _ => run_call (vs := [.pointer (some ⟨U, 0, none⟩), iV 0, iV 5]) ⟨(S.tm rfl), rfl, rfl, trivial⟩ Tryz.call23) (Stream_Odd_ok _ U Z Ai (Aj.mono (S.le_arg (fp_sub (i := 1) (e := .blk U [Z, iV r7.2] 25) rfl))) r7.2 (S.holds _ (List.mem_of_getElem? (i := 1) rfl)) 0 5 _ hr12) rfl (fun _ _ _ h => ⟨h.1, fun _ hc => by cases hc;rfl⟩) ?_;clear S;intro v20 a w57 hv17 hk47 hn17 S
          replace hv17 := hv17.2
          subst hv17
          refine lv S (rn_nilCheck (S.tm rfl)) rfl ?_;clear S;intro a S
          refine lv S (rn_fld fa_54_3 (S.tm rfl)) rfl ?_;clear S;intro a S
          refine l_storeO (c := 3) (j := r6.1.toNat) (GScored.mk ((nth x2 r6.1).Race) ((nth x2 r6.1).Who) ((nth x2 r6.1).Club) r11.1 ((nth x2 r6.1).Relay)) GScored.enc_ok S (S.tm rfl) (S.tm rfl) (i := 0) rfl hg1 (inB_get hc2).1 Tryz.sizeOf3 (vs := [iV r11.1]) rfl rfl rfl rfl rfl ?_;clear S;intro w59 hk49 S
          refine Ld (Tn ?_)
          exact ⟨(x2.set r6.1.toNat (GScored.mk ((nth x2 r6.1).Race) ((nth x2 r6.1).Who) ((nth x2 r6.1).Club) r11.1 ((nth x2 r6.1).Relay))), r11.2, h, S.nf [true, true] rfl ⟨rfl, trivial⟩⟩
         ·replace h := iteF h hb7
          refine Fg (lv S (Rm (S.tm rfl)) rfl ?_);clear S;intro a S
          refine lv S (Rm (S.tm rfl)) rfl ?_;clear S;intro a S
          refine lv S (rn_nilCheck (S.tm rfl)) rfl ?_;clear S;intro a S
          refine lv S (rn_fld fa_54_4 (S.tm rfl)) rfl ?_;clear S;intro a S
          refine lv S (rn_ld Tryz.isAgg4 (off := r6.1.toNat * 5) (o := 4) (S.tm rfl) (own_cells GScored.enc_ok S (i := 0) rfl hg1 (inB_get hc2).1) rfl) rfl ?_;clear S;intro a S
          refine lv S (rn_not (S.tm rfl)) rfl ?_;clear S;intro a S
          refine lv S (rn_nilCheck (S.tm rfl)) rfl ?_;clear S;intro a S
          refine lv S (rn_fld fa_54_4 (S.tm rfl)) rfl ?_;clear S;intro a S
          refine l_storeO (c := 4) (j := r6.1.toNat) (GScored.mk ((nth x2 r6.1).Race) ((nth x2 r6.1).Who) ((nth x2 r6.1).Club) ((nth x2 r6.1).Rank) (!((nth x2 r6.1).Relay))) GScored.enc_ok S (S.tm rfl) (S.tm rfl) (i := 0) rfl hg1 (inB_get hc2).1 Tryz.sizeOf4 (vs := [bV (!((nth x2 r6.1).Relay))]) rfl rfl rfl rfl rfl ?_;clear S;intro w61 hk51 S
          refine Ld ?_
          replace S := S.nk [.own v3 54 5 (x2.set r6.1.toNat (GScored.mk ((nth x2 r6.1).Race) ((nth x2 r6.1).Who) ((nth x2 r6.1).Club) ((nth x2 r6.1).Rank) (!((nth x2 r6.1).Relay)))).length ((x2.set r6.1.toNat (GScored.mk ((nth x2 r6.1).Race) ((nth x2 r6.1).Who) ((nth x2 r6.1).Club) ((nth x2 r6.1).Rank) (!((nth x2 r6.1).Relay)))).flatMap GScored.enc), .blk U [Z, iV r7.2] 25] [(3, v3)] [true, true] rfl ⟨rfl, trivial⟩
          refine Tn ?_
          exact ⟨(x2.set r6.1.toNat (GScored.mk ((nth x2 r6.1).Race) ((nth x2 r6.1).Who) ((nth x2 r6.1).Club) ((nth x2 r6.1).Rank) (!((nth x2 r6.1).Relay)))), r7.2, h, S.nf [true, true] rfl ⟨rfl, trivial⟩⟩
        clear S h;rintro a w56 ⟨x18, x19, h, S⟩;rw [hj9] at h;clear hj9 j9
        refine Tn ?_
        exact ⟨x18, x19, h, S.nf [true, true] rfl ⟨rfl, trivial⟩⟩
      clear S h;rintro a w51 ⟨x16, x17, h, S⟩;rw [hj8] at h;clear hj8 j8
      refine Tn ?_
      exact ⟨x16, x17, h, S.nf [true, true] rfl ⟨rfl, trivial⟩⟩
    clear S h;rintro a w17 ⟨x12, x13, h, S⟩;rw [hj6] at h;clear hj6 j6
    refine blk_n (Tn ?_)
    exact ⟨x12, x13, h, S.nf [true, true] rfl ⟨rfl, trivial⟩⟩
   clear S h;rintro a w16 ⟨x10, x11, h, S⟩;rw [hj5] at h;clear hj5 j5
   refine Tn ?_
   exact ⟨x10, x11, h, S.nf [true, true] rfl ⟨rfl, trivial⟩⟩
  ·replace h := iteF h hb4
   refine wp_skip (Tn ?_)
   exact ⟨x2, x6, h, S.nf [true, true] rfl ⟨rfl, trivial⟩⟩
 clear S h;rintro a w13 ⟨x8, x9, h, S⟩;rw [hj4] at h;clear hj4 j4
 refine Tn (Fs (Fg (lv S (Rm (S.tm rfl)) rfl ?_)));clear S;intro a S
 refine lv S (Ra (S.tm rfl)) rfl ?_;clear S;intro a S
 refine Ld (Tn (wp_ret ?_))
 obtain rfl := Option.some.inj h
 exact f_ret S Tryz.results5 rfl ⟨(S.holds _ (List.mem_of_getElem? (i := 1) rfl)), (own_retX S (i := 0) rfl (fun c hc hh => not_fps S (i := 1) rfl rfl (j := 0) rfl rfl (by simp at hc;subst hc;exact hh)))⟩
theorem words_Within_ok (w : World) (Bb : Int) (Az : Int) (Au : Int) (r : Bool) (h : words_Within Bb Az Au = r) :
    Calls Tryz.prog 38 [iV Bb, iV Az, iV Au].toArray w (Ret w [] fun _ v _ => v = bV r) := by
 refine f_enter [] [] Tryz.func38 rfl Tryz.ntmps38 rfl (by simp) (by simp [fps]) (by simp [fps]) fun a S => ?_
 unfold words_Within at h
 replace S := S.nk [] [(0, iV Bb), (1, iV Az), (2, iV Au)] [] rfl (subR rfl)
 refine Fs (Fg (lv S (Ra rfl) rfl ?_));clear S;intro a S
 refine Ld (Tn (Fs (Fg (lv S (Rm (S.tm rfl)) rfl ?_))));clear S;intro a S
 refine lv S (Rm (S.tm rfl)) rfl ?_;clear S;intro a S
 refine lv S (rn_geq (S.tm rfl) (S.tm rfl)) rfl ?_;clear S;intro a S
 refine lv S (Rm (S.tm rfl)) rfl ?_;clear S;intro a S
 refine f_cutm 4 (fun a w' => Keep [] w w' ∧ Sx w [] nov [] [(14, bV ((decide (Az ≤ Bb)) && (decide (Bb ≤ Au))))] 15 a w') ?_ ?_
 ·rcases Bool.eq_false_or_eq_true (decide (Az ≤ Bb)) with hb1 | hb1
  ·refine l_want S rfl rfl rfl hb1 (lv S (Rm (S.tm rfl)) rfl ?_);clear S;intro a S
   refine l_want S rfl rfl rfl hb1 (lv S (Rm (S.tm rfl)) rfl ?_);clear S;intro a S
   refine l_want S rfl rfl rfl hb1 (lv S (rn_leq (S.tm rfl) (S.tm rfl)) rfl ?_);clear S;intro a S
   refine lv S (rn_and_t hb1 (S.tm rfl) (S.tm rfl)) rfl ?_;clear S;intro a S
   refine Ld (Tn ?_)
   exact ⟨Keep.refl _ _, S.nf [] rfl ⟨rfl, trivial⟩⟩
  ·iterate 3 (refine l_skip S rfl rfl rfl (neq_f hb1) rfl ?_ rfl;clear S;intro a S)
   refine lv S (rn_and_f (decide (Bb ≤ Au)) hb1 (S.tm rfl) rfl) rfl ?_;clear S;intro a S
   refine Ld (Tn ?_)
   exact ⟨Keep.refl _ _, S.nf [] rfl ⟨rfl, trivial⟩⟩
 clear S;rintro a w1 ⟨hk1, S⟩
 refine lv S (Ra (S.tm rfl)) rfl ?_;clear S;intro a S
 refine Ld (Tn (wp_ret ?_))
 subst h
 exact f_ret S Tryz.results38 rfl rfl
theorem points_CheckTable_ok (w : World) (Aa : GTable) (Ar : R27) (At : rel_27 (view w []) Aa Ar) (r : Int) (h : points_CheckTable Aa = some r) :
    Calls Tryz.prog 13 [.agg (R27.enc Ar).toArray].toArray w (Ret w [] fun _ v _ => v = iV r) := by
 obtain ⟨u1, rfl, hs1⟩ := At
 refine f_enter [] [] Tryz.func13 rfl Tryz.ntmps13 rfl (by simp) (by simp [fps]) (by simp [fps]) fun a S => ?_
 unfold points_CheckTable at h
 replace S := S.nk [] [(0, .agg #[u1.val, iV Aa.Relay, iV Aa.Most])] [] rfl ⟨rfl, trivial⟩
 refine Fs (Fg (l_box S (S.tm rfl) (cs := [u1.val, iV Aa.Relay, iV Aa.Most]) rfl rfl ?_));clear S;intro a w1 b1 hz1 hk1 S
 refine lv S (Ra rfl) rfl ?_;clear S;intro a S
 refine Ld (Tn (Fs (Fs (Fg (lv S (rn_fld fa_27_0 (S.tm rfl)) rfl ?_)))));clear S;intro a S
 refine lv S (rn_load Tryz.isAgg22 (S.tm rfl) (S.cell (i := 0) rfl rfl)) rfl ?_;clear S;intro a S
 refine lv S (rn_lenT sl_22 (S.tm rfl) (slc_len hs1)) rfl ?_;clear S;intro a S
 refine lv S (rn_gtr (S.tm rfl) rfl) rfl ?_;clear S;intro a S
 refine Ld (Tn (f_cond (S.tm rfl) (fun hb1 => ?_) (fun hb1 => ?_)))
 ·replace h := iteT h hb1
  refine Fs (Fg (lv S (Ra rfl) rfl ?_));clear S;intro a S
  refine Ld (Tn (wp_ret (then_r ?_)))
  obtain rfl := Option.some.inj h
  exact f_ret S Tryz.results13 rfl rfl
 ·replace h := iteF h hb1
  refine wp_skip (Tn (Fs (Fs (Fg (lv S (rn_fld fa_27_0 (S.tm rfl)) rfl ?_)))));clear S;intro a S
  refine lv S (rn_load Tryz.isAgg22 (S.tm rfl) (S.cell (i := 0) rfl rfl)) rfl ?_;clear S;intro a S
  refine lv S (rn_lenT sl_22 (S.tm rfl) (slc_len hs1)) rfl ?_;clear S;intro a S
  refine lv S (Rm rfl) rfl ?_;clear S;intro a S
  refine Ld (Tn ?_)
  replace S := S.nk [.blk b1 [u1.val, iV Aa.Relay, iV Aa.Most] 27] [(1, .pointer (some ⟨b1, 0, none⟩)), (10, u1.val), (11, iV (Aa.Points.length : Int)), (12, iV 0)] [true] rfl (subR rfl)
  obtain ⟨j1, hj1, h⟩ := joinE h
  refine f_join (fun a w' => j1 = some r ∧ Sx w [] nov [.blk b1 [u1.val, iV Aa.Relay, iV Aa.Most] 27] [(1, .pointer (some ⟨b1, 0, none⟩))] 43 a w') ?_ ?_
  ·refine wp_block (f_loop (fun (ys1 : List Int) a w' => ∃ i1 : Nat, (∃ dn, Aa.Points = dn ++ ys1 ∧ dn.length = i1) ∧ points_CheckTable_l1 Aa j1 ys1 i1 = some r ∧ Sx w [] nov [.blk b1 [u1.val, iV Aa.Relay, iV Aa.Most] 27] [(1, .pointer (some ⟨b1, 0, none⟩)), (10, u1.val), (11, iV (Aa.Points.length : Int)), (12, iV (i1 : Int))] 43 a w') List.length Aa.Points ⟨0, ⟨[], rfl, rfl⟩, h, S.nf [true] rfl (subR rfl)⟩ ?_)
   clear S h;rintro ys1 a w2 ⟨i1, ⟨dn, hd1, hi1⟩, h, S⟩
   cases ys1 with
   | nil =>
    rw [points_CheckTable_l1.eq_1] at h
    refine Fs (Fg (lv S (rn_lss (S.tm rfl) (S.tm rfl)) rfl ?_));clear S;intro a S
    refine Ld ?_
    replace S := S.nk [.blk b1 [u1.val, iV Aa.Relay, iV Aa.Most] 27] [(1, .pointer (some ⟨b1, 0, none⟩)), (10, u1.val), (11, iV (Aa.Points.length : Int)), (12, iV (i1 : Int)), (13, bV (decide ((i1 : Int) < (Aa.Points.length : Int))))] [true] rfl (subR rfl)
    refine Tn (Fs (wp_cond_false ((S.tm rfl).trans (congrArg Value.bool (rng_nil hd1 hi1))) (wp_exit (then_x (then_x (x_same ?_))))))
    refine Tn ?_
    exact ⟨h, S.nf [true] rfl ⟨rfl, trivial⟩⟩
   | cons y1 ys1 =>
    rw [points_CheckTable_l1.eq_2] at h
    refine Fs (Fg (lv S (rn_lss (S.tm rfl) (S.tm rfl)) rfl ?_));clear S;intro a S
    refine Ld ?_
    replace S := S.nk [.blk b1 [u1.val, iV Aa.Relay, iV Aa.Most] 27] [(1, .pointer (some ⟨b1, 0, none⟩)), (10, u1.val), (11, iV (Aa.Points.length : Int)), (12, iV (i1 : Int)), (13, bV (decide ((i1 : Int) < (Aa.Points.length : Int))))] [true] rfl (subR rfl)
    refine Tn (Fs (wp_cond_true ((S.tm rfl).trans (congrArg Value.bool (rng_cons hd1 hi1))) (wp_skip (Tn (Fs (wp_block ?_))))))
    refine Fs (Fg (lv S (Rm (S.tm rfl)) rfl ?_));clear S;intro a S
    obtain ⟨b2, o1, hm1, hr1⟩ := rn_indexT (a := a) (x := .tmp 10) (y := .tmp 12) (ty := 0) sl_22 hs1 (get_mid hd1 hi1) rfl (S.tm rfl) (S.tm rfl)
    refine lv S (hr1 _) rfl ?_;clear S;intro a S
    clear hr1
    refine lv S (rn_ld Tryz.isAgg3 (off := o1) (o := 0) (S.tm rfl) (hm1.at S.emb0) rfl) rfl ?_;clear S;intro a S
    refine lv S (Ra (S.tm rfl)) rfl ?_;clear S;intro a S
    refine lv S (Ra (S.tm rfl)) rfl ?_;clear S;intro a S
    refine Ld (Tn (Fs (Fs (Fg (lv S (Rm (S.tm rfl)) rfl ?_)))));clear S;intro a S
    refine l_enter S (fun _ => run_call (vs := [iV y1, iV 0, iV 10000]) ⟨(S.tm rfl), rfl, rfl, trivial⟩ Tryz.call38) (words_Within_ok _ y1 0 10000 _ rfl) rfl ?_;clear S;intro v1 a w4 hv1 hk2 hn1 S
    subst hv1
    refine lv S (rn_not (S.tm rfl)) rfl ?_;clear S;intro a S
    refine Ld (Tn (f_cond (S.tm rfl) (fun hb2 => ?_) (fun hb2 => ?_)))
    ·replace h := iteT h hb2
     refine Fs (Fg (lv S (Ra rfl) rfl ?_));clear S;intro a S
     refine Ld (Tn (wp_ret (then_r (blk_r (then_r (then_r ?_))))))
     refine blk_r (then_r (then_r ?_))
     obtain rfl := Option.some.inj h
     exact f_ret S Tryz.results13 rfl rfl
    ·replace h := iteF h hb2
     refine wp_skip (Tn (Fs (Fg (lv S (Rm (S.tm rfl)) rfl ?_))));clear S;intro a S
     refine lv S (rn_gtr (S.tm rfl) rfl) rfl ?_;clear S;intro a S
     refine lv S (Rm (S.tm rfl)) rfl ?_;clear S;intro a S
     obtain ⟨j2, hj2, h⟩ := joinE h
     refine f_cutm 9 (fun a w' => ∃ c1, j2 c1 = some r ∧ Keep [] w4 w' ∧ Sx w [] nov [.blk b1 [u1.val, iV Aa.Relay, iV Aa.Most] 27] [(1, .pointer (some ⟨b1, 0, none⟩)), (10, u1.val), (11, iV (Aa.Points.length : Int)), (12, iV (i1 : Int)), (31, bV c1)] 43 a w') ?_ ?_
     ·rcases Bool.eq_false_or_eq_true (decide (0 < (i1 : Int))) with hb3 | hb3
      ·replace h := iteT h hb3
       refine l_want S rfl rfl rfl hb3 (lv S (Rm (S.tm rfl)) rfl ?_);clear S;intro a S
       refine l_want S rfl rfl rfl hb3 (lv S (rn_fld fa_27_0 (S.tm rfl)) rfl ?_);clear S;intro a S
       refine l_want S rfl rfl rfl hb3 (lv S (rn_load Tryz.isAgg22 (S.tm rfl) (S.cell (i := 0) rfl rfl)) rfl ?_);clear S;intro a S
       refine l_want S rfl rfl rfl hb3 (lv S (Rm (S.tm rfl)) rfl ?_);clear S;intro a S
       refine l_want S rfl rfl rfl hb3 (lv S (rn_sub (S.tm rfl) rfl) rfl ?_);clear S;intro a S
       refine l_want S rfl rfl rfl hb3 ?_
       obtain ⟨hc1, h⟩ := chkE h
       obtain ⟨b3, o2, hm2, hr2⟩ := rn_indexT (a := a) (x := .tmp 25) (y := .tmp 27) (ty := 0) sl_22 hs1 (inB_get hc1).1 (inB_get hc1).2 (S.tm rfl) (S.tm rfl)
       refine lv S (hr2 _) rfl ?_;clear S;intro a S
       clear hr2
       refine l_want S rfl rfl rfl hb3 (lv S (rn_ld Tryz.isAgg3 (off := o2) (o := 0) (S.tm rfl) (hm2.at S.emb0) rfl) rfl ?_);clear S;intro a S
       refine l_want S rfl rfl rfl hb3 (lv S (rn_gtr (S.tm rfl) (S.tm rfl)) rfl ?_);clear S;intro a S
       refine lv S (rn_and_t hb3 (S.tm rfl) (S.tm rfl)) rfl ?_;clear S;intro a S
       refine Ld (Tn ?_)
       exact ⟨_, h, Keep.refl _ _, S.nf [true] rfl (subR rfl)⟩
      ·replace h := iteF h hb3
       iterate 8 (refine l_skip S rfl rfl rfl (neq_f hb3) rfl ?_ rfl;clear S;intro a S)
       refine lv S (rn_and_f true hb3 (S.tm rfl) rfl) rfl ?_;clear S;intro a S
       refine Ld (Tn ?_)
       exact ⟨_, h, Keep.refl _ _, S.nf [true] rfl (subR rfl)⟩
     clear S h;rintro a w5 ⟨c1, h, hk3, S⟩;rw [hj2] at h;clear hj2 j2
     refine Ld (Tn (f_cond (S.tm rfl) (fun hb4 => ?_) (fun hb4 => ?_)))
     ·replace h := iteT h hb4
      refine Fs (Fg (lv S (Ra rfl) rfl ?_));clear S;intro a S
      refine Ld (Tn (wp_ret (blk_r (then_r (then_r (blk_r ?_))))))
      refine then_r (then_r ?_)
      obtain rfl := Option.some.inj h
      exact f_ret S Tryz.results13 rfl rfl
     ·replace h := iteF h hb4
      refine wp_skip (blk_n (Tn (Fg (lv S (rn_add (S.tm rfl) rfl) rfl ?_))));clear S;intro a S
      refine lv S (Rm (S.tm rfl)) rfl ?_;clear S;intro a S
      refine Ld (Tn ?_)
      exact ⟨ys1, ⟨i1 + 1, ⟨_, (hd1).trans (List.append_cons _ _ _), by simp [hi1]⟩, h, S.nf [true] rfl ⟨rfl, rfl, rfl, (congrArg (fun z => some (Value.int .i64 z)) (rng_next hd1 hi1 (slc_max hs1))), trivial⟩⟩, Nat.lt_succ_self _⟩
  clear S h;rintro a w3 ⟨h, S⟩;rw [hj1] at h;clear hj1 j1
  refine Tn (Fs (Fs (Fg (lv S (rn_fld fa_27_1 (S.tm rfl)) rfl ?_))));clear S;intro a S
  refine lv S (rn_load Tryz.isAgg3 (S.tm rfl) (S.cell (i := 0) rfl rfl)) rfl ?_;clear S;intro a S
  refine l_enter S (fun _ => run_call (vs := [iV Aa.Relay, iV 1, iV 10]) ⟨(S.tm rfl), rfl, rfl, trivial⟩ Tryz.call38) (words_Within_ok _ Aa.Relay 1 10 _ rfl) rfl ?_;clear S;intro v2 a w6 hv2 hk4 hn2 S
  subst hv2
  refine lv S (rn_not (S.tm rfl)) rfl ?_;clear S;intro a S
  refine lv S (Rm (S.tm rfl)) rfl ?_;clear S;intro a S
  refine f_cutm 5 (fun a w' => Keep [] w6 w' ∧ Sx w [] nov [.blk b1 [u1.val, iV Aa.Relay, iV Aa.Most] 27] [(42, bV ((!(words_Within Aa.Relay 1 10)) || (!(words_Within Aa.Most 0 10))))] 43 a w') ?_ ?_
  ·rcases Bool.eq_false_or_eq_true (!(words_Within Aa.Relay 1 10)) with hb5 | hb5
   ·iterate 4 (refine l_skip S rfl rfl rfl (neq_t hb5) rfl ?_ rfl;clear S;intro a S)
    refine lv S (rn_or_t (!(words_Within Aa.Most 0 10)) hb5 (S.tm rfl) rfl) rfl ?_;clear S;intro a S
    refine Ld (Tn ?_)
    exact ⟨Keep.refl _ _, S.nf [true] rfl ⟨rfl, trivial⟩⟩
   ·refine l_want S rfl rfl rfl hb5 (lv S (rn_fld fa_27_2 (S.tm rfl)) rfl ?_);clear S;intro a S
    refine l_want S rfl rfl rfl hb5 (lv S (rn_load Tryz.isAgg3 (S.tm rfl) (S.cell (i := 0) rfl rfl)) rfl ?_);clear S;intro a S
    refine l_want S rfl rfl rfl hb5 (l_enter S (fun _ => run_call (vs := [iV Aa.Most, iV 0, iV 10]) ⟨(S.tm rfl), rfl, rfl, trivial⟩ Tryz.call38) (words_Within_ok _ Aa.Most 0 10 _ rfl) rfl ?_);clear S;intro v3 a w8 hv3 hk5 hn3 S
    subst hv3
    refine l_want S rfl rfl rfl hb5 (lv S (rn_not (S.tm rfl)) rfl ?_);clear S;intro a S
    refine lv S (rn_or_f hb5 (S.tm rfl) (S.tm rfl)) rfl ?_;clear S;intro a S
    refine Ld (Tn ?_)
    exact ⟨hk5, S.nf [true] rfl ⟨rfl, trivial⟩⟩
  clear S;rintro a w7 ⟨hk6, S⟩
  refine Ld (Tn (f_cond (S.tm rfl) (fun hb6 => ?_) (fun hb6 => ?_)))
  ·replace h := iteT h hb6
   refine Fs (Fg (lv S (Ra rfl) rfl ?_));clear S;intro a S
   refine Ld (Tn (wp_ret (then_r ?_)))
   obtain rfl := Option.some.inj h
   exact f_ret S Tryz.results13 rfl rfl
  ·replace h := iteF h hb6
   refine wp_skip (Tn (Fs (Fg (lv S (Ra rfl) rfl ?_))));clear S;intro a S
   refine Ld (Tn (wp_ret ?_))
   obtain rfl := Option.some.inj h
   exact f_ret S Tryz.results13 rfl rfl
theorem strings_Trim_ok (w : World) (s c : ByteArray) (r : ByteArray) (h : strings_Trim s c = some r) : Calls Tryz.prog 64 [.string s, .string c].toArray w (Ret w [] fun _ v _ => v = .string r) := by
  unfold strings_Trim at h
  obtain ⟨h1, h⟩ := chkE h
  obtain ⟨h2, h⟩ := chkE h
  obtain ⟨h3, h⟩ := chkE h
  obtain rfl := Option.some.inj h
  exact ret_of_below (Any.strings_Trim_laid Tryz.lays160 (by kernel_rfl) s c w (by simpa using h1) (by simpa using h2) (fun j b hb => by simpa using List.all_eq_true.1 h3 b (List.mem_of_getElem? hb)))
theorem words_IsKey_ok (w : World) (Ak : ByteArray) (r : Bool) (h : words_IsKey Ak = some r) :
    Calls Tryz.prog 39 [sV Ak].toArray w (Ret w [] fun _ v _ => v = bV r) := by
 refine f_enter [] [] Tryz.func39 rfl Tryz.ntmps39 rfl (by simp) (by simp [fps]) (by simp [fps]) fun a S => ?_
 unfold words_IsKey at h
 replace S := S.nk [] [(0, sV Ak)] [] rfl ⟨rfl, trivial⟩
 refine Fs (Fg (lv S (Ra rfl) rfl ?_));clear S;intro a S
 refine Ld (Tn (Fs (Fg (lv S (Rm (S.tm rfl)) rfl ?_))));clear S;intro a S
 refine lv S (rn_len_str Tryz.underlying9 (S.tm rfl)) rfl ?_;clear S;intro a S
 refine lv S (rn_geq (S.tm rfl) rfl) rfl ?_;clear S;intro a S
 refine lv S (Rm (S.tm rfl)) rfl ?_;clear S;intro a S
 refine f_cutm 4 (fun a w' => Keep [] w w' ∧ Sx w [] nov [] [(0, sV Ak), (10, bV ((decide (1 ≤ (Ak.size : Int))) && (decide ((Ak.size : Int) ≤ 40))))] 26 a w') ?_ ?_
 ·rcases Bool.eq_false_or_eq_true (decide (1 ≤ (Ak.size : Int))) with hb1 | hb1
  ·refine l_want S rfl rfl rfl hb1 (lv S (Rm (S.tm rfl)) rfl ?_);clear S;intro a S
   refine l_want S rfl rfl rfl hb1 (lv S (rn_len_str Tryz.underlying9 (S.tm rfl)) rfl ?_);clear S;intro a S
   refine l_want S rfl rfl rfl hb1 (lv S (rn_leq (S.tm rfl) rfl) rfl ?_);clear S;intro a S
   refine lv S (rn_and_t hb1 (S.tm rfl) (S.tm rfl)) rfl ?_;clear S;intro a S
   refine Ld (Tn ?_)
   exact ⟨Keep.refl _ _, S.nf [] rfl (subR rfl)⟩
  ·iterate 3 (refine l_skip S rfl rfl rfl (neq_f hb1) rfl ?_ rfl;clear S;intro a S)
   refine lv S (rn_and_f (decide ((Ak.size : Int) ≤ 40)) hb1 (S.tm rfl) rfl) rfl ?_;clear S;intro a S
   refine Ld (Tn ?_)
   exact ⟨Keep.refl _ _, S.nf [] rfl (subR rfl)⟩
 clear S;rintro a w1 ⟨hk1, S⟩
 refine lv S (Rm (S.tm rfl)) rfl ?_;clear S;intro a S
 obtain ⟨j1, hj1, h⟩ := joinE h
 refine f_cutm 4 (fun a w' => ∃ c1, j1 c1 = some r ∧ Keep [] w1 w' ∧ Sx w [] nov [] [(0, sV Ak), (15, bV c1)] 26 a w') ?_ ?_
 ·rcases Bool.eq_false_or_eq_true ((decide (1 ≤ (Ak.size : Int))) && (decide ((Ak.size : Int) ≤ 40))) with hb2 | hb2
  ·replace h := iteT h hb2
   refine l_want S rfl rfl rfl hb2 (lv S (Rm (S.tm rfl)) rfl ?_);clear S;intro a S
   refine l_want S rfl rfl rfl hb2 ?_
   obtain ⟨hc1, h⟩ := chkE h
   refine lv S (rn_sindexT Tryz.underlying9 (S.tm rfl) rfl hc1) rfl ?_;clear S;intro a S
   refine l_want S rfl rfl rfl hb2 (lv S (rn_geq (S.tm rfl) rfl) rfl ?_);clear S;intro a S
   refine lv S (rn_and_t hb2 (S.tm rfl) (S.tm rfl)) rfl ?_;clear S;intro a S
   refine Ld (Tn ?_)
   exact ⟨_, h, Keep.refl _ _, S.nf [] rfl (subR rfl)⟩
  ·replace h := iteF h hb2
   iterate 3 (refine l_skip S rfl rfl rfl (neq_f hb2) rfl ?_ rfl;clear S;intro a S)
   refine lv S (rn_and_f true hb2 (S.tm rfl) rfl) rfl ?_;clear S;intro a S
   refine Ld (Tn ?_)
   exact ⟨_, h, Keep.refl _ _, S.nf [] rfl (subR rfl)⟩
 clear S h;rintro a w2 ⟨c1, h, hk2, S⟩;rw [hj1] at h;clear hj1 j1
 refine lv S (Rm (S.tm rfl)) rfl ?_;clear S;intro a S
 obtain ⟨j2, hj2, h⟩ := joinE h
 refine f_cutm 4 (fun a w' => ∃ c2, j2 c2 = some r ∧ Keep [] w2 w' ∧ Sx w [] nov [] [(0, sV Ak), (20, bV c2)] 26 a w') ?_ ?_
 ·rcases Bool.eq_false_or_eq_true c1 with hb3 | hb3
  ·replace h := iteT h hb3
   refine l_want S rfl rfl rfl hb3 (lv S (Rm (S.tm rfl)) rfl ?_);clear S;intro a S
   refine l_want S rfl rfl rfl hb3 ?_
   obtain ⟨hc2, h⟩ := chkE h
   refine lv S (rn_sindexT Tryz.underlying9 (S.tm rfl) rfl hc2) rfl ?_;clear S;intro a S
   refine l_want S rfl rfl rfl hb3 (lv S (rn_leq (S.tm rfl) rfl) rfl ?_);clear S;intro a S
   refine lv S (rn_and_t hb3 (S.tm rfl) (S.tm rfl)) rfl ?_;clear S;intro a S
   refine Ld (Tn ?_)
   exact ⟨_, h, Keep.refl _ _, S.nf [] rfl (subR rfl)⟩
  ·replace h := iteF h hb3
   iterate 3 (refine l_skip S rfl rfl rfl (neq_f hb3) rfl ?_ rfl;clear S;intro a S)
   refine lv S (rn_and_f true hb3 (S.tm rfl) rfl) rfl ?_;clear S;intro a S
   refine Ld (Tn ?_)
   exact ⟨_, h, Keep.refl _ _, S.nf [] rfl (subR rfl)⟩
 clear S h;rintro a w3 ⟨c2, h, hk3, S⟩;rw [hj2] at h;clear hj2 j2
 refine lv S (Rm (S.tm rfl)) rfl ?_;clear S;intro a S
 obtain ⟨j3, hj3, h⟩ := joinE h
 refine f_cutm 4 (fun a w' => ∃ c3, j3 c3 = some r ∧ Keep [] w3 w' ∧ Sx w [] nov [] [(25, bV c3)] 26 a w') ?_ ?_
 ·rcases Bool.eq_false_or_eq_true c2 with hb4 | hb4
  ·replace h := iteT h hb4
   refine l_want S rfl rfl rfl hb4 (lv S (Rm (S.tm rfl)) rfl ?_);clear S;intro a S
   refine l_want S rfl rfl rfl hb4 ?_
   obtain ⟨r1, hr1, h⟩ := bindE h
   refine l_enter S (fun _ => run_call (vs := [sV Ak, sV k_abcdefghijkl_h0e2e2c]) ⟨(S.tm rfl), rfl, trivial⟩ Tryz.call64) (strings_Trim_ok _ Ak k_abcdefghijkl_h0e2e2c _ hr1) rfl ?_;clear S;intro v1 a w5 hv1 hk4 hn1 S
   subst hv1
   refine l_want S rfl rfl rfl hb4 (lv S (rn_seql (S.tm rfl) rfl) rfl ?_);clear S;intro a S
   refine lv S (rn_and_t hb4 (S.tm rfl) (S.tm rfl)) rfl ?_;clear S;intro a S
   refine Ld (Tn ?_)
   exact ⟨_, h, hk4, S.nf [] rfl ⟨rfl, trivial⟩⟩
  ·replace h := iteF h hb4
   iterate 3 (refine l_skip S rfl rfl rfl (neq_f hb4) rfl ?_ rfl;clear S;intro a S)
   refine lv S (rn_and_f true hb4 (S.tm rfl) rfl) rfl ?_;clear S;intro a S
   refine Ld (Tn ?_)
   exact ⟨_, h, Keep.refl _ _, S.nf [] rfl ⟨rfl, trivial⟩⟩
 clear S h;rintro a w4 ⟨c3, h, hk5, S⟩;rw [hj3] at h;clear hj3 j3
 refine lv S (Ra (S.tm rfl)) rfl ?_;clear S;intro a S
 refine Ld (Tn (wp_ret ?_))
 obtain rfl := Option.some.inj h
 exact f_ret S Tryz.results39 rfl rfl
theorem points_compareRanks_ok (w : World) (Af : Int) (Ah : Int) (r : Int) (h : points_compareRanks Af Ah = r) :
    Calls Tryz.prog 66 [iV Af, iV Ah].toArray w (Ret w [] fun _ v _ => v = iV r) := by
 refine f_enter [] [] Tryz.func66 rfl Tryz.ntmps66 rfl (by simp) (by simp [fps]) (by simp [fps]) fun a S => ?_
 unfold points_compareRanks at h
 replace S := S.nk [] [(0, iV Af), (1, iV Ah)] [] rfl (subR rfl)
 refine Fs (Fg (lv S (Ra rfl) rfl ?_));clear S;intro a S
 refine Ld (Tn (Fs (Fs (Fg (lv S (Rm (S.tm rfl)) rfl ?_)))));clear S;intro a S
 refine lv S (rn_eql (S.tm rfl) rfl) rfl ?_;clear S;intro a S
 refine Ld (Tn ?_)
 obtain ⟨j1, hj1, h⟩ := joinE h
 refine f_join (fun a w' => ∃ x1 : Int, j1 x1 = r ∧ Sx w [] nov [] [(0, iV x1), (1, iV Ah)] 12 a w') ?_ ?_
 ·refine f_cond (S.tm rfl) (fun hb1 => ?_) (fun hb1 => ?_)
  ·replace h := iteT h hb1
   refine Fg (lv S (Ra rfl) rfl ?_);clear S;intro a S
   refine Ld (Tn ?_)
   exact ⟨301, h, S.nf [] rfl (subR rfl)⟩
  ·replace h := iteF h hb1
   refine wp_skip (Tn ?_)
   exact ⟨Af, h, S.nf [] rfl (subR rfl)⟩
 clear S h;rintro a w1 ⟨x1, h, S⟩;rw [hj1] at h;clear hj1 j1
 refine Tn (Fs (Fs (Fg (lv S (Rm (S.tm rfl)) rfl ?_))));clear S;intro a S
 refine lv S (rn_eql (S.tm rfl) rfl) rfl ?_;clear S;intro a S
 refine Ld (Tn ?_)
 obtain ⟨j2, hj2, h⟩ := joinE h
 refine f_join (fun a w' => ∃ x2 : Int, j2 x2 = r ∧ Sx w [] nov [] [(0, iV x1), (1, iV x2)] 12 a w') ?_ ?_
 ·refine f_cond (S.tm rfl) (fun hb2 => ?_) (fun hb2 => ?_)
  ·replace h := iteT h hb2
   refine Fg (lv S (Ra rfl) rfl ?_);clear S;intro a S
   refine Ld (Tn ?_)
   exact ⟨301, h, S.nf [] rfl (subR rfl)⟩
  ·replace h := iteF h hb2
   refine wp_skip (Tn ?_)
   exact ⟨Ah, h, S.nf [] rfl (subR rfl)⟩
 clear S h;rintro a w2 ⟨x2, h, S⟩;rw [hj2] at h;clear hj2 j2
 refine Tn (Fs (Fg (lv S (Rm (S.tm rfl)) rfl ?_)));clear S;intro a S
 refine lv S (Rm (S.tm rfl)) rfl ?_;clear S;intro a S
 refine lv S (rn_sub (S.tm rfl) (S.tm rfl)) rfl ?_;clear S;intro a S
 refine lv S (Ra (S.tm rfl)) rfl ?_;clear S;intro a S
 refine Ld (Tn (wp_ret ?_))
 subst h
 exact f_ret S Tryz.results66 rfl rfl
theorem cmp_Or_int_ok (w : World) (Cb : Value) (Ca : List Int) (Cx : Slc (view w []) 1 Cb (Ca.map eInt)) (r : Int) (h : cmp_Or_int Ca = r) :
    Calls Tryz.prog 65 [Cb].toArray w (Ret w [] fun _ v _ => v = iV r) := by
 refine f_enter [] [] Tryz.func65 rfl Tryz.ntmps65 rfl (by simp) (by simp [fps]) (by simp [fps]) fun a S => ?_
 unfold cmp_Or_int at h
 replace S := S.nk [] [(0, Cb)] [] rfl ⟨rfl, trivial⟩
 refine Fs (Fg (lv S (Ra rfl) rfl ?_));clear S;intro a S
 refine Ld (Tn (Fs (Fg (lv S (Ra rfl) rfl ?_))));clear S;intro a S
 refine Ld (Tn (Fs (Fs (Fg (lv S (Rm (S.tm rfl)) rfl ?_)))));clear S;intro a S
 refine lv S (rn_lenT sl_22 (S.tm rfl) (slc_len Cx)) rfl ?_;clear S;intro a S
 refine lv S (Rm rfl) rfl ?_;clear S;intro a S
 refine Ld (Tn ?_)
 replace S := S.nk [] [(3, iV 0), (6, Cb), (7, iV (Ca.length : Int)), (8, iV 0)] [] rfl (subR rfl)
 obtain ⟨j1, hj1, h⟩ := joinE h
 refine f_join (fun a w' => j1 = r ∧ Sx w [] nov [] [(3, iV 0)] 18 a w') ?_ ?_
 ·refine wp_block (f_loop (fun (ys1 : List Int) a w' => ∃ i1 : Nat, (∃ dn, Ca = dn ++ ys1 ∧ dn.length = i1) ∧ cmp_Or_int_l1 j1 ys1 i1 = r ∧ Sx w [] nov [] [(3, iV 0), (6, Cb), (7, iV (Ca.length : Int)), (8, iV (i1 : Int))] 18 a w') List.length Ca ⟨0, ⟨[], rfl, rfl⟩, h, S.nf [] rfl (subR rfl)⟩ ?_)
  clear S h;rintro ys1 a w1 ⟨i1, ⟨dn, hd1, hi1⟩, h, S⟩
  cases ys1 with
  | nil =>
   rw [cmp_Or_int_l1.eq_1] at h
   refine Fs (Fg (lv S (rn_lss (S.tm rfl) (S.tm rfl)) rfl ?_));clear S;intro a S
   refine Ld ?_
   replace S := S.nk [] [(3, iV 0), (6, Cb), (7, iV (Ca.length : Int)), (8, iV (i1 : Int)), (9, bV (decide ((i1 : Int) < (Ca.length : Int))))] [] rfl (subR rfl)
   refine Tn (Fs (wp_cond_false ((S.tm rfl).trans (congrArg Value.bool (rng_nil hd1 hi1))) (wp_exit (then_x (then_x (x_same ?_))))))
   refine Tn ?_
   exact ⟨h, S.nf [] rfl ⟨rfl, trivial⟩⟩
  | cons y1 ys1 =>
   rw [cmp_Or_int_l1.eq_2] at h
   refine Fs (Fg (lv S (rn_lss (S.tm rfl) (S.tm rfl)) rfl ?_));clear S;intro a S
   refine Ld ?_
   replace S := S.nk [] [(3, iV 0), (6, Cb), (7, iV (Ca.length : Int)), (8, iV (i1 : Int)), (9, bV (decide ((i1 : Int) < (Ca.length : Int))))] [] rfl (subR rfl)
   refine Tn (Fs (wp_cond_true ((S.tm rfl).trans (congrArg Value.bool (rng_cons hd1 hi1))) (wp_skip (Tn (Fs (wp_block ?_))))))
   refine Fs (Fg ?_)
   obtain ⟨b1, o1, hm1, hr1⟩ := rn_indexT (a := a) (x := .tmp 6) (y := .tmp 8) (ty := 0) sl_22 Cx (get_mid hd1 hi1) rfl (S.tm rfl) (S.tm rfl)
   refine lv S (hr1 _) rfl ?_;clear S;intro a S
   clear hr1
   refine lv S (rn_ld Tryz.isAgg3 (off := o1) (o := 0) (S.tm rfl) (hm1.at S.emb0) rfl) rfl ?_;clear S;intro a S
   refine lv S (Ra (S.tm rfl)) rfl ?_;clear S;intro a S
   refine Ld (Tn (Fs (Fg (lv S (Rm (S.tm rfl)) rfl ?_))));clear S;intro a S
   refine lv S (Rm (S.tm rfl)) rfl ?_;clear S;intro a S
   refine lv S (rn_neq (S.tm rfl) (S.tm rfl)) rfl ?_;clear S;intro a S
   refine Ld (Tn (f_cond (S.tm rfl) (fun hb1 => ?_) (fun hb1 => ?_)))
   ·replace h := iteT h hb1
    refine Fs (Fg (lv S (Rm (S.tm rfl)) rfl ?_));clear S;intro a S
    refine lv S (Ra (S.tm rfl)) rfl ?_;clear S;intro a S
    refine Ld (Tn (wp_ret (blk_r (then_r (then_r (blk_r ?_))))))
    refine then_r (then_r ?_)
    subst h
    exact f_ret S Tryz.results65 rfl rfl
   ·replace h := iteF h hb1
    refine wp_skip (blk_n (Tn (Fg (lv S (rn_add (S.tm rfl) rfl) rfl ?_))));clear S;intro a S
    refine lv S (Rm (S.tm rfl)) rfl ?_;clear S;intro a S
    refine Ld (Tn ?_)
    exact ⟨ys1, ⟨i1 + 1, ⟨_, (hd1).trans (List.append_cons _ _ _), by simp [hi1]⟩, h, S.nf [] rfl ⟨rfl, rfl, rfl, (congrArg (fun z => some (Value.int .i64 z)) (rng_next hd1 hi1 (slc_max Cx))), trivial⟩⟩, Nat.lt_succ_self _⟩
 clear S h;rintro a w2 ⟨h, S⟩;rw [hj1] at h;clear hj1 j1
 refine Tn (Fs (Fg (lv S (Rm (S.tm rfl)) rfl ?_)));clear S;intro a S
 refine lv S (Ra (S.tm rfl)) rfl ?_;clear S;intro a S
 refine Ld (Tn (wp_ret ?_))
 subst h
 exact f_ret S Tryz.results65 rfl rfl
set_option maxRecDepth 20000 in
theorem points_compare_ok (w : World) (Af : GScored) (Ah : GScored) (r : Int) (h : points_compare Af Ah = r) :
    Calls Tryz.prog 40 [.agg (GScored.enc Af).toArray, .agg (GScored.enc Ah).toArray].toArray w (Ret w [] fun _ v _ => v = iV r) := by
 refine f_enter [] [] Tryz.func40 rfl Tryz.ntmps40 rfl (by simp) (by simp [fps]) (by simp [fps]) fun a S => ?_
 unfold points_compare at h
 replace S := S.nk [] [(0, .agg (GScored.enc Af).toArray), (1, .agg (GScored.enc Ah).toArray)] [] rfl (subR rfl)
 refine Fs (Fg (l_box S (S.tm rfl) (cs := (GScored.enc Af)) rfl rfl ?_));clear S;intro a w1 b1 hz1 hk1 S
 refine l_box S (S.tm rfl) (cs := (GScored.enc Ah)) rfl rfl ?_;clear S;intro a w2 b2 hz2 hk2 S
 refine lv S (Ra rfl) rfl ?_;clear S;intro a S
 refine Ld (Tn (Fs (d_region [] ([]) Tryz.mixed S rfl (by kernel_rfl) ?_)));clear S;intro w8 hk8 hsel S
 refine d_quiet 0 S hsel rfl rfl rfl (by kernel_rfl) (by kernel_rfl) rfl (fun _ hw => (rn_fld fa_54_0 (S.tm rfl))) ?_;clear S;intro a S
 refine d_quiet 1 S hsel rfl rfl rfl (by kernel_rfl) (by kernel_rfl) rfl (fun _ hw => (rn_ld Tryz.isAgg9 (off := 0) (o := 0) (S.tm rfl) ((S.blk_mem (i := 1) (cells := (GScored.enc Af)) (b := b1) (T := 54) rfl (ne_nil (e' := .blk b1 (GScored.enc Af) 54))).kept hw) rfl)) ?_;clear S;intro a S
 refine d_quiet 2 S hsel rfl rfl rfl (by kernel_rfl) (by kernel_rfl) rfl (fun _ hw => (rn_fld fa_54_0 (S.tm rfl))) ?_;clear S;intro a S
 refine d_quiet 3 S hsel rfl rfl rfl (by kernel_rfl) (by kernel_rfl) rfl (fun _ hw => (rn_ld Tryz.isAgg9 (off := 0) (o := 0) (S.tm rfl) ((S.blk_mem (i := 0) (cells := (GScored.enc Ah)) (b := b2) (T := 54) rfl (ne_nil (e' := .blk b2 (GScored.enc Ah) 54))).kept hw) rfl)) ?_;clear S;intro a S
 refine d_quiet 5 S hsel rfl rfl rfl (by kernel_rfl) (by kernel_rfl) rfl (fun _ hw => (rn_fld fa_54_3 (S.tm rfl))) ?_;clear S;intro a S
 refine d_quiet 6 S hsel rfl rfl rfl (by kernel_rfl) (by kernel_rfl) rfl (fun _ hw => (rn_ld Tryz.isAgg3 (off := 0) (o := 3) (S.tm rfl) ((S.blk_mem (i := 1) (cells := (GScored.enc Af)) (b := b1) (T := 54) rfl (ne_nil (e' := .blk b1 (GScored.enc Af) 54))).kept hw) rfl)) ?_;clear S;intro a S
 refine d_quiet 7 S hsel rfl rfl rfl (by kernel_rfl) (by kernel_rfl) rfl (fun _ hw => (rn_fld fa_54_3 (S.tm rfl))) ?_;clear S;intro a S
 refine d_quiet 8 S hsel rfl rfl rfl (by kernel_rfl) (by kernel_rfl) rfl (fun _ hw => (rn_ld Tryz.isAgg3 (off := 0) (o := 3) (S.tm rfl) ((S.blk_mem (i := 0) (cells := (GScored.enc Ah)) (b := b2) (T := 54) rfl (ne_nil (e' := .blk b2 (GScored.enc Ah) 54))).kept hw) rfl)) ?_;clear S;intro a S
 refine d_quiet 10 S hsel rfl rfl rfl (by kernel_rfl) (by kernel_rfl) rfl (fun _ hw => (rn_fld fa_54_1 (S.tm rfl))) ?_;clear S;intro a S
 refine d_quiet 11 S hsel rfl rfl rfl (by kernel_rfl) (by kernel_rfl) rfl (fun _ hw => (rn_ld Tryz.isAgg9 (off := 0) (o := 1) (S.tm rfl) ((S.blk_mem (i := 1) (cells := (GScored.enc Af)) (b := b1) (T := 54) rfl (ne_nil (e' := .blk b1 (GScored.enc Af) 54))).kept hw) rfl)) ?_;clear S;intro a S
 refine d_quiet 12 S hsel rfl rfl rfl (by kernel_rfl) (by kernel_rfl) rfl (fun _ hw => (rn_fld fa_54_1 (S.tm rfl))) ?_;clear S;intro a S
 refine d_quiet 13 S hsel rfl rfl rfl (by kernel_rfl) (by kernel_rfl) rfl (fun _ hw => (rn_ld Tryz.isAgg9 (off := 0) (o := 1) (S.tm rfl) ((S.blk_mem (i := 0) (cells := (GScored.enc Ah)) (b := b2) (T := 54) rfl (ne_nil (e' := .blk b2 (GScored.enc Ah) 54))).kept hw) rfl)) ?_;clear S;intro a S
 refine d_loud1 4 (by kernel_rfl) rfl (l_enter S (fun _ => run_call (vs := [sV Af.Race, sV Ah.Race]) ⟨(S.tm rfl), (S.tm rfl), trivial⟩ Tryz.call59) (strings_Compare_ok _ Af.Race Ah.Race _ rfl) rfl ?_);clear S;intro v5 a w9 hv5 hk9 hn5 S
 subst hv5
 refine Ld (d_next hk9 (d_loud1 9 (by kernel_rfl) rfl (l_enter S (fun _ => run_call (vs := [iV Af.Rank, iV Ah.Rank]) ⟨(S.tm rfl), (S.tm rfl), trivial⟩ Tryz.call66) (points_compareRanks_ok _ Af.Rank Ah.Rank _ rfl) rfl ?_)));clear S;intro v6 a w10 hv6 hk10 hn6 S
 subst hv6
 refine Ld (d_next hk10 (d_loud1 14 (by kernel_rfl) rfl (l_enter S (fun _ => run_call (vs := [sV Af.Who, sV Ah.Who]) ⟨(S.tm rfl), (S.tm rfl), trivial⟩ Tryz.call59) (strings_Compare_ok _ Af.Who Ah.Who _ rfl) rfl ?_)));clear S;intro v7 a w11 hv7 hk11 hn7 S
 subst hv7
 refine Ld (d_next hk11 (d_loud1 15 (by kernel_rfl) rfl (l_buildSlice S Tryz.underlying22 Tryz.sizeOf3 Tryz.zeroValue3 rfl rfl (pv := [(0, iV (strings_Compare Af.Race Ah.Race)), (1, iV (points_compareRanks Af.Rank Ah.Rank)), (2, iV (strings_Compare Af.Who Ah.Who))]) ⟨rfl, (S.tm rfl), rfl, (S.tm rfl), rfl, (S.tm rfl), trivial⟩ (cs := [iV (strings_Compare Af.Race Ah.Race), iV (points_compareRanks Af.Rank Ah.Rank), iV (strings_Compare Af.Who Ah.Who)]) (by kernel_rfl) rfl ?_)));clear S;intro a w12 b4 hz4 hk12 S
 refine Ld (d_next hk12 (d_loud1 16 (by kernel_rfl) rfl (l_enter S (fun _ => run_call (vs := [.slice (some ⟨b4, 0, none⟩) 3 3]) ⟨(S.tm rfl), trivial⟩ Tryz.call65) (cmp_Or_int_ok _ (.slice (some ⟨b4, 0, none⟩) 3 3) [(strings_Compare Af.Race Ah.Race), (points_compareRanks Af.Rank Ah.Rank), (strings_Compare Af.Who Ah.Who)] (lit_slcT enc_int S (i := 0) rfl rfl rfl rfl ((ne_nil (e' := .blk b4 [iV (strings_Compare Af.Race Ah.Race), iV (points_compareRanks Af.Rank Ah.Rank), iV (strings_Compare Af.Who Ah.Who)] 3)) _ rfl)) _ rfl) rfl ?_)));clear S;intro v8 a w13 hv8 hk13 hn8 S
 subst hv8
 refine Ld (d_next hk13 (d_rest [17] hsel (by kernel_rfl) rfl ?_))
 clear hsel
 refine s_lv S rfl (Ra (S.tm rfl)) rfl ?_;clear S;intro a S
 refine s_done ?_
 replace S := S.nk [] [(4, iV (cmp_Or_int [(strings_Compare Af.Race Ah.Race), (points_compareRanks Af.Rank Ah.Rank), (strings_Compare Af.Who Ah.Who)]))] [false, false, false] rfl ⟨rfl, trivial⟩
 refine Tn (wp_ret ?_)
 subst h
 exact f_ret S Tryz.results40 rfl rfl
set_option maxRecDepth 20000 in
theorem points_races_ok (w : World) (ψ : View) (hψ : View.le ψ (view w [])) (O : Value) (Ab : List GScored) (Ad : Slc ψ 5 O (Ab.map GScored.enc)) (r : (List (List GScored))) (h : points_races Ab = some r) :
    Calls Tryz.prog 55 [O].toArray w (Ret w [] fun τ v _ => SlcD (join ψ τ) 1 RS.enc rel_29 v r) := by
 refine f_enter [] [] Tryz.func55 rfl Tryz.ntmps55 rfl (by simp) (by simp [fps]) (by simp [fps]) fun a S => ?_
 unfold points_races at h
 replace S := S.nk [] [(0, O)] [] rfl ⟨rfl, trivial⟩
 refine Fs (Fg (lv S (Ra rfl) rfl ?_));clear S;intro a S
 refine Ld (Tn (Fs (Fg (lv S (Ra rfl) rfl ?_))));clear S;intro a S
 replace S := S.nil 29 1
 refine Ld (Tn (Fs (Fs (Fg (lv S (Ra rfl) rfl ?_)))));clear S;intro a S
 refine Ld (Tn ?_)
 replace S := S.nk [.own (.slice none 0 0) 29 1 ([] : List RS).length (([] : List RS).flatMap RS.enc)] [(0, O), (3, (.slice none 0 0)), (4, iV 0)] [true] rfl (subR rfl)
 obtain ⟨j1, hj1, h⟩ := joinE h
 refine f_join (fun a w' => ∃ x1 : List (List GScored), ∃ v1 : Value, ∃ rs1 : List RS, j1 x1 = some r ∧ All2 (rel_29 (join ψ nov)) x1 rs1 ∧ Sx w [] nov [.own v1 29 1 rs1.length (rs1.flatMap RS.enc)] [(3, v1)] 41 a w') ?_ ?_
 ·refine wp_block (f_loop (fun (m1 : Nat) a w' => ∃ x1 : List (List GScored), ∃ x2 : Int, ∃ v1 : Value, ∃ rs1 : List RS, points_races_l1 Ab j1 m1 x1 x2 = some r ∧ All2 (rel_29 (join ψ nov)) x1 rs1 ∧ Sx w [] nov [.own v1 29 1 rs1.length (rs1.flatMap RS.enc)] [(0, O), (3, v1), (4, iV x2)] 41 a w') id (((Ab.length : Int) - 0).toNat + 2) ⟨([] : List (List GScored)), 0, (.slice none 0 0), ([] : List RS), h, .nil, S.nf [true] rfl (subR rfl)⟩ ?_)
  clear S h;rintro m1 a w1 ⟨x1, x2, v1, rs1, h, hr1, S⟩
  cases m1 with
  | zero => rw [points_races_l1.eq_1] at h;cases h
  | succ m1 =>
   rw [points_races_l1.eq_2] at h
   refine Fs (Fs (Fg (lv S (Rm (S.tm rfl)) rfl ?_)));clear S;intro a S
   refine lv S (Rm (S.tm rfl)) rfl ?_;clear S;intro a S
   refine lv S (rn_lenT sl_29 (S.tm rfl) (slc_len Ad)) rfl ?_;clear S;intro a S
   refine lv S (rn_lss (S.tm rfl) (S.tm rfl)) rfl ?_;clear S;intro a S
   refine Ld (Tn (f_cond (S.tm rfl) (fun hb1 => ?_) (fun hb1 => ?_)))
   ·replace h := iteT h hb1
    refine wp_skip (Tn (wp_block (Fs (Fg (lv S (Rm (S.tm rfl)) rfl ?_)))));clear S;intro a S
    refine lv S (rn_add (S.tm rfl) rfl) rfl ?_;clear S;intro a S
    refine lv S (Ra (S.tm rfl)) rfl ?_;clear S;intro a S
    refine Ld (Tn (Fs ?_))
    replace S := S.nk [.own v1 29 1 rs1.length (rs1.flatMap RS.enc)] [(0, O), (3, v1), (4, iV x2), (5, iV (W (x2 + 1)))] [true] rfl (subR rfl)
    obtain ⟨j2, hj2, h⟩ := joinE h
    refine f_join (fun a w' => ∃ x3 : Int, j2 x3 = some r ∧ Sx w [] nov [.own v1 29 1 rs1.length (rs1.flatMap RS.enc)] [(0, O), (3, v1), (4, iV x2), (5, iV x3)] 41 a w') ?_ ?_
    ·refine wp_block (f_loop (fun (m2 : Nat) a w' => ∃ x3 : Int, points_races_l2 Ab x2 j2 m2 x3 = some r ∧ Sx w [] nov [.own v1 29 1 rs1.length (rs1.flatMap RS.enc)] [(0, O), (3, v1), (4, iV x2), (5, iV x3)] 41 a w') id (((Ab.length : Int) - (W (x2 + 1))).toNat + 2) ⟨W (x2 + 1), h, S.nf [true] rfl (subR rfl)⟩ ?_)
     clear S h;rintro m2 a w3 ⟨x3, h, S⟩
     cases m2 with
     | zero => rw [points_races_l2.eq_1] at h;cases h
     | succ m2 =>
      rw [points_races_l2.eq_2] at h
      refine Fs (Fs (d_region [] ([]) Tryz.mixed S rfl (by kernel_rfl) ?_));clear S;intro w5 hk1 hsel S
      refine d_rest [0, 1, 2, 3, 4, 5, 6, 7, 8, 9, 10, 11, 12, 13, 14, 15, 16] hsel (by kernel_rfl) rfl ?_
      clear hsel
      refine s_lv S rfl (Rm (S.tm rfl)) rfl ?_;clear S;intro a S
      refine s_lv S rfl (Rm (S.tm rfl)) rfl ?_;clear S;intro a S
      refine s_lv S rfl (rn_lenT sl_29 (S.tm rfl) (slc_len Ad)) rfl ?_;clear S;intro a S
      refine s_lv S rfl (rn_lss (S.tm rfl) (S.tm rfl)) rfl ?_;clear S;intro a S
      refine s_lv S rfl (Rm (S.tm rfl)) rfl ?_;clear S;intro a S
      obtain ⟨j3, hj3, h⟩ := joinE h
      refine s_cutm 12 (fun a w' => ∃ c1, j3 c1 = some r ∧ Keep [] w5 w' ∧ Sx w [] nov [.own v1 29 1 rs1.length (rs1.flatMap RS.enc)] [(0, O), (3, v1), (4, iV x2), (5, iV x3), (28, bV c1)] 41 a w') ?_ ?_
      ·rcases Bool.eq_false_or_eq_true (decide (x3 < (Ab.length : Int))) with hb2 | hb2
       ·replace h := iteT h hb2
        refine s_want S rfl rfl rfl rfl hb2 (s_lv0 S (Rm (S.tm rfl)) rfl ?_);clear S;intro a S
        refine s_want S rfl rfl rfl rfl hb2 (s_lv0 S (Rm (S.tm rfl)) rfl ?_);clear S;intro a S
        refine s_want S rfl rfl rfl rfl hb2 ?_
        obtain ⟨hc1, h⟩ := chkE h
        obtain ⟨b1, o1, hm1, hr2⟩ := rn_indexT (a := a) (x := .tmp 17) (y := .tmp 18) (ty := 0) sl_29 Ad (inB_get hc1).1 (inB_get hc1).2 (S.tm rfl) (S.tm rfl)
        refine s_lv0 S (hr2 _) rfl ?_;clear S;intro a S
        clear hr2
        refine s_want S rfl rfl rfl rfl hb2 (s_lv0 S (rn_fld fa_54_0 (S.tm rfl)) rfl ?_);clear S;intro a S
        refine s_want S rfl rfl rfl rfl hb2 (s_lv0 S (rn_ld Tryz.isAgg9 (off := o1) (o := 0) (S.tm rfl) (hm1.at (emb_le hψ S.emb0)) rfl) rfl ?_);clear S;intro a S
        refine s_want S rfl rfl rfl rfl hb2 (s_lv0 S (Rm (S.tm rfl)) rfl ?_);clear S;intro a S
        refine s_want S rfl rfl rfl rfl hb2 (s_lv0 S (Rm (S.tm rfl)) rfl ?_);clear S;intro a S
        refine s_want S rfl rfl rfl rfl hb2 ?_
        obtain ⟨hc2, h⟩ := chkE h
        obtain ⟨b2, o2, hm2, hr3⟩ := rn_indexT (a := a) (x := .tmp 22) (y := .tmp 23) (ty := 0) sl_29 Ad (inB_get hc2).1 (inB_get hc2).2 (S.tm rfl) (S.tm rfl)
        refine s_lv0 S (hr3 _) rfl ?_;clear S;intro a S
        clear hr3
        refine s_want S rfl rfl rfl rfl hb2 (s_lv0 S (rn_fld fa_54_0 (S.tm rfl)) rfl ?_);clear S;intro a S
        refine s_want S rfl rfl rfl rfl hb2 (s_lv0 S (rn_ld Tryz.isAgg9 (off := o2) (o := 0) (S.tm rfl) (hm2.at (emb_le hψ S.emb0)) rfl) rfl ?_);clear S;intro a S
        refine s_want S rfl rfl rfl rfl hb2 (s_lv0 S (rn_seql (S.tm rfl) (S.tm rfl)) rfl ?_);clear S;intro a S
        refine s_lv S rfl (rn_and_t hb2 (S.tm rfl) (S.tm rfl)) rfl ?_;clear S;intro a S
        refine s_done ?_
        exact ⟨_, h, Keep.refl _ _, S.nf [true] rfl (subR rfl)⟩
       ·replace h := iteF h hb2
        iterate 11 (refine s_skip S rfl rfl rfl rfl (neq_f hb2) rfl ?_ rfl;clear S;intro a S)
        refine s_lv S rfl (rn_and_f true hb2 (S.tm rfl) rfl) rfl ?_;clear S;intro a S
        refine s_done ?_
        exact ⟨_, h, Keep.refl _ _, S.nf [true] rfl (subR rfl)⟩
      clear S h;rintro a w6 ⟨c1, h, hk2, S⟩;rw [hj3] at h;clear hj3 j3
      refine s_done ?_
      replace S := S.nk [.own v1 29 1 rs1.length (rs1.flatMap RS.enc)] [(0, O), (3, v1), (4, iV x2), (5, iV x3), (28, bV c1)] [true] rfl (subR rfl)
      refine Tn (f_cond (S.tm rfl) (fun hb3 => ?_) (fun hb3 => ?_))
      ·replace h := iteT h hb3
       refine wp_skip (Tn (wp_block (Fg (lv S (Rm (S.tm rfl)) rfl ?_))));clear S;intro a S
       refine lv S (rn_add (S.tm rfl) rfl) rfl ?_;clear S;intro a S
       refine lv S (Ra (S.tm rfl)) rfl ?_;clear S;intro a S
       refine Ld (blk_n (Tn ?_))
       exact ⟨m2, ⟨W (x3 + 1), h, S.nf [true] rfl ⟨rfl, rfl, rfl, rfl, trivial⟩⟩, Nat.lt_succ_self _⟩
      ·replace h := iteF h hb3
       refine wp_exit (then_x (then_x (x_same (Tn ?_))))
       exact ⟨x3, h, S.nf [true] rfl (subR rfl)⟩
    clear S h;rintro a w4 ⟨x3, h, S⟩;rw [hj2] at h;clear hj2 j2
    refine Tn (Fs (Fg (lv S (Rm (S.tm rfl)) rfl ?_)));clear S;intro a S
    iterate 4 (refine lv S (Rm (S.tm rfl)) rfl ?_;clear S;intro a S)
    obtain ⟨hc3, h⟩ := chkE h
    obtain ⟨v2, hs1, hr4⟩ := rn_cutT3 (y2 := .tmp 35) (a := a) (x := .tmp 32) (y := .tmp 33) (y' := .tmp 34) (ty := 29) sl_29 Ad (S.tm rfl) (S.tm rfl) (S.tm rfl) (S.tm rfl) hc3
    refine lv S (hr4 _) rfl ?_;clear S;intro a S
    clear hr4
    refine l_buildSlice S Tryz.underlying87 Tryz.sizeOf29 Tryz.zeroValue29 rfl rfl (pv := [(0, v2)]) ⟨rfl, (S.tm rfl), trivial⟩ (cs := [v2]) (fill_slc hs1) rfl ?_;clear S;intro a w7 b3 hz1 hk3 S
    obtain ⟨hc4, h⟩ := chkE h
    have hr5 : All2 (rel_29 (join ψ nov)) (x1 ++ [cut Ab x2 x3]) (rs1 ++ [⟨v2, SlcLen.one (slc_len hs1)⟩]) := All2.app hr1 (All2.cons (hs1.mono (le_join_left _ _)) All2.nil)
    refine l_appendT sl_87 RS.enc_ok S (S.tm rfl) (i := 1) rfl (S.tm rfl) (j := 0) rfl (ys := [⟨v2, SlcLen.one (slc_len hs1)⟩]) rfl rfl rfl rfl (by have := room_lt hc4;have := All2.len hr1;simp at this ⊢;omega) rfl ?_;clear S;intro v3 a w8 hk4 S
    refine lv S (Ra (S.tm rfl)) rfl ?_;clear S;intro a S
    refine Ld (Tn (Fg (lv S (Rm (S.tm rfl)) rfl ?_)));clear S;intro a S
    refine lv S (Ra (S.tm rfl)) rfl ?_;clear S;intro a S
    refine Ld (blk_n (Tn ?_))
    exact ⟨m1, ⟨(x1 ++ [cut Ab x2 x3]), x3, v3, (rs1 ++ [⟨v2, SlcLen.one (slc_len hs1)⟩]), h, hr5, S.nf [false, true] rfl ⟨rfl, rfl, rfl, trivial⟩⟩, Nat.lt_succ_self _⟩
   ·replace h := iteF h hb1
    refine wp_exit (then_x (then_x (x_same (Tn ?_))))
    exact ⟨x1, v1, rs1, h, hr1, S.nf [true] rfl ⟨rfl, trivial⟩⟩
 clear S h;rintro a w2 ⟨x1, v1, rs1, h, hr1, S⟩;rw [hj1] at h;clear hj1 j1
 refine Tn (Fs (Fg (lv S (Rm (S.tm rfl)) rfl ?_)));clear S;intro a S
 refine lv S (Ra (S.tm rfl)) rfl ?_;clear S;intro a S
 refine Ld (Tn (wp_ret ?_))
 obtain ⟨φ1, hl1, hs2, S⟩ := S.freezeT (xs := rs1) (enc := RS.enc) (i := 0) rfl (fun _ h => by cases h)
 have hr6 := (rels_29 (all_mono hl1) hr1)
 have hs3 := (ownV_slcT RS.enc_ok hs2).mono (S.all_right hψ)
 replace S := S.nk [] [(2, v1), (3, v1), (40, v1)] [] rfl (subR rfl)
 obtain rfl := Option.some.inj h
 exact f_ret S Tryz.results55 rfl ⟨_, (hs3.mono (all_out hψ S.le_newer)), rels_29 (all_out hψ S.le_newer) hr6⟩
set_option maxRecDepth 20000 in
theorem points_checkAll_c1_ok (w : World) (Ag : GScored) (Bj : Nat) (Dh : Value) (Cl : List GScored) (Di : Slc (view w []) 5 Dh (Cl.map GScored.enc)) (Br : (view w []) Bj = some (.cells [Dh].toArray 29 (0, 0))) (r : Bool) (h : points_checkAll_c1 Ag Cl = some r) :
    Calls Tryz.prog 68 [.agg (GScored.enc Ag).toArray, .pointer (some ⟨Bj, 0, none⟩)].toArray w (Ret w [] fun _ v _ => v = bV r) := by
 refine f_enter [] [] Tryz.func68 rfl Tryz.ntmps68 rfl (by simp) (by simp [fps]) (by simp [fps]) fun a S => ?_
 unfold points_checkAll_c1 at h
 replace S := S.nk [] [(0, .agg (GScored.enc Ag).toArray), (1, .pointer (some ⟨Bj, 0, none⟩))] [] rfl (subR rfl)
 refine Fs (Fg (l_box S (S.tm rfl) (cs := (GScored.enc Ag)) rfl rfl ?_));clear S;intro a w1 b1 hz1 hk1 S
 refine lv S (Ra rfl) rfl ?_;clear S;intro a S
 refine Ld (Tn (Fs (d_region [] ([]) Tryz.mixed S rfl (by kernel_rfl) ?_)));clear S;intro w2 hk2 hsel S
 refine d_rest [0, 1, 2, 3, 4, 5, 6, 7] hsel (by kernel_rfl) rfl ?_
 clear hsel
 refine s_lv S rfl (rn_fld fa_54_4 (S.tm rfl)) rfl ?_;clear S;intro a S
 refine s_lv S rfl (rn_load Tryz.isAgg4 (S.tm rfl) (S.cell (i := 0) rfl rfl)) rfl ?_;clear S;intro a S
 refine s_lv S rfl (rn_ld Tryz.isAgg29 (off := 0) (o := 0) (S.tm rfl) ((mem_blk Br).at S.emb0) rfl) rfl ?_;clear S;intro a S
 obtain ⟨hc1, h⟩ := chkE h
 obtain ⟨b2, o1, hm1, hr1⟩ := rn_indexT (a := a) (x := .tmp 6) (y := .const (iV 0)) (ty := 0) sl_29 Di (inB_get hc1).1 (inB_get hc1).2 (S.tm rfl) rfl
 refine s_lv S rfl (hr1 _) rfl ?_;clear S;intro a S
 clear hr1
 refine s_lv S rfl (rn_fld fa_54_4 (S.tm rfl)) rfl ?_;clear S;intro a S
 refine s_lv S rfl (rn_ld Tryz.isAgg4 (off := o1) (o := 4) (S.tm rfl) (hm1.at S.emb0) rfl) rfl ?_;clear S;intro a S
 refine s_lv S rfl (rn_bneq Tryz.underlying4 (S.tm rfl) (S.tm rfl)) rfl ?_;clear S;intro a S
 refine s_lv S rfl (Ra (S.tm rfl)) rfl ?_;clear S;intro a S
 refine s_done ?_
 replace S := S.nk [] [(3, bV (!decide (Ag.Relay = ((nth Cl 0).Relay))))] [false] rfl ⟨rfl, trivial⟩
 refine Tn (wp_ret ?_)
 obtain rfl := Option.some.inj h
 exact f_ret S Tryz.results68 rfl rfl
theorem slices_IndexFunc_Scored_points_checkAll_c1_ok (w : World) (Al : Value) (Ak : List GScored) (Bq : Slc (view w []) 5 Al (Ak.map GScored.enc)) (Bo : Nat) (Ch : Value) (Co : List GScored) (Db : Slc (view w []) 5 Ch (Co.map GScored.enc)) (Cs : (view w []) Bo = some (.cells [Ch].toArray 29 (0, 0))) (r : Int) (h : slices_IndexFunc_Scored_points_checkAll_c1 Ak Co = some r) :
    Calls Tryz.prog 90 [Al, .func (.func 68) #[] #[.pointer (some ⟨Bo, 0, none⟩)]].toArray w (Ret w [] fun _ v _ => v = iV r) := by
 refine f_enter [] [] Tryz.func90 rfl Tryz.ntmps90 rfl (by simp) (by simp [fps]) (by simp [fps]) fun a S => ?_
 unfold slices_IndexFunc_Scored_points_checkAll_c1 at h
 replace S := S.nk [] [(0, Al), (1, .func (.func 68) #[] #[.pointer (some ⟨Bo, 0, none⟩)])] [] rfl (subR rfl)
 refine Fs (Fg (lv S (Ra rfl) rfl ?_));clear S;intro a S
 refine Ld (Tn (Fs (Fs (Fg (lv S (Rm (S.tm rfl)) rfl ?_)))));clear S;intro a S
 refine lv S (rn_lenT sl_29 (S.tm rfl) (slc_len Bq)) rfl ?_;clear S;intro a S
 refine lv S (Rm rfl) rfl ?_;clear S;intro a S
 refine Ld (Tn ?_)
 replace S := S.nk [] [(0, Al), (1, .func (.func 68) #[] #[.pointer (some ⟨Bo, 0, none⟩)]), (7, iV (Ak.length : Int)), (8, iV 0)] [] rfl (subR rfl)
 obtain ⟨j1, hj1, h⟩ := joinE h
 refine f_join (fun a w' => j1 = some r ∧ Sx w [] nov [] [] 19 a w') ?_ ?_
 ·refine wp_block (f_loop (fun (ys1 : List GScored) a w' => ∃ i1 : Nat, (∃ dn, Ak = dn ++ ys1 ∧ dn.length = i1) ∧ slices_IndexFunc_Scored_points_checkAll_c1_l1 Co j1 ys1 i1 = some r ∧ Sx w [] nov [] [(0, Al), (1, .func (.func 68) #[] #[.pointer (some ⟨Bo, 0, none⟩)]), (7, iV (Ak.length : Int)), (8, iV (i1 : Int))] 19 a w') List.length Ak ⟨0, ⟨[], rfl, rfl⟩, h, S.nf [] rfl (subR rfl)⟩ ?_)
  clear S h;rintro ys1 a w1 ⟨i1, ⟨dn, hd1, hi1⟩, h, S⟩
  cases ys1 with
  | nil =>
   rw [slices_IndexFunc_Scored_points_checkAll_c1_l1.eq_1] at h
   refine Fs (Fg (lv S (rn_lss (S.tm rfl) (S.tm rfl)) rfl ?_));clear S;intro a S
   refine Ld ?_
   replace S := S.nk [] [(0, Al), (1, .func (.func 68) #[] #[.pointer (some ⟨Bo, 0, none⟩)]), (7, iV (Ak.length : Int)), (8, iV (i1 : Int)), (9, bV (decide ((i1 : Int) < (Ak.length : Int))))] [] rfl (subR rfl)
   refine Tn (Fs (wp_cond_false ((S.tm rfl).trans (congrArg Value.bool (rng_nil hd1 hi1))) (wp_exit (then_x (then_x (x_same ?_))))))
   refine Tn ?_
   exact ⟨h, S.nf [] rfl trivial⟩
  | cons y1 ys1 =>
   rw [slices_IndexFunc_Scored_points_checkAll_c1_l1.eq_2] at h
   refine Fs (Fg (lv S (rn_lss (S.tm rfl) (S.tm rfl)) rfl ?_));clear S;intro a S
   refine Ld ?_
   replace S := S.nk [] [(0, Al), (1, .func (.func 68) #[] #[.pointer (some ⟨Bo, 0, none⟩)]), (7, iV (Ak.length : Int)), (8, iV (i1 : Int)), (9, bV (decide ((i1 : Int) < (Ak.length : Int))))] [] rfl (subR rfl)
   refine Tn (Fs (wp_cond_true ((S.tm rfl).trans (congrArg Value.bool (rng_cons hd1 hi1))) (wp_skip (Tn (Fs (wp_block ?_))))))
   refine Fs (Fg (lv S (Rm (S.tm rfl)) rfl ?_));clear S;intro a S
   refine lv S (Ra (S.tm rfl)) rfl ?_;clear S;intro a S
   refine Ld (Tn (Fs (Fg (lv S (Rm (S.tm rfl)) rfl ?_))));clear S;intro a S
   refine lv S (Rm (S.tm rfl)) rfl ?_;clear S;intro a S
   refine lv S (Rm (S.tm rfl)) rfl ?_;clear S;intro a S
   obtain ⟨b1, o1, hm1, hr1⟩ := rn_indexT (a := a) (x := .tmp 12) (y := .tmp 13) (ty := 0) sl_29 Bq (get_mid hd1 hi1) rfl (S.tm rfl) (S.tm rfl)
   refine lv S (hr1 _) rfl ?_;clear S;intro a S
   clear hr1
   refine lv S (rn_ldA Tryz.isAgg54 Tryz.sizeOf54 (off := o1) (o := 0) (part := (GScored.enc y1)) rfl rfl (S.tm rfl) (hm1.at S.emb0)) rfl ?_;clear S;intro a S
   obtain ⟨r1, hr2, h⟩ := bindE h
   refine l_enter S (fun _ => run_callV (cap := [.pointer (some ⟨Bo, 0, none⟩)]) (S.tm rfl) (vs := [.agg (GScored.enc y1).toArray]) ⟨(S.tm rfl), trivial⟩ Tryz.call68) (points_checkAll_c1_ok _ y1 Bo Ch Co (Db.mono (S.le_arg nil_sub)) ((S.le_arg nil_sub) _ _ Cs) _ hr2) rfl ?_;clear S;intro v1 a w3 hv1 hk1 hn1 S
   subst hv1
   refine Ld (Tn (f_cond (S.tm rfl) (fun hb1 => ?_) (fun hb1 => ?_)))
   ·replace h := iteT h hb1
    refine Fs (Fg (lv S (Rm (S.tm rfl)) rfl ?_));clear S;intro a S
    refine lv S (Ra (S.tm rfl)) rfl ?_;clear S;intro a S
    refine Ld ?_
    replace S := S.nk [] [(4, iV (i1 : Int))] [] rfl ⟨rfl, trivial⟩
    refine Tn (wp_ret (blk_r (then_r (then_r (blk_r (then_r ?_))))))
    refine then_r ?_
    obtain rfl := Option.some.inj h
    exact f_ret S Tryz.results90 rfl rfl
   ·replace h := iteF h hb1
    refine wp_skip (blk_n (Tn (Fg (lv S (rn_add (S.tm rfl) rfl) rfl ?_))));clear S;intro a S
    refine lv S (Rm (S.tm rfl)) rfl ?_;clear S;intro a S
    refine Ld (Tn ?_)
    exact ⟨ys1, ⟨i1 + 1, ⟨_, (hd1).trans (List.append_cons _ _ _), by simp [hi1]⟩, h, S.nf [] rfl ⟨rfl, rfl, rfl, (congrArg (fun z => some (Value.int .i64 z)) (rng_next hd1 hi1 (slc_max Bq))), trivial⟩⟩, Nat.lt_succ_self _⟩
 clear S h;rintro a w2 ⟨h, S⟩;rw [hj1] at h;clear hj1 j1
 refine Tn (Fs (Fg (lv S (Ra rfl) rfl ?_)));clear S;intro a S
 refine Ld (Tn (wp_ret ?_))
 obtain rfl := Option.some.inj h
 exact f_ret S Tryz.results90 rfl rfl
theorem slices_ContainsFunc_Scored_points_checkAll_c1_ok (w : World) (Al : Value) (Ak : List GScored) (Bq : Slc (view w []) 5 Al (Ak.map GScored.enc)) (Bo : Nat) (Ch : Value) (Co : List GScored) (Db : Slc (view w []) 5 Ch (Co.map GScored.enc)) (Cs : (view w []) Bo = some (.cells [Ch].toArray 29 (0, 0))) (r : Bool) (h : slices_ContainsFunc_Scored_points_checkAll_c1 Ak Co = some r) :
    Calls Tryz.prog 67 [Al, .func (.func 68) #[] #[.pointer (some ⟨Bo, 0, none⟩)]].toArray w (Ret w [] fun _ v _ => v = bV r) := by
 refine f_enter [] [] Tryz.func67 rfl Tryz.ntmps67 rfl (by simp) (by simp [fps]) (by simp [fps]) fun a S => ?_
 unfold slices_ContainsFunc_Scored_points_checkAll_c1 at h
 replace S := S.nk [] [(0, Al), (1, .func (.func 68) #[] #[.pointer (some ⟨Bo, 0, none⟩)])] [] rfl (subR rfl)
 refine Fs (Fg (lv S (Ra rfl) rfl ?_));clear S;intro a S
 refine Ld (Tn (Fs (Fg (lv S (Rm (S.tm rfl)) rfl ?_))));clear S;intro a S
 refine lv S (Rm (S.tm rfl)) rfl ?_;clear S;intro a S
 obtain ⟨r1, hr1, h⟩ := bindE h
 refine l_enter S (fun _ => run_call (vs := [Al, .func (.func 68) #[] #[.pointer (some ⟨Bo, 0, none⟩)]]) ⟨(S.tm rfl), (S.tm rfl), trivial⟩ Tryz.call90) (slices_IndexFunc_Scored_points_checkAll_c1_ok _ Al Ak (Bq.mono (S.le_arg nil_sub)) Bo Ch Co (Db.mono (S.le_arg nil_sub)) ((S.le_arg nil_sub) _ _ Cs) _ hr1) rfl ?_;clear S;intro v1 a w1 hv1 hk1 hn1 S
 subst hv1
 refine lv S (rn_geq (S.tm rfl) rfl) rfl ?_;clear S;intro a S
 refine lv S (Ra (S.tm rfl)) rfl ?_;clear S;intro a S
 refine Ld (Tn (wp_ret ?_))
 obtain rfl := Option.some.inj h
 exact f_ret S Tryz.results67 rfl rfl
end Go.Proofs.YtmdjmbbmlohnlaaGreatDoor
