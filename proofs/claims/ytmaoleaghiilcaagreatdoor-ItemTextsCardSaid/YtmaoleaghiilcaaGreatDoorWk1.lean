/- Each Go function computes its plain twin, by program. -/
import Derived.Test.YtmaoleaghiilcaaGreatDoorTab
import Derived.Test.YtmaoleaghiilcaaGreatDoorLay
import Derived.Test.YtmaoleaghiilcaaGreatDoorText
namespace Go.Proofs.YtmaoleaghiilcaaGreatDoor
open Go
theorem tumbmake_Below_ok (w : World) (Bh : Int) (Ar : Int) (r : Int) (h : tumbmake_Below Bh Ar = some r) :
    Calls Tryz.prog 39 [iV Bh, iV Ar].toArray w (Ret w [] fun _ v _ => v = iV r) := by
 refine f_enter [] [] Tryz.func39 rfl Tryz.ntmps39 rfl (by simp) (by simp [fps]) (by simp [fps]) fun a S => ?_
 unfold tumbmake_Below at h
 replace S := S.nk [] [(0, iV Bh), (1, iV Ar)] [] rfl (subR rfl)
 refine Fs (Fg (lv S (Ra rfl) rfl ?_));clear S;intro a S
 refine Ld (Tn (Fs (Fs (Fg (lv S (Rm (S.tm rfl)) rfl ?_)))));clear S;intro a S
 refine lv S (rn_lss (S.tm rfl) rfl) rfl ?_;clear S;intro a S
 refine Ld (Tn (f_cond (S.tm rfl) (fun hb1 => ?_) (fun hb1 => ?_)))
 ·replace h := iteT h hb1
  refine Fs (Fg (lv S (Ra rfl) rfl ?_));clear S;intro a S
  refine Ld (Tn (wp_ret (then_r ?_)))
  obtain rfl := Option.some.inj h
  exact f_ret S Tryz.results39 rfl rfl
 ·replace h := iteF h hb1
  refine wp_skip (Tn (Fs (Fg (lv S (Rm (S.tm rfl)) rfl ?_))));clear S;intro a S
  refine lv S (Rm (S.tm rfl)) rfl ?_;clear S;intro a S
  obtain ⟨hc1, h⟩ := chkE h
  refine lv S (rn_rem (S.tm rfl) (S.tm rfl) (ne0_of hc1)) rfl ?_;clear S;intro a S
  refine lv S (Ra (S.tm rfl)) rfl ?_;clear S;intro a S
  refine Ld (Tn (Fs (Fs (Fg (lv S (Rm (S.tm rfl)) rfl ?_)))));clear S;intro a S
  refine lv S (rn_lss (S.tm rfl) rfl) rfl ?_;clear S;intro a S
  refine Ld (Tn ?_)
  obtain ⟨j1, hj1, h⟩ := joinE h
  refine f_join (fun a w' => ∃ x1 : Int, j1 x1 = some r ∧ Sx w [] nov [] [(0, iV x1)] 16 a w') ?_ ?_
  ·refine f_cond (S.tm rfl) (fun hb2 => ?_) (fun hb2 => ?_)
   ·replace h := iteT h hb2
    refine Fg (lv S (Rm (S.tm rfl)) rfl ?_);clear S;intro a S
    refine lv S (Rm (S.tm rfl)) rfl ?_;clear S;intro a S
    refine lv S (rn_add (S.tm rfl) (S.tm rfl)) rfl ?_;clear S;intro a S
    refine lv S (Ra (S.tm rfl)) rfl ?_;clear S;intro a S
    refine Ld (Tn ?_)
    exact ⟨W ((Int.tmod Bh Ar) + Ar), h, S.nf [] rfl ⟨rfl, trivial⟩⟩
   ·replace h := iteF h hb2
    refine wp_skip (Tn ?_)
    exact ⟨Int.tmod Bh Ar, h, S.nf [] rfl ⟨rfl, trivial⟩⟩
  clear S h;rintro a w1 ⟨x1, h, S⟩;rw [hj1] at h;clear hj1 j1
  refine Tn (Fs (Fg (lv S (Rm (S.tm rfl)) rfl ?_)));clear S;intro a S
  refine lv S (Ra (S.tm rfl)) rfl ?_;clear S;intro a S
  refine Ld (Tn (wp_ret ?_))
  obtain rfl := Option.some.inj h
  exact f_ret S Tryz.results39 rfl rfl
set_option maxRecDepth 20000 in
theorem Stream_Next_ok (w : World) (O : Nat) (U : Value) (Af : List Int) (Ag : Slc (view w [O]) 1 U (Af.map eInt)) (Z : Int) (Aq : (LEnt.blk O [U, iV Z] 25).holds w) (Ar : Int) (r : Int × Int) (h : Stream_Next Af Z Ar = some r) :
    Calls Tryz.prog 15 [.pointer (some ⟨O, 0, none⟩), iV Ar].toArray w (Ret w [O] fun _ v w' => (LEnt.blk O [U, iV r.2] 25).holds w' ∧ v = iV r.1) := by
 refine f_enter [O] [.blk O [U, iV Z] 25] Tryz.func15 rfl Tryz.ntmps15 rfl (fun e he => by simp only [List.mem_singleton] at he;subst he;exact Aq) (by simp [fps, LEnt.fp]) (by simp [fps, LEnt.fp]) fun a S => ?_
 unfold Stream_Next at h
 replace S := S.nk [.blk O [U, iV Z] 25] [(0, .pointer (some ⟨O, 0, none⟩)), (1, iV Ar)] [true] rfl (subR rfl)
 refine Fs (Fg (lv S (Ra rfl) rfl ?_));clear S;intro a S
 refine Ld (Tn (Fs (Fg (lv S (Rm (S.tm rfl)) rfl ?_))));clear S;intro a S
 refine lv S (rn_nilCheck (S.tm rfl)) rfl ?_;clear S;intro a S
 refine lv S (rn_fld fa_25_1 (S.tm rfl)) rfl ?_;clear S;intro a S
 refine lv S (rn_load Tryz.isAgg3 (S.tm rfl) (S.cell (i := 0) rfl rfl)) rfl ?_;clear S;intro a S
 refine lv S (rn_add (S.tm rfl) rfl) rfl ?_;clear S;intro a S
 refine lv S (rn_nilCheck (S.tm rfl)) rfl ?_;clear S;intro a S
 refine lv S (rn_fld fa_25_1 (S.tm rfl)) rfl ?_;clear S;intro a S
 refine l_store S (S.tm rfl) (S.tm rfl) (i := 0) (off := 1) rfl Tryz.sizeOf3 (vs := [iV (W (Z + 1))]) rfl rfl rfl rfl ?_;clear S;intro w1 hk1 S
 refine Ld (Tn (Fs (Fs (Fg (lv S (Rm (S.tm rfl)) rfl ?_)))));clear S;intro a S
 refine lv S (rn_nilCheck (S.tm rfl)) rfl ?_;clear S;intro a S
 refine lv S (rn_fld fa_25_0 (S.tm rfl)) rfl ?_;clear S;intro a S
 refine lv S (rn_load Tryz.isAgg22 (S.tm rfl) (S.cell (i := 0) rfl rfl)) rfl ?_;clear S;intro a S
 refine lv S (rn_lenT sl_22 (S.tm rfl) (slc_len Ag)) rfl ?_;clear S;intro a S
 refine lv S (rn_eql (S.tm rfl) rfl) rfl ?_;clear S;intro a S
 refine Ld ?_
 replace S := S.nk [.blk O [U, iV (W (Z + 1))] 25] [(0, .pointer (some ⟨O, 0, none⟩)), (1, iV Ar), (19, bV (decide ((Af.length : Int) = 0)))] [true] rfl (subR rfl)
 refine Tn (f_cond (S.tm rfl) (fun hb1 => ?_) (fun hb1 => ?_))
 ·replace h := iteT h hb1
  refine Fs (Fg (lv S (Rm (S.tm rfl)) rfl ?_));clear S;intro a S
  refine lv S (rn_nilCheck (S.tm rfl)) rfl ?_;clear S;intro a S
  refine lv S (rn_fld fa_25_1 (S.tm rfl)) rfl ?_;clear S;intro a S
  refine lv S (rn_load Tryz.isAgg3 (S.tm rfl) (S.cell (i := 0) rfl rfl)) rfl ?_;clear S;intro a S
  refine lv S (rn_mul (S.tm rfl) rfl) rfl ?_;clear S;intro a S
  refine lv S (Rm (S.tm rfl)) rfl ?_;clear S;intro a S
  obtain ⟨r1, hr1, h⟩ := bindE h
  refine l_enter S (fun _ => run_call (vs := [iV (W ((W (Z + 1)) * 7919)), iV Ar]) ⟨(S.tm rfl), (S.tm rfl), trivial⟩ Tryz.call39) (tumbmake_Below_ok _ (W ((W (Z + 1)) * 7919)) Ar _ hr1) rfl ?_;clear S;intro v1 a w2 hv1 hk2 hn1 S
  subst hv1
  refine lv S (Ra (S.tm rfl)) rfl ?_;clear S;intro a S
  refine Ld (Tn (wp_ret (then_r ?_)))
  obtain rfl := Option.some.inj h
  exact f_ret S Tryz.results15 rfl ⟨(S.holds _ (List.mem_of_getElem? (i := 0) rfl)), rfl⟩
 ·replace h := iteF h hb1
  refine wp_skip (Tn (Fs (d_region [] ([]) Tryz.mixed S rfl (by kernel_rfl) ?_)));clear S;intro w3 hk3 hsel S
  refine d_rest [0, 1, 2, 3, 4, 5, 6, 7, 8, 9, 10, 11] hsel (by kernel_rfl) rfl ?_
  clear hsel
  refine s_lv S rfl (Rm (S.tm rfl)) rfl ?_;clear S;intro a S
  refine s_lv S rfl (rn_nilCheck (S.tm rfl)) rfl ?_;clear S;intro a S
  refine s_lv S rfl (rn_fld fa_25_1 (S.tm rfl)) rfl ?_;clear S;intro a S
  refine s_lv S rfl (rn_load Tryz.isAgg3 (S.tm rfl) (S.cell (i := 0) rfl rfl)) rfl ?_;clear S;intro a S
  refine s_lv S rfl (rn_sub (S.tm rfl) rfl) rfl ?_;clear S;intro a S
  refine s_lv S rfl (Rm (S.tm rfl)) rfl ?_;clear S;intro a S
  refine s_lv S rfl (rn_nilCheck (S.tm rfl)) rfl ?_;clear S;intro a S
  refine s_lv S rfl (rn_fld fa_25_0 (S.tm rfl)) rfl ?_;clear S;intro a S
  refine s_lv S rfl (rn_load Tryz.isAgg22 (S.tm rfl) (S.cell (i := 0) rfl rfl)) rfl ?_;clear S;intro a S
  refine s_lv S rfl (rn_lenT sl_22 (S.tm rfl) (slc_len Ag)) rfl ?_;clear S;intro a S
  obtain ⟨hc1, h⟩ := chkE h
  refine s_lv S rfl (rn_rem (S.tm rfl) (S.tm rfl) (ne0_of hc1)) rfl ?_;clear S;intro a S
  refine s_lv S rfl (Ra (S.tm rfl)) rfl ?_;clear S;intro a S
  refine s_done ?_
  replace S := S.nk [.blk O [U, iV (W (Z + 1))] 25] [(0, .pointer (some ⟨O, 0, none⟩)), (1, iV Ar), (5, iV (Int.tmod (W ((W (Z + 1)) - 1)) (Af.length : Int)))] [true] rfl (subR rfl)
  refine Tn (Fs (d_region [] ([]) Tryz.mixed S rfl (by kernel_rfl) ?_));clear S;intro w4 hk4 hsel S
  refine d_rest [0, 1, 2, 3, 4, 5, 6, 7, 8, 9, 10, 11] hsel (by kernel_rfl) rfl ?_
  clear hsel
  refine s_lv S rfl (Rm (S.tm rfl)) rfl ?_;clear S;intro a S
  refine s_lv S rfl (rn_nilCheck (S.tm rfl)) rfl ?_;clear S;intro a S
  refine s_lv S rfl (rn_fld fa_25_1 (S.tm rfl)) rfl ?_;clear S;intro a S
  refine s_lv S rfl (rn_load Tryz.isAgg3 (S.tm rfl) (S.cell (i := 0) rfl rfl)) rfl ?_;clear S;intro a S
  refine s_lv S rfl (rn_sub (S.tm rfl) rfl) rfl ?_;clear S;intro a S
  refine s_lv S rfl (Rm (S.tm rfl)) rfl ?_;clear S;intro a S
  refine s_lv S rfl (rn_nilCheck (S.tm rfl)) rfl ?_;clear S;intro a S
  refine s_lv S rfl (rn_fld fa_25_0 (S.tm rfl)) rfl ?_;clear S;intro a S
  refine s_lv S rfl (rn_load Tryz.isAgg22 (S.tm rfl) (S.cell (i := 0) rfl rfl)) rfl ?_;clear S;intro a S
  refine s_lv S rfl (rn_lenT sl_22 (S.tm rfl) (slc_len Ag)) rfl ?_;clear S;intro a S
  obtain ⟨hc2, h⟩ := chkE h
  refine s_lv S rfl (rn_quo (S.tm rfl) (S.tm rfl) (ne0_of hc2)) rfl ?_;clear S;intro a S
  refine s_lv S rfl (Ra (S.tm rfl)) rfl ?_;clear S;intro a S
  refine s_done ?_
  replace S := S.nk [.blk O [U, iV (W (Z + 1))] 25] [(0, .pointer (some ⟨O, 0, none⟩)), (1, iV Ar), (5, iV (Int.tmod (W ((W (Z + 1)) - 1)) (Af.length : Int))), (6, iV (W (Int.tdiv (W ((W (Z + 1)) - 1)) (Af.length : Int))))] [true] rfl (subR rfl)
  refine Tn (Fs (Fg (lv S (Rm (S.tm rfl)) rfl ?_)));clear S;intro a S
  refine lv S (rn_nilCheck (S.tm rfl)) rfl ?_;clear S;intro a S
  refine lv S (rn_fld fa_25_0 (S.tm rfl)) rfl ?_;clear S;intro a S
  refine lv S (rn_load Tryz.isAgg22 (S.tm rfl) (S.cell (i := 0) rfl rfl)) rfl ?_;clear S;intro a S
  refine lv S (Rm (S.tm rfl)) rfl ?_;clear S;intro a S
  obtain ⟨hc3, h⟩ := chkE h
  obtain ⟨b1, o1, hm1, hr2⟩ := rn_indexT (a := a) (x := .tmp 52) (y := .tmp 53) (ty := 0) sl_22 Ag (inB_get hc3).1 (inB_get hc3).2 (S.tm rfl) (S.tm rfl)
  refine lv S (hr2 _) rfl ?_;clear S;intro a S
  clear hr2
  refine lv S (rn_ld Tryz.isAgg3 (off := o1) (o := 0) (S.tm rfl) (hm1.at S.emb0) rfl) rfl ?_;clear S;intro a S
  obtain ⟨r2, hr3, h⟩ := bindE h
  refine l_enter S (fun _ => run_call (vs := [iV (nth Af (Int.tmod (W ((W (Z + 1)) - 1)) (Af.length : Int))), iV 1073741824]) ⟨(S.tm rfl), rfl, trivial⟩ Tryz.call39) (tumbmake_Below_ok _ (nth Af (Int.tmod (W ((W (Z + 1)) - 1)) (Af.length : Int))) 1073741824 _ hr3) rfl ?_;clear S;intro v2 a w5 hv2 hk5 hn2 S
  subst hv2
  refine lv S (Rm (S.tm rfl)) rfl ?_;clear S;intro a S
  refine lv S (Rm (S.tm rfl)) rfl ?_;clear S;intro a S
  refine lv S (rn_add rfl (S.tm rfl)) rfl ?_;clear S;intro a S
  refine lv S (rn_mul (S.tm rfl) (S.tm rfl)) rfl ?_;clear S;intro a S
  refine lv S (rn_add (S.tm rfl) (S.tm rfl)) rfl ?_;clear S;intro a S
  refine lv S (Rm (S.tm rfl)) rfl ?_;clear S;intro a S
  obtain ⟨r3, hr4, h⟩ := bindE h
  refine l_enter S (fun _ => run_call (vs := [iV (W (r2 + (W ((W (Int.tdiv (W ((W (Z + 1)) - 1)) (Af.length : Int))) * (W (7919 + (Int.tmod (W ((W (Z + 1)) - 1)) (Af.length : Int)))))))), iV Ar]) ⟨(S.tm rfl), (S.tm rfl), trivial⟩ Tryz.call39) (tumbmake_Below_ok _ (W (r2 + (W ((W (Int.tdiv (W ((W (Z + 1)) - 1)) (Af.length : Int))) * (W (7919 + (Int.tmod (W ((W (Z + 1)) - 1)) (Af.length : Int)))))))) Ar _ hr4) rfl ?_;clear S;intro v3 a w6 hv3 hk6 hn3 S
  subst hv3
  refine lv S (Ra (S.tm rfl)) rfl ?_;clear S;intro a S
  refine Ld ?_
  replace S := S.nk [.blk O [U, iV (W (Z + 1))] 25] [(4, iV r3)] [true] rfl ⟨rfl, trivial⟩
  refine Tn (wp_ret ?_)
  obtain rfl := Option.some.inj h
  exact f_ret S Tryz.results15 rfl ⟨(S.holds _ (List.mem_of_getElem? (i := 0) rfl)), rfl⟩
theorem Stream_Flip_ok (w : World) (O : Nat) (U : Value) (Af : List Int) (Ag : Slc (view w [O]) 1 U (Af.map eInt)) (Z : Int) (Aq : (LEnt.blk O [U, iV Z] 25).holds w) (Ar : Int) (r : Bool × Int) (h : Stream_Flip Af Z Ar = some r) :
    Calls Tryz.prog 14 [.pointer (some ⟨O, 0, none⟩), iV Ar].toArray w (Ret w [O] fun _ v w' => (LEnt.blk O [U, iV r.2] 25).holds w' ∧ v = bV r.1) := by
 refine f_enter [O] [.blk O [U, iV Z] 25] Tryz.func14 rfl Tryz.ntmps14 rfl (fun e he => by simp only [List.mem_singleton] at he;subst he;exact Aq) (by simp [fps, LEnt.fp]) (by simp [fps, LEnt.fp]) fun a S => ?_
 unfold Stream_Flip at h
 replace S := S.nk [.blk O [U, iV Z] 25] [(0, .pointer (some ⟨O, 0, none⟩)), (1, iV Ar)] [true] rfl (subR rfl)
 refine Fs (Fg (lv S (Ra rfl) rfl ?_));clear S;intro a S
 refine Ld (Tn (Fs (Fg (lv S (Rm (S.tm rfl)) rfl ?_))));clear S;intro a S
 refine lv S (Rm (S.tm rfl)) rfl ?_;clear S;intro a S
 obtain ⟨r1, hr1, h⟩ := bindE h
 refine l_enter1 0 S (b := O) rfl rfl (fun _ => .blk O [U, iV r1.2] 25) (fun _ => run_call (vs := [.pointer (some ⟨O, 0, none⟩), iV Ar]) ⟨(S.tm rfl), (S.tm rfl), trivial⟩ Tryz.call15) (Stream_Next_ok _ O U Af (Ag.mono (S.le_arg (fp_sub (i := 0) (e := .blk O [U, iV Z] 25) rfl))) Z (S.holds _ (List.mem_of_getElem? (i := 0) rfl)) Ar _ hr1) rfl (fun _ _ _ h => ⟨h.1, fun _ hc => by cases hc;rfl⟩) ?_;clear S;intro v1 a w1 hv1 hk1 hn1 S
 replace hv1 := hv1.2
 subst hv1
 refine lv S (rn_eql (S.tm rfl) rfl) rfl ?_;clear S;intro a S
 refine lv S (Ra (S.tm rfl)) rfl ?_;clear S;intro a S
 refine Ld (Tn (wp_ret ?_))
 obtain rfl := Option.some.inj h
 exact f_ret S Tryz.results14 rfl ⟨(S.holds _ (List.mem_of_getElem? (i := 0) rfl)), rfl⟩
theorem Stream_Pick_ok (w : World) (O : Nat) (U : Value) (Af : List Int) (Ag : Slc (view w [O]) 1 U (Af.map eInt)) (Z : Int) (Aq : (LEnt.blk O [U, iV Z] 25).holds w) (V : Value) (Aa : List Int) (Ae : Slc (view w [O]) 1 V (Aa.map eInt)) (r : Int × Int) (h : Stream_Pick Af Z Aa = some r) :
    Calls Tryz.prog 18 [.pointer (some ⟨O, 0, none⟩), V].toArray w (Ret w [O] fun _ v w' => (LEnt.blk O [U, iV r.2] 25).holds w' ∧ v = iV r.1) := by
 refine f_enter [O] [.blk O [U, iV Z] 25] Tryz.func18 rfl Tryz.ntmps18 rfl (fun e he => by simp only [List.mem_singleton] at he;subst he;exact Aq) (by simp [fps, LEnt.fp]) (by simp [fps, LEnt.fp]) fun a S => ?_
 unfold Stream_Pick at h
 replace S := S.nk [.blk O [U, iV Z] 25] [(0, .pointer (some ⟨O, 0, none⟩)), (1, V)] [true] rfl (subR rfl)
 refine Fs (Fg (lv S (Ra rfl) rfl ?_));clear S;intro a S
 refine Ld (Tn (Fs (Fg (lv S (Rm (S.tm rfl)) rfl ?_))));clear S;intro a S
 refine lv S (Rm (S.tm rfl)) rfl ?_;clear S;intro a S
 refine lv S (Rm (S.tm rfl)) rfl ?_;clear S;intro a S
 refine lv S (rn_lenT sl_22 (S.tm rfl) (slc_len Ae)) rfl ?_;clear S;intro a S
 obtain ⟨r1, hr1, h⟩ := bindE h
 refine l_enter1 0 S (b := O) rfl rfl (fun _ => .blk O [U, iV r1.2] 25) (fun _ => run_call (vs := [.pointer (some ⟨O, 0, none⟩), iV (Aa.length : Int)]) ⟨(S.tm rfl), (S.tm rfl), trivial⟩ Tryz.call15) (Stream_Next_ok _ O U Af (Ag.mono (S.le_arg (fp_sub (i := 0) (e := .blk O [U, iV Z] 25) rfl))) Z (S.holds _ (List.mem_of_getElem? (i := 0) rfl)) (Aa.length : Int) _ hr1) rfl (fun _ _ _ h => ⟨h.1, fun _ hc => by cases hc;rfl⟩) ?_;clear S;intro v1 a w1 hv1 hk1 hn1 S
 replace hv1 := hv1.2
 subst hv1
 obtain ⟨hc1, h⟩ := chkE h
 obtain ⟨b1, o1, hm1, hr2⟩ := rn_indexT (a := a) (x := .tmp 5) (y := .tmp 9) (ty := 0) sl_22 Ae (inB_get hc1).1 (inB_get hc1).2 (S.tm rfl) (S.tm rfl)
 refine lv S (hr2 _) rfl ?_;clear S;intro a S
 clear hr2
 refine lv S (rn_ld Tryz.isAgg3 (off := o1) (o := 0) (S.tm rfl) (hm1.at S.emb0) rfl) rfl ?_;clear S;intro a S
 refine lv S (Ra (S.tm rfl)) rfl ?_;clear S;intro a S
 refine Ld (Tn (wp_ret ?_))
 obtain rfl := Option.some.inj h
 exact f_ret S Tryz.results18 rfl ⟨(S.holds _ (List.mem_of_getElem? (i := 0) rfl)), rfl⟩
theorem Stream_RightItems_ok (w : World) (O : Nat) (U : Value) (Af : List Int) (Ag : Slc (view w [O]) 1 U (Af.map eInt)) (Z : Int) (Aq : (LEnt.blk O [U, iV Z] 25).holds w) (Ac : Int) (r : (List GItem) × Int) (h : Stream_RightItems Af Z Ac = some r) :
    Calls Tryz.prog 13 [.pointer (some ⟨O, 0, none⟩), iV Ac].toArray w (Ret w [O] fun τ v w' => (LEnt.blk O [U, iV r.2] 25).holds w' ∧ OwnV τ 38 5 v r.1.length (r.1.flatMap GItem.enc)) := by
 refine f_enter [O] [.blk O [U, iV Z] 25] Tryz.func13 rfl Tryz.ntmps13 rfl (fun e he => by simp only [List.mem_singleton] at he;subst he;exact Aq) (by simp [fps, LEnt.fp]) (by simp [fps, LEnt.fp]) fun a S => ?_
 unfold Stream_RightItems at h
 replace S := S.nk [.blk O [U, iV Z] 25] [(0, .pointer (some ⟨O, 0, none⟩)), (1, iV Ac)] [true] rfl (subR rfl)
 refine Fs (Fg (lv S (Ra rfl) rfl ?_));clear S;intro a S
 refine Ld (Tn (Fs (Fg (lv S (Ra rfl) rfl ?_))));clear S;intro a S
 replace S := S.nil 38 5
 refine Ld (Tn (Fs (Fs (Fg (l_buildSlice S Tryz.underlying64 Tryz.sizeOf9 Tryz.zeroValue9 rfl rfl (pv := [(0, sV k_ic), (1, sV k_ia), (2, sV k_id), (3, sV k_ib), (4, sV k_ie)]) ⟨rfl, rfl, rfl, rfl, rfl, rfl, rfl, rfl, rfl, rfl, trivial⟩ (cs := [sV k_ic, sV k_ia, sV k_id, sV k_ib, sV k_ie]) (by kernel_rfl) rfl ?_)))));clear S;intro a w1 b1 hz1 hk1 S
 refine lv S (Rm (S.tm rfl)) rfl ?_;clear S;intro a S
 replace S := S.litOwn (i := 0) (xs := [k_ic, k_ia, k_id, k_ib, k_ie]) rfl enc_str rfl rfl rfl
 replace S := S.nk [.own (.slice (some ⟨b1, 0, none⟩) 5 5) 9 1 ([k_ic, k_ia, k_id, k_ib, k_ie] : List ByteArray).length (([k_ic, k_ia, k_id, k_ib, k_ie] : List ByteArray).flatMap eStr), .own (.slice none 0 0) 38 5 ([] : List GItem).length (([] : List GItem).flatMap GItem.enc), .blk O [U, iV Z] 25] [(0, .pointer (some ⟨O, 0, none⟩)), (1, iV Ac), (4, .slice none 0 0), (5, (.slice none 0 0)), (8, (.slice (some ⟨b1, 0, none⟩) 5 5)), (9, iV Ac)] [] rfl (subR rfl)
 obtain ⟨φ1, hl1, hs1, S⟩ := S.freezeT (xs := ([k_ic, k_ia, k_id, k_ib, k_ie] : List ByteArray)) (enc := eStr) (i := 0) rfl (fun c hc hh => not_fps S (i := 2) rfl rfl (j := 0) rfl rfl (by simp at hc;subst hc;exact hh))
 replace S := S.nk [.own (.slice none 0 0) 38 5 ([] : List GItem).length (([] : List GItem).flatMap GItem.enc), .blk O [U, iV Z] 25] [(0, .pointer (some ⟨O, 0, none⟩)), (1, iV Ac), (4, .slice none 0 0), (5, (.slice none 0 0)), (8, (.slice (some ⟨b1, 0, none⟩) 5 5)), (9, iV Ac)] [] rfl (subR rfl)
 obtain ⟨hc1, h⟩ := chkE h
 obtain ⟨v1, hs2, hr1⟩ := rn_cutTh (a := a) (x := .tmp 8) (y' := .tmp 9) (ty := 64) sl_64 (ownV_slcT enc_str hs1) (S.tm rfl) (S.tm rfl) hc1
 refine lv S (hr1 _) rfl ?_;clear S;intro a S
 clear hr1
 refine lv S (rn_lenT sl_64 (S.tm rfl) (slc_len hs2)) rfl ?_;clear S;intro a S
 refine lv S (Rm rfl) rfl ?_;clear S;intro a S
 refine Ld (Tn ?_)
 replace S := S.nk [.own (.slice none 0 0) 38 5 ([] : List GItem).length (([] : List GItem).flatMap GItem.enc), .blk O [U, iV Z] 25] [(0, .pointer (some ⟨O, 0, none⟩)), (5, (.slice none 0 0)), (10, v1), (11, iV ((cut ([k_ic, k_ia, k_id, k_ib, k_ie] : List ByteArray) 0 Ac).length : Int)), (12, iV 0)] [true, true] rfl (subR rfl)
 obtain ⟨j1, hj1, h⟩ := joinE h
 refine f_join (fun a w' => ∃ x1 : List GItem, ∃ x2 : Int, ∃ v2 : Value, j1 x1 x2 = some r ∧ Sx w [O] φ1 [.own v2 38 5 x1.length (x1.flatMap GItem.enc), .blk O [U, iV x2] 25] [(5, v2)] 38 a w') ?_ ?_
 ·refine wp_block (f_loop (fun (ys1 : List ByteArray) a w' => ∃ i1 : Nat, ∃ x1 : List GItem, ∃ x2 : Int, ∃ v2 : Value, (∃ dn, cut ([k_ic, k_ia, k_id, k_ib, k_ie] : List ByteArray) 0 Ac = dn ++ ys1 ∧ dn.length = i1) ∧ Stream_RightItems_l1 Af j1 ys1 i1 x1 x2 = some r ∧ Sx w [O] φ1 [.own v2 38 5 x1.length (x1.flatMap GItem.enc), .blk O [U, iV x2] 25] [(0, .pointer (some ⟨O, 0, none⟩)), (5, v2), (10, v1), (11, iV ((cut ([k_ic, k_ia, k_id, k_ib, k_ie] : List ByteArray) 0 Ac).length : Int)), (12, iV (i1 : Int))] 38 a w') List.length (cut ([k_ic, k_ia, k_id, k_ib, k_ie] : List ByteArray) 0 Ac) ⟨0, ([] : List GItem), Z, (.slice none 0 0), ⟨[], rfl, rfl⟩, h, S.nf [true, true] rfl (subR rfl)⟩ ?_)
  clear S h;rintro ys1 a w2 ⟨i1, x1, x2, v2, ⟨dn, hd1, hi1⟩, h, S⟩
  cases ys1 with
  | nil =>
   rw [Stream_RightItems_l1.eq_1] at h
   refine Fs (Fg (lv S (rn_lss (S.tm rfl) (S.tm rfl)) rfl ?_));clear S;intro a S
   refine Ld ?_
   replace S := S.nk [.own v2 38 5 x1.length (x1.flatMap GItem.enc), .blk O [U, iV x2] 25] [(0, .pointer (some ⟨O, 0, none⟩)), (5, v2), (10, v1), (11, iV ((cut ([k_ic, k_ia, k_id, k_ib, k_ie] : List ByteArray) 0 Ac).length : Int)), (12, iV (i1 : Int)), (13, bV (decide ((i1 : Int) < ((cut ([k_ic, k_ia, k_id, k_ib, k_ie] : List ByteArray) 0 Ac).length : Int))))] [true, true] rfl (subR rfl)
   refine Tn (Fs (wp_cond_false ((S.tm rfl).trans (congrArg Value.bool (rng_nil hd1 hi1))) (wp_exit (then_x (then_x (x_same ?_))))))
   refine Tn ?_
   exact ⟨x1, x2, v2, h, S.nf [true, true] rfl ⟨rfl, trivial⟩⟩
  | cons y1 ys1 =>
   rw [Stream_RightItems_l1.eq_2] at h
   refine Fs (Fg (lv S (rn_lss (S.tm rfl) (S.tm rfl)) rfl ?_));clear S;intro a S
   refine Ld ?_
   replace S := S.nk [.own v2 38 5 x1.length (x1.flatMap GItem.enc), .blk O [U, iV x2] 25] [(0, .pointer (some ⟨O, 0, none⟩)), (5, v2), (10, v1), (11, iV ((cut ([k_ic, k_ia, k_id, k_ib, k_ie] : List ByteArray) 0 Ac).length : Int)), (12, iV (i1 : Int)), (13, bV (decide ((i1 : Int) < ((cut ([k_ic, k_ia, k_id, k_ib, k_ie] : List ByteArray) 0 Ac).length : Int))))] [true, true] rfl (subR rfl)
   refine Tn (Fs (wp_cond_true ((S.tm rfl).trans (congrArg Value.bool (rng_cons hd1 hi1))) (wp_skip (Tn (Fs ?_)))))
   obtain ⟨j2, hj2, h⟩ := joinE h
   refine f_join (fun a w' => ∃ x3 : List GItem, ∃ x4 : Int, ∃ v3 : Value, j2 x3 x4 = some r ∧ Sx w [O] φ1 [.own v3 38 5 x3.length (x3.flatMap GItem.enc), .blk O [U, iV x4] 25] [(0, .pointer (some ⟨O, 0, none⟩)), (5, v3), (10, v1), (11, iV ((cut ([k_ic, k_ia, k_id, k_ib, k_ie] : List ByteArray) 0 Ac).length : Int)), (12, iV (i1 : Int))] 38 a w') ?_ ?_
   ·refine wp_block (Fs (Fg ?_))
    obtain ⟨b2, o1, hm1, hr2⟩ := rn_indexT (a := a) (x := .tmp 10) (y := .tmp 12) (ty := 0) sl_64 hs2 (get_mid hd1 hi1) rfl (S.tm rfl) (S.tm rfl)
    refine lv S (hr2 _) rfl ?_;clear S;intro a S
    clear hr2
    refine lv S (rn_ld Tryz.isAgg9 (off := o1) (o := 0) (S.tm rfl) (hm1.at S.emb) rfl) rfl ?_;clear S;intro a S
    refine lv S (Ra (S.tm rfl)) rfl ?_;clear S;intro a S
    refine Ld (Tn (Fs (Fg (lv S (Rm (S.tm rfl)) rfl ?_))));clear S;intro a S
    obtain ⟨r1, hr3, h⟩ := bindE h
    refine l_enter1 1 S (b := O) rfl rfl (fun _ => .blk O [U, iV r1.2] 25) (fun _ => run_call (vs := [.pointer (some ⟨O, 0, none⟩), iV 6]) ⟨(S.tm rfl), rfl, trivial⟩ Tryz.call14) (Stream_Flip_ok _ O U Af (Ag.mono (S.le_arg (fp_sub (i := 1) (e := .blk O [U, iV x2] 25) rfl))) x2 (S.holds _ (List.mem_of_getElem? (i := 1) rfl)) 6 _ hr3) rfl (fun _ _ _ h => ⟨h.1, fun _ hc => by cases hc;rfl⟩) ?_;clear S;intro v4 a w5 hv1 hk2 hn1 S
    replace hv1 := hv1.2
    subst hv1
    refine lv S (rn_not (S.tm rfl)) rfl ?_;clear S;intro a S
    refine Ld (Tn ?_)
    obtain ⟨j3, hj3, h⟩ := joinE h
    refine f_join (fun a w' => ∃ x5 : List GItem, ∃ x6 : Int, ∃ v5 : Value, j3 x5 x6 = some r ∧ Sx w [O] φ1 [.own v5 38 5 x5.length (x5.flatMap GItem.enc), .blk O [U, iV x6] 25] [(0, .pointer (some ⟨O, 0, none⟩)), (5, v5), (10, v1), (11, iV ((cut ([k_ic, k_ia, k_id, k_ib, k_ie] : List ByteArray) 0 Ac).length : Int)), (12, iV (i1 : Int))] 38 a w') ?_ ?_
    ·refine f_cond (S.tm rfl) (fun hb1 => ?_) (fun hb1 => ?_)
     ·replace h := iteT h hb1
      refine Fg (lv S (Rm (S.tm rfl)) rfl ?_);clear S;intro a S
      refine lv S (Rm (S.tm rfl)) rfl ?_;clear S;intro a S
      refine lv S (Rm (S.tm rfl)) rfl ?_;clear S;intro a S
      refine l_buildSlice S Tryz.underlying22 Tryz.sizeOf3 Tryz.zeroValue3 rfl rfl (pv := [(0, iV 1), (1, iV 1), (2, iV 2), (3, iV 3)]) ⟨rfl, rfl, rfl, rfl, rfl, rfl, rfl, rfl, trivial⟩ (cs := [iV 1, iV 1, iV 2, iV 3]) (by kernel_rfl) rfl ?_;clear S;intro a w7 b3 hz2 hk3 S
      obtain ⟨r2, hr4, h⟩ := bindE h
      refine l_enter1 2 S (b := O) rfl rfl (fun _ => .blk O [U, iV r2.2] 25) (fun _ => run_call (vs := [.pointer (some ⟨O, 0, none⟩), .slice (some ⟨b3, 0, none⟩) 4 4]) ⟨(S.tm rfl), (S.tm rfl), trivial⟩ Tryz.call18) (Stream_Pick_ok _ O U Af (Ag.mono (S.le_arg (fp_sub (i := 2) (e := .blk O [U, iV r1.2] 25) rfl))) r1.2 (S.holds _ (List.mem_of_getElem? (i := 2) rfl)) (.slice (some ⟨b3, 0, none⟩) 4 4) [1, 1, 2, 3] (lit_slcT enc_int S (i := 0) rfl rfl rfl rfl ((ne_fp (i := 2) (j := 0) (e := .blk O [U, iV r1.2] 25) (e' := .blk b3 [iV 1, iV 1, iV 2, iV 3] 3) S rfl rfl rfl) _ rfl)) _ hr4) rfl (fun _ _ _ h => ⟨h.1, fun _ hc => by cases hc;rfl⟩) ?_;clear S;intro v6 a w8 hv2 hk4 hn2 S
      replace hv2 := hv2.2
      subst hv2
      refine lv S (Rm (S.tm rfl)) rfl ?_;clear S;intro a S
      refine l_buildSlice S Tryz.underlying22 Tryz.sizeOf3 Tryz.zeroValue3 rfl rfl (pv := [(0, iV 50), (1, iV 100)]) ⟨rfl, rfl, rfl, rfl, trivial⟩ (cs := [iV 50, iV 100]) (by kernel_rfl) rfl ?_;clear S;intro a w9 b4 hz3 hk5 S
      obtain ⟨r3, hr5, h⟩ := bindE h
      refine l_enter1 3 S (b := O) rfl rfl (fun _ => .blk O [U, iV r3.2] 25) (fun _ => run_call (vs := [.pointer (some ⟨O, 0, none⟩), .slice (some ⟨b4, 0, none⟩) 2 2]) ⟨(S.tm rfl), (S.tm rfl), trivial⟩ Tryz.call18) (Stream_Pick_ok _ O U Af (Ag.mono (S.le_arg (fp_sub (i := 3) (e := .blk O [U, iV r2.2] 25) rfl))) r2.2 (S.holds _ (List.mem_of_getElem? (i := 3) rfl)) (.slice (some ⟨b4, 0, none⟩) 2 2) [50, 100] (lit_slcT enc_int S (i := 0) rfl rfl rfl rfl ((ne_fp (i := 3) (j := 0) (e := .blk O [U, iV r2.2] 25) (e' := .blk b4 [iV 50, iV 100] 3) S rfl rfl rfl) _ rfl)) _ hr5) rfl (fun _ _ _ h => ⟨h.1, fun _ hc => by cases hc;rfl⟩) ?_;clear S;intro v7 a w10 hv3 hk6 hn3 S
      replace hv3 := hv3.2
      subst hv3
      refine lv S (Rm (S.tm rfl)) rfl ?_;clear S;intro a S
      refine l_buildSlice S Tryz.underlying22 Tryz.sizeOf3 Tryz.zeroValue3 rfl rfl (pv := [(0, iV 0), (1, iV 10), (2, iV 60)]) ⟨rfl, rfl, rfl, rfl, rfl, rfl, trivial⟩ (cs := [iV 0, iV 10, iV 60]) (by kernel_rfl) rfl ?_;clear S;intro a w11 b5 hz4 hk7 S
      obtain ⟨r4, hr6, h⟩ := bindE h
      refine l_enter1 4 S (b := O) rfl rfl (fun _ => .blk O [U, iV r4.2] 25) (fun _ => run_call (vs := [.pointer (some ⟨O, 0, none⟩), .slice (some ⟨b5, 0, none⟩) 3 3]) ⟨(S.tm rfl), (S.tm rfl), trivial⟩ Tryz.call18) (Stream_Pick_ok _ O U Af (Ag.mono (S.le_arg (fp_sub (i := 4) (e := .blk O [U, iV r3.2] 25) rfl))) r3.2 (S.holds _ (List.mem_of_getElem? (i := 4) rfl)) (.slice (some ⟨b5, 0, none⟩) 3 3) [0, 10, 60] (lit_slcT enc_int S (i := 0) rfl rfl rfl rfl ((ne_fp (i := 4) (j := 0) (e := .blk O [U, iV r3.2] 25) (e' := .blk b5 [iV 0, iV 10, iV 60] 3) S rfl rfl rfl) _ rfl)) _ hr6) rfl (fun _ _ _ h => ⟨h.1, fun _ hc => by cases hc;rfl⟩) ?_;clear S;intro v8 a w12 hv4 hk8 hn4 S
      replace hv4 := hv4.2
      subst hv4
      refine lv S (Rm (S.tm rfl)) rfl ?_;clear S;intro a S
      refine l_buildSlice S Tryz.underlying22 Tryz.sizeOf3 Tryz.zeroValue3 rfl rfl (pv := [(0, iV 0), (1, iV 20), (2, iV 50), (3, iV 200)]) ⟨rfl, rfl, rfl, rfl, rfl, rfl, rfl, rfl, trivial⟩ (cs := [iV 0, iV 20, iV 50, iV 200]) (by kernel_rfl) rfl ?_;clear S;intro a w13 b6 hz5 hk9 S
      obtain ⟨r5, hr7, h⟩ := bindE h
      refine l_enter1 5 S (b := O) rfl rfl (fun _ => .blk O [U, iV r5.2] 25) (fun _ => run_call (vs := [.pointer (some ⟨O, 0, none⟩), .slice (some ⟨b6, 0, none⟩) 4 4]) ⟨(S.tm rfl), (S.tm rfl), trivial⟩ Tryz.call18) (Stream_Pick_ok _ O U Af (Ag.mono (S.le_arg (fp_sub (i := 5) (e := .blk O [U, iV r4.2] 25) rfl))) r4.2 (S.holds _ (List.mem_of_getElem? (i := 5) rfl)) (.slice (some ⟨b6, 0, none⟩) 4 4) [0, 20, 50, 200] (lit_slcT enc_int S (i := 0) rfl rfl rfl rfl ((ne_fp (i := 5) (j := 0) (e := .blk O [U, iV r4.2] 25) (e' := .blk b6 [iV 0, iV 20, iV 50, iV 200] 3) S rfl rfl rfl) _ rfl)) _ hr7) rfl (fun _ _ _ h => ⟨h.1, fun _ hc => by cases hc;rfl⟩) ?_;clear S;intro v9 a w14 hv5 hk10 hn5 S
      replace hv5 := hv5.2
      subst hv5
      refine lv S (rn_bld bt_38 (pv := [(0, sV y1), (1, iV r2.1), (2, iV r3.1), (3, iV r4.1), (4, iV r5.1)]) ⟨rfl, (S.tm rfl), rfl, (S.tm rfl), rfl, (S.tm rfl), rfl, (S.tm rfl), rfl, (S.tm rfl), trivial⟩ (cs := [sV y1, iV r2.1, iV r3.1, iV r4.1, iV r5.1]) (by kernel_rfl)) rfl ?_;clear S;intro a S
      refine l_buildSlice S Tryz.underlying26 Tryz.sizeOf38 Tryz.zeroValue38 rfl rfl (pv := [(0, .agg #[sV y1, iV r2.1, iV r3.1, iV r4.1, iV r5.1])]) ⟨rfl, (S.tm rfl), trivial⟩ (cs := [sV y1, iV r2.1, iV r3.1, iV r4.1, iV r5.1]) (by kernel_rfl) rfl ?_;clear S;intro a w15 b7 hz6 hk11 S
      obtain ⟨hc2, h⟩ := chkE h
      refine l_appendT sl_26 GItem.enc_ok S (S.tm rfl) (i := 5) rfl (S.tm rfl) (j := 0) rfl (ys := [(GItem.mk y1 r2.1 r3.1 r4.1 r5.1)]) rfl rfl rfl rfl (by have := room_lt hc2;omega) rfl ?_;clear S;intro v10 a w16 hk12 S
      refine lv S (Ra (S.tm rfl)) rfl ?_;clear S;intro a S
      refine Ld ?_
      replace S := S.nk [.own v10 38 5 (x1 ++ [(GItem.mk y1 r2.1 r3.1 r4.1 r5.1)]).length ((x1 ++ [(GItem.mk y1 r2.1 r3.1 r4.1 r5.1)]).flatMap GItem.enc), .blk O [U, iV r5.2] 25] [(0, .pointer (some ⟨O, 0, none⟩)), (5, v10), (10, v1), (11, iV ((cut ([k_ic, k_ia, k_id, k_ib, k_ie] : List ByteArray) 0 Ac).length : Int)), (12, iV (i1 : Int))] [false, false, false, false, false, true, true] rfl (subR rfl)
      refine Tn ?_
      exact ⟨(x1 ++ [(GItem.mk y1 r2.1 r3.1 r4.1 r5.1)]), r5.2, v10, h, S.nf [true, true] rfl (subR rfl)⟩
     ·replace h := iteF h hb1
      refine wp_skip (Tn ?_)
      exact ⟨x1, r1.2, v2, h, S.nf [true, true] rfl (subR rfl)⟩
    clear S h;rintro a w6 ⟨x5, x6, v5, h, S⟩;rw [hj3] at h;clear hj3 j3
    refine blk_n (Tn ?_)
    exact ⟨x5, x6, v5, h, S.nf [true, true] rfl (subR rfl)⟩
   clear S h;rintro a w4 ⟨x3, x4, v3, h, S⟩;rw [hj2] at h;clear hj2 j2
   refine Tn (Fg (lv S (rn_add (S.tm rfl) rfl) rfl ?_));clear S;intro a S
   refine lv S (Rm (S.tm rfl)) rfl ?_;clear S;intro a S
   refine Ld (Tn ?_)
   exact ⟨ys1, ⟨i1 + 1, x3, x4, v3, ⟨_, (hd1).trans (List.append_cons _ _ _), by simp [hi1]⟩, h, S.nf [true, true] rfl ⟨rfl, rfl, rfl, rfl, (congrArg (fun z => some (Value.int .i64 z)) (rng_next hd1 hi1 (slc_max hs2))), trivial⟩⟩, Nat.lt_succ_self _⟩
 clear S h;rintro a w3 ⟨x1, x2, v2, h, S⟩;rw [hj1] at h;clear hj1 j1
 refine Tn (Fs (Fg (lv S (Rm (S.tm rfl)) rfl ?_)));clear S;intro a S
 refine lv S (Ra (S.tm rfl)) rfl ?_;clear S;intro a S
 refine Ld (Tn (wp_ret ?_))
 obtain rfl := Option.some.inj h
 exact f_ret S Tryz.results13 rfl ⟨(S.holds _ (List.mem_of_getElem? (i := 1) rfl)), (own_retX S (i := 0) rfl (fun c hc hh => not_fps S (i := 1) rfl rfl (j := 0) rfl rfl (by simp at hc;subst hc;exact hh)))⟩
theorem Stream_Some_ok (w : World) (O : Nat) (U : Value) (Af : List Int) (Ag : Slc (view w [O]) 1 U (Af.map eInt)) (Z : Int) (Aq : (LEnt.blk O [U, iV Z] 25).holds w) (V : Value) (Aa : List ByteArray) (Ae : Slc (view w [O]) 1 V (Aa.map eStr)) (r : ByteArray × Int) (h : Stream_Some Af Z Aa = some r) :
    Calls Tryz.prog 16 [.pointer (some ⟨O, 0, none⟩), V].toArray w (Ret w [O] fun _ v w' => (LEnt.blk O [U, iV r.2] 25).holds w' ∧ v = sV r.1) := by
 refine f_enter [O] [.blk O [U, iV Z] 25] Tryz.func16 rfl Tryz.ntmps16 rfl (fun e he => by simp only [List.mem_singleton] at he;subst he;exact Aq) (by simp [fps, LEnt.fp]) (by simp [fps, LEnt.fp]) fun a S => ?_
 unfold Stream_Some at h
 replace S := S.nk [.blk O [U, iV Z] 25] [(0, .pointer (some ⟨O, 0, none⟩)), (1, V)] [true] rfl (subR rfl)
 refine Fs (Fg (lv S (Ra rfl) rfl ?_));clear S;intro a S
 refine Ld (Tn (Fs (Fg (lv S (Rm (S.tm rfl)) rfl ?_))));clear S;intro a S
 refine lv S (Rm (S.tm rfl)) rfl ?_;clear S;intro a S
 refine lv S (Rm (S.tm rfl)) rfl ?_;clear S;intro a S
 refine lv S (rn_lenT sl_64 (S.tm rfl) (slc_len Ae)) rfl ?_;clear S;intro a S
 obtain ⟨r1, hr1, h⟩ := bindE h
 refine l_enter1 0 S (b := O) rfl rfl (fun _ => .blk O [U, iV r1.2] 25) (fun _ => run_call (vs := [.pointer (some ⟨O, 0, none⟩), iV (Aa.length : Int)]) ⟨(S.tm rfl), (S.tm rfl), trivial⟩ Tryz.call15) (Stream_Next_ok _ O U Af (Ag.mono (S.le_arg (fp_sub (i := 0) (e := .blk O [U, iV Z] 25) rfl))) Z (S.holds _ (List.mem_of_getElem? (i := 0) rfl)) (Aa.length : Int) _ hr1) rfl (fun _ _ _ h => ⟨h.1, fun _ hc => by cases hc;rfl⟩) ?_;clear S;intro v1 a w1 hv1 hk1 hn1 S
 replace hv1 := hv1.2
 subst hv1
 obtain ⟨hc1, h⟩ := chkE h
 obtain ⟨b1, o1, hm1, hr2⟩ := rn_indexT (a := a) (x := .tmp 5) (y := .tmp 9) (ty := 0) sl_64 Ae (inB_get hc1).1 (inB_get hc1).2 (S.tm rfl) (S.tm rfl)
 refine lv S (hr2 _) rfl ?_;clear S;intro a S
 clear hr2
 refine lv S (rn_ld Tryz.isAgg9 (off := o1) (o := 0) (S.tm rfl) (hm1.at S.emb0) rfl) rfl ?_;clear S;intro a S
 refine lv S (Ra (S.tm rfl)) rfl ?_;clear S;intro a S
 refine Ld (Tn (wp_ret ?_))
 obtain rfl := Option.some.inj h
 exact f_ret S Tryz.results16 rfl ⟨(S.holds _ (List.mem_of_getElem? (i := 0) rfl)), rfl⟩
theorem Stream_Range_ok (w : World) (O : Nat) (U : Value) (Af : List Int) (Ag : Slc (view w [O]) 1 U (Af.map eInt)) (Z : Int) (Aq : (LEnt.blk O [U, iV Z] 25).holds w) (Ap : Int) (Am : Int) (r : Int × Int) (h : Stream_Range Af Z Ap Am = some r) :
    Calls Tryz.prog 40 [.pointer (some ⟨O, 0, none⟩), iV Ap, iV Am].toArray w (Ret w [O] fun _ v w' => (LEnt.blk O [U, iV r.2] 25).holds w' ∧ v = iV r.1) := by
 refine f_enter [O] [.blk O [U, iV Z] 25] Tryz.func40 rfl Tryz.ntmps40 rfl (fun e he => by simp only [List.mem_singleton] at he;subst he;exact Aq) (by simp [fps, LEnt.fp]) (by simp [fps, LEnt.fp]) fun a S => ?_
 unfold Stream_Range at h
 replace S := S.nk [.blk O [U, iV Z] 25] [(0, .pointer (some ⟨O, 0, none⟩)), (1, iV Ap), (2, iV Am)] [true] rfl (subR rfl)
 refine Fs (Fg (lv S (Ra rfl) rfl ?_));clear S;intro a S
 refine Ld (Tn (Fs (Fs (Fg (lv S (Rm (S.tm rfl)) rfl ?_)))));clear S;intro a S
 refine lv S (Rm (S.tm rfl)) rfl ?_;clear S;intro a S
 refine lv S (rn_lss (S.tm rfl) (S.tm rfl)) rfl ?_;clear S;intro a S
 refine Ld (Tn (f_cond (S.tm rfl) (fun hb1 => ?_) (fun hb1 => ?_)))
 ·replace h := iteT h hb1
  refine Fs (Fg (lv S (Rm (S.tm rfl)) rfl ?_));clear S;intro a S
  refine lv S (Ra (S.tm rfl)) rfl ?_;clear S;intro a S
  refine Ld (Tn (wp_ret (then_r ?_)))
  obtain rfl := Option.some.inj h
  exact f_ret S Tryz.results40 rfl ⟨(S.holds _ (List.mem_of_getElem? (i := 0) rfl)), rfl⟩
 ·replace h := iteF h hb1
  refine wp_skip (Tn (Fs (Fg (lv S (Rm (S.tm rfl)) rfl ?_))));clear S;intro a S
  iterate 3 (refine lv S (Rm (S.tm rfl)) rfl ?_;clear S;intro a S)
  refine lv S (rn_sub (S.tm rfl) (S.tm rfl)) rfl ?_;clear S;intro a S
  refine lv S (rn_add (S.tm rfl) rfl) rfl ?_;clear S;intro a S
  obtain ⟨r1, hr1, h⟩ := bindE h
  refine l_enter1 0 S (b := O) rfl rfl (fun _ => .blk O [U, iV r1.2] 25) (fun _ => run_call (vs := [.pointer (some ⟨O, 0, none⟩), iV (W ((W (Am - Ap)) + 1))]) ⟨(S.tm rfl), (S.tm rfl), trivial⟩ Tryz.call15) (Stream_Next_ok _ O U Af (Ag.mono (S.le_arg (fp_sub (i := 0) (e := .blk O [U, iV Z] 25) rfl))) Z (S.holds _ (List.mem_of_getElem? (i := 0) rfl)) (W ((W (Am - Ap)) + 1)) _ hr1) rfl (fun _ _ _ h => ⟨h.1, fun _ hc => by cases hc;rfl⟩) ?_;clear S;intro v1 a w1 hv1 hk1 hn1 S
  replace hv1 := hv1.2
  subst hv1
  refine lv S (rn_add (S.tm rfl) (S.tm rfl)) rfl ?_;clear S;intro a S
  refine lv S (Ra (S.tm rfl)) rfl ?_;clear S;intro a S
  refine Ld ?_
  replace S := S.nk [.blk O [U, iV r1.2] 25] [(6, iV (W (Ap + r1.1)))] [true] rfl ⟨rfl, trivial⟩
  refine Tn (wp_ret ?_)
  obtain rfl := Option.some.inj h
  exact f_ret S Tryz.results40 rfl ⟨(S.holds _ (List.mem_of_getElem? (i := 0) rfl)), rfl⟩
theorem Stream_Odd_ok (w : World) (O : Nat) (U : Value) (Af : List Int) (Ag : Slc (view w [O]) 1 U (Af.map eInt)) (Z : Int) (Aq : (LEnt.blk O [U, iV Z] 25).holds w) (Ap : Int) (Am : Int) (r : Int × Int) (h : Stream_Odd Af Z Ap Am = some r) :
    Calls Tryz.prog 17 [.pointer (some ⟨O, 0, none⟩), iV Ap, iV Am].toArray w (Ret w [O] fun _ v w' => (LEnt.blk O [U, iV r.2] 25).holds w' ∧ v = iV r.1) := by
 refine f_enter [O] [.blk O [U, iV Z] 25] Tryz.func17 rfl Tryz.ntmps17 rfl (fun e he => by simp only [List.mem_singleton] at he;subst he;exact Aq) (by simp [fps, LEnt.fp]) (by simp [fps, LEnt.fp]) fun a S => ?_
 unfold Stream_Odd at h
 replace S := S.nk [.blk O [U, iV Z] 25] [(0, .pointer (some ⟨O, 0, none⟩)), (1, iV Ap), (2, iV Am)] [true] rfl (subR rfl)
 refine Fs (Fg (lv S (Ra rfl) rfl ?_));clear S;intro a S
 refine Ld (Tn (Fs (Fs (Fg (lv S (Rm (S.tm rfl)) rfl ?_)))));clear S;intro a S
 obtain ⟨r1, hr1, h⟩ := bindE h
 refine l_enter1 0 S (b := O) rfl rfl (fun _ => .blk O [U, iV r1.2] 25) (fun _ => run_call (vs := [.pointer (some ⟨O, 0, none⟩), iV 12]) ⟨(S.tm rfl), rfl, trivial⟩ Tryz.call14) (Stream_Flip_ok _ O U Af (Ag.mono (S.le_arg (fp_sub (i := 0) (e := .blk O [U, iV Z] 25) rfl))) Z (S.holds _ (List.mem_of_getElem? (i := 0) rfl)) 12 _ hr1) rfl (fun _ _ _ h => ⟨h.1, fun _ hc => by cases hc;rfl⟩) ?_;clear S;intro v1 a w1 hv1 hk1 hn1 S
 replace hv1 := hv1.2
 subst hv1
 refine Ld (Tn (f_cond (S.tm rfl) (fun hb1 => ?_) (fun hb1 => ?_)))
 ·replace h := iteT h hb1
  refine Fs (Fg (lv S (Rm (S.tm rfl)) rfl ?_));clear S;intro a S
  refine lv S (Rm (S.tm rfl)) rfl ?_;clear S;intro a S
  refine lv S (rn_sub (S.tm rfl) rfl) rfl ?_;clear S;intro a S
  refine lv S (Rm (S.tm rfl)) rfl ?_;clear S;intro a S
  refine lv S (rn_add (S.tm rfl) rfl) rfl ?_;clear S;intro a S
  refine lv S (Rm (S.tm rfl)) rfl ?_;clear S;intro a S
  refine lv S (Rm (S.tm rfl)) rfl ?_;clear S;intro a S
  refine l_buildSlice S Tryz.underlying22 Tryz.sizeOf3 Tryz.zeroValue3 rfl rfl (pv := [(0, iV (W (Ap - 1))), (1, iV (W (Am + 1))), (2, iV Ap), (3, iV Am), (4, iV (-1099511627776)), (5, iV 1099511627776)]) ⟨rfl, (S.tm rfl), rfl, (S.tm rfl), rfl, (S.tm rfl), rfl, (S.tm rfl), rfl, rfl, rfl, rfl, trivial⟩ (cs := [iV (W (Ap - 1)), iV (W (Am + 1)), iV Ap, iV Am, iV (-1099511627776), iV 1099511627776]) (by kernel_rfl) rfl ?_;clear S;intro a w2 b1 hz1 hk2 S
  obtain ⟨r2, hr2, h⟩ := bindE h
  refine l_enter1 1 S (b := O) rfl rfl (fun _ => .blk O [U, iV r2.2] 25) (fun _ => run_call (vs := [.pointer (some ⟨O, 0, none⟩), .slice (some ⟨b1, 0, none⟩) 6 6]) ⟨(S.tm rfl), (S.tm rfl), trivial⟩ Tryz.call18) (Stream_Pick_ok _ O U Af (Ag.mono (S.le_arg (fp_sub (i := 1) (e := .blk O [U, iV r1.2] 25) rfl))) r1.2 (S.holds _ (List.mem_of_getElem? (i := 1) rfl)) (.slice (some ⟨b1, 0, none⟩) 6 6) [W (Ap - 1), W (Am + 1), Ap, Am, (-1099511627776), 1099511627776] (lit_slcT enc_int S (i := 0) rfl rfl rfl rfl ((ne_fp (i := 1) (j := 0) (e := .blk O [U, iV r1.2] 25) (e' := .blk b1 [iV (W (Ap - 1)), iV (W (Am + 1)), iV Ap, iV Am, iV (-1099511627776), iV 1099511627776] 3) S rfl rfl rfl) _ rfl)) _ hr2) rfl (fun _ _ _ h => ⟨h.1, fun _ hc => by cases hc;rfl⟩) ?_;clear S;intro v2 a w3 hv2 hk3 hn2 S
  replace hv2 := hv2.2
  subst hv2
  refine lv S (Ra (S.tm rfl)) rfl ?_;clear S;intro a S
  refine Ld ?_
  replace S := S.nk [.blk O [U, iV r2.2] 25] [(6, iV r2.1)] [false, true] rfl ⟨rfl, trivial⟩
  refine Tn (wp_ret (then_r ?_))
  obtain rfl := Option.some.inj h
  exact f_ret S Tryz.results17 rfl ⟨(S.holds _ (List.mem_of_getElem? (i := 0) rfl)), rfl⟩
 ·replace h := iteF h hb1
  refine wp_skip (Tn (Fs (Fg (lv S (Rm (S.tm rfl)) rfl ?_))));clear S;intro a S
  refine lv S (Rm (S.tm rfl)) rfl ?_;clear S;intro a S
  refine lv S (Rm (S.tm rfl)) rfl ?_;clear S;intro a S
  obtain ⟨r3, hr3, h⟩ := bindE h
  refine l_enter1 0 S (b := O) rfl rfl (fun _ => .blk O [U, iV r3.2] 25) (fun _ => run_call (vs := [.pointer (some ⟨O, 0, none⟩), iV Ap, iV Am]) ⟨(S.tm rfl), (S.tm rfl), (S.tm rfl), trivial⟩ Tryz.call40) (Stream_Range_ok _ O U Af (Ag.mono (S.le_arg (fp_sub (i := 0) (e := .blk O [U, iV r1.2] 25) rfl))) r1.2 (S.holds _ (List.mem_of_getElem? (i := 0) rfl)) Ap Am _ hr3) rfl (fun _ _ _ h => ⟨h.1, fun _ hc => by cases hc;rfl⟩) ?_;clear S;intro v3 a w4 hv3 hk4 hn3 S
  replace hv3 := hv3.2
  subst hv3
  refine lv S (Ra (S.tm rfl)) rfl ?_;clear S;intro a S
  refine Ld (Tn (wp_ret ?_))
  obtain rfl := Option.some.inj h
  exact f_ret S Tryz.results17 rfl ⟨(S.holds _ (List.mem_of_getElem? (i := 0) rfl)), rfl⟩
theorem Stream_Items_ok (w : World) (O : Nat) (U : Value) (Af : List Int) (Ag : Slc (view w [O]) 1 U (Af.map eInt)) (Z : Int) (Aq : (LEnt.blk O [U, iV Z] 25).holds w) (Ac : Int) (r : (List GItem) × Int) (h : Stream_Items Af Z Ac = some r) :
    Calls Tryz.prog 4 [.pointer (some ⟨O, 0, none⟩), iV Ac].toArray w (Ret w [O] fun τ v w' => (LEnt.blk O [U, iV r.2] 25).holds w' ∧ OwnV τ 38 5 v r.1.length (r.1.flatMap GItem.enc)) := by
 refine f_enter [O] [.blk O [U, iV Z] 25] Tryz.func4 rfl Tryz.ntmps4 rfl (fun e he => by simp only [List.mem_singleton] at he;subst he;exact Aq) (by simp [fps, LEnt.fp]) (by simp [fps, LEnt.fp]) fun a S => ?_
 unfold Stream_Items at h
 replace S := S.nk [.blk O [U, iV Z] 25] [(0, .pointer (some ⟨O, 0, none⟩)), (1, iV Ac)] [true] rfl (subR rfl)
 refine Fs (Fg (lv S (Ra rfl) rfl ?_));clear S;intro a S
 refine Ld (Tn (Fs (Fg (lv S (Rm (S.tm rfl)) rfl ?_))));clear S;intro a S
 refine lv S (Rm (S.tm rfl)) rfl ?_;clear S;intro a S
 obtain ⟨r1, hr1, h⟩ := bindE h
 have hz1 := S.keep.size
 refine l_enter1 0 S (b := O) rfl rfl (fun _ => .blk O [U, iV r1.2] 25) (fun _ => run_call (vs := [.pointer (some ⟨O, 0, none⟩), iV Ac]) ⟨(S.tm rfl), (S.tm rfl), trivial⟩ Tryz.call13) (Stream_RightItems_ok _ O U Af (Ag.mono (S.le_arg (fp_sub (i := 0) (e := .blk O [U, iV Z] 25) rfl))) Z (S.holds _ (List.mem_of_getElem? (i := 0) rfl)) Ac _ hr1) rfl (fun _ _ _ h => ⟨h.1, fun _ hc => by cases hc;rfl⟩) ?_;clear S;intro v1 a w1 hv1 hk1 hn1 S
 replace hv1 := hv1.2
 replace S := S.take hn1 hz1 hv1
 refine lv S (Ra (S.tm rfl)) rfl ?_;clear S;intro a S
 refine Ld (Tn (Fs (Fs (Fg (lv S (Rm (S.tm rfl)) rfl ?_)))));clear S;intro a S
 refine lv S (rn_lenT sl_26 (S.tm rfl) (own_len (S.own_at (i := 0) rfl))) rfl ?_;clear S;intro a S
 refine lv S (rn_gtr (S.tm rfl) rfl) rfl ?_;clear S;intro a S
 refine lv S (Rm (S.tm rfl)) rfl ?_;clear S;intro a S
 obtain ⟨j1, hj1, h⟩ := joinE h
 refine f_cutm 3 (fun a w' => ∃ x1 : Int, ∃ x2 : Bool, j1 x1 x2 = some r ∧ Sx w [O] nov [.own v1 38 5 r1.1.length (r1.1.flatMap GItem.enc), .blk O [U, iV x1] 25] [(0, .pointer (some ⟨O, 0, none⟩)), (5, v1), (16, bV x2)] 54 a w') ?_ ?_
 ·rcases Bool.eq_false_or_eq_true (decide (0 < (r1.1.length : Int))) with hb1 | hb1
  ·replace h := iteT h hb1
   refine l_want S rfl rfl rfl hb1 (lv S (Rm (S.tm rfl)) rfl ?_);clear S;intro a S
   refine l_want S rfl rfl rfl hb1 ?_
   obtain ⟨r2, hr2, h⟩ := bindE h
   refine l_enter1 1 S (b := O) rfl rfl (fun _ => .blk O [U, iV r2.2] 25) (fun _ => run_call (vs := [.pointer (some ⟨O, 0, none⟩), iV 15]) ⟨(S.tm rfl), rfl, trivial⟩ Tryz.call14) (Stream_Flip_ok _ O U Af (Ag.mono (S.le_arg (fp_sub (i := 1) (e := .blk O [U, iV r1.2] 25) rfl))) r1.2 (S.holds _ (List.mem_of_getElem? (i := 1) rfl)) 15 _ hr2) rfl (fun _ _ _ h => ⟨h.1, fun _ hc => by cases hc;rfl⟩) ?_;clear S;intro v2 a w3 hv2 hk2 hn2 S
   replace hv2 := hv2.2
   subst hv2
   refine lv S (rn_pick_b hb1 (S.tm rfl) (S.tm rfl)) rfl ?_;clear S;intro a S
   refine Ld (Tn ?_)
   exact ⟨r2.2, r2.1, h, S.nf [true, true] rfl (subR rfl)⟩
  ·replace h := iteF h hb1
   refine l_skip S rfl rfl rfl (neq_f hb1) rfl ?_ rfl;clear S;intro a S
   refine l_skip S rfl rfl rfl (neq_f hb1) rfl ?_ rfl;clear S;intro a S
   refine lv S (rn_pick_c hb1 (S.tm rfl) rfl) rfl ?_;clear S;intro a S
   refine Ld (Tn ?_)
   exact ⟨r1.2, false, h, S.nf [true, true] rfl (subR rfl)⟩
 clear S h;rintro a w2 ⟨x1, x2, h, S⟩;rw [hj1] at h;clear hj1 j1
 refine Ld (Tn ?_)
 obtain ⟨j2, hj2, h⟩ := joinE h
 refine f_join (fun a w' => ∃ x3 : List GItem, ∃ x4 : Int, j2 x3 x4 = some r ∧ Sx w [O] nov [.own v1 38 5 x3.length (x3.flatMap GItem.enc), .blk O [U, iV x4] 25] [(5, v1)] 54 a w') ?_ ?_
 ·refine f_cond (S.tm rfl) (fun hb2 => ?_) (fun hb2 => ?_)
  ·replace h := iteT h hb2
   refine Fs (Fg (lv S (Rm (S.tm rfl)) rfl ?_));clear S;intro a S
   refine lv S (Rm (S.tm rfl)) rfl ?_;clear S;intro a S
   refine lv S (Rm (S.tm rfl)) rfl ?_;clear S;intro a S
   refine lv S (rn_lenT sl_26 (S.tm rfl) (own_len (S.own_at (i := 0) rfl))) rfl ?_;clear S;intro a S
   obtain ⟨r3, hr3, h⟩ := bindE h
   refine l_enter1 1 S (b := O) rfl rfl (fun _ => .blk O [U, iV r3.2] 25) (fun _ => run_call (vs := [.pointer (some ⟨O, 0, none⟩), iV (r1.1.length : Int)]) ⟨(S.tm rfl), (S.tm rfl), trivial⟩ Tryz.call15) (Stream_Next_ok _ O U Af (Ag.mono (S.le_arg (fp_sub (i := 1) (e := .blk O [U, iV x1] 25) rfl))) x1 (S.holds _ (List.mem_of_getElem? (i := 1) rfl)) (r1.1.length : Int) _ hr3) rfl (fun _ _ _ h => ⟨h.1, fun _ hc => by cases hc;rfl⟩) ?_;clear S;intro v3 a w5 hv3 hk3 hn3 S
   replace hv3 := hv3.2
   subst hv3
   obtain ⟨hc1, h⟩ := chkE h
   obtain ⟨b1, hg1, hr4⟩ := rn_indexS (a := a) (x := .tmp 17) (y := .tmp 21) (ty := 0) sl_26 GItem.enc_ok S (i := 0) rfl (inB_get hc1).1 (inB_get hc1).2 (S.tm rfl) (S.tm rfl)
   refine lv S (hr4 _) rfl ?_;clear S;intro a S
   clear hr4
   refine lv S (Ra (S.tm rfl)) rfl ?_;clear S;intro a S
   refine Ld (Tn (Fg (lv S (Rm (S.tm rfl)) rfl ?_)));clear S;intro a S
   iterate 6 (refine lv S (Rm (S.tm rfl)) rfl ?_;clear S;intro a S)
   refine lv S (rn_nilCheck (S.tm rfl)) rfl ?_;clear S;intro a S
   refine lv S (rn_fld fa_38_0 (S.tm rfl)) rfl ?_;clear S;intro a S
   refine lv S (rn_ld Tryz.isAgg9 (off := r3.1.toNat * 5) (o := 0) (S.tm rfl) (own_cells GItem.enc_ok S (i := 0) rfl hg1 (inB_get hc1).1) rfl) rfl ?_;clear S;intro a S
   refine l_buildSlice S Tryz.underlying64 Tryz.sizeOf9 Tryz.zeroValue9 rfl rfl (pv := [(0, sV ((nth r1.1 r3.1).Key)), (1, sV k_empty), (2, sV k_ia)]) ⟨rfl, (S.tm rfl), rfl, rfl, rfl, rfl, trivial⟩ (cs := [sV ((nth r1.1 r3.1).Key), sV k_empty, sV k_ia]) (by kernel_rfl) rfl ?_;clear S;intro a w6 b2 hz2 hk4 S
   obtain ⟨r4, hr5, h⟩ := bindE h
   refine l_enter1 2 S (b := O) rfl rfl (fun _ => .blk O [U, iV r4.2] 25) (fun _ => run_call (vs := [.pointer (some ⟨O, 0, none⟩), .slice (some ⟨b2, 0, none⟩) 3 3]) ⟨(S.tm rfl), (S.tm rfl), trivial⟩ Tryz.call16) (Stream_Some_ok _ O U Af (Ag.mono (S.le_arg (fp_sub (i := 2) (e := .blk O [U, iV r3.2] 25) rfl))) r3.2 (S.holds _ (List.mem_of_getElem? (i := 2) rfl)) (.slice (some ⟨b2, 0, none⟩) 3 3) [(nth r1.1 r3.1).Key, k_empty, k_ia] (lit_slcT enc_str S (i := 0) rfl rfl rfl rfl ((ne_fp (i := 2) (j := 0) (e := .blk O [U, iV r3.2] 25) (e' := .blk b2 [sV ((nth r1.1 r3.1).Key), sV k_empty, sV k_ia] 9) S rfl rfl rfl) _ rfl)) _ hr5) rfl (fun _ _ _ h => ⟨h.1, fun _ hc => by cases hc;rfl⟩) ?_;clear S;intro v4 a w7 hv4 hk5 hn4 S
   replace hv4 := hv4.2
   subst hv4
   refine lv S (Rm (S.tm rfl)) rfl ?_;clear S;intro a S
   obtain ⟨r5, hr6, h⟩ := bindE h
   refine l_enter1 2 S (b := O) rfl rfl (fun _ => .blk O [U, iV r5.2] 25) (fun _ => run_call (vs := [.pointer (some ⟨O, 0, none⟩), iV 1, iV 60]) ⟨(S.tm rfl), rfl, rfl, trivial⟩ Tryz.call17) (Stream_Odd_ok _ O U Af (Ag.mono (S.le_arg (fp_sub (i := 2) (e := .blk O [U, iV r4.2] 25) rfl))) r4.2 (S.holds _ (List.mem_of_getElem? (i := 2) rfl)) 1 60 _ hr6) rfl (fun _ _ _ h => ⟨h.1, fun _ hc => by cases hc;rfl⟩) ?_;clear S;intro v5 a w8 hv5 hk6 hn5 S
   replace hv5 := hv5.2
   subst hv5
   refine lv S (Rm (S.tm rfl)) rfl ?_;clear S;intro a S
   obtain ⟨r6, hr7, h⟩ := bindE h
   refine l_enter1 2 S (b := O) rfl rfl (fun _ => .blk O [U, iV r6.2] 25) (fun _ => run_call (vs := [.pointer (some ⟨O, 0, none⟩), iV 1, iV 100]) ⟨(S.tm rfl), rfl, rfl, trivial⟩ Tryz.call17) (Stream_Odd_ok _ O U Af (Ag.mono (S.le_arg (fp_sub (i := 2) (e := .blk O [U, iV r5.2] 25) rfl))) r5.2 (S.holds _ (List.mem_of_getElem? (i := 2) rfl)) 1 100 _ hr7) rfl (fun _ _ _ h => ⟨h.1, fun _ hc => by cases hc;rfl⟩) ?_;clear S;intro v6 a w9 hv6 hk7 hn6 S
   replace hv6 := hv6.2
   subst hv6
   refine lv S (Rm (S.tm rfl)) rfl ?_;clear S;intro a S
   obtain ⟨r7, hr8, h⟩ := bindE h
   refine l_enter1 2 S (b := O) rfl rfl (fun _ => .blk O [U, iV r7.2] 25) (fun _ => run_call (vs := [.pointer (some ⟨O, 0, none⟩), iV 0, iV 100]) ⟨(S.tm rfl), rfl, rfl, trivial⟩ Tryz.call17) (Stream_Odd_ok _ O U Af (Ag.mono (S.le_arg (fp_sub (i := 2) (e := .blk O [U, iV r6.2] 25) rfl))) r6.2 (S.holds _ (List.mem_of_getElem? (i := 2) rfl)) 0 100 _ hr8) rfl (fun _ _ _ h => ⟨h.1, fun _ hc => by cases hc;rfl⟩) ?_;clear S;intro v7 a w10 hv7 hk8 hn7 S
   replace hv7 := hv7.2
   subst hv7
   refine lv S (Rm (S.tm rfl)) rfl ?_;clear S;intro a S
   obtain ⟨r8, hr9, h⟩ := bindE h
   refine l_enter1 2 S (b := O) rfl rfl (fun _ => .blk O [U, iV r8.2] 25) (fun _ => run_call (vs := [.pointer (some ⟨O, 0, none⟩), iV 0, iV 100]) ⟨(S.tm rfl), rfl, rfl, trivial⟩ Tryz.call17) (Stream_Odd_ok _ O U Af (Ag.mono (S.le_arg (fp_sub (i := 2) (e := .blk O [U, iV r7.2] 25) rfl))) r7.2 (S.holds _ (List.mem_of_getElem? (i := 2) rfl)) 0 100 _ hr9) rfl (fun _ _ _ h => ⟨h.1, fun _ hc => by cases hc;rfl⟩) ?_;clear S;intro v8 a w11 hv8 hk9 hn8 S
   replace hv8 := hv8.2
   subst hv8
   refine lv S (rn_nilCheck (S.tm rfl)) rfl ?_;clear S;intro a S
   refine lv S (rn_fld fa_38_0 (S.tm rfl)) rfl ?_;clear S;intro a S
   refine l_storeO (c := 0) (j := r3.1.toNat) (GItem.mk r4.1 ((nth r1.1 r3.1).Heats) ((nth r1.1 r3.1).Long) ((nth r1.1 r3.1).Gap) ((nth r1.1 r3.1).Break)) GItem.enc_ok S (S.tm rfl) (S.tm rfl) (i := 1) rfl hg1 (inB_get hc1).1 Tryz.sizeOf9 (vs := [sV r4.1]) rfl rfl rfl rfl rfl ?_;clear S;intro w13 hk11 S
   refine lv S (rn_nilCheck (S.tm rfl)) rfl ?_;clear S;intro a S
   refine lv S (rn_fld fa_38_1 (S.tm rfl)) rfl ?_;clear S;intro a S
   refine l_storeO (c := 1) (j := r3.1.toNat) (GItem.mk r4.1 r5.1 ((nth r1.1 r3.1).Long) ((nth r1.1 r3.1).Gap) ((nth r1.1 r3.1).Break)) GItem.enc_ok S (S.tm rfl) (S.tm rfl) (i := 1) rfl hg1 (get_set (inB_get hc1).1) Tryz.sizeOf3 (vs := [iV r5.1]) rfl rfl rfl rfl rfl ?_;clear S;intro w15 hk13 S
   refine lv S (rn_nilCheck (S.tm rfl)) rfl ?_;clear S;intro a S
   refine lv S (rn_fld fa_38_2 (S.tm rfl)) rfl ?_;clear S;intro a S
   refine l_storeO (c := 2) (j := r3.1.toNat) (GItem.mk r4.1 r5.1 r6.1 ((nth r1.1 r3.1).Gap) ((nth r1.1 r3.1).Break)) GItem.enc_ok S (S.tm rfl) (S.tm rfl) (i := 1) rfl hg1 (get_set (get_set (inB_get hc1).1)) Tryz.sizeOf3 (vs := [iV r6.1]) rfl rfl rfl rfl rfl ?_;clear S;intro w17 hk15 S
   refine lv S (rn_nilCheck (S.tm rfl)) rfl ?_;clear S;intro a S
   refine lv S (rn_fld fa_38_3 (S.tm rfl)) rfl ?_;clear S;intro a S
   refine l_storeO (c := 3) (j := r3.1.toNat) (GItem.mk r4.1 r5.1 r6.1 r7.1 ((nth r1.1 r3.1).Break)) GItem.enc_ok S (S.tm rfl) (S.tm rfl) (i := 1) rfl hg1 (get_set (get_set (get_set (inB_get hc1).1))) Tryz.sizeOf3 (vs := [iV r7.1]) rfl rfl rfl rfl rfl ?_;clear S;intro w19 hk17 S
   refine lv S (rn_nilCheck (S.tm rfl)) rfl ?_;clear S;intro a S
   refine lv S (rn_fld fa_38_4 (S.tm rfl)) rfl ?_;clear S;intro a S
   refine l_storeO (c := 4) (j := r3.1.toNat) (GItem.mk r4.1 r5.1 r6.1 r7.1 r8.1) GItem.enc_ok S (S.tm rfl) (S.tm rfl) (i := 1) rfl hg1 (get_set (get_set (get_set (get_set (inB_get hc1).1)))) Tryz.sizeOf3 (vs := [iV r8.1]) rfl rfl rfl rfl rfl ?_;clear S;intro w21 hk19 S
   refine Ld ?_
   replace S := S.nk [.own v1 38 5 (((((r1.1.set r3.1.toNat (GItem.mk r4.1 ((nth r1.1 r3.1).Heats) ((nth r1.1 r3.1).Long) ((nth r1.1 r3.1).Gap) ((nth r1.1 r3.1).Break))).set r3.1.toNat (GItem.mk r4.1 r5.1 ((nth r1.1 r3.1).Long) ((nth r1.1 r3.1).Gap) ((nth r1.1 r3.1).Break))).set r3.1.toNat (GItem.mk r4.1 r5.1 r6.1 ((nth r1.1 r3.1).Gap) ((nth r1.1 r3.1).Break))).set r3.1.toNat (GItem.mk r4.1 r5.1 r6.1 r7.1 ((nth r1.1 r3.1).Break))).set r3.1.toNat (GItem.mk r4.1 r5.1 r6.1 r7.1 r8.1)).length ((((((r1.1.set r3.1.toNat (GItem.mk r4.1 ((nth r1.1 r3.1).Heats) ((nth r1.1 r3.1).Long) ((nth r1.1 r3.1).Gap) ((nth r1.1 r3.1).Break))).set r3.1.toNat (GItem.mk r4.1 r5.1 ((nth r1.1 r3.1).Long) ((nth r1.1 r3.1).Gap) ((nth r1.1 r3.1).Break))).set r3.1.toNat (GItem.mk r4.1 r5.1 r6.1 ((nth r1.1 r3.1).Gap) ((nth r1.1 r3.1).Break))).set r3.1.toNat (GItem.mk r4.1 r5.1 r6.1 r7.1 ((nth r1.1 r3.1).Break))).set r3.1.toNat (GItem.mk r4.1 r5.1 r6.1 r7.1 r8.1)).flatMap GItem.enc), .blk O [U, iV r8.2] 25] [(5, v1)] [false, true, true] rfl ⟨rfl, trivial⟩
   refine Tn ?_
   exact ⟨(((((r1.1.set r3.1.toNat (GItem.mk r4.1 ((nth r1.1 r3.1).Heats) ((nth r1.1 r3.1).Long) ((nth r1.1 r3.1).Gap) ((nth r1.1 r3.1).Break))).set r3.1.toNat (GItem.mk r4.1 r5.1 ((nth r1.1 r3.1).Long) ((nth r1.1 r3.1).Gap) ((nth r1.1 r3.1).Break))).set r3.1.toNat (GItem.mk r4.1 r5.1 r6.1 ((nth r1.1 r3.1).Gap) ((nth r1.1 r3.1).Break))).set r3.1.toNat (GItem.mk r4.1 r5.1 r6.1 r7.1 ((nth r1.1 r3.1).Break))).set r3.1.toNat (GItem.mk r4.1 r5.1 r6.1 r7.1 r8.1)), r8.2, h, S.nf [true, true] rfl ⟨rfl, trivial⟩⟩
  ·replace h := iteF h hb2
   refine wp_skip (Tn ?_)
   exact ⟨r1.1, x1, h, S.nf [true, true] rfl ⟨rfl, trivial⟩⟩
 clear S h;rintro a w4 ⟨x3, x4, h, S⟩;rw [hj2] at h;clear hj2 j2
 refine Tn (Fs (Fg (lv S (Rm (S.tm rfl)) rfl ?_)));clear S;intro a S
 refine lv S (Ra (S.tm rfl)) rfl ?_;clear S;intro a S
 refine Ld (Tn (wp_ret ?_))
 obtain rfl := Option.some.inj h
 exact f_ret S Tryz.results4 rfl ⟨(S.holds _ (List.mem_of_getElem? (i := 1) rfl)), (own_retX S (i := 0) rfl (fun c hc hh => not_fps S (i := 1) rfl rfl (j := 0) rfl rfl (by simp at hc;subst hc;exact hh)))⟩
theorem strconv_Itoa_ok (w : World) (n : Int) (hg_pow10 : Glob (view w []) 0 pow10Cells) (r : ByteArray) (h : strconv_Itoa n = some r) : Calls Tryz.prog 22 [iV n].toArray w (Ret w [] fun _ v _ => v = .string r) := by
  unfold strconv_Itoa at h
  obtain ⟨hc, h⟩ := chkE h
  simp only [Bool.and_eq_true, decide_eq_true_eq] at hc
  obtain rfl := Option.some.inj h
  exact ret_of_grow (Any.strconv_Itoa Tryz.lays171 n hc.1 hc.2 w (hg_pow10.tab (by kernel_rfl)))
theorem strings_Join_ok (w : World) (v_xs : Value) (xs : List ByteArray) (hs_xs : Slc (view w []) 1 v_xs (xs.map eStr)) (sep : ByteArray) (r : ByteArray) (h : strings_Join xs sep = some r) : Calls Tryz.prog 48 [v_xs, sV sep].toArray w (Ret w [] fun _ v _ => v = .string r) := by
  unfold strings_Join at h
  obtain ⟨hc, h⟩ := chkE h
  simp only [Bool.and_eq_true, decide_eq_true_eq] at hc
  obtain rfl := Option.some.inj h
  exact join_ret Tryz.lays156 Tryz.bx156 v_xs xs sep w hs_xs hc.1 hc.2
theorem tumbref2_numbers_ok (w : World) (V : Value) (Aa : List Int) (Ae : Slc (view w []) 1 V (Aa.map eInt)) (hg_pow10 : Glob (view w []) 0 pow10Cells) (r : ByteArray) (h : tumbref2_numbers Aa = some r) :
    Calls Tryz.prog 28 [V].toArray w (Ret w [] fun _ v _ => v = sV r) := by
 refine f_enter [] [] Tryz.func28 rfl Tryz.ntmps28 rfl (by simp) (by simp [fps]) (by simp [fps]) fun a S => ?_
 unfold tumbref2_numbers at h
 replace S := S.nk [] [(0, V)] [] rfl ⟨rfl, trivial⟩
 refine Fs (Fg (lv S (Ra rfl) rfl ?_));clear S;intro a S
 refine Ld (Tn (Fs (Fg (lv S (Ra rfl) rfl ?_))));clear S;intro a S
 replace S := S.nil 9 1
 refine Ld (Tn (Fs (Fs (Fg (lv S (Rm (S.tm rfl)) rfl ?_)))));clear S;intro a S
 refine lv S (rn_lenT sl_22 (S.tm rfl) (slc_len Ae)) rfl ?_;clear S;intro a S
 refine lv S (Rm rfl) rfl ?_;clear S;intro a S
 refine Ld (Tn ?_)
 replace S := S.nk [.own (.slice none 0 0) 9 1 ([] : List ByteArray).length (([] : List ByteArray).flatMap eStr)] [(3, (.slice none 0 0)), (6, V), (7, iV (Aa.length : Int)), (8, iV 0)] [true] rfl (subR rfl)
 obtain ⟨j1, hj1, h⟩ := joinE h
 refine f_join (fun a w' => ∃ x1 : List ByteArray, ∃ v1 : Value, j1 x1 = some r ∧ Sx w [] nov [.own v1 9 1 x1.length (x1.flatMap eStr)] [(3, v1)] 20 a w') ?_ ?_
 ·refine wp_block (f_loop (fun (ys1 : List Int) a w' => ∃ i1 : Nat, ∃ x1 : List ByteArray, ∃ v1 : Value, (∃ dn, Aa = dn ++ ys1 ∧ dn.length = i1) ∧ tumbref2_numbers_l1 j1 ys1 i1 x1 = some r ∧ Sx w [] nov [.own v1 9 1 x1.length (x1.flatMap eStr)] [(3, v1), (6, V), (7, iV (Aa.length : Int)), (8, iV (i1 : Int))] 20 a w') List.length Aa ⟨0, ([] : List ByteArray), (.slice none 0 0), ⟨[], rfl, rfl⟩, h, S.nf [true] rfl (subR rfl)⟩ ?_)
  clear S h;rintro ys1 a w1 ⟨i1, x1, v1, ⟨dn, hd1, hi1⟩, h, S⟩
  cases ys1 with
  | nil =>
   rw [tumbref2_numbers_l1.eq_1] at h
   refine Fs (Fg (lv S (rn_lss (S.tm rfl) (S.tm rfl)) rfl ?_));clear S;intro a S
   refine Ld ?_
   replace S := S.nk [.own v1 9 1 x1.length (x1.flatMap eStr)] [(3, v1), (6, V), (7, iV (Aa.length : Int)), (8, iV (i1 : Int)), (9, bV (decide ((i1 : Int) < (Aa.length : Int))))] [true] rfl (subR rfl)
   refine Tn (Fs (wp_cond_false ((S.tm rfl).trans (congrArg Value.bool (rng_nil hd1 hi1))) (wp_exit (then_x (then_x (x_same ?_))))))
   refine Tn ?_
   exact ⟨x1, v1, h, S.nf [true] rfl ⟨rfl, trivial⟩⟩
  | cons y1 ys1 =>
   rw [tumbref2_numbers_l1.eq_2] at h
   refine Fs (Fg (lv S (rn_lss (S.tm rfl) (S.tm rfl)) rfl ?_));clear S;intro a S
   refine Ld ?_
   replace S := S.nk [.own v1 9 1 x1.length (x1.flatMap eStr)] [(3, v1), (6, V), (7, iV (Aa.length : Int)), (8, iV (i1 : Int)), (9, bV (decide ((i1 : Int) < (Aa.length : Int))))] [true] rfl (subR rfl)
   refine Tn (Fs (wp_cond_true ((S.tm rfl).trans (congrArg Value.bool (rng_cons hd1 hi1))) (wp_skip (Tn (Fs (wp_block ?_))))))
   refine Fs (Fg ?_)
   obtain ⟨b1, o1, hm1, hr1⟩ := rn_indexT (a := a) (x := .tmp 6) (y := .tmp 8) (ty := 0) sl_22 Ae (get_mid hd1 hi1) rfl (S.tm rfl) (S.tm rfl)
   refine lv S (hr1 _) rfl ?_;clear S;intro a S
   clear hr1
   refine lv S (rn_ld Tryz.isAgg3 (off := o1) (o := 0) (S.tm rfl) (hm1.at S.emb0) rfl) rfl ?_;clear S;intro a S
   refine lv S (Ra (S.tm rfl)) rfl ?_;clear S;intro a S
   refine Ld (Tn (Fg (lv S (Rm (S.tm rfl)) rfl ?_)));clear S;intro a S
   refine lv S (Rm (S.tm rfl)) rfl ?_;clear S;intro a S
   obtain ⟨r1, hr2, h⟩ := bindE h
   refine l_enter S (fun _ => run_call (vs := [iV y1]) ⟨(S.tm rfl), trivial⟩ Tryz.call22) (strconv_Itoa_ok _ y1 (hg_pow10.mono (S.le_arg nil_sub)) _ hr2) rfl ?_;clear S;intro v2 a w3 hv1 hk1 hn1 S
   subst hv1
   refine l_buildSlice S Tryz.underlying64 Tryz.sizeOf9 Tryz.zeroValue9 rfl rfl (pv := [(0, sV r1)]) ⟨rfl, (S.tm rfl), trivial⟩ (cs := [sV r1]) (by kernel_rfl) rfl ?_;clear S;intro a w4 b2 hz1 hk2 S
   obtain ⟨hc1, h⟩ := chkE h
   refine l_appendT sl_64 enc_str S (S.tm rfl) (i := 1) rfl (S.tm rfl) (j := 0) rfl (ys := [r1]) rfl rfl rfl rfl (by have := room_lt hc1;omega) rfl ?_;clear S;intro v3 a w5 hk3 S
   refine lv S (Ra (S.tm rfl)) rfl ?_;clear S;intro a S
   refine Ld (blk_n (Tn (Fg (lv S (rn_add (S.tm rfl) rfl) rfl ?_))));clear S;intro a S
   refine lv S (Rm (S.tm rfl)) rfl ?_;clear S;intro a S
   refine Ld (Tn ?_)
   exact ⟨ys1, ⟨i1 + 1, (x1 ++ [r1]), v3, ⟨_, (hd1).trans (List.append_cons _ _ _), by simp [hi1]⟩, h, S.nf [false, true] rfl ⟨rfl, rfl, rfl, (congrArg (fun z => some (Value.int .i64 z)) (rng_next hd1 hi1 (slc_max Ae))), trivial⟩⟩, Nat.lt_succ_self _⟩
 clear S h;rintro a w2 ⟨x1, v1, h, S⟩;rw [hj1] at h;clear hj1 j1
 refine Tn (Fs (Fg (lv S (Rm (S.tm rfl)) rfl ?_)));clear S;intro a S
 obtain ⟨r2, hr3, h⟩ := bindE h
 refine l_enter S (fun _ => run_call (vs := [v1, sV k__20]) ⟨(S.tm rfl), rfl, trivial⟩ Tryz.call48) (strings_Join_ok _ v1 x1 (own_slcT enc_str S (i := 0) rfl (ne_nil (e' := .own v1 9 1 x1.length (x1.flatMap eStr)))) k__20 _ hr3) rfl ?_;clear S;intro v4 a w6 hv2 hk4 hn2 S
 subst hv2
 refine lv S (Ra (S.tm rfl)) rfl ?_;clear S;intro a S
 refine Ld (Tn (wp_ret ?_))
 obtain rfl := Option.some.inj h
 exact f_ret S Tryz.results28 rfl rfl
set_option maxRecDepth 20000 in
theorem tumbref2_ItemLines_ok (w : World) (V : Value) (Aa : List GItem) (Ae : Slc (view w []) 5 V (Aa.map GItem.enc)) (hg_pow10 : Glob (view w []) 0 pow10Cells) (r : ByteArray) (h : tumbref2_ItemLines Aa = some r) :
    Calls Tryz.prog 8 [V].toArray w (Ret w [] fun _ v _ => v = sV r) := by
 refine f_enter [] [] Tryz.func8 rfl Tryz.ntmps8 rfl (by simp) (by simp [fps]) (by simp [fps]) fun a S => ?_
 unfold tumbref2_ItemLines at h
 replace S := S.nk [] [(0, V)] [] rfl ⟨rfl, trivial⟩
 refine Fs (Fg (lv S (Ra rfl) rfl ?_));clear S;intro a S
 refine Ld (Tn (Fs (Fg (lv S (Ra rfl) rfl ?_))));clear S;intro a S
 refine Ld (Tn (Fs (Fs (Fg (lv S (Rm (S.tm rfl)) rfl ?_)))));clear S;intro a S
 refine lv S (rn_lenT sl_26 (S.tm rfl) (slc_len Ae)) rfl ?_;clear S;intro a S
 refine lv S (Rm rfl) rfl ?_;clear S;intro a S
 refine Ld (Tn ?_)
 replace S := S.nk [] [(3, sV k_empty), (6, V), (7, iV (Aa.length : Int)), (8, iV 0)] [] rfl (subR rfl)
 obtain ⟨j1, hj1, h⟩ := joinE h
 refine f_join (fun a w' => ∃ x1 : ByteArray, j1 x1 = some r ∧ Sx w [] nov [] [(3, sV x1)] 31 a w') ?_ ?_
 ·refine wp_block (f_loop (fun (ys1 : List GItem) a w' => ∃ i1 : Nat, ∃ x1 : ByteArray, (∃ dn, Aa = dn ++ ys1 ∧ dn.length = i1) ∧ tumbref2_ItemLines_l1 j1 ys1 i1 x1 = some r ∧ Sx w [] nov [] [(3, sV x1), (6, V), (7, iV (Aa.length : Int)), (8, iV (i1 : Int))] 31 a w') List.length Aa ⟨0, k_empty, ⟨[], rfl, rfl⟩, h, S.nf [] rfl (subR rfl)⟩ ?_)
  clear S h;rintro ys1 a w1 ⟨i1, x1, ⟨dn, hd1, hi1⟩, h, S⟩
  cases ys1 with
  | nil =>
   rw [tumbref2_ItemLines_l1.eq_1] at h
   refine Fs (Fg (lv S (rn_lss (S.tm rfl) (S.tm rfl)) rfl ?_));clear S;intro a S
   refine Ld ?_
   replace S := S.nk [] [(3, sV x1), (6, V), (7, iV (Aa.length : Int)), (8, iV (i1 : Int)), (9, bV (decide ((i1 : Int) < (Aa.length : Int))))] [] rfl (subR rfl)
   refine Tn (Fs (wp_cond_false ((S.tm rfl).trans (congrArg Value.bool (rng_nil hd1 hi1))) (wp_exit (then_x (then_x (x_same ?_))))))
   refine Tn ?_
   exact ⟨x1, h, S.nf [] rfl ⟨rfl, trivial⟩⟩
  | cons y1 ys1 =>
   rw [tumbref2_ItemLines_l1.eq_2] at h
   refine Fs (Fg (lv S (rn_lss (S.tm rfl) (S.tm rfl)) rfl ?_));clear S;intro a S
   refine Ld ?_
   replace S := S.nk [] [(3, sV x1), (6, V), (7, iV (Aa.length : Int)), (8, iV (i1 : Int)), (9, bV (decide ((i1 : Int) < (Aa.length : Int))))] [] rfl (subR rfl)
   refine Tn (Fs (wp_cond_true ((S.tm rfl).trans (congrArg Value.bool (rng_cons hd1 hi1))) (wp_skip (Tn (Fs (wp_block ?_))))))
   refine Fs (Fg ?_)
   obtain ⟨b1, o1, hm1, hr1⟩ := rn_indexT (a := a) (x := .tmp 6) (y := .tmp 8) (ty := 0) sl_26 Ae (get_mid hd1 hi1) rfl (S.tm rfl) (S.tm rfl)
   refine lv S (hr1 _) rfl ?_;clear S;intro a S
   clear hr1
   refine lv S (rn_ldA Tryz.isAgg38 Tryz.sizeOf38 (off := o1) (o := 0) (part := (GItem.enc y1)) rfl rfl (S.tm rfl) (hm1.at S.emb0)) rfl ?_;clear S;intro a S
   refine l_alloc S Tryz.zeroValue38 (cs := [sV k_empty, iV 0, iV 0, iV 0, iV 0]) rfl rfl ?_;clear S;intro a w3 b2 hz1 hk1 S
   refine l_store S (S.tm rfl) (S.tm rfl) (i := 0) (off := 0) rfl Tryz.sizeOf38 (vs := (GItem.enc y1)) rfl rfl rfl rfl ?_;clear S;intro w4 hk2 S
   refine Ld (Tn ?_)
   obtain ⟨hc1, h⟩ := chkE h
   obtain ⟨r1, hr2, h⟩ := bindE h
   refine d_region [] ([]) Tryz.mixed S rfl (by kernel_rfl) ?_;clear S;intro w7 hk5 hsel S
   refine d_quiet 0 S hsel rfl rfl rfl (by kernel_rfl) (by kernel_rfl) rfl (fun _ hw => (Rm (S.tm rfl))) ?_;clear S;intro a S
   refine d_quiet 1 S hsel rfl rfl rfl (by kernel_rfl) (by kernel_rfl) rfl (fun _ hw => (rn_fld fa_38_0 (S.tm rfl))) ?_;clear S;intro a S
   refine d_quiet 2 S hsel rfl rfl rfl (by kernel_rfl) (by kernel_rfl) rfl (fun _ hw => (rn_ld Tryz.isAgg9 (off := 0) (o := 0) (S.tm rfl) ((S.blk_mem (i := 0) (cells := (GItem.enc y1)) (b := b2) (T := 38) rfl (ne_nil (e' := .blk b2 (GItem.enc y1) 38))).kept hw) rfl)) ?_;clear S;intro a S
   refine d_quiet 3 S hsel rfl rfl rfl (by kernel_rfl) (by kernel_rfl) rfl (fun _ hw => (rn_sadd (m := y1.Key) (n := k__20) (S.tm rfl) rfl (by have := room_lt hc1;omega))) ?_;clear S;intro a S
   refine d_quiet 4 S hsel rfl rfl rfl (by kernel_rfl) (by kernel_rfl) rfl (fun _ hw => (rn_fld fa_38_1 (S.tm rfl))) ?_;clear S;intro a S
   refine d_quiet 5 S hsel rfl rfl rfl (by kernel_rfl) (by kernel_rfl) rfl (fun _ hw => (rn_ld Tryz.isAgg3 (off := 0) (o := 1) (S.tm rfl) ((S.blk_mem (i := 0) (cells := (GItem.enc y1)) (b := b2) (T := 38) rfl (ne_nil (e' := .blk b2 (GItem.enc y1) 38))).kept hw) rfl)) ?_;clear S;intro a S
   refine d_quiet 6 S hsel rfl rfl rfl (by kernel_rfl) (by kernel_rfl) rfl (fun _ hw => (rn_fld fa_38_2 (S.tm rfl))) ?_;clear S;intro a S
   refine d_quiet 7 S hsel rfl rfl rfl (by kernel_rfl) (by kernel_rfl) rfl (fun _ hw => (rn_ld Tryz.isAgg3 (off := 0) (o := 2) (S.tm rfl) ((S.blk_mem (i := 0) (cells := (GItem.enc y1)) (b := b2) (T := 38) rfl (ne_nil (e' := .blk b2 (GItem.enc y1) 38))).kept hw) rfl)) ?_;clear S;intro a S
   refine d_quiet 8 S hsel rfl rfl rfl (by kernel_rfl) (by kernel_rfl) rfl (fun _ hw => (rn_fld fa_38_3 (S.tm rfl))) ?_;clear S;intro a S
   refine d_quiet 9 S hsel rfl rfl rfl (by kernel_rfl) (by kernel_rfl) rfl (fun _ hw => (rn_ld Tryz.isAgg3 (off := 0) (o := 3) (S.tm rfl) ((S.blk_mem (i := 0) (cells := (GItem.enc y1)) (b := b2) (T := 38) rfl (ne_nil (e' := .blk b2 (GItem.enc y1) 38))).kept hw) rfl)) ?_;clear S;intro a S
   refine d_quiet 10 S hsel rfl rfl rfl (by kernel_rfl) (by kernel_rfl) rfl (fun _ hw => (rn_fld fa_38_4 (S.tm rfl))) ?_;clear S;intro a S
   refine d_quiet 11 S hsel rfl rfl rfl (by kernel_rfl) (by kernel_rfl) rfl (fun _ hw => (rn_ld Tryz.isAgg3 (off := 0) (o := 4) (S.tm rfl) ((S.blk_mem (i := 0) (cells := (GItem.enc y1)) (b := b2) (T := 38) rfl (ne_nil (e' := .blk b2 (GItem.enc y1) 38))).kept hw) rfl)) ?_;clear S;intro a S
   refine d_loud1 12 (by kernel_rfl) rfl (l_buildSlice S Tryz.underlying22 Tryz.sizeOf3 Tryz.zeroValue3 rfl rfl (pv := [(0, iV y1.Heats), (1, iV y1.Long), (2, iV y1.Gap), (3, iV y1.Break)]) ⟨rfl, (S.tm rfl), rfl, (S.tm rfl), rfl, (S.tm rfl), rfl, (S.tm rfl), trivial⟩ (cs := [iV y1.Heats, iV y1.Long, iV y1.Gap, iV y1.Break]) (by kernel_rfl) rfl ?_);clear S;intro a w8 b4 hz3 hk6 S
   refine Ld (d_next hk6 (d_loud1 13 (by kernel_rfl) rfl (l_enter S (fun _ => run_call (vs := [.slice (some ⟨b4, 0, none⟩) 4 4]) ⟨(S.tm rfl), trivial⟩ Tryz.call28) (tumbref2_numbers_ok _ (.slice (some ⟨b4, 0, none⟩) 4 4) [y1.Heats, y1.Long, y1.Gap, y1.Break] (lit_slcT enc_int S (i := 0) rfl rfl rfl rfl ((ne_nil (e' := .blk b4 [iV y1.Heats, iV y1.Long, iV y1.Gap, iV y1.Break] 3)) _ rfl)) (hg_pow10.mono (S.le_arg nil_sub)) _ hr2) rfl ?_)));clear S;intro v2 a w9 hv2 hk7 hn2 S
   subst hv2
   refine Ld (d_next hk7 (d_rest [14, 15, 16, 17] hsel (by kernel_rfl) rfl ?_))
   clear hsel
   obtain ⟨hc2, h⟩ := chkE h
   refine s_lv S rfl (rn_sadd (m := (y1.Key ++ k__20)) (n := r1) (S.tm rfl) (S.tm rfl) (by have := room_lt hc2;omega)) rfl ?_;clear S;intro a S
   obtain ⟨hc3, h⟩ := chkE h
   refine s_lv S rfl (rn_sadd (m := ((y1.Key ++ k__20) ++ r1)) (n := k__0a) (S.tm rfl) rfl (by have := room_lt hc3;omega)) rfl ?_;clear S;intro a S
   obtain ⟨hc4, h⟩ := chkE h
   refine s_lv S rfl (rn_sadd (m := x1) (n := (((y1.Key ++ k__20) ++ r1) ++ k__0a)) (S.tm rfl) (S.tm rfl) (by have := room_lt hc4;omega)) rfl ?_;clear S;intro a S
   refine s_lv S rfl (Ra (S.tm rfl)) rfl ?_;clear S;intro a S
   refine s_done ?_
   replace S := S.nk [] [(3, sV (x1 ++ (((y1.Key ++ k__20) ++ r1) ++ k__0a))), (6, V), (7, iV (Aa.length : Int)), (8, iV (i1 : Int))] [false, false] rfl (subR rfl)
   refine blk_n (Tn (Fg (lv S (rn_add (S.tm rfl) rfl) rfl ?_)));clear S;intro a S
   refine lv S (Rm (S.tm rfl)) rfl ?_;clear S;intro a S
   refine Ld (Tn ?_)
   exact ⟨ys1, ⟨i1 + 1, x1 ++ (((y1.Key ++ k__20) ++ r1) ++ k__0a), ⟨_, (hd1).trans (List.append_cons _ _ _), by simp [hi1]⟩, h, S.nf [] rfl ⟨rfl, rfl, rfl, (congrArg (fun z => some (Value.int .i64 z)) (rng_next hd1 hi1 (slc_max Ae))), trivial⟩⟩, Nat.lt_succ_self _⟩
 clear S h;rintro a w2 ⟨x1, h, S⟩;rw [hj1] at h;clear hj1 j1
 refine Tn (Fs (Fg (lv S (Rm (S.tm rfl)) rfl ?_)));clear S;intro a S
 refine lv S (Ra (S.tm rfl)) rfl ?_;clear S;intro a S
 refine Ld (Tn (wp_ret ?_))
 obtain rfl := Option.some.inj h
 exact f_ret S Tryz.results8 rfl rfl
set_option maxRecDepth 20000 in
theorem Stream_Changed_ok (w : World) (O : Nat) (U : Value) (Af : List Int) (Ag : Slc (view w [O]) 1 U (Af.map eInt)) (Z : Int) (Aq : (LEnt.blk O [U, iV Z] 25).holds w) (Aw : ByteArray) (Av : ByteArray) (r : ByteArray × Int) (h : Stream_Changed Af Z Aw Av = some r) :
    Calls Tryz.prog 19 [.pointer (some ⟨O, 0, none⟩), sV Aw, sV Av].toArray w (Ret w [O] fun _ v w' => (LEnt.blk O [U, iV r.2] 25).holds w' ∧ v = sV r.1) := by
 refine f_enter [O] [.blk O [U, iV Z] 25] Tryz.func19 rfl Tryz.ntmps19 rfl (fun e he => by simp only [List.mem_singleton] at he;subst he;exact Aq) (by simp [fps, LEnt.fp]) (by simp [fps, LEnt.fp]) fun a S => ?_
 unfold Stream_Changed at h
 replace S := S.nk [.blk O [U, iV Z] 25] [(0, .pointer (some ⟨O, 0, none⟩)), (1, sV Aw), (2, sV Av)] [true] rfl (subR rfl)
 refine Fs (Fg (lv S (Ra rfl) rfl ?_));clear S;intro a S
 refine Ld (Tn (Fs (Fs (Fg (lv S (Rm (S.tm rfl)) rfl ?_)))));clear S;intro a S
 refine lv S (rn_seql (S.tm rfl) rfl) rfl ?_;clear S;intro a S
 refine lv S (Rm (S.tm rfl)) rfl ?_;clear S;intro a S
 refine f_cutm 3 (fun a w' => Keep [] w w' ∧ Sx w [O] nov [.blk O [U, iV Z] 25] [(0, .pointer (some ⟨O, 0, none⟩)), (1, sV Aw), (2, sV Av), (14, bV ((decide (Aw = k_empty)) || (decide (Av = k_empty))))] 63 a w') ?_ ?_
 ·rcases Bool.eq_false_or_eq_true (decide (Aw = k_empty)) with hb1 | hb1
  ·refine l_skip S rfl rfl rfl (neq_t hb1) rfl ?_ rfl;clear S;intro a S
   refine l_skip S rfl rfl rfl (neq_t hb1) rfl ?_ rfl;clear S;intro a S
   refine lv S (rn_or_t (decide (Av = k_empty)) hb1 (S.tm rfl) rfl) rfl ?_;clear S;intro a S
   refine Ld (Tn ?_)
   exact ⟨Keep.refl _ _, S.nf [true] rfl (subR rfl)⟩
  ·refine l_want S rfl rfl rfl hb1 (lv S (Rm (S.tm rfl)) rfl ?_);clear S;intro a S
   refine l_want S rfl rfl rfl hb1 (lv S (rn_seql (S.tm rfl) rfl) rfl ?_);clear S;intro a S
   refine lv S (rn_or_f hb1 (S.tm rfl) (S.tm rfl)) rfl ?_;clear S;intro a S
   refine Ld (Tn ?_)
   exact ⟨Keep.refl _ _, S.nf [true] rfl (subR rfl)⟩
 clear S;rintro a w1 ⟨hk1, S⟩
 refine Ld (Tn (f_cond (S.tm rfl) (fun hb2 => ?_) (fun hb2 => ?_)))
 ·replace h := iteT h hb2
  refine Fs (Fg (lv S (Rm (S.tm rfl)) rfl ?_));clear S;intro a S
  refine lv S (Ra (S.tm rfl)) rfl ?_;clear S;intro a S
  refine Ld (Tn (wp_ret (then_r ?_)))
  obtain rfl := Option.some.inj h
  exact f_ret S Tryz.results19 rfl ⟨(S.holds _ (List.mem_of_getElem? (i := 0) rfl)), rfl⟩
 ·replace h := iteF h hb2
  refine wp_skip (Tn (Fs (Fg (lv S (Rm (S.tm rfl)) rfl ?_))));clear S;intro a S
  refine lv S (Rm (S.tm rfl)) rfl ?_;clear S;intro a S
  refine lv S (rn_len_str Tryz.underlying9 (S.tm rfl)) rfl ?_;clear S;intro a S
  obtain ⟨r1, hr1, h⟩ := bindE h
  refine l_enter1 0 S (b := O) rfl rfl (fun _ => .blk O [U, iV r1.2] 25) (fun _ => run_call (vs := [.pointer (some ⟨O, 0, none⟩), iV (Aw.size : Int)]) ⟨(S.tm rfl), (S.tm rfl), trivial⟩ Tryz.call15) (Stream_Next_ok _ O U Af (Ag.mono (S.le_arg (fp_sub (i := 0) (e := .blk O [U, iV Z] 25) rfl))) Z (S.holds _ (List.mem_of_getElem? (i := 0) rfl)) (Aw.size : Int) _ hr1) rfl (fun _ _ _ h => ⟨h.1, fun _ hc => by cases hc;rfl⟩) ?_;clear S;intro v1 a w2 hv1 hk2 hn1 S
  replace hv1 := hv1.2
  subst hv1
  refine lv S (Ra (S.tm rfl)) rfl ?_;clear S;intro a S
  refine Ld (Tn (Fs (Fg (lv S (Rm (S.tm rfl)) rfl ?_))));clear S;intro a S
  refine lv S (Rm (S.tm rfl)) rfl ?_;clear S;intro a S
  refine lv S (Rm (S.tm rfl)) rfl ?_;clear S;intro a S
  refine lv S (rn_len_str Tryz.underlying9 (S.tm rfl)) rfl ?_;clear S;intro a S
  obtain ⟨r2, hr2, h⟩ := bindE h
  refine l_enter1 0 S (b := O) rfl rfl (fun _ => .blk O [U, iV r2.2] 25) (fun _ => run_call (vs := [.pointer (some ⟨O, 0, none⟩), iV (Av.size : Int)]) ⟨(S.tm rfl), (S.tm rfl), trivial⟩ Tryz.call15) (Stream_Next_ok _ O U Af (Ag.mono (S.le_arg (fp_sub (i := 0) (e := .blk O [U, iV r1.2] 25) rfl))) r1.2 (S.holds _ (List.mem_of_getElem? (i := 0) rfl)) (Av.size : Int) _ hr2) rfl (fun _ _ _ h => ⟨h.1, fun _ hc => by cases hc;rfl⟩) ?_;clear S;intro v2 a w3 hv2 hk3 hn2 S
  replace hv2 := hv2.2
  subst hv2
  obtain ⟨hc1, h⟩ := chkE h
  refine lv S (rn_sindexT Tryz.underlying9 (S.tm rfl) (S.tm rfl) hc1) rfl ?_;clear S;intro a S
  refine lv S (Ra (S.tm rfl)) rfl ?_;clear S;intro a S
  refine Ld ?_
  replace S := S.nk [.blk O [U, iV r2.2] 25] [(0, .pointer (some ⟨O, 0, none⟩)), (1, sV Aw), (7, iV r1.1), (8, .int .u8 (sbyte Av r2.1))] [true] rfl (subR rfl)
  refine Tn (Fs (Fs (Fg (lv S (Rm (S.tm rfl)) rfl ?_))));clear S;intro a S
  obtain ⟨r3, hr3, h⟩ := bindE h
  refine l_enter1 0 S (b := O) rfl rfl (fun _ => .blk O [U, iV r3.2] 25) (fun _ => run_call (vs := [.pointer (some ⟨O, 0, none⟩), iV 3]) ⟨(S.tm rfl), rfl, trivial⟩ Tryz.call15) (Stream_Next_ok _ O U Af (Ag.mono (S.le_arg (fp_sub (i := 0) (e := .blk O [U, iV r2.2] 25) rfl))) r2.2 (S.holds _ (List.mem_of_getElem? (i := 0) rfl)) 3 _ hr3) rfl (fun _ _ _ h => ⟨h.1, fun _ hc => by cases hc;rfl⟩) ?_;clear S;intro v3 a w4 hv3 hk4 hn3 S
  replace hv3 := hv3.2
  subst hv3
  refine Ld (Tn (wp_block (Fs (Fg (lv S (rn_eql (S.tm rfl) rfl) rfl ?_)))));clear S;intro a S
  refine lv S (Ra (S.tm rfl)) rfl ?_;clear S;intro a S
  refine Ld (Tn (f_cond (S.tm rfl) (fun hb3 => ?_) (fun hb3 => ?_)))
  ·replace h := iteT h hb3
   refine Fs (d_region [] ([]) Tryz.mixed S rfl (by kernel_rfl) ?_);clear S;intro w5 hk5 hsel S
   refine d_rest [0, 1, 2, 3, 4, 5, 6, 7, 8, 9, 10, 11, 12] hsel (by kernel_rfl) rfl ?_
   clear hsel
   refine s_lv S rfl (Rm (S.tm rfl)) rfl ?_;clear S;intro a S
   refine s_lv S rfl (Rm (S.tm rfl)) rfl ?_;clear S;intro a S
   obtain ⟨hc2, h⟩ := chkE h
   refine s_lv S rfl (rn_scutTh Tryz.underlying9 (S.tm rfl) (S.tm rfl) hc2) rfl ?_;clear S;intro a S
   refine s_lv S rfl (Rm (S.tm rfl)) rfl ?_;clear S;intro a S
   refine s_lv S rfl (rn_conv Tryz.underlying5 Tryz.underlying21 (S.tm rfl)) rfl ?_;clear S;intro a S
   refine s_lv S rfl (rn_runestr Tryz.underlying21 Tryz.underlying9 (S.tm rfl)) rfl ?_;clear S;intro a S
   obtain ⟨hc3, h⟩ := chkE h
   refine s_lv S rfl (rn_sadd (m := (scut Aw 0 r1.1)) (n := (Utf8.encode (IntKind.wrap .i32 (sbyte Av r2.1)))) (S.tm rfl) (S.tm rfl) (by have := room_lt hc3;omega)) rfl ?_;clear S;intro a S
   refine s_lv S rfl (Rm (S.tm rfl)) rfl ?_;clear S;intro a S
   refine s_lv S rfl (Rm (S.tm rfl)) rfl ?_;clear S;intro a S
   refine s_lv S rfl (rn_add (S.tm rfl) rfl) rfl ?_;clear S;intro a S
   obtain ⟨hc4, h⟩ := chkE h
   refine s_lv S rfl (rn_scutTl Tryz.underlying9 (S.tm rfl) (S.tm rfl) hc4) rfl ?_;clear S;intro a S
   obtain ⟨hc5, h⟩ := chkE h
   refine s_lv S rfl (rn_sadd (m := ((scut Aw 0 r1.1) ++ (Utf8.encode (IntKind.wrap .i32 (sbyte Av r2.1))))) (n := (scut Aw (W (r1.1 + 1)) Aw.size)) (S.tm rfl) (S.tm rfl) (by have := room_lt hc5;omega)) rfl ?_;clear S;intro a S
   refine s_lv S rfl (Ra (S.tm rfl)) rfl ?_;clear S;intro a S
   refine s_done ?_
   replace S := S.nk [.blk O [U, iV r3.2] 25] [(6, sV (((scut Aw 0 r1.1) ++ (Utf8.encode (IntKind.wrap .i32 (sbyte Av r2.1)))) ++ (scut Aw (W (r1.1 + 1)) Aw.size)))] [true] rfl ⟨rfl, trivial⟩
   refine Tn (wp_ret (blk_r (then_r ?_)))
   obtain rfl := Option.some.inj h
   exact f_ret S Tryz.results19 rfl ⟨(S.holds _ (List.mem_of_getElem? (i := 0) rfl)), rfl⟩
  ·replace h := iteF h hb3
   refine Fs (Fg (lv S (rn_eql (S.tm rfl) rfl) rfl ?_));clear S;intro a S
   refine lv S (Ra (S.tm rfl)) rfl ?_;clear S;intro a S
   refine Ld (Tn (f_cond (S.tm rfl) (fun hb4 => ?_) (fun hb4 => ?_)))
   ·replace h := iteT h hb4
    refine Fs (d_region [] ([]) Tryz.mixed S rfl (by kernel_rfl) ?_);clear S;intro w6 hk6 hsel S
    refine d_rest [0, 1, 2, 3, 4, 5, 6, 7, 8, 9, 10, 11] hsel (by kernel_rfl) rfl ?_
    clear hsel
    refine s_lv S rfl (Rm (S.tm rfl)) rfl ?_;clear S;intro a S
    refine s_lv S rfl (Rm (S.tm rfl)) rfl ?_;clear S;intro a S
    obtain ⟨hc6, h⟩ := chkE h
    refine s_lv S rfl (rn_scutTh Tryz.underlying9 (S.tm rfl) (S.tm rfl) hc6) rfl ?_;clear S;intro a S
    refine s_lv S rfl (Rm (S.tm rfl)) rfl ?_;clear S;intro a S
    refine s_lv S rfl (rn_conv Tryz.underlying5 Tryz.underlying21 (S.tm rfl)) rfl ?_;clear S;intro a S
    refine s_lv S rfl (rn_runestr Tryz.underlying21 Tryz.underlying9 (S.tm rfl)) rfl ?_;clear S;intro a S
    obtain ⟨hc7, h⟩ := chkE h
    refine s_lv S rfl (rn_sadd (m := (scut Aw 0 r1.1)) (n := (Utf8.encode (IntKind.wrap .i32 (sbyte Av r2.1)))) (S.tm rfl) (S.tm rfl) (by have := room_lt hc7;omega)) rfl ?_;clear S;intro a S
    refine s_lv S rfl (Rm (S.tm rfl)) rfl ?_;clear S;intro a S
    refine s_lv S rfl (Rm (S.tm rfl)) rfl ?_;clear S;intro a S
    obtain ⟨hc8, h⟩ := chkE h
    refine s_lv S rfl (rn_scutTl Tryz.underlying9 (S.tm rfl) (S.tm rfl) hc8) rfl ?_;clear S;intro a S
    obtain ⟨hc9, h⟩ := chkE h
    refine s_lv S rfl (rn_sadd (m := ((scut Aw 0 r1.1) ++ (Utf8.encode (IntKind.wrap .i32 (sbyte Av r2.1))))) (n := (scut Aw r1.1 Aw.size)) (S.tm rfl) (S.tm rfl) (by have := room_lt hc9;omega)) rfl ?_;clear S;intro a S
    refine s_lv S rfl (Ra (S.tm rfl)) rfl ?_;clear S;intro a S
    refine s_done ?_
    replace S := S.nk [.blk O [U, iV r3.2] 25] [(6, sV (((scut Aw 0 r1.1) ++ (Utf8.encode (IntKind.wrap .i32 (sbyte Av r2.1)))) ++ (scut Aw r1.1 Aw.size)))] [true] rfl ⟨rfl, trivial⟩
    refine Tn (wp_ret (blk_r (then_r ?_)))
    obtain rfl := Option.some.inj h
    exact f_ret S Tryz.results19 rfl ⟨(S.holds _ (List.mem_of_getElem? (i := 0) rfl)), rfl⟩
   ·replace h := iteF h hb4
    refine wp_skip (blk_n (Tn (Fs (d_region [] ([]) Tryz.mixed S rfl (by kernel_rfl) ?_))));clear S;intro w7 hk7 hsel S
    refine d_rest [0, 1, 2, 3, 4, 5, 6, 7, 8] hsel (by kernel_rfl) rfl ?_
    clear hsel
    refine s_lv S rfl (Rm (S.tm rfl)) rfl ?_;clear S;intro a S
    refine s_lv S rfl (Rm (S.tm rfl)) rfl ?_;clear S;intro a S
    obtain ⟨hc10, h⟩ := chkE h
    refine s_lv S rfl (rn_scutTh Tryz.underlying9 (S.tm rfl) (S.tm rfl) hc10) rfl ?_;clear S;intro a S
    refine s_lv S rfl (Rm (S.tm rfl)) rfl ?_;clear S;intro a S
    refine s_lv S rfl (Rm (S.tm rfl)) rfl ?_;clear S;intro a S
    refine s_lv S rfl (rn_add (S.tm rfl) rfl) rfl ?_;clear S;intro a S
    obtain ⟨hc11, h⟩ := chkE h
    refine s_lv S rfl (rn_scutTl Tryz.underlying9 (S.tm rfl) (S.tm rfl) hc11) rfl ?_;clear S;intro a S
    obtain ⟨hc12, h⟩ := chkE h
    refine s_lv S rfl (rn_sadd (m := (scut Aw 0 r1.1)) (n := (scut Aw (W (r1.1 + 1)) Aw.size)) (S.tm rfl) (S.tm rfl) (by have := room_lt hc12;omega)) rfl ?_;clear S;intro a S
    refine s_lv S rfl (Ra (S.tm rfl)) rfl ?_;clear S;intro a S
    refine s_done ?_
    replace S := S.nk [.blk O [U, iV r3.2] 25] [(6, sV ((scut Aw 0 r1.1) ++ (scut Aw (W (r1.1 + 1)) Aw.size)))] [true] rfl ⟨rfl, trivial⟩
    refine Tn (wp_ret ?_)
    obtain rfl := Option.some.inj h
    exact f_ret S Tryz.results19 rfl ⟨(S.holds _ (List.mem_of_getElem? (i := 0) rfl)), rfl⟩
theorem Stream_ItemText_ok (w : World) (O : Nat) (U : Value) (Af : List Int) (Ag : Slc (view w [O]) 1 U (Af.map eInt)) (Z : Int) (Aq : (LEnt.blk O [U, iV Z] 25).holds w) (hg_pow10 : Glob (view w [O]) 0 pow10Cells) (r : ByteArray × Int) (h : Stream_ItemText Af Z = some r) :
    Calls Tryz.prog 5 [.pointer (some ⟨O, 0, none⟩)].toArray w (Ret w [O] fun _ v w' => (LEnt.blk O [U, iV r.2] 25).holds w' ∧ v = sV r.1) := by
 refine f_enter [O] [.blk O [U, iV Z] 25] Tryz.func5 rfl Tryz.ntmps5 rfl (fun e he => by simp only [List.mem_singleton] at he;subst he;exact Aq) (by simp [fps, LEnt.fp]) (by simp [fps, LEnt.fp]) fun a S => ?_
 unfold Stream_ItemText at h
 replace S := S.nk [.blk O [U, iV Z] 25] [(0, .pointer (some ⟨O, 0, none⟩))] [true] rfl ⟨rfl, trivial⟩
 refine Fs (Fg (lv S (Ra rfl) rfl ?_));clear S;intro a S
 refine Ld (Tn (Fs (Fg (lv S (Rm (S.tm rfl)) rfl ?_))));clear S;intro a S
 obtain ⟨r1, hr1, h⟩ := bindE h
 have hz1 := S.keep.size
 refine l_enter1 0 S (b := O) rfl rfl (fun _ => .blk O [U, iV r1.2] 25) (fun _ => run_call (vs := [.pointer (some ⟨O, 0, none⟩), iV 3]) ⟨(S.tm rfl), rfl, trivial⟩ Tryz.call13) (Stream_RightItems_ok _ O U Af (Ag.mono (S.le_arg (fp_sub (i := 0) (e := .blk O [U, iV Z] 25) rfl))) Z (S.holds _ (List.mem_of_getElem? (i := 0) rfl)) 3 _ hr1) rfl (fun _ _ _ h => ⟨h.1, fun _ hc => by cases hc;rfl⟩) ?_;clear S;intro v1 a w1 hv1 hk1 hn1 S
 replace hv1 := hv1.2
 obtain ⟨φ1, hl1, hm1, S⟩ := S.see' hn1 hz1
 have hs1 := hv1.mono hm1
 obtain ⟨r2, hr2, h⟩ := bindE h
 refine l_enter S (fun _ => run_call (vs := [v1]) ⟨(S.tm rfl), trivial⟩ Tryz.call8) (tumbref2_ItemLines_ok _ v1 r1.1 ((ownV_slcT GItem.enc_ok hs1).mono (S.le_new nil_sub)) (hg_pow10.mono (S.le_arg nil_sub)) _ hr2) rfl ?_;clear S;intro v2 a w2 hv2 hk2 hn2 S
 subst hv2
 refine lv S (Ra (S.tm rfl)) rfl ?_;clear S;intro a S
 refine Ld (Tn (Fs (Fs (Fg (lv S (Rm (S.tm rfl)) rfl ?_)))));clear S;intro a S
 refine l_buildSlice S Tryz.underlying22 Tryz.sizeOf3 Tryz.zeroValue3 rfl rfl (pv := [(0, iV 0), (1, iV 0), (2, iV 1), (3, iV 2)]) ⟨rfl, rfl, rfl, rfl, rfl, rfl, rfl, rfl, trivial⟩ (cs := [iV 0, iV 0, iV 1, iV 2]) (by kernel_rfl) rfl ?_;clear S;intro a w3 b1 hz2 hk3 S
 obtain ⟨r3, hr3, h⟩ := bindE h
 refine l_enter1 1 S (b := O) rfl rfl (fun _ => .blk O [U, iV r3.2] 25) (fun _ => run_call (vs := [.pointer (some ⟨O, 0, none⟩), .slice (some ⟨b1, 0, none⟩) 4 4]) ⟨(S.tm rfl), (S.tm rfl), trivial⟩ Tryz.call18) (Stream_Pick_ok _ O U Af (Ag.mono (S.le_arg (fp_sub (i := 1) (e := .blk O [U, iV r1.2] 25) rfl))) r1.2 (S.holds _ (List.mem_of_getElem? (i := 1) rfl)) (.slice (some ⟨b1, 0, none⟩) 4 4) [0, 0, 1, 2] (lit_slcT enc_int S (i := 0) rfl rfl rfl rfl ((ne_fp (i := 1) (j := 0) (e := .blk O [U, iV r1.2] 25) (e' := .blk b1 [iV 0, iV 0, iV 1, iV 2] 3) S rfl rfl rfl) _ rfl)) _ hr3) rfl (fun _ _ _ h => ⟨h.1, fun _ hc => by cases hc;rfl⟩) ?_;clear S;intro v3 a w4 hv3 hk4 hn3 S
 replace hv3 := hv3.2
 subst hv3
 refine lv S (Rm rfl) rfl ?_;clear S;intro a S
 refine Ld (Tn ?_)
 replace S := S.nk [.blk O [U, iV r3.2] 25] [(0, .pointer (some ⟨O, 0, none⟩)), (3, sV r2), (9, iV r3.1), (10, iV 0)] [false, true] rfl (subR rfl)
 obtain ⟨j1, hj1, h⟩ := joinE h
 refine f_join (fun a w' => ∃ x1 : Int, ∃ x2 : ByteArray, j1 x1 x2 = some r ∧ Sx w [O] φ1 [.blk O [U, iV x1] 25] [(3, sV x2)] 17 a w') ?_ ?_
 ·refine wp_block (f_loop (fun (m1 : Nat) a w' => ∃ x1 : Int, ∃ x2 : ByteArray, ∃ x3 : Int, Stream_ItemText_l1 r3 Af j1 m1 x1 x2 x3 = some r ∧ Sx w [O] φ1 [.blk O [U, iV x1] 25] [(0, .pointer (some ⟨O, 0, none⟩)), (3, sV x2), (9, iV r3.1), (10, iV x3)] 17 a w') id ((r3.1 - 0).toNat + 2) ⟨r3.2, r2, 0, h, S.nf [true] rfl (subR rfl)⟩ ?_)
  clear S h;rintro m1 a w5 ⟨x1, x2, x3, h, S⟩
  cases m1 with
  | zero => rw [Stream_ItemText_l1.eq_1] at h;cases h
  | succ m1 =>
   rw [Stream_ItemText_l1.eq_2] at h
   refine Fs (Fg (lv S (rn_lss (S.tm rfl) (S.tm rfl)) rfl ?_));clear S;intro a S
   refine Ld (Tn (Fs (f_cond (S.tm rfl) (fun hb1 => ?_) (fun hb1 => ?_))))
   ·replace h := iteT h hb1
    refine wp_skip (Tn (Fs (wp_block (Fg (lv S (Rm (S.tm rfl)) rfl ?_)))));clear S;intro a S
    refine lv S (Rm (S.tm rfl)) rfl ?_;clear S;intro a S
    obtain ⟨r4, hr4, h⟩ := bindE h
    refine l_enter1 0 S (b := O) rfl rfl (fun _ => .blk O [U, iV r4.2] 25) (fun _ => run_call (vs := [.pointer (some ⟨O, 0, none⟩), sV x2, sV k__20_0a0_2d9ia]) ⟨(S.tm rfl), (S.tm rfl), rfl, trivial⟩ Tryz.call19) (Stream_Changed_ok _ O U Af (Ag.mono (S.le_arg (fp_sub (i := 0) (e := .blk O [U, iV x1] 25) rfl))) x1 (S.holds _ (List.mem_of_getElem? (i := 0) rfl)) x2 k__20_0a0_2d9ia _ hr4) rfl (fun _ _ _ h => ⟨h.1, fun _ hc => by cases hc;rfl⟩) ?_;clear S;intro v4 a w7 hv4 hk5 hn4 S
    replace hv4 := hv4.2
    subst hv4
    refine lv S (Ra (S.tm rfl)) rfl ?_;clear S;intro a S
    refine Ld (blk_n (Tn (Fg (lv S (rn_add (S.tm rfl) rfl) rfl ?_))));clear S;intro a S
    refine lv S (Rm (S.tm rfl)) rfl ?_;clear S;intro a S
    refine Ld (Tn ?_)
    exact ⟨m1, ⟨r4.2, r4.1, W (x3 + 1), h, S.nf [true] rfl ⟨rfl, rfl, rfl, rfl, trivial⟩⟩, Nat.lt_succ_self _⟩
   ·replace h := iteF h hb1
    refine wp_exit (then_x (then_x (x_same (Tn ?_))))
    exact ⟨x1, x2, h, S.nf [true] rfl ⟨rfl, trivial⟩⟩
 clear S h;rintro a w6 ⟨x1, x2, h, S⟩;rw [hj1] at h;clear hj1 j1
 refine Tn (Fs (Fg (lv S (Rm (S.tm rfl)) rfl ?_)));clear S;intro a S
 refine lv S (Ra (S.tm rfl)) rfl ?_;clear S;intro a S
 refine Ld (Tn (wp_ret ?_))
 obtain rfl := Option.some.inj h
 exact f_ret S Tryz.results5 rfl ⟨(S.holds _ (List.mem_of_getElem? (i := 0) rfl)), rfl⟩
theorem strings_Trim_ok (w : World) (s c : ByteArray) (r : ByteArray) (h : strings_Trim s c = some r) : Calls Tryz.prog 56 [.string s, .string c].toArray w (Ret w [] fun _ v _ => v = .string r) := by
  unfold strings_Trim at h
  obtain ⟨h1, h⟩ := chkE h
  obtain ⟨h2, h⟩ := chkE h
  obtain ⟨h3, h⟩ := chkE h
  obtain rfl := Option.some.inj h
  exact ret_of_below (Any.strings_Trim_laid Tryz.lays160 (by kernel_rfl) s c w (by simpa using h1) (by simpa using h2) (fun j b hb => by simpa using List.all_eq_true.1 h3 b (List.mem_of_getElem? hb)))
theorem words_IsKey_ok (w : World) (Ad : ByteArray) (r : Bool) (h : words_IsKey Ad = some r) :
    Calls Tryz.prog 41 [sV Ad].toArray w (Ret w [] fun _ v _ => v = bV r) := by
 refine f_enter [] [] Tryz.func41 rfl Tryz.ntmps41 rfl (by simp) (by simp [fps]) (by simp [fps]) fun a S => ?_
 unfold words_IsKey at h
 replace S := S.nk [] [(0, sV Ad)] [] rfl ⟨rfl, trivial⟩
 refine Fs (Fg (lv S (Ra rfl) rfl ?_));clear S;intro a S
 refine Ld (Tn (Fs (Fg (lv S (Rm (S.tm rfl)) rfl ?_))));clear S;intro a S
 refine lv S (rn_len_str Tryz.underlying9 (S.tm rfl)) rfl ?_;clear S;intro a S
 refine lv S (rn_geq (S.tm rfl) rfl) rfl ?_;clear S;intro a S
 refine lv S (Rm (S.tm rfl)) rfl ?_;clear S;intro a S
 refine f_cutm 4 (fun a w' => Keep [] w w' ∧ Sx w [] nov [] [(0, sV Ad), (10, bV ((decide (1 ≤ (Ad.size : Int))) && (decide ((Ad.size : Int) ≤ 40))))] 26 a w') ?_ ?_
 ·rcases Bool.eq_false_or_eq_true (decide (1 ≤ (Ad.size : Int))) with hb1 | hb1
  ·refine l_want S rfl rfl rfl hb1 (lv S (Rm (S.tm rfl)) rfl ?_);clear S;intro a S
   refine l_want S rfl rfl rfl hb1 (lv S (rn_len_str Tryz.underlying9 (S.tm rfl)) rfl ?_);clear S;intro a S
   refine l_want S rfl rfl rfl hb1 (lv S (rn_leq (S.tm rfl) rfl) rfl ?_);clear S;intro a S
   refine lv S (rn_and_t hb1 (S.tm rfl) (S.tm rfl)) rfl ?_;clear S;intro a S
   refine Ld (Tn ?_)
   exact ⟨Keep.refl _ _, S.nf [] rfl (subR rfl)⟩
  ·iterate 3 (refine l_skip S rfl rfl rfl (neq_f hb1) rfl ?_ rfl;clear S;intro a S)
   refine lv S (rn_and_f (decide ((Ad.size : Int) ≤ 40)) hb1 (S.tm rfl) rfl) rfl ?_;clear S;intro a S
   refine Ld (Tn ?_)
   exact ⟨Keep.refl _ _, S.nf [] rfl (subR rfl)⟩
 clear S;rintro a w1 ⟨hk1, S⟩
 refine lv S (Rm (S.tm rfl)) rfl ?_;clear S;intro a S
 obtain ⟨j1, hj1, h⟩ := joinE h
 refine f_cutm 4 (fun a w' => ∃ c1, j1 c1 = some r ∧ Keep [] w1 w' ∧ Sx w [] nov [] [(0, sV Ad), (15, bV c1)] 26 a w') ?_ ?_
 ·rcases Bool.eq_false_or_eq_true ((decide (1 ≤ (Ad.size : Int))) && (decide ((Ad.size : Int) ≤ 40))) with hb2 | hb2
  ·replace h := iteT h hb2
   refine l_want S rfl rfl rfl hb2 (lv S (Rm (S.tm rfl)) rfl ?_);clear S;intro a S
   refine l_want S rfl rfl rfl hb2 ?_
   obtain ⟨hc1, h⟩ := chkE h
   refine lv S (rn_sindexT Tryz.underlying9 (S.tm rfl) rfl hc1) rfl ?_;clear S;intro a S
   refine l_want S rfl rfl rfl hb2 (lv S (rn_geq (S.tm rfl) rfl) rfl ?_);clear S;intro a S
   refine lv S (rn_and_t hb2 (S.tm rfl) (S.tm rfl)) rfl ?_;clear S;intro a S
   refine Ld (Tn ?_)
   exact ⟨_, h, Keep.refl _ _, S.nf [] rfl (subR rfl)⟩
  ·replace h := iteF h hb2
   iterate 3 (refine l_skip S rfl rfl rfl (neq_f hb2) rfl ?_ rfl;clear S;intro a S)
   refine lv S (rn_and_f true hb2 (S.tm rfl) rfl) rfl ?_;clear S;intro a S
   refine Ld (Tn ?_)
   exact ⟨_, h, Keep.refl _ _, S.nf [] rfl (subR rfl)⟩
 clear S h;rintro a w2 ⟨c1, h, hk2, S⟩;rw [hj1] at h;clear hj1 j1
 refine lv S (Rm (S.tm rfl)) rfl ?_;clear S;intro a S
 obtain ⟨j2, hj2, h⟩ := joinE h
 refine f_cutm 4 (fun a w' => ∃ c2, j2 c2 = some r ∧ Keep [] w2 w' ∧ Sx w [] nov [] [(0, sV Ad), (20, bV c2)] 26 a w') ?_ ?_
 ·rcases Bool.eq_false_or_eq_true c1 with hb3 | hb3
  ·replace h := iteT h hb3
   refine l_want S rfl rfl rfl hb3 (lv S (Rm (S.tm rfl)) rfl ?_);clear S;intro a S
   refine l_want S rfl rfl rfl hb3 ?_
   obtain ⟨hc2, h⟩ := chkE h
   refine lv S (rn_sindexT Tryz.underlying9 (S.tm rfl) rfl hc2) rfl ?_;clear S;intro a S
   refine l_want S rfl rfl rfl hb3 (lv S (rn_leq (S.tm rfl) rfl) rfl ?_);clear S;intro a S
   refine lv S (rn_and_t hb3 (S.tm rfl) (S.tm rfl)) rfl ?_;clear S;intro a S
   refine Ld (Tn ?_)
   exact ⟨_, h, Keep.refl _ _, S.nf [] rfl (subR rfl)⟩
  ·replace h := iteF h hb3
   iterate 3 (refine l_skip S rfl rfl rfl (neq_f hb3) rfl ?_ rfl;clear S;intro a S)
   refine lv S (rn_and_f true hb3 (S.tm rfl) rfl) rfl ?_;clear S;intro a S
   refine Ld (Tn ?_)
   exact ⟨_, h, Keep.refl _ _, S.nf [] rfl (subR rfl)⟩
 clear S h;rintro a w3 ⟨c2, h, hk3, S⟩;rw [hj2] at h;clear hj2 j2
 refine lv S (Rm (S.tm rfl)) rfl ?_;clear S;intro a S
 obtain ⟨j3, hj3, h⟩ := joinE h
 refine f_cutm 4 (fun a w' => ∃ c3, j3 c3 = some r ∧ Keep [] w3 w' ∧ Sx w [] nov [] [(25, bV c3)] 26 a w') ?_ ?_
 ·rcases Bool.eq_false_or_eq_true c2 with hb4 | hb4
  ·replace h := iteT h hb4
   refine l_want S rfl rfl rfl hb4 (lv S (Rm (S.tm rfl)) rfl ?_);clear S;intro a S
   refine l_want S rfl rfl rfl hb4 ?_
   obtain ⟨r1, hr1, h⟩ := bindE h
   refine l_enter S (fun _ => run_call (vs := [sV Ad, sV k_abcdefghijkl_h0e2e2c]) ⟨(S.tm rfl), rfl, trivial⟩ Tryz.call56) (strings_Trim_ok _ Ad k_abcdefghijkl_h0e2e2c _ hr1) rfl ?_;clear S;intro v1 a w5 hv1 hk4 hn1 S
   subst hv1
   refine l_want S rfl rfl rfl hb4 (lv S (rn_seql (S.tm rfl) rfl) rfl ?_);clear S;intro a S
   refine lv S (rn_and_t hb4 (S.tm rfl) (S.tm rfl)) rfl ?_;clear S;intro a S
   refine Ld (Tn ?_)
   exact ⟨_, h, hk4, S.nf [] rfl ⟨rfl, trivial⟩⟩
  ·replace h := iteF h hb4
   iterate 3 (refine l_skip S rfl rfl rfl (neq_f hb4) rfl ?_ rfl;clear S;intro a S)
   refine lv S (rn_and_f true hb4 (S.tm rfl) rfl) rfl ?_;clear S;intro a S
   refine Ld (Tn ?_)
   exact ⟨_, h, Keep.refl _ _, S.nf [] rfl ⟨rfl, trivial⟩⟩
 clear S h;rintro a w4 ⟨c3, h, hk5, S⟩;rw [hj3] at h;clear hj3 j3
 refine lv S (Ra (S.tm rfl)) rfl ?_;clear S;intro a S
 refine Ld (Tn (wp_ret ?_))
 obtain rfl := Option.some.inj h
 exact f_ret S Tryz.results41 rfl rfl
theorem words_Within_ok (w : World) (Ar : Int) (Ap : Int) (Am : Int) (r : Bool) (h : words_Within Ar Ap Am = r) :
    Calls Tryz.prog 42 [iV Ar, iV Ap, iV Am].toArray w (Ret w [] fun _ v _ => v = bV r) := by
 refine f_enter [] [] Tryz.func42 rfl Tryz.ntmps42 rfl (by simp) (by simp [fps]) (by simp [fps]) fun a S => ?_
 unfold words_Within at h
 replace S := S.nk [] [(0, iV Ar), (1, iV Ap), (2, iV Am)] [] rfl (subR rfl)
 refine Fs (Fg (lv S (Ra rfl) rfl ?_));clear S;intro a S
 refine Ld (Tn (Fs (Fg (lv S (Rm (S.tm rfl)) rfl ?_))));clear S;intro a S
 refine lv S (Rm (S.tm rfl)) rfl ?_;clear S;intro a S
 refine lv S (rn_geq (S.tm rfl) (S.tm rfl)) rfl ?_;clear S;intro a S
 refine lv S (Rm (S.tm rfl)) rfl ?_;clear S;intro a S
 refine f_cutm 4 (fun a w' => Keep [] w w' ∧ Sx w [] nov [] [(14, bV ((decide (Ap ≤ Ar)) && (decide (Ar ≤ Am))))] 15 a w') ?_ ?_
 ·rcases Bool.eq_false_or_eq_true (decide (Ap ≤ Ar)) with hb1 | hb1
  ·refine l_want S rfl rfl rfl hb1 (lv S (Rm (S.tm rfl)) rfl ?_);clear S;intro a S
   refine l_want S rfl rfl rfl hb1 (lv S (Rm (S.tm rfl)) rfl ?_);clear S;intro a S
   refine l_want S rfl rfl rfl hb1 (lv S (rn_leq (S.tm rfl) (S.tm rfl)) rfl ?_);clear S;intro a S
   refine lv S (rn_and_t hb1 (S.tm rfl) (S.tm rfl)) rfl ?_;clear S;intro a S
   refine Ld (Tn ?_)
   exact ⟨Keep.refl _ _, S.nf [] rfl ⟨rfl, trivial⟩⟩
  ·iterate 3 (refine l_skip S rfl rfl rfl (neq_f hb1) rfl ?_ rfl;clear S;intro a S)
   refine lv S (rn_and_f (decide (Ar ≤ Am)) hb1 (S.tm rfl) rfl) rfl ?_;clear S;intro a S
   refine Ld (Tn ?_)
   exact ⟨Keep.refl _ _, S.nf [] rfl ⟨rfl, trivial⟩⟩
 clear S;rintro a w1 ⟨hk1, S⟩
 refine lv S (Ra (S.tm rfl)) rfl ?_;clear S;intro a S
 refine Ld (Tn (wp_ret ?_))
 subst h
 exact f_ret S Tryz.results42 rfl rfl
theorem session_CheckItems_ok (w : World) (V : Value) (Aa : List GItem) (Ae : Slc (view w []) 5 V (Aa.map GItem.enc)) (r : Int) (h : session_CheckItems Aa = some r) :
    Calls Tryz.prog 20 [V].toArray w (Ret w [] fun _ v _ => v = iV r) := by
 refine f_enter [] [] Tryz.func20 rfl Tryz.ntmps20 rfl (by simp) (by simp [fps]) (by simp [fps]) fun a S => ?_
 unfold session_CheckItems at h
 replace S := S.nk [] [(0, V)] [] rfl ⟨rfl, trivial⟩
 refine Fs (Fg (lv S (Ra rfl) rfl ?_));clear S;intro a S
 refine Ld (Tn (Fs (Fs (Fg (lv S (Rm (S.tm rfl)) rfl ?_)))));clear S;intro a S
 refine lv S (rn_lenT sl_26 (S.tm rfl) (slc_len Ae)) rfl ?_;clear S;intro a S
 refine lv S (rn_gtr (S.tm rfl) rfl) rfl ?_;clear S;intro a S
 refine Ld (Tn (f_cond (S.tm rfl) (fun hb1 => ?_) (fun hb1 => ?_)))
 ·replace h := iteT h hb1
  refine Fs (Fg (lv S (Ra rfl) rfl ?_));clear S;intro a S
  refine Ld (Tn (wp_ret (then_r ?_)))
  obtain rfl := Option.some.inj h
  exact f_ret S Tryz.results20 rfl rfl
 ·replace h := iteF h hb1
  refine wp_skip (Tn (Fs (Fg (l_makeMap (κ := ByteArray) (ν := Bool) S rfl Value.string Value.bool ?_))));clear S;intro a w1 b1 hz1 hk1 S
  refine lv S (Ra (S.tm rfl)) rfl ?_;clear S;intro a S
  refine Ld (Tn (Fs (Fs (Fg (lv S (Rm (S.tm rfl)) rfl ?_)))));clear S;intro a S
  refine lv S (rn_lenT sl_26 (S.tm rfl) (slc_len Ae)) rfl ?_;clear S;intro a S
  refine lv S (Rm rfl) rfl ?_;clear S;intro a S
  refine Ld (Tn ?_)
  replace S := S.nk [.map b1 (ments Value.string Value.bool ([] : List (ByteArray × Bool))) ([] : List (ByteArray × Bool)).length] [(3, .map (some b1)), (10, V), (11, iV (Aa.length : Int)), (12, iV 0)] [true] rfl (subR rfl)
  obtain ⟨j1, hj1, h⟩ := joinE h
  refine f_join (fun a w' => ∃ x1 : List (ByteArray × Bool), j1 x1 = some r ∧ Sx w [] nov [.map b1 (ments Value.string Value.bool x1) x1.length] [] 53 a w') ?_ ?_
  ·refine wp_block (f_loop (fun (ys1 : List GItem) a w' => ∃ i1 : Nat, ∃ x1 : List (ByteArray × Bool), (∃ dn, Aa = dn ++ ys1 ∧ dn.length = i1) ∧ session_CheckItems_l1 j1 ys1 i1 x1 = some r ∧ Sx w [] nov [.map b1 (ments Value.string Value.bool x1) x1.length] [(3, .map (some b1)), (10, V), (11, iV (Aa.length : Int)), (12, iV (i1 : Int))] 53 a w') List.length Aa ⟨0, ([] : List (ByteArray × Bool)), ⟨[], rfl, rfl⟩, h, S.nf [true] rfl (subR rfl)⟩ ?_)
   clear S h;rintro ys1 a w2 ⟨i1, x1, ⟨dn, hd1, hi1⟩, h, S⟩
   cases ys1 with
   | nil =>
    rw [session_CheckItems_l1.eq_1] at h
    refine Fs (Fg (lv S (rn_lss (S.tm rfl) (S.tm rfl)) rfl ?_));clear S;intro a S
    refine Ld ?_
    replace S := S.nk [.map b1 (ments Value.string Value.bool x1) x1.length] [(3, .map (some b1)), (10, V), (11, iV (Aa.length : Int)), (12, iV (i1 : Int)), (13, bV (decide ((i1 : Int) < (Aa.length : Int))))] [true] rfl (subR rfl)
    refine Tn (Fs (wp_cond_false ((S.tm rfl).trans (congrArg Value.bool (rng_nil hd1 hi1))) (wp_exit (then_x (then_x (x_same ?_))))))
    refine Tn ?_
    exact ⟨x1, h, S.nf [true] rfl trivial⟩
   | cons y1 ys1 =>
    rw [session_CheckItems_l1.eq_2] at h
    refine Fs (Fg (lv S (rn_lss (S.tm rfl) (S.tm rfl)) rfl ?_));clear S;intro a S
    refine Ld ?_
    replace S := S.nk [.map b1 (ments Value.string Value.bool x1) x1.length] [(3, .map (some b1)), (10, V), (11, iV (Aa.length : Int)), (12, iV (i1 : Int)), (13, bV (decide ((i1 : Int) < (Aa.length : Int))))] [true] rfl (subR rfl)
    refine Tn (Fs (wp_cond_true ((S.tm rfl).trans (congrArg Value.bool (rng_cons hd1 hi1))) (wp_skip (Tn (Fs (wp_block ?_))))))
    refine Fs (Fg ?_)
    obtain ⟨b2, o1, hm1, hr1⟩ := rn_indexT (a := a) (x := .tmp 10) (y := .tmp 12) (ty := 0) sl_26 Ae (get_mid hd1 hi1) rfl (S.tm rfl) (S.tm rfl)
    refine lv S (hr1 _) rfl ?_;clear S;intro a S
    clear hr1
    refine lv S (rn_ldA Tryz.isAgg38 Tryz.sizeOf38 (off := o1) (o := 0) (part := (GItem.enc y1)) rfl rfl (S.tm rfl) (hm1.at S.emb0)) rfl ?_;clear S;intro a S
    refine l_alloc S Tryz.zeroValue38 (cs := [sV k_empty, iV 0, iV 0, iV 0, iV 0]) rfl rfl ?_;clear S;intro a w4 b3 hz2 hk2 S
    refine l_store S (S.tm rfl) (S.tm rfl) (i := 0) (off := 0) rfl Tryz.sizeOf38 (vs := (GItem.enc y1)) rfl rfl rfl rfl ?_;clear S;intro w5 hk3 S
    refine Ld (Tn (Fs (wp_block (Fs (Fg (lv S (rn_fld fa_38_0 (S.tm rfl)) rfl ?_))))));clear S;intro a S
    refine lv S (rn_load Tryz.isAgg9 (S.tm rfl) (S.cell (i := 0) rfl rfl)) rfl ?_;clear S;intro a S
    obtain ⟨r1, hr2, h⟩ := bindE h
    refine l_enter S (fun _ => run_call (vs := [sV y1.Key]) ⟨(S.tm rfl), trivial⟩ Tryz.call41) (words_IsKey_ok _ y1.Key _ hr2) rfl ?_;clear S;intro v1 a w6 hv1 hk4 hn1 S
    subst hv1
    refine lv S (rn_not (S.tm rfl)) rfl ?_;clear S;intro a S
    refine lv S (Ra (S.tm rfl)) rfl ?_;clear S;intro a S
    refine Ld (Tn (f_cond (S.tm rfl) (fun hb2 => ?_) (fun hb2 => ?_)))
    ·replace h := iteT h hb2
     refine Fs (Fg (lv S (Ra rfl) rfl ?_));clear S;intro a S
     refine Ld (Tn (wp_ret (blk_r (then_r (blk_r (then_r ?_))))))
     refine then_r (blk_r (then_r (then_r ?_)))
     obtain rfl := Option.some.inj h
     exact f_ret S Tryz.results20 rfl rfl
    ·replace h := iteF h hb2
     refine Fs (Fg (lv S (Rm (S.tm rfl)) rfl ?_));clear S;intro a S
     refine lv S (rn_fld fa_38_0 (S.tm rfl)) rfl ?_;clear S;intro a S
     refine lv S (rn_load Tryz.isAgg9 (S.tm rfl) (S.cell (i := 0) rfl rfl)) rfl ?_;clear S;intro a S
     refine lv S (rn_lookup (kv := Value.string) (vv := Value.bool) (m := x1) (key := y1.Key) (z := false) (S.map_at (i := 1) rfl) Tryz.underlying73 (keyT_str Tryz.underlying9) Tryz.zeroValue4 (S.tm rfl) (S.tm rfl)) rfl ?_;clear S;intro a S
     refine lv S (Ra (S.tm rfl)) rfl ?_;clear S;intro a S
     refine Ld ?_
     replace S := S.nk [.blk b3 (GItem.enc y1) 38, .map b1 (ments Value.string Value.bool x1) x1.length] [(3, .map (some b1)), (5, .pointer (some ⟨b3, 0, none⟩)), (10, V), (11, iV (Aa.length : Int)), (12, iV (i1 : Int)), (21, bV (mgetD x1 y1.Key false))] [true, true] rfl (subR rfl)
     refine Tn (f_cond (S.tm rfl) (fun hb3 => ?_) (fun hb3 => ?_))
     ·replace h := iteT h hb3
      refine Fs (Fg (lv S (Ra rfl) rfl ?_));clear S;intro a S
      refine Ld (Tn (wp_ret (blk_r (then_r (blk_r (then_r ?_))))))
      refine then_r (blk_r (then_r (then_r ?_)))
      obtain rfl := Option.some.inj h
      exact f_ret S Tryz.results20 rfl rfl
     ·replace h := iteF h hb3
      refine Fs (Fg (lv S (rn_fld fa_38_1 (S.tm rfl)) rfl ?_));clear S;intro a S
      refine lv S (rn_load Tryz.isAgg3 (S.tm rfl) (S.cell (i := 0) rfl rfl)) rfl ?_;clear S;intro a S
      refine l_enter S (fun _ => run_call (vs := [iV y1.Heats, iV 1, iV 60]) ⟨(S.tm rfl), rfl, rfl, trivial⟩ Tryz.call42) (words_Within_ok _ y1.Heats 1 60 _ rfl) rfl ?_;clear S;intro v2 a w7 hv2 hk5 hn2 S
      subst hv2
      refine lv S (rn_not (S.tm rfl)) rfl ?_;clear S;intro a S
      refine lv S (Rm (S.tm rfl)) rfl ?_;clear S;intro a S
      refine f_cutm 5 (fun a w' => Keep [] w7 w' ∧ Sx w [] nov [.blk b3 (GItem.enc y1) 38, .map b1 (ments Value.string Value.bool x1) x1.length] [(3, .map (some b1)), (5, .pointer (some ⟨b3, 0, none⟩)), (10, V), (11, iV (Aa.length : Int)), (12, iV (i1 : Int)), (36, bV ((!(words_Within y1.Heats 1 60)) || (!(words_Within y1.Long 1 3600000))))] 53 a w') ?_ ?_
      ·rcases Bool.eq_false_or_eq_true (!(words_Within y1.Heats 1 60)) with hb4 | hb4
       ·iterate 4 (refine l_skip S rfl rfl rfl (neq_t hb4) rfl ?_ rfl;clear S;intro a S)
        refine lv S (rn_or_t (!(words_Within y1.Long 1 3600000)) hb4 (S.tm rfl) rfl) rfl ?_;clear S;intro a S
        refine Ld (Tn ?_)
        exact ⟨Keep.refl _ _, S.nf [true, true] rfl (subR rfl)⟩
       ·refine l_want S rfl rfl rfl hb4 (lv S (rn_fld fa_38_2 (S.tm rfl)) rfl ?_);clear S;intro a S
        refine l_want S rfl rfl rfl hb4 (lv S (rn_load Tryz.isAgg3 (S.tm rfl) (S.cell (i := 0) rfl rfl)) rfl ?_);clear S;intro a S
        refine l_want S rfl rfl rfl hb4 (l_enter S (fun _ => run_call (vs := [iV y1.Long, iV 1, iV 3600000]) ⟨(S.tm rfl), rfl, rfl, trivial⟩ Tryz.call42) (words_Within_ok _ y1.Long 1 3600000 _ rfl) rfl ?_);clear S;intro v3 a w9 hv3 hk6 hn3 S
        subst hv3
        refine l_want S rfl rfl rfl hb4 (lv S (rn_not (S.tm rfl)) rfl ?_);clear S;intro a S
        refine lv S (rn_or_f hb4 (S.tm rfl) (S.tm rfl)) rfl ?_;clear S;intro a S
        refine Ld (Tn ?_)
        exact ⟨hk6, S.nf [true, true] rfl (subR rfl)⟩
      clear S;rintro a w8 ⟨hk7, S⟩
      refine lv S (Rm (S.tm rfl)) rfl ?_;clear S;intro a S
      refine f_cutm 5 (fun a w' => Keep [] w8 w' ∧ Sx w [] nov [.blk b3 (GItem.enc y1) 38, .map b1 (ments Value.string Value.bool x1) x1.length] [(3, .map (some b1)), (5, .pointer (some ⟨b3, 0, none⟩)), (10, V), (11, iV (Aa.length : Int)), (12, iV (i1 : Int)), (42, bV (((!(words_Within y1.Heats 1 60)) || (!(words_Within y1.Long 1 3600000))) || (!(words_Within y1.Gap 0 3600000))))] 53 a w') ?_ ?_
      ·rcases Bool.eq_false_or_eq_true ((!(words_Within y1.Heats 1 60)) || (!(words_Within y1.Long 1 3600000))) with hb5 | hb5
       ·iterate 4 (refine l_skip S rfl rfl rfl (neq_t hb5) rfl ?_ rfl;clear S;intro a S)
        refine lv S (rn_or_t (!(words_Within y1.Gap 0 3600000)) hb5 (S.tm rfl) rfl) rfl ?_;clear S;intro a S
        refine Ld (Tn ?_)
        exact ⟨Keep.refl _ _, S.nf [true, true] rfl (subR rfl)⟩
       ·refine l_want S rfl rfl rfl hb5 (lv S (rn_fld fa_38_3 (S.tm rfl)) rfl ?_);clear S;intro a S
        refine l_want S rfl rfl rfl hb5 (lv S (rn_load Tryz.isAgg3 (S.tm rfl) (S.cell (i := 0) rfl rfl)) rfl ?_);clear S;intro a S
        refine l_want S rfl rfl rfl hb5 (l_enter S (fun _ => run_call (vs := [iV y1.Gap, iV 0, iV 3600000]) ⟨(S.tm rfl), rfl, rfl, trivial⟩ Tryz.call42) (words_Within_ok _ y1.Gap 0 3600000 _ rfl) rfl ?_);clear S;intro v4 a w11 hv4 hk8 hn4 S
        subst hv4
        refine l_want S rfl rfl rfl hb5 (lv S (rn_not (S.tm rfl)) rfl ?_);clear S;intro a S
        refine lv S (rn_or_f hb5 (S.tm rfl) (S.tm rfl)) rfl ?_;clear S;intro a S
        refine Ld (Tn ?_)
        exact ⟨hk8, S.nf [true, true] rfl (subR rfl)⟩
      clear S;rintro a w10 ⟨hk9, S⟩
      refine lv S (Rm (S.tm rfl)) rfl ?_;clear S;intro a S
      refine f_cutm 5 (fun a w' => Keep [] w10 w' ∧ Sx w [] nov [.blk b3 (GItem.enc y1) 38, .map b1 (ments Value.string Value.bool x1) x1.length] [(3, .map (some b1)), (5, .pointer (some ⟨b3, 0, none⟩)), (10, V), (11, iV (Aa.length : Int)), (12, iV (i1 : Int)), (48, bV ((((!(words_Within y1.Heats 1 60)) || (!(words_Within y1.Long 1 3600000))) || (!(words_Within y1.Gap 0 3600000))) || (!(words_Within y1.Break 0 3600000))))] 53 a w') ?_ ?_
      ·rcases Bool.eq_false_or_eq_true (((!(words_Within y1.Heats 1 60)) || (!(words_Within y1.Long 1 3600000))) || (!(words_Within y1.Gap 0 3600000))) with hb6 | hb6
       ·iterate 4 (refine l_skip S rfl rfl rfl (neq_t hb6) rfl ?_ rfl;clear S;intro a S)
        refine lv S (rn_or_t (!(words_Within y1.Break 0 3600000)) hb6 (S.tm rfl) rfl) rfl ?_;clear S;intro a S
        refine Ld (Tn ?_)
        exact ⟨Keep.refl _ _, S.nf [true, true] rfl (subR rfl)⟩
       ·refine l_want S rfl rfl rfl hb6 (lv S (rn_fld fa_38_4 (S.tm rfl)) rfl ?_);clear S;intro a S
        refine l_want S rfl rfl rfl hb6 (lv S (rn_load Tryz.isAgg3 (S.tm rfl) (S.cell (i := 0) rfl rfl)) rfl ?_);clear S;intro a S
        refine l_want S rfl rfl rfl hb6 (l_enter S (fun _ => run_call (vs := [iV y1.Break, iV 0, iV 3600000]) ⟨(S.tm rfl), rfl, rfl, trivial⟩ Tryz.call42) (words_Within_ok _ y1.Break 0 3600000 _ rfl) rfl ?_);clear S;intro v5 a w13 hv5 hk10 hn5 S
        subst hv5
        refine l_want S rfl rfl rfl hb6 (lv S (rn_not (S.tm rfl)) rfl ?_);clear S;intro a S
        refine lv S (rn_or_f hb6 (S.tm rfl) (S.tm rfl)) rfl ?_;clear S;intro a S
        refine Ld (Tn ?_)
        exact ⟨hk10, S.nf [true, true] rfl (subR rfl)⟩
      clear S;rintro a w12 ⟨hk11, S⟩
      refine lv S (Ra (S.tm rfl)) rfl ?_;clear S;intro a S
      refine Ld (Tn (f_cond (S.tm rfl) (fun hb7 => ?_) (fun hb7 => ?_)))
      ·replace h := iteT h hb7
       refine Fs (Fg (lv S (Ra rfl) rfl ?_));clear S;intro a S
       refine Ld (Tn (wp_ret (blk_r (then_r (blk_r (then_r ?_))))))
       refine then_r (blk_r (then_r (then_r ?_)))
       obtain rfl := Option.some.inj h
       exact f_ret S Tryz.results20 rfl rfl
      ·replace h := iteF h hb7
       refine wp_skip (blk_n (Tn (Fg (lv S (Rm (S.tm rfl)) rfl ?_))));clear S;intro a S
       refine lv S (rn_fld fa_38_0 (S.tm rfl)) rfl ?_;clear S;intro a S
       refine lv S (rn_load Tryz.isAgg9 (S.tm rfl) (S.cell (i := 0) rfl rfl)) rfl ?_;clear S;intro a S
       refine l_mapUpdate (kv := Value.string) (vv := Value.bool) (m := x1) (key := y1.Key) (val := true) S (i := 1) rfl Tryz.underlying73 (keyT_str Tryz.underlying9) (S.tm rfl) (S.tm rfl) rfl ?_;clear S;intro w14 hk12 S
       refine Ld (blk_n (Tn (Fg (lv S (rn_add (S.tm rfl) rfl) rfl ?_))));clear S;intro a S
       refine lv S (Rm (S.tm rfl)) rfl ?_;clear S;intro a S
       refine Ld (Tn ?_)
       exact ⟨ys1, ⟨i1 + 1, (mput x1 y1.Key true), ⟨_, (hd1).trans (List.append_cons _ _ _), by simp [hi1]⟩, h, S.nf [false, true] rfl ⟨rfl, rfl, rfl, (congrArg (fun z => some (Value.int .i64 z)) (rng_next hd1 hi1 (slc_max Ae))), trivial⟩⟩, Nat.lt_succ_self _⟩
  clear S h;rintro a w3 ⟨x1, h, S⟩;rw [hj1] at h;clear hj1 j1
  refine Tn (Fs (Fg (lv S (Ra rfl) rfl ?_)));clear S;intro a S
  refine Ld (Tn (wp_ret ?_))
  obtain rfl := Option.some.inj h
  exact f_ret S Tryz.results20 rfl rfl
theorem session_Text_ok (w : World) (V : Value) (Aa : List GItem) (Ae : Slc (view w []) 5 V (Aa.map GItem.enc)) (hg_pow10 : Glob (view w []) 0 pow10Cells) (r : ByteArray × Int) (h : session_Text Aa = some r) :
    Calls Tryz.prog 6 [V].toArray w (Ret w [] fun _ v _ => v = .tuple #[sV r.1, iV r.2]) := by
 refine f_enter [] [] Tryz.func6 rfl Tryz.ntmps6 rfl (by simp) (by simp [fps]) (by simp [fps]) fun a S => ?_
 unfold session_Text at h
 replace S := S.nk [] [(0, V)] [] rfl ⟨rfl, trivial⟩
 refine Fs (Fg (lv S (Ra rfl) rfl ?_));clear S;intro a S
 refine lv S (Ra rfl) rfl ?_;clear S;intro a S
 refine Ld (Tn (Fs (Fs (Fg (lv S (Rm (S.tm rfl)) rfl ?_)))));clear S;intro a S
 obtain ⟨r1, hr1, h⟩ := bindE h
 refine l_enter S (fun _ => run_call (vs := [V]) ⟨(S.tm rfl), trivial⟩ Tryz.call20) (session_CheckItems_ok _ V Aa (Ae.mono (S.le_arg nil_sub)) _ hr1) rfl ?_;clear S;intro v1 a w1 hv1 hk1 hn1 S
 subst hv1
 refine lv S (Ra (S.tm rfl)) rfl ?_;clear S;intro a S
 refine Ld (Tn (Fs (Fg (lv S (Rm (S.tm rfl)) rfl ?_))));clear S;intro a S
 refine lv S (rn_neq (S.tm rfl) rfl) rfl ?_;clear S;intro a S
 refine Ld (Tn (f_cond (S.tm rfl) (fun hb1 => ?_) (fun hb1 => ?_)))
 ·replace h := iteT h hb1
  refine Fs (Fg (lv S (Rm (S.tm rfl)) rfl ?_));clear S;intro a S
  refine lv S (Ra rfl) rfl ?_;clear S;intro a S
  refine lv S (Ra (S.tm rfl)) rfl ?_;clear S;intro a S
  refine Ld (Tn (wp_ret (then_r ?_)))
  obtain rfl := Option.some.inj h
  exact f_ret2 S Tryz.results6 rfl rfl rfl
 ·replace h := iteF h hb1
  refine wp_skip (Tn (Fs (Fg (l_alloc S Tryz.zeroValue51 (cs := [.pointer none, .slice none 0 0]) rfl rfl ?_))));clear S;intro a w2 b1 hz1 hk2 S
  replace S := S.newB 5
  refine Ld (Tn (Fs (Fs (Fg (lv S (Rm (S.tm rfl)) rfl ?_)))));clear S;intro a S
  refine lv S (rn_lenT sl_26 (S.tm rfl) (slc_len Ae)) rfl ?_;clear S;intro a S
  refine lv S (Rm rfl) rfl ?_;clear S;intro a S
  refine Ld (Tn ?_)
  replace S := S.nk [.ownF (.slice none 0 0) 5 ByteArray.empty.size (Lib.strCells ByteArray.empty), .blk b1 [selfP b1 false, (.slice none 0 0)] 51] [(5, .pointer (some ⟨b1, 0, none⟩)), (15, V), (16, iV (Aa.length : Int)), (17, iV 0)] [true, true] rfl (subR rfl)
  obtain ⟨j1, hj1, h⟩ := joinE h
  refine f_join (fun a w' => ∃ x1 : ByteArray, ∃ x2 : Bool, ∃ v2 : Value, j1 x1 x2 = some r ∧ Sx w [] nov [.ownF v2 5 x1.size (Lib.strCells x1), .blk b1 [selfP b1 x2, v2] 51] [(5, .pointer (some ⟨b1, 0, none⟩))] 48 a w') ?_ ?_
  ·refine wp_block (f_loop (fun (ys1 : List GItem) a w' => ∃ i1 : Nat, ∃ x1 : ByteArray, ∃ x2 : Bool, ∃ v2 : Value, (∃ dn, Aa = dn ++ ys1 ∧ dn.length = i1) ∧ session_Text_l1 j1 ys1 i1 x1 x2 = some r ∧ Sx w [] nov [.ownF v2 5 x1.size (Lib.strCells x1), .blk b1 [selfP b1 x2, v2] 51] [(5, .pointer (some ⟨b1, 0, none⟩)), (15, V), (16, iV (Aa.length : Int)), (17, iV (i1 : Int))] 48 a w') List.length Aa ⟨0, ByteArray.empty, false, (.slice none 0 0), ⟨[], rfl, rfl⟩, h, S.nf [true, true] rfl (subR rfl)⟩ ?_)
   clear S h;rintro ys1 a w3 ⟨i1, x1, x2, v2, ⟨dn, hd1, hi1⟩, h, S⟩
   cases ys1 with
   | nil =>
    rw [session_Text_l1.eq_1] at h
    refine Fs (Fg (lv S (rn_lss (S.tm rfl) (S.tm rfl)) rfl ?_));clear S;intro a S
    refine Ld ?_
    replace S := S.nk [.ownF v2 5 x1.size (Lib.strCells x1), .blk b1 [selfP b1 x2, v2] 51] [(5, .pointer (some ⟨b1, 0, none⟩)), (15, V), (16, iV (Aa.length : Int)), (17, iV (i1 : Int)), (18, bV (decide ((i1 : Int) < (Aa.length : Int))))] [true, true] rfl (subR rfl)
    refine Tn (Fs (wp_cond_false ((S.tm rfl).trans (congrArg Value.bool (rng_nil hd1 hi1))) (wp_exit (then_x (then_x (x_same ?_))))))
    refine Tn ?_
    exact ⟨x1, x2, v2, h, S.nf [true, true] rfl ⟨rfl, trivial⟩⟩
   | cons y1 ys1 =>
    rw [session_Text_l1.eq_2] at h
    refine Fs (Fg (lv S (rn_lss (S.tm rfl) (S.tm rfl)) rfl ?_));clear S;intro a S
    refine Ld ?_
    replace S := S.nk [.ownF v2 5 x1.size (Lib.strCells x1), .blk b1 [selfP b1 x2, v2] 51] [(5, .pointer (some ⟨b1, 0, none⟩)), (15, V), (16, iV (Aa.length : Int)), (17, iV (i1 : Int)), (18, bV (decide ((i1 : Int) < (Aa.length : Int))))] [true, true] rfl (subR rfl)
    refine Tn (Fs (wp_cond_true ((S.tm rfl).trans (congrArg Value.bool (rng_cons hd1 hi1))) (wp_skip (Tn (Fs (wp_block ?_))))))
    refine Fs (Fg ?_)
    obtain ⟨b2, o1, hm1, hr2⟩ := rn_indexT (a := a) (x := .tmp 15) (y := .tmp 17) (ty := 0) sl_26 Ae (get_mid hd1 hi1) rfl (S.tm rfl) (S.tm rfl)
    refine lv S (hr2 _) rfl ?_;clear S;intro a S
    clear hr2
    refine lv S (rn_ldA Tryz.isAgg38 Tryz.sizeOf38 (off := o1) (o := 0) (part := (GItem.enc y1)) rfl rfl (S.tm rfl) (hm1.at S.emb0)) rfl ?_;clear S;intro a S
    refine l_alloc S Tryz.zeroValue38 (cs := [sV k_empty, iV 0, iV 0, iV 0, iV 0]) rfl rfl ?_;clear S;intro a w5 b3 hz2 hk3 S
    refine l_store S (S.tm rfl) (S.tm rfl) (i := 0) (off := 0) rfl Tryz.sizeOf38 (vs := (GItem.enc y1)) rfl rfl rfl rfl ?_;clear S;intro w6 hk4 S
    refine Ld (Tn (Fs (Fg (lv S (rn_fld fa_38_0 (S.tm rfl)) rfl ?_))));clear S;intro a S
    refine lv S (rn_load Tryz.isAgg9 (S.tm rfl) (S.cell (i := 0) rfl rfl)) rfl ?_;clear S;intro a S
    obtain ⟨hc1, h⟩ := chkE h
    refine l_bwrite (b := b1) (dd := x2) (v := v2) (x := x1) (s := y1.Key) (Lr := [.blk b3 (GItem.enc y1) 38]) Tryz.lays166 Tryz.bx166 [2, 1] [0] S rfl rfl rfl rfl rfl (fun _ => run_call (vs := [.pointer (some ⟨b1, 0, none⟩), sV y1.Key]) ⟨(S.tm rfl), (S.tm rfl), trivial⟩ Tryz.call21) rfl hc1 ?_;clear S;intro v3 a w7 S
    refine Ld (Tn (Fs (Fs (Fg (lv S (rn_fld fa_38_1 (S.tm rfl)) rfl ?_)))));clear S;intro a S
    refine lv S (rn_load Tryz.isAgg3 (S.tm rfl) (S.cell (i := 2) rfl rfl)) rfl ?_;clear S;intro a S
    refine lv S (rn_fld fa_38_2 (S.tm rfl)) rfl ?_;clear S;intro a S
    refine lv S (rn_load Tryz.isAgg3 (S.tm rfl) (S.cell (i := 2) rfl rfl)) rfl ?_;clear S;intro a S
    refine lv S (rn_fld fa_38_3 (S.tm rfl)) rfl ?_;clear S;intro a S
    refine lv S (rn_load Tryz.isAgg3 (S.tm rfl) (S.cell (i := 2) rfl rfl)) rfl ?_;clear S;intro a S
    refine lv S (rn_fld fa_38_4 (S.tm rfl)) rfl ?_;clear S;intro a S
    refine lv S (rn_load Tryz.isAgg3 (S.tm rfl) (S.cell (i := 2) rfl rfl)) rfl ?_;clear S;intro a S
    refine l_buildSlice S Tryz.underlying22 Tryz.sizeOf3 Tryz.zeroValue3 rfl rfl (pv := [(0, iV y1.Heats), (1, iV y1.Long), (2, iV y1.Gap), (3, iV y1.Break)]) ⟨rfl, (S.tm rfl), rfl, (S.tm rfl), rfl, (S.tm rfl), rfl, (S.tm rfl), trivial⟩ (cs := [iV y1.Heats, iV y1.Long, iV y1.Gap, iV y1.Break]) (by kernel_rfl) rfl ?_;clear S;intro a w8 b4 hz3 hk5 S
    refine lv S (rn_lenT sl_22 (S.tm rfl) ⟨_, _, rfl⟩) rfl ?_;clear S;intro a S
    refine lv S (Rm rfl) rfl ?_;clear S;intro a S
    refine Ld ?_
    replace S := S.nk [.blk b4 [iV y1.Heats, iV y1.Long, iV y1.Gap, iV y1.Break] 3, .blk b1 [selfP b1 true, v3] 51, .ownF v3 5 (x1 ++ y1.Key).size (Lib.strCells (x1 ++ y1.Key))] [(5, .pointer (some ⟨b1, 0, none⟩)), (15, V), (16, iV (Aa.length : Int)), (17, iV (i1 : Int)), (32, .slice (some ⟨b4, 0, none⟩) 4 4), (33, iV (([y1.Heats, y1.Long, y1.Gap, y1.Break] : List Int).length : Int)), (34, iV 0)] [true, true, true, false] rfl (subR rfl)
    refine Tn ?_
    replace S := S.litOwn (i := 0) (xs := [y1.Heats, y1.Long, y1.Gap, y1.Break]) rfl enc_int rfl rfl rfl
    replace S := S.nk [.own (.slice (some ⟨b4, 0, none⟩) 4 4) 3 1 ([y1.Heats, y1.Long, y1.Gap, y1.Break] : List Int).length (([y1.Heats, y1.Long, y1.Gap, y1.Break] : List Int).flatMap eInt), .blk b1 [selfP b1 true, v3] 51, .ownF v3 5 (x1 ++ y1.Key).size (Lib.strCells (x1 ++ y1.Key))] [(5, .pointer (some ⟨b1, 0, none⟩)), (15, V), (16, iV (Aa.length : Int)), (17, iV (i1 : Int)), (32, (.slice (some ⟨b4, 0, none⟩) 4 4)), (33, iV (([y1.Heats, y1.Long, y1.Gap, y1.Break] : List Int).length : Int)), (34, iV 0)] [] rfl (subR rfl)
    have hm2 := own_max (S.own_at (i := 0) rfl)
    obtain ⟨j2, hj2, h⟩ := joinE h
    refine f_join (fun a w' => ∃ x3 : ByteArray, ∃ v4 : Value, j2 x3 = some r ∧ Sx w [] nov [.own (.slice (some ⟨b4, 0, none⟩) 4 4) 3 1 ([y1.Heats, y1.Long, y1.Gap, y1.Break] : List Int).length (([y1.Heats, y1.Long, y1.Gap, y1.Break] : List Int).flatMap eInt), .blk b1 [selfP b1 true, v4] 51, .ownF v4 5 x3.size (Lib.strCells x3)] [(5, .pointer (some ⟨b1, 0, none⟩)), (15, V), (16, iV (Aa.length : Int)), (17, iV (i1 : Int))] 48 a w') ?_ ?_
    ·refine wp_block (f_loop (fun (ys2 : List Int) a w' => ∃ i2 : Nat, ∃ x3 : ByteArray, ∃ v4 : Value, (∃ dn, ([y1.Heats, y1.Long, y1.Gap, y1.Break] : List Int) = dn ++ ys2 ∧ dn.length = i2) ∧ session_Text_l2 j2 ys2 i2 x3 = some r ∧ Sx w [] nov [.own (.slice (some ⟨b4, 0, none⟩) 4 4) 3 1 ([y1.Heats, y1.Long, y1.Gap, y1.Break] : List Int).length (([y1.Heats, y1.Long, y1.Gap, y1.Break] : List Int).flatMap eInt), .blk b1 [selfP b1 true, v4] 51, .ownF v4 5 x3.size (Lib.strCells x3)] [(5, .pointer (some ⟨b1, 0, none⟩)), (15, V), (16, iV (Aa.length : Int)), (17, iV (i1 : Int)), (32, (.slice (some ⟨b4, 0, none⟩) 4 4)), (33, iV (([y1.Heats, y1.Long, y1.Gap, y1.Break] : List Int).length : Int)), (34, iV (i2 : Int))] 48 a w') List.length ([y1.Heats, y1.Long, y1.Gap, y1.Break] : List Int) ⟨0, (x1 ++ y1.Key), v3, ⟨[], rfl, rfl⟩, h, S.nf [true, true, true] rfl (subR rfl)⟩ ?_)
     clear S h;rintro ys2 a w9 ⟨i2, x3, v4, ⟨dn, hd2, hi2⟩, h, S⟩
     cases ys2 with
     | nil =>
      rw [session_Text_l2.eq_1] at h
      refine Fs (Fg (lv S (rn_lss (S.tm rfl) (S.tm rfl)) rfl ?_));clear S;intro a S
      refine Ld ?_
      replace S := S.nk [.own (.slice (some ⟨b4, 0, none⟩) 4 4) 3 1 ([y1.Heats, y1.Long, y1.Gap, y1.Break] : List Int).length (([y1.Heats, y1.Long, y1.Gap, y1.Break] : List Int).flatMap eInt), .blk b1 [selfP b1 true, v4] 51, .ownF v4 5 x3.size (Lib.strCells x3)] [(5, .pointer (some ⟨b1, 0, none⟩)), (15, V), (16, iV (Aa.length : Int)), (17, iV (i1 : Int)), (32, (.slice (some ⟨b4, 0, none⟩) 4 4)), (33, iV (([y1.Heats, y1.Long, y1.Gap, y1.Break] : List Int).length : Int)), (34, iV (i2 : Int)), (35, bV (decide ((i2 : Int) < (([y1.Heats, y1.Long, y1.Gap, y1.Break] : List Int).length : Int))))] [true, true, true] rfl (subR rfl)
      refine Tn (Fs (wp_cond_false ((S.tm rfl).trans (congrArg Value.bool (rng_nil hd2 hi2))) (wp_exit (then_x (then_x (x_same ?_))))))
      refine Tn ?_
      exact ⟨x3, v4, h, S.nf [true, true, true] rfl (subR rfl)⟩
     | cons y2 ys2 =>
      rw [session_Text_l2.eq_2] at h
      refine Fs (Fg (lv S (rn_lss (S.tm rfl) (S.tm rfl)) rfl ?_));clear S;intro a S
      refine Ld ?_
      replace S := S.nk [.own (.slice (some ⟨b4, 0, none⟩) 4 4) 3 1 ([y1.Heats, y1.Long, y1.Gap, y1.Break] : List Int).length (([y1.Heats, y1.Long, y1.Gap, y1.Break] : List Int).flatMap eInt), .blk b1 [selfP b1 true, v4] 51, .ownF v4 5 x3.size (Lib.strCells x3)] [(5, .pointer (some ⟨b1, 0, none⟩)), (15, V), (16, iV (Aa.length : Int)), (17, iV (i1 : Int)), (32, (.slice (some ⟨b4, 0, none⟩) 4 4)), (33, iV (([y1.Heats, y1.Long, y1.Gap, y1.Break] : List Int).length : Int)), (34, iV (i2 : Int)), (35, bV (decide ((i2 : Int) < (([y1.Heats, y1.Long, y1.Gap, y1.Break] : List Int).length : Int))))] [true, true, true] rfl (subR rfl)
      refine Tn (Fs (wp_cond_true ((S.tm rfl).trans (congrArg Value.bool (rng_cons hd2 hi2))) (wp_skip (Tn (Fs (wp_block ?_))))))
      refine Fs (Fg ?_)
      obtain ⟨b5, hg1, hr3⟩ := rn_indexS (a := a) (x := .tmp 32) (y := .tmp 34) (ty := 0) sl_22 enc_int S (i := 0) rfl (get_mid hd2 hi2) rfl (S.tm rfl) (S.tm rfl)
      refine lv S (hr3 _) rfl ?_;clear S;intro a S
      clear hr3
      refine lv S (rn_ld Tryz.isAgg3 (off := i2 * 1) (o := 0) (S.tm rfl) (own_cells enc_int S (i := 0) rfl hg1 (get_mid hd2 hi2)) rfl) rfl ?_;clear S;intro a S
      refine lv S (Ra (S.tm rfl)) rfl ?_;clear S;intro a S
      refine Ld (Tn (Fg (lv S (Rm (S.tm rfl)) rfl ?_)));clear S;intro a S
      obtain ⟨r2, hr4, h⟩ := bindE h
      refine l_enter S (fun _ => run_call (vs := [iV y2]) ⟨(S.tm rfl), trivial⟩ Tryz.call22) (strconv_Itoa_ok _ y2 (hg_pow10.mono (S.le_arg nil_sub)) _ hr4) rfl ?_;clear S;intro v5 a w11 hv2 hk6 hn2 S
      subst hv2
      obtain ⟨hc2, h⟩ := chkE h
      refine lv S (rn_sadd (m := k__20) (n := r2) rfl (S.tm rfl) (by have := room_lt hc2;omega)) rfl ?_;clear S;intro a S
      obtain ⟨hc3, h⟩ := chkE h
      refine l_bwrite (b := b1) (dd := true) (v := v4) (x := x3) (s := k__20 ++ r2) (Lr := [.own (.slice (some ⟨b4, 0, none⟩) 4 4) 3 1 ([y1.Heats, y1.Long, y1.Gap, y1.Break] : List Int).length (([y1.Heats, y1.Long, y1.Gap, y1.Break] : List Int).flatMap eInt)]) Tryz.lays166 Tryz.bx166 [1, 2] [0] S rfl rfl rfl rfl rfl (fun _ => run_call (vs := [.pointer (some ⟨b1, 0, none⟩), sV (k__20 ++ r2)]) ⟨(S.tm rfl), (S.tm rfl), trivial⟩ Tryz.call21) rfl hc3 ?_;clear S;intro v6 a w12 S
      refine Ld ?_
      replace S := S.nk [.blk b1 [selfP b1 true, v6] 51, .ownF v6 5 (x3 ++ (k__20 ++ r2)).size (Lib.strCells (x3 ++ (k__20 ++ r2))), .own (.slice (some ⟨b4, 0, none⟩) 4 4) 3 1 ([y1.Heats, y1.Long, y1.Gap, y1.Break] : List Int).length (([y1.Heats, y1.Long, y1.Gap, y1.Break] : List Int).flatMap eInt)] [(5, .pointer (some ⟨b1, 0, none⟩)), (15, V), (16, iV (Aa.length : Int)), (17, iV (i1 : Int)), (32, (.slice (some ⟨b4, 0, none⟩) 4 4)), (33, iV (([y1.Heats, y1.Long, y1.Gap, y1.Break] : List Int).length : Int)), (34, iV (i2 : Int))] [true, true, true] rfl (subR rfl)
      refine blk_n (Tn (Fg (lv S (rn_add (S.tm rfl) rfl) rfl ?_)));clear S;intro a S
      refine lv S (Rm (S.tm rfl)) rfl ?_;clear S;intro a S
      refine Ld (Tn ?_)
      exact ⟨ys2, ⟨i2 + 1, (x3 ++ (k__20 ++ r2)), v6, ⟨_, (hd2).trans (List.append_cons _ _ _), by simp [hi2]⟩, h, S.pn [2, 0, 1] [] rfl rfl ⟨rfl, rfl, rfl, rfl, rfl, rfl, (congrArg (fun z => some (Value.int .i64 z)) (rng_next hd2 hi2 hm2)), trivial⟩⟩, Nat.lt_succ_self _⟩
    clear S h;rintro a w10 ⟨x3, v4, h, S⟩;rw [hj2] at h;clear hj2 j2
    refine Tn (Fg ?_)
    obtain ⟨hc4, h⟩ := chkE h
    refine l_bwrite (b := b1) (dd := true) (v := v4) (x := x3) (s := k__0a) (Lr := [.own (.slice (some ⟨b4, 0, none⟩) 4 4) 3 1 ([y1.Heats, y1.Long, y1.Gap, y1.Break] : List Int).length (([y1.Heats, y1.Long, y1.Gap, y1.Break] : List Int).flatMap eInt)]) Tryz.lays166 Tryz.bx166 [1, 2] [0] S rfl rfl rfl rfl rfl (fun _ => run_call (vs := [.pointer (some ⟨b1, 0, none⟩), sV k__0a]) ⟨(S.tm rfl), rfl, trivial⟩ Tryz.call21) rfl hc4 ?_;clear S;intro v7 a w13 S
    refine Ld (blk_n (Tn (Fg (lv S (rn_add (S.tm rfl) rfl) rfl ?_))));clear S;intro a S
    refine lv S (Rm (S.tm rfl)) rfl ?_;clear S;intro a S
    refine Ld (Tn ?_)
    exact ⟨ys1, ⟨i1 + 1, (x3 ++ k__0a), true, v7, ⟨_, (hd1).trans (List.append_cons _ _ _), by simp [hi1]⟩, h, S.pn [1, 0] [2] rfl rfl ⟨rfl, rfl, rfl, (congrArg (fun z => some (Value.int .i64 z)) (rng_next hd1 hi1 (slc_max Ae))), trivial⟩⟩, Nat.lt_succ_self _⟩
  clear S h;rintro a w4 ⟨x1, x2, v2, h, S⟩;rw [hj1] at h;clear hj1 j1
  refine Tn (Fs (Fs (Fg (l_blen (b := b1) (dd := x2) (v := v2) (x := x1) (Lr := []) Tryz.lays170 [1, 0] [] S rfl rfl rfl rfl rfl (fun _ => run_call (vs := [.pointer (some ⟨b1, 0, none⟩)]) ⟨(S.tm rfl), trivial⟩ Tryz.call23) rfl ?_))));clear S;intro a S
  refine lv S (rn_gtr (S.tm rfl) rfl) rfl ?_;clear S;intro a S
  refine Ld (Tn (f_cond (S.tm rfl) (fun hb2 => ?_) (fun hb2 => ?_)))
  ·replace h := iteT h hb2
   refine Fs (Fg (lv S (Ra rfl) rfl ?_));clear S;intro a S
   refine lv S (Ra rfl) rfl ?_;clear S;intro a S
   refine Ld (Tn (wp_ret (then_r ?_)))
   obtain rfl := Option.some.inj h
   exact f_ret2 S Tryz.results6 rfl rfl rfl
  ·replace h := iteF h hb2
   refine wp_skip (Tn (Fs (Fg (l_bstr (b := b1) (dd := x2) (v := v2) (x := x1) (Lr := []) Tryz.lays169 Tryz.bx169 [1, 0] [] S rfl rfl rfl rfl (fun _ => run_call (vs := [.pointer (some ⟨b1, 0, none⟩)]) ⟨(S.tm rfl), trivial⟩ Tryz.call24) rfl ?_))));clear S;intro a w14 S
   refine lv S (Ra (S.tm rfl)) rfl ?_;clear S;intro a S
   refine lv S (Ra rfl) rfl ?_;clear S;intro a S
   refine Ld (Tn (wp_ret ?_))
   obtain rfl := Option.some.inj h
   exact f_ret2 S Tryz.results6 rfl rfl rfl
theorem tumbref2_in_ok (w : World) (Ar : Int) (Ap : Int) (Am : Int) (r : Bool) (h : tumbref2_in Ar Ap Am = r) :
    Calls Tryz.prog 27 [iV Ar, iV Ap, iV Am].toArray w (Ret w [] fun _ v _ => v = bV r) := by
 refine f_enter [] [] Tryz.func27 rfl Tryz.ntmps27 rfl (by simp) (by simp [fps]) (by simp [fps]) fun a S => ?_
 unfold tumbref2_in at h
 replace S := S.nk [] [(0, iV Ar), (1, iV Ap), (2, iV Am)] [] rfl (subR rfl)
 refine Fs (Fg (lv S (Ra rfl) rfl ?_));clear S;intro a S
 refine Ld (Tn (Fs (Fg (lv S (Rm (S.tm rfl)) rfl ?_))));clear S;intro a S
 refine lv S (Rm (S.tm rfl)) rfl ?_;clear S;intro a S
 refine lv S (rn_leq (S.tm rfl) (S.tm rfl)) rfl ?_;clear S;intro a S
 refine lv S (Rm (S.tm rfl)) rfl ?_;clear S;intro a S
 refine f_cutm 4 (fun a w' => Keep [] w w' ∧ Sx w [] nov [] [(14, bV ((decide (Ap ≤ Ar)) && (decide (Ar ≤ Am))))] 15 a w') ?_ ?_
 ·rcases Bool.eq_false_or_eq_true (decide (Ap ≤ Ar)) with hb1 | hb1
  ·refine l_want S rfl rfl rfl hb1 (lv S (Rm (S.tm rfl)) rfl ?_);clear S;intro a S
   refine l_want S rfl rfl rfl hb1 (lv S (Rm (S.tm rfl)) rfl ?_);clear S;intro a S
   refine l_want S rfl rfl rfl hb1 (lv S (rn_leq (S.tm rfl) (S.tm rfl)) rfl ?_);clear S;intro a S
   refine lv S (rn_and_t hb1 (S.tm rfl) (S.tm rfl)) rfl ?_;clear S;intro a S
   refine Ld (Tn ?_)
   exact ⟨Keep.refl _ _, S.nf [] rfl ⟨rfl, trivial⟩⟩
  ·iterate 3 (refine l_skip S rfl rfl rfl (neq_f hb1) rfl ?_ rfl;clear S;intro a S)
   refine lv S (rn_and_f (decide (Ar ≤ Am)) hb1 (S.tm rfl) rfl) rfl ?_;clear S;intro a S
   refine Ld (Tn ?_)
   exact ⟨Keep.refl _ _, S.nf [] rfl ⟨rfl, trivial⟩⟩
 clear S;rintro a w1 ⟨hk1, S⟩
 refine lv S (Ra (S.tm rfl)) rfl ?_;clear S;intro a S
 refine Ld (Tn (wp_ret ?_))
 subst h
 exact f_ret S Tryz.results27 rfl rfl
theorem strings_IndexByte_ok (w : World) (s : ByteArray) (c : Int) (r : Int) (h : strings_IndexByte s c = r) : Calls Tryz.prog 59 [.string s, .int .u8 c].toArray w (Ret w [] fun _ v _ => v = .int .i64 r) := by
  subst h
  exact ret_of_same (Any.strings_IndexByte Tryz.lays137 s c w)
theorem tumbref2_only_ok (w : World) (Ad : ByteArray) (Az : ByteArray) (r : Bool) (h : tumbref2_only Ad Az = some r) :
    Calls Tryz.prog 45 [sV Ad, sV Az].toArray w (Ret w [] fun _ v _ => v = bV r) := by
 refine f_enter [] [] Tryz.func45 rfl Tryz.ntmps45 rfl (by simp) (by simp [fps]) (by simp [fps]) fun a S => ?_
 unfold tumbref2_only at h
 replace S := S.nk [] [(0, sV Ad), (1, sV Az)] [] rfl (subR rfl)
 refine Fs (Fg (lv S (Ra rfl) rfl ?_));clear S;intro a S
 refine Ld (Tn (Fs (Fs (Fg (lv S (Rm (S.tm rfl)) rfl ?_)))));clear S;intro a S
 refine lv S (rn_len_str Tryz.underlying9 (S.tm rfl)) rfl ?_;clear S;intro a S
 refine lv S (Rm rfl) rfl ?_;clear S;intro a S
 refine Ld (Tn ?_)
 replace S := S.nk [] [(0, sV Ad), (1, sV Az), (7, iV (Ad.size : Int)), (8, iV 0)] [] rfl (subR rfl)
 obtain ⟨j1, hj1, h⟩ := joinE h
 refine f_join (fun a w' => j1 = some r ∧ Sx w [] nov [] [] 18 a w') ?_ ?_
 ·refine wp_block (f_loop (fun (m1 : Nat) a w' => ∃ x1 : Int, tumbref2_only_l1 Ad Az j1 m1 x1 = some r ∧ Sx w [] nov [] [(0, sV Ad), (1, sV Az), (7, iV (Ad.size : Int)), (8, iV x1)] 18 a w') id (((Ad.size : Int) - 0).toNat + 2) ⟨0, h, S.nf [] rfl (subR rfl)⟩ ?_)
  clear S h;rintro m1 a w1 ⟨x1, h, S⟩
  cases m1 with
  | zero => rw [tumbref2_only_l1.eq_1] at h;cases h
  | succ m1 =>
   rw [tumbref2_only_l1.eq_2] at h
   refine Fs (Fg (lv S (rn_lss (S.tm rfl) (S.tm rfl)) rfl ?_));clear S;intro a S
   refine Ld (Tn (Fs (f_cond (S.tm rfl) (fun hb1 => ?_) (fun hb1 => ?_))))
   ·replace h := iteT h hb1
    refine wp_skip (Tn (Fs (wp_block (Fs (Fg (lv S (Rm (S.tm rfl)) rfl ?_))))));clear S;intro a S
    refine lv S (Ra (S.tm rfl)) rfl ?_;clear S;intro a S
    refine Ld (Tn (Fs (Fg (lv S (Rm (S.tm rfl)) rfl ?_))));clear S;intro a S
    refine lv S (Rm (S.tm rfl)) rfl ?_;clear S;intro a S
    refine lv S (Rm (S.tm rfl)) rfl ?_;clear S;intro a S
    obtain ⟨hc1, h⟩ := chkE h
    refine lv S (rn_sindexT Tryz.underlying9 (S.tm rfl) (S.tm rfl) hc1) rfl ?_;clear S;intro a S
    refine l_enter S (fun _ => run_call (vs := [sV Az, .int .u8 (sbyte Ad x1)]) ⟨(S.tm rfl), (S.tm rfl), trivial⟩ Tryz.call59) (strings_IndexByte_ok _ Az (sbyte Ad x1) _ rfl) rfl ?_;clear S;intro v1 a w3 hv1 hk1 hn1 S
    subst hv1
    refine lv S (rn_lss (S.tm rfl) rfl) rfl ?_;clear S;intro a S
    refine Ld (Tn (f_cond (S.tm rfl) (fun hb2 => ?_) (fun hb2 => ?_)))
    ·replace h := iteT h hb2
     refine Fs (Fg (lv S (Ra rfl) rfl ?_));clear S;intro a S
     refine Ld (Tn (wp_ret (blk_r (then_r (then_r (blk_r ?_))))))
     refine then_r (then_r ?_)
     obtain rfl := Option.some.inj h
     exact f_ret S Tryz.results45 rfl rfl
    ·replace h := iteF h hb2
     refine wp_skip (blk_n (Tn (Fg (lv S (rn_add (S.tm rfl) rfl) rfl ?_))));clear S;intro a S
     refine lv S (Rm (S.tm rfl)) rfl ?_;clear S;intro a S
     refine Ld (Tn ?_)
     exact ⟨m1, ⟨W (x1 + 1), h, S.nf [] rfl ⟨rfl, rfl, rfl, rfl, trivial⟩⟩, Nat.lt_succ_self _⟩
   ·replace h := iteF h hb1
    refine wp_exit (then_x (then_x (x_same (Tn ?_))))
    exact ⟨h, S.nf [] rfl trivial⟩
 clear S h;rintro a w2 ⟨h, S⟩;rw [hj1] at h;clear hj1 j1
 refine Tn (Fs (Fg (lv S (Ra rfl) rfl ?_)));clear S;intro a S
 refine Ld (Tn (wp_ret ?_))
 obtain rfl := Option.some.inj h
 exact f_ret S Tryz.results45 rfl rfl
theorem tumbref2_Key_ok (w : World) (Ad : ByteArray) (r : Bool) (h : tumbref2_Key Ad = some r) :
    Calls Tryz.prog 25 [sV Ad].toArray w (Ret w [] fun _ v _ => v = bV r) := by
 refine f_enter [] [] Tryz.func25 rfl Tryz.ntmps25 rfl (by simp) (by simp [fps]) (by simp [fps]) fun a S => ?_
 unfold tumbref2_Key at h
 replace S := S.nk [] [(0, sV Ad)] [] rfl ⟨rfl, trivial⟩
 refine Fs (Fg (lv S (Ra rfl) rfl ?_));clear S;intro a S
 refine Ld (Tn (Fs (Fg (lv S (Rm (S.tm rfl)) rfl ?_))));clear S;intro a S
 refine lv S (rn_len_str Tryz.underlying9 (S.tm rfl)) rfl ?_;clear S;intro a S
 refine l_enter S (fun _ => run_call (vs := [iV (Ad.size : Int), iV 1, iV 40]) ⟨(S.tm rfl), rfl, rfl, trivial⟩ Tryz.call27) (tumbref2_in_ok _ (Ad.size : Int) 1 40 _ rfl) rfl ?_;clear S;intro v1 a w1 hv1 hk1 hn1 S
 subst hv1
 refine lv S (Rm (S.tm rfl)) rfl ?_;clear S;intro a S
 obtain ⟨j1, hj1, h⟩ := joinE h
 refine f_cutm 4 (fun a w' => ∃ c1, j1 c1 = some r ∧ Keep [] w1 w' ∧ Sx w [] nov [] [(0, sV Ad), (10, bV c1)] 15 a w') ?_ ?_
 ·rcases Bool.eq_false_or_eq_true (tumbref2_in (Ad.size : Int) 1 40) with hb1 | hb1
  ·replace h := iteT h hb1
   refine l_want S rfl rfl rfl hb1 (lv S (Rm (S.tm rfl)) rfl ?_);clear S;intro a S
   refine l_want S rfl rfl rfl hb1 ?_
   obtain ⟨hc1, h⟩ := chkE h
   refine lv S (rn_scutTh Tryz.underlying9 (S.tm rfl) rfl hc1) rfl ?_;clear S;intro a S
   refine l_want S rfl rfl rfl hb1 ?_
   obtain ⟨r1, hr1, h⟩ := bindE h
   refine l_enter S (fun _ => run_call (vs := [sV (scut Ad 0 1), sV k_abcdefghijklmnopqrstuvwxyz]) ⟨(S.tm rfl), rfl, trivial⟩ Tryz.call45) (tumbref2_only_ok _ (scut Ad 0 1) k_abcdefghijklmnopqrstuvwxyz _ hr1) rfl ?_;clear S;intro v2 a w3 hv2 hk2 hn2 S
   subst hv2
   refine lv S (rn_and_t hb1 (S.tm rfl) (S.tm rfl)) rfl ?_;clear S;intro a S
   refine Ld (Tn ?_)
   exact ⟨_, h, hk2, S.nf [] rfl (subR rfl)⟩
  ·replace h := iteF h hb1
   iterate 3 (refine l_skip S rfl rfl rfl (neq_f hb1) rfl ?_ rfl;clear S;intro a S)
   refine lv S (rn_and_f true hb1 (S.tm rfl) rfl) rfl ?_;clear S;intro a S
   refine Ld (Tn ?_)
   exact ⟨_, h, Keep.refl _ _, S.nf [] rfl (subR rfl)⟩
 clear S h;rintro a w2 ⟨c1, h, hk3, S⟩;rw [hj1] at h;clear hj1 j1
 refine lv S (Rm (S.tm rfl)) rfl ?_;clear S;intro a S
 obtain ⟨j2, hj2, h⟩ := joinE h
 refine f_cutm 3 (fun a w' => ∃ c2, j2 c2 = some r ∧ Keep [] w2 w' ∧ Sx w [] nov [] [(14, bV c2)] 15 a w') ?_ ?_
 ·rcases Bool.eq_false_or_eq_true c1 with hb2 | hb2
  ·replace h := iteT h hb2
   refine l_want S rfl rfl rfl hb2 (lv S (Rm (S.tm rfl)) rfl ?_);clear S;intro a S
   refine l_want S rfl rfl rfl hb2 ?_
   obtain ⟨r2, hr2, h⟩ := bindE h
   refine l_enter S (fun _ => run_call (vs := [sV Ad, sV k_abcdefghijkl_h0e2e2c]) ⟨(S.tm rfl), rfl, trivial⟩ Tryz.call45) (tumbref2_only_ok _ Ad k_abcdefghijkl_h0e2e2c _ hr2) rfl ?_;clear S;intro v3 a w5 hv3 hk4 hn3 S
   subst hv3
   refine lv S (rn_and_t hb2 (S.tm rfl) (S.tm rfl)) rfl ?_;clear S;intro a S
   refine Ld (Tn ?_)
   exact ⟨_, h, hk4, S.nf [] rfl ⟨rfl, trivial⟩⟩
  ·replace h := iteF h hb2
   refine l_skip S rfl rfl rfl (neq_f hb2) rfl ?_ rfl;clear S;intro a S
   refine l_skip S rfl rfl rfl (neq_f hb2) rfl ?_ rfl;clear S;intro a S
   refine lv S (rn_and_f true hb2 (S.tm rfl) rfl) rfl ?_;clear S;intro a S
   refine Ld (Tn ?_)
   exact ⟨_, h, Keep.refl _ _, S.nf [] rfl ⟨rfl, trivial⟩⟩
 clear S h;rintro a w4 ⟨c2, h, hk5, S⟩;rw [hj2] at h;clear hj2 j2
 refine lv S (Ra (S.tm rfl)) rfl ?_;clear S;intro a S
 refine Ld (Tn (wp_ret ?_))
 obtain rfl := Option.some.inj h
 exact f_ret S Tryz.results25 rfl rfl
theorem tumbref2_ItemAt_c1_ok (w : World) (Bh : GItem) (Ao : Nat) (Aj : ByteArray) (Be : (view w []) Ao = some (.cells [sV Aj].toArray 9 (0, 0))) (r : Bool) (h : tumbref2_ItemAt_c1 Bh Aj = r) :
    Calls Tryz.prog 47 [.agg (GItem.enc Bh).toArray, .pointer (some ⟨Ao, 0, none⟩)].toArray w (Ret w [] fun _ v _ => v = bV r) := by
 refine f_enter [] [] Tryz.func47 rfl Tryz.ntmps47 rfl (by simp) (by simp [fps]) (by simp [fps]) fun a S => ?_
 unfold tumbref2_ItemAt_c1 at h
 replace S := S.nk [] [(0, .agg (GItem.enc Bh).toArray), (1, .pointer (some ⟨Ao, 0, none⟩))] [] rfl (subR rfl)
 refine Fs (Fg (l_box S (S.tm rfl) (cs := (GItem.enc Bh)) rfl rfl ?_));clear S;intro a w1 b1 hz1 hk1 S
 refine lv S (Ra rfl) rfl ?_;clear S;intro a S
 refine Ld (Tn (Fs (Fg (lv S (rn_fld fa_38_0 (S.tm rfl)) rfl ?_))));clear S;intro a S
 refine lv S (rn_load Tryz.isAgg9 (S.tm rfl) (S.cell (i := 0) rfl rfl)) rfl ?_;clear S;intro a S
 refine lv S (rn_ld Tryz.isAgg9 (off := 0) (o := 0) (S.tm rfl) ((mem_blk Be).at S.emb0) rfl) rfl ?_;clear S;intro a S
 refine lv S (rn_seql (S.tm rfl) (S.tm rfl)) rfl ?_;clear S;intro a S
 refine lv S (Ra (S.tm rfl)) rfl ?_;clear S;intro a S
 refine Ld (Tn (wp_ret ?_))
 subst h
 exact f_ret S Tryz.results47 rfl rfl
theorem slices_IndexFunc_Item_tumbref2_ItemAt_c1_ok (w : World) (At : Value) (Ad : List GItem) (Ay : Slc (view w []) 5 At (Ad.map GItem.enc)) (Ax : Nat) (Bl : ByteArray) (Bn : (view w []) Ax = some (.cells [sV Bl].toArray 9 (0, 0))) (r : Int) (h : slices_IndexFunc_Item_tumbref2_ItemAt_c1 Ad Bl = r) :
    Calls Tryz.prog 46 [At, .func (.func 47) #[] #[.pointer (some ⟨Ax, 0, none⟩)]].toArray w (Ret w [] fun _ v _ => v = iV r) := by
 refine f_enter [] [] Tryz.func46 rfl Tryz.ntmps46 rfl (by simp) (by simp [fps]) (by simp [fps]) fun a S => ?_
 unfold slices_IndexFunc_Item_tumbref2_ItemAt_c1 at h
 replace S := S.nk [] [(0, At), (1, .func (.func 47) #[] #[.pointer (some ⟨Ax, 0, none⟩)])] [] rfl (subR rfl)
 refine Fs (Fg (lv S (Ra rfl) rfl ?_));clear S;intro a S
 refine Ld (Tn (Fs (Fs (Fg (lv S (Rm (S.tm rfl)) rfl ?_)))));clear S;intro a S
 refine lv S (rn_lenT sl_26 (S.tm rfl) (slc_len Ay)) rfl ?_;clear S;intro a S
 refine lv S (Rm rfl) rfl ?_;clear S;intro a S
 refine Ld (Tn ?_)
 replace S := S.nk [] [(0, At), (1, .func (.func 47) #[] #[.pointer (some ⟨Ax, 0, none⟩)]), (7, iV (Ad.length : Int)), (8, iV 0)] [] rfl (subR rfl)
 obtain ⟨j1, hj1, h⟩ := joinE h
 refine f_join (fun a w' => j1 = r ∧ Sx w [] nov [] [] 19 a w') ?_ ?_
 ·refine wp_block (f_loop (fun (ys1 : List GItem) a w' => ∃ i1 : Nat, (∃ dn, Ad = dn ++ ys1 ∧ dn.length = i1) ∧ slices_IndexFunc_Item_tumbref2_ItemAt_c1_l1 Bl j1 ys1 i1 = r ∧ Sx w [] nov [] [(0, At), (1, .func (.func 47) #[] #[.pointer (some ⟨Ax, 0, none⟩)]), (7, iV (Ad.length : Int)), (8, iV (i1 : Int))] 19 a w') List.length Ad ⟨0, ⟨[], rfl, rfl⟩, h, S.nf [] rfl (subR rfl)⟩ ?_)
  clear S h;rintro ys1 a w1 ⟨i1, ⟨dn, hd1, hi1⟩, h, S⟩
  cases ys1 with
  | nil =>
   rw [slices_IndexFunc_Item_tumbref2_ItemAt_c1_l1.eq_1] at h
   refine Fs (Fg (lv S (rn_lss (S.tm rfl) (S.tm rfl)) rfl ?_));clear S;intro a S
   refine Ld ?_
   replace S := S.nk [] [(0, At), (1, .func (.func 47) #[] #[.pointer (some ⟨Ax, 0, none⟩)]), (7, iV (Ad.length : Int)), (8, iV (i1 : Int)), (9, bV (decide ((i1 : Int) < (Ad.length : Int))))] [] rfl (subR rfl)
   refine Tn (Fs (wp_cond_false ((S.tm rfl).trans (congrArg Value.bool (rng_nil hd1 hi1))) (wp_exit (then_x (then_x (x_same ?_))))))
   refine Tn ?_
   exact ⟨h, S.nf [] rfl trivial⟩
  | cons y1 ys1 =>
   rw [slices_IndexFunc_Item_tumbref2_ItemAt_c1_l1.eq_2] at h
   refine Fs (Fg (lv S (rn_lss (S.tm rfl) (S.tm rfl)) rfl ?_));clear S;intro a S
   refine Ld ?_
   replace S := S.nk [] [(0, At), (1, .func (.func 47) #[] #[.pointer (some ⟨Ax, 0, none⟩)]), (7, iV (Ad.length : Int)), (8, iV (i1 : Int)), (9, bV (decide ((i1 : Int) < (Ad.length : Int))))] [] rfl (subR rfl)
   refine Tn (Fs (wp_cond_true ((S.tm rfl).trans (congrArg Value.bool (rng_cons hd1 hi1))) (wp_skip (Tn (Fs (wp_block ?_))))))
   refine Fs (Fg (lv S (Rm (S.tm rfl)) rfl ?_));clear S;intro a S
   refine lv S (Ra (S.tm rfl)) rfl ?_;clear S;intro a S
   refine Ld (Tn (Fs (Fg (lv S (Rm (S.tm rfl)) rfl ?_))));clear S;intro a S
   refine lv S (Rm (S.tm rfl)) rfl ?_;clear S;intro a S
   refine lv S (Rm (S.tm rfl)) rfl ?_;clear S;intro a S
   obtain ⟨b1, o1, hm1, hr1⟩ := rn_indexT (a := a) (x := .tmp 12) (y := .tmp 13) (ty := 0) sl_26 Ay (get_mid hd1 hi1) rfl (S.tm rfl) (S.tm rfl)
   refine lv S (hr1 _) rfl ?_;clear S;intro a S
   clear hr1
   refine lv S (rn_ldA Tryz.isAgg38 Tryz.sizeOf38 (off := o1) (o := 0) (part := (GItem.enc y1)) rfl rfl (S.tm rfl) (hm1.at S.emb0)) rfl ?_;clear S;intro a S
   refine l_enter S (fun _ => run_callV (cap := [.pointer (some ⟨Ax, 0, none⟩)]) (S.tm rfl) (vs := [.agg (GItem.enc y1).toArray]) ⟨(S.tm rfl), trivial⟩ Tryz.call47) (tumbref2_ItemAt_c1_ok _ y1 Ax Bl ((S.le_arg nil_sub) _ _ Bn) _ rfl) rfl ?_;clear S;intro v1 a w3 hv1 hk1 hn1 S
   subst hv1
   refine Ld (Tn (f_cond (S.tm rfl) (fun hb1 => ?_) (fun hb1 => ?_)))
   ·replace h := iteT h hb1
    refine Fs (Fg (lv S (Rm (S.tm rfl)) rfl ?_));clear S;intro a S
    refine lv S (Ra (S.tm rfl)) rfl ?_;clear S;intro a S
    refine Ld ?_
    replace S := S.nk [] [(4, iV (i1 : Int))] [] rfl ⟨rfl, trivial⟩
    refine Tn (wp_ret (blk_r (then_r (then_r (blk_r (then_r ?_))))))
    refine then_r ?_
    subst h
    exact f_ret S Tryz.results46 rfl rfl
   ·replace h := iteF h hb1
    refine wp_skip (blk_n (Tn (Fg (lv S (rn_add (S.tm rfl) rfl) rfl ?_))));clear S;intro a S
    refine lv S (Rm (S.tm rfl)) rfl ?_;clear S;intro a S
    refine Ld (Tn ?_)
    exact ⟨ys1, ⟨i1 + 1, ⟨_, (hd1).trans (List.append_cons _ _ _), by simp [hi1]⟩, h, S.nf [] rfl ⟨rfl, rfl, rfl, (congrArg (fun z => some (Value.int .i64 z)) (rng_next hd1 hi1 (slc_max Ay))), trivial⟩⟩, Nat.lt_succ_self _⟩
 clear S h;rintro a w2 ⟨h, S⟩;rw [hj1] at h;clear hj1 j1
 refine Tn (Fs (Fg (lv S (Ra rfl) rfl ?_)));clear S;intro a S
 refine Ld (Tn (wp_ret ?_))
 subst h
 exact f_ret S Tryz.results46 rfl rfl
theorem tumbref2_ItemAt_ok (w : World) (V : Value) (Aa : List GItem) (Ae : Slc (view w []) 5 V (Aa.map GItem.enc)) (Bf : ByteArray) (r : Int) (h : tumbref2_ItemAt Aa Bf = r) :
    Calls Tryz.prog 26 [V, sV Bf].toArray w (Ret w [] fun _ v _ => v = iV r) := by
 refine f_enter [] [] Tryz.func26 rfl Tryz.ntmps26 rfl (by simp) (by simp [fps]) (by simp [fps]) fun a S => ?_
 unfold tumbref2_ItemAt at h
 replace S := S.nk [] [(0, V), (1, sV Bf)] [] rfl (subR rfl)
 refine Fs (Fg (l_box S (S.tm rfl) (cs := [sV Bf]) rfl rfl ?_));clear S;intro a w1 b1 hz1 hk1 S
 refine lv S (Ra rfl) rfl ?_;clear S;intro a S
 refine Ld (Tn (Fs (Fg (lv S (Rm (S.tm rfl)) rfl ?_))));clear S;intro a S
 refine lv S (rn_makeFunc (us := #[]) (xs := [].toArray) (ys := [.tmp 3].toArray) (by simp) (evA ⟨(S.tm rfl), trivial⟩ (vs := [.pointer (some ⟨b1, 0, none⟩)]))) rfl ?_;clear S;intro a S
 refine l_enter S (fun _ => run_call (vs := [V, .func (.func 47) #[] #[.pointer (some ⟨b1, 0, none⟩)]]) ⟨(S.tm rfl), (S.tm rfl), trivial⟩ Tryz.call46) (slices_IndexFunc_Item_tumbref2_ItemAt_c1_ok _ V Aa (Ae.mono (S.le_arg nil_sub)) b1 Bf (S.blk_view (i := 0) rfl ((ne_nil (e' := .blk b1 [sV Bf] 9)) _ rfl)) _ rfl) rfl ?_;clear S;intro v1 a w2 hv1 hk2 hn1 S
 subst hv1
 refine lv S (Ra (S.tm rfl)) rfl ?_;clear S;intro a S
 refine Ld (Tn (wp_ret ?_))
 subst h
 exact f_ret S Tryz.results26 rfl rfl
set_option maxRecDepth 20000 in
theorem tumbref2_ItemsFault_ok (w : World) (V : Value) (Aa : List GItem) (Ae : Slc (view w []) 5 V (Aa.map GItem.enc)) (r : Int) (h : tumbref2_ItemsFault Aa = some r) :
    Calls Tryz.prog 7 [V].toArray w (Ret w [] fun _ v _ => v = iV r) := by
 refine f_enter [] [] Tryz.func7 rfl Tryz.ntmps7 rfl (by simp) (by simp [fps]) (by simp [fps]) fun a S => ?_
 unfold tumbref2_ItemsFault at h
 replace S := S.nk [] [(0, V)] [] rfl ⟨rfl, trivial⟩
 refine Fs (Fg (lv S (Ra rfl) rfl ?_));clear S;intro a S
 refine Ld (Tn (Fs (Fs (Fg (lv S (Rm (S.tm rfl)) rfl ?_)))));clear S;intro a S
 refine lv S (rn_lenT sl_26 (S.tm rfl) (slc_len Ae)) rfl ?_;clear S;intro a S
 refine lv S (rn_gtr (S.tm rfl) rfl) rfl ?_;clear S;intro a S
 refine Ld (Tn (f_cond (S.tm rfl) (fun hb1 => ?_) (fun hb1 => ?_)))
 ·replace h := iteT h hb1
  refine Fs (Fg (lv S (Ra rfl) rfl ?_));clear S;intro a S
  refine Ld (Tn (wp_ret (then_r ?_)))
  obtain rfl := Option.some.inj h
  exact f_ret S Tryz.results7 rfl rfl
 ·replace h := iteF h hb1
  refine wp_skip (Tn (Fs (Fs (Fg (lv S (Rm (S.tm rfl)) rfl ?_)))));clear S;intro a S
  refine lv S (rn_lenT sl_26 (S.tm rfl) (slc_len Ae)) rfl ?_;clear S;intro a S
  refine lv S (Rm rfl) rfl ?_;clear S;intro a S
  refine Ld (Tn ?_)
  replace S := S.nk [] [(0, V), (8, V), (9, iV (Aa.length : Int)), (10, iV 0)] [] rfl (subR rfl)
  obtain ⟨j1, hj1, h⟩ := joinE h
  refine f_join (fun a w' => j1 = some r ∧ Sx w [] nov [] [] 52 a w') ?_ ?_
  ·refine wp_block (f_loop (fun (ys1 : List GItem) a w' => ∃ i1 : Nat, (∃ dn, Aa = dn ++ ys1 ∧ dn.length = i1) ∧ tumbref2_ItemsFault_l1 Aa j1 ys1 i1 = some r ∧ Sx w [] nov [] [(0, V), (8, V), (9, iV (Aa.length : Int)), (10, iV (i1 : Int))] 52 a w') List.length Aa ⟨0, ⟨[], rfl, rfl⟩, h, S.nf [] rfl (subR rfl)⟩ ?_)
   clear S h;rintro ys1 a w1 ⟨i1, ⟨dn, hd1, hi1⟩, h, S⟩
   cases ys1 with
   | nil =>
    rw [tumbref2_ItemsFault_l1.eq_1] at h
    refine Fs (Fg (lv S (rn_lss (S.tm rfl) (S.tm rfl)) rfl ?_));clear S;intro a S
    refine Ld ?_
    replace S := S.nk [] [(0, V), (8, V), (9, iV (Aa.length : Int)), (10, iV (i1 : Int)), (11, bV (decide ((i1 : Int) < (Aa.length : Int))))] [] rfl (subR rfl)
    refine Tn (Fs (wp_cond_false ((S.tm rfl).trans (congrArg Value.bool (rng_nil hd1 hi1))) (wp_exit (then_x (then_x (x_same ?_))))))
    refine Tn ?_
    exact ⟨h, S.nf [] rfl trivial⟩
   | cons y1 ys1 =>
    rw [tumbref2_ItemsFault_l1.eq_2] at h
    refine Fs (Fg (lv S (rn_lss (S.tm rfl) (S.tm rfl)) rfl ?_));clear S;intro a S
    refine Ld ?_
    replace S := S.nk [] [(0, V), (8, V), (9, iV (Aa.length : Int)), (10, iV (i1 : Int)), (11, bV (decide ((i1 : Int) < (Aa.length : Int))))] [] rfl (subR rfl)
    refine Tn (Fs (wp_cond_true ((S.tm rfl).trans (congrArg Value.bool (rng_cons hd1 hi1))) (wp_skip (Tn (Fs (wp_block ?_))))))
    refine Fs (Fg (lv S (Rm (S.tm rfl)) rfl ?_));clear S;intro a S
    obtain ⟨b1, o1, hm1, hr1⟩ := rn_indexT (a := a) (x := .tmp 8) (y := .tmp 10) (ty := 0) sl_26 Ae (get_mid hd1 hi1) rfl (S.tm rfl) (S.tm rfl)
    refine lv S (hr1 _) rfl ?_;clear S;intro a S
    clear hr1
    refine lv S (rn_ldA Tryz.isAgg38 Tryz.sizeOf38 (off := o1) (o := 0) (part := (GItem.enc y1)) rfl rfl (S.tm rfl) (hm1.at S.emb0)) rfl ?_;clear S;intro a S
    refine l_alloc S Tryz.zeroValue38 (cs := [sV k_empty, iV 0, iV 0, iV 0, iV 0]) rfl rfl ?_;clear S;intro a w3 b2 hz1 hk1 S
    refine lv S (Ra (S.tm rfl)) rfl ?_;clear S;intro a S
    refine l_store S (S.tm rfl) (S.tm rfl) (i := 0) (off := 0) rfl Tryz.sizeOf38 (vs := (GItem.enc y1)) rfl rfl rfl rfl ?_;clear S;intro w4 hk2 S
    refine Ld (Tn (wp_block (Fs (Fg (lv S (rn_fld fa_38_0 (S.tm rfl)) rfl ?_)))));clear S;intro a S
    refine lv S (rn_load Tryz.isAgg9 (S.tm rfl) (S.cell (i := 0) rfl rfl)) rfl ?_;clear S;intro a S
    obtain ⟨r1, hr2, h⟩ := bindE h
    refine l_enter S (fun _ => run_call (vs := [sV y1.Key]) ⟨(S.tm rfl), trivial⟩ Tryz.call25) (tumbref2_Key_ok _ y1.Key _ hr2) rfl ?_;clear S;intro v1 a w5 hv1 hk3 hn1 S
    subst hv1
    refine lv S (rn_not (S.tm rfl)) rfl ?_;clear S;intro a S
    refine lv S (Ra (S.tm rfl)) rfl ?_;clear S;intro a S
    refine Ld ?_
    replace S := S.nk [.blk b2 (GItem.enc y1) 38] [(0, V), (3, iV (i1 : Int)), (4, .pointer (some ⟨b2, 0, none⟩)), (8, V), (9, iV (Aa.length : Int)), (10, iV (i1 : Int)), (15, bV (!r1))] [true] rfl (subR rfl)
    refine Tn (f_cond (S.tm rfl) (fun hb2 => ?_) (fun hb2 => ?_))
    ·replace h := iteT h hb2
     refine Fs (Fg (lv S (Ra rfl) rfl ?_));clear S;intro a S
     refine Ld (Tn (wp_ret (blk_r (blk_r (then_r (then_r ?_))))))
     refine blk_r (then_r (then_r ?_))
     obtain rfl := Option.some.inj h
     exact f_ret S Tryz.results7 rfl rfl
    ·replace h := iteF h hb2
     refine Fs ?_
     obtain ⟨hc1, h⟩ := chkE h
     refine d_region [] ([]) Tryz.mixed S rfl (by kernel_rfl) ?_;clear S;intro w7 hk5 hsel S
     refine d_quiet 0 S hsel rfl rfl rfl (by kernel_rfl) (by kernel_rfl) rfl (fun _ hw => (Rm (S.tm rfl))) ?_;clear S;intro a S
     refine d_quiet 1 S hsel rfl rfl rfl (by kernel_rfl) (by kernel_rfl) rfl (fun _ hw => (Rm (S.tm rfl))) ?_;clear S;intro a S
     obtain ⟨v4, hs2, hr4⟩ := rn_cutTh (a := a) (x := .tmp 21) (y' := .tmp 22) (ty := 26) sl_26 Ae (S.tm rfl) (S.tm rfl) hc1
     refine d_quiet 2 S hsel rfl rfl rfl (by kernel_rfl) (by kernel_rfl) rfl (fun _ hw => (hr4 _)) ?_;clear S;intro a S
     clear hr4
     refine d_quiet 3 S hsel rfl rfl rfl (by kernel_rfl) (by kernel_rfl) rfl (fun _ hw => (rn_fld fa_38_0 (S.tm rfl))) ?_;clear S;intro a S
     refine d_quiet 4 S hsel rfl rfl rfl (by kernel_rfl) (by kernel_rfl) rfl (fun _ hw => (rn_ld Tryz.isAgg9 (off := 0) (o := 0) (S.tm rfl) ((S.blk_mem (i := 0) (cells := (GItem.enc y1)) (b := b2) (T := 38) rfl (ne_nil (e' := .blk b2 (GItem.enc y1) 38))).kept hw) rfl)) ?_;clear S;intro a S
     refine d_loud1 5 (by kernel_rfl) rfl (l_enter S (fun _ => run_call (vs := [v4, sV y1.Key]) ⟨(S.tm rfl), (S.tm rfl), trivial⟩ Tryz.call26) (tumbref2_ItemAt_ok _ v4 (cut Aa 0 (i1 : Int)) (hs2.mono (S.le_arg nil_sub)) y1.Key _ rfl) rfl ?_);clear S;intro v5 a w8 hv3 hk6 hn3 S
     subst hv3
     refine Ld (d_next hk6 (d_rest [6, 7] hsel (by kernel_rfl) rfl ?_))
     clear hsel
     refine s_lv S rfl (rn_geq (S.tm rfl) rfl) rfl ?_;clear S;intro a S
     refine s_lv S rfl (Ra (S.tm rfl)) rfl ?_;clear S;intro a S
     refine s_done ?_
     replace S := S.nk [.blk b2 (GItem.enc y1) 38] [(0, V), (4, .pointer (some ⟨b2, 0, none⟩)), (8, V), (9, iV (Aa.length : Int)), (10, iV (i1 : Int)), (20, bV (decide (0 ≤ (tumbref2_ItemAt (cut Aa 0 (i1 : Int)) y1.Key))))] [true] rfl (subR rfl)
     refine Tn (f_cond (S.tm rfl) (fun hb3 => ?_) (fun hb3 => ?_))
     ·replace h := iteT h hb3
      refine Fs (Fg (lv S (Ra rfl) rfl ?_));clear S;intro a S
      refine Ld (Tn (wp_ret (blk_r (blk_r (then_r (then_r ?_))))))
      refine blk_r (then_r (then_r ?_))
      obtain rfl := Option.some.inj h
      exact f_ret S Tryz.results7 rfl rfl
     ·replace h := iteF h hb3
      refine Fs (Fg (lv S (rn_fld fa_38_1 (S.tm rfl)) rfl ?_));clear S;intro a S
      refine lv S (rn_load Tryz.isAgg3 (S.tm rfl) (S.cell (i := 0) rfl rfl)) rfl ?_;clear S;intro a S
      refine l_enter S (fun _ => run_call (vs := [iV y1.Heats, iV 1, iV 60]) ⟨(S.tm rfl), rfl, rfl, trivial⟩ Tryz.call27) (tumbref2_in_ok _ y1.Heats 1 60 _ rfl) rfl ?_;clear S;intro v6 a w9 hv4 hk7 hn4 S
      subst hv4
      refine lv S (rn_not (S.tm rfl)) rfl ?_;clear S;intro a S
      refine lv S (Rm (S.tm rfl)) rfl ?_;clear S;intro a S
      refine f_cutm 5 (fun a w' => Keep [] w9 w' ∧ Sx w [] nov [.blk b2 (GItem.enc y1) 38] [(0, V), (4, .pointer (some ⟨b2, 0, none⟩)), (8, V), (9, iV (Aa.length : Int)), (10, iV (i1 : Int)), (38, bV ((!(tumbref2_in y1.Heats 1 60)) || (!(tumbref2_in y1.Long 1 3600000))))] 52 a w') ?_ ?_
      ·rcases Bool.eq_false_or_eq_true (!(tumbref2_in y1.Heats 1 60)) with hb4 | hb4
       ·iterate 4 (refine l_skip S rfl rfl rfl (neq_t hb4) rfl ?_ rfl;clear S;intro a S)
        refine lv S (rn_or_t (!(tumbref2_in y1.Long 1 3600000)) hb4 (S.tm rfl) rfl) rfl ?_;clear S;intro a S
        refine Ld (Tn ?_)
        exact ⟨Keep.refl _ _, S.nf [true] rfl (subR rfl)⟩
       ·refine l_want S rfl rfl rfl hb4 (lv S (rn_fld fa_38_2 (S.tm rfl)) rfl ?_);clear S;intro a S
        refine l_want S rfl rfl rfl hb4 (lv S (rn_load Tryz.isAgg3 (S.tm rfl) (S.cell (i := 0) rfl rfl)) rfl ?_);clear S;intro a S
        refine l_want S rfl rfl rfl hb4 (l_enter S (fun _ => run_call (vs := [iV y1.Long, iV 1, iV 3600000]) ⟨(S.tm rfl), rfl, rfl, trivial⟩ Tryz.call27) (tumbref2_in_ok _ y1.Long 1 3600000 _ rfl) rfl ?_);clear S;intro v7 a w11 hv5 hk8 hn5 S
        subst hv5
        refine l_want S rfl rfl rfl hb4 (lv S (rn_not (S.tm rfl)) rfl ?_);clear S;intro a S
        refine lv S (rn_or_f hb4 (S.tm rfl) (S.tm rfl)) rfl ?_;clear S;intro a S
        refine Ld (Tn ?_)
        exact ⟨hk8, S.nf [true] rfl (subR rfl)⟩
      clear S;rintro a w10 ⟨hk9, S⟩
      refine lv S (Rm (S.tm rfl)) rfl ?_;clear S;intro a S
      refine f_cutm 5 (fun a w' => Keep [] w10 w' ∧ Sx w [] nov [.blk b2 (GItem.enc y1) 38] [(0, V), (4, .pointer (some ⟨b2, 0, none⟩)), (8, V), (9, iV (Aa.length : Int)), (10, iV (i1 : Int)), (44, bV (((!(tumbref2_in y1.Heats 1 60)) || (!(tumbref2_in y1.Long 1 3600000))) || (!(tumbref2_in y1.Gap 0 3600000))))] 52 a w') ?_ ?_
      ·rcases Bool.eq_false_or_eq_true ((!(tumbref2_in y1.Heats 1 60)) || (!(tumbref2_in y1.Long 1 3600000))) with hb5 | hb5
       ·iterate 4 (refine l_skip S rfl rfl rfl (neq_t hb5) rfl ?_ rfl;clear S;intro a S)
        refine lv S (rn_or_t (!(tumbref2_in y1.Gap 0 3600000)) hb5 (S.tm rfl) rfl) rfl ?_;clear S;intro a S
        refine Ld (Tn ?_)
        exact ⟨Keep.refl _ _, S.nf [true] rfl (subR rfl)⟩
       ·refine l_want S rfl rfl rfl hb5 (lv S (rn_fld fa_38_3 (S.tm rfl)) rfl ?_);clear S;intro a S
        refine l_want S rfl rfl rfl hb5 (lv S (rn_load Tryz.isAgg3 (S.tm rfl) (S.cell (i := 0) rfl rfl)) rfl ?_);clear S;intro a S
        refine l_want S rfl rfl rfl hb5 (l_enter S (fun _ => run_call (vs := [iV y1.Gap, iV 0, iV 3600000]) ⟨(S.tm rfl), rfl, rfl, trivial⟩ Tryz.call27) (tumbref2_in_ok _ y1.Gap 0 3600000 _ rfl) rfl ?_);clear S;intro v8 a w13 hv6 hk10 hn6 S
        subst hv6
        refine l_want S rfl rfl rfl hb5 (lv S (rn_not (S.tm rfl)) rfl ?_);clear S;intro a S
        refine lv S (rn_or_f hb5 (S.tm rfl) (S.tm rfl)) rfl ?_;clear S;intro a S
        refine Ld (Tn ?_)
        exact ⟨hk10, S.nf [true] rfl (subR rfl)⟩
      clear S;rintro a w12 ⟨hk11, S⟩
      refine lv S (Rm (S.tm rfl)) rfl ?_;clear S;intro a S
      refine f_cutm 5 (fun a w' => Keep [] w12 w' ∧ Sx w [] nov [.blk b2 (GItem.enc y1) 38] [(0, V), (8, V), (9, iV (Aa.length : Int)), (10, iV (i1 : Int)), (50, bV ((((!(tumbref2_in y1.Heats 1 60)) || (!(tumbref2_in y1.Long 1 3600000))) || (!(tumbref2_in y1.Gap 0 3600000))) || (!(tumbref2_in y1.Break 0 3600000))))] 52 a w') ?_ ?_
      ·rcases Bool.eq_false_or_eq_true (((!(tumbref2_in y1.Heats 1 60)) || (!(tumbref2_in y1.Long 1 3600000))) || (!(tumbref2_in y1.Gap 0 3600000))) with hb6 | hb6
       ·iterate 4 (refine l_skip S rfl rfl rfl (neq_t hb6) rfl ?_ rfl;clear S;intro a S)
        refine lv S (rn_or_t (!(tumbref2_in y1.Break 0 3600000)) hb6 (S.tm rfl) rfl) rfl ?_;clear S;intro a S
        refine Ld (Tn ?_)
        exact ⟨Keep.refl _ _, S.nf [true] rfl (subR rfl)⟩
       ·refine l_want S rfl rfl rfl hb6 (lv S (rn_fld fa_38_4 (S.tm rfl)) rfl ?_);clear S;intro a S
        refine l_want S rfl rfl rfl hb6 (lv S (rn_load Tryz.isAgg3 (S.tm rfl) (S.cell (i := 0) rfl rfl)) rfl ?_);clear S;intro a S
        refine l_want S rfl rfl rfl hb6 (l_enter S (fun _ => run_call (vs := [iV y1.Break, iV 0, iV 3600000]) ⟨(S.tm rfl), rfl, rfl, trivial⟩ Tryz.call27) (tumbref2_in_ok _ y1.Break 0 3600000 _ rfl) rfl ?_);clear S;intro v9 a w15 hv7 hk12 hn7 S
        subst hv7
        refine l_want S rfl rfl rfl hb6 (lv S (rn_not (S.tm rfl)) rfl ?_);clear S;intro a S
        refine lv S (rn_or_f hb6 (S.tm rfl) (S.tm rfl)) rfl ?_;clear S;intro a S
        refine Ld (Tn ?_)
        exact ⟨hk12, S.nf [true] rfl (subR rfl)⟩
      clear S;rintro a w14 ⟨hk13, S⟩
      refine lv S (Ra (S.tm rfl)) rfl ?_;clear S;intro a S
      refine Ld (Tn (f_cond (S.tm rfl) (fun hb7 => ?_) (fun hb7 => ?_)))
      ·replace h := iteT h hb7
       refine Fs (Fg (lv S (Ra rfl) rfl ?_));clear S;intro a S
       refine Ld (Tn (wp_ret (blk_r (blk_r (then_r (then_r ?_))))))
       refine blk_r (then_r (then_r ?_))
       obtain rfl := Option.some.inj h
       exact f_ret S Tryz.results7 rfl rfl
      ·replace h := iteF h hb7
       refine wp_skip (blk_n (blk_n (Tn (Fg (lv S (rn_add (S.tm rfl) rfl) rfl ?_)))));clear S;intro a S
       refine lv S (Rm (S.tm rfl)) rfl ?_;clear S;intro a S
       refine Ld (Tn ?_)
       exact ⟨ys1, ⟨i1 + 1, ⟨_, (hd1).trans (List.append_cons _ _ _), by simp [hi1]⟩, h, S.nf [false] rfl ⟨rfl, rfl, rfl, (congrArg (fun z => some (Value.int .i64 z)) (rng_next hd1 hi1 (slc_max Ae))), trivial⟩⟩, Nat.lt_succ_self _⟩
  clear S h;rintro a w2 ⟨h, S⟩;rw [hj1] at h;clear hj1 j1
  refine Tn (Fs (Fg (lv S (Ra rfl) rfl ?_)));clear S;intro a S
  refine Ld (Tn (wp_ret ?_))
  obtain rfl := Option.some.inj h
  exact f_ret S Tryz.results7 rfl rfl
theorem strings_Cut_ok (w : World) (s : ByteArray) (sep : ByteArray) (hg_maxlen : GlobI (view w []) 1) (r : ByteArray × ByteArray × Bool) (h : strings_Cut s sep = some r) : Calls Tryz.prog 49 [sV s, sV sep].toArray w (Ret w [] fun _ v _ => v = .tuple #[.string r.1, .string r.2.1, .bool r.2.2]) := by
  unfold strings_Cut at h
  obtain ⟨hc, h⟩ := chkE h
  simp only [Bool.and_eq_true, decide_eq_true_eq] at hc
  obtain rfl := Option.some.inj h
  exact cut_ret { Tryz.lays145 with } s sep w hg_maxlen hc
theorem strings_Split_ok (w : World) (s : ByteArray) (sep : ByteArray) (hg_maxlen : GlobI (view w []) 1) (r : (List ByteArray)) (h : strings_Split s sep = some r) : Calls Tryz.prog 35 [sV s, sV sep].toArray w (Ret w [] fun τ v _ => OwnV τ 9 1 v r.length (r.flatMap eStr)) := by
  unfold strings_Split at h
  obtain ⟨hc, h⟩ := chkE h
  simp only [Bool.and_eq_true, decide_eq_true_eq] at hc
  obtain rfl := Option.some.inj h
  exact split_ret { Tryz.lays146 with } (by kernel_rfl) s sep w hg_maxlen hc.1 hc.2
theorem words_Split_ok (w : World) (Au : ByteArray) (hg_maxlen : GlobI (view w []) 1) (r : (List ByteArray) × Bool) (h : words_Split Au = some r) :
    Calls Tryz.prog 31 [sV Au].toArray w (Ret w [] fun τ v _ => ∃ u1 : Value, v = .tuple #[u1, bV r.2] ∧ OwnV τ 9 1 u1 r.1.length (r.1.flatMap eStr)) := by
 refine f_enter [] [] Tryz.func31 rfl Tryz.ntmps31 rfl (by simp) (by simp [fps]) (by simp [fps]) fun a S => ?_
 unfold words_Split at h
 replace S := S.nk [] [(0, sV Au)] [] rfl ⟨rfl, trivial⟩
 refine Fs (Fg (lv S (Ra rfl) rfl ?_));clear S;intro a S
 refine lv S (Ra rfl) rfl ?_;clear S;intro a S
 refine Ld (Tn (Fs (Fg (lv S (Rm (S.tm rfl)) rfl ?_))));clear S;intro a S
 obtain ⟨r1, hr1, h⟩ := bindE h
 have hz1 := S.keep.size
 refine l_enter S (fun _ => run_call (vs := [sV Au, sV k__20]) ⟨(S.tm rfl), rfl, trivial⟩ Tryz.call35) (strings_Split_ok _ Au k__20 (hg_maxlen.mono (S.le_arg nil_sub)) _ hr1) rfl ?_;clear S;intro v1 a w1 hv1 hk1 hn1 S
 obtain ⟨φ1, hl1, hm1, S⟩ := S.see' hn1 hz1
 have hs1 := hv1.mono hm1
 refine lv S (Ra (S.tm rfl)) rfl ?_;clear S;intro a S
 refine Ld (Tn (Fs (Fs (Fg (lv S (Rm (S.tm rfl)) rfl ?_)))));clear S;intro a S
 refine lv S (rn_lenT sl_64 (S.tm rfl) (slc_len (ownV_slcT enc_str hs1))) rfl ?_;clear S;intro a S
 refine lv S (Rm rfl) rfl ?_;clear S;intro a S
 refine Ld (Tn ?_)
 replace S := S.nk [] [(4, v1), (9, v1), (10, iV (r1.length : Int)), (11, iV 0)] [] rfl (subR rfl)
 obtain ⟨j1, hj1, h⟩ := joinE h
 refine f_join (fun a w' => j1 = some r ∧ Sx w [] φ1 [] [(4, v1)] 19 a w') ?_ ?_
 ·refine wp_block (f_loop (fun (ys1 : List ByteArray) a w' => ∃ i1 : Nat, (∃ dn, r1 = dn ++ ys1 ∧ dn.length = i1) ∧ words_Split_l1 j1 ys1 i1 = some r ∧ Sx w [] φ1 [] [(4, v1), (9, v1), (10, iV (r1.length : Int)), (11, iV (i1 : Int))] 19 a w') List.length r1 ⟨0, ⟨[], rfl, rfl⟩, h, S.nf [] rfl (subR rfl)⟩ ?_)
  clear S h;rintro ys1 a w2 ⟨i1, ⟨dn, hd1, hi1⟩, h, S⟩
  cases ys1 with
  | nil =>
   rw [words_Split_l1.eq_1] at h
   refine Fs (Fg (lv S (rn_lss (S.tm rfl) (S.tm rfl)) rfl ?_));clear S;intro a S
   refine Ld ?_
   replace S := S.nk [] [(4, v1), (9, v1), (10, iV (r1.length : Int)), (11, iV (i1 : Int)), (12, bV (decide ((i1 : Int) < (r1.length : Int))))] [] rfl (subR rfl)
   refine Tn (Fs (wp_cond_false ((S.tm rfl).trans (congrArg Value.bool (rng_nil hd1 hi1))) (wp_exit (then_x (then_x (x_same ?_))))))
   refine Tn ?_
   exact ⟨h, S.nf [] rfl ⟨rfl, trivial⟩⟩
  | cons y1 ys1 =>
   rw [words_Split_l1.eq_2] at h
   refine Fs (Fg (lv S (rn_lss (S.tm rfl) (S.tm rfl)) rfl ?_));clear S;intro a S
   refine Ld ?_
   replace S := S.nk [] [(4, v1), (9, v1), (10, iV (r1.length : Int)), (11, iV (i1 : Int)), (12, bV (decide ((i1 : Int) < (r1.length : Int))))] [] rfl (subR rfl)
   refine Tn (Fs (wp_cond_true ((S.tm rfl).trans (congrArg Value.bool (rng_cons hd1 hi1))) (wp_skip (Tn (Fs (wp_block ?_))))))
   refine Fs (Fg ?_)
   obtain ⟨b1, o1, hm2, hr2⟩ := rn_indexT (a := a) (x := .tmp 9) (y := .tmp 11) (ty := 0) sl_64 (ownV_slcT enc_str hs1) (get_mid hd1 hi1) rfl (S.tm rfl) (S.tm rfl)
   refine lv S (hr2 _) rfl ?_;clear S;intro a S
   clear hr2
   refine lv S (rn_ld Tryz.isAgg9 (off := o1) (o := 0) (S.tm rfl) (hm2.at S.emb) rfl) rfl ?_;clear S;intro a S
   refine lv S (Ra (S.tm rfl)) rfl ?_;clear S;intro a S
   refine Ld (Tn (Fs (Fg (lv S (Rm (S.tm rfl)) rfl ?_))));clear S;intro a S
   refine lv S (rn_seql (S.tm rfl) rfl) rfl ?_;clear S;intro a S
   refine Ld (Tn (f_cond (S.tm rfl) (fun hb1 => ?_) (fun hb1 => ?_)))
   ·replace h := iteT h hb1
    refine Fs (Fg (lv S (Ra rfl) rfl ?_));clear S;intro a S
    refine lv S (Ra rfl) rfl ?_;clear S;intro a S
    refine Ld (Tn (wp_ret (blk_r (then_r (then_r (blk_r ?_))))))
    refine then_r (then_r ?_)
    obtain rfl := Option.some.inj h
    exact f_ret2 S Tryz.results31 rfl rfl ⟨_, rfl, (ownV_nil _ _ _)⟩
   ·replace h := iteF h hb1
    refine wp_skip (blk_n (Tn (Fg (lv S (rn_add (S.tm rfl) rfl) rfl ?_))));clear S;intro a S
    refine lv S (Rm (S.tm rfl)) rfl ?_;clear S;intro a S
    refine Ld (Tn ?_)
    exact ⟨ys1, ⟨i1 + 1, ⟨_, (hd1).trans (List.append_cons _ _ _), by simp [hi1]⟩, h, S.nf [] rfl ⟨rfl, rfl, rfl, (congrArg (fun z => some (Value.int .i64 z)) (rng_next hd1 hi1 (slc_max (ownV_slcT enc_str hs1)))), trivial⟩⟩, Nat.lt_succ_self _⟩
 clear S h;rintro a w3 ⟨h, S⟩;rw [hj1] at h;clear hj1 j1
 refine Tn (Fs (Fg (lv S (Rm (S.tm rfl)) rfl ?_)));clear S;intro a S
 refine lv S (Ra (S.tm rfl)) rfl ?_;clear S;intro a S
 refine lv S (Ra rfl) rfl ?_;clear S;intro a S
 refine Ld (Tn (wp_ret ?_))
 obtain rfl := Option.some.inj h
 exact f_ret2 S Tryz.results31 rfl rfl ⟨_, rfl, ((hs1).mono S.le_newer)⟩
theorem strings_CutPrefix_ok (w : World) (s : ByteArray) (p : ByteArray) (r : ByteArray × Bool) (h : strings_CutPrefix s p = r) : Calls Tryz.prog 62 [sV s, sV p].toArray w (Ret w [] fun _ v _ => v = .tuple #[.string r.1, .bool r.2]) := by
  subst h
  exact ret_of_same (Any.strings_CutPrefix Tryz.lays103 s p w)
theorem strconv_Atoi_ok (w : World) (s : ByteArray) (r : Int) (h : strconv_Atoi s = some r) : Calls Tryz.prog 63 [sV s].toArray w (Ret w [] fun _ v _ => v = .tuple #[.int .i64 r, .nilIface]) := by
  unfold strconv_Atoi at h
  obtain ⟨hc, h⟩ := chkE h
  simp only [Bool.and_eq_true, decide_eq_true_eq] at hc
  exact ret_of_bytes (Any.strconv_Atoi Tryz.lays172 s r hc h w)
set_option maxRecDepth 20000 in
theorem words_Number_ok (w : World) (Ad : ByteArray) (Ac : Int) (r : Int × Bool) (h : words_Number Ad Ac = some r) :
    Calls Tryz.prog 50 [sV Ad, iV Ac].toArray w (Ret w [] fun _ v _ => v = .tuple #[iV r.1, bV r.2]) := by
 refine f_enter [] [] Tryz.func50 rfl Tryz.ntmps50 rfl (by simp) (by simp [fps]) (by simp [fps]) fun a S => ?_
 unfold words_Number at h
 replace S := S.nk [] [(0, sV Ad), (1, iV Ac)] [] rfl (subR rfl)
 refine Fs (Fg (lv S (Ra rfl) rfl ?_));clear S;intro a S
 refine lv S (Ra rfl) rfl ?_;clear S;intro a S
 refine Ld (Tn (Fs (Fg (lv S (Rm (S.tm rfl)) rfl ?_))));clear S;intro a S
 refine l_enter S (fun _ => run_call (vs := [sV Ad, sV k__2d]) ⟨(S.tm rfl), rfl, trivial⟩ Tryz.call62) (strings_CutPrefix_ok _ Ad k__2d _ rfl) rfl ?_;clear S;intro v1 a w1 hv1 hk1 hn1 S
 subst hv1
 refine lv S (Rm (S.tm rfl)) rfl ?_;clear S;intro a S
 refine lv S (rn_extract (S.tm rfl) rfl) rfl ?_;clear S;intro a S
 refine lv S (rn_extract (S.tm rfl) rfl) rfl ?_;clear S;intro a S
 refine lv S (Ra (S.tm rfl)) rfl ?_;clear S;intro a S
 refine lv S (Ra (S.tm rfl)) rfl ?_;clear S;intro a S
 refine Ld (Tn (Fs (Fs (Fg (lv S (Rm (S.tm rfl)) rfl ?_)))));clear S;intro a S
 refine lv S (rn_seql (S.tm rfl) rfl) rfl ?_;clear S;intro a S
 refine lv S (Rm (S.tm rfl)) rfl ?_;clear S;intro a S
 refine f_cutm 5 (fun a w' => Keep [] w1 w' ∧ Sx w [] nov [] [(0, sV Ad), (6, sV ((strings_CutPrefix Ad k__2d).1)), (7, bV ((strings_CutPrefix Ad k__2d).2)), (22, bV ((decide (((strings_CutPrefix Ad k__2d).1) = k_empty)) || (decide (Ac < (((strings_CutPrefix Ad k__2d).1).size : Int)))))] 48 a w') ?_ ?_
 ·rcases Bool.eq_false_or_eq_true (decide (((strings_CutPrefix Ad k__2d).1) = k_empty)) with hb1 | hb1
  ·iterate 4 (refine l_skip S rfl rfl rfl (neq_t hb1) rfl ?_ rfl;clear S;intro a S)
   refine lv S (rn_or_t (decide (Ac < (((strings_CutPrefix Ad k__2d).1).size : Int))) hb1 (S.tm rfl) rfl) rfl ?_;clear S;intro a S
   refine Ld (Tn ?_)
   exact ⟨Keep.refl _ _, S.nf [] rfl (subR rfl)⟩
  ·refine l_want S rfl rfl rfl hb1 (lv S (Rm (S.tm rfl)) rfl ?_);clear S;intro a S
   refine l_want S rfl rfl rfl hb1 (lv S (rn_len_str Tryz.underlying9 (S.tm rfl)) rfl ?_);clear S;intro a S
   refine l_want S rfl rfl rfl hb1 (lv S (Rm (S.tm rfl)) rfl ?_);clear S;intro a S
   refine l_want S rfl rfl rfl hb1 (lv S (rn_gtr (S.tm rfl) (S.tm rfl)) rfl ?_);clear S;intro a S
   refine lv S (rn_or_f hb1 (S.tm rfl) (S.tm rfl)) rfl ?_;clear S;intro a S
   refine Ld (Tn ?_)
   exact ⟨Keep.refl _ _, S.nf [] rfl (subR rfl)⟩
 clear S;rintro a w2 ⟨hk2, S⟩
 refine lv S (Rm (S.tm rfl)) rfl ?_;clear S;intro a S
 obtain ⟨j1, hj1, h⟩ := joinE h
 refine f_cutm 4 (fun a w' => ∃ c1, j1 c1 = some r ∧ Keep [] w2 w' ∧ Sx w [] nov [] [(0, sV Ad), (6, sV ((strings_CutPrefix Ad k__2d).1)), (7, bV ((strings_CutPrefix Ad k__2d).2)), (27, bV c1)] 48 a w') ?_ ?_
 ·rcases Bool.eq_false_or_eq_true ((decide (((strings_CutPrefix Ad k__2d).1) = k_empty)) || (decide (Ac < (((strings_CutPrefix Ad k__2d).1).size : Int)))) with hb2 | hb2
  ·replace h := iteT h hb2
   iterate 3 (refine l_skip S rfl rfl rfl (neq_t hb2) rfl ?_ rfl;clear S;intro a S)
   refine lv S (rn_or_t true hb2 (S.tm rfl) rfl) rfl ?_;clear S;intro a S
   refine Ld (Tn ?_)
   exact ⟨_, h, Keep.refl _ _, S.nf [] rfl (subR rfl)⟩
  ·replace h := iteF h hb2
   refine l_want S rfl rfl rfl hb2 (lv S (Rm (S.tm rfl)) rfl ?_);clear S;intro a S
   refine l_want S rfl rfl rfl hb2 ?_
   obtain ⟨r1, hr1, h⟩ := bindE h
   refine l_enter S (fun _ => run_call (vs := [sV ((strings_CutPrefix Ad k__2d).1), sV k_0123456789]) ⟨(S.tm rfl), rfl, trivial⟩ Tryz.call56) (strings_Trim_ok _ ((strings_CutPrefix Ad k__2d).1) k_0123456789 _ hr1) rfl ?_;clear S;intro v2 a w4 hv2 hk3 hn2 S
   subst hv2
   refine l_want S rfl rfl rfl hb2 (lv S (rn_sneq (S.tm rfl) rfl) rfl ?_);clear S;intro a S
   refine lv S (rn_or_f hb2 (S.tm rfl) (S.tm rfl)) rfl ?_;clear S;intro a S
   refine Ld (Tn ?_)
   exact ⟨_, h, hk3, S.nf [] rfl (subR rfl)⟩
 clear S h;rintro a w3 ⟨c1, h, hk4, S⟩;rw [hj1] at h;clear hj1 j1
 refine lv S (Rm (S.tm rfl)) rfl ?_;clear S;intro a S
 obtain ⟨j2, hj2, h⟩ := joinE h
 refine f_cutm 11 (fun a w' => ∃ c2, j2 c2 = some r ∧ Keep [] w3 w' ∧ Sx w [] nov [] [(0, sV Ad), (39, bV c2)] 48 a w') ?_ ?_
 ·rcases Bool.eq_false_or_eq_true c1 with hb3 | hb3
  ·replace h := iteT h hb3
   iterate 4 (refine l_skip S rfl rfl rfl (neq_t hb3) rfl ?_ rfl;clear S;intro a S)
   iterate 5 (refine l_skipU S rfl rfl rfl rfl ?_;clear S;intro a S)
   refine l_skip S rfl rfl rfl (neq_t hb3) rfl ?_ rfl;clear S;intro a S
   refine lv S (rn_or_t true hb3 (S.tm rfl) rfl) rfl ?_;clear S;intro a S
   refine Ld (Tn ?_)
   exact ⟨_, h, Keep.refl _ _, S.nf [] rfl (subR rfl)⟩
  ·replace h := iteF h hb3
   refine l_want S rfl rfl rfl hb3 (lv S (Rm (S.tm rfl)) rfl ?_);clear S;intro a S
   refine l_want S rfl rfl rfl hb3 ?_
   obtain ⟨hc1, h⟩ := chkE h
   refine lv S (rn_sindexT Tryz.underlying9 (S.tm rfl) rfl hc1) rfl ?_;clear S;intro a S
   refine l_want S rfl rfl rfl hb3 (lv S (rn_eql (S.tm rfl) rfl) rfl ?_);clear S;intro a S
   refine l_want S rfl rfl rfl hb3 (lv S (Rm (S.tm rfl)) rfl ?_);clear S;intro a S
   refine f_cutm 6 (fun a w' => Keep [] w3 w' ∧ Sx w [] nov [] [(0, sV Ad), (28, bV c1), (38, bV ((decide ((sbyte ((strings_CutPrefix Ad k__2d).1) 0) = 48)) && ((!decide (((strings_CutPrefix Ad k__2d).1) = k_0)) || ((strings_CutPrefix Ad k__2d).2))))] 48 a w') ?_ ?_
   ·rcases Bool.eq_false_or_eq_true (decide ((sbyte ((strings_CutPrefix Ad k__2d).1) 0) = 48)) with hb4 | hb4
    ·refine l_want S rfl rfl rfl hb4 (lv S (Rm (S.tm rfl)) rfl ?_);clear S;intro a S
     refine l_want S rfl rfl rfl hb4 (lv S (rn_sneq (S.tm rfl) rfl) rfl ?_);clear S;intro a S
     refine l_want S rfl rfl rfl hb4 (lv S (Rm (S.tm rfl)) rfl ?_);clear S;intro a S
     refine f_cutm 2 (fun a w' => Keep [] w3 w' ∧ Sx w [] nov [] [(0, sV Ad), (28, bV c1), (32, bV (decide ((sbyte ((strings_CutPrefix Ad k__2d).1) 0) = 48))), (37, bV ((!decide (((strings_CutPrefix Ad k__2d).1) = k_0)) || ((strings_CutPrefix Ad k__2d).2)))] 48 a w') ?_ ?_
     ·rcases Bool.eq_false_or_eq_true (!decide (((strings_CutPrefix Ad k__2d).1) = k_0)) with hb5 | hb5
      ·refine l_skip S rfl rfl rfl (neq_t hb5) rfl ?_ rfl;clear S;intro a S
       refine l_want S rfl rfl rfl hb4 (lv S (rn_or_t ((strings_CutPrefix Ad k__2d).2) hb5 (S.tm rfl) rfl) rfl ?_);clear S;intro a S
       refine Ld (Tn ?_)
       exact ⟨Keep.refl _ _, S.nf [] rfl (subR rfl)⟩
      ·refine l_want S rfl rfl rfl hb5 (lv S (Rm (S.tm rfl)) rfl ?_);clear S;intro a S
       refine l_want S rfl rfl rfl hb4 (lv S (rn_or_f hb5 (S.tm rfl) (S.tm rfl)) rfl ?_);clear S;intro a S
       refine Ld (Tn ?_)
       exact ⟨Keep.refl _ _, S.nf [] rfl (subR rfl)⟩
     clear S;rintro a w7 ⟨hk5, S⟩
     refine l_want S rfl rfl rfl hb3 (lv S (rn_and_t hb4 (S.tm rfl) (S.tm rfl)) rfl ?_);clear S;intro a S
     refine Ld (Tn ?_)
     exact ⟨hk5, S.nf [] rfl (subR rfl)⟩
    ·iterate 3 (refine l_skip S rfl rfl rfl (neq_f hb4) rfl ?_ rfl;clear S;intro a S)
     refine l_skipU S rfl rfl rfl rfl ?_;clear S;intro a S
     refine l_skip S rfl rfl rfl (neq_f hb4) rfl ?_ rfl;clear S;intro a S
     refine l_want S rfl rfl rfl hb3 (lv S (rn_and_f ((!decide (((strings_CutPrefix Ad k__2d).1) = k_0)) || ((strings_CutPrefix Ad k__2d).2)) hb4 (S.tm rfl) rfl) rfl ?_);clear S;intro a S
     refine Ld (Tn ?_)
     exact ⟨Keep.refl _ _, S.nf [] rfl (subR rfl)⟩
   clear S;rintro a w6 ⟨hk6, S⟩
   refine lv S (rn_or_f hb3 (S.tm rfl) (S.tm rfl)) rfl ?_;clear S;intro a S
   refine Ld (Tn ?_)
   exact ⟨_, h, hk6, S.nf [] rfl (subR rfl)⟩
 clear S h;rintro a w5 ⟨c2, h, hk7, S⟩;rw [hj2] at h;clear hj2 j2
 refine Ld (Tn (f_cond (S.tm rfl) (fun hb6 => ?_) (fun hb6 => ?_)))
 ·replace h := iteT h hb6
  refine Fs (Fg (lv S (Ra rfl) rfl ?_));clear S;intro a S
  refine lv S (Ra rfl) rfl ?_;clear S;intro a S
  refine Ld (Tn (wp_ret (then_r ?_)))
  obtain rfl := Option.some.inj h
  exact f_ret2 S Tryz.results50 rfl rfl rfl
 ·replace h := iteF h hb6
  refine wp_skip (Tn (Fs (Fg (lv S (Rm (S.tm rfl)) rfl ?_))));clear S;intro a S
  obtain ⟨r2, hr2, h⟩ := bindE h
  refine l_enter S (fun _ => run_call (vs := [sV Ad]) ⟨(S.tm rfl), trivial⟩ Tryz.call63) (strconv_Atoi_ok _ Ad _ hr2) rfl ?_;clear S;intro v3 a w8 hv3 hk8 hn3 S
  subst hv3
  refine lv S (Rm (S.tm rfl)) rfl ?_;clear S;intro a S
  refine lv S (rn_extract (S.tm rfl) rfl) rfl ?_;clear S;intro a S
  refine lv S (rn_extract (S.tm rfl) rfl) rfl ?_;clear S;intro a S
  refine lv S (Ra (S.tm rfl)) rfl ?_;clear S;intro a S
  refine lv S (Ra (S.tm rfl)) rfl ?_;clear S;intro a S
  refine Ld (Tn (Fs (d_region [] ([]) Tryz.mixed S rfl (by kernel_rfl) ?_)));clear S;intro w9 hk9 hsel S
  refine d_rest [0, 1, 2, 3, 4] hsel (by kernel_rfl) rfl ?_
  clear hsel
  refine s_lv S rfl (Rm (S.tm rfl)) rfl ?_;clear S;intro a S
  refine s_lv S rfl (Rm (S.tm rfl)) rfl ?_;clear S;intro a S
  refine s_lv S rfl (rn_ifnileql Tryz.underlying53 (S.tm rfl)) rfl ?_;clear S;intro a S
  refine s_lv S rfl (Ra (S.tm rfl)) rfl ?_;clear S;intro a S
  refine s_lv S rfl (Ra (S.tm rfl)) rfl ?_;clear S;intro a S
  refine s_done ?_
  replace S := S.nk [] [(4, iV r2), (5, bV true)] [] rfl (subR rfl)
  refine Tn (wp_ret ?_)
  obtain rfl := Option.some.inj h
  exact f_ret2 S Tryz.results50 rfl rfl rfl
theorem words_Numbers_ok (w : World) (V : Value) (Aa : List ByteArray) (Ae : Slc (view w []) 1 V (Aa.map eStr)) (Ac : Int) (r : (List Int) × Bool) (h : words_Numbers Aa Ac = some r) :
    Calls Tryz.prog 32 [V, iV Ac].toArray w (Ret w [] fun τ v _ => ∃ u1 : Value, v = .tuple #[u1, bV r.2] ∧ OwnV τ 3 1 u1 r.1.length (r.1.flatMap eInt)) := by
 refine f_enter [] [] Tryz.func32 rfl Tryz.ntmps32 rfl (by simp) (by simp [fps]) (by simp [fps]) fun a S => ?_
 unfold words_Numbers at h
 replace S := S.nk [] [(0, V), (1, iV Ac)] [] rfl (subR rfl)
 refine Fs (Fg (lv S (Ra rfl) rfl ?_));clear S;intro a S
 refine lv S (Ra rfl) rfl ?_;clear S;intro a S
 refine Ld (Tn (Fs (Fg (lv S (Ra rfl) rfl ?_))));clear S;intro a S
 replace S := S.nil 3 1
 refine Ld (Tn (Fs (Fs (Fg (lv S (Rm (S.tm rfl)) rfl ?_)))));clear S;intro a S
 refine lv S (rn_lenT sl_64 (S.tm rfl) (slc_len Ae)) rfl ?_;clear S;intro a S
 refine lv S (Rm rfl) rfl ?_;clear S;intro a S
 refine Ld (Tn ?_)
 replace S := S.nk [.own (.slice none 0 0) 3 1 ([] : List Int).length (([] : List Int).flatMap eInt)] [(1, iV Ac), (6, (.slice none 0 0)), (11, V), (12, iV (Aa.length : Int)), (13, iV 0)] [true] rfl (subR rfl)
 obtain ⟨j1, hj1, h⟩ := joinE h
 refine f_join (fun a w' => ∃ x1 : List Int, ∃ v1 : Value, j1 x1 = some r ∧ Sx w [] nov [.own v1 3 1 x1.length (x1.flatMap eInt)] [(6, v1)] 31 a w') ?_ ?_
 ·refine wp_block (f_loop (fun (ys1 : List ByteArray) a w' => ∃ i1 : Nat, ∃ x1 : List Int, ∃ v1 : Value, (∃ dn, Aa = dn ++ ys1 ∧ dn.length = i1) ∧ words_Numbers_l1 Ac j1 ys1 i1 x1 = some r ∧ Sx w [] nov [.own v1 3 1 x1.length (x1.flatMap eInt)] [(1, iV Ac), (6, v1), (11, V), (12, iV (Aa.length : Int)), (13, iV (i1 : Int))] 31 a w') List.length Aa ⟨0, ([] : List Int), (.slice none 0 0), ⟨[], rfl, rfl⟩, h, S.nf [true] rfl (subR rfl)⟩ ?_)
  clear S h;rintro ys1 a w1 ⟨i1, x1, v1, ⟨dn, hd1, hi1⟩, h, S⟩
  cases ys1 with
  | nil =>
   rw [words_Numbers_l1.eq_1] at h
   refine Fs (Fg (lv S (rn_lss (S.tm rfl) (S.tm rfl)) rfl ?_));clear S;intro a S
   refine Ld ?_
   replace S := S.nk [.own v1 3 1 x1.length (x1.flatMap eInt)] [(1, iV Ac), (6, v1), (11, V), (12, iV (Aa.length : Int)), (13, iV (i1 : Int)), (14, bV (decide ((i1 : Int) < (Aa.length : Int))))] [true] rfl (subR rfl)
   refine Tn (Fs (wp_cond_false ((S.tm rfl).trans (congrArg Value.bool (rng_nil hd1 hi1))) (wp_exit (then_x (then_x (x_same ?_))))))
   refine Tn ?_
   exact ⟨x1, v1, h, S.nf [true] rfl ⟨rfl, trivial⟩⟩
  | cons y1 ys1 =>
   rw [words_Numbers_l1.eq_2] at h
   refine Fs (Fg (lv S (rn_lss (S.tm rfl) (S.tm rfl)) rfl ?_));clear S;intro a S
   refine Ld ?_
   replace S := S.nk [.own v1 3 1 x1.length (x1.flatMap eInt)] [(1, iV Ac), (6, v1), (11, V), (12, iV (Aa.length : Int)), (13, iV (i1 : Int)), (14, bV (decide ((i1 : Int) < (Aa.length : Int))))] [true] rfl (subR rfl)
   refine Tn (Fs (wp_cond_true ((S.tm rfl).trans (congrArg Value.bool (rng_cons hd1 hi1))) (wp_skip (Tn (Fs (wp_block ?_))))))
   refine Fs (Fg ?_)
   obtain ⟨b1, o1, hm1, hr1⟩ := rn_indexT (a := a) (x := .tmp 11) (y := .tmp 13) (ty := 0) sl_64 Ae (get_mid hd1 hi1) rfl (S.tm rfl) (S.tm rfl)
   refine lv S (hr1 _) rfl ?_;clear S;intro a S
   clear hr1
   refine lv S (rn_ld Tryz.isAgg9 (off := o1) (o := 0) (S.tm rfl) (hm1.at S.emb0) rfl) rfl ?_;clear S;intro a S
   refine lv S (Ra (S.tm rfl)) rfl ?_;clear S;intro a S
   refine Ld (Tn (Fs (Fg (lv S (Rm (S.tm rfl)) rfl ?_))));clear S;intro a S
   refine lv S (Rm (S.tm rfl)) rfl ?_;clear S;intro a S
   obtain ⟨r1, hr2, h⟩ := bindE h
   refine l_enter S (fun _ => run_call (vs := [sV y1, iV Ac]) ⟨(S.tm rfl), (S.tm rfl), trivial⟩ Tryz.call50) (words_Number_ok _ y1 Ac _ hr2) rfl ?_;clear S;intro v2 a w3 hv1 hk1 hn1 S
   subst hv1
   refine lv S (Rm (S.tm rfl)) rfl ?_;clear S;intro a S
   refine lv S (rn_extract (S.tm rfl) rfl) rfl ?_;clear S;intro a S
   refine lv S (rn_extract (S.tm rfl) rfl) rfl ?_;clear S;intro a S
   refine lv S (Ra (S.tm rfl)) rfl ?_;clear S;intro a S
   refine lv S (Ra (S.tm rfl)) rfl ?_;clear S;intro a S
   refine Ld ?_
   replace S := S.nk [.own v1 3 1 x1.length (x1.flatMap eInt)] [(1, iV Ac), (6, v1), (9, iV r1.1), (10, bV r1.2), (11, V), (12, iV (Aa.length : Int)), (13, iV (i1 : Int))] [true] rfl (subR rfl)
   refine Tn (Fs (Fs (Fg (lv S (Rm (S.tm rfl)) rfl ?_))));clear S;intro a S
   refine lv S (rn_not (S.tm rfl)) rfl ?_;clear S;intro a S
   refine Ld (Tn (f_cond (S.tm rfl) (fun hb1 => ?_) (fun hb1 => ?_)))
   ·replace h := iteT h hb1
    refine Fs (Fg (lv S (Ra rfl) rfl ?_));clear S;intro a S
    refine lv S (Ra rfl) rfl ?_;clear S;intro a S
    refine Ld (Tn (wp_ret (then_r (blk_r (then_r (then_r ?_))))))
    refine blk_r (then_r (then_r ?_))
    obtain rfl := Option.some.inj h
    exact f_ret2 S Tryz.results32 rfl rfl ⟨_, rfl, (ownV_nil _ _ _)⟩
   ·replace h := iteF h hb1
    refine wp_skip (Tn (Fg (lv S (Rm (S.tm rfl)) rfl ?_)));clear S;intro a S
    refine lv S (Rm (S.tm rfl)) rfl ?_;clear S;intro a S
    refine l_buildSlice S Tryz.underlying22 Tryz.sizeOf3 Tryz.zeroValue3 rfl rfl (pv := [(0, iV r1.1)]) ⟨rfl, (S.tm rfl), trivial⟩ (cs := [iV r1.1]) (by kernel_rfl) rfl ?_;clear S;intro a w4 b2 hz1 hk2 S
    obtain ⟨hc1, h⟩ := chkE h
    refine l_appendT sl_22 enc_int S (S.tm rfl) (i := 1) rfl (S.tm rfl) (j := 0) rfl (ys := [r1.1]) rfl rfl rfl rfl (by have := room_lt hc1;omega) rfl ?_;clear S;intro v3 a w5 hk3 S
    refine lv S (Ra (S.tm rfl)) rfl ?_;clear S;intro a S
    refine Ld (blk_n (Tn (Fg (lv S (rn_add (S.tm rfl) rfl) rfl ?_))));clear S;intro a S
    refine lv S (Rm (S.tm rfl)) rfl ?_;clear S;intro a S
    refine Ld (Tn ?_)
    exact ⟨ys1, ⟨i1 + 1, (x1 ++ [r1.1]), v3, ⟨_, (hd1).trans (List.append_cons _ _ _), by simp [hi1]⟩, h, S.nf [false, true] rfl ⟨rfl, rfl, rfl, rfl, (congrArg (fun z => some (Value.int .i64 z)) (rng_next hd1 hi1 (slc_max Ae))), trivial⟩⟩, Nat.lt_succ_self _⟩
 clear S h;rintro a w2 ⟨x1, v1, h, S⟩;rw [hj1] at h;clear hj1 j1
 refine Tn (Fs (Fg (lv S (Rm (S.tm rfl)) rfl ?_)));clear S;intro a S
 refine lv S (Ra (S.tm rfl)) rfl ?_;clear S;intro a S
 refine lv S (Ra rfl) rfl ?_;clear S;intro a S
 refine Ld (Tn (wp_ret ?_))
 obtain rfl := Option.some.inj h
 exact f_ret2 S Tryz.results32 rfl rfl ⟨_, rfl, (own_retT S (i := 0) rfl rfl)⟩
theorem session_Read_c1_ok (w : World) (X : List Nat) (Au : ByteArray) (Ao : Nat) (Ah : Value) (Aj : List GItem) (Bo : (LEnt.own Ah 38 5 Aj.length (Aj.flatMap GItem.enc)).holds w) (Be : (LEnt.blk Ao [Ah] 26).holds w) (hg_maxlen : GlobI (view w X) 1) (hXn : X.Nodup) (hXe : X = fps [.blk Ao [Ah] 26, .own Ah 38 5 Aj.length (Aj.flatMap GItem.enc)]) (r : Bool × (List GItem)) (h : session_Read_c1 Au Aj = some r) :
    Calls Tryz.prog 30 [sV Au, .pointer (some ⟨Ao, 0, none⟩)].toArray w (Ret w X fun _ v w' => ∃ y1 : Value, Grp w w' X [.blk Ao [y1] 26, .own y1 38 5 r.2.length (r.2.flatMap GItem.enc)] ∧ v = bV r.1) := by
 refine f_enter X [.blk Ao [Ah] 26, .own Ah 38 5 Aj.length (Aj.flatMap GItem.enc)] Tryz.func30 rfl Tryz.ntmps30 rfl (fun e he => by simp only [List.mem_cons, List.not_mem_nil, or_false] at he;rcases he with rfl | rfl <;> assumption) (by rw [← hXe];exact hXn) (fun b hb => by rw [hXe];exact hb) fun a S => ?_
 unfold session_Read_c1 at h
 replace S := S.nk [.blk Ao [Ah] 26, .own Ah 38 5 Aj.length (Aj.flatMap GItem.enc)] [(0, sV Au), (1, .pointer (some ⟨Ao, 0, none⟩))] [true, true] rfl (subR rfl)
 refine Fs (Fg (lv S (Ra rfl) rfl ?_));clear S;intro a S
 refine Ld (Tn (Fs (Fg (lv S (Rm (S.tm rfl)) rfl ?_))));clear S;intro a S
 obtain ⟨r1, hr1, h⟩ := bindE h
 have hz1 := S.keep.size
 refine l_enter S (fun _ => run_call (vs := [sV Au]) ⟨(S.tm rfl), trivial⟩ Tryz.call31) (words_Split_ok _ Au (hg_maxlen.mono (S.le_arg nil_sub)) _ hr1) rfl ?_;clear S;intro v1 a w1 hv1 hk1 hn1 S
 obtain ⟨u1, rfl, ho1⟩ := hv1
 obtain ⟨φ1, hl1, hm1, S⟩ := S.see' hn1 hz1
 have hs1 := ho1.mono hm1
 refine lv S (Rm (S.tm rfl)) rfl ?_;clear S;intro a S
 refine lv S (rn_extract (S.tm rfl) rfl) rfl ?_;clear S;intro a S
 refine lv S (rn_extract (S.tm rfl) rfl) rfl ?_;clear S;intro a S
 refine lv S (Ra (S.tm rfl)) rfl ?_;clear S;intro a S
 refine lv S (Ra (S.tm rfl)) rfl ?_;clear S;intro a S
 refine Ld (Tn (Fs (Fs (Fg (lv S (Rm (S.tm rfl)) rfl ?_)))));clear S;intro a S
 refine lv S (rn_not (S.tm rfl)) rfl ?_;clear S;intro a S
 refine lv S (Rm (S.tm rfl)) rfl ?_;clear S;intro a S
 refine f_cutm 4 (fun a w' => Keep [] w1 w' ∧ Sx w X φ1 [.blk Ao [Ah] 26, .own Ah 38 5 Aj.length (Aj.flatMap GItem.enc)] [(1, .pointer (some ⟨Ao, 0, none⟩)), (4, u1), (19, bV ((!r1.2) || (!decide ((r1.1.length : Int) = 5))))] 47 a w') ?_ ?_
 ·rcases Bool.eq_false_or_eq_true (!r1.2) with hb1 | hb1
  ·iterate 3 (refine l_skip S rfl rfl rfl (neq_t hb1) rfl ?_ rfl;clear S;intro a S)
   refine lv S (rn_or_t (!decide ((r1.1.length : Int) = 5)) hb1 (S.tm rfl) rfl) rfl ?_;clear S;intro a S
   refine Ld (Tn ?_)
   exact ⟨Keep.refl _ _, S.nf [true, true] rfl (subR rfl)⟩
  ·refine l_want S rfl rfl rfl hb1 (lv S (Rm (S.tm rfl)) rfl ?_);clear S;intro a S
   refine l_want S rfl rfl rfl hb1 (lv S (rn_lenT sl_64 (S.tm rfl) (slc_len (ownV_slcT enc_str hs1))) rfl ?_);clear S;intro a S
   refine l_want S rfl rfl rfl hb1 (lv S (rn_neq (S.tm rfl) rfl) rfl ?_);clear S;intro a S
   refine lv S (rn_or_f hb1 (S.tm rfl) (S.tm rfl)) rfl ?_;clear S;intro a S
   refine Ld (Tn ?_)
   exact ⟨Keep.refl _ _, S.nf [true, true] rfl (subR rfl)⟩
 clear S;rintro a w2 ⟨hk2, S⟩
 refine Ld (Tn (f_cond (S.tm rfl) (fun hb2 => ?_) (fun hb2 => ?_)))
 ·replace h := iteT h hb2
  refine Fs (Fg (lv S (Ra rfl) rfl ?_));clear S;intro a S
  refine Ld (Tn (wp_ret (then_r ?_)))
  obtain rfl := Option.some.inj h
  exact f_ret S Tryz.results30 rfl ⟨Ah, S.grp [0, 1] [] rfl rfl rfl, rfl⟩
 ·replace h := iteF h hb2
  refine wp_skip (Tn (Fs (Fg (lv S (Rm (S.tm rfl)) rfl ?_))));clear S;intro a S
  obtain ⟨hc1, h⟩ := chkE h
  obtain ⟨v2, hs2, hr2⟩ := rn_cutTl (a := a) (x := .tmp 21) (y := .const (iV 1)) (ty := 64) sl_64 (ownV_slcT enc_str hs1) (S.tm rfl) rfl hc1
  refine lv S (hr2 _) rfl ?_;clear S;intro a S
  clear hr2
  obtain ⟨r2, hr3, h⟩ := bindE h
  have hz2 := S.keep.size
  refine l_enter S (fun _ => run_call (vs := [v2, iV 15]) ⟨(S.tm rfl), rfl, trivial⟩ Tryz.call32) (words_Numbers_ok _ v2 (cut r1.1 1 r1.1.length) (hs2.mono (S.le_new nil_sub)) 15 _ hr3) rfl ?_;clear S;intro v3 a w3 hv2 hk3 hn2 S
  obtain ⟨u2, rfl, ho2⟩ := hv2
  obtain ⟨φ2, hl2, hm2, S⟩ := S.see' hn2 hz2
  have hs3 := ho2.mono hm2
  refine lv S (Rm (S.tm rfl)) rfl ?_;clear S;intro a S
  refine lv S (rn_extract (S.tm rfl) rfl) rfl ?_;clear S;intro a S
  refine lv S (rn_extract (S.tm rfl) rfl) rfl ?_;clear S;intro a S
  refine lv S (Ra (S.tm rfl)) rfl ?_;clear S;intro a S
  refine lv S (Ra (S.tm rfl)) rfl ?_;clear S;intro a S
  refine Ld (Tn (Fs (Fs (Fg (lv S (Rm (S.tm rfl)) rfl ?_)))));clear S;intro a S
  refine lv S (rn_not (S.tm rfl)) rfl ?_;clear S;intro a S
  refine Ld (Tn (f_cond (S.tm rfl) (fun hb3 => ?_) (fun hb3 => ?_)))
  ·replace h := iteT h hb3
   refine Fs (Fg (lv S (Ra rfl) rfl ?_));clear S;intro a S
   refine Ld (Tn (wp_ret (then_r ?_)))
   obtain rfl := Option.some.inj h
   exact f_ret S Tryz.results30 rfl ⟨Ah, S.grp [0, 1] [] rfl rfl rfl, rfl⟩
  ·replace h := iteF h hb3
   refine wp_skip (Tn (Fs ?_))
   obtain ⟨hc2, h⟩ := chkE h
   obtain ⟨hc3, h⟩ := chkE h
   obtain ⟨hc4, h⟩ := chkE h
   obtain ⟨hc5, h⟩ := chkE h
   obtain ⟨hc6, h⟩ := chkE h
   obtain ⟨hc7, h⟩ := chkE h
   refine d_region [19] (Ah.ownBlock.toList) Tryz.mixed S rfl (by kernel_rfl) ?_;clear S;intro w7 hk7 hsel S
   refine d_quiet 0 S hsel rfl (by kernel_rfl) (by kernel_rfl) (by kernel_rfl) (by kernel_rfl) rfl (fun _ hw => (rn_ld Tryz.isAgg26 (off := 0) (o := 0) (S.tm rfl) ((S.blk_mem (i := 0) (cells := [Ah]) (b := Ao) (T := 26) rfl (ne_fp (i := 1) (j := 0) (e := .own Ah 38 5 Aj.length (Aj.flatMap GItem.enc)) (e' := .blk Ao [Ah] 26) S rfl rfl rfl)).kept hw) rfl)) ?_;clear S;intro a S
   refine d_pure 1 S hsel rfl rfl (by kernel_rfl) (by kernel_rfl) rfl (fun _ => (Rm (S.tm rfl))) ?_;clear S;intro a S
   obtain ⟨b7, o6, hm8, hr9⟩ := rn_indexT (a := a) (x := .tmp 29) (y := .const (iV 0)) (ty := 0) sl_64 ((ownV_slcT enc_str hs1).mono (View.le_trans hl2 (S.le_new (fp_sub (i := 1) (e := .own Ah 38 5 Aj.length (Aj.flatMap GItem.enc)) rfl)))) (inB_get hc2).1 (inB_get hc2).2 (S.tm rfl) rfl
   refine d_pure 2 S hsel rfl rfl (by kernel_rfl) (by kernel_rfl) rfl (fun _ => hr9 _) ?_;clear S;intro a S
   clear hr9
   refine d_quiet 3 S hsel rfl (by kernel_rfl) (by kernel_rfl) (by kernel_rfl) (by kernel_rfl) rfl (fun _ hw => (rn_ld Tryz.isAgg9 (off := o6) (o := 0) (S.tm rfl) (hm8.kept hw) rfl)) ?_;clear S;intro a S
   refine d_pure 4 S hsel rfl rfl (by kernel_rfl) (by kernel_rfl) rfl (fun _ => (Rm (S.tm rfl))) ?_;clear S;intro a S
   obtain ⟨b8, o7, hm9, hr10⟩ := rn_indexT (a := a) (x := .tmp 32) (y := .const (iV 0)) (ty := 0) sl_22 ((ownV_slcT enc_int hs3).mono (S.le_new (fp_sub (i := 1) (e := .own Ah 38 5 Aj.length (Aj.flatMap GItem.enc)) rfl))) (inB_get hc3).1 (inB_get hc3).2 (S.tm rfl) rfl
   refine d_pure 5 S hsel rfl rfl (by kernel_rfl) (by kernel_rfl) rfl (fun _ => hr10 _) ?_;clear S;intro a S
   clear hr10
   refine d_quiet 6 S hsel rfl (by kernel_rfl) (by kernel_rfl) (by kernel_rfl) (by kernel_rfl) rfl (fun _ hw => (rn_ld Tryz.isAgg3 (off := o7) (o := 0) (S.tm rfl) (hm9.kept hw) rfl)) ?_;clear S;intro a S
   refine d_pure 7 S hsel rfl rfl (by kernel_rfl) (by kernel_rfl) rfl (fun _ => (Rm (S.tm rfl))) ?_;clear S;intro a S
   obtain ⟨b9, o8, hm10, hr11⟩ := rn_indexT (a := a) (x := .tmp 35) (y := .const (iV 1)) (ty := 0) sl_22 ((ownV_slcT enc_int hs3).mono (S.le_new (fp_sub (i := 1) (e := .own Ah 38 5 Aj.length (Aj.flatMap GItem.enc)) rfl))) (inB_get hc4).1 (inB_get hc4).2 (S.tm rfl) rfl
   refine d_pure 8 S hsel rfl rfl (by kernel_rfl) (by kernel_rfl) rfl (fun _ => hr11 _) ?_;clear S;intro a S
   clear hr11
   refine d_quiet 9 S hsel rfl (by kernel_rfl) (by kernel_rfl) (by kernel_rfl) (by kernel_rfl) rfl (fun _ hw => (rn_ld Tryz.isAgg3 (off := o8) (o := 0) (S.tm rfl) (hm10.kept hw) rfl)) ?_;clear S;intro a S
   refine d_pure 10 S hsel rfl rfl (by kernel_rfl) (by kernel_rfl) rfl (fun _ => (Rm (S.tm rfl))) ?_;clear S;intro a S
   obtain ⟨b10, o9, hm11, hr12⟩ := rn_indexT (a := a) (x := .tmp 38) (y := .const (iV 2)) (ty := 0) sl_22 ((ownV_slcT enc_int hs3).mono (S.le_new (fp_sub (i := 1) (e := .own Ah 38 5 Aj.length (Aj.flatMap GItem.enc)) rfl))) (inB_get hc5).1 (inB_get hc5).2 (S.tm rfl) rfl
   refine d_pure 11 S hsel rfl rfl (by kernel_rfl) (by kernel_rfl) rfl (fun _ => hr12 _) ?_;clear S;intro a S
   clear hr12
   refine d_quiet 12 S hsel rfl (by kernel_rfl) (by kernel_rfl) (by kernel_rfl) (by kernel_rfl) rfl (fun _ hw => (rn_ld Tryz.isAgg3 (off := o9) (o := 0) (S.tm rfl) (hm11.kept hw) rfl)) ?_;clear S;intro a S
   refine d_pure 13 S hsel rfl rfl (by kernel_rfl) (by kernel_rfl) rfl (fun _ => (Rm (S.tm rfl))) ?_;clear S;intro a S
   obtain ⟨b11, o10, hm12, hr13⟩ := rn_indexT (a := a) (x := .tmp 41) (y := .const (iV 3)) (ty := 0) sl_22 ((ownV_slcT enc_int hs3).mono (S.le_new (fp_sub (i := 1) (e := .own Ah 38 5 Aj.length (Aj.flatMap GItem.enc)) rfl))) (inB_get hc6).1 (inB_get hc6).2 (S.tm rfl) rfl
   refine d_pure 14 S hsel rfl rfl (by kernel_rfl) (by kernel_rfl) rfl (fun _ => hr13 _) ?_;clear S;intro a S
   clear hr13
   refine d_quiet 15 S hsel rfl (by kernel_rfl) (by kernel_rfl) (by kernel_rfl) (by kernel_rfl) rfl (fun _ hw => (rn_ld Tryz.isAgg3 (off := o10) (o := 0) (S.tm rfl) (hm12.kept hw) rfl)) ?_;clear S;intro a S
   refine d_pure 16 S hsel rfl rfl (by kernel_rfl) (by kernel_rfl) rfl (fun _ => (rn_bld bt_38 (pv := [(0, sV (nth r1.1 0)), (1, iV (nth r2.1 0)), (2, iV (nth r2.1 1)), (3, iV (nth r2.1 2)), (4, iV (nth r2.1 3))]) ⟨rfl, (S.tm rfl), rfl, (S.tm rfl), rfl, (S.tm rfl), rfl, (S.tm rfl), rfl, (S.tm rfl), trivial⟩ (cs := [sV (nth r1.1 0), iV (nth r2.1 0), iV (nth r2.1 1), iV (nth r2.1 2), iV (nth r2.1 3)]) (by kernel_rfl))) ?_;clear S;intro a S
   refine d_loud1 17 (by kernel_rfl) rfl (l_buildSlice S Tryz.underlying26 Tryz.sizeOf38 Tryz.zeroValue38 rfl rfl (pv := [(0, .agg #[sV (nth r1.1 0), iV (nth r2.1 0), iV (nth r2.1 1), iV (nth r2.1 2), iV (nth r2.1 3)])]) ⟨rfl, (S.tm rfl), trivial⟩ (cs := [sV (nth r1.1 0), iV (nth r2.1 0), iV (nth r2.1 1), iV (nth r2.1 2), iV (nth r2.1 3)]) (by kernel_rfl) rfl ?_);clear S;intro a w8 b12 hz4 hk8 S
   refine Ld (d_next (Keep.none hk8) (d_loud1 18 (by kernel_rfl) rfl ?_))
   refine l_appendT sl_26 GItem.enc_ok S (S.tm rfl) (i := 2) rfl (S.tm rfl) (j := 0) rfl (ys := [(GItem.mk (nth r1.1 0) (nth r2.1 0) (nth r2.1 1) (nth r2.1 2) (nth r2.1 3))]) rfl rfl rfl rfl (by have := room_lt hc7;omega) rfl ?_;clear S;intro v5 a w9 hk9 S
   refine Ld (d_next hk9 (d_loudB 19 (v5.ownBlock.toList ++ [Ao]) rfl (by kernel_rfl) rfl (l_store S (S.tm rfl) (S.tm rfl) (i := 1) (off := 0) rfl Tryz.sizeOf26 (vs := [v5]) (SlcLen.cells (own_len (S.own_at (i := 2) rfl))) rfl rfl (all1 (SlcLen.one (own_len (S.own_at (i := 2) rfl))) rfl) ?_)));clear S;intro w10 hk10 S
   refine Ld (d_nextB (d_end (by kernel_rfl) ?_))
   clear hsel
   replace S := S.nk [.blk Ao [v5] 26, .own v5 38 5 (Aj ++ [(GItem.mk (nth r1.1 0) (nth r2.1 0) (nth r2.1 1) (nth r2.1 2) (nth r2.1 3))]).length ((Aj ++ [(GItem.mk (nth r1.1 0) (nth r2.1 0) (nth r2.1 1) (nth r2.1 2) (nth r2.1 3))]).flatMap GItem.enc)] [] [false, true, true] rfl trivial
   refine Tn (Fs (Fg (lv S (Ra rfl) rfl ?_)));clear S;intro a S
   refine Ld (Tn (wp_ret ?_))
   obtain rfl := Option.some.inj h
   exact f_ret S Tryz.results30 rfl ⟨v5, S.grp [0, 1] [] rfl rfl rfl, rfl⟩
theorem words_Lines_session_Read_c1_ok (w : World) (X : List Nat) (As : ByteArray) (Ab : Nat) (Ai : Value) (Ak : List GItem) (Bj : (LEnt.own Ai 38 5 Ak.length (Ak.flatMap GItem.enc)).holds w) (Bk : (LEnt.blk Ab [Ai] 26).holds w) (hg_maxlen : GlobI (view w X) 1) (hXn : X.Nodup) (hXe : X = fps [.blk Ab [Ai] 26, .own Ai 38 5 Ak.length (Ak.flatMap GItem.enc)]) (r : Int × Bool × (List GItem)) (h : words_Lines_session_Read_c1 As Ak = some r) :
    Calls Tryz.prog 29 [sV As, .func (.func 30) #[] #[.pointer (some ⟨Ab, 0, none⟩)]].toArray w (Ret w X fun _ v w' => ∃ y1 : Value, Grp w w' X [.blk Ab [y1] 26, .own y1 38 5 r.2.2.length (r.2.2.flatMap GItem.enc)] ∧ v = .tuple #[iV r.1, bV r.2.1]) := by
 refine f_enter X [.blk Ab [Ai] 26, .own Ai 38 5 Ak.length (Ak.flatMap GItem.enc)] Tryz.func29 rfl Tryz.ntmps29 rfl (fun e he => by simp only [List.mem_cons, List.not_mem_nil, or_false] at he;rcases he with rfl | rfl <;> assumption) (by rw [← hXe];exact hXn) (fun b hb => by rw [hXe];exact hb) fun a S => ?_
 unfold words_Lines_session_Read_c1 at h
 replace S := S.nk [.blk Ab [Ai] 26, .own Ai 38 5 Ak.length (Ak.flatMap GItem.enc)] [(0, sV As), (1, .func (.func 30) #[] #[.pointer (some ⟨Ab, 0, none⟩)])] [true, true] rfl (subR rfl)
 refine Fs (Fg (lv S (Ra rfl) rfl ?_));clear S;intro a S
 refine lv S (Ra rfl) rfl ?_;clear S;intro a S
 refine Ld (Tn (Fs (Fs (Fg (lv S (Ra rfl) rfl ?_)))));clear S;intro a S
 refine Ld (Tn ?_)
 replace S := S.nk [.blk Ab [Ai] 26, .own Ai 38 5 Ak.length (Ak.flatMap GItem.enc)] [(0, sV As), (1, .func (.func 30) #[] #[.pointer (some ⟨Ab, 0, none⟩)]), (6, iV 0)] [true, true] rfl (subR rfl)
 obtain ⟨j1, hj1, h⟩ := joinE h
 refine f_join (fun a w' => ∃ x1 : List GItem, ∃ v1 : Value, j1 x1 = some r ∧ Sx w X nov [.blk Ab [v1] 26, .own v1 38 5 x1.length (x1.flatMap GItem.enc)] [] 30 a w') ?_ ?_
 ·refine wp_block (f_loop (fun (m1 : Nat) a w' => ∃ x1 : List GItem, ∃ x2 : ByteArray, ∃ x3 : Int, ∃ v1 : Value, words_Lines_session_Read_c1_l1 j1 m1 x1 x2 x3 = some r ∧ Sx w X nov [.blk Ab [v1] 26, .own v1 38 5 x1.length (x1.flatMap GItem.enc)] [(0, sV x2), (1, .func (.func 30) #[] #[.pointer (some ⟨Ab, 0, none⟩)]), (6, iV x3)] 30 a w') id 4611686018427387904 ⟨Ak, As, 0, Ai, h, S.nf [true, true] rfl (subR rfl)⟩ ?_)
  clear S h;rintro m1 a w1 ⟨x1, x2, x3, v1, h, S⟩
  cases m1 with
  | zero => rw [words_Lines_session_Read_c1_l1.eq_1] at h;cases h
  | succ m1 =>
   rw [words_Lines_session_Read_c1_l1.eq_2] at h
   refine Fs (Fs (Fg (lv S (Rm (S.tm rfl)) rfl ?_)));clear S;intro a S
   refine lv S (rn_sneq (S.tm rfl) rfl) rfl ?_;clear S;intro a S
   refine Ld (Tn (f_cond (S.tm rfl) (fun hb1 => ?_) (fun hb1 => ?_)))
   ·replace h := iteT h hb1
    refine wp_skip (Tn (Fs (wp_block (Fs (Fg (lv S (Rm (S.tm rfl)) rfl ?_))))));clear S;intro a S
    obtain ⟨r1, hr1, h⟩ := bindE h
    refine l_enter S (fun _ => run_call (vs := [sV x2, sV k__0a]) ⟨(S.tm rfl), rfl, trivial⟩ Tryz.call49) (strings_Cut_ok _ x2 k__0a (hg_maxlen.mono (S.le_arg nil_sub)) _ hr1) rfl ?_;clear S;intro v2 a w3 hv1 hk1 hn1 S
    subst hv1
    refine lv S (Rm (S.tm rfl)) rfl ?_;clear S;intro a S
    iterate 3 (refine lv S (rn_extract (S.tm rfl) rfl) rfl ?_;clear S;intro a S)
    iterate 3 (refine lv S (Ra (S.tm rfl)) rfl ?_;clear S;intro a S)
    refine Ld (Tn (Fs (Fs (Fg (lv S (Rm (S.tm rfl)) rfl ?_)))));clear S;intro a S
    refine lv S (rn_not (S.tm rfl)) rfl ?_;clear S;intro a S
    refine lv S (Rm (S.tm rfl)) rfl ?_;clear S;intro a S
    obtain ⟨j2, hj2, h⟩ := joinE h
    refine f_cutm 5 (fun a w' => ∃ x4 : List GItem, ∃ x5 : Bool, ∃ v3 : Value, j2 x4 x5 = some r ∧ Sx w X nov [.blk Ab [v3] 26, .own v3 38 5 x4.length (x4.flatMap GItem.enc)] [(1, .func (.func 30) #[] #[.pointer (some ⟨Ab, 0, none⟩)]), (6, iV x3), (8, sV r1.2.1), (27, bV x5)] 30 a w') ?_ ?_
    ·rcases Bool.eq_false_or_eq_true (!r1.2.2) with hb2 | hb2
     ·replace h := iteT h hb2
      iterate 4 (refine l_skip S rfl rfl rfl (neq_t hb2) rfl ?_ rfl;clear S;intro a S)
      refine lv S (rn_pick_b hb2 (S.tm rfl) rfl) rfl ?_;clear S;intro a S
      refine Ld (Tn ?_)
      exact ⟨x1, true, v1, h, S.nf [true, true] rfl (subR rfl)⟩
     ·replace h := iteF h hb2
      refine l_want S rfl rfl rfl hb2 (lv S (Rm (S.tm rfl)) rfl ?_);clear S;intro a S
      refine l_want S rfl rfl rfl hb2 (lv S (Rm (S.tm rfl)) rfl ?_);clear S;intro a S
      refine l_want S rfl rfl rfl hb2 ?_
      obtain ⟨r2, hr2, h⟩ := bindE h
      refine l_enterG [0, 1] [] (Ls := [.blk Ab [v1] 26, .own v1 38 5 x1.length (x1.flatMap GItem.enc)]) (Lr := []) (Y := [Ab] ++ v1.ownBlock.toList) S rfl rfl rfl (by simp [fps_cons, fps_nil, LEnt.fp]) (fun _ => run_callV (cap := [.pointer (some ⟨Ab, 0, none⟩)]) (S.tm rfl) (vs := [sV r1.1]) ⟨(S.tm rfl), trivial⟩ Tryz.call30) (session_Read_c1_ok _ ([Ab] ++ v1.ownBlock.toList) r1.1 Ab v1 x1 (S.holds _ (List.mem_of_getElem? (i := 1) rfl)) (S.holds _ (List.mem_of_getElem? (i := 0) rfl)) (hg_maxlen.mono (S.le_arg (app_sub (fp_sub (i := 0) (e := .blk Ab [v1] 26) rfl) (fp_sub (i := 1) (e := .own v1 38 5 x1.length (x1.flatMap GItem.enc)) rfl)))) (S.ndg [0, 1] [] rfl rfl rfl (by simp [fps_cons, fps_nil, LEnt.fp])) (by simp [fps_cons, fps_nil, LEnt.fp]) _ hr2) rfl ?_;clear S;intro v4 a w5 hv2 hk2 hn2 S
      obtain ⟨v5, hg1, hv2⟩ := hv2;replace S := S _ hg1;clear hg1
      subst hv2
      refine l_want S rfl rfl rfl hb2 (lv S (rn_not (S.tm rfl)) rfl ?_);clear S;intro a S
      refine lv S (rn_pick_c hb2 (S.tm rfl) (S.tm rfl)) rfl ?_;clear S;intro a S
      refine Ld (Tn ?_)
      exact ⟨r2.2, !r2.1, v5, h, S.nf [true, true] rfl (subR rfl)⟩
    clear S h;rintro a w4 ⟨x4, x5, v3, h, S⟩;rw [hj2] at h;clear hj2 j2
    refine Ld (Tn (f_cond (S.tm rfl) (fun hb3 => ?_) (fun hb3 => ?_)))
    ·replace h := iteT h hb3
     refine Fs (Fg (lv S (Rm (S.tm rfl)) rfl ?_));clear S;intro a S
     refine lv S (Ra (S.tm rfl)) rfl ?_;clear S;intro a S
     refine lv S (Ra rfl) rfl ?_;clear S;intro a S
     refine Ld (Tn (wp_ret (then_r (blk_r (then_r (then_r ?_))))))
     refine blk_r (then_r (then_r ?_))
     obtain rfl := Option.some.inj h
     exact f_ret2 S Tryz.results29 rfl rfl ⟨v3, S.grp [0, 1] [] rfl rfl rfl, rfl⟩
    ·replace h := iteF h hb3
     refine wp_skip (Tn (Fg (lv S (Rm (S.tm rfl)) rfl ?_)));clear S;intro a S
     refine lv S (Ra (S.tm rfl)) rfl ?_;clear S;intro a S
     refine Ld (blk_n (Tn (Fg (lv S (Rm (S.tm rfl)) rfl ?_))));clear S;intro a S
     refine lv S (rn_add (S.tm rfl) rfl) rfl ?_;clear S;intro a S
     refine lv S (Ra (S.tm rfl)) rfl ?_;clear S;intro a S
     refine Ld (Tn ?_)
     exact ⟨m1, ⟨x4, r1.2.1, W (x3 + 1), v3, h, S.nf [true, true] rfl ⟨rfl, rfl, rfl, trivial⟩⟩, Nat.lt_succ_self _⟩
   ·replace h := iteF h hb1
    refine wp_exit (then_x (then_x (x_same (Tn ?_))))
    exact ⟨x1, v1, h, S.nf [true, true] rfl trivial⟩
 clear S h;rintro a w2 ⟨x1, v1, h, S⟩;rw [hj1] at h;clear hj1 j1
 refine Tn (Fs (Fg (lv S (Ra rfl) rfl ?_)));clear S;intro a S
 refine lv S (Ra rfl) rfl ?_;clear S;intro a S
 refine Ld (Tn (wp_ret ?_))
 obtain rfl := Option.some.inj h
 exact f_ret2 S Tryz.results29 rfl rfl ⟨v1, S.grp [0, 1] [] rfl rfl rfl, rfl⟩
theorem session_Read_ok (w : World) (As : ByteArray) (hg_maxlen : GlobI (view w []) 1) (r : (List GItem) × Int × Int) (h : session_Read As = some r) :
    Calls Tryz.prog 9 [sV As].toArray w (Ret w [] fun τ v _ => ∃ u1 : Value, v = .tuple #[u1, iV r.2.1, iV r.2.2] ∧ OwnV τ 38 5 u1 r.1.length (r.1.flatMap GItem.enc)) := by
 refine f_enter [] [] Tryz.func9 rfl Tryz.ntmps9 rfl (by simp) (by simp [fps]) (by simp [fps]) fun a S => ?_
 unfold session_Read at h
 replace S := S.nk [] [(0, sV As)] [] rfl ⟨rfl, trivial⟩
 refine Fs (Fg (lv S (Ra rfl) rfl ?_));clear S;intro a S
 refine lv S (Ra rfl) rfl ?_;clear S;intro a S
 refine lv S (Ra rfl) rfl ?_;clear S;intro a S
 refine Ld (Tn (Fs (Fs (Fg (lv S (Rm (S.tm rfl)) rfl ?_)))));clear S;intro a S
 refine lv S (rn_len_str Tryz.underlying9 (S.tm rfl)) rfl ?_;clear S;intro a S
 refine lv S (rn_gtr (S.tm rfl) rfl) rfl ?_;clear S;intro a S
 refine Ld (Tn (f_cond (S.tm rfl) (fun hb1 => ?_) (fun hb1 => ?_)))
 ·replace h := iteT h hb1
  refine Fs (Fg (lv S (Ra rfl) rfl ?_));clear S;intro a S
  refine lv S (Ra rfl) rfl ?_;clear S;intro a S
  refine lv S (Ra rfl) rfl ?_;clear S;intro a S
  refine Ld (Tn (wp_ret (then_r ?_)))
  obtain rfl := Option.some.inj h
  exact f_ret3 S Tryz.results9 rfl rfl rfl ⟨_, rfl, (ownV_nil _ _ _)⟩
 ·replace h := iteF h hb1
  refine wp_skip (Tn (Fs (Fg (l_alloc S Tryz.zeroValue26 (cs := [.slice none 0 0]) rfl rfl ?_))));clear S;intro a w1 b1 hz1 hk1 S
  refine Ld (Tn (Fs (Fs (Fg (lv S (Rm (S.tm rfl)) rfl ?_)))));clear S;intro a S
  refine lv S (rn_makeFunc (us := #[]) (xs := [].toArray) (ys := [.tmp 5].toArray) (by simp) (evA ⟨(S.tm rfl), trivial⟩ (vs := [.pointer (some ⟨b1, 0, none⟩)]))) rfl ?_;clear S;intro a S
  replace S := S.nil 38 5
  obtain ⟨r1, hr1, h⟩ := bindE h
  refine l_enterG [1, 0] [] (Ls := [.blk b1 [(.slice none 0 0)] 26, .own (.slice none 0 0) 38 5 ([] : List GItem).length (([] : List GItem).flatMap GItem.enc)]) (Lr := []) (Y := [b1] ++ (Value.ownBlock (.slice none 0 0)).toList) S rfl rfl rfl (by simp [fps_cons, fps_nil, LEnt.fp]) (fun _ => run_call (vs := [sV As, .func (.func 30) #[] #[.pointer (some ⟨b1, 0, none⟩)]]) ⟨(S.tm rfl), (S.tm rfl), trivial⟩ Tryz.call29) (words_Lines_session_Read_c1_ok _ ([b1] ++ (Value.ownBlock (.slice none 0 0)).toList) As b1 (.slice none 0 0) ([] : List GItem) (S.holds _ (List.mem_of_getElem? (i := 0) rfl)) (S.holds _ (List.mem_of_getElem? (i := 1) rfl)) (hg_maxlen.mono (S.le_arg (app_sub (fp_sub (i := 1) (e := .blk b1 [(.slice none 0 0)] 26) rfl) (fp_sub (i := 0) (e := .own (.slice none 0 0) 38 5 ([] : List GItem).length (([] : List GItem).flatMap GItem.enc)) rfl)))) (S.ndg [1, 0] [] rfl rfl rfl (by simp [fps_cons, fps_nil, LEnt.fp])) (by simp [fps_cons, fps_nil, LEnt.fp]) _ hr1) rfl ?_;clear S;intro v1 a w2 hv1 hk2 hn1 S
  obtain ⟨v2, hg1, hv1⟩ := hv1;replace S := S _ hg1;clear hg1
  subst hv1
  refine lv S (Rm (S.tm rfl)) rfl ?_;clear S;intro a S
  refine lv S (rn_extract (S.tm rfl) rfl) rfl ?_;clear S;intro a S
  refine lv S (rn_extract (S.tm rfl) rfl) rfl ?_;clear S;intro a S
  refine lv S (Ra (S.tm rfl)) rfl ?_;clear S;intro a S
  refine lv S (Ra (S.tm rfl)) rfl ?_;clear S;intro a S
  refine Ld ?_
  replace S := S.nk [.blk b1 [v2] 26, .own v2 38 5 r1.2.2.length (r1.2.2.flatMap GItem.enc)] [(5, .pointer (some ⟨b1, 0, none⟩)), (6, iV r1.1), (7, bV r1.2.1)] [true, true] rfl (subR rfl)
  refine Tn (Fs (Fg (lv S (Rm (S.tm rfl)) rfl ?_)));clear S;intro a S
  refine lv S (rn_not (S.tm rfl)) rfl ?_;clear S;intro a S
  refine Ld (Tn (f_cond (S.tm rfl) (fun hb2 => ?_) (fun hb2 => ?_)))
  ·replace h := iteT h hb2
   refine Fs (Fg (lv S (Rm (S.tm rfl)) rfl ?_));clear S;intro a S
   refine lv S (Ra rfl) rfl ?_;clear S;intro a S
   refine lv S (Ra (S.tm rfl)) rfl ?_;clear S;intro a S
   refine lv S (Ra rfl) rfl ?_;clear S;intro a S
   refine Ld (Tn (wp_ret (then_r ?_)))
   obtain rfl := Option.some.inj h
   exact f_ret3 S Tryz.results9 rfl rfl rfl ⟨_, rfl, (ownV_nil _ _ _)⟩
  ·replace h := iteF h hb2
   refine wp_skip (Tn (Fs (Fs (Fg (lv S (rn_load Tryz.isAgg26 (S.tm rfl) (S.cell (i := 0) rfl rfl)) rfl ?_)))));clear S;intro a S
   obtain ⟨r2, hr2, h⟩ := bindE h
   refine l_enter S (fun _ => run_call (vs := [v2]) ⟨(S.tm rfl), trivial⟩ Tryz.call20) (session_CheckItems_ok _ v2 r1.2.2 (own_slcT GItem.enc_ok S (i := 1) rfl (ne_nil (e' := .own v2 38 5 r1.2.2.length (r1.2.2.flatMap GItem.enc)))) _ hr2) rfl ?_;clear S;intro v3 a w3 hv2 hk3 hn2 S
   subst hv2
   refine lv S (Ra (S.tm rfl)) rfl ?_;clear S;intro a S
   refine Ld (Tn (Fs (Fg (lv S (Rm (S.tm rfl)) rfl ?_))));clear S;intro a S
   refine lv S (rn_neq (S.tm rfl) rfl) rfl ?_;clear S;intro a S
   refine Ld (Tn (f_cond (S.tm rfl) (fun hb3 => ?_) (fun hb3 => ?_)))
   ·replace h := iteT h hb3
    refine Fs (Fg (lv S (Rm (S.tm rfl)) rfl ?_));clear S;intro a S
    refine lv S (Ra rfl) rfl ?_;clear S;intro a S
    refine lv S (Ra rfl) rfl ?_;clear S;intro a S
    refine lv S (Ra (S.tm rfl)) rfl ?_;clear S;intro a S
    refine Ld (Tn (wp_ret (then_r ?_)))
    obtain rfl := Option.some.inj h
    exact f_ret3 S Tryz.results9 rfl rfl rfl ⟨_, rfl, (ownV_nil _ _ _)⟩
   ·replace h := iteF h hb3
    refine wp_skip (Tn (Fs (Fg (lv S (rn_load Tryz.isAgg26 (S.tm rfl) (S.cell (i := 0) rfl rfl)) rfl ?_))));clear S;intro a S
    refine lv S (Ra (S.tm rfl)) rfl ?_;clear S;intro a S
    refine lv S (Ra rfl) rfl ?_;clear S;intro a S
    refine lv S (Ra rfl) rfl ?_;clear S;intro a S
    refine Ld (Tn (wp_ret ?_))
    obtain rfl := Option.some.inj h
    exact f_ret3 S Tryz.results9 rfl rfl rfl ⟨_, rfl, (own_retT S (i := 1) rfl rfl)⟩
theorem slices_Index_string_ok (w : World) (At : Value) (Ad : List ByteArray) (Ay : Slc (view w []) 1 At (Ad.map eStr)) (Bd : ByteArray) (r : Int) (h : slices_Index_string Ad Bd = r) :
    Calls Tryz.prog 52 [At, sV Bd].toArray w (Ret w [] fun _ v _ => v = iV r) := by
 refine f_enter [] [] Tryz.func52 rfl Tryz.ntmps52 rfl (by simp) (by simp [fps]) (by simp [fps]) fun a S => ?_
 unfold slices_Index_string at h
 replace S := S.nk [] [(0, At), (1, sV Bd)] [] rfl (subR rfl)
 refine Fs (Fg (lv S (Ra rfl) rfl ?_));clear S;intro a S
 refine Ld (Tn (Fs (Fs (Fg (lv S (Rm (S.tm rfl)) rfl ?_)))));clear S;intro a S
 refine lv S (rn_lenT sl_64 (S.tm rfl) (slc_len Ay)) rfl ?_;clear S;intro a S
 refine lv S (Rm rfl) rfl ?_;clear S;intro a S
 refine Ld (Tn ?_)
 replace S := S.nk [] [(0, At), (1, sV Bd), (7, iV (Ad.length : Int)), (8, iV 0)] [] rfl (subR rfl)
 obtain ⟨j1, hj1, h⟩ := joinE h
 refine f_join (fun a w' => j1 = r ∧ Sx w [] nov [] [] 19 a w') ?_ ?_
 ·refine wp_block (f_loop (fun (ys1 : List ByteArray) a w' => ∃ i1 : Nat, (∃ dn, Ad = dn ++ ys1 ∧ dn.length = i1) ∧ slices_Index_string_l1 Bd j1 ys1 i1 = r ∧ Sx w [] nov [] [(0, At), (1, sV Bd), (7, iV (Ad.length : Int)), (8, iV (i1 : Int))] 19 a w') List.length Ad ⟨0, ⟨[], rfl, rfl⟩, h, S.nf [] rfl (subR rfl)⟩ ?_)
  clear S h;rintro ys1 a w1 ⟨i1, ⟨dn, hd1, hi1⟩, h, S⟩
  cases ys1 with
  | nil =>
   rw [slices_Index_string_l1.eq_1] at h
   refine Fs (Fg (lv S (rn_lss (S.tm rfl) (S.tm rfl)) rfl ?_));clear S;intro a S
   refine Ld ?_
   replace S := S.nk [] [(0, At), (1, sV Bd), (7, iV (Ad.length : Int)), (8, iV (i1 : Int)), (9, bV (decide ((i1 : Int) < (Ad.length : Int))))] [] rfl (subR rfl)
   refine Tn (Fs (wp_cond_false ((S.tm rfl).trans (congrArg Value.bool (rng_nil hd1 hi1))) (wp_exit (then_x (then_x (x_same ?_))))))
   refine Tn ?_
   exact ⟨h, S.nf [] rfl trivial⟩
  | cons y1 ys1 =>
   rw [slices_Index_string_l1.eq_2] at h
   refine Fs (Fg (lv S (rn_lss (S.tm rfl) (S.tm rfl)) rfl ?_));clear S;intro a S
   refine Ld ?_
   replace S := S.nk [] [(0, At), (1, sV Bd), (7, iV (Ad.length : Int)), (8, iV (i1 : Int)), (9, bV (decide ((i1 : Int) < (Ad.length : Int))))] [] rfl (subR rfl)
   refine Tn (Fs (wp_cond_true ((S.tm rfl).trans (congrArg Value.bool (rng_cons hd1 hi1))) (wp_skip (Tn (Fs (wp_block ?_))))))
   refine Fs (Fg (lv S (Rm (S.tm rfl)) rfl ?_));clear S;intro a S
   refine lv S (Ra (S.tm rfl)) rfl ?_;clear S;intro a S
   refine Ld (Tn (Fs (Fg (lv S (Rm (S.tm rfl)) rfl ?_))));clear S;intro a S
   refine lv S (Rm (S.tm rfl)) rfl ?_;clear S;intro a S
   refine lv S (Rm (S.tm rfl)) rfl ?_;clear S;intro a S
   obtain ⟨b1, o1, hm1, hr1⟩ := rn_indexT (a := a) (x := .tmp 12) (y := .tmp 13) (ty := 0) sl_64 Ay (get_mid hd1 hi1) rfl (S.tm rfl) (S.tm rfl)
   refine lv S (hr1 _) rfl ?_;clear S;intro a S
   clear hr1
   refine lv S (rn_ld Tryz.isAgg9 (off := o1) (o := 0) (S.tm rfl) (hm1.at S.emb0) rfl) rfl ?_;clear S;intro a S
   refine lv S (rn_seql (S.tm rfl) (S.tm rfl)) rfl ?_;clear S;intro a S
   refine Ld (Tn (f_cond (S.tm rfl) (fun hb1 => ?_) (fun hb1 => ?_)))
   ·replace h := iteT h hb1
    refine Fs (Fg (lv S (Rm (S.tm rfl)) rfl ?_));clear S;intro a S
    refine lv S (Ra (S.tm rfl)) rfl ?_;clear S;intro a S
    refine Ld ?_
    replace S := S.nk [] [(4, iV (i1 : Int))] [] rfl ⟨rfl, trivial⟩
    refine Tn (wp_ret (blk_r (then_r (then_r (blk_r (then_r ?_))))))
    refine then_r ?_
    subst h
    exact f_ret S Tryz.results52 rfl rfl
   ·replace h := iteF h hb1
    refine wp_skip (blk_n (Tn (Fg (lv S (rn_add (S.tm rfl) rfl) rfl ?_))));clear S;intro a S
    refine lv S (Rm (S.tm rfl)) rfl ?_;clear S;intro a S
    refine Ld (Tn ?_)
    exact ⟨ys1, ⟨i1 + 1, ⟨_, (hd1).trans (List.append_cons _ _ _), by simp [hi1]⟩, h, S.nf [] rfl ⟨rfl, rfl, rfl, (congrArg (fun z => some (Value.int .i64 z)) (rng_next hd1 hi1 (slc_max Ay))), trivial⟩⟩, Nat.lt_succ_self _⟩
 clear S h;rintro a w2 ⟨h, S⟩;rw [hj1] at h;clear hj1 j1
 refine Tn (Fs (Fg (lv S (Ra rfl) rfl ?_)));clear S;intro a S
 refine Ld (Tn (wp_ret ?_))
 subst h
 exact f_ret S Tryz.results52 rfl rfl
theorem slices_Contains_string_ok (w : World) (At : Value) (Ad : List ByteArray) (Ay : Slc (view w []) 1 At (Ad.map eStr)) (Bd : ByteArray) (r : Bool) (h : slices_Contains_string Ad Bd = r) :
    Calls Tryz.prog 36 [At, sV Bd].toArray w (Ret w [] fun _ v _ => v = bV r) := by
 refine f_enter [] [] Tryz.func36 rfl Tryz.ntmps36 rfl (by simp) (by simp [fps]) (by simp [fps]) fun a S => ?_
 unfold slices_Contains_string at h
 replace S := S.nk [] [(0, At), (1, sV Bd)] [] rfl (subR rfl)
 refine Fs (Fg (lv S (Ra rfl) rfl ?_));clear S;intro a S
 refine Ld (Tn (Fs (Fg (lv S (Rm (S.tm rfl)) rfl ?_))));clear S;intro a S
 refine lv S (Rm (S.tm rfl)) rfl ?_;clear S;intro a S
 refine l_enter S (fun _ => run_call (vs := [At, sV Bd]) ⟨(S.tm rfl), (S.tm rfl), trivial⟩ Tryz.call52) (slices_Index_string_ok _ At Ad (Ay.mono (S.le_arg nil_sub)) Bd _ rfl) rfl ?_;clear S;intro v1 a w1 hv1 hk1 hn1 S
 subst hv1
 refine lv S (rn_geq (S.tm rfl) rfl) rfl ?_;clear S;intro a S
 refine lv S (Ra (S.tm rfl)) rfl ?_;clear S;intro a S
 refine Ld (Tn (wp_ret ?_))
 subst h
 exact f_ret S Tryz.results36 rfl rfl
theorem strings_TrimPrefix_ok (w : World) (s : ByteArray) (p : ByteArray) (r : ByteArray) (h : strings_TrimPrefix s p = r) : Calls Tryz.prog 67 [sV s, sV p].toArray w (Ret w [] fun _ v _ => v = .string r) := by
  subst h
  exact ret_of_same (Any.strings_TrimPrefix Tryz.lays101 s p w)
theorem tumbref2_Number_ok (w : World) (Ad : ByteArray) (Ac : Int) (hg_pow10 : Glob (view w []) 0 pow10Cells) (r : Int × Bool) (h : tumbref2_Number Ad Ac = some r) :
    Calls Tryz.prog 53 [sV Ad, iV Ac].toArray w (Ret w [] fun _ v _ => v = .tuple #[iV r.1, bV r.2]) := by
 refine f_enter [] [] Tryz.func53 rfl Tryz.ntmps53 rfl (by simp) (by simp [fps]) (by simp [fps]) fun a S => ?_
 unfold tumbref2_Number at h
 replace S := S.nk [] [(0, sV Ad), (1, iV Ac)] [] rfl (subR rfl)
 refine Fs (Fg (lv S (Ra rfl) rfl ?_));clear S;intro a S
 refine lv S (Ra rfl) rfl ?_;clear S;intro a S
 refine Ld (Tn (Fs (Fg (lv S (Rm (S.tm rfl)) rfl ?_))));clear S;intro a S
 refine l_enter S (fun _ => run_call (vs := [sV Ad, sV k__2d]) ⟨(S.tm rfl), rfl, trivial⟩ Tryz.call67) (strings_TrimPrefix_ok _ Ad k__2d _ rfl) rfl ?_;clear S;intro v1 a w1 hv1 hk1 hn1 S
 subst hv1
 refine lv S (Ra (S.tm rfl)) rfl ?_;clear S;intro a S
 refine Ld (Tn (Fs (Fs (Fg (lv S (Rm (S.tm rfl)) rfl ?_)))));clear S;intro a S
 refine lv S (rn_seql (S.tm rfl) rfl) rfl ?_;clear S;intro a S
 refine lv S (Rm (S.tm rfl)) rfl ?_;clear S;intro a S
 refine f_cutm 5 (fun a w' => Keep [] w1 w' ∧ Sx w [] nov [] [(0, sV Ad), (6, sV (strings_TrimPrefix Ad k__2d)), (18, bV ((decide ((strings_TrimPrefix Ad k__2d) = k_empty)) || (decide (Ac < ((strings_TrimPrefix Ad k__2d).size : Int)))))] 38 a w') ?_ ?_
 ·rcases Bool.eq_false_or_eq_true (decide ((strings_TrimPrefix Ad k__2d) = k_empty)) with hb1 | hb1
  ·iterate 4 (refine l_skip S rfl rfl rfl (neq_t hb1) rfl ?_ rfl;clear S;intro a S)
   refine lv S (rn_or_t (decide (Ac < ((strings_TrimPrefix Ad k__2d).size : Int))) hb1 (S.tm rfl) rfl) rfl ?_;clear S;intro a S
   refine Ld (Tn ?_)
   exact ⟨Keep.refl _ _, S.nf [] rfl (subR rfl)⟩
  ·refine l_want S rfl rfl rfl hb1 (lv S (Rm (S.tm rfl)) rfl ?_);clear S;intro a S
   refine l_want S rfl rfl rfl hb1 (lv S (rn_len_str Tryz.underlying9 (S.tm rfl)) rfl ?_);clear S;intro a S
   refine l_want S rfl rfl rfl hb1 (lv S (Rm (S.tm rfl)) rfl ?_);clear S;intro a S
   refine l_want S rfl rfl rfl hb1 (lv S (rn_gtr (S.tm rfl) (S.tm rfl)) rfl ?_);clear S;intro a S
   refine lv S (rn_or_f hb1 (S.tm rfl) (S.tm rfl)) rfl ?_;clear S;intro a S
   refine Ld (Tn ?_)
   exact ⟨Keep.refl _ _, S.nf [] rfl (subR rfl)⟩
 clear S;rintro a w2 ⟨hk2, S⟩
 refine lv S (Rm (S.tm rfl)) rfl ?_;clear S;intro a S
 obtain ⟨j1, hj1, h⟩ := joinE h
 refine f_cutm 4 (fun a w' => ∃ c1, j1 c1 = some r ∧ Keep [] w2 w' ∧ Sx w [] nov [] [(0, sV Ad), (23, bV c1)] 38 a w') ?_ ?_
 ·rcases Bool.eq_false_or_eq_true ((decide ((strings_TrimPrefix Ad k__2d) = k_empty)) || (decide (Ac < ((strings_TrimPrefix Ad k__2d).size : Int)))) with hb2 | hb2
  ·replace h := iteT h hb2
   iterate 3 (refine l_skip S rfl rfl rfl (neq_t hb2) rfl ?_ rfl;clear S;intro a S)
   refine lv S (rn_or_t true hb2 (S.tm rfl) rfl) rfl ?_;clear S;intro a S
   refine Ld (Tn ?_)
   exact ⟨_, h, Keep.refl _ _, S.nf [] rfl (subR rfl)⟩
  ·replace h := iteF h hb2
   refine l_want S rfl rfl rfl hb2 (lv S (Rm (S.tm rfl)) rfl ?_);clear S;intro a S
   refine l_want S rfl rfl rfl hb2 ?_
   obtain ⟨r1, hr1, h⟩ := bindE h
   refine l_enter S (fun _ => run_call (vs := [sV (strings_TrimPrefix Ad k__2d), sV k_0123456789]) ⟨(S.tm rfl), rfl, trivial⟩ Tryz.call45) (tumbref2_only_ok _ (strings_TrimPrefix Ad k__2d) k_0123456789 _ hr1) rfl ?_;clear S;intro v2 a w4 hv2 hk3 hn2 S
   subst hv2
   refine l_want S rfl rfl rfl hb2 (lv S (rn_not (S.tm rfl)) rfl ?_);clear S;intro a S
   refine lv S (rn_or_f hb2 (S.tm rfl) (S.tm rfl)) rfl ?_;clear S;intro a S
   refine Ld (Tn ?_)
   exact ⟨_, h, hk3, S.nf [] rfl (subR rfl)⟩
 clear S h;rintro a w3 ⟨c1, h, hk4, S⟩;rw [hj1] at h;clear hj1 j1
 refine Ld (Tn (f_cond (S.tm rfl) (fun hb3 => ?_) (fun hb3 => ?_)))
 ·replace h := iteT h hb3
  refine Fs (Fg (lv S (Ra rfl) rfl ?_));clear S;intro a S
  refine lv S (Ra rfl) rfl ?_;clear S;intro a S
  refine Ld (Tn (wp_ret (then_r ?_)))
  obtain rfl := Option.some.inj h
  exact f_ret2 S Tryz.results53 rfl rfl rfl
 ·replace h := iteF h hb3
  refine wp_skip (Tn (Fs (Fg (lv S (Rm (S.tm rfl)) rfl ?_))));clear S;intro a S
  obtain ⟨r2, hr2, h⟩ := bindE h
  refine l_enter S (fun _ => run_call (vs := [sV Ad]) ⟨(S.tm rfl), trivial⟩ Tryz.call63) (strconv_Atoi_ok _ Ad _ hr2) rfl ?_;clear S;intro v3 a w5 hv3 hk5 hn3 S
  subst hv3
  refine lv S (Rm (S.tm rfl)) rfl ?_;clear S;intro a S
  refine lv S (rn_extract (S.tm rfl) rfl) rfl ?_;clear S;intro a S
  refine lv S (rn_extract (S.tm rfl) rfl) rfl ?_;clear S;intro a S
  refine lv S (Ra (S.tm rfl)) rfl ?_;clear S;intro a S
  refine lv S (Ra (S.tm rfl)) rfl ?_;clear S;intro a S
  refine Ld (Tn (Fs (Fg (lv S (Rm (S.tm rfl)) rfl ?_))));clear S;intro a S
  refine lv S (Rm (S.tm rfl)) rfl ?_;clear S;intro a S
  refine lv S (rn_ifnileql Tryz.underlying53 (S.tm rfl)) rfl ?_;clear S;intro a S
  refine lv S (Rm (S.tm rfl)) rfl ?_;clear S;intro a S
  obtain ⟨j2, hj2, h⟩ := joinE h
  refine f_cutm 5 (fun a w' => ∃ c2, j2 c2 = some r ∧ Keep [] w5 w' ∧ Sx w [] nov [] [(29, iV r2), (37, bV c2)] 38 a w') ?_ ?_
  ·rcases Bool.eq_false_or_eq_true true with hb4 | hb4
   ·replace h := iteT h hb4
    refine l_want S rfl rfl rfl hb4 (lv S (Rm (S.tm rfl)) rfl ?_);clear S;intro a S
    refine l_want S rfl rfl rfl hb4 ?_
    obtain ⟨r3, hr3, h⟩ := bindE h
    refine l_enter S (fun _ => run_call (vs := [iV r2]) ⟨(S.tm rfl), trivial⟩ Tryz.call22) (strconv_Itoa_ok _ r2 (hg_pow10.mono (S.le_arg nil_sub)) _ hr3) rfl ?_;clear S;intro v4 a w7 hv4 hk6 hn4 S
    subst hv4
    refine l_want S rfl rfl rfl hb4 (lv S (Rm (S.tm rfl)) rfl ?_);clear S;intro a S
    refine l_want S rfl rfl rfl hb4 (lv S (rn_seql (S.tm rfl) (S.tm rfl)) rfl ?_);clear S;intro a S
    refine lv S (rn_and_t hb4 (S.tm rfl) (S.tm rfl)) rfl ?_;clear S;intro a S
    refine Ld (Tn ?_)
    exact ⟨_, h, hk6, S.nf [] rfl (subR rfl)⟩
   ·replace h := iteF h hb4
    iterate 4 (refine l_skip S rfl rfl rfl (neq_f hb4) rfl ?_ rfl;clear S;intro a S)
    refine lv S (rn_and_f true hb4 (S.tm rfl) rfl) rfl ?_;clear S;intro a S
    refine Ld (Tn ?_)
    exact ⟨_, h, Keep.refl _ _, S.nf [] rfl (subR rfl)⟩
  clear S h;rintro a w6 ⟨c2, h, hk7, S⟩;rw [hj2] at h;clear hj2 j2
  refine lv S (Ra (S.tm rfl)) rfl ?_;clear S;intro a S
  refine lv S (Ra (S.tm rfl)) rfl ?_;clear S;intro a S
  refine Ld (Tn (wp_ret ?_))
  obtain rfl := Option.some.inj h
  exact f_ret2 S Tryz.results53 rfl rfl rfl
theorem tumbref2_numbersIn_ok (w : World) (V : Value) (Aa : List ByteArray) (Ae : Slc (view w []) 1 V (Aa.map eStr)) (Ac : Int) (hg_pow10 : Glob (view w []) 0 pow10Cells) (r : (List Int) × Bool) (h : tumbref2_numbersIn Aa Ac = some r) :
    Calls Tryz.prog 37 [V, iV Ac].toArray w (Ret w [] fun τ v _ => ∃ u1 : Value, v = .tuple #[u1, bV r.2] ∧ OwnV τ 3 1 u1 r.1.length (r.1.flatMap eInt)) := by
 refine f_enter [] [] Tryz.func37 rfl Tryz.ntmps37 rfl (by simp) (by simp [fps]) (by simp [fps]) fun a S => ?_
 unfold tumbref2_numbersIn at h
 replace S := S.nk [] [(0, V), (1, iV Ac)] [] rfl (subR rfl)
 refine Fs (Fg (lv S (Ra rfl) rfl ?_));clear S;intro a S
 refine lv S (Ra rfl) rfl ?_;clear S;intro a S
 refine Ld (Tn (Fs (Fg (lv S (Ra rfl) rfl ?_))));clear S;intro a S
 replace S := S.nil 3 1
 refine Ld (Tn (Fs (Fg (lv S (Ra rfl) rfl ?_))));clear S;intro a S
 refine Ld (Tn (Fs (Fs (Fg (lv S (Rm (S.tm rfl)) rfl ?_)))));clear S;intro a S
 refine lv S (rn_lenT sl_64 (S.tm rfl) (slc_len Ae)) rfl ?_;clear S;intro a S
 refine lv S (Rm rfl) rfl ?_;clear S;intro a S
 refine Ld (Tn ?_)
 replace S := S.nk [.own (.slice none 0 0) 3 1 ([] : List Int).length (([] : List Int).flatMap eInt)] [(1, iV Ac), (6, (.slice none 0 0)), (7, bV true), (12, V), (13, iV (Aa.length : Int)), (14, iV 0)] [true] rfl (subR rfl)
 obtain ⟨j1, hj1, h⟩ := joinE h
 refine f_join (fun a w' => ∃ x1 : List Int, ∃ x2 : Bool, ∃ v1 : Value, j1 x1 x2 = some r ∧ Sx w [] nov [.own v1 3 1 x1.length (x1.flatMap eInt)] [(6, v1), (7, bV x2)] 35 a w') ?_ ?_
 ·refine wp_block (f_loop (fun (ys1 : List ByteArray) a w' => ∃ i1 : Nat, ∃ x1 : List Int, ∃ x2 : Bool, ∃ v1 : Value, (∃ dn, Aa = dn ++ ys1 ∧ dn.length = i1) ∧ tumbref2_numbersIn_l1 Ac j1 ys1 i1 x1 x2 = some r ∧ Sx w [] nov [.own v1 3 1 x1.length (x1.flatMap eInt)] [(1, iV Ac), (6, v1), (7, bV x2), (12, V), (13, iV (Aa.length : Int)), (14, iV (i1 : Int))] 35 a w') List.length Aa ⟨0, ([] : List Int), true, (.slice none 0 0), ⟨[], rfl, rfl⟩, h, S.nf [true] rfl (subR rfl)⟩ ?_)
  clear S h;rintro ys1 a w1 ⟨i1, x1, x2, v1, ⟨dn, hd1, hi1⟩, h, S⟩
  cases ys1 with
  | nil =>
   rw [tumbref2_numbersIn_l1.eq_1] at h
   refine Fs (Fg (lv S (rn_lss (S.tm rfl) (S.tm rfl)) rfl ?_));clear S;intro a S
   refine Ld ?_
   replace S := S.nk [.own v1 3 1 x1.length (x1.flatMap eInt)] [(1, iV Ac), (6, v1), (7, bV x2), (12, V), (13, iV (Aa.length : Int)), (14, iV (i1 : Int)), (15, bV (decide ((i1 : Int) < (Aa.length : Int))))] [true] rfl (subR rfl)
   refine Tn (Fs (wp_cond_false ((S.tm rfl).trans (congrArg Value.bool (rng_nil hd1 hi1))) (wp_exit (then_x (then_x (x_same ?_))))))
   refine Tn ?_
   exact ⟨x1, x2, v1, h, S.nf [true] rfl (subR rfl)⟩
  | cons y1 ys1 =>
   rw [tumbref2_numbersIn_l1.eq_2] at h
   refine Fs (Fg (lv S (rn_lss (S.tm rfl) (S.tm rfl)) rfl ?_));clear S;intro a S
   refine Ld ?_
   replace S := S.nk [.own v1 3 1 x1.length (x1.flatMap eInt)] [(1, iV Ac), (6, v1), (7, bV x2), (12, V), (13, iV (Aa.length : Int)), (14, iV (i1 : Int)), (15, bV (decide ((i1 : Int) < (Aa.length : Int))))] [true] rfl (subR rfl)
   refine Tn (Fs (wp_cond_true ((S.tm rfl).trans (congrArg Value.bool (rng_cons hd1 hi1))) (wp_skip (Tn (Fs (wp_block ?_))))))
   refine Fs (Fg ?_)
   obtain ⟨b1, o1, hm1, hr1⟩ := rn_indexT (a := a) (x := .tmp 12) (y := .tmp 14) (ty := 0) sl_64 Ae (get_mid hd1 hi1) rfl (S.tm rfl) (S.tm rfl)
   refine lv S (hr1 _) rfl ?_;clear S;intro a S
   clear hr1
   refine lv S (rn_ld Tryz.isAgg9 (off := o1) (o := 0) (S.tm rfl) (hm1.at S.emb0) rfl) rfl ?_;clear S;intro a S
   refine lv S (Ra (S.tm rfl)) rfl ?_;clear S;intro a S
   refine Ld (Tn (Fs (Fg (lv S (Rm (S.tm rfl)) rfl ?_))));clear S;intro a S
   refine lv S (Rm (S.tm rfl)) rfl ?_;clear S;intro a S
   obtain ⟨r1, hr2, h⟩ := bindE h
   refine l_enter S (fun _ => run_call (vs := [sV y1, iV Ac]) ⟨(S.tm rfl), (S.tm rfl), trivial⟩ Tryz.call53) (tumbref2_Number_ok _ y1 Ac (hg_pow10.mono (S.le_arg nil_sub)) _ hr2) rfl ?_;clear S;intro v2 a w3 hv1 hk1 hn1 S
   subst hv1
   refine lv S (Rm (S.tm rfl)) rfl ?_;clear S;intro a S
   refine lv S (rn_extract (S.tm rfl) rfl) rfl ?_;clear S;intro a S
   refine lv S (rn_extract (S.tm rfl) rfl) rfl ?_;clear S;intro a S
   refine lv S (Ra (S.tm rfl)) rfl ?_;clear S;intro a S
   refine lv S (Ra (S.tm rfl)) rfl ?_;clear S;intro a S
   refine Ld ?_
   replace S := S.nk [.own v1 3 1 x1.length (x1.flatMap eInt)] [(1, iV Ac), (6, v1), (7, bV x2), (10, iV r1.1), (11, bV r1.2), (12, V), (13, iV (Aa.length : Int)), (14, iV (i1 : Int))] [true] rfl (subR rfl)
   refine Tn (Fg (lv S (Rm (S.tm rfl)) rfl ?_));clear S;intro a S
   refine lv S (Rm (S.tm rfl)) rfl ?_;clear S;intro a S
   refine l_buildSlice S Tryz.underlying22 Tryz.sizeOf3 Tryz.zeroValue3 rfl rfl (pv := [(0, iV r1.1)]) ⟨rfl, (S.tm rfl), trivial⟩ (cs := [iV r1.1]) (by kernel_rfl) rfl ?_;clear S;intro a w4 b2 hz1 hk2 S
   obtain ⟨hc1, h⟩ := chkE h
   refine l_appendT sl_22 enc_int S (S.tm rfl) (i := 1) rfl (S.tm rfl) (j := 0) rfl (ys := [r1.1]) rfl rfl rfl rfl (by have := room_lt hc1;omega) rfl ?_;clear S;intro v3 a w5 hk3 S
   refine lv S (Rm (S.tm rfl)) rfl ?_;clear S;intro a S
   refine lv S (Rm (S.tm rfl)) rfl ?_;clear S;intro a S
   refine f_cutm 2 (fun a w' => Keep [] w5 w' ∧ Sx w [] nov [.blk b2 [iV r1.1] 3, .own v3 3 1 (x1 ++ [r1.1]).length ((x1 ++ [r1.1]).flatMap eInt)] [(1, iV Ac), (12, V), (13, iV (Aa.length : Int)), (14, iV (i1 : Int)), (27, v3), (31, bV (x2 && r1.2))] 35 a w') ?_ ?_
   ·rcases Bool.eq_false_or_eq_true x2 with hb1 | hb1
    ·refine l_want S rfl rfl rfl hb1 (lv S (Rm (S.tm rfl)) rfl ?_);clear S;intro a S
     refine lv S (rn_and_t hb1 (S.tm rfl) (S.tm rfl)) rfl ?_;clear S;intro a S
     refine Ld (Tn ?_)
     exact ⟨Keep.refl _ _, S.nf [true, true] rfl (subR rfl)⟩
    ·refine l_skip S rfl rfl rfl (neq_f hb1) rfl ?_ rfl;clear S;intro a S
     refine lv S (rn_and_f r1.2 hb1 (S.tm rfl) rfl) rfl ?_;clear S;intro a S
     refine Ld (Tn ?_)
     exact ⟨Keep.refl _ _, S.nf [true, true] rfl (subR rfl)⟩
   clear S;rintro a w6 ⟨hk4, S⟩
   refine lv S (Ra (S.tm rfl)) rfl ?_;clear S;intro a S
   refine lv S (Ra (S.tm rfl)) rfl ?_;clear S;intro a S
   refine Ld (blk_n (Tn (Fg (lv S (rn_add (S.tm rfl) rfl) rfl ?_))));clear S;intro a S
   refine lv S (Rm (S.tm rfl)) rfl ?_;clear S;intro a S
   refine Ld (Tn ?_)
   exact ⟨ys1, ⟨i1 + 1, (x1 ++ [r1.1]), (x2 && r1.2), v3, ⟨_, (hd1).trans (List.append_cons _ _ _), by simp [hi1]⟩, h, S.nf [false, true] rfl ⟨rfl, rfl, rfl, rfl, rfl, (congrArg (fun z => some (Value.int .i64 z)) (rng_next hd1 hi1 (slc_max Ae))), trivial⟩⟩, Nat.lt_succ_self _⟩
 clear S h;rintro a w2 ⟨x1, x2, v1, h, S⟩;rw [hj1] at h;clear hj1 j1
 refine Tn (Fs (Fg (lv S (Rm (S.tm rfl)) rfl ?_)));clear S;intro a S
 refine lv S (Rm (S.tm rfl)) rfl ?_;clear S;intro a S
 refine lv S (Ra (S.tm rfl)) rfl ?_;clear S;intro a S
 refine lv S (Ra (S.tm rfl)) rfl ?_;clear S;intro a S
 refine Ld (Tn (wp_ret ?_))
 obtain rfl := Option.some.inj h
 exact f_ret2 S Tryz.results37 rfl rfl ⟨_, rfl, (own_retT S (i := 0) rfl rfl)⟩
theorem tumbref2_ItemsRead_c1_ok (w : World) (X : List Nat) (Au : ByteArray) (Ao : Nat) (Ah : Value) (Aj : List GItem) (Bo : (LEnt.own Ah 38 5 Aj.length (Aj.flatMap GItem.enc)).holds w) (Be : (LEnt.blk Ao [Ah] 26).holds w) (hg_maxlen : GlobI (view w X) 1) (hg_pow10 : Glob (view w X) 0 pow10Cells) (hXn : X.Nodup) (hXe : X = fps [.blk Ao [Ah] 26, .own Ah 38 5 Aj.length (Aj.flatMap GItem.enc)]) (r : Bool × (List GItem)) (h : tumbref2_ItemsRead_c1 Au Aj = some r) :
    Calls Tryz.prog 34 [sV Au, .pointer (some ⟨Ao, 0, none⟩)].toArray w (Ret w X fun _ v w' => ∃ y1 : Value, Grp w w' X [.blk Ao [y1] 26, .own y1 38 5 r.2.length (r.2.flatMap GItem.enc)] ∧ v = bV r.1) := by
 refine f_enter X [.blk Ao [Ah] 26, .own Ah 38 5 Aj.length (Aj.flatMap GItem.enc)] Tryz.func34 rfl Tryz.ntmps34 rfl (fun e he => by simp only [List.mem_cons, List.not_mem_nil, or_false] at he;rcases he with rfl | rfl <;> assumption) (by rw [← hXe];exact hXn) (fun b hb => by rw [hXe];exact hb) fun a S => ?_
 unfold tumbref2_ItemsRead_c1 at h
 replace S := S.nk [.blk Ao [Ah] 26, .own Ah 38 5 Aj.length (Aj.flatMap GItem.enc)] [(0, sV Au), (1, .pointer (some ⟨Ao, 0, none⟩))] [true, true] rfl (subR rfl)
 refine Fs (Fg (lv S (Ra rfl) rfl ?_));clear S;intro a S
 refine Ld (Tn (Fs (Fg (lv S (Rm (S.tm rfl)) rfl ?_))));clear S;intro a S
 obtain ⟨r1, hr1, h⟩ := bindE h
 have hz1 := S.keep.size
 refine l_enter S (fun _ => run_call (vs := [sV Au, sV k__20]) ⟨(S.tm rfl), rfl, trivial⟩ Tryz.call35) (strings_Split_ok _ Au k__20 (hg_maxlen.mono (S.le_arg nil_sub)) _ hr1) rfl ?_;clear S;intro v1 a w1 hv1 hk1 hn1 S
 obtain ⟨φ1, hl1, hm1, S⟩ := S.see' hn1 hz1
 have hs1 := hv1.mono hm1
 refine lv S (Ra (S.tm rfl)) rfl ?_;clear S;intro a S
 refine Ld (Tn (Fs (Fs (Fg (lv S (Rm (S.tm rfl)) rfl ?_)))));clear S;intro a S
 refine lv S (rn_lenT sl_64 (S.tm rfl) (slc_len (ownV_slcT enc_str hs1))) rfl ?_;clear S;intro a S
 refine lv S (rn_neq (S.tm rfl) rfl) rfl ?_;clear S;intro a S
 refine lv S (Rm (S.tm rfl)) rfl ?_;clear S;intro a S
 refine f_cutm 3 (fun a w' => Keep [] w1 w' ∧ Sx w X φ1 [.blk Ao [Ah] 26, .own Ah 38 5 Aj.length (Aj.flatMap GItem.enc)] [(1, .pointer (some ⟨Ao, 0, none⟩)), (4, v1), (15, bV ((!decide ((r1.length : Int) = 5)) || (slices_Contains_string r1 k_empty)))] 42 a w') ?_ ?_
 ·rcases Bool.eq_false_or_eq_true (!decide ((r1.length : Int) = 5)) with hb1 | hb1
  ·refine l_skip S rfl rfl rfl (neq_t hb1) rfl ?_ rfl;clear S;intro a S
   refine l_skip S rfl rfl rfl (neq_t hb1) rfl ?_ rfl;clear S;intro a S
   refine lv S (rn_or_t (slices_Contains_string r1 k_empty) hb1 (S.tm rfl) rfl) rfl ?_;clear S;intro a S
   refine Ld (Tn ?_)
   exact ⟨Keep.refl _ _, S.nf [true, true] rfl (subR rfl)⟩
  ·refine l_want S rfl rfl rfl hb1 (lv S (Rm (S.tm rfl)) rfl ?_);clear S;intro a S
   refine l_want S rfl rfl rfl hb1 (l_enter S (fun _ => run_call (vs := [v1, sV k_empty]) ⟨(S.tm rfl), rfl, trivial⟩ Tryz.call36) (slices_Contains_string_ok _ v1 r1 ((ownV_slcT enc_str hs1).mono (S.le_new nil_sub)) k_empty _ rfl) rfl ?_);clear S;intro v2 a w3 hv2 hk2 hn2 S
   subst hv2
   refine lv S (rn_or_f hb1 (S.tm rfl) (S.tm rfl)) rfl ?_;clear S;intro a S
   refine Ld (Tn ?_)
   exact ⟨hk2, S.nf [true, true] rfl (subR rfl)⟩
 clear S;rintro a w2 ⟨hk3, S⟩
 refine Ld (Tn (f_cond (S.tm rfl) (fun hb2 => ?_) (fun hb2 => ?_)))
 ·replace h := iteT h hb2
  refine Fs (Fg (lv S (Ra rfl) rfl ?_));clear S;intro a S
  refine Ld (Tn (wp_ret (then_r ?_)))
  obtain rfl := Option.some.inj h
  exact f_ret S Tryz.results34 rfl ⟨Ah, S.grp [0, 1] [] rfl rfl rfl, rfl⟩
 ·replace h := iteF h hb2
  refine wp_skip (Tn (Fs (Fg (lv S (Rm (S.tm rfl)) rfl ?_))));clear S;intro a S
  obtain ⟨hc1, h⟩ := chkE h
  obtain ⟨v3, hs2, hr2⟩ := rn_cutTl (a := a) (x := .tmp 17) (y := .const (iV 1)) (ty := 64) sl_64 (ownV_slcT enc_str hs1) (S.tm rfl) rfl hc1
  refine lv S (hr2 _) rfl ?_;clear S;intro a S
  clear hr2
  obtain ⟨r2, hr3, h⟩ := bindE h
  have hz2 := S.keep.size
  refine l_enter S (fun _ => run_call (vs := [v3, iV 15]) ⟨(S.tm rfl), rfl, trivial⟩ Tryz.call37) (tumbref2_numbersIn_ok _ v3 (cut r1 1 r1.length) (hs2.mono (S.le_new nil_sub)) 15 (hg_pow10.mono (S.le_arg nil_sub)) _ hr3) rfl ?_;clear S;intro v4 a w4 hv3 hk4 hn3 S
  obtain ⟨u2, rfl, ho2⟩ := hv3
  obtain ⟨φ2, hl2, hm2, S⟩ := S.see' hn3 hz2
  have hs3 := ho2.mono hm2
  refine lv S (Rm (S.tm rfl)) rfl ?_;clear S;intro a S
  refine lv S (rn_extract (S.tm rfl) rfl) rfl ?_;clear S;intro a S
  refine lv S (rn_extract (S.tm rfl) rfl) rfl ?_;clear S;intro a S
  refine lv S (Ra (S.tm rfl)) rfl ?_;clear S;intro a S
  refine lv S (Ra (S.tm rfl)) rfl ?_;clear S;intro a S
  refine Ld (Tn (Fs ?_))
  obtain ⟨hc2, h⟩ := chkE h
  obtain ⟨hc3, h⟩ := chkE h
  obtain ⟨hc4, h⟩ := chkE h
  obtain ⟨hc5, h⟩ := chkE h
  obtain ⟨hc6, h⟩ := chkE h
  obtain ⟨hc7, h⟩ := chkE h
  refine d_region [19] (Ah.ownBlock.toList) Tryz.mixed S rfl (by kernel_rfl) ?_;clear S;intro w8 hk8 hsel S
  refine d_quiet 0 S hsel rfl (by kernel_rfl) (by kernel_rfl) (by kernel_rfl) (by kernel_rfl) rfl (fun _ hw => (rn_ld Tryz.isAgg26 (off := 0) (o := 0) (S.tm rfl) ((S.blk_mem (i := 0) (cells := [Ah]) (b := Ao) (T := 26) rfl (ne_fp (i := 1) (j := 0) (e := .own Ah 38 5 Aj.length (Aj.flatMap GItem.enc)) (e' := .blk Ao [Ah] 26) S rfl rfl rfl)).kept hw) rfl)) ?_;clear S;intro a S
  refine d_pure 1 S hsel rfl rfl (by kernel_rfl) (by kernel_rfl) rfl (fun _ => (Rm (S.tm rfl))) ?_;clear S;intro a S
  obtain ⟨b7, o6, hm8, hr9⟩ := rn_indexT (a := a) (x := .tmp 23) (y := .const (iV 0)) (ty := 0) sl_64 ((ownV_slcT enc_str hs1).mono (View.le_trans hl2 (S.le_new (fp_sub (i := 1) (e := .own Ah 38 5 Aj.length (Aj.flatMap GItem.enc)) rfl)))) (inB_get hc2).1 (inB_get hc2).2 (S.tm rfl) rfl
  refine d_pure 2 S hsel rfl rfl (by kernel_rfl) (by kernel_rfl) rfl (fun _ => hr9 _) ?_;clear S;intro a S
  clear hr9
  refine d_quiet 3 S hsel rfl (by kernel_rfl) (by kernel_rfl) (by kernel_rfl) (by kernel_rfl) rfl (fun _ hw => (rn_ld Tryz.isAgg9 (off := o6) (o := 0) (S.tm rfl) (hm8.kept hw) rfl)) ?_;clear S;intro a S
  refine d_pure 4 S hsel rfl rfl (by kernel_rfl) (by kernel_rfl) rfl (fun _ => (Rm (S.tm rfl))) ?_;clear S;intro a S
  obtain ⟨b8, o7, hm9, hr10⟩ := rn_indexT (a := a) (x := .tmp 26) (y := .const (iV 0)) (ty := 0) sl_22 ((ownV_slcT enc_int hs3).mono (S.le_new (fp_sub (i := 1) (e := .own Ah 38 5 Aj.length (Aj.flatMap GItem.enc)) rfl))) (inB_get hc3).1 (inB_get hc3).2 (S.tm rfl) rfl
  refine d_pure 5 S hsel rfl rfl (by kernel_rfl) (by kernel_rfl) rfl (fun _ => hr10 _) ?_;clear S;intro a S
  clear hr10
  refine d_quiet 6 S hsel rfl (by kernel_rfl) (by kernel_rfl) (by kernel_rfl) (by kernel_rfl) rfl (fun _ hw => (rn_ld Tryz.isAgg3 (off := o7) (o := 0) (S.tm rfl) (hm9.kept hw) rfl)) ?_;clear S;intro a S
  refine d_pure 7 S hsel rfl rfl (by kernel_rfl) (by kernel_rfl) rfl (fun _ => (Rm (S.tm rfl))) ?_;clear S;intro a S
  obtain ⟨b9, o8, hm10, hr11⟩ := rn_indexT (a := a) (x := .tmp 29) (y := .const (iV 1)) (ty := 0) sl_22 ((ownV_slcT enc_int hs3).mono (S.le_new (fp_sub (i := 1) (e := .own Ah 38 5 Aj.length (Aj.flatMap GItem.enc)) rfl))) (inB_get hc4).1 (inB_get hc4).2 (S.tm rfl) rfl
  refine d_pure 8 S hsel rfl rfl (by kernel_rfl) (by kernel_rfl) rfl (fun _ => hr11 _) ?_;clear S;intro a S
  clear hr11
  refine d_quiet 9 S hsel rfl (by kernel_rfl) (by kernel_rfl) (by kernel_rfl) (by kernel_rfl) rfl (fun _ hw => (rn_ld Tryz.isAgg3 (off := o8) (o := 0) (S.tm rfl) (hm10.kept hw) rfl)) ?_;clear S;intro a S
  refine d_pure 10 S hsel rfl rfl (by kernel_rfl) (by kernel_rfl) rfl (fun _ => (Rm (S.tm rfl))) ?_;clear S;intro a S
  obtain ⟨b10, o9, hm11, hr12⟩ := rn_indexT (a := a) (x := .tmp 32) (y := .const (iV 2)) (ty := 0) sl_22 ((ownV_slcT enc_int hs3).mono (S.le_new (fp_sub (i := 1) (e := .own Ah 38 5 Aj.length (Aj.flatMap GItem.enc)) rfl))) (inB_get hc5).1 (inB_get hc5).2 (S.tm rfl) rfl
  refine d_pure 11 S hsel rfl rfl (by kernel_rfl) (by kernel_rfl) rfl (fun _ => hr12 _) ?_;clear S;intro a S
  clear hr12
  refine d_quiet 12 S hsel rfl (by kernel_rfl) (by kernel_rfl) (by kernel_rfl) (by kernel_rfl) rfl (fun _ hw => (rn_ld Tryz.isAgg3 (off := o9) (o := 0) (S.tm rfl) (hm11.kept hw) rfl)) ?_;clear S;intro a S
  refine d_pure 13 S hsel rfl rfl (by kernel_rfl) (by kernel_rfl) rfl (fun _ => (Rm (S.tm rfl))) ?_;clear S;intro a S
  obtain ⟨b11, o10, hm12, hr13⟩ := rn_indexT (a := a) (x := .tmp 35) (y := .const (iV 3)) (ty := 0) sl_22 ((ownV_slcT enc_int hs3).mono (S.le_new (fp_sub (i := 1) (e := .own Ah 38 5 Aj.length (Aj.flatMap GItem.enc)) rfl))) (inB_get hc6).1 (inB_get hc6).2 (S.tm rfl) rfl
  refine d_pure 14 S hsel rfl rfl (by kernel_rfl) (by kernel_rfl) rfl (fun _ => hr13 _) ?_;clear S;intro a S
  clear hr13
  refine d_quiet 15 S hsel rfl (by kernel_rfl) (by kernel_rfl) (by kernel_rfl) (by kernel_rfl) rfl (fun _ hw => (rn_ld Tryz.isAgg3 (off := o10) (o := 0) (S.tm rfl) (hm12.kept hw) rfl)) ?_;clear S;intro a S
  refine d_pure 16 S hsel rfl rfl (by kernel_rfl) (by kernel_rfl) rfl (fun _ => (rn_bld bt_38 (pv := [(0, sV (nth r1 0)), (1, iV (nth r2.1 0)), (2, iV (nth r2.1 1)), (3, iV (nth r2.1 2)), (4, iV (nth r2.1 3))]) ⟨rfl, (S.tm rfl), rfl, (S.tm rfl), rfl, (S.tm rfl), rfl, (S.tm rfl), rfl, (S.tm rfl), trivial⟩ (cs := [sV (nth r1 0), iV (nth r2.1 0), iV (nth r2.1 1), iV (nth r2.1 2), iV (nth r2.1 3)]) (by kernel_rfl))) ?_;clear S;intro a S
  refine d_loud1 17 (by kernel_rfl) rfl (l_buildSlice S Tryz.underlying26 Tryz.sizeOf38 Tryz.zeroValue38 rfl rfl (pv := [(0, .agg #[sV (nth r1 0), iV (nth r2.1 0), iV (nth r2.1 1), iV (nth r2.1 2), iV (nth r2.1 3)])]) ⟨rfl, (S.tm rfl), trivial⟩ (cs := [sV (nth r1 0), iV (nth r2.1 0), iV (nth r2.1 1), iV (nth r2.1 2), iV (nth r2.1 3)]) (by kernel_rfl) rfl ?_);clear S;intro a w9 b12 hz4 hk9 S
  refine Ld (d_next (Keep.none hk9) (d_loud1 18 (by kernel_rfl) rfl ?_))
  refine l_appendT sl_26 GItem.enc_ok S (S.tm rfl) (i := 2) rfl (S.tm rfl) (j := 0) rfl (ys := [(GItem.mk (nth r1 0) (nth r2.1 0) (nth r2.1 1) (nth r2.1 2) (nth r2.1 3))]) rfl rfl rfl rfl (by have := room_lt hc7;omega) rfl ?_;clear S;intro v6 a w10 hk10 S
  refine Ld (d_next hk10 (d_loudB 19 (v6.ownBlock.toList ++ [Ao]) rfl (by kernel_rfl) rfl (l_store S (S.tm rfl) (S.tm rfl) (i := 1) (off := 0) rfl Tryz.sizeOf26 (vs := [v6]) (SlcLen.cells (own_len (S.own_at (i := 2) rfl))) rfl rfl (all1 (SlcLen.one (own_len (S.own_at (i := 2) rfl))) rfl) ?_)));clear S;intro w11 hk11 S
  refine Ld (d_nextB (d_end (by kernel_rfl) ?_))
  clear hsel
  replace S := S.nk [.blk Ao [v6] 26, .own v6 38 5 (Aj ++ [(GItem.mk (nth r1 0) (nth r2.1 0) (nth r2.1 1) (nth r2.1 2) (nth r2.1 3))]).length ((Aj ++ [(GItem.mk (nth r1 0) (nth r2.1 0) (nth r2.1 1) (nth r2.1 2) (nth r2.1 3))]).flatMap GItem.enc)] [(6, bV r2.2)] [false, true, true] rfl ⟨rfl, trivial⟩
  refine Tn (Fs (Fg (lv S (Rm (S.tm rfl)) rfl ?_)));clear S;intro a S
  refine lv S (Ra (S.tm rfl)) rfl ?_;clear S;intro a S
  refine Ld (Tn (wp_ret ?_))
  obtain rfl := Option.some.inj h
  exact f_ret S Tryz.results34 rfl ⟨v6, S.grp [0, 1] [] rfl rfl rfl, rfl⟩
theorem tumbref2_Lines_tumbref2_ItemsRead_c1_ok (w : World) (X : List Nat) (As : ByteArray) (Ab : Nat) (Ai : Value) (Ak : List GItem) (Bj : (LEnt.own Ai 38 5 Ak.length (Ak.flatMap GItem.enc)).holds w) (Bk : (LEnt.blk Ab [Ai] 26).holds w) (hg_maxlen : GlobI (view w X) 1) (hg_pow10 : Glob (view w X) 0 pow10Cells) (hXn : X.Nodup) (hXe : X = fps [.blk Ab [Ai] 26, .own Ai 38 5 Ak.length (Ak.flatMap GItem.enc)]) (r : Int × Bool × (List GItem)) (h : tumbref2_Lines_tumbref2_ItemsRead_c1 As Ak = some r) :
    Calls Tryz.prog 33 [sV As, .func (.func 34) #[] #[.pointer (some ⟨Ab, 0, none⟩)]].toArray w (Ret w X fun _ v w' => ∃ y1 : Value, Grp w w' X [.blk Ab [y1] 26, .own y1 38 5 r.2.2.length (r.2.2.flatMap GItem.enc)] ∧ v = .tuple #[iV r.1, bV r.2.1]) := by
 refine f_enter X [.blk Ab [Ai] 26, .own Ai 38 5 Ak.length (Ak.flatMap GItem.enc)] Tryz.func33 rfl Tryz.ntmps33 rfl (fun e he => by simp only [List.mem_cons, List.not_mem_nil, or_false] at he;rcases he with rfl | rfl <;> assumption) (by rw [← hXe];exact hXn) (fun b hb => by rw [hXe];exact hb) fun a S => ?_
 unfold tumbref2_Lines_tumbref2_ItemsRead_c1 at h
 replace S := S.nk [.blk Ab [Ai] 26, .own Ai 38 5 Ak.length (Ak.flatMap GItem.enc)] [(0, sV As), (1, .func (.func 34) #[] #[.pointer (some ⟨Ab, 0, none⟩)])] [true, true] rfl (subR rfl)
 refine Fs (Fg (lv S (Ra rfl) rfl ?_));clear S;intro a S
 refine lv S (Ra rfl) rfl ?_;clear S;intro a S
 refine Ld (Tn (Fs (Fs (Fg (lv S (Ra rfl) rfl ?_)))));clear S;intro a S
 refine Ld (Tn ?_)
 replace S := S.nk [.blk Ab [Ai] 26, .own Ai 38 5 Ak.length (Ak.flatMap GItem.enc)] [(0, sV As), (1, .func (.func 34) #[] #[.pointer (some ⟨Ab, 0, none⟩)]), (6, iV 0)] [true, true] rfl (subR rfl)
 obtain ⟨j1, hj1, h⟩ := joinE h
 refine f_join (fun a w' => ∃ x1 : List GItem, ∃ v1 : Value, j1 x1 = some r ∧ Sx w X nov [.blk Ab [v1] 26, .own v1 38 5 x1.length (x1.flatMap GItem.enc)] [] 30 a w') ?_ ?_
 ·refine wp_block (f_loop (fun (m1 : Nat) a w' => ∃ x1 : List GItem, ∃ x2 : ByteArray, ∃ x3 : Int, ∃ v1 : Value, tumbref2_Lines_tumbref2_ItemsRead_c1_l1 j1 m1 x1 x2 x3 = some r ∧ Sx w X nov [.blk Ab [v1] 26, .own v1 38 5 x1.length (x1.flatMap GItem.enc)] [(0, sV x2), (1, .func (.func 34) #[] #[.pointer (some ⟨Ab, 0, none⟩)]), (6, iV x3)] 30 a w') id 4611686018427387904 ⟨Ak, As, 0, Ai, h, S.nf [true, true] rfl (subR rfl)⟩ ?_)
  clear S h;rintro m1 a w1 ⟨x1, x2, x3, v1, h, S⟩
  cases m1 with
  | zero => rw [tumbref2_Lines_tumbref2_ItemsRead_c1_l1.eq_1] at h;cases h
  | succ m1 =>
   rw [tumbref2_Lines_tumbref2_ItemsRead_c1_l1.eq_2] at h
   refine Fs (Fs (Fg (lv S (Rm (S.tm rfl)) rfl ?_)));clear S;intro a S
   refine lv S (rn_sneq (S.tm rfl) rfl) rfl ?_;clear S;intro a S
   refine Ld (Tn (f_cond (S.tm rfl) (fun hb1 => ?_) (fun hb1 => ?_)))
   ·replace h := iteT h hb1
    refine wp_skip (Tn (Fs (wp_block (Fs (Fg (lv S (Rm (S.tm rfl)) rfl ?_))))));clear S;intro a S
    obtain ⟨r1, hr1, h⟩ := bindE h
    refine l_enter S (fun _ => run_call (vs := [sV x2, sV k__0a]) ⟨(S.tm rfl), rfl, trivial⟩ Tryz.call49) (strings_Cut_ok _ x2 k__0a (hg_maxlen.mono (S.le_arg nil_sub)) _ hr1) rfl ?_;clear S;intro v2 a w3 hv1 hk1 hn1 S
    subst hv1
    refine lv S (Rm (S.tm rfl)) rfl ?_;clear S;intro a S
    iterate 3 (refine lv S (rn_extract (S.tm rfl) rfl) rfl ?_;clear S;intro a S)
    iterate 3 (refine lv S (Ra (S.tm rfl)) rfl ?_;clear S;intro a S)
    refine Ld (Tn (Fs (Fs (Fg (lv S (Rm (S.tm rfl)) rfl ?_)))));clear S;intro a S
    refine lv S (rn_not (S.tm rfl)) rfl ?_;clear S;intro a S
    refine lv S (Rm (S.tm rfl)) rfl ?_;clear S;intro a S
    obtain ⟨j2, hj2, h⟩ := joinE h
    refine f_cutm 5 (fun a w' => ∃ x4 : List GItem, ∃ x5 : Bool, ∃ v3 : Value, j2 x4 x5 = some r ∧ Sx w X nov [.blk Ab [v3] 26, .own v3 38 5 x4.length (x4.flatMap GItem.enc)] [(1, .func (.func 34) #[] #[.pointer (some ⟨Ab, 0, none⟩)]), (6, iV x3), (8, sV r1.2.1), (27, bV x5)] 30 a w') ?_ ?_
    ·rcases Bool.eq_false_or_eq_true (!r1.2.2) with hb2 | hb2
     ·replace h := iteT h hb2
      iterate 4 (refine l_skip S rfl rfl rfl (neq_t hb2) rfl ?_ rfl;clear S;intro a S)
      refine lv S (rn_pick_b hb2 (S.tm rfl) rfl) rfl ?_;clear S;intro a S
      refine Ld (Tn ?_)
      exact ⟨x1, true, v1, h, S.nf [true, true] rfl (subR rfl)⟩
     ·replace h := iteF h hb2
      refine l_want S rfl rfl rfl hb2 (lv S (Rm (S.tm rfl)) rfl ?_);clear S;intro a S
      refine l_want S rfl rfl rfl hb2 (lv S (Rm (S.tm rfl)) rfl ?_);clear S;intro a S
      refine l_want S rfl rfl rfl hb2 ?_
      obtain ⟨r2, hr2, h⟩ := bindE h
      refine l_enterG [0, 1] [] (Ls := [.blk Ab [v1] 26, .own v1 38 5 x1.length (x1.flatMap GItem.enc)]) (Lr := []) (Y := [Ab] ++ v1.ownBlock.toList) S rfl rfl rfl (by simp [fps_cons, fps_nil, LEnt.fp]) (fun _ => run_callV (cap := [.pointer (some ⟨Ab, 0, none⟩)]) (S.tm rfl) (vs := [sV r1.1]) ⟨(S.tm rfl), trivial⟩ Tryz.call34) (tumbref2_ItemsRead_c1_ok _ ([Ab] ++ v1.ownBlock.toList) r1.1 Ab v1 x1 (S.holds _ (List.mem_of_getElem? (i := 1) rfl)) (S.holds _ (List.mem_of_getElem? (i := 0) rfl)) (hg_maxlen.mono (S.le_arg (app_sub (fp_sub (i := 0) (e := .blk Ab [v1] 26) rfl) (fp_sub (i := 1) (e := .own v1 38 5 x1.length (x1.flatMap GItem.enc)) rfl)))) (hg_pow10.mono (S.le_arg (app_sub (fp_sub (i := 0) (e := .blk Ab [v1] 26) rfl) (fp_sub (i := 1) (e := .own v1 38 5 x1.length (x1.flatMap GItem.enc)) rfl)))) (S.ndg [0, 1] [] rfl rfl rfl (by simp [fps_cons, fps_nil, LEnt.fp])) (by simp [fps_cons, fps_nil, LEnt.fp]) _ hr2) rfl ?_;clear S;intro v4 a w5 hv2 hk2 hn2 S
      obtain ⟨v5, hg1, hv2⟩ := hv2;replace S := S _ hg1;clear hg1
      subst hv2
      refine l_want S rfl rfl rfl hb2 (lv S (rn_not (S.tm rfl)) rfl ?_);clear S;intro a S
      refine lv S (rn_pick_c hb2 (S.tm rfl) (S.tm rfl)) rfl ?_;clear S;intro a S
      refine Ld (Tn ?_)
      exact ⟨r2.2, !r2.1, v5, h, S.nf [true, true] rfl (subR rfl)⟩
    clear S h;rintro a w4 ⟨x4, x5, v3, h, S⟩;rw [hj2] at h;clear hj2 j2
    refine Ld (Tn (f_cond (S.tm rfl) (fun hb3 => ?_) (fun hb3 => ?_)))
    ·replace h := iteT h hb3
     refine Fs (Fg (lv S (Rm (S.tm rfl)) rfl ?_));clear S;intro a S
     refine lv S (Ra (S.tm rfl)) rfl ?_;clear S;intro a S
     refine lv S (Ra rfl) rfl ?_;clear S;intro a S
     refine Ld (Tn (wp_ret (then_r (blk_r (then_r (then_r ?_))))))
     refine blk_r (then_r (then_r ?_))
     obtain rfl := Option.some.inj h
     exact f_ret2 S Tryz.results33 rfl rfl ⟨v3, S.grp [0, 1] [] rfl rfl rfl, rfl⟩
    ·replace h := iteF h hb3
     refine wp_skip (Tn (Fg (lv S (Rm (S.tm rfl)) rfl ?_)));clear S;intro a S
     refine lv S (Ra (S.tm rfl)) rfl ?_;clear S;intro a S
     refine Ld (blk_n (Tn (Fg (lv S (Rm (S.tm rfl)) rfl ?_))));clear S;intro a S
     refine lv S (rn_add (S.tm rfl) rfl) rfl ?_;clear S;intro a S
     refine lv S (Ra (S.tm rfl)) rfl ?_;clear S;intro a S
     refine Ld (Tn ?_)
     exact ⟨m1, ⟨x4, r1.2.1, W (x3 + 1), v3, h, S.nf [true, true] rfl ⟨rfl, rfl, rfl, trivial⟩⟩, Nat.lt_succ_self _⟩
   ·replace h := iteF h hb1
    refine wp_exit (then_x (then_x (x_same (Tn ?_))))
    exact ⟨x1, v1, h, S.nf [true, true] rfl trivial⟩
 clear S h;rintro a w2 ⟨x1, v1, h, S⟩;rw [hj1] at h;clear hj1 j1
 refine Tn (Fs (Fg (lv S (Ra rfl) rfl ?_)));clear S;intro a S
 refine lv S (Ra rfl) rfl ?_;clear S;intro a S
 refine Ld (Tn (wp_ret ?_))
 obtain rfl := Option.some.inj h
 exact f_ret2 S Tryz.results33 rfl rfl ⟨v1, S.grp [0, 1] [] rfl rfl rfl, rfl⟩
theorem tumbref2_ItemsRead_ok (w : World) (As : ByteArray) (hg_maxlen : GlobI (view w []) 1) (hg_pow10 : Glob (view w []) 0 pow10Cells) (r : (List GItem) × Int × Int) (h : tumbref2_ItemsRead As = some r) :
    Calls Tryz.prog 10 [sV As].toArray w (Ret w [] fun τ v _ => ∃ u1 : Value, v = .tuple #[u1, iV r.2.1, iV r.2.2] ∧ OwnV τ 38 5 u1 r.1.length (r.1.flatMap GItem.enc)) := by
 refine f_enter [] [] Tryz.func10 rfl Tryz.ntmps10 rfl (by simp) (by simp [fps]) (by simp [fps]) fun a S => ?_
 unfold tumbref2_ItemsRead at h
 replace S := S.nk [] [(0, sV As)] [] rfl ⟨rfl, trivial⟩
 refine Fs (Fg (lv S (Ra rfl) rfl ?_));clear S;intro a S
 refine lv S (Ra rfl) rfl ?_;clear S;intro a S
 refine lv S (Ra rfl) rfl ?_;clear S;intro a S
 refine Ld (Tn (Fs (Fs (Fg (lv S (Rm (S.tm rfl)) rfl ?_)))));clear S;intro a S
 refine lv S (rn_len_str Tryz.underlying9 (S.tm rfl)) rfl ?_;clear S;intro a S
 refine lv S (rn_gtr (S.tm rfl) rfl) rfl ?_;clear S;intro a S
 refine Ld (Tn (f_cond (S.tm rfl) (fun hb1 => ?_) (fun hb1 => ?_)))
 ·replace h := iteT h hb1
  refine Fs (Fg (lv S (Ra rfl) rfl ?_));clear S;intro a S
  refine lv S (Ra rfl) rfl ?_;clear S;intro a S
  refine lv S (Ra rfl) rfl ?_;clear S;intro a S
  refine Ld (Tn (wp_ret (then_r ?_)))
  obtain rfl := Option.some.inj h
  exact f_ret3 S Tryz.results10 rfl rfl rfl ⟨_, rfl, (ownV_nil _ _ _)⟩
 ·replace h := iteF h hb1
  refine wp_skip (Tn (Fs (Fg (l_alloc S Tryz.zeroValue26 (cs := [.slice none 0 0]) rfl rfl ?_))));clear S;intro a w1 b1 hz1 hk1 S
  refine Ld (Tn (Fs (Fg (lv S (Rm (S.tm rfl)) rfl ?_))));clear S;intro a S
  refine lv S (rn_makeFunc (us := #[]) (xs := [].toArray) (ys := [.tmp 5].toArray) (by simp) (evA ⟨(S.tm rfl), trivial⟩ (vs := [.pointer (some ⟨b1, 0, none⟩)]))) rfl ?_;clear S;intro a S
  replace S := S.nil 38 5
  obtain ⟨r1, hr1, h⟩ := bindE h
  refine l_enterG [1, 0] [] (Ls := [.blk b1 [(.slice none 0 0)] 26, .own (.slice none 0 0) 38 5 ([] : List GItem).length (([] : List GItem).flatMap GItem.enc)]) (Lr := []) (Y := [b1] ++ (Value.ownBlock (.slice none 0 0)).toList) S rfl rfl rfl (by simp [fps_cons, fps_nil, LEnt.fp]) (fun _ => run_call (vs := [sV As, .func (.func 34) #[] #[.pointer (some ⟨b1, 0, none⟩)]]) ⟨(S.tm rfl), (S.tm rfl), trivial⟩ Tryz.call33) (tumbref2_Lines_tumbref2_ItemsRead_c1_ok _ ([b1] ++ (Value.ownBlock (.slice none 0 0)).toList) As b1 (.slice none 0 0) ([] : List GItem) (S.holds _ (List.mem_of_getElem? (i := 0) rfl)) (S.holds _ (List.mem_of_getElem? (i := 1) rfl)) (hg_maxlen.mono (S.le_arg (app_sub (fp_sub (i := 1) (e := .blk b1 [(.slice none 0 0)] 26) rfl) (fp_sub (i := 0) (e := .own (.slice none 0 0) 38 5 ([] : List GItem).length (([] : List GItem).flatMap GItem.enc)) rfl)))) (hg_pow10.mono (S.le_arg (app_sub (fp_sub (i := 1) (e := .blk b1 [(.slice none 0 0)] 26) rfl) (fp_sub (i := 0) (e := .own (.slice none 0 0) 38 5 ([] : List GItem).length (([] : List GItem).flatMap GItem.enc)) rfl)))) (S.ndg [1, 0] [] rfl rfl rfl (by simp [fps_cons, fps_nil, LEnt.fp])) (by simp [fps_cons, fps_nil, LEnt.fp]) _ hr1) rfl ?_;clear S;intro v1 a w2 hv1 hk2 hn1 S
  obtain ⟨v2, hg1, hv1⟩ := hv1;replace S := S _ hg1;clear hg1
  subst hv1
  refine lv S (Rm (S.tm rfl)) rfl ?_;clear S;intro a S
  refine lv S (rn_extract (S.tm rfl) rfl) rfl ?_;clear S;intro a S
  refine lv S (rn_extract (S.tm rfl) rfl) rfl ?_;clear S;intro a S
  refine lv S (Ra (S.tm rfl)) rfl ?_;clear S;intro a S
  refine lv S (Ra (S.tm rfl)) rfl ?_;clear S;intro a S
  refine Ld ?_
  replace S := S.nk [.blk b1 [v2] 26, .own v2 38 5 r1.2.2.length (r1.2.2.flatMap GItem.enc)] [(5, .pointer (some ⟨b1, 0, none⟩)), (6, iV r1.1), (7, bV r1.2.1)] [true, true] rfl (subR rfl)
  refine Tn (Fs (Fs (Fg (lv S (Rm (S.tm rfl)) rfl ?_))));clear S;intro a S
  refine lv S (rn_not (S.tm rfl)) rfl ?_;clear S;intro a S
  refine Ld (Tn (f_cond (S.tm rfl) (fun hb2 => ?_) (fun hb2 => ?_)))
  ·replace h := iteT h hb2
   refine Fs (Fg (lv S (Rm (S.tm rfl)) rfl ?_));clear S;intro a S
   refine lv S (Ra rfl) rfl ?_;clear S;intro a S
   refine lv S (Ra (S.tm rfl)) rfl ?_;clear S;intro a S
   refine lv S (Ra rfl) rfl ?_;clear S;intro a S
   refine Ld (Tn (wp_ret (then_r ?_)))
   obtain rfl := Option.some.inj h
   exact f_ret3 S Tryz.results10 rfl rfl rfl ⟨_, rfl, (ownV_nil _ _ _)⟩
  ·replace h := iteF h hb2
   refine wp_skip (Tn (Fs (Fs (Fg (lv S (rn_load Tryz.isAgg26 (S.tm rfl) (S.cell (i := 0) rfl rfl)) rfl ?_)))));clear S;intro a S
   obtain ⟨r2, hr2, h⟩ := bindE h
   refine l_enter S (fun _ => run_call (vs := [v2]) ⟨(S.tm rfl), trivial⟩ Tryz.call7) (tumbref2_ItemsFault_ok _ v2 r1.2.2 (own_slcT GItem.enc_ok S (i := 1) rfl (ne_nil (e' := .own v2 38 5 r1.2.2.length (r1.2.2.flatMap GItem.enc)))) _ hr2) rfl ?_;clear S;intro v3 a w3 hv2 hk3 hn2 S
   subst hv2
   refine lv S (Ra (S.tm rfl)) rfl ?_;clear S;intro a S
   refine Ld (Tn (Fs (Fg (lv S (Rm (S.tm rfl)) rfl ?_))));clear S;intro a S
   refine lv S (rn_neq (S.tm rfl) rfl) rfl ?_;clear S;intro a S
   refine Ld (Tn (f_cond (S.tm rfl) (fun hb3 => ?_) (fun hb3 => ?_)))
   ·replace h := iteT h hb3
    refine Fs (Fg (lv S (Rm (S.tm rfl)) rfl ?_));clear S;intro a S
    refine lv S (Ra rfl) rfl ?_;clear S;intro a S
    refine lv S (Ra rfl) rfl ?_;clear S;intro a S
    refine lv S (Ra (S.tm rfl)) rfl ?_;clear S;intro a S
    refine Ld (Tn (wp_ret (then_r ?_)))
    obtain rfl := Option.some.inj h
    exact f_ret3 S Tryz.results10 rfl rfl rfl ⟨_, rfl, (ownV_nil _ _ _)⟩
   ·replace h := iteF h hb3
    refine wp_skip (Tn (Fs (Fg (lv S (rn_load Tryz.isAgg26 (S.tm rfl) (S.cell (i := 0) rfl rfl)) rfl ?_))));clear S;intro a S
    refine lv S (Ra (S.tm rfl)) rfl ?_;clear S;intro a S
    refine lv S (Ra rfl) rfl ?_;clear S;intro a S
    refine lv S (Ra rfl) rfl ?_;clear S;intro a S
    refine Ld (Tn (wp_ret ?_))
    obtain rfl := Option.some.inj h
    exact f_ret3 S Tryz.results10 rfl rfl rfl ⟨_, rfl, (own_retT S (i := 1) rfl rfl)⟩
set_option maxRecDepth 20000 in
theorem slices_Equal_Item_ok (w : World) (Ba : Value) (Bc : List GItem) (Bg : Slc (view w []) 5 Ba (Bc.map GItem.enc)) (Bb : Value) (Bi : List GItem) (Bm : Slc (view w []) 5 Bb (Bi.map GItem.enc)) (r : Bool) (h : slices_Equal_Item Bc Bi = some r) :
    Calls Tryz.prog 11 [Ba, Bb].toArray w (Ret w [] fun _ v _ => v = bV r) := by
 refine f_enter [] [] Tryz.func11 rfl Tryz.ntmps11 rfl (by simp) (by simp [fps]) (by simp [fps]) fun a S => ?_
 unfold slices_Equal_Item at h
 replace S := S.nk [] [(0, Ba), (1, Bb)] [] rfl (subR rfl)
 refine Fs (Fg (lv S (Ra rfl) rfl ?_));clear S;intro a S
 refine Ld (Tn (Fs (Fs (Fg (lv S (Rm (S.tm rfl)) rfl ?_)))));clear S;intro a S
 refine lv S (rn_lenT sl_26 (S.tm rfl) (slc_len Bg)) rfl ?_;clear S;intro a S
 refine lv S (Rm (S.tm rfl)) rfl ?_;clear S;intro a S
 refine lv S (rn_lenT sl_26 (S.tm rfl) (slc_len Bm)) rfl ?_;clear S;intro a S
 refine lv S (rn_neq (S.tm rfl) (S.tm rfl)) rfl ?_;clear S;intro a S
 refine Ld (Tn (f_cond (S.tm rfl) (fun hb1 => ?_) (fun hb1 => ?_)))
 ·replace h := iteT h hb1
  refine Fs (Fg (lv S (Ra rfl) rfl ?_));clear S;intro a S
  refine Ld (Tn (wp_ret (then_r ?_)))
  obtain rfl := Option.some.inj h
  exact f_ret S Tryz.results11 rfl rfl
 ·replace h := iteF h hb1
  refine wp_skip (Tn (Fs (Fs (Fg (lv S (Rm (S.tm rfl)) rfl ?_)))));clear S;intro a S
  refine lv S (rn_lenT sl_26 (S.tm rfl) (slc_len Bg)) rfl ?_;clear S;intro a S
  refine lv S (Rm rfl) rfl ?_;clear S;intro a S
  refine Ld (Tn ?_)
  replace S := S.nk [] [(0, Ba), (1, Bb), (12, iV (Bc.length : Int)), (13, iV 0)] [] rfl (subR rfl)
  obtain ⟨j1, hj1, h⟩ := joinE h
  refine f_join (fun a w' => j1 = some r ∧ Sx w [] nov [] [] 26 a w') ?_ ?_
  ·refine wp_block (f_loop (fun (ys1 : List GItem) a w' => ∃ i1 : Nat, (∃ dn, Bc = dn ++ ys1 ∧ dn.length = i1) ∧ slices_Equal_Item_l1 Bi j1 ys1 i1 = some r ∧ Sx w [] nov [] [(0, Ba), (1, Bb), (12, iV (Bc.length : Int)), (13, iV (i1 : Int))] 26 a w') List.length Bc ⟨0, ⟨[], rfl, rfl⟩, h, S.nf [] rfl (subR rfl)⟩ ?_)
   clear S h;rintro ys1 a w1 ⟨i1, ⟨dn, hd1, hi1⟩, h, S⟩
   cases ys1 with
   | nil =>
    rw [slices_Equal_Item_l1.eq_1] at h
    refine Fs (Fg (lv S (rn_lss (S.tm rfl) (S.tm rfl)) rfl ?_));clear S;intro a S
    refine Ld ?_
    replace S := S.nk [] [(0, Ba), (1, Bb), (12, iV (Bc.length : Int)), (13, iV (i1 : Int)), (14, bV (decide ((i1 : Int) < (Bc.length : Int))))] [] rfl (subR rfl)
    refine Tn (Fs (wp_cond_false ((S.tm rfl).trans (congrArg Value.bool (rng_nil hd1 hi1))) (wp_exit (then_x (then_x (x_same ?_))))))
    refine Tn ?_
    exact ⟨h, S.nf [] rfl trivial⟩
   | cons y1 ys1 =>
    rw [slices_Equal_Item_l1.eq_2] at h
    refine Fs (Fg (lv S (rn_lss (S.tm rfl) (S.tm rfl)) rfl ?_));clear S;intro a S
    refine Ld ?_
    replace S := S.nk [] [(0, Ba), (1, Bb), (12, iV (Bc.length : Int)), (13, iV (i1 : Int)), (14, bV (decide ((i1 : Int) < (Bc.length : Int))))] [] rfl (subR rfl)
    refine Tn (Fs (wp_cond_true ((S.tm rfl).trans (congrArg Value.bool (rng_cons hd1 hi1))) (wp_skip (Tn (Fs (wp_block ?_))))))
    refine Fs (Fg (lv S (Rm (S.tm rfl)) rfl ?_));clear S;intro a S
    refine lv S (Ra (S.tm rfl)) rfl ?_;clear S;intro a S
    refine Ld (Tn (Fs (d_region [] ([]) Tryz.mixed S rfl (by kernel_rfl) ?_)));clear S;intro w3 hk1 hsel S
    refine d_rest [0, 1, 2, 3, 4, 5, 6, 7, 8] hsel (by kernel_rfl) rfl ?_
    clear hsel
    refine s_lv S rfl (Rm (S.tm rfl)) rfl ?_;clear S;intro a S
    refine s_lv S rfl (Rm (S.tm rfl)) rfl ?_;clear S;intro a S
    obtain ⟨b1, o1, hm1, hr1⟩ := rn_indexT (a := a) (x := .tmp 16) (y := .tmp 17) (ty := 0) sl_26 Bg (get_mid hd1 hi1) rfl (S.tm rfl) (S.tm rfl)
    refine s_lv S rfl (hr1 _) rfl ?_;clear S;intro a S
    clear hr1
    refine s_lv S rfl (rn_ldA Tryz.isAgg38 Tryz.sizeOf38 (off := o1) (o := 0) (part := (GItem.enc y1)) rfl rfl (S.tm rfl) (hm1.at S.emb0)) rfl ?_;clear S;intro a S
    refine s_lv S rfl (Rm (S.tm rfl)) rfl ?_;clear S;intro a S
    refine s_lv S rfl (Rm (S.tm rfl)) rfl ?_;clear S;intro a S
    obtain ⟨hc1, h⟩ := chkE h
    obtain ⟨b2, o2, hm2, hr2⟩ := rn_indexT (a := a) (x := .tmp 20) (y := .tmp 21) (ty := 0) sl_26 Bm (inB_get hc1).1 (inB_get hc1).2 (S.tm rfl) (S.tm rfl)
    refine s_lv S rfl (hr2 _) rfl ?_;clear S;intro a S
    clear hr2
    refine s_lv S rfl (rn_ldA Tryz.isAgg38 Tryz.sizeOf38 (off := o2) (o := 0) (part := (GItem.enc (nth Bi (i1 : Int)))) rfl rfl (S.tm rfl) (hm2.at S.emb0)) rfl ?_;clear S;intro a S
    refine s_lv S rfl (rn_neq_38 (m := y1) (n := (nth Bi (i1 : Int))) (S.tm rfl) (S.tm rfl)) rfl ?_;clear S;intro a S
    refine s_done ?_
    replace S := S.nk [] [(0, Ba), (1, Bb), (12, iV (Bc.length : Int)), (13, iV (i1 : Int)), (24, bV (!decide (y1 = (nth Bi (i1 : Int)))))] [] rfl (subR rfl)
    refine Tn (f_cond (S.tm rfl) (fun hb2 => ?_) (fun hb2 => ?_))
    ·replace h := iteT h hb2
     refine Fs (Fg (lv S (Ra rfl) rfl ?_));clear S;intro a S
     refine Ld (Tn (wp_ret (blk_r (then_r (then_r (blk_r ?_))))))
     refine then_r (then_r ?_)
     obtain rfl := Option.some.inj h
     exact f_ret S Tryz.results11 rfl rfl
    ·replace h := iteF h hb2
     refine wp_skip (blk_n (Tn (Fg (lv S (rn_add (S.tm rfl) rfl) rfl ?_))));clear S;intro a S
     refine lv S (Rm (S.tm rfl)) rfl ?_;clear S;intro a S
     refine Ld (Tn ?_)
     exact ⟨ys1, ⟨i1 + 1, ⟨_, (hd1).trans (List.append_cons _ _ _), by simp [hi1]⟩, h, S.nf [] rfl ⟨rfl, rfl, rfl, (congrArg (fun z => some (Value.int .i64 z)) (rng_next hd1 hi1 (slc_max Bg))), trivial⟩⟩, Nat.lt_succ_self _⟩
  clear S h;rintro a w2 ⟨h, S⟩;rw [hj1] at h;clear hj1 j1
  refine Tn (Fs (Fg (lv S (Ra rfl) rfl ?_)));clear S;intro a S
  refine Ld (Tn (wp_ret ?_))
  obtain rfl := Option.some.inj h
  exact f_ret S Tryz.results11 rfl rfl
theorem words_IsMoment_ok (w : World) (Ar : Int) (r : Bool) (h : words_IsMoment Ar = r) :
    Calls Tryz.prog 90 [iV Ar].toArray w (Ret w [] fun _ v _ => v = bV r) := by
 refine f_enter [] [] Tryz.func90 rfl Tryz.ntmps90 rfl (by simp) (by simp [fps]) (by simp [fps]) fun a S => ?_
 unfold words_IsMoment at h
 replace S := S.nk [] [(0, iV Ar)] [] rfl ⟨rfl, trivial⟩
 refine Fs (Fg (lv S (Ra rfl) rfl ?_));clear S;intro a S
 refine Ld (Tn (Fs (Fg (lv S (Rm (S.tm rfl)) rfl ?_))));clear S;intro a S
 refine lv S (rn_geq (S.tm rfl) rfl) rfl ?_;clear S;intro a S
 refine lv S (Rm (S.tm rfl)) rfl ?_;clear S;intro a S
 refine f_cutm 3 (fun a w' => Keep [] w w' ∧ Sx w [] nov [] [(8, bV ((decide (0 ≤ Ar)) && (decide (Ar < 345686400000))))] 9 a w') ?_ ?_
 ·rcases Bool.eq_false_or_eq_true (decide (0 ≤ Ar)) with hb1 | hb1
  ·refine l_want S rfl rfl rfl hb1 (lv S (Rm (S.tm rfl)) rfl ?_);clear S;intro a S
   refine l_want S rfl rfl rfl hb1 (lv S (rn_lss (S.tm rfl) rfl) rfl ?_);clear S;intro a S
   refine lv S (rn_and_t hb1 (S.tm rfl) (S.tm rfl)) rfl ?_;clear S;intro a S
   refine Ld (Tn ?_)
   exact ⟨Keep.refl _ _, S.nf [] rfl ⟨rfl, trivial⟩⟩
  ·refine l_skip S rfl rfl rfl (neq_f hb1) rfl ?_ rfl;clear S;intro a S
   refine l_skip S rfl rfl rfl (neq_f hb1) rfl ?_ rfl;clear S;intro a S
   refine lv S (rn_and_f (decide (Ar < 345686400000)) hb1 (S.tm rfl) rfl) rfl ?_;clear S;intro a S
   refine Ld (Tn ?_)
   exact ⟨Keep.refl _ _, S.nf [] rfl ⟨rfl, trivial⟩⟩
 clear S;rintro a w1 ⟨hk1, S⟩
 refine lv S (Ra (S.tm rfl)) rfl ?_;clear S;intro a S
 refine Ld (Tn (wp_ret ?_))
 subst h
 exact f_ret S Tryz.results90 rfl rfl
end Go.Proofs.YtmaoleaghiilcaaGreatDoor
